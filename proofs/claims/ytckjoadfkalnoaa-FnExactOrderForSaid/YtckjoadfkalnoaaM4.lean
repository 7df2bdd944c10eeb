/- Plain facts on ranking by insertion: the sort of the library and the reference; no program stands here. Conditions: those that each lemma names. -/
import Derived.Test.YtckjoadfkalnoaaM3
import Derived.Sort.Defs
set_option linter.unusedVariables false
namespace Go.Proofs.Ytckjoadfkalnoaa.M
open Go.RowKit Go.Proofs.YtckjoadfkalnoaaW.PrintWords Go.Proofs.YtckjoadfkalnoaaW.PrintLast Go.Proofs.YtckjoadfkalnoaaW.PrintMore

/-! ### numbers by their values, from the greatest down -/
section
variable {α : Type}
/-- A number goes ahead of the first that is less by its key. -/
def insK (key : α → Int) (x : α) : List α → List α
  | [] => [x]
  | y :: s => if key y < key x then x :: y :: s else y :: insK key x s
/-- What a number moves left past, from the right (the list is turned round). -/
def insR (key : α → Int) (x : α) : List α → List α
  | [] => [x]
  | y :: s => if key y < key x then y :: insR key x s else x :: y :: s
def Down (key : α → Int) (l : List α) : Prop := l.Pairwise fun z y => key y ≤ key z
theorem insK_less (key : α → Int) (x y : α) (h : key y < key x) : ∀ A : List α, insK key x (A ++ [y]) = insK key x A ++ [y]
  | [] => by simp [insK, h]
  | z :: A => by
    simp only [List.cons_append, insK]
    split
    · rfl
    · rw [insK_less key x y h A]; rfl
theorem insK_more (key : α → Int) (x : α) : ∀ A : List α, (∀ z ∈ A, key x ≤ key z) → insK key x A = A ++ [x]
  | [], _ => rfl
  | z :: A, h => by
    have := h z (by simp)
    rw [insK, if_neg (by omega), insK_more key x A (fun w hw => h w (by simp [hw]))]; rfl
theorem insR_insK (key : α → Int) (x : α) : ∀ R : List α, Down key R.reverse → (insR key x R).reverse = insK key x R.reverse
  | [], _ => rfl
  | y :: s, h => by
    rw [List.reverse_cons] at h ⊢
    have h1 : Down key s.reverse := (List.pairwise_append.1 h).1
    have h2 := (List.pairwise_append.1 h).2.2
    rw [insR]
    by_cases c : key y < key x
    · rw [if_pos c, List.reverse_cons, insR_insK key x s h1, insK_less key x y c]
    · rw [if_neg c, List.reverse_cons, List.reverse_cons, insK_more key x (s.reverse ++ [y])]
      intro z hz
      rcases List.mem_append.1 hz with hz | hz
      · have := h2 z hz y (by simp); omega
      · rw [List.mem_singleton.1 hz]; omega
theorem insK_mem (key : α → Int) (x : α) : ∀ (l : List α) (z : α), z ∈ insK key x l → z = x ∨ z ∈ l
  | [], z, h => by simpa [insK] using h
  | y :: s, z, h => by
    rw [insK] at h
    split at h
    · simpa using h
    · rw [List.mem_cons] at h
      rcases h with h | h
      · exact .inr (by simp [h])
      · rcases insK_mem key x s z h with h | h
        · exact .inl h
        · exact .inr (by simp [h])
theorem insK_down (key : α → Int) (x : α) : ∀ l : List α, Down key l → Down key (insK key x l)
  | [], _ => by simp [insK, Down]
  | y :: s, h => by
    have hp := List.pairwise_cons.1 h
    rw [insK]
    split
    · rename_i c
      refine List.pairwise_cons.2 ⟨fun z hz => ?_, h⟩
      rcases List.mem_cons.1 hz with hz | hz
      · rw [hz]; omega
      · have := hp.1 z hz; omega
    · rename_i c
      refine List.pairwise_cons.2 ⟨fun z hz => ?_, insK_down key x s hp.2⟩
      rcases insK_mem key x s z hz with hz | hz
      · rw [hz]; omega
      · exact hp.1 z hz
def rankK (key : α → Int) (Q P : List α) : List α := Q.foldl (fun acc x => insK key x acc) P
theorem insK_map {β : Type} (f : α → β) (key : α → Int) (key' : β → Int) (h : ∀ x, key' (f x) = key x) (x : α) : ∀ l : List α, (insK key x l).map f = insK key' (f x) (l.map f)
  | [] => rfl
  | y :: s => by
    rw [insK, List.map_cons, insK, h, h]
    split
    · rfl
    · rw [List.map_cons, insK_map f key key' h x s]
theorem rankK_map {β : Type} (f : α → β) (key : α → Int) (key' : β → Int) (h : ∀ x, key' (f x) = key x) : ∀ (Q P : List α), (rankK key Q P).map f = rankK key' (Q.map f) (P.map f)
  | [], P => rfl
  | x :: Q, P => by
    have := rankK_map f key key' h Q (insK key x P)
    rw [insK_map f key key' h] at this
    exact this
theorem insK_length (key : α → Int) (x : α) : ∀ l : List α, (insK key x l).length = l.length + 1
  | [] => rfl
  | y :: s => by
    rw [insK]
    split
    · rfl
    · rw [List.length_cons, insK_length key x s, List.length_cons]
theorem rankK_length (key : α → Int) : ∀ (Q P : List α), (rankK key Q P).length = P.length + Q.length
  | [], P => rfl
  | x :: Q, P => by
    have := rankK_length key Q (insK key x P)
    rw [insK_length] at this
    rw [List.length_cons]
    have e : rankK key (x :: Q) P = rankK key Q (insK key x P) := rfl
    rw [e, this]; omega
theorem rankK_mem (key : α → Int) : ∀ (Q P : List α) (z : α), z ∈ rankK key Q P → z ∈ Q ∨ z ∈ P
  | [], P, z, h => .inr h
  | x :: Q, P, z, h => by
    rcases rankK_mem key Q (insK key x P) z h with h | h
    · exact .inl (by simp [h])
    · rcases insK_mem key x P z h with h | h
      · exact .inl (by simp [h])
      · exact .inr h
/-- The numbers from 0 on, ranked by their values. -/
def nums (n : Nat) : List Int := (List.range n).map fun (i : Nat) => (i : Int)
def rank (v : List Int) : List Int := rankK (fun i => rd v i) (nums v.length) []
variable [Inhabited α]
theorem getElem!_toArray (l : List α) (i : Nat) : l.toArray[i]! = l.getD i default := by
  simp [getElem!_def, List.getD_eq_getElem?_getD]
  cases l[i]? <;> rfl
theorem swp_at (P : List α) (y x : α) (Q : List α) : Go.Sort.swp (P ++ y :: x :: Q).toArray (P.length + 1) P.length = (P ++ x :: y :: Q).toArray := by
  unfold Go.Sort.swp
  rw [getElem!_toArray, getElem!_toArray]
  apply Array.ext'
  simp [List.getD_eq_getElem?_getD]
theorem insInner_at (key : α → Int) (lt : α → α → Bool) (hlt : ∀ x y, lt x y = decide (key y < key x)) : ∀ (R : List α) (x : α) (Q : List α), Go.Sort.insInner lt 0 R.length (R.reverse ++ x :: Q).toArray = ((insR key x R).reverse ++ Q).toArray
  | [], x, Q => rfl
  | y :: s, x, Q => by
    have e : (y :: s).reverse ++ x :: Q = s.reverse ++ y :: x :: Q := by simp
    have hl : s.reverse.length = s.length := List.length_reverse
    rw [e, List.length_cons, Go.Sort.insInner, getElem!_toArray, getElem!_toArray]
    have e1 : (s.reverse ++ y :: x :: Q).getD (s.length + 1) default = x := by simp [List.getD_eq_getElem?_getD]
    have e2 : (s.reverse ++ y :: x :: Q).getD s.length default = y := by simp [List.getD_eq_getElem?_getD]
    rw [e1, e2, hlt, insR]
    have sw := swp_at s.reverse y x Q
    rw [hl] at sw
    by_cases c : key y < key x
    · rw [if_pos (by simp [c]), if_pos c, sw, insInner_at key lt hlt s x (y :: Q)]
      simp
    · rw [if_neg (by simp [c]), if_neg c]
      simp
theorem insOuter_at (key : α → Int) (lt : α → α → Bool) (hlt : ∀ x y, lt x y = decide (key y < key x)) : ∀ (Q P : List α) (n : Nat), n = P.length + Q.length → Down key P → Go.Sort.insOuter lt 0 n P.length (P ++ Q).toArray = (rankK key Q P).toArray
  | [], P, n, hn, _ => by
    rw [Go.Sort.insOuter, if_neg (by simp at hn; omega)]
    simp [rankK]
  | x :: Q, P, n, hn, hd => by
    rw [List.length_cons] at hn
    have h1 := insInner_at key lt hlt P.reverse x Q
    rw [List.length_reverse, List.reverse_reverse, insR_insK key x P.reverse (by rw [List.reverse_reverse]; exact hd), List.reverse_reverse] at h1
    have hl : (insK key x P).length = P.length + 1 := by
      have := congrArg List.length (insR_insK key x P.reverse (by rw [List.reverse_reverse]; exact hd))
      rw [List.reverse_reverse, List.length_reverse] at this
      rw [← this]
      clear this h1 hd hn
      generalize hR : P.reverse = R
      have : P.length = R.length := by rw [← hR, List.length_reverse]
      rw [this]
      clear this hR
      induction R with
      | nil => rfl
      | cons y s ih =>
        rw [insR]
        split
        · rw [List.length_cons, ih, List.length_cons]
        · rfl
    rw [Go.Sort.insOuter, if_pos (by omega), h1, ← hl, insOuter_at key lt hlt Q (insK key x P) n (by omega) (insK_down key x P hd)]
    rfl
theorem insertionSort_rank (key : α → Int) (lt : α → α → Bool) (hlt : ∀ x y, lt x y = decide (key y < key x)) (l : List α) : Go.Sort.insertionSort lt l.toArray 0 l.length = (rankK key l []).toArray := by
  cases l with
  | nil =>
    unfold Go.Sort.insertionSort
    rw [Go.Sort.insOuter, if_neg (by simp)]; rfl
  | cons x Q =>
    have := insOuter_at key lt hlt Q [x] (x :: Q).length (by simp; omega) (by simp [Down])
    exact this
end
theorem rank_fin (v : List Int) (lt : Fin v.length → Fin v.length → Bool) [Inhabited (Fin v.length)] (hlt : ∀ x y, lt x y = decide (rd v ((y : Nat) : Int) < rd v ((x : Nat) : Int))) : (Go.Sort.insertionSort lt (List.finRange v.length).toArray 0 v.length).toList.map (fun (x : Fin v.length) => ((x : Nat) : Int)) = rank v := by
  have h := insertionSort_rank (fun x : Fin v.length => rd v ((x : Nat) : Int)) lt hlt (List.finRange v.length)
  rw [List.length_finRange] at h
  rw [h, List.toList_toArray, rankK_map (fun x : Fin v.length => ((x : Nat) : Int)) _ (fun i => rd v i) (fun _ => rfl)]
  unfold rank nums
  congr 1
  apply List.ext_getElem
  · simp
  · intro i h1 h2
    simp
theorem nums_length (n : Nat) : (nums n).length = n := by unfold nums; simp
theorem nums_succ (n : Nat) : nums (n + 1) = nums n ++ [(n : Int)] := by unfold nums; rw [List.range_succ, List.map_append]; rfl
theorem rank_length (v : List Int) : (rank v).length = v.length := by unfold rank; rw [rankK_length, nums_length, List.length_nil, Nat.zero_add]
theorem finRange_nums (n : Nat) : (List.finRange n).map (fun (x : Fin n) => ((x : Nat) : Int)) = nums n := by
  unfold nums
  apply List.ext_getElem
  · simp
  · intro i h1 h2
    simp
/-- A good family. -/
def fam (a b : Int) : Bool := (decide (0 ≤ a) && decide (a ≤ 1000)) && (decide (1 ≤ b) && decide (b ≤ 9))
def fams {α : Type} (f g : α → Int) (l : List α) : Bool := decide (l.length ≤ 6) && l.all fun x => fam (f x) (g x)
end Go.Proofs.Ytckjoadfkalnoaa.M
