/- Plain facts for sums of fractions, counts, offers; no program stands here. Conditions: those that each lemma names. -/
import Derived.Test.YtdgpplnfkifkgaaM2
set_option linter.unusedVariables false
namespace Go.Proofs.Ytdgpplnfkifkgaa.M
open Go.RowKit Go.Proofs.YtdgpplnfkifkgaaW.PrintWords Go.Proofs.YtdgpplnfkifkgaaW.PrintLast Go.Proofs.YtdgpplnfkifkgaaW.PrintMore

/-! ### sums of fractions -/
def sumF {α : Type} (n d : α → Int) : Int → Int → List α → Int × Int × Bool
  | a, b, [] => (a, b, true)
  | a, b, x :: s => if (addF a b (n x) (d x)).2.2 = true then sumF n d (addF a b (n x) (d x)).1 (addF a b (n x) (d x)).2.1 s else (0, 0, false)
theorem addF_bad {a b c d : Int} (h : good c d = false) : addF a b c d = (0, 0, false) := by
  unfold addF
  rw [h, Bool.and_false, if_neg (by simp)]
theorem sumF_bad {α : Type} (n d : α → Int) : ∀ (l : List α) (a b : Int), (l.all fun x => good (n x) (d x)) = false → sumF n d a b l = (0, 0, false)
  | [], _, _, h => by simp at h
  | x :: s, a, b, h => by
    rw [sumF]
    by_cases c : good (n x) (d x) = true
    · rw [List.all_cons, c, Bool.true_and] at h
      split
      · exact sumF_bad n d s _ _ h
      · rfl
    · rw [Bool.not_eq_true] at c
      rw [addF_bad c, if_neg (by simp)]
/-! ### counts of a flow -/
def counts (f c : List Int) : Bool := flow f && (decide (c.length = f.length) && (inAll c 1 40 && decide (sumZ c ≤ 40)))
theorem counts_iff {f c : List Int} : counts f c = true ↔ flow f = true ∧ c.length = f.length ∧ inAll c 1 40 = true ∧ sumZ c ≤ 40 := by unfold counts; simp
theorem rd_in {l : List Int} {a b k : Int} (h : inAll l a b = true) (h0 : 0 ≤ k) (h1 : k < (l.length : Int)) : a ≤ rd l k ∧ rd l k ≤ b := by
  have hk : k.toNat < l.length := by omega
  have e : rd l k = l[k.toNat] := by unfold rd; simp [hk]
  rw [e]
  exact inAll_iff.1 h _ (List.getElem_mem hk)
theorem next_mul {c : Int} (h : 1 ≤ c ∧ c ≤ 40) : 2 ≤ c * (c + 1) ∧ c * (c + 1) ≤ 1640 := by
  have h1 := Int.mul_le_mul (show (1 : Int) ≤ c by omega) (show (2 : Int) ≤ c + 1 by omega) (by omega) (by omega)
  have h2 := Int.mul_le_mul (show c ≤ 40 by omega) (show c + 1 ≤ (41 : Int) by omega) (by omega) (by omega)
  omega
theorem prev_mul {c : Int} (h : 2 ≤ c ∧ c ≤ 40) : 2 ≤ c * (c - 1) ∧ c * (c - 1) ≤ 1640 := by
  have h1 := Int.mul_le_mul (show (2 : Int) ≤ c by omega) (show (1 : Int) ≤ c - 1 by omega) (by omega) (by omega)
  have h2 := Int.mul_le_mul (show c ≤ 40 by omega) (show c - 1 ≤ (39 : Int) by omega) (by omega) (by omega)
  omega
/-! ### offers -/
def offOk (l : List Int) : Bool := decide (l.length ≤ 6) && inAll l (-1000) 1000
theorem offOk_iff {l : List Int} : offOk l = true ↔ l.length ≤ 6 ∧ inAll l (-1000) 1000 = true := by unfold offOk; simp
def offersOk {α : Type} (g : α → List Int) (l : List α) : Bool := decide (l.length ≤ 12) && l.all fun x => offOk (g x)
theorem offersOk_iff {α : Type} {g : α → List Int} {l : List α} : offersOk g l = true ↔ l.length ≤ 12 ∧ ∀ x ∈ l, offOk (g x) = true := by unfold offersOk; simp
def gainAt (l : List Int) (n : Int) : Int := if n = 0 then 0 else rd l (n - 1)
def valueS {α : Type} (g : α → List Int) : List α → List Int → Int → Int × Bool
  | o :: os, c :: cs, s => if 0 ≤ c ∧ c ≤ ((g o).length : Int) then valueS g os cs (wrap64 (s + gainAt (g o) c)) else (0, false)
  | _, _, s => (s, true)
def most : List Int → Int → Int
  | [], m => m
  | x :: s, m => most s (if x > m then x else m)
def boundS {α : Type} (g : α → List Int) : List α → Int → Int
  | [], s => s
  | o :: os, s => boundS g os (wrap64 (s + most (g o) 0))
theorem goodP_iff {p f : List Int} : goodP p f = true ↔ p.length = f.length ∧ p.length ≤ 12 ∧ inAll p 0 10000 = true ∧ inAll f 0 10000000 = true ∧ zz p f = true := by unfold goodP; simp
/-! ### roots compared -/
def sgn (n : Int) : Int := if n > 0 then 1 else if n < 0 then -1 else 0
def mixed (n sq : Int) : Int := if n ≥ 0 then (if n = 0 then (if sq = 0 then 0 else 1) else 1) else sgn (sq - n * n)
def cmpI (a b : Int) : Int := if a < b then -1 else if a > b then 1 else 0
def cd (d p q : Int) : Int := if 4 * q - d * d - 4 * p < 0 then 1 else cmpI (16 * d * d * p) ((4 * q - d * d - 4 * p) * (4 * q - d * d - 4 * p))
theorem sixteen (d p : Int) : 16 * d * d * p = 16 * (d * d * p) := by rw [Int.mul_assoc 16 d d, Int.mul_assoc 16]
theorem cd_mixed (d p q : Int) (hp : 0 ≤ p) : cd d p q = mixed (d * d + 4 * p - 4 * q) (16 * (d * d * p)) := by
  unfold cd mixed
  rw [sixteen]
  have hsq : 0 ≤ d * d * p := Int.mul_nonneg (by rcases Int.le_total 0 d with h | h; exact Int.mul_nonneg h h; exact Int.mul_nonneg_of_nonpos_of_nonpos h h) hp
  generalize d * d * p = S at hsq
  generalize d * d = D
  have hn : (4 * q - D - 4 * p) * (4 * q - D - 4 * p) = (D + 4 * p - 4 * q) * (D + 4 * p - 4 * q) := by
    have : 4 * q - D - 4 * p = -(D + 4 * p - 4 * q) := by omega
    rw [this, Int.neg_mul_neg]
  rw [hn]
  generalize hz : D + 4 * p - 4 * q = n
  by_cases h1 : n > 0
  · rw [if_pos (by omega), if_pos (by omega), if_neg (by omega)]
  · by_cases h2 : n = 0
    · subst h2
      rw [if_neg (by omega), if_pos (by omega), if_pos rfl]
      unfold cmpI
      by_cases h3 : 16 * S = 0
      · rw [if_pos h3, if_neg (by omega), if_neg (by omega)]
      · rw [if_neg h3, if_neg (by omega), if_pos (by omega)]
    · rw [if_neg (by omega), if_neg (by omega)]
      unfold cmpI sgn
      generalize n * n = m
      by_cases h3 : 16 * S < m
      · rw [if_pos h3, if_neg (by omega), if_pos (by omega)]
      · by_cases h4 : 16 * S > m
        · rw [if_neg h3, if_pos h4, if_pos (by omega)]
        · rw [if_neg h3, if_neg h4, if_neg (by omega), if_neg (by omega)]
theorem sgn_mixed (x : Int) : sgn x = mixed x 0 := by
  unfold sgn mixed
  by_cases h1 : x > 0
  · rw [if_pos h1, if_pos (by omega), if_neg (by omega)]
  · by_cases h2 : x = 0
    · subst h2; rfl
    · rw [if_neg h1, if_pos (by omega), if_neg (by omega)]
      unfold sgn
      have : 0 < x * x := Int.mul_pos_of_neg_of_neg (by omega) (by omega)
      rw [if_neg (by omega), if_pos (by omega)]
theorem cd_range (d p q : Int) : -1 ≤ cd d p q ∧ cd d p q ≤ 1 := by
  unfold cd cmpI
  (repeat' split) <;> omega
def rooted (l : List Int) : Bool := decide (1 ≤ l.length ∧ l.length ≤ 2) && inAll l 0 1000
theorem rooted_iff {l : List Int} : rooted l = true ↔ (1 ≤ l.length ∧ l.length ≤ 2) ∧ inAll l 0 1000 = true := by unfold rooted; simp
theorem roots_in : ∀ (l : List Int), inAll l 1 30 = true → inAll (l.map fun n => root (10000 * n)) 1 1000000 = true
  | [], _ => rfl
  | x :: s, h => by
    rw [inAll_cons] at h
    rw [List.map_cons, inAll_cons]
    obtain ⟨r0, r1, r2, r3⟩ := root_spec (n := 10000 * x) (by omega) (by omega)
    refine ⟨⟨?_, r1⟩, roots_in s h.2⟩
    rcases Int.lt_or_le (root (10000 * x)) 1 with h1 | h1
    · have : root (10000 * x) = 0 := by omega
      rw [this] at r3
      omega
    · exact h1
/-! ### counts that are stable -/
def lossLt (f c : List Int) (i k : Int) : Bool := decide (num (rd f i) (rd c i * (rd c i - 1)) * den (rd f k) (rd c k * (rd c k + 1)) < num (rd f k) (rd c k * (rd c k + 1)) * den (rd f i) (rd c i * (rd c i - 1)))
def stI (f c : List Int) (i : Nat) : Nat → Nat → Bool
  | 0, _ => true
  | n + 1, k => if k = i then stI f c i n (k + 1) else if lossLt f c i k = true then false else stI f c i n (k + 1)
def stO (f c : List Int) : Nat → Nat → Bool
  | 0, _ => true
  | n + 1, i => if rd c i = 1 then stO f c n (i + 1) else if stI f c i f.length 0 = true then stO f c n (i + 1) else false
theorem loss_good {f c : List Int} {i : Int} (h : counts f c = true) (h0 : 0 ≤ i) (h1 : i < (f.length : Int)) (h2 : rd c i ≠ 1) : (1 ≤ rd f i ∧ rd f i ≤ 30) ∧ (2 ≤ rd c i ∧ rd c i ≤ 40) ∧ good (num (rd f i) (rd c i * (rd c i - 1))) (den (rd f i) (rd c i * (rd c i - 1))) = true := by
  have d := counts_iff.1 h
  have hf := rd_in (flow_iff.1 d.1).2 h0 h1
  have hc := rd_in d.2.2.1 h0 (show i < (c.length : Int) by omega)
  have hm := prev_mul (c := rd c i) (by omega)
  exact ⟨hf, by omega, good_lowest (by omega) (by omega) (by omega)⟩
theorem gain_good {f c : List Int} {k : Int} (h : counts f c = true) (h0 : 0 ≤ k) (h1 : k < (f.length : Int)) : (1 ≤ rd f k ∧ rd f k ≤ 30) ∧ (1 ≤ rd c k ∧ rd c k ≤ 40) ∧ good (num (rd f k) (rd c k * (rd c k + 1))) (den (rd f k) (rd c k * (rd c k + 1))) = true := by
  have d := counts_iff.1 h
  have hf := rd_in (flow_iff.1 d.1).2 h0 h1
  have hc := rd_in d.2.2.1 h0 (show k < (c.length : Int) by omega)
  have hm := next_mul hc
  exact ⟨hf, hc, good_lowest (by omega) (by omega) (by omega)⟩
/-! ### where a number stands -/
def indexI : List Int → Int → Int → Int
  | [], _, _ => -1
  | y :: s, x, i => if x = y then i else indexI s x (i + 1)
theorem indexI_iff : ∀ (l : List Int) (x i : Int), 0 ≤ i → (indexI l x i ≥ 0 ↔ x ∈ l)
  | [], x, i, h => by simp [indexI]
  | y :: s, x, i, h => by
    unfold indexI
    by_cases e : x = y
    · rw [if_pos e]; simp [e]; omega
    · rw [if_neg e, indexI_iff s x (i + 1) (by omega)]
      simp [e]
/-! ### matchings -/
def okM (l : List (List Bool)) (m : List Int) : Nat → List Int → Bool
  | _, [] => true
  | i, b :: s => if b = -1 then okM l m (i + 1) s else if 0 ≤ b ∧ b < ((l.getD i []).length : Int) then (if (l.getD i []).getD b.toNat false = true ∧ ¬ b ∈ m.take i then okM l m (i + 1) s else false) else false
theorem goodFits_row {l : List (List Bool)} (h : goodFits l = true) (i : Nat) : l.length ≤ 8 ∧ (l.getD i []).length ≤ 8 := by
  unfold goodFits at h
  rw [Bool.and_eq_true, decide_eq_true_eq, List.all_eq_true] at h
  refine ⟨h.1, ?_⟩
  rw [List.getD_eq_getElem?_getD]
  rcases hx : l[i]? with _ | r
  · simp
  · have := h.2 r (List.mem_of_getElem? hx)
    simp only [Bool.and_eq_true, decide_eq_true_eq] at this
    exact this.1
/-! ### the greatest of numbers -/
def maxG : List Int → Int → Int
  | [], m => m
  | x :: s, m => maxG s (if m < x then x else m)
def maxL (l : List Int) : Int := maxG (l.drop 1) (rd l 0)
theorem maxL_start {l : List Int} (h : 0 < l.length) : maxL l = maxG (l.drop 1) (rd l 0) := rfl
theorem maxG_most : ∀ (l : List Int) (m : Int), maxG l m = most l m
  | [], _ => rfl
  | x :: s, m => by
    rw [maxG, most, maxG_most s]
/-! ### tables of the most that counts gain -/
def bestN (row g : List Int) (p : Nat) : Nat → Nat → Int → Int
  | 0, _, b => b
  | k + 1, n, b => bestN row g p k (n + 1) (if wrap64 (rd row ((p - n : Nat) : Int) + gainAt g n) > b then wrap64 (rd row ((p - n : Nat) : Int) + gainAt g n) else b)
def bestAt (row g : List Int) (p : Nat) : Int := bestN row g p (min p g.length) 1 (rd row p)
def nextRow (row g : List Int) : List Int := (List.range row.length).map fun p => bestAt row g p
def rowsFrom {α : Type} (g : α → List Int) : List Int → List α → List (List Int)
  | row, [] => [row]
  | row, o :: os => row :: rowsFrom g (nextRow row (g o)) os
theorem nextRow_length (row g : List Int) : (nextRow row g).length = row.length := by unfold nextRow; simp
theorem rowsFrom_length {α : Type} (g : α → List Int) : ∀ (l : List α) (row : List Int), (rowsFrom g row l).length = l.length + 1
  | [], _ => rfl
  | o :: os, row => by rw [rowsFrom, List.length_cons, rowsFrom_length g os, List.length_cons]
theorem rowsFrom_all {α : Type} (g : α → List Int) (n : Nat) : ∀ (l : List α) (row : List Int), row.length = n → ∀ r ∈ rowsFrom g row l, r.length = n
  | [], row, h, r, hr => by
    rw [rowsFrom, List.mem_singleton] at hr
    rw [hr, h]
  | o :: os, row, h, r, hr => by
    rw [rowsFrom, List.mem_cons] at hr
    rcases hr with rfl | hr
    · exact h
    · exact rowsFrom_all g n os _ (by rw [nextRow_length, h]) r hr
/-! ### sums of bounds -/
theorem sumF_map {α β : Type} (n d : β → Int) (f : α → β) : ∀ (l : List α) (a b : Int), sumF n d a b (l.map f) = sumF (fun x => n (f x)) (fun x => d (f x)) a b l
  | [], _, _ => rfl
  | x :: s, a, b => by
    rw [List.map_cons, sumF, sumF, sumF_map n d f s]
def sumB {α : Type} (p q r t : α → Int) : Int → Int → Int → Int → List α → Int × Int × Int × Int × Bool
  | a, b, c, d, [] => (a, b, c, d, true)
  | a, b, c, d, x :: s => if goodB (p x) (q x) (r x) (t x) = true then (if (addF a b (p x) (q x)).2.2 = true then (if (addF c d (r x) (t x)).2.2 = true then sumB p q r t (addF a b (p x) (q x)).1 (addF a b (p x) (q x)).2.1 (addF c d (r x) (t x)).1 (addF c d (r x) (t x)).2.1 s else (0, 0, 0, 0, false)) else (0, 0, 0, 0, false)) else (0, 0, 0, 0, false)
theorem sumB_eq {α : Type} (p q r t : α → Int) : ∀ (l : List α) (a b c d : Int), sumB p q r t a b c d l = if (l.all fun x => goodB (p x) (q x) (r x) (t x)) = true then (if (sumF p q a b l).2.2 = true then (if (sumF r t c d l).2.2 = true then ((sumF p q a b l).1, (sumF p q a b l).2.1, (sumF r t c d l).1, (sumF r t c d l).2.1, true) else (0, 0, 0, 0, false)) else (0, 0, 0, 0, false)) else (0, 0, 0, 0, false)
  | [], a, b, c, d => by simp [sumB, sumF]
  | x :: s, a, b, c, d => by
    rw [sumB, List.all_cons, sumF, sumF]
    cases h : goodB (p x) (q x) (r x) (t x) with
    | false => simp
    | true =>
      rw [if_pos rfl, Bool.true_and]
      by_cases h1 : (addF a b (p x) (q x)).2.2 = true
      · rw [if_pos h1, if_pos h1]
        by_cases h2 : (addF c d (r x) (t x)).2.2 = true
        · rw [if_pos h2, if_pos h2, sumB_eq p q r t s]
        · rw [if_neg h2, if_neg h2]
          split
          · split
            · simp
            · rfl
          · rfl
      · rw [if_neg h1, if_neg h1]
        split
        · simp
        · rfl
end Go.Proofs.Ytdgpplnfkifkgaa.M
