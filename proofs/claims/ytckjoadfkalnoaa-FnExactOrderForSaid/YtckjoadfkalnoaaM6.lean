/- Plain facts on orders: a list that has 0 up to a number less 1, each once; no program stands here. Conditions: those that each lemma names. -/
import Derived.Test.YtckjoadfkalnoaaM5
set_option linter.unusedVariables false
namespace Go.Proofs.Ytckjoadfkalnoaa.M
open Go.RowKit Go.Proofs.YtckjoadfkalnoaaW.PrintWords Go.Proofs.YtckjoadfkalnoaaW.PrintLast Go.Proofs.YtckjoadfkalnoaaW.PrintMore

def srt (l : List Int) : List Int := l.mergeSort fun x y => decide (x ≤ y)
def isOrd (l : List Int) (m : Int) : Bool := decide ((l.length : Int) = m) && decide (srt l = nums l.length)
def ordFrom (m : Int) (l : List Int) : Nat → List Int → Bool
  | _, [] => true
  | i, k :: s => (decide (0 ≤ k ∧ k ≤ m - 1) && !decide (k ∈ l.take i)) && ordFrom m l (i + 1) s
theorem nums_mem {n : Nat} {x : Int} : x ∈ nums n ↔ 0 ≤ x ∧ x < (n : Int) := by
  unfold nums
  rw [List.mem_map]
  constructor
  · rintro ⟨i, hi, rfl⟩
    rw [List.mem_range] at hi
    omega
  · rintro ⟨h0, h1⟩
    exact ⟨x.toNat, by rw [List.mem_range]; omega, by omega⟩
theorem nums_up (n : Nat) : (nums n).Pairwise (· < ·) := by
  unfold nums
  rw [List.pairwise_map]
  refine List.Pairwise.imp ?_ List.pairwise_lt_range
  intro a b h
  omega
theorem nums_nodup (n : Nat) : (nums n).Nodup := List.Pairwise.imp (fun h => by omega) (nums_up n)
theorem srt_perm (l : List Int) : (srt l).Perm l := List.mergeSort_perm _ _
theorem srt_length (l : List Int) : (srt l).length = l.length := (srt_perm l).length_eq
theorem srt_up (l : List Int) : (srt l).Pairwise (· ≤ ·) := by
  have := List.pairwise_mergeSort (le := fun (x y : Int) => decide (x ≤ y)) (by intro a b c h k; simp at h k ⊢; omega) (by intro a b; simp; omega) l
  exact List.Pairwise.imp (fun h => by simpa using h) this
theorem srt_nums (l : List Int) : srt l = nums l.length ↔ (∀ k ∈ l, 0 ≤ k ∧ k < (l.length : Int)) ∧ l.Nodup := by
  constructor
  · intro h
    have hp := srt_perm l
    rw [h] at hp
    exact ⟨fun k hk => nums_mem.1 (hp.mem_iff.2 hk), (nums_nodup _).perm hp⟩
  · rintro ⟨h1, h2⟩
    have hsub : l ⊆ nums l.length := fun k hk => nums_mem.2 (h1 k hk)
    have hp : l.Perm (nums l.length) := by
      refine (List.perm_ext_iff_of_nodup h2 (nums_nodup _)).2 fun a => ⟨fun ha => hsub ha, fun ha => ?_⟩
      rcases Classical.em (a ∈ l) with c | c
      · exact c
      · have h3 : (a :: l).Nodup := List.nodup_cons.2 ⟨c, h2⟩
        have h4 : (a :: l) ⊆ nums l.length := by
          intro x hx
          rcases List.mem_cons.1 hx with rfl | hx
          · exact ha
          · exact hsub hx
        have h5 := h3.length_le_of_subset h4
        rw [nums_length, List.length_cons] at h5
        omega
    exact List.Perm.eq_of_pairwise (le := fun (x y : Int) => x ≤ y) (by intro a b _ _ h k; omega) (srt_up l) (List.Pairwise.imp (fun h => by omega) (nums_up _)) ((srt_perm l).trans hp)
theorem ordFrom_iff (m : Int) (l : List Int) : ∀ (s : List Int) (i : Nat), l.drop i = s → (l.take i).Nodup → (ordFrom m l i s = true ↔ (∀ k ∈ s, 0 ≤ k ∧ k ≤ m - 1) ∧ l.Nodup)
  | [], i, hd, hn => by
    rw [List.take_of_length_le (drop_nil hd)] at hn
    simp [ordFrom, hn]
  | k :: s, i, hd, hn => by
    obtain ⟨h1, h2, h3, h4⟩ := drop_cons hd
    have e : l.take (i + 1) = l.take i ++ [k] := by
      rw [List.take_add_one, h2]; rfl
    rw [ordFrom, Bool.and_eq_true, Bool.and_eq_true, decide_eq_true_eq, Bool.not_eq_true', decide_eq_false_iff_not]
    by_cases c : k ∈ l.take i
    · refine ⟨fun h => absurd c h.1.2, fun h => ?_⟩
      exfalso
      have h5 : (l.take (i + 1)).Nodup := h.2.sublist (List.take_sublist _ _)
      rw [e] at h5
      have := (List.pairwise_append.1 h5).2.2 k c k (by simp)
      exact this rfl
    · have h5 : (l.take (i + 1)).Nodup := by
        rw [e]
        refine List.pairwise_append.2 ⟨hn, by simp, fun a ha b hb => ?_⟩
        rw [List.mem_singleton] at hb
        subst hb
        intro h
        exact c (h ▸ ha)
      rw [ordFrom_iff m l s (i + 1) h3 h5]
      simp only [List.mem_cons, forall_eq_or_imp]
      constructor
      · rintro ⟨⟨a, b⟩, d, f⟩; exact ⟨⟨a, d⟩, f⟩
      · rintro ⟨⟨a, d⟩, f⟩; exact ⟨⟨a, c⟩, d, f⟩
/-- The reference's test and the program's are one. -/
theorem ord_eq (l : List Int) (m : Int) (h : (l.length : Int) = m) : ordFrom m l 0 l = decide (srt l = nums l.length) := by
  rw [Bool.eq_iff_iff, ordFrom_iff m l l 0 rfl (by simp), decide_eq_true_eq, srt_nums]
  constructor
  · rintro ⟨a, b⟩; exact ⟨fun k hk => by have := a k hk; omega, b⟩
  · rintro ⟨a, b⟩; exact ⟨fun k hk => by have := a k hk; omega, b⟩
theorem isOrd_iff {l : List Int} {m : Int} : isOrd l m = true ↔ (l.length : Int) = m ∧ (∀ k ∈ l, 0 ≤ k ∧ k < m) ∧ l.Nodup := by
  unfold isOrd
  rw [Bool.and_eq_true, decide_eq_true_eq, decide_eq_true_eq, srt_nums]
  constructor
  · rintro ⟨a, b, c⟩; exact ⟨a, fun k hk => by have := b k hk; omega, c⟩
  · rintro ⟨a, b, c⟩; exact ⟨a, fun k hk => by have := b k hk; omega, c⟩
end Go.Proofs.Ytckjoadfkalnoaa.M
