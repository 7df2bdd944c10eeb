/- Plain facts on the cost of an order, on two goods that change places, on rings and on families; no program stands here. Conditions: those that each lemma names. -/
import Derived.Test.YtckjoadfkalnoaaM6
set_option linter.unusedVariables false
namespace Go.Proofs.Ytckjoadfkalnoaa.M
open Go.RowKit Go.Proofs.YtckjoadfkalnoaaW.PrintWords Go.Proofs.YtckjoadfkalnoaaW.PrintLast Go.Proofs.YtckjoadfkalnoaaW.PrintMore

/-! ### the cost of an order -/
def costF (u w : List Int) : List Int → Nat → Int → Int
  | [], _, n => n
  | k :: s, i, n => costF u w s (i + 1) (wrap64 (n + wrap64 (rd u k * rd w (i : Int))))
def placed (n : Nat) (o : List Int) : Bool := o.all fun k => decide (0 ≤ k ∧ k < (n : Int))
theorem placed_iff {n : Nat} {o : List Int} : placed n o = true ↔ ∀ k ∈ o, 0 ≤ k ∧ k < (n : Int) := by unfold placed; simp
theorem isOrd_placed {l : List Int} {n : Nat} (h : isOrd l (n : Int) = true) : l.length = n ∧ placed n l = true := by
  have := isOrd_iff.1 h
  exact ⟨by omega, placed_iff.2 this.2.1⟩
theorem rd_mem {l : List Int} {i : Int} (h0 : 0 ≤ i) (h1 : i < (l.length : Int)) : rd l i ∈ l := by
  have hk : i.toNat < l.length := by omega
  have e : rd l i = l[i.toNat] := by unfold rd; simp [hk]
  rw [e]
  exact List.getElem_mem hk
theorem placed_set {n : Nat} {o : List Int} (h : placed n o = true) (i : Nat) {x : Int} (hx : 0 ≤ x ∧ x < (n : Int)) : placed n (o.set i x) = true := by
  rw [placed_iff] at h ⊢
  intro k hk
  rcases List.mem_or_eq_of_mem_set hk with q | q
  · exact h k q
  · rw [q]; exact hx
/-! ### rings -/
def ringG (o : List Int) : Nat → List Bool → Int → List Int → List Bool × List Int
  | 0, met, _, y => (met, y)
  | f + 1, met, k, y => if rdOf false met k = true then (met, y) else ringG o f (met.set k.toNat true) (rd o k) (y ++ [k])
def ringsL (o : List Int) : Nat → Nat → List Bool → List (List Int) → List (List Int)
  | 0, _, _, acc => acc
  | n + 1, i, met, acc => ringsL o n (i + 1) (ringG o o.length met (i : Int) []).1 (if (ringG o o.length met (i : Int) []).2.length > 0 then acc ++ [(ringG o o.length met (i : Int) []).2] else acc)
theorem ringG_met (o : List Int) : ∀ (f : Nat) (met : List Bool) (k : Int) (y : List Int), (ringG o f met k y).1.length = met.length
  | 0, _, _, _ => rfl
  | f + 1, met, k, y => by
    rw [ringG]
    split
    · rfl
    · rw [ringG_met o f, List.length_set]
theorem ringG_len (o : List Int) : ∀ (f : Nat) (met : List Bool) (k : Int) (y : List Int), y.length ≤ (ringG o f met k y).2.length
  | 0, _, _, _ => Nat.le_refl _
  | f + 1, met, k, y => by
    rw [ringG]
    split
    · exact Nat.le_refl _
    · have := ringG_len o f (met.set k.toNat true) (rd o k) (y ++ [k])
      rw [List.length_append] at this
      exact Nat.le_trans (Nat.le_add_right _ _) this
theorem rdOf_at {met : List Bool} {k : Int} (h0 : 0 ≤ k) (h1 : k < (met.length : Int)) : ∃ h : k.toNat < met.length, rdOf false met k = met[k.toNat] := by
  have hk : k.toNat < met.length := by omega
  exact ⟨hk, by unfold rdOf; simp [hk]⟩
theorem unmet_zero {met : List Bool} (h : met.count false = 0) {k : Int} (h0 : 0 ≤ k) (h1 : k < (met.length : Int)) : rdOf false met k = true := by
  obtain ⟨hk, e⟩ := rdOf_at h0 h1
  rw [e]
  have hn : false ∉ met := List.count_eq_zero.1 h
  cases q : met[k.toNat] with
  | true => rfl
  | false => exact absurd (q ▸ List.getElem_mem hk) hn
theorem unmet_set {met : List Bool} {k : Int} (h0 : 0 ≤ k) (h1 : k < (met.length : Int)) (hf : ¬ rdOf false met k = true) : (met.set k.toNat true).count false + 1 = met.count false := by
  obtain ⟨hk, e⟩ := rdOf_at h0 h1
  rw [e, Bool.not_eq_true] at hf
  have hp : 0 < met.count false := List.count_pos_iff.2 (hf ▸ List.getElem_mem hk)
  rw [List.count_set hk, hf]
  simp
  omega
theorem ringsL_acc (o : List Int) (m : Nat) : ∀ (n i : Nat) (met : List Bool) (acc : List (List Int)), (ringsL o n i met acc).length ≤ acc.length + n
  | 0, _, _, _ => Nat.le_refl _
  | n + 1, i, met, acc => by
    rw [ringsL]
    split
    · have := ringsL_acc o m n (i + 1) (ringG o o.length met (i : Int) []).1 (acc ++ [(ringG o o.length met (i : Int) []).2])
      rw [List.length_append, List.length_singleton] at this
      omega
    · have := ringsL_acc o m n (i + 1) (ringG o o.length met (i : Int) []).1 acc
      omega
/-! ### families -/
def smithF (f g : Int → Int) : List Int → Int → Int → Int
  | [], _, n => n
  | k :: s, b, n => smithF f g s (wrap64 (b + g k)) (wrap64 (n + wrap64 (f k * wrap64 (b + g k))))
end Go.Proofs.Ytckjoadfkalnoaa.M
