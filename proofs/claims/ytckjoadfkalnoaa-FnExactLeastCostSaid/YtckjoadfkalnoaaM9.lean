/- Plain facts on the bounds of the least cost; no program stands here. Conditions: those that each lemma names. -/
import Derived.Test.YtckjoadfkalnoaaM5
set_option linter.unusedVariables false
namespace Go.Proofs.Ytckjoadfkalnoaa.M
open Go.RowKit Go.Proofs.YtckjoadfkalnoaaW.PrintWords Go.Proofs.YtckjoadfkalnoaaW.PrintLast Go.Proofs.YtckjoadfkalnoaaW.PrintMore

theorem low_good {n m : Int} (h : M.good (num n m) (den n m) = true) : M.low n m = (num n m, den n m, true) := by unfold M.low; rw [if_pos h]
theorem sumF_ok {α : Type} {p : Int} (hp : 1 ≤ p ∧ p ≤ 1000000000) (n d v : α → Int) : ∀ (l : List α) (a b m : Int), Val p a b m → 0 ≤ m → (∀ x ∈ l, Val p (n x) (d x) (v x) ∧ 0 ≤ v x) → m + sumZ (l.map v) ≤ 1000000000 → 0 ≤ sumZ (l.map v) ∧ (sumF n d a b l).2.2 = true
  | [], _, _, _, _, _, _, _ => by simp [sumF, sumZ]
  | x :: s, a, b, m, h, hm, hx, hs => by
    have h1 := hx x (by simp)
    rw [List.map_cons, sumZ] at hs ⊢
    have ih0 : ∀ (a b m : Int), Val p a b m → 0 ≤ m → m + sumZ (s.map v) ≤ 1000000000 → 0 ≤ sumZ (s.map v) ∧ (sumF n d a b s).2.2 = true := fun a b m h hm hs => sumF_ok hp n d v s a b m h hm (fun y hy => hx y (by simp [hy])) hs
    have hpos : 0 ≤ sumZ (s.map v) := by
      have := sumZ_nonneg s (fun y hy => (hx y (by simp [hy])).2)
      exact this
    have g1 := h.good hp ⟨hm, by omega⟩
    have g2 := h1.1.good hp ⟨h1.2, by omega⟩
    have g3 := (h.add h1.1).good hp ⟨by omega, by omega⟩
    have e : addF a b (n x) (d x) = (num (a * d x + n x * b) (b * d x), den (a * d x + n x * b) (b * d x), true) := by
      unfold addF
      rw [g1, g2, Bool.and_self, if_pos rfl, low_good g3]
    have ih := ih0 _ _ _ (h.add h1.1) (by omega) (by omega)
    refine ⟨by omega, ?_⟩
    rw [sumF, e, if_pos rfl]
    exact ih.2
where
  sumZ_nonneg {α : Type} {v : α → Int} : ∀ (s : List α), (∀ y ∈ s, 0 ≤ v y) → 0 ≤ sumZ (s.map v)
    | [], _ => by simp [sumZ]
    | y :: s, h => by
      have h1 := h y (by simp)
      have h2 := sumZ_nonneg s (fun z hz => h z (by simp [hz]))
      rw [List.map_cons, sumZ]
      omega
def loP (p : Int) (l : List Int) : Int × Int × Bool := sumF (fun n => num (rlo p n) p) (fun n => den (rlo p n) p) 0 1 l
def hiP (p : Int) (l : List Int) : Int × Int × Bool := sumF (fun n => num (rhi p n) p) (fun n => den (rhi p n) p) 0 1 l
def least (l : List Int) (R p : Int) : Int × Int × Int × Int × Bool :=
  (num ((loP p l).1 * (loP p l).1) ((loP p l).2.1 * (loP p l).2.1 * R), den ((loP p l).1 * (loP p l).1) ((loP p l).2.1 * (loP p l).2.1 * R), num ((hiP p l).1 * (hiP p l).1) ((hiP p l).2.1 * (hiP p l).2.1 * R), den ((hiP p l).1 * (hiP p l).1) ((hiP p l).2.1 * (hiP p l).2.1 * R), true)
theorem val_zero {p : Int} : Val p 0 1 0 := ⟨by omega, by rfl, by omega⟩
theorem least_sums {l : List Int} {p : Int} (hl : l.length ≤ 8) (hf : inAll l 1 30 = true) (hp : 1 ≤ p ∧ p ≤ 100) :
    (loP p l).2.2 = true ∧ (hiP p l).2.2 = true ∧ ∃ m k, Val p (loP p l).1 (loP p l).2.1 m ∧ Val p (hiP p l).1 (hiP p l).2.1 k ∧ 0 ≤ m ∧ m ≤ k ∧ k ≤ 4392 := by
  have hs := sum_rlo hp l hf
  have hin := inAll_iff.1 hf
  have v1 : ∀ x ∈ l, Val p (num (rlo p x) p) (den (rlo p x) p) (rlo p x) ∧ 0 ≤ rlo p x := fun x hx => ⟨root_val hp.1, (rlo_bd hp (hin x hx)).1⟩
  have v2 : ∀ x ∈ l, Val p (num (rhi p x) p) (den (rhi p x) p) (rhi p x) ∧ 0 ≤ rhi p x := fun x hx => ⟨root_val hp.1, by have := (rlo_bd hp (hin x hx)).1; have := (rhi_bd hp (hin x hx)).1; omega⟩
  have o1 := sumF_ok (p := p) ⟨hp.1, by omega⟩ _ _ (rlo p) l 0 1 0 val_zero (by omega) v1 (by omega)
  have o2 := sumF_ok (p := p) ⟨hp.1, by omega⟩ _ _ (rhi p) l 0 1 0 val_zero (by omega) v2 (by omega)
  have s1 := sumF_val p _ _ (rlo p) l 0 1 0 val_zero (fun x hx => (v1 x hx).1) o1.2
  have s2 := sumF_val p _ _ (rhi p) l 0 1 0 val_zero (fun x hx => (v2 x hx).1) o2.2
  exact ⟨o1.2, o2.2, _, _, s1, s2, by omega, by omega, by omega⟩
theorem bounds_good {p n : Int} (hp : 1 ≤ p ∧ p ≤ 100) (hn : 1 ≤ n ∧ n ≤ 30) : goodB (num (rlo p n) p) (den (rlo p n) p) (num (rhi p n) p) (den (rhi p n) p) = true := by
  have b1 := rlo_bd hp hn
  have b2 := rhi_bd hp hn
  have v1 : Val p (num (rlo p n) p) (den (rlo p n) p) (rlo p n) := root_val hp.1
  have v2 : Val p (num (rhi p n) p) (den (rhi p n) p) (rhi p n) := root_val hp.1
  have g1 := v1.good ⟨hp.1, by omega⟩ ⟨b1.1, by omega⟩
  have g2 := v2.good ⟨hp.1, by omega⟩ ⟨by omega, by omega⟩
  have h1 := v1.num_bd hp.1 b1.1
  have h2 := v1.le hp.1 v2 b2.1
  unfold goodB
  rw [g1, g2]
  simp
  omega
theorem root_good {p n : Int} (hp : 1 ≤ p ∧ p ≤ 100) (hn : 1 ≤ n ∧ n ≤ 30) : M.good (num (rlo p n) p) (den (rlo p n) p) = true ∧ M.good (num (rhi p n) p) (den (rhi p n) p) = true := by
  have h := bounds_good hp hn
  unfold goodB at h
  simp at h
  exact h.1
end Go.Proofs.Ytckjoadfkalnoaa.M
