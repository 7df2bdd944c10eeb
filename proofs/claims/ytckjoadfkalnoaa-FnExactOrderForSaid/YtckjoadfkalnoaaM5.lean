/- Plain facts on sums of bounds of roots, on orders and on rings; no program stands here. Conditions: those that each lemma names. -/
import Derived.Test.YtckjoadfkalnoaaM4
set_option linter.unusedVariables false
namespace Go.Proofs.Ytckjoadfkalnoaa.M
open Go.RowKit Go.Proofs.YtckjoadfkalnoaaW.PrintWords Go.Proofs.YtckjoadfkalnoaaW.PrintLast Go.Proofs.YtckjoadfkalnoaaW.PrintMore

/-! ### fractions with one denominator in common -/
theorem num_mul {n d : Int} (h : d ≠ 0) : num n d * d = n * den n d := by
  have d1 := Int.ediv_mul_cancel (Int.gcd_dvd_left n d)
  have d2 := Int.ediv_mul_cancel (Int.gcd_dvd_right n d)
  have e1 := Int.neg_ediv_of_dvd (Int.gcd_dvd_left n d)
  have e2 := Int.neg_ediv_of_dvd (Int.gcd_dvd_right n d)
  unfold num den
  by_cases c : d < 0
  · rw [if_pos c, if_pos c, e1, e2]
    generalize (Int.gcd n d : Int) = g at d1 d2
    generalize n / g = x at d1
    generalize d / g = y at d2
    subst d1
    subst d2
    grind
  · rw [if_neg c, if_neg c]
    generalize (Int.gcd n d : Int) = g at d1 d2
    generalize n / g = x at d1
    generalize d / g = y at d2
    subst d1
    subst d2
    grind
/-- a divided by b, in lowest terms, is m divided by p. -/
def Val (p a b m : Int) : Prop := 1 ≤ b ∧ Int.gcd a b = 1 ∧ a * p = m * b
theorem Val.low {p n d m : Int} (hd : 1 ≤ d) (h : n * p = m * d) : Val p (num n d) (den n d) m := by
  refine ⟨den_pos (by omega), gcd_num_den (by omega), ?_⟩
  have e := num_mul (n := n) (d := d) (by omega)
  apply Int.eq_of_mul_eq_mul_right (show d ≠ 0 by omega)
  have e1 : num n d * p * d = (num n d * d) * p := by grind
  have e2 : n * den n d * p = (n * p) * den n d := by grind
  rw [e1, e, e2, h]
  grind
theorem mul_pos1 {a b : Int} (h : 1 ≤ a) (k : 1 ≤ b) : 1 ≤ a * b := by
  have := Int.mul_le_mul h k (by omega) (by omega)
  omega
theorem Val.add {p a b c d m k : Int} (h : Val p a b m) (g : Val p c d k) : Val p (num (a * d + c * b) (b * d)) (den (a * d + c * b) (b * d)) (m + k) := by
  refine Val.low (mul_pos1 h.1 g.1) ?_
  have e1 := h.2.2
  have e2 := g.2.2
  have e3 : (a * d + c * b) * p = (a * p) * d + (c * p) * b := by grind
  rw [e3, e1, e2]
  grind
theorem Val.dvd {p a b m : Int} (h : Val p a b m) : b ∣ p := by
  have h1 : b ∣ a * p := by rw [h.2.2]; exact Int.dvd_mul_left _ _
  have h2 : b.natAbs ∣ a.natAbs * p.natAbs := by rw [← Int.natAbs_mul]; exact Int.natAbs_dvd_natAbs.2 h1
  have h3 : Nat.gcd b.natAbs a.natAbs = 1 := by rw [Nat.gcd_comm]; exact h.2.1
  exact Int.natAbs_dvd_natAbs.1 (Nat.Coprime.dvd_of_dvd_mul_left h3 h2)
theorem Val.den_le {p a b m : Int} (hp : 1 ≤ p) (h : Val p a b m) : b ≤ p := Int.le_of_dvd (by omega) h.dvd
theorem Val.num_bd {p a b m : Int} (hp : 1 ≤ p) (h : Val p a b m) (hm : 0 ≤ m) : 0 ≤ a ∧ a ≤ m := by
  have hb := h.den_le hp
  have h1 := h.1
  have e := h.2.2
  constructor
  · have : 0 ≤ a * p := by rw [e]; exact Int.mul_nonneg hm (by omega)
    rcases Int.lt_or_le a 0 with c | c
    · have := Int.mul_neg_of_neg_of_pos c (show 0 < p by omega); omega
    · exact c
  · have : a * p ≤ m * p := by rw [e]; exact Int.mul_le_mul_of_nonneg_left hb hm
    exact Int.le_of_mul_le_mul_right this (by omega)
theorem Val.good {p a b m : Int} (hp : 1 ≤ p ∧ p ≤ 1000000000) (h : Val p a b m) (hm : 0 ≤ m ∧ m ≤ 1000000000) : good a b = true := by
  have h1 := h.den_le hp.1
  have h2 := h.num_bd hp.1 hm.1
  exact good_iff.2 ⟨by omega, by omega, h.1, by omega, h.2.1⟩
theorem Val.le {p a b c d m k : Int} (hp : 1 ≤ p) (h : Val p a b m) (g : Val p c d k) (hm : m ≤ k) : a * d ≤ c * b := by
  have e1 := h.2.2
  have e2 := g.2.2
  have h1 := h.1
  have g1 := g.1
  apply Int.le_of_mul_le_mul_right (a := p) _ (by omega)
  have e3 : a * d * p = m * (b * d) := by have : a * d * p = (a * p) * d := by grind
                                          rw [this, e1]; grind
  have e4 : c * b * p = k * (b * d) := by have : c * b * p = (c * p) * b := by grind
                                          rw [this, e2]; grind
  rw [e3, e4]
  exact Int.mul_le_mul_of_nonneg_right hm (by have := mul_pos1 h1 g1; omega)
theorem addF_ok {a b c d : Int} (h : (addF a b c d).2.2 = true) : addF a b c d = (num (a * d + c * b) (b * d), den (a * d + c * b) (b * d), true) := by
  unfold addF M.low at h ⊢
  split at h
  · rename_i h1
    rw [if_pos h1]
    split at h
    · rename_i h2
      rw [if_pos h2]
    · cases h
  · cases h
theorem sumF_val {α : Type} (p : Int) (n d v : α → Int) : ∀ (l : List α) (a b m : Int), Val p a b m → (∀ x ∈ l, Val p (n x) (d x) (v x)) → (sumF n d a b l).2.2 = true → Val p (sumF n d a b l).1 (sumF n d a b l).2.1 (m + sumZ (l.map v))
  | [], a, b, m, h, _, _ => by simpa [sumF, sumZ] using h
  | x :: s, a, b, m, h, hx, ho => by
    rw [sumF] at ho ⊢
    split at ho
    · rename_i h1
      rw [if_pos h1]
      have e := addF_ok h1
      rw [e] at ho ⊢
      have h2 := sumF_val p n d v s _ _ _ (h.add (hx x (by simp))) (fun y hy => hx y (by simp [hy])) ho
      rw [List.map_cons, sumZ, ← Int.add_assoc]
      exact h2
    · cases ho
/-! ### what is just below a root, and just above it -/
def rlo (p n : Int) : Int := root (n * p * p)
def rhi (p n : Int) : Int := if rlo p n * rlo p n = n * p * p then rlo p n else rlo p n + 1
theorem npp {p n : Int} (hp : 1 ≤ p ∧ p ≤ 100) (hn : 1 ≤ n ∧ n ≤ 30) : 1 ≤ n * p ∧ n * p ≤ 3000 ∧ 1 ≤ n * p * p ∧ n * p * p ≤ 300000 := by
  have h1 := mul_pos1 hn.1 hp.1
  have h2 := Int.mul_le_mul hn.2 hp.2 (by omega) (by omega)
  have h3 := mul_pos1 h1 hp.1
  have h4 := Int.mul_le_mul (show n * p ≤ 3000 by omega) hp.2 (by omega) (by omega)
  omega
theorem rlo_bd {p n : Int} (hp : 1 ≤ p ∧ p ≤ 100) (hn : 1 ≤ n ∧ n ≤ 30) : 0 ≤ rlo p n ∧ rlo p n ≤ 548 := by
  have h := npp hp hn
  have h1 := root_spec (n := n * p * p) (by omega) (by omega)
  refine ⟨h1.1, ?_⟩
  have := sq_lt (a := root (n * p * p)) (b := 549) h1.1 (by have := h1.2.2.1; omega) (by omega)
  unfold rlo
  omega
theorem rhi_bd {p n : Int} (hp : 1 ≤ p ∧ p ≤ 100) (hn : 1 ≤ n ∧ n ≤ 30) : rlo p n ≤ rhi p n ∧ rhi p n ≤ 549 := by
  have := rlo_bd hp hn
  unfold rhi
  split <;> omega
theorem root_val {p r : Int} (hp : 1 ≤ p) : Val p (num r p) (den r p) r := Val.low hp rfl
theorem sum_rlo {p : Int} (hp : 1 ≤ p ∧ p ≤ 100) : ∀ (l : List Int), inAll l 1 30 = true → 0 ≤ sumZ (l.map (rlo p)) ∧ sumZ (l.map (rlo p)) ≤ sumZ (l.map (rhi p)) ∧ sumZ (l.map (rhi p)) ≤ 549 * (l.length : Int)
  | [], _ => by simp [sumZ]
  | x :: s, h => by
    rw [inAll_cons] at h
    have h1 := sum_rlo hp s h.2
    have h2 := rlo_bd hp h.1
    have h3 := rhi_bd hp h.1
    rw [List.map_cons, List.map_cons, sumZ, sumZ, List.length_cons]
    omega
/-- The squares of two sums of bounds, divided by a room, are good bounds. -/
theorem squares {p a b c d m k R : Int} (hp : 1 ≤ p ∧ p ≤ 100) (hR : 8 ≤ R ∧ R ≤ 1000) (h : Val p a b m) (g : Val p c d k) (hm : 0 ≤ m) (hk : m ≤ k) (hk2 : k ≤ 4392) :
    (1 ≤ b * b ∧ b * b ≤ 10000 ∧ 1 ≤ b * b * R ∧ b * b * R ≤ 10000000 ∧ 0 ≤ a * a ∧ a * a ≤ 19289664) ∧ (1 ≤ d * d ∧ d * d ≤ 10000 ∧ 1 ≤ d * d * R ∧ d * d * R ≤ 10000000 ∧ 0 ≤ c * c ∧ c * c ≤ 19289664) ∧
    M.good (num (a * a) (b * b * R)) (den (a * a) (b * b * R)) = true ∧ M.good (num (c * c) (d * d * R)) (den (c * c) (d * d * R)) = true ∧ goodB (num (a * a) (b * b * R)) (den (a * a) (b * b * R)) (num (c * c) (d * d * R)) (den (c * c) (d * d * R)) = true := by
  have one : ∀ {a b m : Int}, Val p a b m → 0 ≤ m → m ≤ 4392 → (1 ≤ b * b ∧ b * b ≤ 10000 ∧ 1 ≤ b * b * R ∧ b * b * R ≤ 10000000 ∧ 0 ≤ a * a ∧ a * a ≤ 19289664) := by
    intro a b m h hm hm2
    have h1 := h.den_le hp.1
    have h2 := h.num_bd hp.1 hm
    have h3 := mul_pos1 h.1 h.1
    have h4 := sq_le (m := b) (B := 100) (by have := h.1; omega) (by omega)
    have h5 := mul_pos1 h3 (show 1 ≤ R by omega)
    have h6 := Int.mul_le_mul (show b * b ≤ 10000 by omega) hR.2 (by omega) (by omega)
    have h7 := sq_nonneg h2.1
    have h8 := sq_le (m := a) (B := 4392) h2.1 (by omega)
    omega
  have A := one h hm (by omega)
  have B := one g (by omega) hk2
  have G1 := good_lowest (n := a * a) (d := b * b * R) (by omega) (by omega) (by omega)
  have G2 := good_lowest (n := c * c) (d := d * d * R) (by omega) (by omega) (by omega)
  refine ⟨A, B, G1, G2, ?_⟩
  have N1 := num_mul (n := a * a) (d := b * b * R) (by omega)
  have N2 := num_mul (n := c * c) (d := d * d * R) (by omega)
  have P1 := den_pos (n := a * a) (d := b * b * R) (by omega)
  have P2 := den_pos (n := c * c) (d := d * d * R) (by omega)
  have hle := h.le hp.1 g hk
  have ha := (h.num_bd hp.1 hm).1
  have hc := (g.num_bd hp.1 (by omega)).1
  have hb1 := h.1
  have hd1 := g.1
  have hsq : (a * d) * (a * d) ≤ (c * b) * (c * b) := Int.mul_le_mul hle hle (Int.mul_nonneg ha (by omega)) (Int.mul_nonneg hc (by omega))
  have hND : (a * a) * (d * d * R) ≤ (c * c) * (b * b * R) := by
    have e1 : (a * a) * (d * d * R) = ((a * d) * (a * d)) * R := by grind
    have e2 : (c * c) * (b * b * R) = ((c * b) * (c * b)) * R := by grind
    rw [e1, e2]
    exact Int.mul_le_mul_of_nonneg_right hsq (by omega)
  generalize num (a * a) (b * b * R) = n1 at *
  generalize den (a * a) (b * b * R) = d1 at *
  generalize num (c * c) (d * d * R) = n2 at *
  generalize den (c * c) (d * d * R) = d2 at *
  have hpos : 0 ≤ n1 := by
    have h1 : 0 ≤ n1 * (b * b * R) := by rw [N1]; exact Int.mul_nonneg (by omega) (by omega)
    rcases Int.lt_or_le n1 0 with q | q
    · have := Int.mul_neg_of_neg_of_pos q (show 0 < b * b * R by omega); omega
    · exact q
  have hfin : n1 * d2 ≤ n2 * d1 := by
    apply Int.le_of_mul_le_mul_right (a := (b * b * R) * (d * d * R)) _ (by have := mul_pos1 (show 1 ≤ b * b * R by omega) (show 1 ≤ d * d * R by omega); omega)
    have e1 : n1 * d2 * ((b * b * R) * (d * d * R)) = (n1 * (b * b * R)) * d2 * (d * d * R) := by grind
    have e2 : n2 * d1 * ((b * b * R) * (d * d * R)) = (n2 * (d * d * R)) * d1 * (b * b * R) := by grind
    rw [e1, e2, N1, N2]
    have e3 : a * a * d1 * d2 * (d * d * R) = ((a * a) * (d * d * R)) * (d1 * d2) := by grind
    have e4 : c * c * d2 * d1 * (b * b * R) = ((c * c) * (b * b * R)) * (d1 * d2) := by grind
    rw [e3, e4]
    exact Int.mul_le_mul_of_nonneg_right hND (by have := mul_pos1 P1 P2; omega)
  unfold goodB
  rw [G1, G2]
  simp
  omega
end Go.Proofs.Ytckjoadfkalnoaa.M
