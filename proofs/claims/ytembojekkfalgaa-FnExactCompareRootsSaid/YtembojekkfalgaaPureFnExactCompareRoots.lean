/- The pure statement of the law FnExactCompareRoots: whatever came in, the law's Lean function brings true. Conditions: those that it names. -/
import Derived.Test.YtembojekkfalgaaPFnExactCompareRootsxB
set_option linter.unusedVariables false
namespace Go.Proofs.Ytembojekkfalgaa.Pure
open Go.RowKit Go.Proofs.Ytembojekkfalgaa.PFnExactCompareRoots Go.Proofs.YtembojekkfalgaaW.PrintWords Go.Proofs.YtembojekkfalgaaW.PrintLast Go.Proofs.YtembojekkfalgaaW.PrintMore
theorem rooted_two (l : List Int) (h : M.rooted l = true) : ∃ a b, (0 ≤ a ∧ a ≤ 1000) ∧ (0 ≤ b ∧ b ≤ 1000) ∧ 0 < (l.length : Int) ∧ rd l 0 = a ∧ spec_l2Term.f l 1 = some b ∧ impl_sumAndProduct.f l = some (a + b, a * b) := by
  have d := M.rooted_iff.1 h
  match l, d with
  | [], d => exact absurd d.1.1 (by simp)
  | [a], d =>
    have ha := M.inAll_iff.1 d.2 a (by simp)
    refine ⟨a, 0, ha, by omega, by simp, rfl, ?_, ?_⟩
    · unfold spec_l2Term.f
      rw [if_neg (by simp)]
    · unfold impl_sumAndProduct.f
      rw [if_pos (by simp), if_pos (by simp), Int.add_zero, Int.mul_zero]
      rfl
  | [a, b], d =>
    have ha := M.inAll_iff.1 d.2 a (by simp)
    have hb := M.inAll_iff.1 d.2 b (by simp)
    have hm := Int.mul_le_mul ha.2 hb.2 hb.1 (by omega)
    have hn := Int.mul_nonneg ha.1 hb.1
    refine ⟨a, b, ha, hb, by simp, rfl, ?_, ?_⟩
    · unfold spec_l2Term.f
      rw [if_pos (by simp), if_pos (by omega)]
      rfl
    · unfold impl_sumAndProduct.f
      have e0 : rd [a, b] 0 = a := rfl
      have e1 : rd [a, b] 1 = b := rfl
      rw [if_neg (by simp), if_pos (by simp), if_pos (by simp), e0, e1, M.wrap_id (x := a + b) (by omega) (by omega), M.wrap_id (x := a * b) (by omega) (by omega)]
  | _ :: _ :: _ :: _, d => exact absurd d.1.2 (by simp)
theorem two_eq (a b c d : Int) (ha : 0 ≤ a ∧ a ≤ 1000) (hb : 0 ≤ b ∧ b ≤ 1000) (hc : 0 ≤ c ∧ c ≤ 1000) (hd : 0 ≤ d ∧ d ≤ 1000) :
    spec_l2Two.f a b c d = some (if a + b < c + d then -(M.cd (c + d - (a + b)) (c * d) (a * b)) else M.cd (a + b - (c + d)) (a * b) (c * d)) := by
  have p1 := Int.mul_le_mul ha.2 hb.2 hb.1 (by omega)
  have p0 := Int.mul_nonneg ha.1 hb.1
  have q1 := Int.mul_le_mul hc.2 hd.2 hd.1 (by omega)
  have q0 := Int.mul_nonneg hc.1 hd.1
  have ep : (4 * a) * b = 4 * (a * b) := Int.mul_assoc _ _ _
  have eq : (4 * c) * d = 4 * (c * d) := Int.mul_assoc _ _ _
  have r0 := M.cd_range (c + d - (a + b)) (c * d) (a * b)
  unfold spec_l2Two.f
  rw [M.wrap_id (x := a + b) (by omega) (by omega), M.wrap_id (x := a + b - c) (by omega) (by omega), M.wrap_id (x := a + b - c - d) (by omega) (by omega), M.wrap_id (x := 4 * a) (by omega) (by omega), M.wrap_id (x := 4 * c) (by omega) (by omega), M.wrap_id (x := 4 * a * b) (by omega) (by omega), M.wrap_id (x := 4 * c * d) (by omega) (by omega), M.wrap_id (x := 4 * a * b - 4 * c * d) (by omega) (by omega), ep, eq, M.cd_mixed _ _ _ p0, M.cd_mixed _ _ _ q0]
  rw [M.cd_mixed _ _ _ q0] at r0
  generalize a * b = P at *
  generalize c * d = Q at *
  have e1 : c + d - (a + b) = -(a + b - c - d) := by omega
  have e2 : a + b - (c + d) = a + b - c - d := by omega
  rw [e1] at r0
  rw [e1, e2]
  rw [Int.neg_mul_neg] at *
  generalize hL : a + b - c - d = L at *
  have l1 : L * L ≤ 2000 * 2000 ∧ 0 ≤ L * L := by
    rcases Int.le_total 0 L with h | h
    · exact ⟨Int.mul_le_mul (by omega) (by omega) h (by omega), Int.mul_nonneg h h⟩
    · have := Int.mul_le_mul (show -L ≤ 2000 by omega) (show -L ≤ 2000 by omega) (by omega) (by omega)
      rw [Int.neg_mul_neg] at this
      exact ⟨this, Int.mul_nonneg_of_nonpos_of_nonpos h h⟩
  have eL : (4 * L) * L = 4 * (L * L) := Int.mul_assoc _ _ _
  have m1 := Int.mul_le_mul (show L * L ≤ 4000000 by omega) (show P ≤ 1000000 by omega) p0 (by omega)
  have m0 := Int.mul_nonneg l1.2 p0
  have n1 := Int.mul_le_mul (show L * L ≤ 4000000 by omega) (show Q ≤ 1000000 by omega) q0 (by omega)
  have n0 := Int.mul_nonneg l1.2 q0
  have f1 : 4 * (L * L) * (4 * P) = 16 * (L * L * P) := by rw [Int.mul_assoc, Int.mul_left_comm (L * L)]; omega
  have f2 : 4 * (L * L) * (4 * Q) = 16 * (L * L * Q) := by rw [Int.mul_assoc, Int.mul_left_comm (L * L)]; omega
  rw [M.wrap_id (x := L * L) (by omega) (by omega), M.wrap_id (x := L * L + 4 * P) (by omega) (by omega), M.wrap_id (x := L * L + 4 * P - 4 * Q) (by omega) (by omega), M.wrap_id (x := 4 * L) (by omega) (by omega), eL, M.wrap_id (x := 4 * (L * L)) (by omega) (by omega), f1, f2, M.wrap_id (x := 16 * (L * L * P)) (by omega) (by omega), M.wrap_id (x := 16 * (L * L * Q)) (by omega) (by omega), M.wrap_id (x := L * L + 4 * Q) (by omega) (by omega), M.wrap_id (x := L * L + 4 * Q - 4 * P) (by omega) (by omega), spec_l2Sign.eq, spec_l2Mixed.eq _ _ (by omega) (by omega), spec_l2Mixed.eq _ _ (by omega) (by omega)]
  simp only [Option.bind_some]
  by_cases h0 : L = 0
  · rw [if_pos h0, if_neg (by omega), M.sgn_mixed]
    subst h0
    simp
  · by_cases h1 : L > 0
    · rw [if_neg h0, if_pos h1, if_neg (by omega)]
    · rw [if_neg h0, if_neg h1, if_pos (by omega), M.wrap_id (by omega) (by omega)]
theorem FnExactCompareRoots : laws_FnExactCompareRoots.Pure := by
  intro l m _ _
  refine ⟨3, ?_⟩
  unfold laws_FnExactCompareRoots.f
  by_cases c : (l.length : Int) > 1048576
  · rw [if_pos c]
  · by_cases c' : (m.length : Int) > 1048576
    · rw [if_neg c, if_pos c']
    · have hl : l.length ≤ 1048576 := by omega
      have hm : m.length ≤ 1048576 := by omega
      obtain ⟨r, hs, hi⟩ : ∃ r, spec_CompareRoots.f 3 l m = some r ∧ impl_CompareRoots.f 3 l m = some r := by
        unfold spec_CompareRoots.f impl_CompareRoots.f
        simp only [spec_l2Terms.eq, impl_isRooted.eq, Option.bind_some]
        cases h1 : M.rooted l with
        | false =>
          simp only [Bool.false_eq_true, if_false, spec_CompareRoots.j0, impl_CompareRoots.j0, if_true]
          exact ⟨_, rfl, rfl⟩
        | true =>
          cases h2 : M.rooted m with
          | false =>
            simp only [if_true, Bool.not_false, spec_CompareRoots.j0, impl_CompareRoots.j0]
            exact ⟨_, rfl, rfl⟩
          | true =>
            obtain ⟨a, b, ha, hb, hlp, e1, e2, e3⟩ := rooted_two l h1
            obtain ⟨c, d, hc, hd, hmp, g1, g2, g3⟩ := rooted_two m h2
            have p1 := Int.mul_le_mul ha.2 hb.2 hb.1 (by omega)
            have p0 := Int.mul_nonneg ha.1 hb.1
            have q1 := Int.mul_le_mul hc.2 hd.2 hd.1 (by omega)
            have q0 := Int.mul_nonneg hc.1 hd.1
            have r0 := M.cd_range (c + d - (a + b)) (c * d) (a * b)
            simp only [if_true, Bool.not_true, spec_CompareRoots.j0, impl_CompareRoots.j0, Bool.false_eq_true, if_false, hlp, hmp, e1, e2, e3, g1, g2, g3, Option.bind_some, two_eq a b c d ha hb hc hd]
            by_cases k : a + b < c + d
            · rw [if_pos k, if_pos k, M.wrap_id (x := c + d - (a + b)) (by omega) (by omega), impl_compareDoubled.eq _ _ _ (by omega) (by omega) (by omega)]
              simp only [Option.bind_some]
              rw [M.wrap_id (by omega) (by omega)]
              exact ⟨_, rfl, rfl⟩
            · rw [if_neg k, if_neg k, M.wrap_id (x := a + b - (c + d)) (by omega) (by omega), impl_compareDoubled.eq _ _ _ (by omega) (by omega) (by omega)]
              exact ⟨_, rfl, rfl⟩
      rw [if_neg c, if_neg c']
      simp only [laws_toIntS.eq l hl, laws_toIntS.eq m hm, Option.bind_some, hs, hi, if_true, bne_self_eq_false, laws_FnExactCompareRoots.j0, Bool.false_eq_true, if_false, laws_eqIntS.self l hl, laws_eqIntS.self m hm]
end Go.Proofs.Ytembojekkfalgaa.Pure
