/- The pure statement of the law FnExactIsWithin: whatever came in, the law's Lean function brings true. Conditions: those that it names. -/
import Derived.Test.YteajedaijnghbaaPFnExactIsWithinxB
set_option linter.unusedVariables false
namespace Go.Proofs.Yteajedaijnghbaa.Pure
open Go.RowKit Go.Proofs.Yteajedaijnghbaa.PFnExactIsWithin Go.Proofs.YteajedaijnghbaaW.PrintWords Go.Proofs.YteajedaijnghbaaW.PrintLast Go.Proofs.YteajedaijnghbaaW.PrintMore
theorem within_both (a b c d e g : Int) : spec_IsWithin.f 1 a b c d e g = impl_IsWithin.f 1 a b c d e g ∧ ∃ r, impl_IsWithin.f 1 a b c d e g = some r := by
  unfold spec_IsWithin.f impl_IsWithin.f
  rw [spec_GoodFrac.eq, impl_GoodFrac.eq, spec_GoodBounds.eq, impl_GoodBounds.eq]
  simp only [Option.bind_some]
  cases h : M.good a b with
  | false => simp [spec_IsWithin.j0, impl_IsWithin.j0]
  | true =>
    rw [if_pos rfl, if_pos rfl]
    cases k : M.goodB c d e g with
    | false => simp [spec_IsWithin.j0, impl_IsWithin.j0]
    | true =>
      have k' := k
      unfold M.goodB at k'
      simp only [Bool.and_eq_true] at k'
      have k1 := k'.1.1
      have k2 := k'.1.2
      rw [spec_IsWithin.j0, impl_IsWithin.j0, spec_l1Less.eq h k1, spec_l1Less.eq k2 h, impl_compareFracs.eq k1 h, impl_compareFracs.eq h k2]
      unfold M.cmpF
      simp only [Bool.not_true, Bool.false_eq_true, if_false, Option.bind_some]
      by_cases c1 : a * d < c * b
      · by_cases c2 : c * b < a * d
        · omega
        · simp [c1, c2]
      · by_cases c2 : c * b < a * d
        · by_cases c3 : e * b < a * g
          · by_cases c4 : a * g < e * b
            · omega
            · simp [c1, c2, c3, c4]
          · by_cases c4 : a * g < e * b
            · simp [c1, c2, c3, c4]
            · simp [c1, c2, c3, c4]
        · by_cases c3 : e * b < a * g
          · by_cases c4 : a * g < e * b
            · omega
            · simp [c1, c2, c3, c4]
          · by_cases c4 : a * g < e * b
            · simp [c1, c2, c3, c4]
            · simp [c1, c2, c3, c4]
theorem FnExactIsWithin : laws_FnExactIsWithin.Pure := by
  intro x y _ _
  obtain ⟨h, r, k⟩ := within_both x.f0 x.f1 y.f0.f0 y.f0.f1 y.f1.f0 y.f1.f1
  refine ⟨1, ?_⟩
  unfold laws_FnExactIsWithin.f laws_toBounds.f laws_toFrac.f
  simp only [Option.bind_some, h, k]
  simp
end Go.Proofs.Yteajedaijnghbaa.Pure
