/- The pure statement of the law FnExactMulFrac: whatever came in, the law's Lean function brings true. Conditions: those that it names. -/
import Derived.Test.YteajedaijnghbaaPFnExactMulFracxB
set_option linter.unusedVariables false
namespace Go.Proofs.Yteajedaijnghbaa.Pure
open Go.RowKit Go.Proofs.Yteajedaijnghbaa.PFnExactMulFrac Go.Proofs.YteajedaijnghbaaW.PrintWords Go.Proofs.YteajedaijnghbaaW.PrintLast Go.Proofs.YteajedaijnghbaaW.PrintMore
theorem FnExactMulFrac : laws_FnExactMulFrac.Pure := by
  intro x y _ _
  have key : ∀ x y : Int, laws_eqFrac.f x y x y = some true := by intro x y; unfold laws_eqFrac.f; rw [if_pos rfl, if_pos rfl]
  unfold laws_FnExactMulFrac.f laws_toFrac.f
  simp only [Option.bind_some, spec_MulFrac.eq, impl_MulFrac.eq, key, if_true]
  simp
end Go.Proofs.Yteajedaijnghbaa.Pure
