/- The pure statement of the law FnExactAddFrac: whatever came in, the law's Lean function brings true. Conditions: those that it names. -/
import Derived.Test.YteajedaijnghbaaPFnExactAddFracxB
set_option linter.unusedVariables false
namespace Go.Proofs.Yteajedaijnghbaa.Pure
open Go.RowKit Go.Proofs.Yteajedaijnghbaa.PFnExactAddFrac Go.Proofs.YteajedaijnghbaaW.PrintWords Go.Proofs.YteajedaijnghbaaW.PrintLast Go.Proofs.YteajedaijnghbaaW.PrintMore
theorem FnExactAddFrac : laws_FnExactAddFrac.Pure := by
  intro x y _ _
  have key : ∀ x y : Int, laws_eqFrac.f x y x y = some true := by intro x y; unfold laws_eqFrac.f; rw [if_pos rfl, if_pos rfl]
  unfold laws_FnExactAddFrac.f laws_toFrac.f
  simp only [Option.bind_some, spec_AddFrac.eq, impl_AddFrac.eq, key, if_true]
  simp
end Go.Proofs.Yteajedaijnghbaa.Pure
