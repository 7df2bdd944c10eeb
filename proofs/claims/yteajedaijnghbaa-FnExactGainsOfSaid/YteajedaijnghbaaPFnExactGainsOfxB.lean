/- What is known of the arguments of the law FnExactGainsOf, as they come in. Conditions: none. -/
import Derived.Test.YteajedaijnghbaaPFnExactGainsOfx3
set_option linter.unusedVariables false
namespace Go.Proofs.Yteajedaijnghbaa.PFnExactGainsOf
open Go.RowKit Go.Proofs.YteajedaijnghbaaW.PrintWords

/-- The pure statement. -/
def laws_FnExactGainsOf.Pure : Prop := ∀ (a0 : Int) (a1 : Int) (a2 : Int) (a3 : Int), (Lit.int .i64 a0).wf = true → (Lit.int .i64 a1).wf = true → (Lit.int .i64 a2).wf = true → (Lit.int .i64 a3).wf = true → ∃ k, laws_FnExactGainsOf.f k a0 a1 a2 a3 = some true
end Go.Proofs.Yteajedaijnghbaa.PFnExactGainsOf
