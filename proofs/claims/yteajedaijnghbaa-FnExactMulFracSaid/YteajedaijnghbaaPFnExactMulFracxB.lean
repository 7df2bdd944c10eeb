/- What is known of the arguments of the law FnExactMulFrac, as they come in. Conditions: none. -/
import Derived.Test.YteajedaijnghbaaPFnExactMulFracx3
set_option linter.unusedVariables false
namespace Go.Proofs.Yteajedaijnghbaa.PFnExactMulFrac
open Go.RowKit Go.Proofs.YteajedaijnghbaaW.PrintWords
/-- What is known of a value of type 35 that came in. -/
abbrev B35 (x : S35) : Prop := ((Lit.int .i64 x.f0).wf = true) ∧ ((Lit.int .i64 x.f1).wf = true)
/-- The pure statement. -/
def laws_FnExactMulFrac.Pure : Prop := ∀ (x0 : S35) (x1 : S35), B35 x0 → B35 x1 → laws_FnExactMulFrac.f x0.f0 x0.f1 x1.f0 x1.f1 = some true
end Go.Proofs.Yteajedaijnghbaa.PFnExactMulFrac
