/- What is known of the arguments of the law FnExactSumFracs, as they come in. Conditions: none. -/
import Derived.Test.YtembojekkfalgaaPFnExactSumFracsx4
set_option linter.unusedVariables false
namespace Go.Proofs.Ytembojekkfalgaa.PFnExactSumFracs
open Go.RowKit Go.Proofs.YtembojekkfalgaaW.PrintWords
/-- What is known of a value of type 48 that came in. -/
abbrev B48 (x : List (S101)) : Prop := x.length ≤ maxLen ∧ ∀ yx ∈ x, ((Lit.int .i64 yx.f0).wf = true) ∧ ((Lit.int .i64 yx.f1).wf = true)
/-- The pure statement. -/
def laws_FnExactSumFracs.Pure : Prop := ∀ (l0 : List (S101)), B48 l0 → ∃ k, laws_FnExactSumFracs.f k l0 = some true
end Go.Proofs.Ytembojekkfalgaa.PFnExactSumFracs
