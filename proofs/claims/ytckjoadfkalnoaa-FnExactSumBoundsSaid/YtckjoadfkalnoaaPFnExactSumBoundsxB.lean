/- What is known of the arguments of the law FnExactSumBounds, as they come in. Conditions: none. -/
import Derived.Test.YtckjoadfkalnoaaPFnExactSumBoundsx6
set_option linter.unusedVariables false
namespace Go.Proofs.Ytckjoadfkalnoaa.PFnExactSumBounds
open Go.RowKit Go.Proofs.YtckjoadfkalnoaaW.PrintWords
/-- What is known of a value of type 22 that came in. -/
abbrev B22 (x : List (S82)) : Prop := x.length ≤ maxLen ∧ ∀ yx ∈ x, (((Lit.int .i64 yx.f0.f0).wf = true) ∧ ((Lit.int .i64 yx.f0.f1).wf = true)) ∧ (((Lit.int .i64 yx.f1.f0).wf = true) ∧ ((Lit.int .i64 yx.f1.f1).wf = true))
/-- The pure statement. -/
def laws_FnExactSumBounds.Pure : Prop := ∀ (l0 : List (S82)), B22 l0 → ∃ k, laws_FnExactSumBounds.f k l0 = some true
end Go.Proofs.Ytckjoadfkalnoaa.PFnExactSumBounds
