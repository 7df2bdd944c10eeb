/- What is known of the arguments of the law FnExactSmithOrder, as they come in. Conditions: none. -/
import Derived.Test.YtckjoadfkalnoaaPFnExactSmithOrderx4
set_option linter.unusedVariables false
namespace Go.Proofs.Ytckjoadfkalnoaa.PFnExactSmithOrder
open Go.RowKit Go.Proofs.YtckjoadfkalnoaaW.PrintWords
/-- What is known of a value of type 57 that came in. -/
abbrev B57 (x : List (S97)) : Prop := x.length ≤ maxLen ∧ ∀ yx ∈ x, ((Lit.int .i64 yx.f0).wf = true) ∧ ((Lit.int .i64 yx.f1).wf = true)
/-- The pure statement. -/
def laws_FnExactSmithOrder.Pure : Prop := ∀ (l0 : List (S97)), B57 l0 → ∃ k, laws_FnExactSmithOrder.f k l0 = some true
end Go.Proofs.Ytckjoadfkalnoaa.PFnExactSmithOrder
