/- What is known of the arguments of the law FnExactOrderCost, as they come in. Conditions: none. -/
import Derived.Test.YtckjoadfkalnoaaPFnExactOrderCostx3
set_option linter.unusedVariables false
namespace Go.Proofs.Ytckjoadfkalnoaa.PFnExactOrderCost
open Go.RowKit Go.Proofs.YtckjoadfkalnoaaW.PrintWords
/-- What is known of a value of type 35 that came in. -/
abbrev B35 (x : List Int) : Prop := x.length ≤ maxLen ∧ ∀ yx ∈ x, (Lit.int .i64 yx).wf = true
/-- The pure statement. -/
def laws_FnExactOrderCost.Pure : Prop := ∀ (l0 : List Int) (l1 : List Int) (l2 : List Int), B35 l0 → B35 l1 → B35 l2 → ∃ k, laws_FnExactOrderCost.f k l0 l1 l2 = some true
end Go.Proofs.Ytckjoadfkalnoaa.PFnExactOrderCost
