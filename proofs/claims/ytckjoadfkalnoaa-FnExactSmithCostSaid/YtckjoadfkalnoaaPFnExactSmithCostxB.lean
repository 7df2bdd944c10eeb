/- What is known of the arguments of the law FnExactSmithCost, as they come in. Conditions: none. -/
import Derived.Test.YtckjoadfkalnoaaPFnExactSmithCostx4
set_option linter.unusedVariables false
namespace Go.Proofs.Ytckjoadfkalnoaa.PFnExactSmithCost
open Go.RowKit Go.Proofs.YtckjoadfkalnoaaW.PrintWords
/-- What is known of a value of type 35 that came in. -/
abbrev B35 (x : List Int) : Prop := x.length ≤ maxLen ∧ ∀ yx ∈ x, (Lit.int .i64 yx).wf = true
/-- What is known of a value of type 57 that came in. -/
abbrev B57 (x : List (S97)) : Prop := x.length ≤ maxLen ∧ ∀ yx ∈ x, ((Lit.int .i64 yx.f0).wf = true) ∧ ((Lit.int .i64 yx.f1).wf = true)
/-- The pure statement. -/
def laws_FnExactSmithCost.Pure : Prop := ∀ (l0 : List (S97)) (l1 : List Int), B57 l0 → B35 l1 → ∃ k, laws_FnExactSmithCost.f k l0 l1 = some true
end Go.Proofs.Ytckjoadfkalnoaa.PFnExactSmithCost
