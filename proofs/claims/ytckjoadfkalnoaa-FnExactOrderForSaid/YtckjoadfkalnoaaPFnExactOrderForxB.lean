/- What is known of the arguments of the law FnExactOrderFor, as they come in. Conditions: none. -/
import Derived.Test.YtckjoadfkalnoaaPFnExactOrderForx5
set_option linter.unusedVariables false
namespace Go.Proofs.Ytckjoadfkalnoaa.PFnExactOrderFor
open Go.RowKit Go.Proofs.YtckjoadfkalnoaaW.PrintWords
/-- What is known of a value of type 35 that came in. -/
abbrev B35 (x : List Int) : Prop := x.length ≤ maxLen ∧ ∀ yx ∈ x, (Lit.int .i64 yx).wf = true
/-- The pure statement. -/
def laws_FnExactOrderFor.Pure : Prop := ∀ (l0 : List Int) (l1 : List Int), B35 l0 → B35 l1 → ∃ k, laws_FnExactOrderFor.f k l0 l1 = some true
end Go.Proofs.Ytckjoadfkalnoaa.PFnExactOrderFor
