/- What is known of the arguments of the law FnExactIsOrder, as they come in. Conditions: none. -/
import Derived.Test.YtckjoadfkalnoaaPFnExactIsOrderx2
set_option linter.unusedVariables false
namespace Go.Proofs.Ytckjoadfkalnoaa.PFnExactIsOrder
open Go.RowKit Go.Proofs.YtckjoadfkalnoaaW.PrintWords
/-- What is known of a value of type 35 that came in. -/
abbrev B35 (x : List Int) : Prop := x.length ≤ maxLen ∧ ∀ yx ∈ x, (Lit.int .i64 yx).wf = true
/-- The pure statement. -/
def laws_FnExactIsOrder.Pure : Prop := ∀ (l0 : List Int) (a1 : Int), B35 l0 → (Lit.int .i64 a1).wf = true → ∃ k, laws_FnExactIsOrder.f k l0 a1 = some true
end Go.Proofs.Ytckjoadfkalnoaa.PFnExactIsOrder
