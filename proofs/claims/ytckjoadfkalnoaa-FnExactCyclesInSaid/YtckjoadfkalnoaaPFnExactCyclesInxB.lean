/- What is known of the arguments of the law FnExactCyclesIn, as they come in. Conditions: none. -/
import Derived.Test.YtckjoadfkalnoaaPFnExactCyclesInx3
set_option linter.unusedVariables false
namespace Go.Proofs.Ytckjoadfkalnoaa.PFnExactCyclesIn
open Go.RowKit Go.Proofs.YtckjoadfkalnoaaW.PrintWords
/-- What is known of a value of type 35 that came in. -/
abbrev B35 (x : List Int) : Prop := x.length ≤ maxLen ∧ ∀ yx ∈ x, (Lit.int .i64 yx).wf = true
/-- The pure statement. -/
def laws_FnExactCyclesIn.Pure : Prop := ∀ (l0 : List Int), B35 l0 → ∃ k, laws_FnExactCyclesIn.f k l0 = some true
end Go.Proofs.Ytckjoadfkalnoaa.PFnExactCyclesIn
