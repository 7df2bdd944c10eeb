/- What is known of the arguments of the law FnExactSwapGain, as they come in. Conditions: none. -/
import Derived.Test.YtckjoadfkalnoaaPFnExactSwapGainx4
set_option linter.unusedVariables false
namespace Go.Proofs.Ytckjoadfkalnoaa.PFnExactSwapGain
open Go.RowKit Go.Proofs.YtckjoadfkalnoaaW.PrintWords
/-- What is known of a value of type 35 that came in. -/
abbrev B35 (x : List Int) : Prop := x.length ≤ maxLen ∧ ∀ yx ∈ x, (Lit.int .i64 yx).wf = true
/-- The pure statement. -/
def laws_FnExactSwapGain.Pure : Prop := ∀ (l0 : List Int) (l1 : List Int) (l2 : List Int) (a3 : Int) (a4 : Int), B35 l0 → B35 l1 → B35 l2 → (Lit.int .i64 a3).wf = true → (Lit.int .i64 a4).wf = true → ∃ k, laws_FnExactSwapGain.f k l0 l1 l2 a3 a4 = some true
end Go.Proofs.Ytckjoadfkalnoaa.PFnExactSwapGain
