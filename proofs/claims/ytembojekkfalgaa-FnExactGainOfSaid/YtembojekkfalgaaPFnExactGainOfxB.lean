/- What is known of the arguments of the law FnExactGainOf, as they come in. Conditions: none. -/
import Derived.Test.YtembojekkfalgaaPFnExactGainOfx5
set_option linter.unusedVariables false
namespace Go.Proofs.Ytembojekkfalgaa.PFnExactGainOf
open Go.RowKit Go.Proofs.YtembojekkfalgaaW.PrintWords
/-- What is known of a value of type 29 that came in. -/
abbrev B29 (x : List Int) : Prop := x.length ≤ maxLen ∧ ∀ yx ∈ x, (Lit.int .i64 yx).wf = true
/-- The pure statement. -/
def laws_FnExactGainOf.Pure : Prop := ∀ (l0 : List Int) (l1 : List Int) (a2 : Int), B29 l0 → B29 l1 → (Lit.int .i64 a2).wf = true → ∃ k, laws_FnExactGainOf.f k l0 l1 a2 = some true
end Go.Proofs.Ytembojekkfalgaa.PFnExactGainOf
