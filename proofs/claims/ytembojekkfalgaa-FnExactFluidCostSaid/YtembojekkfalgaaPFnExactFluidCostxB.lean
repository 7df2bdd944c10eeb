/- What is known of the arguments of the law FnExactFluidCost, as they come in. Conditions: none. -/
import Derived.Test.YtembojekkfalgaaPFnExactFluidCostx5
set_option linter.unusedVariables false
namespace Go.Proofs.Ytembojekkfalgaa.PFnExactFluidCost
open Go.RowKit Go.Proofs.YtembojekkfalgaaW.PrintWords
/-- What is known of a value of type 29 that came in. -/
abbrev B29 (x : List Int) : Prop := x.length ≤ maxLen ∧ ∀ yx ∈ x, (Lit.int .i64 yx).wf = true
/-- The pure statement. -/
def laws_FnExactFluidCost.Pure : Prop := ∀ (l0 : List Int) (l1 : List Int), B29 l0 → B29 l1 → ∃ k, laws_FnExactFluidCost.f k l0 l1 = some true
end Go.Proofs.Ytembojekkfalgaa.PFnExactFluidCost
