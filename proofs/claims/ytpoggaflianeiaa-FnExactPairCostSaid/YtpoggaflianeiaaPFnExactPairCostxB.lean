/- What is known of the arguments of the law FnExactPairCost, as they come in. Conditions: none. -/
import Derived.Test.YtpoggaflianeiaaPFnExactPairCostx2
set_option linter.unusedVariables false
namespace Go.Proofs.Ytpoggaflianeiaa.PFnExactPairCost
open Go.RowKit Go.Proofs.YtpoggaflianeiaaW.PrintWords
/-- What is known of a value of type 34 that came in. -/
abbrev B34 (x : List Int) : Prop := x.length ≤ maxLen ∧ ∀ yx ∈ x, (Lit.int .i64 yx).wf = true
/-- The pure statement. -/
def laws_FnExactPairCost.Pure : Prop := ∀ (l0 : List Int) (l1 : List Int), B34 l0 → B34 l1 → ∃ k, laws_FnExactPairCost.f k l0 l1 = some true
end Go.Proofs.Ytpoggaflianeiaa.PFnExactPairCost
