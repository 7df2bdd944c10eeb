/- What is known of the arguments of the law FnExactCostOf, as they come in. Conditions: none. -/
import Derived.Test.YtkeakcbhohodlaaPFnExactCostOfx6
set_option linter.unusedVariables false
namespace Go.Proofs.Ytkeakcbhohodlaa.PFnExactCostOf
open Go.RowKit Go.Proofs.YtkeakcbhohodlaaW.PrintWords
/-- What is known of a value of type 22 that came in. -/
abbrev B22 (x : List Int) : Prop := x.length ≤ maxLen ∧ ∀ yx ∈ x, (Lit.int .i64 yx).wf = true
/-- The pure statement. -/
def laws_FnExactCostOf.Pure : Prop := ∀ (l0 : List Int) (l1 : List Int), B22 l0 → B22 l1 → ∃ k, laws_FnExactCostOf.f k l0 l1 = some true
end Go.Proofs.Ytkeakcbhohodlaa.PFnExactCostOf
