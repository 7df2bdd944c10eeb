/- What is known of the arguments of the law FnExactRootParts, as they come in. Conditions: none. -/
import Derived.Test.YtembojekkfalgaaPFnExactRootPartsx4
set_option linter.unusedVariables false
namespace Go.Proofs.Ytembojekkfalgaa.PFnExactRootParts
open Go.RowKit Go.Proofs.YtembojekkfalgaaW.PrintWords
/-- What is known of a value of type 29 that came in. -/
abbrev B29 (x : List Int) : Prop := x.length ≤ maxLen ∧ ∀ yx ∈ x, (Lit.int .i64 yx).wf = true
/-- The pure statement. -/
def laws_FnExactRootParts.Pure : Prop := ∀ (l0 : List Int) (a1 : Int), B29 l0 → (Lit.int .i64 a1).wf = true → ∃ k, laws_FnExactRootParts.f k l0 a1 = some true
end Go.Proofs.Ytembojekkfalgaa.PFnExactRootParts
