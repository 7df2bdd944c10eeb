/- What is known of the arguments of the law FnExactIsMatching, as they come in. Conditions: none. -/
import Derived.Test.YtembojekkfalgaaPFnExactIsMatchingx4
set_option linter.unusedVariables false
namespace Go.Proofs.Ytembojekkfalgaa.PFnExactIsMatching
open Go.RowKit Go.Proofs.YtembojekkfalgaaW.PrintWords
/-- What is known of a value of type 29 that came in. -/
abbrev B29 (x : List Int) : Prop := x.length ≤ maxLen ∧ ∀ yx ∈ x, (Lit.int .i64 yx).wf = true
/-- What is known of a value of type 55 that came in. -/
abbrev B55 (x : List (List Bool)) : Prop := x.length ≤ maxLen ∧ ∀ yx ∈ x, yx.length ≤ maxLen ∧ ∀ yyx ∈ yx, True
/-- The pure statement. -/
def laws_FnExactIsMatching.Pure : Prop := ∀ (l0 : List (List Bool)) (l1 : List Int), B55 l0 → B29 l1 → ∃ k, laws_FnExactIsMatching.f k l0 l1 = some true
end Go.Proofs.Ytembojekkfalgaa.PFnExactIsMatching
