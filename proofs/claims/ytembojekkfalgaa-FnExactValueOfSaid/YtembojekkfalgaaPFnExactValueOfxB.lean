/- What is known of the arguments of the law FnExactValueOf, as they come in. Conditions: none. -/
import Derived.Test.YtembojekkfalgaaPFnExactValueOfx4
set_option linter.unusedVariables false
namespace Go.Proofs.Ytembojekkfalgaa.PFnExactValueOf
open Go.RowKit Go.Proofs.YtembojekkfalgaaW.PrintWords
/-- What is known of a value of type 22 that came in. -/
abbrev B22 (x : List (S78)) : Prop := x.length ≤ maxLen ∧ ∀ yx ∈ x, (yx.f0.length ≤ maxLen ∧ ∀ yyxf0 ∈ yx.f0, (Lit.int .i64 yyxf0).wf = true)
/-- What is known of a value of type 29 that came in. -/
abbrev B29 (x : List Int) : Prop := x.length ≤ maxLen ∧ ∀ yx ∈ x, (Lit.int .i64 yx).wf = true
/-- The pure statement. -/
def laws_FnExactValueOf.Pure : Prop := ∀ (l0 : List (S78)) (l1 : List Int), B22 l0 → B29 l1 → ∃ k, laws_FnExactValueOf.f k l0 l1 = some true
end Go.Proofs.Ytembojekkfalgaa.PFnExactValueOf
