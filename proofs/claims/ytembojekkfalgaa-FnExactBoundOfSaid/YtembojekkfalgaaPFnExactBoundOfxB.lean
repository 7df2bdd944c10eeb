/- What is known of the arguments of the law FnExactBoundOf, as they come in. Conditions: none. -/
import Derived.Test.YtembojekkfalgaaPFnExactBoundOfx4
set_option linter.unusedVariables false
namespace Go.Proofs.Ytembojekkfalgaa.PFnExactBoundOf
open Go.RowKit Go.Proofs.YtembojekkfalgaaW.PrintWords
/-- What is known of a value of type 22 that came in. -/
abbrev B22 (x : List (S78)) : Prop := x.length ≤ maxLen ∧ ∀ yx ∈ x, (yx.f0.length ≤ maxLen ∧ ∀ yyxf0 ∈ yx.f0, (Lit.int .i64 yyxf0).wf = true)
/-- The pure statement. -/
def laws_FnExactBoundOf.Pure : Prop := ∀ (l0 : List (S78)) (a1 : Int), B22 l0 → (Lit.int .i64 a1).wf = true → ∃ k, laws_FnExactBoundOf.f k l0 a1 = some true
end Go.Proofs.Ytembojekkfalgaa.PFnExactBoundOf
