/- What is known of the arguments of the law FnExactTimeParts, as they come in. Conditions: none. -/
import Derived.Test.YteajedaijnghbaaPFnExactTimePartsx3
set_option linter.unusedVariables false
namespace Go.Proofs.Yteajedaijnghbaa.PFnExactTimeParts
open Go.RowKit Go.Proofs.YteajedaijnghbaaW.PrintWords
/-- What is known of a value of type 27 that came in. -/
abbrev B27 (x : List Int) : Prop := x.length ≤ maxLen ∧ ∀ yx ∈ x, (Lit.int .i64 yx).wf = true
/-- The pure statement. -/
def laws_FnExactTimeParts.Pure : Prop := ∀ (l0 : List Int) (a1 : Int), B27 l0 → (Lit.int .i64 a1).wf = true → ∃ k, laws_FnExactTimeParts.f k l0 a1 = some true
end Go.Proofs.Yteajedaijnghbaa.PFnExactTimeParts
