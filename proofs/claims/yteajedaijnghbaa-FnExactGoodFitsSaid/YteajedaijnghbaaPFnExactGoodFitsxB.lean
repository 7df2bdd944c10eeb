/- What is known of the arguments of the law FnExactGoodFits, as they come in. Conditions: none. -/
import Derived.Test.YteajedaijnghbaaPFnExactGoodFitsx2
set_option linter.unusedVariables false
namespace Go.Proofs.Yteajedaijnghbaa.PFnExactGoodFits
open Go.RowKit Go.Proofs.YteajedaijnghbaaW.PrintWords
/-- What is known of a value of type 22 that came in. -/
abbrev B22 (x : List (List Bool)) : Prop := x.length ≤ maxLen ∧ ∀ yx ∈ x, yx.length ≤ maxLen ∧ ∀ yyx ∈ yx, True
/-- The pure statement. -/
def laws_FnExactGoodFits.Pure : Prop := ∀ (l0 : List (List Bool)), B22 l0 → laws_FnExactGoodFits.f l0 = some true
end Go.Proofs.Yteajedaijnghbaa.PFnExactGoodFits
