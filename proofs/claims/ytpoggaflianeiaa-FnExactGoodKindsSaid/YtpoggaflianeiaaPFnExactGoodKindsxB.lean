/- What is known of the arguments of the law FnExactGoodKinds, as they come in. Conditions: none. -/
import Derived.Test.YtpoggaflianeiaaPFnExactGoodKindsx2
set_option linter.unusedVariables false
namespace Go.Proofs.Ytpoggaflianeiaa.PFnExactGoodKinds
open Go.RowKit Go.Proofs.YtpoggaflianeiaaW.PrintWords
/-- What is known of a value of type 34 that came in. -/
abbrev B34 (x : List Int) : Prop := x.length ≤ maxLen ∧ ∀ yx ∈ x, (Lit.int .i64 yx).wf = true
/-- The pure statement. -/
def laws_FnExactGoodKinds.Pure : Prop := ∀ (l0 : List Int) (a1 : Int), B34 l0 → (Lit.int .i64 a1).wf = true → laws_FnExactGoodKinds.f l0 a1 = some true
end Go.Proofs.Ytpoggaflianeiaa.PFnExactGoodKinds
