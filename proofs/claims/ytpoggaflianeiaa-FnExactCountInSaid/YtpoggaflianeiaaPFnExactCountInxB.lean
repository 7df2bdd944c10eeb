/- What is known of the arguments of the law FnExactCountIn, as they come in. Conditions: none. -/
import Derived.Test.YtpoggaflianeiaaPFnExactCountInx2
set_option linter.unusedVariables false
namespace Go.Proofs.Ytpoggaflianeiaa.PFnExactCountIn
open Go.RowKit Go.Proofs.YtpoggaflianeiaaW.PrintWords
/-- What is known of a value of type 34 that came in. -/
abbrev B34 (x : List Int) : Prop := x.length ≤ maxLen ∧ ∀ yx ∈ x, (Lit.int .i64 yx).wf = true
/-- The pure statement. -/
def laws_FnExactCountIn.Pure : Prop := ∀ (l0 : List Int), B34 l0 → ∃ k, laws_FnExactCountIn.f k l0 = some true
end Go.Proofs.Ytpoggaflianeiaa.PFnExactCountIn
