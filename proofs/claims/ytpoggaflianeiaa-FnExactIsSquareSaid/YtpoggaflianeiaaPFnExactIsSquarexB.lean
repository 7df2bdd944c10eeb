/- What is known of the arguments of the law FnExactIsSquare, as they come in. Conditions: none. -/
import Derived.Test.YtpoggaflianeiaaPFnExactIsSquarex1
set_option linter.unusedVariables false
namespace Go.Proofs.Ytpoggaflianeiaa.PFnExactIsSquare
open Go.RowKit Go.Proofs.YtpoggaflianeiaaW.PrintWords

/-- The pure statement. -/
def laws_FnExactIsSquare.Pure : Prop := ∀ (a0 : Int), (Lit.int .i64 a0).wf = true → laws_FnExactIsSquare.f a0 = some true
end Go.Proofs.Ytpoggaflianeiaa.PFnExactIsSquare
