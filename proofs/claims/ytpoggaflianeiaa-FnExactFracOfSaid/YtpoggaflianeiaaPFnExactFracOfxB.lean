/- What is known of the arguments of the law FnExactFracOf, as they come in. Conditions: none. -/
import Derived.Test.YtpoggaflianeiaaPFnExactFracOfx2
set_option linter.unusedVariables false
namespace Go.Proofs.Ytpoggaflianeiaa.PFnExactFracOf
open Go.RowKit Go.Proofs.YtpoggaflianeiaaW.PrintWords

/-- The pure statement. -/
def laws_FnExactFracOf.Pure : Prop := ∀ (a0 : Int) (a1 : Int), (Lit.int .i64 a0).wf = true → (Lit.int .i64 a1).wf = true → laws_FnExactFracOf.f a0 a1 = some true
end Go.Proofs.Ytpoggaflianeiaa.PFnExactFracOf
