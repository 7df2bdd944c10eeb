/- What is known of the arguments of the law FnExactRootOf, as they come in. Conditions: none. -/
import Derived.Test.YtpoggaflianeiaaPFnExactRootOfx1
set_option linter.unusedVariables false
namespace Go.Proofs.Ytpoggaflianeiaa.PFnExactRootOf
open Go.RowKit Go.Proofs.YtpoggaflianeiaaW.PrintWords

/-- The pure statement. -/
def laws_FnExactRootOf.Pure : Prop := ∀ (a0 : Int), (Lit.int .i64 a0).wf = true → laws_FnExactRootOf.f a0 = some true
end Go.Proofs.Ytpoggaflianeiaa.PFnExactRootOf
