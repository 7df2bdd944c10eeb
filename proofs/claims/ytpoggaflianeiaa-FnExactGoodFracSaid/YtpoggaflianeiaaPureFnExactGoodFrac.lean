/- The pure statement of the law FnExactGoodFrac: whatever came in, the law's Lean function brings true. Conditions: those that it names. -/
import Derived.Test.YtpoggaflianeiaaPFnExactGoodFracxB
set_option linter.unusedVariables false
namespace Go.Proofs.Ytpoggaflianeiaa.Pure
open Go.RowKit Go.Proofs.Ytpoggaflianeiaa.PFnExactGoodFrac Go.Proofs.YtpoggaflianeiaaW.PrintWords Go.Proofs.YtpoggaflianeiaaW.PrintLast Go.Proofs.YtpoggaflianeiaaW.PrintMore
theorem FnExactGoodFrac : laws_FnExactGoodFrac.Pure := by
  intro x _
  unfold laws_FnExactGoodFrac.f laws_toFrac.f
  simp only [Option.bind_some, spec_GoodFrac.eq, impl_GoodFrac.eq]
  simp
end Go.Proofs.Ytpoggaflianeiaa.Pure
