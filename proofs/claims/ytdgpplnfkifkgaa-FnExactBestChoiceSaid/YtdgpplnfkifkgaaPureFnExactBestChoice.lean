/- The pure statement of the law FnExactBestChoice: whatever came in, the law's Lean function brings true. Conditions: those that it names. -/
import Derived.Test.YtdgpplnfkifkgaaPFnExactBestChoicexB
set_option linter.unusedVariables false
namespace Go.Proofs.Ytdgpplnfkifkgaa.Pure
open Go.RowKit Go.Proofs.Ytdgpplnfkifkgaa.PFnExactBestChoice Go.Proofs.YtdgpplnfkifkgaaW.PrintWords Go.Proofs.YtdgpplnfkifkgaaW.PrintLast Go.Proofs.YtdgpplnfkifkgaaW.PrintMore
theorem FnExactBestChoice : laws_FnExactBestChoice.Pure := by
  intro l0 a1 _ _
  rfl
end Go.Proofs.Ytdgpplnfkifkgaa.Pure
