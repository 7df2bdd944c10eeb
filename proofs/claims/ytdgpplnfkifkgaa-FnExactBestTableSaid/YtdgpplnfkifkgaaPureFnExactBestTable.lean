/- The pure statement of the law FnExactBestTable: whatever came in, the law's Lean function brings true. Conditions: those that it names. -/
import Derived.Test.YtdgpplnfkifkgaaPFnExactBestTablexB
set_option linter.unusedVariables false
namespace Go.Proofs.Ytdgpplnfkifkgaa.Pure
open Go.RowKit Go.Proofs.Ytdgpplnfkifkgaa.PFnExactBestTable Go.Proofs.YtdgpplnfkifkgaaW.PrintWords Go.Proofs.YtdgpplnfkifkgaaW.PrintLast Go.Proofs.YtdgpplnfkifkgaaW.PrintMore
theorem FnExactBestTable : laws_FnExactBestTable.Pure := by
  intro l0 a1 _ _
  rfl
end Go.Proofs.Ytdgpplnfkifkgaa.Pure
