/- The pure statement of the law FnExactAddProfiles: whatever came in, the law's Lean function brings true. Conditions: those that it names. -/
import Derived.Test.YtdgpplnfkifkgaaPFnExactAddProfilesxB
set_option linter.unusedVariables false
namespace Go.Proofs.Ytdgpplnfkifkgaa.Pure
open Go.RowKit Go.Proofs.Ytdgpplnfkifkgaa.PFnExactAddProfiles Go.Proofs.YtdgpplnfkifkgaaW.PrintWords Go.Proofs.YtdgpplnfkifkgaaW.PrintLast Go.Proofs.YtdgpplnfkifkgaaW.PrintMore
theorem FnExactAddProfiles : laws_FnExactAddProfiles.Pure := by
  intro x0 x1 _ _
  rfl
end Go.Proofs.Ytdgpplnfkifkgaa.Pure
