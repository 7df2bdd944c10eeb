/- The pure statement of the law FnExactDropOffer: whatever came in, the law's Lean function brings true. Conditions: those that it names. -/
import Derived.Test.YtdgpplnfkifkgaaPFnExactDropOfferxB
set_option linter.unusedVariables false
namespace Go.Proofs.Ytdgpplnfkifkgaa.Pure
open Go.RowKit Go.Proofs.Ytdgpplnfkifkgaa.PFnExactDropOffer Go.Proofs.YtdgpplnfkifkgaaW.PrintWords Go.Proofs.YtdgpplnfkifkgaaW.PrintLast Go.Proofs.YtdgpplnfkifkgaaW.PrintMore
theorem FnExactDropOffer : laws_FnExactDropOffer.Pure := by
  intro l0 a1 a2 _ _ _
  rfl
end Go.Proofs.Ytdgpplnfkifkgaa.Pure
