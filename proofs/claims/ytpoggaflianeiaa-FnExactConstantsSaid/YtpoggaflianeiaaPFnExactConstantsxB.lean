/- What is known of the arguments of the law FnExactConstants, as they come in. Conditions: none. -/
import Derived.Test.YtpoggaflianeiaaPFnExactConstantsx1
set_option linter.unusedVariables false
namespace Go.Proofs.Ytpoggaflianeiaa.PFnExactConstants
open Go.RowKit Go.Proofs.YtpoggaflianeiaaW.PrintWords

/-- The pure statement. -/
def laws_FnExactConstants.Pure : Prop := laws_FnExactConstants.f  = some true
end Go.Proofs.Ytpoggaflianeiaa.PFnExactConstants
