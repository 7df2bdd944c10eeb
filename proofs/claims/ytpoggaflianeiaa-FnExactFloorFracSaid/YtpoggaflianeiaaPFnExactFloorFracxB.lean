/- What is known of the arguments of the law FnExactFloorFrac, as they come in. Conditions: none. -/
import Derived.Test.YtpoggaflianeiaaPFnExactFloorFracx1
set_option linter.unusedVariables false
namespace Go.Proofs.Ytpoggaflianeiaa.PFnExactFloorFrac
open Go.RowKit Go.Proofs.YtpoggaflianeiaaW.PrintWords
/-- What is known of a value of type 24 that came in. -/
abbrev B24 (x : S24) : Prop := ((Lit.int .i64 x.f0).wf = true) ∧ ((Lit.int .i64 x.f1).wf = true)
/-- The pure statement. -/
def laws_FnExactFloorFrac.Pure : Prop := ∀ (x0 : S24), B24 x0 → laws_FnExactFloorFrac.f x0.f0 x0.f1 = some true
end Go.Proofs.Ytpoggaflianeiaa.PFnExactFloorFrac
