/- What is known of the arguments of the law FnExactGoodBounds, as they come in. Conditions: none. -/
import Derived.Test.YtpoggaflianeiaaPFnExactGoodBoundsx2
set_option linter.unusedVariables false
namespace Go.Proofs.Ytpoggaflianeiaa.PFnExactGoodBounds
open Go.RowKit Go.Proofs.YtpoggaflianeiaaW.PrintWords
/-- What is known of a value of type 56 that came in. -/
abbrev B56 (x : S56) : Prop := (((Lit.int .i64 x.f0.f0).wf = true) ∧ ((Lit.int .i64 x.f0.f1).wf = true)) ∧ (((Lit.int .i64 x.f1.f0).wf = true) ∧ ((Lit.int .i64 x.f1.f1).wf = true))
/-- The pure statement. -/
def laws_FnExactGoodBounds.Pure : Prop := ∀ (x0 : S56), B56 x0 → laws_FnExactGoodBounds.f x0.f0.f0 x0.f0.f1 x0.f1.f0 x0.f1.f1 = some true
end Go.Proofs.Ytpoggaflianeiaa.PFnExactGoodBounds
