/- What is known of the arguments of the law FnExactLessFrac, as they come in. Conditions: none. -/
import Derived.Test.YtpoggaflianeiaaPFnExactLessFracx2
set_option linter.unusedVariables false
namespace Go.Proofs.Ytpoggaflianeiaa.PFnExactLessFrac
open Go.RowKit Go.Proofs.YtpoggaflianeiaaW.PrintWords
/-- What is known of a value of type 24 that came in. -/
abbrev B24 (x : S24) : Prop := ((Lit.int .i64 x.f0).wf = true) ∧ ((Lit.int .i64 x.f1).wf = true)
/-- The pure statement. -/
def laws_FnExactLessFrac.Pure : Prop := ∀ (x0 : S24) (x1 : S24), B24 x0 → B24 x1 → laws_FnExactLessFrac.f x0.f0 x0.f1 x1.f0 x1.f1 = some true
end Go.Proofs.Ytpoggaflianeiaa.PFnExactLessFrac
