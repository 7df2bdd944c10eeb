/- What is known of the arguments of the law FnExactFracText, as they come in. Conditions: none. -/
import Derived.Test.YtnaknegnpgodkaaDoorPFnExactFracTextx2
set_option linter.unusedVariables false
namespace Go.Proofs.YtnaknegnpgodkaaDoor.PFnExactFracText
open Go.RowKit Go.Proofs.YtnaknegnpgodkaaDoorW.PrintWords
/-- What is known of a value of type 23 that came in. -/
abbrev B23 (x : S23) : Prop := ((Lit.int .i64 x.f0).wf = true) ∧ ((Lit.int .i64 x.f1).wf = true)
/-- The pure statement. -/
def laws_FnExactFracText.Pure : Prop := ∀ (x0 : S23), B23 x0 → laws_FnExactFracText.f x0.f0 x0.f1 = some true
end Go.Proofs.YtnaknegnpgodkaaDoor.PFnExactFracText
