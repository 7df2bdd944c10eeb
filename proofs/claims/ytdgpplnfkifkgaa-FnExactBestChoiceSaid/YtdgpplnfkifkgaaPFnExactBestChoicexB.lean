/- What is known of the arguments of the law FnExactBestChoice, as they come in. Conditions: none. -/
import Derived.Test.YtdgpplnfkifkgaaPFnExactBestChoicex7
set_option linter.unusedVariables false
namespace Go.Proofs.Ytdgpplnfkifkgaa.PFnExactBestChoice
open Go.RowKit Go.Proofs.YtdgpplnfkifkgaaW.PrintWords
/-- What is known of a value of type 33 that came in. -/
abbrev B33 (x : List (S54)) : Prop := x.length ≤ maxLen ∧ ∀ yx ∈ x, (yx.f0.length ≤ maxLen ∧ ∀ yyxf0 ∈ yx.f0, (Lit.int .i64 yyxf0).wf = true)
/-- The pure statement. -/
def laws_FnExactBestChoice.Pure : Prop := ∀ (l0 : List (S54)) (a1 : Int), B33 l0 → (Lit.int .i64 a1).wf = true → laws_FnExactBestChoice.f l0 a1 = some true
end Go.Proofs.Ytdgpplnfkifkgaa.PFnExactBestChoice
