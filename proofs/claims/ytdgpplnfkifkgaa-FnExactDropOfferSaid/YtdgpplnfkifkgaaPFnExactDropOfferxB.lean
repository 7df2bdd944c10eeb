/- What is known of the arguments of the law FnExactDropOffer, as they come in. Conditions: none. -/
import Derived.Test.YtdgpplnfkifkgaaPFnExactDropOfferx5
set_option linter.unusedVariables false
namespace Go.Proofs.Ytdgpplnfkifkgaa.PFnExactDropOffer
open Go.RowKit Go.Proofs.YtdgpplnfkifkgaaW.PrintWords
/-- What is known of a value of type 33 that came in. -/
abbrev B33 (x : List (S54)) : Prop := x.length ≤ maxLen ∧ ∀ yx ∈ x, (yx.f0.length ≤ maxLen ∧ ∀ yyxf0 ∈ yx.f0, (Lit.int .i64 yyxf0).wf = true)
/-- The pure statement. -/
def laws_FnExactDropOffer.Pure : Prop := ∀ (l0 : List (S54)) (a1 : Int) (a2 : Int), B33 l0 → (Lit.int .i64 a1).wf = true → (Lit.int .i64 a2).wf = true → laws_FnExactDropOffer.f l0 a1 a2 = some true
end Go.Proofs.Ytdgpplnfkifkgaa.PFnExactDropOffer
