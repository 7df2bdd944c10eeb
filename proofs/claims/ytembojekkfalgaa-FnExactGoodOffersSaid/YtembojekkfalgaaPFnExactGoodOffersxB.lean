/- What is known of the arguments of the law FnExactGoodOffers, as they come in. Conditions: none. -/
import Derived.Test.YtembojekkfalgaaPFnExactGoodOffersx3
set_option linter.unusedVariables false
namespace Go.Proofs.Ytembojekkfalgaa.PFnExactGoodOffers
open Go.RowKit Go.Proofs.YtembojekkfalgaaW.PrintWords
/-- What is known of a value of type 22 that came in. -/
abbrev B22 (x : List (S78)) : Prop := x.length ≤ maxLen ∧ ∀ yx ∈ x, (yx.f0.length ≤ maxLen ∧ ∀ yyxf0 ∈ yx.f0, (Lit.int .i64 yyxf0).wf = true)
/-- The pure statement. -/
def laws_FnExactGoodOffers.Pure : Prop := ∀ (l0 : List (S78)), B22 l0 → laws_FnExactGoodOffers.f l0 = some true
end Go.Proofs.Ytembojekkfalgaa.PFnExactGoodOffers
