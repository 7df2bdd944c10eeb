/- What is known of the arguments of the law FnExactGoodGoods, as they come in. Conditions: none. -/
import Derived.Test.YtnaknegnpgodkaaDoorPFnExactGoodGoodsx3
set_option linter.unusedVariables false
namespace Go.Proofs.YtnaknegnpgodkaaDoor.PFnExactGoodGoods
open Go.RowKit Go.Proofs.YtnaknegnpgodkaaDoorW.PrintWords
/-- What is known of a value of type 29 that came in. -/
abbrev B29 (x : List (S55)) : Prop := x.length ≤ maxLen ∧ ∀ yx ∈ x, (yx.f0.size ≤ maxLen) ∧ ((Lit.int .i64 yx.f1).wf = true)
/-- The pure statement. -/
def laws_FnExactGoodGoods.Pure : Prop := ∀ (l0 : List (S55)), B29 l0 → laws_FnExactGoodGoods.f l0 = some true
end Go.Proofs.YtnaknegnpgodkaaDoor.PFnExactGoodGoods
