/- What is known of the arguments of the law FnExactProfileOf, as they come in. Conditions: none. -/
import Derived.Test.YtnaknegnpgodkaaDoorPFnExactProfileOfx8
set_option linter.unusedVariables false
namespace Go.Proofs.YtnaknegnpgodkaaDoor.PFnExactProfileOf
open Go.RowKit Go.Proofs.YtnaknegnpgodkaaDoorW.PrintWords
/-- What is known of a value of type 29 that came in. -/
abbrev B29 (x : List (S55)) : Prop := x.length ≤ maxLen ∧ ∀ yx ∈ x, (yx.f0.size ≤ maxLen) ∧ ((Lit.int .i64 yx.f1).wf = true)
/-- What is known of a value of type 36 that came in. -/
abbrev B36 (x : List (S66)) : Prop := x.length ≤ maxLen ∧ ∀ yx ∈ x, ((Lit.int .i64 yx.f0).wf = true) ∧ ((Lit.int .i64 yx.f1).wf = true)
/-- The pure statement. -/
def laws_FnExactProfileOf.Pure : Prop := ∀ (l0 : List (S55)) (l1 : List (S66)), B29 l0 → B36 l1 → ∃ k, laws_FnExactProfileOf.f k l0 l1 = some true
end Go.Proofs.YtnaknegnpgodkaaDoor.PFnExactProfileOf
