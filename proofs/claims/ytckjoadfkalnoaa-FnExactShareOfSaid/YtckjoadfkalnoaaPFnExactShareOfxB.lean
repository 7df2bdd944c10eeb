/- What is known of the arguments of the law FnExactShareOf, as they come in. Conditions: none. -/
import Derived.Test.YtckjoadfkalnoaaPFnExactShareOfx7
set_option linter.unusedVariables false
namespace Go.Proofs.Ytckjoadfkalnoaa.PFnExactShareOf
open Go.RowKit Go.Proofs.YtckjoadfkalnoaaW.PrintWords
/-- What is known of a value of type 45 that came in. -/
abbrev B45 (x : S45) : Prop := (x.f0.length ≤ maxLen ∧ ∀ yxf0 ∈ x.f0, (Lit.int .i64 yxf0).wf = true) ∧ (x.f1.length ≤ maxLen ∧ ∀ yxf1 ∈ x.f1, (Lit.int .i64 yxf1).wf = true)
/-- The pure statement. -/
def laws_FnExactShareOf.Pure : Prop := ∀ (x0 : S45) (a1 : Int), B45 x0 → (Lit.int .i64 a1).wf = true → ∃ k, laws_FnExactShareOf.f k x0.f0 x0.f1 a1 = some true
end Go.Proofs.Ytckjoadfkalnoaa.PFnExactShareOf
