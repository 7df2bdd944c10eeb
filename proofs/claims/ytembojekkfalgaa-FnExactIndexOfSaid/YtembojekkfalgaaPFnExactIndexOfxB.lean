/- What is known of the arguments of the law FnExactIndexOf, as they come in. Conditions: none. -/
import Derived.Test.YtembojekkfalgaaPFnExactIndexOfx5
set_option linter.unusedVariables false
namespace Go.Proofs.Ytembojekkfalgaa.PFnExactIndexOf
open Go.RowKit Go.Proofs.YtembojekkfalgaaW.PrintWords
/-- What is known of a value of type 64 that came in. -/
abbrev B64 (x : S64) : Prop := (x.f0.length ≤ maxLen ∧ ∀ yxf0 ∈ x.f0, (Lit.int .i64 yxf0).wf = true) ∧ (x.f1.length ≤ maxLen ∧ ∀ yxf1 ∈ x.f1, (Lit.int .i64 yxf1).wf = true)
/-- The pure statement. -/
def laws_FnExactIndexOf.Pure : Prop := ∀ (x0 : S64) (a1 : Int), B64 x0 → (Lit.int .i64 a1).wf = true → ∃ k, laws_FnExactIndexOf.f k x0.f0 x0.f1 a1 = some true
end Go.Proofs.Ytembojekkfalgaa.PFnExactIndexOf
