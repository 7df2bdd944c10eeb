/- What is known of the arguments of the law FnExactIsWithin, as they come in. Conditions: none. -/
import Derived.Test.YteajedaijnghbaaPFnExactIsWithinx2
set_option linter.unusedVariables false
namespace Go.Proofs.Yteajedaijnghbaa.PFnExactIsWithin
open Go.RowKit Go.Proofs.YteajedaijnghbaaW.PrintWords
/-- What is known of a value of type 35 that came in. -/
abbrev B35 (x : S35) : Prop := ((Lit.int .i64 x.f0).wf = true) ∧ ((Lit.int .i64 x.f1).wf = true)
/-- What is known of a value of type 37 that came in. -/
abbrev B37 (x : S37) : Prop := (((Lit.int .i64 x.f0.f0).wf = true) ∧ ((Lit.int .i64 x.f0.f1).wf = true)) ∧ (((Lit.int .i64 x.f1.f0).wf = true) ∧ ((Lit.int .i64 x.f1.f1).wf = true))
/-- The pure statement. -/
def laws_FnExactIsWithin.Pure : Prop := ∀ (x0 : S35) (x1 : S37), B35 x0 → B37 x1 → ∃ k, laws_FnExactIsWithin.f k x0.f0 x0.f1 x1.f0.f0 x1.f0.f1 x1.f1.f0 x1.f1.f1 = some true
end Go.Proofs.Yteajedaijnghbaa.PFnExactIsWithin
