/- What is known of the arguments of the law FnExactGoodProfile, as they come in. Conditions: none. -/
import Derived.Test.YteajedaijnghbaaPFnExactGoodProfilex3
set_option linter.unusedVariables false
namespace Go.Proofs.Yteajedaijnghbaa.PFnExactGoodProfile
open Go.RowKit Go.Proofs.YteajedaijnghbaaW.PrintWords
/-- What is known of a value of type 47 that came in. -/
abbrev B47 (x : S47) : Prop := (x.f0.length ≤ maxLen ∧ ∀ yxf0 ∈ x.f0, (Lit.int .i64 yxf0).wf = true) ∧ (x.f1.length ≤ maxLen ∧ ∀ yxf1 ∈ x.f1, (Lit.int .i64 yxf1).wf = true)
/-- The pure statement. -/
def laws_FnExactGoodProfile.Pure : Prop := ∀ (x0 : S47), B47 x0 → laws_FnExactGoodProfile.f x0.f0 x0.f1 = some true
end Go.Proofs.Yteajedaijnghbaa.PFnExactGoodProfile
