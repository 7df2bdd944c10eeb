/- What is known of the arguments of the law FnExactAddProfiles, as they come in. Conditions: none. -/
import Derived.Test.YtdgpplnfkifkgaaPFnExactAddProfilesx7
set_option linter.unusedVariables false
namespace Go.Proofs.Ytdgpplnfkifkgaa.PFnExactAddProfiles
open Go.RowKit Go.Proofs.YtdgpplnfkifkgaaW.PrintWords
/-- What is known of a value of type 24 that came in. -/
abbrev B24 (x : S24) : Prop := (x.f0.length ≤ maxLen ∧ ∀ yxf0 ∈ x.f0, (Lit.int .i64 yxf0).wf = true) ∧ (x.f1.length ≤ maxLen ∧ ∀ yxf1 ∈ x.f1, (Lit.int .i64 yxf1).wf = true)
/-- The pure statement. -/
def laws_FnExactAddProfiles.Pure : Prop := ∀ (x0 : S24) (x1 : S24), B24 x0 → B24 x1 → laws_FnExactAddProfiles.f x0.f0 x0.f1 x1.f0 x1.f1 = some true
end Go.Proofs.Ytdgpplnfkifkgaa.PFnExactAddProfiles
