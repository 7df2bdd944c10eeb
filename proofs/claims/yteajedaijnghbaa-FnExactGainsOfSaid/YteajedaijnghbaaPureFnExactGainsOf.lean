/- The pure statement of the law FnExactGainsOf: whatever came in, the law's Lean function brings true. Conditions: those that it names. -/
import Derived.Test.YteajedaijnghbaaPFnExactGainsOfxB
set_option linter.unusedVariables false
namespace Go.Proofs.Yteajedaijnghbaa.Pure
open Go.RowKit Go.Proofs.Yteajedaijnghbaa.PFnExactGainsOf Go.Proofs.YteajedaijnghbaaW.PrintWords Go.Proofs.YteajedaijnghbaaW.PrintLast Go.Proofs.YteajedaijnghbaaW.PrintMore
theorem FnExactGainsOf : laws_FnExactGainsOf.Pure := by
  intro a b c d _ _ _ _
  refine ⟨3, ?_⟩
  obtain ⟨g, r, hs, hi, hg⟩ : ∃ g r, spec_GainsOf.f a b c d = some (g, r) ∧ impl_GainsOf.f a b c d = some (g, r) ∧ g.length ≤ 1048576 := by
    unfold spec_GainsOf.f impl_GainsOf.f
    split
    · split
      · exact ⟨_, _, rfl, rfl, by unfold M.gains; rw [List.length_map, M.upFrom_length]; omega⟩
      · exact ⟨_, _, rfl, rfl, by simp⟩
    · exact ⟨_, _, rfl, rfl, by simp⟩
  have n1 : ¬ (1 + (g.length : Int) < 0) := by omega
  unfold laws_FnExactGainsOf.f
  simp only [Option.bind_some, hs, hi, laws_eqOffer.f, laws_markOffer.f, laws_heldOffer.f, laws_eqIntS.self g hg, if_true, laws_FnExactGainsOf.j0, laws_FnExactGainsOf.j1, laws_markIntS.eq g hg, laws_heldIntS.eq _ hg, n1, if_false, bne_self_eq_false, Bool.false_eq_true]
end Go.Proofs.Yteajedaijnghbaa.Pure
