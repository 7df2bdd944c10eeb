/- The pure statement of the law FnExactRootParts: whatever came in, the law's Lean function brings true. Conditions: those that it names. -/
import Derived.Test.YtembojekkfalgaaPFnExactRootPartsxB
set_option linter.unusedVariables false
namespace Go.Proofs.Ytembojekkfalgaa.Pure
open Go.RowKit Go.Proofs.Ytembojekkfalgaa.PFnExactRootParts Go.Proofs.YtembojekkfalgaaW.PrintWords Go.Proofs.YtembojekkfalgaaW.PrintLast Go.Proofs.YtembojekkfalgaaW.PrintMore
theorem FnExactRootParts : laws_FnExactRootParts.Pure := by
  intro l a _ _
  refine ⟨3, ?_⟩
  unfold laws_FnExactRootParts.f
  by_cases c : (l.length : Int) > 1048576
  · simp [c]
  · have hl : l.length ≤ 1048576 := by omega
    obtain ⟨g, b, hs, hi, hg⟩ : ∃ g b, spec_RootParts.f l a = some (g, b) ∧ impl_RootParts.f l a = some (g, b) ∧ g.length ≤ 1048576 := by
      unfold spec_RootParts.f impl_RootParts.f
      by_cases d : M.room l a = true
      · simp only [if_pos d]
        exact ⟨_, _, rfl, rfl, by unfold M.parts; rw [List.length_map, List.length_map]; exact hl⟩
      · simp only [if_neg d]
        exact ⟨_, _, rfl, rfl, by simp⟩
    rw [if_neg c]
    have n0 : ¬ (1 + (l.length : Int) < 0) := by omega
    have n1 : ¬ (1 + (g.length : Int) < 0) := by omega
    simp only [laws_toIntS.eq l hl, Option.bind_some, hs, hi, laws_eqIntS.self g hg, laws_eqIntS.self l hl, if_true, laws_FnExactRootParts.j0, laws_FnExactRootParts.j1, laws_FnExactRootParts.j2, laws_markIntS.eq l hl, laws_markIntS.eq g hg, laws_heldIntS.eq _ hg, n0, n1, if_false, bne_self_eq_false, Bool.false_eq_true]
end Go.Proofs.Ytembojekkfalgaa.Pure
