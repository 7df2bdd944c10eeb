/- The pure statement of the law FnExactTimeParts: whatever came in, the law's Lean function brings true. Conditions: those that it names. -/
import Derived.Test.YteajedaijnghbaaPFnExactTimePartsxB
set_option linter.unusedVariables false
namespace Go.Proofs.Yteajedaijnghbaa.Pure
open Go.RowKit Go.Proofs.Yteajedaijnghbaa.PFnExactTimeParts Go.Proofs.YteajedaijnghbaaW.PrintWords Go.Proofs.YteajedaijnghbaaW.PrintLast Go.Proofs.YteajedaijnghbaaW.PrintMore
theorem FnExactTimeParts : laws_FnExactTimeParts.Pure := by
  intro l a _ _
  refine ⟨3, ?_⟩
  unfold laws_FnExactTimeParts.f
  by_cases c : (l.length : Int) > 1048576
  · simp [c]
  · have hl : l.length ≤ 1048576 := by omega
    obtain ⟨g, b, hs, hi, hg⟩ : ∃ g b, spec_TimeParts.f l a = some (g, b) ∧ impl_TimeParts.f l a = some (g, b) ∧ g.length ≤ 1048576 := by
      unfold spec_TimeParts.f impl_TimeParts.f
      rw [spec_l5Room.eq, impl_isRoom.eq]
      simp only [Option.bind_some]
      by_cases d : M.room l a = true
      · have e := M.room_iff.1 d
        have e2 := M.flow_iff.1 e.1
        have e3 := M.inAll_mono e2.2 (show (1 : Int) ≤ 1 by omega) (show (30 : Int) ≤ 1000000 by omega)
        unfold spec_l5Parts.f impl_parted.f
        simp only [if_pos d, if_pos (show l.length ≤ 8 ∧ M.inAll l 1 1000000 = true ∧ 8 ≤ a ∧ a ≤ 1000 from ⟨e2.1.2, e3, e.2⟩), Option.bind_some]
        exact ⟨_, _, rfl, rfl, by unfold M.parts; rw [List.length_map]; exact hl⟩
      · simp only [if_neg d]
        exact ⟨_, _, rfl, rfl, by simp⟩
    rw [if_neg c]
    have n0 : ¬ (1 + (l.length : Int) < 0) := by omega
    have n1 : ¬ (1 + (g.length : Int) < 0) := by omega
    simp only [laws_toIntS.eq l hl, Option.bind_some, hs, hi, laws_eqIntS.self g hg, laws_eqIntS.self l hl, if_true, laws_FnExactTimeParts.j0, laws_FnExactTimeParts.j1, laws_FnExactTimeParts.j2, laws_markIntS.eq l hl, laws_markIntS.eq g hg, laws_heldIntS.eq _ hg, n0, n1, if_false, bne_self_eq_false, Bool.false_eq_true]
end Go.Proofs.Yteajedaijnghbaa.Pure
