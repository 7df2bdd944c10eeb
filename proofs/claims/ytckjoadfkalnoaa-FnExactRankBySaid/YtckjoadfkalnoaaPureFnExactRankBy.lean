/- The pure statement of the law FnExactRankBy: whatever came in, the law's Lean function brings true. Conditions: those that it names. -/
import Derived.Test.YtckjoadfkalnoaaPFnExactRankByxB
set_option linter.unusedVariables false
namespace Go.Proofs.Ytckjoadfkalnoaa.Pure
open Go.RowKit Go.Proofs.Ytckjoadfkalnoaa.PFnExactRankBy Go.Proofs.YtckjoadfkalnoaaW.PrintWords Go.Proofs.YtckjoadfkalnoaaW.PrintLast Go.Proofs.YtckjoadfkalnoaaW.PrintMore
theorem FnExactRankBy : laws_FnExactRankBy.Pure := by
  intro l _
  refine ⟨3, ?_⟩
  unfold laws_FnExactRankBy.f
  by_cases c : (l.length : Int) > 1048576
  · simp [c]
  · have hl : l.length ≤ 1048576 := by omega
    obtain ⟨g, b, hs, hi, hg⟩ : ∃ g b, spec_RankBy.f l = some (g, b) ∧ impl_RankBy.f l = some (g, b) ∧ g.length ≤ 1048576 := by
      unfold spec_RankBy.f impl_RankBy.f
      by_cases d : (l.length : Int) > 12
      · simp only [if_pos d]
        exact ⟨_, _, rfl, rfl, by simp⟩
      · simp only [if_neg d]
        unfold spec_l1All.f impl_allWithin.f
        rw [if_pos hl]
        simp only [Option.bind_some]
        by_cases e : M.inAll l (-1000000) 10000000 = true
        · simp only [if_pos e]
          have hr : spec_l3Rank.f l = some (M.rank l) := by unfold spec_l3Rank.f; rw [if_pos (by omega)]
          have hr2 : impl_rank.f l = some (M.rank l) := by unfold impl_rank.f; rw [if_pos ⟨by omega, M.inAll_mono e (by omega) (by omega)⟩]
          rw [hr, hr2]
          exact ⟨_, _, rfl, rfl, by rw [M.rank_length]; exact hl⟩
        · simp only [if_neg e]
          exact ⟨_, _, rfl, rfl, by simp⟩
    rw [if_neg c]
    have n0 : ¬ (1 + (l.length : Int) < 0) := by omega
    have n1 : ¬ (1 + (g.length : Int) < 0) := by omega
    simp only [laws_toIntS.eq l hl, Option.bind_some, hs, hi, laws_eqIntS.self g hg, laws_eqIntS.self l hl, if_true, laws_FnExactRankBy.j0, laws_FnExactRankBy.j1, laws_FnExactRankBy.j2, laws_markIntS.eq l hl, laws_markIntS.eq g hg, laws_heldIntS.eq _ hg, n0, n1, if_false, bne_self_eq_false, Bool.false_eq_true]
end Go.Proofs.Ytckjoadfkalnoaa.Pure
