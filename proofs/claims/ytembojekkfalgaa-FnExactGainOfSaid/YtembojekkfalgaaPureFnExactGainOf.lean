/- The pure statement of the law FnExactGainOf: whatever came in, the law's Lean function brings true. Conditions: those that it names. -/
import Derived.Test.YtembojekkfalgaaPFnExactGainOfxB
set_option linter.unusedVariables false
namespace Go.Proofs.Ytembojekkfalgaa.Pure
open Go.RowKit Go.Proofs.Ytembojekkfalgaa.PFnExactGainOf Go.Proofs.YtembojekkfalgaaW.PrintWords Go.Proofs.YtembojekkfalgaaW.PrintLast Go.Proofs.YtembojekkfalgaaW.PrintMore
theorem FnExactGainOf : laws_FnExactGainOf.Pure := by
  intro l m k _ _ hk
  have hk := M.wf_i64 hk
  refine ⟨1, ?_⟩
  unfold laws_FnExactGainOf.f
  by_cases c : (l.length : Int) > 1048576
  · rw [if_pos c]
  · by_cases c' : (m.length : Int) > 1048576
    · rw [if_neg c, if_pos c']
    · have hl : l.length ≤ 1048576 := by omega
      have hm : m.length ≤ 1048576 := by omega
      obtain ⟨r, hs, hi⟩ : ∃ r, spec_GainOf.f l m k = some r ∧ impl_GainOf.f l m k = some r := by
        unfold spec_GainOf.f impl_GainOf.f
        rw [spec_l4Counts.eq, impl_areCounts.eq]
        simp only [Option.bind_some]
        by_cases d : M.counts l m = true
        · rw [if_pos d, if_pos d, impl_within.eq]
          simp only [Option.bind_some]
          have e := M.counts_iff.1 d
          have eb := (M.flow_iff.1 e.1).1
          rw [M.wrap_id (x := (l.length : Int) - 1) (by omega) (by omega)]
          by_cases h0 : 0 ≤ k
          · by_cases h1 : k < (l.length : Int)
            · rw [if_neg (by omega), if_neg (by omega), if_pos (by simp; omega), if_pos h0, if_pos h1, if_pos (by omega), spec_l4Gain.eq l m k d h0 h1, impl_gain.eq _ _ (M.rd_in (M.flow_iff.1 e.1).2 h0 h1) (M.rd_in e.2.2.1 h0 (by omega))]
              exact ⟨_, rfl, rfl⟩
            · rw [if_neg (by omega), if_pos (by omega), if_neg (by simp; omega)]
              exact ⟨_, rfl, rfl⟩
          · rw [if_pos (by omega), if_neg (by simp; omega)]
            exact ⟨_, rfl, rfl⟩
        · rw [if_neg d, if_neg d]
          exact ⟨_, rfl, rfl⟩
      rw [if_neg c, if_neg c']
      unfold laws_eqFrac.f
      simp only [laws_toIntS.eq l hl, laws_toIntS.eq m hm, Option.bind_some, hs, hi, if_true, bne_self_eq_false, laws_FnExactGainOf.j0, Bool.false_eq_true, if_false, laws_eqIntS.self l hl, laws_eqIntS.self m hm]
end Go.Proofs.Ytembojekkfalgaa.Pure
