/- The pure statement of the law FnExactSwapGain: whatever came in, the law's Lean function brings true. Conditions: those that it names. -/
import Derived.Test.YtckjoadfkalnoaaPFnExactSwapGainxB
set_option linter.unusedVariables false
namespace Go.Proofs.Ytckjoadfkalnoaa.Pure
open Go.RowKit Go.Proofs.Ytckjoadfkalnoaa.PFnExactSwapGain Go.Proofs.YtckjoadfkalnoaaW.PrintWords Go.Proofs.YtckjoadfkalnoaaW.PrintLast Go.Proofs.YtckjoadfkalnoaaW.PrintMore
theorem FnExactSwapGain : laws_FnExactSwapGain.Pure := by
  intro u w o a b _ _ _ _ _
  refine ⟨1, ?_⟩
  unfold laws_FnExactSwapGain.f
  by_cases c1 : (u.length : Int) > 1048576
  · simp [c1]
  · by_cases c2 : (w.length : Int) > 1048576
    · simp [c1, c2]
    · by_cases c3 : (o.length : Int) > 1048576
      · simp [c1, c2, c3]
      · have h1 : u.length ≤ 1048576 := by omega
        have h2 : w.length ≤ 1048576 := by omega
        have h3 : o.length ≤ 1048576 := by omega
        obtain ⟨g, z, hs, hi⟩ : ∃ g z, spec_SwapGain.f 1 u w o a b = some (g, z) ∧ impl_SwapGain.f 1 u w o a b = some (g, z) := by
          unfold spec_SwapGain.f impl_SwapGain.f
          rw [spec_l7Ways.eq, impl_isOrdered.eq _ _ _ h3]
          simp only [Option.bind_some]
          by_cases d : M.ways u w = true
          · rw [if_pos d, spec_l7Order.eq _ _ h3]
            simp only [Option.bind_some]
            by_cases e : M.isOrd o (u.length : Int) = true
            · have hb := M.isOrd_placed e
              have hw := M.ways_iff.1 d
              have hin : impl_allWithin.f [a, b] 0 (wrap64 ((o.length : Int) - 1)) = some (decide ((0 ≤ a ∧ a < (u.length : Int)) ∧ (0 ≤ b ∧ b < (u.length : Int)))) := by
                unfold impl_allWithin.f
                rw [M.wrap_id (by omega) (by omega)]
                congr 1
                rw [Bool.eq_iff_iff, M.inAll_iff, decide_eq_true_eq]
                simp
                omega
              rw [if_pos e, if_pos (show (M.ways u w && M.isOrd o (u.length : Int)) = true by rw [d, e]; rfl), hin]
              simp only [Option.bind_some]
              by_cases r : (0 ≤ a ∧ a < (u.length : Int)) ∧ (0 ≤ b ∧ b < (u.length : Int))
              · have hla := hb.2
                have r1 : decide (b ≥ (u.length : Int)) = false := decide_eq_false (by omega)
                rw [if_neg (show ¬ a < 0 by omega), if_neg (show ¬ a ≥ (u.length : Int) by omega), if_neg (show ¬ b < 0 by omega), r1, decide_eq_true r, spec_SwapGain.j0, impl_SwapGain.j0, if_neg (by simp), if_neg (by simp)]
                have hc : slices_Clone_int_int.f o = some o := by
                  unfold slices_Clone_int_int.f
                  simp only [Option.bind_some]
                  rw [if_pos (by rw [List.length_nil]; omega), List.nil_append]
                have ha := M.placed_iff.1 hb.2 _ (M.rd_mem (l := o) (i := a) (by omega) (by omega))
                have hbb := M.placed_iff.1 hb.2 _ (M.rd_mem (l := o) (i := b) (by omega) (by omega))
                have hsw := M.placed_set (M.placed_set hb.2 a.toNat hbb) b.toNat ha
                have hlen : ((o.set a.toNat (rd o b)).set b.toNat (rd o a)).length = o.length := by rw [List.length_set, List.length_set]
                rw [hc]
                simp only [Option.bind_some]
                rw [if_pos (by rw [List.length_nil]; omega)]
                simp only [List.nil_append]
                rw [if_pos (by omega), if_pos (by omega), if_pos (by omega), if_pos (by omega), if_pos (by omega), if_pos (by omega), spec_l7Cost.eq u w o hb.2 (by omega) h3, spec_l7Cost.eq u w _ hsw (by rw [hlen]; omega) (by rw [hlen]; exact h3), if_pos (by omega), if_pos (by omega), if_pos (by omega), if_pos (by omega), impl_orderCost.eq u w o hb.2 (by omega) h3, impl_orderCost.eq u w _ hsw (by rw [hlen]; omega) (by rw [hlen]; exact h3)]
                exact ⟨_, _, rfl, rfl⟩
              · rw [decide_eq_false r, impl_SwapGain.j0, if_pos (show (!false) = true from rfl)]
                refine ⟨0, false, ?_, rfl⟩
                by_cases q1 : a < 0
                · rw [if_pos q1, spec_SwapGain.j0, if_pos rfl]
                · rw [if_neg q1]
                  by_cases q2 : a ≥ (u.length : Int)
                  · rw [if_pos q2, spec_SwapGain.j0, if_pos rfl]
                  · rw [if_neg q2]
                    by_cases q3 : b < 0
                    · rw [if_pos q3, spec_SwapGain.j0, if_pos rfl]
                    · rw [if_neg q3, spec_SwapGain.j0, if_pos (by rw [decide_eq_true_eq]; omega)]
            · rw [if_neg e, if_neg (show ¬ (M.ways u w && M.isOrd o (u.length : Int)) = true by rw [d]; simpa using e), spec_SwapGain.j0, impl_SwapGain.j0, if_pos rfl, if_pos rfl]
              exact ⟨_, _, rfl, rfl⟩
          · rw [if_neg d, if_neg (show ¬ (M.ways u w && M.isOrd o (u.length : Int)) = true by simp [d]), spec_SwapGain.j0, impl_SwapGain.j0, if_pos rfl, if_pos rfl]
            exact ⟨_, _, rfl, rfl⟩
        simp only [if_neg c1, if_neg c2, if_neg c3, laws_toIntS.eq u h1, laws_toIntS.eq w h2, laws_toIntS.eq o h3, Option.bind_some, hs, hi, laws_eqIntS.self u h1, laws_eqIntS.self w h2, laws_eqIntS.self o h3, if_true, laws_FnExactSwapGain.j0, bne_self_eq_false, Bool.false_eq_true, if_false]
end Go.Proofs.Ytckjoadfkalnoaa.Pure
