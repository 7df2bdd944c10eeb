/- The pure statement of the law FnExactOrderCost: whatever came in, the law's Lean function brings true. Conditions: those that it names. -/
import Derived.Test.YtckjoadfkalnoaaPFnExactOrderCostxB
set_option linter.unusedVariables false
namespace Go.Proofs.Ytckjoadfkalnoaa.Pure
open Go.RowKit Go.Proofs.Ytckjoadfkalnoaa.PFnExactOrderCost Go.Proofs.YtckjoadfkalnoaaW.PrintWords Go.Proofs.YtckjoadfkalnoaaW.PrintLast Go.Proofs.YtckjoadfkalnoaaW.PrintMore
theorem FnExactOrderCost : laws_FnExactOrderCost.Pure := by
  intro u w o _ _ _
  refine ⟨1, ?_⟩
  unfold laws_FnExactOrderCost.f
  by_cases c1 : (u.length : Int) > 1048576
  · simp [c1]
  · by_cases c2 : (w.length : Int) > 1048576
    · simp [c1, c2]
    · by_cases c3 : (o.length : Int) > 1048576
      · simp [c1, c2, c3]
      · have h1 : u.length ≤ 1048576 := by omega
        have h2 : w.length ≤ 1048576 := by omega
        have h3 : o.length ≤ 1048576 := by omega
        obtain ⟨g, b, hs, hi⟩ : ∃ g b, spec_OrderCost.f u w o = some (g, b) ∧ impl_OrderCost.f u w o = some (g, b) := by
          unfold spec_OrderCost.f impl_OrderCost.f
          rw [spec_l7Ways.eq, impl_isOrdered.eq _ _ _ h3]
          simp only [Option.bind_some]
          by_cases d : M.ways u w = true
          · rw [if_pos d, spec_l7Order.eq _ _ h3]
            simp only [Option.bind_some]
            by_cases e : M.isOrd o (u.length : Int) = true
            · have hb := M.isOrd_placed e
              have hw := M.ways_iff.1 d
              rw [if_pos e, if_pos (by rw [d, e]; rfl), spec_l7Cost.eq u w o hb.2 (by omega) h3, impl_orderCost.eq u w o hb.2 (by omega) h3]
              exact ⟨_, _, rfl, rfl⟩
            · rw [if_neg e, if_neg (by rw [d]; simpa using e)]
              exact ⟨_, _, rfl, rfl⟩
          · rw [if_neg d, if_neg (by simp [d])]
            exact ⟨_, _, rfl, rfl⟩
        simp only [if_neg c1, if_neg c2, if_neg c3, laws_toIntS.eq u h1, laws_toIntS.eq w h2, laws_toIntS.eq o h3, Option.bind_some, hs, hi, laws_eqIntS.self u h1, laws_eqIntS.self w h2, laws_eqIntS.self o h3, if_true, laws_FnExactOrderCost.j0, bne_self_eq_false, Bool.false_eq_true, if_false]
end Go.Proofs.Ytckjoadfkalnoaa.Pure
