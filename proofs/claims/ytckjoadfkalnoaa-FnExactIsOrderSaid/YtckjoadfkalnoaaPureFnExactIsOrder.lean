/- The pure statement of the law FnExactIsOrder: whatever came in, the law's Lean function brings true. Conditions: those that it names. -/
import Derived.Test.YtckjoadfkalnoaaPFnExactIsOrderxB
set_option linter.unusedVariables false
namespace Go.Proofs.Ytckjoadfkalnoaa.Pure
open Go.RowKit Go.Proofs.Ytckjoadfkalnoaa.PFnExactIsOrder Go.Proofs.YtckjoadfkalnoaaW.PrintWords Go.Proofs.YtckjoadfkalnoaaW.PrintLast Go.Proofs.YtckjoadfkalnoaaW.PrintMore
theorem FnExactIsOrder : laws_FnExactIsOrder.Pure := by
  intro l a _ _
  refine ⟨1, ?_⟩
  unfold laws_FnExactIsOrder.f
  by_cases c : (l.length : Int) > 1048576
  · simp [c]
  · have hl : l.length ≤ 1048576 := by omega
    obtain ⟨g, b, hs, hi⟩ : ∃ g b, spec_IsOrder.f l a = some (g, b) ∧ impl_IsOrder.f l a = some (g, b) := by
      unfold spec_IsOrder.f impl_IsOrder.f
      rw [spec_l1In.eq, impl_within.eq, spec_l7Order.eq l a hl, impl_isOrder.eq l a hl]
      simp only [Option.bind_some]
      by_cases d : (decide (0 ≤ a) && decide (a ≤ 10)) = true
      · rw [if_pos d]
        exact ⟨_, _, rfl, rfl⟩
      · rw [if_neg d]
        exact ⟨_, _, rfl, rfl⟩
    rw [if_neg c]
    simp only [laws_toIntS.eq l hl, Option.bind_some, hs, hi, laws_eqIntS.self l hl, if_true, laws_FnExactIsOrder.j0, bne_self_eq_false, Bool.false_eq_true, if_false]
end Go.Proofs.Ytckjoadfkalnoaa.Pure
