/- The pure statement of the law FnExactCyclesIn: whatever came in, the law's Lean function brings true. Conditions: those that it names. -/
import Derived.Test.YtckjoadfkalnoaaPFnExactCyclesInxB
set_option linter.unusedVariables false
namespace Go.Proofs.Ytckjoadfkalnoaa.Pure
open Go.RowKit Go.Proofs.Ytckjoadfkalnoaa.PFnExactCyclesIn Go.Proofs.YtckjoadfkalnoaaW.PrintWords Go.Proofs.YtckjoadfkalnoaaW.PrintLast Go.Proofs.YtckjoadfkalnoaaW.PrintMore
theorem FnExactCyclesIn : laws_FnExactCyclesIn.Pure := by
  intro o _
  refine ⟨1, ?_⟩
  unfold laws_FnExactCyclesIn.f
  by_cases c : (o.length : Int) > 1048576
  · simp [c]
  · have h1 : o.length ≤ 1048576 := by omega
    obtain ⟨g, b, hs, hi⟩ : ∃ g b, spec_CyclesIn.f o = some (g, b) ∧ impl_CyclesIn.f o = some (g, b) := by
      unfold spec_CyclesIn.f impl_CyclesIn.f
      by_cases d : o.length ≤ 10
      · rw [if_neg (by omega), spec_l7Order.eq _ _ h1]
        simp only [Option.bind_some]
        by_cases e : M.isOrd o (o.length : Int) = true
        · have hb := M.isOrd_placed e
          have hr : spec_l7Rings.f o = some (M.ringsL o o.length 0 (List.replicate o.length false) []) := by unfold spec_l7Rings.f; rw [if_pos ⟨d, hb.2⟩]
          rw [if_pos e, if_pos ⟨d, e⟩, hr]
          exact ⟨_, _, rfl, rfl⟩
        · rw [if_neg e, if_neg (fun x => e x.2)]
          exact ⟨_, _, rfl, rfl⟩
      · rw [if_pos (by omega), if_neg (fun x => d x.1)]
        exact ⟨_, _, rfl, rfl⟩
    simp only [if_neg c, laws_toIntS.eq o h1, Option.bind_some, hs, hi, laws_eqIntS.self o h1, if_true, laws_FnExactCyclesIn.j0, bne_self_eq_false, Bool.false_eq_true, if_false]
end Go.Proofs.Ytckjoadfkalnoaa.Pure
