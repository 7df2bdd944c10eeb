/- The pure statement of the law FnExactFluidCost: whatever came in, the law's Lean function brings true. Conditions: those that it names. -/
import Derived.Test.YtembojekkfalgaaPFnExactFluidCostxB
set_option linter.unusedVariables false
namespace Go.Proofs.Ytembojekkfalgaa.Pure
open Go.RowKit Go.Proofs.Ytembojekkfalgaa.PFnExactFluidCost Go.Proofs.YtembojekkfalgaaW.PrintWords Go.Proofs.YtembojekkfalgaaW.PrintLast Go.Proofs.YtembojekkfalgaaW.PrintMore
theorem FnExactFluidCost : laws_FnExactFluidCost.Pure := by
  intro l m _ _
  refine ⟨1, ?_⟩
  unfold laws_FnExactFluidCost.f
  by_cases c : (l.length : Int) > 1048576
  · rw [if_pos c]
  · by_cases c' : (m.length : Int) > 1048576
    · rw [if_neg c, if_pos c']
    · have hl : l.length ≤ 1048576 := by omega
      have hm : m.length ≤ 1048576 := by omega
      obtain ⟨r, hs, hi⟩ : ∃ r, spec_FluidCost.f l m = some r ∧ impl_FluidCost.f l m = some r := ⟨_, rfl, impl_FluidCost.eq l m⟩
      rw [if_neg c, if_neg c']
      unfold laws_eqFrac.f
      simp only [laws_toIntS.eq l hl, laws_toIntS.eq m hm, Option.bind_some, hs, hi, if_true, bne_self_eq_false, laws_FnExactFluidCost.j0, Bool.false_eq_true, if_false, laws_eqIntS.self l hl, laws_eqIntS.self m hm]
end Go.Proofs.Ytembojekkfalgaa.Pure
