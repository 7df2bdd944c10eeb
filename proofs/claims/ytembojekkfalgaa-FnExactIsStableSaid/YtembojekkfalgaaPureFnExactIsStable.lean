/- The pure statement of the law FnExactIsStable: whatever came in, the law's Lean function brings true. Conditions: those that it names. -/
import Derived.Test.YtembojekkfalgaaPFnExactIsStablexB
set_option linter.unusedVariables false
namespace Go.Proofs.Ytembojekkfalgaa.Pure
open Go.RowKit Go.Proofs.Ytembojekkfalgaa.PFnExactIsStable Go.Proofs.YtembojekkfalgaaW.PrintWords Go.Proofs.YtembojekkfalgaaW.PrintLast Go.Proofs.YtembojekkfalgaaW.PrintMore
theorem FnExactIsStable : laws_FnExactIsStable.Pure := by
  intro l m _ _
  refine ⟨1, ?_⟩
  unfold laws_FnExactIsStable.f
  by_cases c : (l.length : Int) > 1048576
  · rw [if_pos c]
  · by_cases c' : (m.length : Int) > 1048576
    · rw [if_neg c, if_pos c']
    · have hl : l.length ≤ 1048576 := by omega
      have hm : m.length ≤ 1048576 := by omega
      obtain ⟨r, hs, hi⟩ : ∃ r, spec_IsStable.f l m = some r ∧ impl_IsStable.f l m = some r := ⟨_, rfl, rfl⟩
      rw [if_neg c, if_neg c']
      simp only [laws_toIntS.eq l hl, laws_toIntS.eq m hm, Option.bind_some, hs, hi, if_true, bne_self_eq_false, laws_FnExactIsStable.j0, Bool.false_eq_true, if_false, laws_eqIntS.self l hl, laws_eqIntS.self m hm]
end Go.Proofs.Ytembojekkfalgaa.Pure
