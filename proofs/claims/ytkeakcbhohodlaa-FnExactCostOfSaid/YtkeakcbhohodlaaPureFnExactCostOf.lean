/- The pure statement of the law FnExactCostOf: whatever came in, the law's Lean function brings true. Conditions: those that it names. -/
import Derived.Test.YtkeakcbhohodlaaPFnExactCostOfxB
set_option linter.unusedVariables false
namespace Go.Proofs.Ytkeakcbhohodlaa.Pure
open Go.RowKit Go.Proofs.Ytkeakcbhohodlaa.PFnExactCostOf Go.Proofs.YtkeakcbhohodlaaW.PrintWords Go.Proofs.YtkeakcbhohodlaaW.PrintLast Go.Proofs.YtkeakcbhohodlaaW.PrintMore
theorem FnExactCostOf : laws_FnExactCostOf.Pure := by
  intro l m _ _
  refine ⟨1, ?_⟩
  unfold laws_FnExactCostOf.f
  by_cases c : (l.length : Int) > 1048576
  · rw [if_pos c]
  · by_cases c' : (m.length : Int) > 1048576
    · rw [if_neg c, if_pos c']
    · have hl : l.length ≤ 1048576 := by omega
      have hm : m.length ≤ 1048576 := by omega
      obtain ⟨r, hs, hi⟩ : ∃ r, spec_CostOf.f l m = some r ∧ impl_CostOf.f l m = some r := ⟨_, rfl, impl_CostOf.eq l m⟩
      rw [if_neg c, if_neg c']
      unfold laws_eqFrac.f
      simp only [laws_toIntS.eq l hl, laws_toIntS.eq m hm, Option.bind_some, hs, hi, if_true, bne_self_eq_false, laws_FnExactCostOf.j0, Bool.false_eq_true, if_false, laws_eqIntS.self l hl, laws_eqIntS.self m hm]
end Go.Proofs.Ytkeakcbhohodlaa.Pure
