/- The pure statement of the law FnExactLeastCost: whatever came in, the law's Lean function brings true. Conditions: those that it names. -/
import Derived.Test.YtckjoadfkalnoaaPFnExactLeastCostxB
set_option linter.unusedVariables false
namespace Go.Proofs.Ytckjoadfkalnoaa.Pure
open Go.RowKit Go.Proofs.Ytckjoadfkalnoaa.PFnExactLeastCost Go.Proofs.YtckjoadfkalnoaaW.PrintWords Go.Proofs.YtckjoadfkalnoaaW.PrintLast Go.Proofs.YtckjoadfkalnoaaW.PrintMore
theorem FnExactLeastCost : laws_FnExactLeastCost.Pure := by
  intro l a b _ _ _
  refine ⟨1, ?_⟩
  unfold laws_FnExactLeastCost.f
  by_cases c : (l.length : Int) > 1048576
  · simp [c]
  · have hl : l.length ≤ 1048576 := by omega
    obtain ⟨r, hs, hi⟩ : ∃ r, spec_LeastCost.f l a b = some r ∧ impl_LeastCost.f l a b = some r := ⟨_, rfl, rfl⟩
    unfold laws_eqBounds.f laws_eqFrac.f
    simp only [if_neg c, laws_toIntS.eq l hl, Option.bind_some, hs, hi, if_true, bne_self_eq_false, laws_FnExactLeastCost.j0, Bool.false_eq_true, if_false, laws_eqIntS.self l hl]
end Go.Proofs.Ytckjoadfkalnoaa.Pure
