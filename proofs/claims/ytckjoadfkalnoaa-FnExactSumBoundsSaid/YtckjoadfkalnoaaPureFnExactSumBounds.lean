/- The pure statement of the law FnExactSumBounds: whatever came in, the law's Lean function brings true. Conditions: those that it names. -/
import Derived.Test.YtckjoadfkalnoaaPFnExactSumBoundsxB
set_option linter.unusedVariables false
namespace Go.Proofs.Ytckjoadfkalnoaa.Pure
open Go.RowKit Go.Proofs.Ytckjoadfkalnoaa.PFnExactSumBounds Go.Proofs.YtckjoadfkalnoaaW.PrintWords Go.Proofs.YtckjoadfkalnoaaW.PrintLast Go.Proofs.YtckjoadfkalnoaaW.PrintMore
theorem FnExactSumBounds : laws_FnExactSumBounds.Pure := by
  intro l hl
  have h1 : l.length ≤ 9223372036854775807 := by have := hl.1; unfold maxLen at this; omega
  refine ⟨1, ?_⟩
  unfold laws_FnExactSumBounds.f laws_szBoundsS.f
  rw [M.wrap_id (x := 1048576 - (l.length : Int)) (by omega) (by omega)]
  by_cases c : (1048576 : Int) - (l.length : Int) < 0
  · rw [if_pos c]; simp
  · have g1 : l.length ≤ 1048576 := by omega
    obtain ⟨m, hm, g3⟩ : ∃ m, laws_toBoundsS.f l = some m ∧ m.length ≤ 1048576 := ⟨_, laws_toBoundsS.eq l g1 (fun _ _ => trivial), by rw [List.length_map]; exact g1⟩
    obtain ⟨r, hs, hi⟩ : ∃ r, spec_SumBounds.f m = some r ∧ impl_SumBounds.f m = some r := ⟨_, rfl, rfl⟩
    rw [if_neg c]
    unfold laws_eqBounds.f laws_eqFrac.f
    simp only [Option.bind_some, if_neg c, hm, hs, hi, if_true, bne_self_eq_false, laws_FnExactSumBounds.j0, Bool.false_eq_true, if_false, laws_eqBoundsS.self m g3 (fun _ _ => trivial)]
end Go.Proofs.Ytckjoadfkalnoaa.Pure
