/- The pure statement of the law FnExactSumFracs: whatever came in, the law's Lean function brings true. Conditions: those that it names. -/
import Derived.Test.YtembojekkfalgaaPFnExactSumFracsxB
set_option linter.unusedVariables false
namespace Go.Proofs.Ytembojekkfalgaa.Pure
open Go.RowKit Go.Proofs.Ytembojekkfalgaa.PFnExactSumFracs Go.Proofs.YtembojekkfalgaaW.PrintWords Go.Proofs.YtembojekkfalgaaW.PrintLast Go.Proofs.YtembojekkfalgaaW.PrintMore
theorem FnExactSumFracs : laws_FnExactSumFracs.Pure := by
  intro l hl
  have h1 : l.length ≤ 9223372036854775807 := by have := hl.1; unfold maxLen at this; omega
  refine ⟨1, ?_⟩
  unfold laws_FnExactSumFracs.f laws_szFracS.f
  rw [M.wrap_id (x := 1048576 - (l.length : Int)) (by omega) (by omega)]
  by_cases c : (1048576 : Int) - (l.length : Int) < 0
  · rw [if_pos c]; simp
  · have g1 : l.length ≤ 1048576 := by omega
    obtain ⟨m, hm, g3⟩ : ∃ m, laws_toFracS.f l = some m ∧ m.length ≤ 1048576 := ⟨_, laws_toFracS.eq l g1 (fun _ _ => trivial), by rw [List.length_map]; exact g1⟩
    obtain ⟨r, hs, hi⟩ : ∃ r, spec_SumFracs.f m = some r ∧ impl_SumFracs.f m = some r := ⟨_, rfl, impl_SumFracs.eq m⟩
    rw [if_neg c]
    unfold laws_eqFrac.f
    simp only [Option.bind_some, if_neg c, hm, hs, hi, if_true, bne_self_eq_false, laws_FnExactSumFracs.j0, Bool.false_eq_true, if_false, laws_eqFracS.self m g3 (fun _ _ => trivial)]
end Go.Proofs.Ytembojekkfalgaa.Pure
