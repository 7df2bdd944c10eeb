/- The pure statement of the law FnExactSmithOrder: whatever came in, the law's Lean function brings true. Conditions: those that it names. -/
import Derived.Test.YtckjoadfkalnoaaPFnExactSmithOrderxB
set_option linter.unusedVariables false
namespace Go.Proofs.Ytckjoadfkalnoaa.Pure
open Go.RowKit Go.Proofs.Ytckjoadfkalnoaa.PFnExactSmithOrder Go.Proofs.YtckjoadfkalnoaaW.PrintWords Go.Proofs.YtckjoadfkalnoaaW.PrintLast Go.Proofs.YtckjoadfkalnoaaW.PrintMore
theorem FnExactSmithOrder : laws_FnExactSmithOrder.Pure := by
  intro l hl
  have h0 : l.length ≤ 9223372036854775807 := by have := hl.1; unfold maxLen at this; omega
  refine ⟨l.length + 4, ?_⟩
  unfold laws_FnExactSmithOrder.f laws_szFamilyS.f
  rw [M.wrap_id (x := 1048576 - (l.length : Int)) (by omega) (by omega)]
  by_cases c : (1048576 : Int) - (l.length : Int) < 0
  · rw [if_pos c]; simp
  · have g1 : l.length ≤ 1048576 := by omega
    obtain ⟨m, hm, g3, g4⟩ : ∃ m, laws_toFamilyS.f l = some m ∧ m.length ≤ 1048576 ∧ m.length = l.length := ⟨_, laws_toFamilyS.eq l g1 (fun _ _ => trivial), by rw [List.length_map]; exact g1, by rw [List.length_map]⟩
    obtain ⟨g, b, hs, hi, hg⟩ : ∃ g b, spec_SmithOrder.f m = some (g, b) ∧ impl_SmithOrder.f m = some (g, b) ∧ g.length ≤ 1048576 := by
      unfold spec_SmithOrder.f impl_SmithOrder.f
      rw [if_pos g3]
      by_cases d : M.fams (fun x : S95 => x.f0) (fun x : S95 => x.f1) m = true
      · simp only [if_pos d]
        exact ⟨_, _, rfl, rfl, by rw [M.smith_length]; exact g3⟩
      · simp only [if_neg d]
        exact ⟨_, _, rfl, rfl, by simp⟩
    obtain ⟨t, ht, ht1⟩ := laws_markFamilyS.first m g3 (l.length + 3) (by omega)
    have n0 : ¬ (t.1 < 0) := by omega
    have n1 : ¬ (1 + (g.length : Int) < 0) := by omega
    rw [if_neg c]
    simp only [Option.bind_some, if_neg c, hm, hs, hi, if_true, bne_self_eq_false, laws_FnExactSmithOrder.j0, laws_FnExactSmithOrder.j1, laws_FnExactSmithOrder.j2, Bool.false_eq_true, if_false, laws_eqFamilyS.self m g3 (fun _ _ => trivial), laws_eqIntS.self g hg, ht, n0, n1, laws_markIntS.eq g hg, laws_heldIntS.eq _ hg]
end Go.Proofs.Ytckjoadfkalnoaa.Pure
