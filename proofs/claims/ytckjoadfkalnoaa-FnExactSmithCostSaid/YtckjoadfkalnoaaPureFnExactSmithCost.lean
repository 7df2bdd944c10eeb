/- The pure statement of the law FnExactSmithCost: whatever came in, the law's Lean function brings true. Conditions: those that it names. -/
import Derived.Test.YtckjoadfkalnoaaPFnExactSmithCostxB
set_option linter.unusedVariables false
namespace Go.Proofs.Ytckjoadfkalnoaa.Pure
open Go.RowKit Go.Proofs.Ytckjoadfkalnoaa.PFnExactSmithCost Go.Proofs.YtckjoadfkalnoaaW.PrintWords Go.Proofs.YtckjoadfkalnoaaW.PrintLast Go.Proofs.YtckjoadfkalnoaaW.PrintMore
theorem FnExactSmithCost : laws_FnExactSmithCost.Pure := by
  intro l o hl _
  refine ⟨1, ?_⟩
  have h0 : l.length ≤ 9223372036854775807 := by have := hl.1; unfold maxLen at this; omega
  unfold laws_FnExactSmithCost.f laws_szFamilyS.f
  by_cases c2 : (o.length : Int) > 1048576
  · simp [c2]
  · have h2 : o.length ≤ 1048576 := by omega
    rw [if_neg c2, M.wrap_id (x := 1048576 - (l.length : Int)) (by omega) (by omega)]
    by_cases c : (1048576 : Int) - (l.length : Int) < 0
    · rw [if_pos c]; simp
    · have g1 : l.length ≤ 1048576 := by omega
      obtain ⟨m, hm, g3⟩ : ∃ m, laws_toFamilyS.f l = some m ∧ m.length ≤ 1048576 := ⟨_, laws_toFamilyS.eq l g1 (fun _ _ => trivial), by rw [List.length_map]; exact g1⟩
      obtain ⟨g, b, hs, hi⟩ : ∃ g b, spec_SmithCost.f m o = some (g, b) ∧ impl_SmithCost.f m o = some (g, b) := by
        unfold spec_SmithCost.f impl_SmithCost.f
        rw [spec_l7Families.eq _ g3, if_pos h2]
        simp only [Option.bind_some]
        by_cases d : M.fams (fun x : S95 => x.f0) (fun x : S95 => x.f1) m = true
        · rw [if_pos d, spec_l7Order.eq _ _ h2]
          simp only [Option.bind_some]
          by_cases e : M.isOrd o (m.length : Int) = true
          · rw [if_pos e, if_pos ⟨d, e⟩, spec_l7Smith.eq _ _ (M.isOrd_placed e).2 h2]
            exact ⟨_, _, rfl, rfl⟩
          · rw [if_neg e, if_neg (fun x => e x.2)]
            exact ⟨_, _, rfl, rfl⟩
        · rw [if_neg d, if_neg (fun x => d x.1)]
          exact ⟨_, _, rfl, rfl⟩
      rw [if_neg c]
      simp only [Option.bind_some, if_neg c, hm, laws_toIntS.eq o h2, hs, hi, if_true, bne_self_eq_false, laws_FnExactSmithCost.j0, Bool.false_eq_true, if_false, laws_eqFamilyS.self m g3 (fun _ _ => trivial), laws_eqIntS.self o h2]
end Go.Proofs.Ytckjoadfkalnoaa.Pure
