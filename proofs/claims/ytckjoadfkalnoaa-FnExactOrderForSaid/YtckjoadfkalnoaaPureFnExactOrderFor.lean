/- The pure statement of the law FnExactOrderFor: whatever came in, the law's Lean function brings true. Conditions: those that it names. -/
import Derived.Test.YtckjoadfkalnoaaPFnExactOrderForxB
set_option linter.unusedVariables false
namespace Go.Proofs.Ytckjoadfkalnoaa.Pure
open Go.RowKit Go.Proofs.Ytckjoadfkalnoaa.PFnExactOrderFor Go.Proofs.YtckjoadfkalnoaaW.PrintWords Go.Proofs.YtckjoadfkalnoaaW.PrintLast Go.Proofs.YtckjoadfkalnoaaW.PrintMore
theorem FnExactOrderFor : laws_FnExactOrderFor.Pure := by
  intro u v _ _
  refine ⟨3, ?_⟩
  unfold laws_FnExactOrderFor.f
  by_cases c1 : (u.length : Int) > 1048576
  · simp [c1]
  · by_cases c2 : (v.length : Int) > 1048576
    · simp [c1, c2]
    · have h1 : u.length ≤ 1048576 := by omega
      have h2 : v.length ≤ 1048576 := by omega
      obtain ⟨g, b, hs, hi, hg⟩ : ∃ g b, spec_OrderFor.f u v = some (g, b) ∧ impl_OrderFor.f u v = some (g, b) ∧ g.length ≤ 1048576 := by
        unfold spec_OrderFor.f impl_OrderFor.f
        by_cases d : M.ways u v = true
        · simp only [if_pos d]
          exact ⟨_, _, rfl, rfl, by rw [M.putAll_length, List.length_replicate]; exact h1⟩
        · simp only [if_neg d]
          exact ⟨_, _, rfl, rfl, by simp⟩
      have n1 : ¬ (1 + (u.length : Int) + (v.length : Int) < 0) := by omega
      have n2 : ¬ (1 + (g.length : Int) < 0) := by omega
      have hm : laws_markIntS.f v (1 + (u.length : Int)) = some (1 + (u.length : Int) + (v.length : Int), M.upFrom (1 + (u.length : Int)) v.length) := by
        unfold laws_markIntS.f
        rw [if_pos (by omega)]
      simp only [if_neg c1, if_neg c2, laws_toIntS.eq u h1, laws_toIntS.eq v h2, Option.bind_some, hs, hi, laws_eqIntS.self u h1, laws_eqIntS.self v h2, laws_eqIntS.self g hg, if_true, laws_FnExactOrderFor.j0, laws_FnExactOrderFor.j1, laws_FnExactOrderFor.j2, bne_self_eq_false, Bool.false_eq_true, if_false, laws_markIntS.eq u h1, laws_markIntS.eq g hg, hm, n1, n2, laws_heldIntS.eq _ hg]
end Go.Proofs.Ytckjoadfkalnoaa.Pure
