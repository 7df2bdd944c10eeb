/- The pure statement of the law FnExactGoodProfile: whatever came in, the law's Lean function brings true. Conditions: those that it names. -/
import Derived.Test.YteajedaijnghbaaPFnExactGoodProfilexB
set_option linter.unusedVariables false
namespace Go.Proofs.Yteajedaijnghbaa.Pure
open Go.RowKit Go.Proofs.Yteajedaijnghbaa.PFnExactGoodProfile Go.Proofs.YteajedaijnghbaaW.PrintWords Go.Proofs.YteajedaijnghbaaW.PrintLast Go.Proofs.YteajedaijnghbaaW.PrintMore
theorem FnExactGoodProfile : laws_FnExactGoodProfile.Pure := by
  intro x hx
  obtain ⟨⟨h1, _⟩, ⟨h2, _⟩⟩ := hx
  unfold laws_FnExactGoodProfile.f laws_szProfile.f laws_szIntS.f
  unfold maxLen at h1 h2
  rw [M.wrap_id (x := 1048576 - (x.f0.length : Int)) (by omega) (by omega)]
  by_cases c : (1048576 : Int) - (x.f0.length : Int) < 0
  · rw [if_pos c]; simp
  · rw [if_neg c]
    simp only [Option.bind_some]
    rw [if_neg c, M.wrap_id (x := 1048576 - (x.f0.length : Int) - (x.f1.length : Int)) (by omega) (by omega)]
    by_cases d : (1048576 : Int) - (x.f0.length : Int) - (x.f1.length : Int) < 0
    · rw [if_pos d]; simp
    · rw [if_neg d]
      simp only [Option.bind_some]
      simp only [if_neg d]
      unfold laws_toProfile.f
      have g1 : x.f0.length ≤ 1048576 := by omega
      have g2 : x.f1.length ≤ 1048576 := by omega
      simp only [laws_toIntS.eq _ g1, laws_toIntS.eq _ g2, Option.bind_some]
      unfold spec_GoodProfile.f impl_GoodProfile.f laws_eqProfile.f
      simp only [laws_eqIntS.self _ g1, laws_eqIntS.self _ g2, Option.bind_some, if_true, bne_self_eq_false, Bool.false_eq_true, if_false]
      split <;> rfl
end Go.Proofs.Yteajedaijnghbaa.Pure
