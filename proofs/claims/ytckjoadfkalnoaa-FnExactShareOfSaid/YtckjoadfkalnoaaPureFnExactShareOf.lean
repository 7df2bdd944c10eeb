/- The pure statement of the law FnExactShareOf: whatever came in, the law's Lean function brings true. Conditions: those that it names. -/
import Derived.Test.YtckjoadfkalnoaaPFnExactShareOfxB
set_option linter.unusedVariables false
namespace Go.Proofs.Ytckjoadfkalnoaa.Pure
open Go.RowKit Go.Proofs.Ytckjoadfkalnoaa.PFnExactShareOf Go.Proofs.YtckjoadfkalnoaaW.PrintWords Go.Proofs.YtckjoadfkalnoaaW.PrintLast Go.Proofs.YtckjoadfkalnoaaW.PrintMore
theorem FnExactShareOf : laws_FnExactShareOf.Pure := by
  intro x a hx ha
  obtain ⟨⟨h1, _⟩, ⟨h2, _⟩⟩ := hx
  refine ⟨1, ?_⟩
  unfold laws_FnExactShareOf.f laws_szProfile.f laws_szIntS.f
  unfold maxLen at h1 h2
  rw [M.wrap_id (x := 1048576 - (x.f0.length : Int)) (by omega) (by omega)]
  by_cases c : (1048576 : Int) - (x.f0.length : Int) < 0
  · rw [if_pos c]; simp
  · rw [if_neg c]
    simp only [Option.bind_some]
    rw [if_neg c, M.wrap_id (x := 1048576 - (x.f0.length : Int) - (x.f1.length : Int)) (by omega) (by omega)]
    by_cases d : (1048576 : Int) - (x.f0.length : Int) - (x.f1.length : Int) < 0
    · rw [if_pos d]; simp
    · rw [if_neg d]
      simp only [Option.bind_some]
      simp only [if_neg d]
      have g1 : x.f0.length ≤ 1048576 := by omega
      have g2 : x.f1.length ≤ 1048576 := by omega
      generalize x.f0 = p at *
      generalize x.f1 = q at *
      obtain ⟨r, hs, hi⟩ : ∃ r, spec_ShareOf.f p q a = some r ∧ impl_ShareOf.f p q a = some r := ⟨_, rfl, rfl⟩
      simp only [laws_toProfile.f, laws_eqFrac.f, laws_toIntS.eq _ g1, laws_toIntS.eq _ g2, Option.bind_some, hs, hi, if_true, bne_self_eq_false, laws_FnExactShareOf.j0, laws_eqProfile.f, Bool.false_eq_true, if_false, if_neg d, laws_eqIntS.self _ g1, laws_eqIntS.self _ g2]
end Go.Proofs.Ytckjoadfkalnoaa.Pure
