/- The pure statement of the law FnExactClassesOf: whatever came in, the law's Lean function brings true. Conditions: those that it names. -/
import Derived.Test.YtckjoadfkalnoaaPFnExactClassesOfxB
set_option linter.unusedVariables false
namespace Go.Proofs.Ytckjoadfkalnoaa.Pure
open Go.RowKit Go.Proofs.Ytckjoadfkalnoaa.PFnExactClassesOf Go.Proofs.YtckjoadfkalnoaaW.PrintWords Go.Proofs.YtckjoadfkalnoaaW.PrintLast Go.Proofs.YtckjoadfkalnoaaW.PrintMore
theorem FnExactClassesOf : laws_FnExactClassesOf.Pure := by
  intro x hx
  obtain ⟨⟨h1, _⟩, ⟨h2, _⟩⟩ := hx
  refine ⟨3, ?_⟩
  unfold laws_FnExactClassesOf.f laws_szProfile.f laws_szIntS.f
  unfold maxLen at h1 h2
  rw [M.wrap_id (x := 1048576 - (x.f0.length : Int)) (by omega) (by omega)]
  by_cases c : (1048576 : Int) - (x.f0.length : Int) < 0
  · rw [if_pos c]; simp
  · rw [if_neg c]
    simp only [Option.bind_some]
    rw [if_neg c, M.wrap_id (x := 1048576 - (x.f0.length : Int) - (x.f1.length : Int)) (by omega) (by omega)]
    by_cases d : (1048576 : Int) - (x.f0.length : Int) - (x.f1.length : Int) < 0
    · rw [if_pos d]; simp
    · rw [if_neg d]
      simp only [Option.bind_some]
      simp only [if_neg d]
      have g1 : x.f0.length ≤ 1048576 := by omega
      have g2 : x.f1.length ≤ 1048576 := by omega
      generalize x.f0 = p at *
      generalize x.f1 = q at *
      obtain ⟨g, b, hs, hi, hg⟩ : ∃ g b, spec_ClassesOf.f p q = some (g, b) ∧ impl_ClassesOf.f p q = some (g, b) ∧ g.length ≤ 1048576 := by
        unfold spec_ClassesOf.f impl_ClassesOf.f
        by_cases e : M.goodP p q = true
        · simp only [if_pos e]
          exact ⟨_, _, rfl, rfl, by rw [M.classes_length]; exact g1⟩
        · simp only [if_neg e]
          exact ⟨_, _, rfl, rfl, by simp⟩
      have hm : laws_markProfile.f p q 1 = some (1 + (p.length : Int) + (q.length : Int), M.upFrom 1 p.length, M.upFrom (1 + (p.length : Int)) q.length) := by
        unfold laws_markProfile.f laws_markIntS.f
        rw [if_pos ⟨g1, by omega, by omega⟩]
        simp only [Option.bind_some]
        rw [if_pos ⟨g2, by omega, by omega⟩]
        rfl
      have n0 : ¬ (1 + (p.length : Int) + (q.length : Int) < 0) := by omega
      have n1 : ¬ (1 + (g.length : Int) < 0) := by omega
      simp only [laws_toProfile.f, laws_toIntS.eq _ g1, laws_toIntS.eq _ g2, Option.bind_some, hs, hi, hm, laws_eqIntS.self g hg, laws_eqIntS.self _ g1, laws_eqIntS.self _ g2, if_true, laws_eqProfile.f, laws_FnExactClassesOf.j0, laws_FnExactClassesOf.j1, laws_FnExactClassesOf.j2, laws_markIntS.eq g hg, laws_heldIntS.eq _ hg, n0, n1, if_neg d, if_false, bne_self_eq_false, Bool.false_eq_true]
end Go.Proofs.Ytckjoadfkalnoaa.Pure
