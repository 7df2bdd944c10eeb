/- The pure statement of the law FnExactIndexOf: whatever came in, the law's Lean function brings true. Conditions: those that it names. -/
import Derived.Test.YtembojekkfalgaaPFnExactIndexOfxB
set_option linter.unusedVariables false
namespace Go.Proofs.Ytembojekkfalgaa.Pure
open Go.RowKit Go.Proofs.Ytembojekkfalgaa.PFnExactIndexOf Go.Proofs.YtembojekkfalgaaW.PrintWords Go.Proofs.YtembojekkfalgaaW.PrintLast Go.Proofs.YtembojekkfalgaaW.PrintMore
theorem FnExactIndexOf : laws_FnExactIndexOf.Pure := by
  intro x a hx ha
  have ha := M.wf_i64 ha
  obtain ⟨⟨h1, _⟩, ⟨h2, _⟩⟩ := hx
  refine ⟨1, ?_⟩
  unfold laws_FnExactIndexOf.f laws_szProfile.f laws_szIntS.f
  unfold maxLen at h1 h2
  rw [M.wrap_id (x := 1048576 - (x.f0.length : Int)) (by omega) (by omega)]
  by_cases c : (1048576 : Int) - (x.f0.length : Int) < 0
  · rw [if_pos c]; simp
  · rw [if_neg c]
    simp only [Option.bind_some]
    rw [if_neg c, M.wrap_id (x := 1048576 - (x.f0.length : Int) - (x.f1.length : Int)) (by omega) (by omega)]
    by_cases d : (1048576 : Int) - (x.f0.length : Int) - (x.f1.length : Int) < 0
    · rw [if_pos d]; simp
    · rw [if_neg d]
      simp only [Option.bind_some]
      simp only [if_neg d]
      have g1 : x.f0.length ≤ 1048576 := by omega
      have g2 : x.f1.length ≤ 1048576 := by omega
      generalize x.f0 = p at *
      generalize x.f1 = q at *
      obtain ⟨r, hs, hi⟩ : ∃ r, spec_IndexOf.f p q a = some r ∧ impl_IndexOf.f p q a = some r := by
        unfold spec_IndexOf.f impl_IndexOf.f spec_GoodProfile.f impl_GoodProfile.f
        simp only [Option.bind_some]
        by_cases e : M.goodP p q = true
        · have e1 := M.goodP_iff.1 e
          rw [if_pos e, if_pos e, impl_within.eq]
          simp only [Option.bind_some]
          rw [M.wrap_id (x := (p.length : Int) - 1) (by omega) (by omega)]
          by_cases h0 : 0 ≤ a
          · by_cases h3 : a < (p.length : Int)
            · have b1 := M.rd_in e1.2.2.1 h0 h3
              have b2 := M.rd_in e1.2.2.2.1 h0 (show a < (q.length : Int) by omega)
              have w1 : ¬ a < 0 := by omega
              have w2 : ¬ a ≥ (p.length : Int) := by omega
              have w3 : (decide (0 ≤ a) && decide (a ≤ (p.length : Int) - 1)) = true := by simp; omega
              have w4 : a < (q.length : Int) := by omega
              simp only [if_neg w1, if_neg w2, if_pos h0, if_pos h3, if_pos w3, if_pos w4]
              by_cases z : rd p a = 0
              · simp only [if_pos z]
                exact ⟨_, rfl, rfl⟩
              · have hg := M.good_lowest (n := rd q a) (d := rd p a) z (by omega) (by omega)
                simp only [if_neg z]
                rw [spec_l1Make.eq _ _ z (by omega) (by omega), impl_lowest.eq _ _ z (by omega) (by omega)]
                simp only [Option.bind_some, hg, if_true]
                exact ⟨_, rfl, rfl⟩
            · rw [if_neg (by omega), if_pos (by omega), if_neg (by simp; omega)]
              exact ⟨_, rfl, rfl⟩
          · rw [if_pos (by omega), if_neg (by simp; omega)]
            exact ⟨_, rfl, rfl⟩
        · rw [if_neg e, if_neg e]
          exact ⟨_, rfl, rfl⟩
      unfold laws_toProfile.f laws_eqFrac.f
      simp only [laws_toIntS.eq _ g1, laws_toIntS.eq _ g2, Option.bind_some, hs, hi, if_true, bne_self_eq_false, laws_FnExactIndexOf.j0, laws_eqProfile.f, if_neg d, Bool.false_eq_true, if_false, laws_eqIntS.self _ g1, laws_eqIntS.self _ g2, laws_toProfile.f]
end Go.Proofs.Ytembojekkfalgaa.Pure
