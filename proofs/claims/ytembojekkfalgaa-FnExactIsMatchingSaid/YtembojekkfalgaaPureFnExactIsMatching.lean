/- The pure statement of the law FnExactIsMatching: whatever came in, the law's Lean function brings true. Conditions: those that it names. -/
import Derived.Test.YtembojekkfalgaaPFnExactIsMatchingxB
set_option linter.unusedVariables false
namespace Go.Proofs.Ytembojekkfalgaa.Pure
open Go.RowKit Go.Proofs.Ytembojekkfalgaa.PFnExactIsMatching Go.Proofs.YtembojekkfalgaaW.PrintWords Go.Proofs.YtembojekkfalgaaW.PrintLast Go.Proofs.YtembojekkfalgaaW.PrintMore
theorem FnExactIsMatching : laws_FnExactIsMatching.Pure := by
  intro l m hl _
  have h1 : l.length ≤ 9223372036854775807 := by have := hl.1; unfold maxLen at this; omega
  have h2 : ∀ r ∈ l, r.length ≤ 9223372036854775807 := fun r hr => by have := (hl.2 r hr).1; unfold maxLen at this; omega
  refine ⟨1, ?_⟩
  unfold laws_FnExactIsMatching.f
  by_cases c' : (m.length : Int) > 1048576
  · rw [if_pos c']
  · have hm : m.length ≤ 1048576 := by omega
    rw [if_neg c']
    unfold laws_szBoolSS.f
    rw [if_pos ⟨⟨h1, h2⟩, by omega, by omega⟩]
    simp only [Option.bind_some]
    by_cases c : M.sz l.length (l.map (·.length)) 1048576 < 0
    · rw [if_pos c]
    · have d := M.sz_ok c
      have g1 : l.length ≤ 1048576 := by omega
      have g2 : M.rowsOk l = true := by
        rw [M.rowsOk_iff]
        intro r hr
        have := d.2 r.length (List.mem_map_of_mem hr)
        omega
      obtain ⟨r, hs, hi⟩ : ∃ r, spec_IsMatching.f l m = some r ∧ impl_IsMatching.f l m = some r := by
        unfold spec_IsMatching.f impl_IsMatching.f spec_GoodFits.f spec_l8Matching.f
        rw [if_pos g1]
        simp only [Option.bind_some]
        by_cases e : M.goodFits l = true
        · rw [if_pos e, if_pos e, if_pos e]
          exact ⟨_, rfl, rfl⟩
        · rw [if_neg e, if_neg e]
          exact ⟨_, rfl, rfl⟩
      rw [if_neg c]
      simp only [laws_toBoolSS.eq l g1 g2, laws_toIntS.eq m hm, Option.bind_some, hs, hi, if_true, bne_self_eq_false, laws_FnExactIsMatching.j0, Bool.false_eq_true, if_false, laws_eqBoolSS.self l g1 g2, laws_eqIntS.self m hm]
end Go.Proofs.Ytembojekkfalgaa.Pure
