/- The pure statement of the law FnExactGoodFits: whatever came in, the law's Lean function brings true. Conditions: those that it names. -/
import Derived.Test.YteajedaijnghbaaPFnExactGoodFitsxB
set_option linter.unusedVariables false
namespace Go.Proofs.Yteajedaijnghbaa.Pure
open Go.RowKit Go.Proofs.Yteajedaijnghbaa.PFnExactGoodFits Go.Proofs.YteajedaijnghbaaW.PrintWords Go.Proofs.YteajedaijnghbaaW.PrintLast Go.Proofs.YteajedaijnghbaaW.PrintMore
theorem FnExactGoodFits : laws_FnExactGoodFits.Pure := by
  intro l hl
  have h1 : l.length ≤ 9223372036854775807 := by have := hl.1; unfold maxLen at this; omega
  have h2 : ∀ r ∈ l, r.length ≤ 9223372036854775807 := fun r hr => by have := (hl.2 r hr).1; unfold maxLen at this; omega
  unfold laws_FnExactGoodFits.f laws_szBoolSS.f
  rw [if_pos ⟨⟨h1, h2⟩, by omega, by omega⟩]
  simp only [Option.bind_some]
  by_cases c : M.sz l.length (l.map (·.length)) 1048576 < 0
  · rw [if_pos c]
  · have d := M.sz_ok c
    have g1 : l.length ≤ 1048576 := by omega
    have g2 : M.rowsOk l = true := by
      rw [M.rowsOk_iff]
      intro r hr
      have := d.2 r.length (List.mem_map_of_mem hr)
      omega
    rw [if_neg c]
    simp only [laws_toBoolSS.eq l g1 g2, Option.bind_some]
    unfold spec_GoodFits.f impl_GoodFits.f
    rw [if_pos g1]
    simp only [Option.bind_some, bne_self_eq_false, Bool.false_eq_true, if_false, laws_eqBoolSS.self l g1 g2, if_true]
end Go.Proofs.Yteajedaijnghbaa.Pure
