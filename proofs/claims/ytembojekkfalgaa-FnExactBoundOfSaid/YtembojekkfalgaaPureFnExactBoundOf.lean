/- The pure statement of the law FnExactBoundOf: whatever came in, the law's Lean function brings true. Conditions: those that it names. -/
import Derived.Test.YtembojekkfalgaaPFnExactBoundOfxB
set_option linter.unusedVariables false
namespace Go.Proofs.Ytembojekkfalgaa.Pure
open Go.RowKit Go.Proofs.Ytembojekkfalgaa.PFnExactBoundOf Go.Proofs.YtembojekkfalgaaW.PrintWords Go.Proofs.YtembojekkfalgaaW.PrintLast Go.Proofs.YtembojekkfalgaaW.PrintMore
theorem FnExactBoundOf : laws_FnExactBoundOf.Pure := by
  intro l m hl _
  have h1 : l.length ≤ 9223372036854775807 := by have := hl.1; unfold maxLen at this; omega
  have h2 : ∀ x ∈ l, x.f0.length ≤ 9223372036854775807 := fun x hx => by have := (hl.2 x hx).1; unfold maxLen at this; omega
  refine ⟨1, ?_⟩
  unfold laws_FnExactBoundOf.f
  · unfold laws_szOfferS.f
    rw [if_pos ⟨⟨h1, h2⟩, by omega, by omega⟩]
    simp only [Option.bind_some]
    by_cases c : M.sz l.length (l.map fun x => x.f0.length) 1048576 < 0
    · rw [if_pos c]
    · have d := M.sz_ok c
      have g1 : l.length ≤ 1048576 := by omega
      have g2 : ∀ x ∈ l, x.f0.length ≤ 1048576 := fun x hx => by
        have := d.2 x.f0.length (List.mem_map_of_mem (f := fun x : S78 => x.f0.length) hx)
        omega
      obtain ⟨y, hy, g3, g4⟩ : ∃ y, laws_toOfferS.f l = some y ∧ y.length ≤ 1048576 ∧ ∀ x ∈ y, x.f0.length ≤ 1048576 := by
        refine ⟨_, laws_toOfferS.eq l g1 g2, by rw [List.length_map]; exact g1, fun x hx => ?_⟩
        obtain ⟨z, hz, rfl⟩ := List.mem_map.1 hx
        exact g2 z hz
      obtain ⟨r, hs, hi⟩ : ∃ r, spec_BoundOf.f y m = some r ∧ impl_BoundOf.f y m = some r := by
        unfold spec_BoundOf.f impl_BoundOf.f
        rw [if_pos ⟨g3, g4⟩]
        exact ⟨_, rfl, rfl⟩
      rw [if_neg c]
      simp only [hy, Option.bind_some, hs, hi, if_true, bne_self_eq_false, laws_FnExactBoundOf.j0, Bool.false_eq_true, if_false, laws_eqOfferS.self y g3 g4]
end Go.Proofs.Ytembojekkfalgaa.Pure
