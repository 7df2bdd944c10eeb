/- The pure statement of the law FnExactGoodOffers: whatever came in, the law's Lean function brings true. Conditions: those that it names. -/
import Derived.Test.YtembojekkfalgaaPFnExactGoodOffersxB
set_option linter.unusedVariables false
namespace Go.Proofs.Ytembojekkfalgaa.Pure
open Go.RowKit Go.Proofs.Ytembojekkfalgaa.PFnExactGoodOffers Go.Proofs.YtembojekkfalgaaW.PrintWords Go.Proofs.YtembojekkfalgaaW.PrintLast Go.Proofs.YtembojekkfalgaaW.PrintMore
theorem FnExactGoodOffers : laws_FnExactGoodOffers.Pure := by
  intro l hl
  have h1 : l.length ≤ 9223372036854775807 := by have := hl.1; unfold maxLen at this; omega
  have h2 : ∀ x ∈ l, x.f0.length ≤ 9223372036854775807 := fun x hx => by have := (hl.2 x hx).1; unfold maxLen at this; omega
  unfold laws_FnExactGoodOffers.f laws_szOfferS.f
  rw [if_pos ⟨⟨h1, h2⟩, by omega, by omega⟩]
  simp only [Option.bind_some]
  by_cases c : M.sz l.length (l.map fun x => x.f0.length) 1048576 < 0
  · rw [if_pos c]
  · have d := M.sz_ok c
    have g1 : l.length ≤ 1048576 := by omega
    have g2 : ∀ x ∈ l, x.f0.length ≤ 1048576 := fun x hx => by
      have := d.2 x.f0.length (List.mem_map_of_mem (f := fun x : S78 => x.f0.length) hx)
      omega
    rw [if_neg c]
    simp only [laws_toOfferS.eq l g1 g2, Option.bind_some]
    have g3 : (l.map fun x => (⟨x.f0⟩ : S79)).length ≤ 1048576 := by rw [List.length_map]; exact g1
    have g4 : ∀ x ∈ (l.map fun x => (⟨x.f0⟩ : S79)), x.f0.length ≤ 1048576 := fun x hx => by
      obtain ⟨y, hy, rfl⟩ := List.mem_map.1 hx
      exact g2 y hy
    unfold spec_GoodOffers.f impl_GoodOffers.f
    rw [if_pos ⟨g3, g4⟩]
    simp only [Option.bind_some, bne_self_eq_false, Bool.false_eq_true, if_false, laws_eqOfferS.self _ g3 g4, if_true]
end Go.Proofs.Ytembojekkfalgaa.Pure
