/- The pure statement of the law FnExactGoodGoods: whatever came in, the law's Lean function brings true. Conditions: those that it names. -/
import Derived.Test.YtnaknegnpgodkaaDoorPFnExactGoodGoodsxB
set_option linter.unusedVariables false
namespace Go.Proofs.YtnaknegnpgodkaaDoor.Pure
open Go.RowKit Go.Proofs.YtnaknegnpgodkaaDoor.PFnExactGoodGoods Go.Proofs.YtnaknegnpgodkaaDoorW.PrintWords Go.Proofs.YtnaknegnpgodkaaDoorW.PrintLast Go.Proofs.YtnaknegnpgodkaaDoorW.PrintMore
theorem FnExactGoodGoods : laws_FnExactGoodGoods.Pure := by
  intro l hl
  have h1 : l.length ≤ 9223372036854775807 := by have := hl.1; unfold maxLen at this; omega
  have h2 : ∀ x ∈ l, x.f0.size ≤ 9223372036854775807 := fun x hx => by have := (hl.2 x hx).1; unfold maxLen at this; omega
  unfold laws_FnExactGoodGoods.f laws_szGoodS.f
  rw [if_pos ⟨⟨h1, h2⟩, by omega, by omega⟩]
  simp only [Option.bind_some]
  by_cases c : M.sz l.length (l.map fun x => x.f0.size) 1048576 < 0
  · rw [if_pos c]
  · have d := M.sz_ok c
    have g1 : l.length ≤ 1048576 := by omega
    have g2 : ∀ x ∈ l, x.f0.size ≤ 1048576 := fun x hx => by
      have := d.2 x.f0.size (List.mem_map_of_mem (f := fun x : S55 => x.f0.size) hx)
      omega
    rw [if_neg c]
    obtain ⟨m, hm, g3, g4⟩ : ∃ m, laws_toGoodS.f l = some m ∧ m.length ≤ 1048576 ∧ ∀ x ∈ m, x.f0.size ≤ 1048576 := ⟨_, laws_toGoodS.eq l g1 (fun _ _ => trivial), by rw [List.length_map]; exact g1, fun x hx => by
      obtain ⟨y, hy, rfl⟩ := List.mem_map.1 hx
      exact g2 y hy⟩
    have e1 : spec_GoodGoods.f m = some (M.goodGoods (fun x : S56 => x.f0) (fun x : S56 => x.f1) m) := by unfold spec_GoodGoods.f; rw [if_pos ⟨g3, g4⟩]
    have e2 : impl_GoodGoods.f m = some (M.goodGoods (fun x : S56 => x.f0) (fun x : S56 => x.f1) m) := by unfold impl_GoodGoods.f; rw [if_pos (fun x hx => by have := g4 x hx; omega)]
    simp only [hm, e1, e2, Option.bind_some, bne_self_eq_false, Bool.false_eq_true, if_false, laws_eqGoodS.self m g3 (fun _ _ => trivial), if_true]
end Go.Proofs.YtnaknegnpgodkaaDoor.Pure
