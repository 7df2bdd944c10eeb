/- The pure statement of the law FnExactProfileOf: whatever came in, the law's Lean function brings true. Conditions: those that it names. -/
import Derived.Test.YtnaknegnpgodkaaDoorPFnExactProfileOfxB
set_option linter.unusedVariables false
namespace Go.Proofs.YtnaknegnpgodkaaDoor.Pure
open Go.RowKit Go.Proofs.YtnaknegnpgodkaaDoor.PFnExactProfileOf Go.Proofs.YtnaknegnpgodkaaDoorW.PrintWords Go.Proofs.YtnaknegnpgodkaaDoorW.PrintLast Go.Proofs.YtnaknegnpgodkaaDoorW.PrintMore
theorem FnExactProfileOf : laws_FnExactProfileOf.Pure := by
  intro l ls hl hls
  have h1 : l.length ≤ 9223372036854775807 := by have := hl.1; unfold maxLen at this; omega
  have h2 : ∀ x ∈ l, x.f0.size ≤ 9223372036854775807 := fun x hx => by have := (hl.2 x hx).1; unfold maxLen at this; omega
  have h3 : ls.length ≤ 9223372036854775807 := by have := hls.1; unfold maxLen at this; omega
  obtain ⟨K, hK⟩ : ∃ K, l.length + ls.length + 9000010 < K := ⟨_, Nat.lt_succ_self _⟩
  refine ⟨K + 3, ?_⟩
  unfold laws_FnExactProfileOf.f laws_szGoodS.f
  rw [if_pos ⟨⟨h1, h2⟩, by omega, by omega⟩]
  simp only [Option.bind_some]
  have hz := M.sz_le l.length (l.map fun x => x.f0.size) 1048576 (by omega)
  by_cases c : M.sz l.length (l.map fun x => x.f0.size) 1048576 < 0
  · rw [if_pos c]
  · have d := M.sz_ok c
    have g1 : l.length ≤ 1048576 := by omega
    have g2 : ∀ x ∈ l, x.f0.size ≤ 1048576 := fun x hx => by
      have := d.2 x.f0.size (List.mem_map_of_mem (f := fun x : S55 => x.f0.size) hx)
      omega
    rw [if_neg c]
    unfold laws_szLineS.f
    rw [M.wrap_id (x := M.sz l.length (l.map fun x => x.f0.size) 1048576 - (ls.length : Int)) (by omega) (by omega)]
    by_cases c2 : M.sz l.length (l.map fun x => x.f0.size) 1048576 - (ls.length : Int) < 0
    · rw [if_pos c2]; simp
    · have g5 : ls.length ≤ 1048576 := by omega
      rw [if_neg c2]
      simp only [Option.bind_some]
      rw [if_neg c2]
      obtain ⟨m, hm, g3, g4, g6⟩ : ∃ m, laws_toGoodS.f l = some m ∧ m.length ≤ 1048576 ∧ (∀ x ∈ m, x.f0.size ≤ 1048576) ∧ m.length = l.length := ⟨_, laws_toGoodS.eq l g1 (fun _ _ => trivial), by rw [List.length_map]; exact g1, fun x hx => by
        obtain ⟨y, hy, rfl⟩ := List.mem_map.1 hx
        exact g2 y hy, by rw [List.length_map]⟩
      obtain ⟨n, hn, g7, g8⟩ : ∃ n, laws_toLineS.f ls = some n ∧ n.length ≤ 1048576 ∧ n.length = ls.length := ⟨_, laws_toLineS.eq ls g5 (fun _ _ => trivial), by rw [List.length_map]; exact g5, by rw [List.length_map]⟩
      obtain ⟨p, q, b, hs, hi, hp, hq⟩ : ∃ p q b, spec_ProfileOf.f m n = some (p, q, b) ∧ impl_ProfileOf.f m n = some (p, q, b) ∧ p.length ≤ 1048576 ∧ q.length ≤ 1048576 := by
        unfold spec_ProfileOf.f impl_ProfileOf.f
        rw [if_pos ⟨g3, g4, g7⟩]
        by_cases e : M.goodGoods (fun x : S56 => x.f0) (fun x : S56 => x.f1) m = true ∧ n.length ≤ 80
        · rw [if_pos e]
          have hb := M.profFrom_length (fun x : S64 => x.f0) (fun x : S64 => x.f1) (fun k => (rd_T56 m k).f1) m.length n (List.replicate m.length 0) (List.replicate m.length 0) (by rw [List.length_replicate]; exact Nat.le_refl _) (by rw [List.length_replicate]; exact Nat.le_refl _)
          exact ⟨_, _, _, rfl, rfl, Nat.le_trans hb.1 g3, Nat.le_trans hb.2 g3⟩
        · rw [if_neg e]
          exact ⟨_, _, _, rfl, rfl, Nat.zero_le _, Nat.zero_le _⟩
      have eqp : laws_eqProfile.f p q p q = some true := by
        unfold laws_eqProfile.f
        simp only [laws_eqIntS.self p hp, laws_eqIntS.self q hq, Option.bind_some, if_true]
      obtain ⟨t, ht, ht1⟩ := laws_markGoodS.at m g3 1 (by omega) (by omega) (K + 2) (by omega)
      obtain ⟨u, hu, hu1⟩ := laws_markLineS.at n g7 t.1 (by omega) (by omega) (K + 2) (by omega)
      have n0 : ¬ u.1 < 0 := by omega
      have hmp : laws_markProfile.f p q 1 = some (1 + (p.length : Int) + (q.length : Int), M.upFrom 1 p.length, M.upFrom (1 + (p.length : Int)) q.length) := by
        unfold laws_markProfile.f
        rw [laws_markIntS.eq p hp]
        simp only [Option.bind_some]
        unfold laws_markIntS.f
        rw [if_pos (by omega)]
        rfl
      have n1 : ¬ (1 + (p.length : Int) + (q.length : Int) < 0) := by omega
      have hhp : laws_heldProfile.f (M.upFrom 1 p.length) (M.upFrom (1 + (p.length : Int)) q.length) 1 = some (1 + (p.length : Int) + (q.length : Int)) := by
        unfold laws_heldProfile.f
        rw [laws_heldIntS.eq _ hp]
        simp only [Option.bind_some]
        rw [if_neg (by omega)]
        unfold laws_heldIntS.f
        rw [M.upFrom_length, if_pos (by omega), if_pos rfl]
        simp only [Option.bind_some]
        rw [if_neg n1]
      simp only [hm, hn, hs, hi, Option.bind_some, eqp, if_true, laws_FnExactProfileOf.j0, laws_FnExactProfileOf.j1, laws_FnExactProfileOf.j2, bne_self_eq_false, Bool.false_eq_true, if_false, laws_eqGoodS.self m g3 (fun _ _ => trivial), laws_eqLineS.self n g7 (fun _ _ => trivial), ht, hu, n0, hmp, hhp, n1]
end Go.Proofs.YtnaknegnpgodkaaDoor.Pure
