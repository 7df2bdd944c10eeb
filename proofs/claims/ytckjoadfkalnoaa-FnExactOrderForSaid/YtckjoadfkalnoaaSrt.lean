/- The library's stable sort of few numbers by a comparison that reads memory: what it makes of a row of the call's own. Conditions: those that each theorem names. -/
import Derived.Test.YtckjoadfkalnoaaProg
import Derived.Test.YtckjoadfkalnoaaWMore
import Derived.Test.YtckjoadfkalnoaaWInv
import Derived.Test.YtckjoadfkalnoaaWKept
import Derived.Shelf.SlSortCmp.Insertion
import Derived.Shelf.GgSortFunc.Compose
import Derived.Sort.OwnSortedInts
import Derived.Deep.QuietTactic
import Derived.BigQuiet
set_option linter.unusedVariables false
namespace Go.Proofs.Ytckjoadfkalnoaa.R
open Go.Shelf Go.RowKit Go.Lib Go.Sort Go.Proofs.YtckjoadfkalnoaaW.PrintWords Go.Proofs.YtckjoadfkalnoaaW.PrintLast Go.Proofs.YtckjoadfkalnoaaW.PrintMore
def lay_ren : Go.Shelf.Ren := ⟨fun | 20 => 134 | n => n, fun | 24 => 3 | 22 => 35 | 3 => 3 | 25 => 99 | 4 => 4 | 0 => 0 | n => n, fun n => n⟩
theorem lay : SlLaysF.n20 Try.prog lay_ren := { mixed := by kernel_rfl, f20 := ⟨Try.f134.name, by decide, Try.func134.trans (congrArg some (by kernel_rfl))⟩, t0 := Try.underlying0, a0 := Try.isAgg0, z0 := Try.sizeOf0, v0 := Try.zeroValue0, t3 := Try.underlying3, a3 := Try.isAgg3, z3 := Try.sizeOf3, v3 := Try.zeroValue3, t4 := Try.underlying4, a4 := Try.isAgg4, z4 := Try.sizeOf4, v4 := Try.zeroValue4, t22 := Try.underlying35, a22 := Try.isAgg35, z22 := Try.sizeOf35, v22 := Try.zeroValue35, a24 := Try.isAgg3, z24 := Try.sizeOf3, t25 := Try.underlying99, a25 := Try.isAgg99, z25 := Try.sizeOf99, v25 := Try.zeroValue99 }
/-- Cells of another block stay through the sort. -/
theorem sort_cell {α : Type} [Inhabited α] (enc : α → Value) (w : World) (blk off m : Nat) (dk : Array α) (os : Array Obj) (a : Addr) (h1 : a.block ≠ blk) (h2 : a.block < w.heap.size) : (sortWorld enc w blk off m dk os).cell? a = w.cell? a := by
  unfold sortWorld
  rw [cell?_grow _ _ _ (by rw [size_putRow]; exact h2), cell?_putRow_other _ _ _ _ _ _ (.inl h1), cell?_ahead]
def encF (n : Nat) (x : Fin n) : Value := .int .i64 ((x : Nat) : Int)
theorem inner_ints {w : World} {ok : Nat → Prop} {base : Nat} {ss : List Int} {inner : List Value} (h : Reps ((Kd.int .i64).M w base ok) 1 ss inner) : inner = ss.map (Value.int .i64) := by
  apply List.ext_getElem?
  intro j
  have hl := h.1
  rw [Nat.mul_one] at hl
  rcases hj : ss[j]? with _ | p
  · have : ss.length ≤ j := List.getElem?_eq_none_iff.1 hj
    rw [List.getElem?_eq_none (by omega), List.getElem?_map, hj]; rfl
  · have h2 := h.2 j p hj
    have h3 : (inner.drop (j * 1)).take 1 = [Value.int .i64 p] := h2
    rw [Nat.mul_one] at h3
    have h4 := congrArg (fun z : List Value => z[0]?) h3
    simp only [List.getElem?_take, List.getElem?_drop] at h4
    rw [List.getElem?_map, hj]
    simpa using h4
/-- A row of the call's own, of numbers, behind a sort. -/
theorem row_sorted {w : World} {base : Nat} {ok : Nat → Prop} {g cap n m : Nat} {ss ts : List Int} (hl : ts.length = ss.length) (hpos : 0 < ss.length) (h : Kd.R (Kd.int .i64) 3 w base ok (.slice (some ⟨g, 0, none⟩) ss.length cap) ss) :
    Holds (Value.int .i64) w g 0 ss.toArray ∧ Kd.R (Kd.int .i64) 3 (grow (putRow (Value.int .i64) (Sort.ahead w n) g 0 ts.toArray) #[]) base ok (.slice (some ⟨g, 0, none⟩) ss.length cap) ts := by
  obtain ⟨hok, inner, ho, hr⟩ := h
  have hi := inner_ints hr
  subst hi
  rcases ho.2 with ⟨h0, _⟩ | ⟨g', cap', cur, hv, hg, hb, hn, hcap, hsz, htk⟩
  · cases h0
  · cases hv
    have htk' : cur.toList.take ss.length = ss.map (Value.int .i64) := by
      have e1 : ss.length * (Kd.int .i64).sz = ss.length := Nat.mul_one _
      rw [e1] at htk; exact htk
    refine ⟨holds_of_blockI hb htk', hok, ts.map (Value.int .i64), ?_, ?_⟩
    · rw [hl]
      exact ownsRow_sortedI hl hg hb hn hcap hsz
    · refine ⟨by rw [List.length_map]; exact (Nat.mul_one _).symm, fun j p hp => ?_⟩
      show ((ts.map (Value.int .i64)).drop (j * 1)).take 1 = [Value.int .i64 p]
      rw [Nat.mul_one, ← List.map_drop, ← List.map_take]
      have hj : j < ts.length := by
        rcases Nat.lt_or_ge j ts.length with h | h
        · exact h
        · rw [List.getElem?_eq_none h] at hp; cases hp
      rw [List.drop_eq_getElem_cons hj]
      rw [List.getElem?_eq_getElem hj] at hp
      injection hp with hp
      rw [hp]; rfl
theorem putCells_fin {n : Nat} [Inhabited (Fin n)] (d : Array (Fin n)) (off : Nat) (c : Array Value) : putCells (encF n) off d c = putCells (Value.int .i64) off (d.toList.map fun (x : Fin n) => ((x : Nat) : Int)).toArray c := by
  unfold putCells
  congr 1
  funext k x
  have hs : (d.toList.map fun (x : Fin n) => ((x : Nat) : Int)).toArray.size = d.size := by simp
  rw [hs]
  by_cases h : off ≤ k ∧ k < off + d.size
  · rw [if_pos h, if_pos h]
    have hk : k - off < d.size := by omega
    rw [getElem!_pos d (k - off) hk, getElem!_pos _ (k - off) (by rw [hs]; exact hk)]
    simp [encF]
  · rw [if_neg h, if_neg h]
theorem putRow_fin {n : Nat} [Inhabited (Fin n)] (d : Array (Fin n)) (w : World) (blk off : Nat) : putRow (encF n) w blk off d = putRow (Value.int .i64) w blk off (d.toList.map fun (x : Fin n) => ((x : Nat) : Int)).toArray := by
  unfold putRow
  congr 1
  funext c
  exact putCells_fin d off c
/-- The insertion sort of the numbers below n by a comparison that reads: the row of the call's own holds what the plain sort gives. -/
theorem ins_calls (n : Nat) (hn : 0 < n) [Inhabited (Fin n)] (cf : Fin n → Fin n → Int) (fn : Nat) (cb : Array Value) (P0_ : Nat → Prop) (base : Nat) (g cap : Nat) (hg : P0_ g) (d : List (Fin n)) (hd : d.length = n) (w : World)
    (eg : ∀ args w, (callFunc fn args).run Try.prog w = .ok (.enter fn args) w) (hcmp : CmpReads Try.prog fn cb (encF n) cf g 0 n w)
    (ho0 : Kd.R (Kd.int .i64) 3 w base P0_ (.slice (some ⟨g, 0, none⟩) n cap) (d.map fun (x : Fin n) => ((x : Nat) : Int))) (hsz : n < 4611686018427387904) (hlen : (Go.Sort.insertionSort (ltOf cf) d.toArray 0 n).size = n) :
    Calls Try.prog 134 #[.slice (some ⟨g, 0, none⟩) n cap, .int .i64 0, .int .i64 n, .func (.func fn) #[] cb] w fun e w' => e = .returned (.tuple #[]) ∧ Kd.R (Kd.int .i64) 3 w' base P0_ (.slice (some ⟨g, 0, none⟩) n cap) ((Go.Sort.insertionSort (ltOf cf) d.toArray 0 n).toList.map fun (x : Fin n) => ((x : Nat) : Int)) ∧ w.grownBy w' (some g) := by
  have hs : d.toArray.size = n := by simpa using hd
  have hm : (d.map fun (x : Fin n) => ((x : Nat) : Int)).length = n := by rw [List.length_map]; exact hd
  have hH0 := (row_sorted (w := w) (n := 0) (m := 0) (ts := d.map fun (x : Fin n) => ((x : Nat) : Int)) rfl (by omega) (by rw [hm]; exact ho0)).1
  have hH : Holds (encF n) w g 0 d.toArray := by
    intro j hj
    have hj' : j < d.length := by simpa using hj
    have h := hH0 j (by simpa using hj')
    rw [getElem!_pos _ j (by simpa using hj')] at h
    rw [getElem!_pos _ j hj]
    simpa [encF] using h
  have hc := Any.insertionSortCmpFunc_one (P := Try.prog) (ρ := lay_ren) lay (encF n) (fun _ => rfl) cf fn cb g 0 cap 0 n d.toArray w eg (by rw [hs]; exact hcmp) hH (Nat.zero_le _) (by omega) (by omega)
  rw [hs] at hc
  refine Calls.mono hc ?_
  rintro e w' ⟨rfl, q, rfl⟩
  have hp : ((putRow (encF n) w g 0 (Go.Sort.insertionSort (ltOf cf) d.toArray 0 n)).drewN q) = grow (putRow (Value.int .i64) (Sort.ahead w q) g 0 ((Go.Sort.insertionSort (ltOf cf) d.toArray 0 n).toList.map fun (x : Fin n) => ((x : Nat) : Int)).toArray) #[] := by
    rw [putRow_fin, grow_empty]
    rfl
  rw [hp]
  have h2 := (row_sorted (w := w) (n := q) (m := 0) (ts := (Go.Sort.insertionSort (ltOf cf) d.toArray 0 n).toList.map fun (x : Fin n) => ((x : Nat) : Int)) (by rw [hm, List.length_map, Array.length_toList, hlen]) (by omega) (by rw [hm]; exact ho0)).2
  rw [hm] at h2
  exact ⟨rfl, h2, grownBy_sortedI _⟩
set_option maxHeartbeats 1000000 in
theorem stable_calls (n : Nat) (hn : 0 < n) (h20 : n < 20) [Inhabited (Fin n)] (cf : Fin n → Fin n → Int) (fn : Nat) (cb : Array Value) (P0_ : Nat → Prop) (base : Nat) (g cap : Nat) (hg : P0_ g) (d : List (Fin n)) (hd : d.length = n) (w : World)
    (eg : ∀ args w, (callFunc fn args).run Try.prog w = .ok (.enter fn args) w) (hcmp : ∀ q, CmpReads Try.prog fn cb (encF n) cf g 0 n (w.drewN q))
    (ho0 : ∀ q, Kd.R (Kd.int .i64) 3 (w.drewN q) base P0_ (.slice (some ⟨g, 0, none⟩) n cap) (d.map fun (x : Fin n) => ((x : Nat) : Int))) (hlen : (Go.Sort.insertionSort (ltOf cf) d.toArray 0 n).size = n) :
    Calls Try.prog 122 #[.slice (some ⟨g, 0, none⟩) n cap, .int .i64 n, .func (.func fn) #[] cb] w fun e w' => e = .returned (.tuple #[]) ∧ ∃ q q2 w2, w' = w2.drewN q2 ∧ Kd.R (Kd.int .i64) 3 w2 base P0_ (.slice (some ⟨g, 0, none⟩) n cap) ((Go.Sort.insertionSort (ltOf cf) d.toArray 0 n).toList.map fun (x : Fin n) => ((x : Nat) : Int)) ∧ (w.drewN q).grownBy w2 (some g) := by
  have hc := fun q => ins_calls n hn cf fn cb P0_ base g cap hg d hd (w.drewN q) eg (hcmp q) (ho0 q) (by omega) hlen
  have e1 : decide ((20 : Int) ≤ (n : Int)) = false := decide_eq_false (by omega)
  have e2 : decide ((20 : Int) < (n : Int)) = false := decide_eq_false (by omega)
  have HC := Aside0.mk hc
  clear hc hcmp ho0 hlen
  go_enter Try.func122, Try.ntmps122
  go_wp2
  go_loopg [7, 8] 0 (fun gg v7 v8 w' => v7 = .int .i64 0 ∧ v8 = .int .i64 20 ∧ ∃ q, w' = w.drewN q)
  case atStart => exact ⟨rfl, rfl, 0, rfl⟩
  case round =>
    obtain ⟨rfl, rfl, q, rfl⟩ := hrel
    go_wp2_with (go_at_call 134; refine Calls.mono (HC.out _) ?_; rintro e w2 ⟨rfl, hR, hG⟩)
    have HR := Aside0.mk hR
    have HG := Aside0.mk hG
    clear hR hG
    go_loopg [6, 7, 8] 0 (fun gg v6 v7 v8 w' => v6 = .int .i64 20 ∧ ∃ q2, w' = w2.drewN q2)
    case atStart => exact ⟨rfl, 0, rfl⟩
    case round =>
      obtain ⟨rfl, q2, rfl⟩ := hrel
      go_wp2
      go_end0
      exact ⟨rfl, _, _, w2, rfl, HR.out, HG.out⟩
set_option maxHeartbeats 1000000 in
theorem sortStable_calls (n : Nat) (hn : 0 < n) (h20 : n < 20) [Inhabited (Fin n)] (cf : Fin n → Fin n → Int) (fn : Nat) (cb : Array Value) (P0_ : Nat → Prop) (base : Nat) (g cap : Nat) (hg : P0_ g) (d : List (Fin n)) (hd : d.length = n) (w : World)
    (eg : ∀ args w, (callFunc fn args).run Try.prog w = .ok (.enter fn args) w) (hcmp : ∀ q, CmpReads Try.prog fn cb (encF n) cf g 0 n (w.drewN q))
    (ho0 : ∀ q, Kd.R (Kd.int .i64) 3 (w.drewN q) base P0_ (.slice (some ⟨g, 0, none⟩) n cap) (d.map fun (x : Fin n) => ((x : Nat) : Int))) (hlen : (Go.Sort.insertionSort (ltOf cf) d.toArray 0 n).size = n) :
    Calls Try.prog 84 #[.slice (some ⟨g, 0, none⟩) n cap, .func (.func fn) #[] cb] w fun e w' => e = .returned (.tuple #[]) ∧ ∃ q q2 w2, w' = w2.drewN q2 ∧ Kd.R (Kd.int .i64) 3 w2 base P0_ (.slice (some ⟨g, 0, none⟩) n cap) ((Go.Sort.insertionSort (ltOf cf) d.toArray 0 n).toList.map fun (x : Fin n) => ((x : Nat) : Int)) ∧ (w.drewN q).grownBy w2 (some g) := by
  have hc := fun q => stable_calls n hn h20 cf fn cb P0_ base g cap hg d hd (w.drewN q) eg (fun r => by rw [World.drewN_drewN]; exact hcmp _) (fun r => by rw [World.drewN_drewN]; exact ho0 _) hlen
  have HC := Aside0.mk hc
  clear hc hcmp ho0 hlen
  go_enter Try.func84, Try.ntmps84
  go_wp2_with (go_at_call 122; (first | refine Calls.mono (HC.out _) ?_ | refine Calls.mono (HC.out 0) ?_); rintro e w' ⟨rfl, q, q2, w2, rfl, hR, hG⟩)
  go_end0
  exact ⟨rfl, _, _, w2, rfl, hR, by rw [World.drewN_drewN] at hG; exact hG⟩
theorem cell_drewN (w : World) (q : Nat) (a : Addr) : (w.drewN q).cell? a = w.cell? a := cell?_ahead w q a

set_option maxHeartbeats 1000000 in
theorem ins_none (p : Option Addr) (cap : Nat) (fv : Value) (w : World) : Calls Try.prog 134 #[.slice p 0 cap, .int .i64 0, .int .i64 0, fv] w fun e w' => e = .returned (.tuple #[]) ∧ w' = w := by
  go_enter Try.func134, Try.ntmps134
  go_wp2
  refine wp_loop_rounds 1 ?_
  rw [rounds_succ]
  go_wp2
  go_end0
  exact ⟨rfl, rfl⟩
set_option maxHeartbeats 1000000 in
theorem stable_none (p : Option Addr) (cap : Nat) (fv : Value) (w : World) : Calls Try.prog 122 #[.slice p 0 cap, .int .i64 0, fv] w fun e w' => e = .returned (.tuple #[]) ∧ ∃ q, w' = w.drewN q := by
  go_enter Try.func122, Try.ntmps122
  go_wp2
  go_loopg [7, 8] 0 (fun gg v7 v8 w' => v7 = .int .i64 0 ∧ v8 = .int .i64 20 ∧ ∃ q, w' = w.drewN q)
  case atStart => exact ⟨rfl, rfl, 0, rfl⟩
  case round =>
    obtain ⟨rfl, rfl, q, rfl⟩ := hrel
    go_wp2_with (go_at_call 134; refine (ins_none _ _ _ _).mono ?_; rintro e w2 ⟨rfl, rfl⟩)
    go_loopg [6, 7, 8] 0 (fun gg v6 v7 v8 w' => v6 = .int .i64 20 ∧ ∃ q2, w' = w.drewN q2)
    case atStart => exact ⟨rfl, _, rfl⟩
    case round =>
      obtain ⟨rfl, q2, rfl⟩ := hrel
      go_wp2
      go_end0
      exact ⟨rfl, _, rfl⟩
set_option maxHeartbeats 1000000 in
theorem sortStable_none (p : Option Addr) (cap : Nat) (fv : Value) (w : World) : Calls Try.prog 84 #[.slice p 0 cap, fv] w fun e w' => e = .returned (.tuple #[]) ∧ ∃ q, w' = w.drewN q := by
  go_enter Try.func84, Try.ntmps84
  go_wp2_with (go_at_call 122; refine (stable_none _ _ _ _).mono ?_; rintro e w' ⟨rfl, q, rfl⟩)
  go_end0
  exact ⟨rfl, _, rfl⟩
/-- A row of the call's own that holds something: where it lies. -/
theorem row_at {w : World} {base : Nat} {ok : Nat → Prop} {v : Value} {ss : List Int} (hpos : 0 < ss.length) (h : Kd.R (Kd.int .i64) 3 w base ok v ss) : ∃ g cap, base ≤ g ∧ g < w.heap.size ∧ ok g ∧ v = .slice (some ⟨g, 0, none⟩) ss.length cap := by
  obtain ⟨hok, inner, ho, hr⟩ := h
  have hlt := own_lt ho
  rcases ho.2 with ⟨hv, h0⟩ | ⟨g', cap', cur, hv, hg, hb, hn, hcap, hsz, htk⟩
  · omega
  · subst hv
    exact ⟨g', cap', hg, hlt g' rfl, hok g' rfl, rfl⟩
end Go.Proofs.Ytckjoadfkalnoaa.R
