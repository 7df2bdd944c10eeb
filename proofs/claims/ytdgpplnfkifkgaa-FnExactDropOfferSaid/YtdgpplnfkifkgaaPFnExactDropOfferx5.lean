/- Contracts of the Go functions that the law FnExactDropOffer reaches, printed by a program of this session over the kit's print: each call comes to what the Lean function beside it says. Conditions: those that each theorem names. -/
import Derived.Test.YtdgpplnfkifkgaaPFnExactDropOfferx0
import Derived.Test.YtdgpplnfkifkgaaPFnExactDropOfferx1
import Derived.Test.YtdgpplnfkifkgaaPFnExactDropOfferx2
import Derived.Test.YtdgpplnfkifkgaaPFnExactDropOfferx3
import Derived.Test.YtdgpplnfkifkgaaPFnExactDropOfferx4
namespace Go.Proofs.Ytdgpplnfkifkgaa.PFnExactDropOffer
open Go.RowKit Go.Proofs.YtdgpplnfkifkgaaW.PrintWords Go.Proofs.YtdgpplnfkifkgaaW.PrintLast Go.Proofs.YtdgpplnfkifkgaaW.PrintMore
attribute [local go_sem] max2_int min2_int max_two min_two max_three min_three max_four min_four   -- for this text's walks alone
set_option linter.unusedVariables false
set_option linter.unusedSimpArgs false

/-! ### laws_FnExactDropOffer: function 4 -/
section
variable {P : Program} {md : Region.Mode} {ops : Array Oper} {Q : Exit → Act → World → Prop}
/-- In a region that draws: what is held may be told anew, more of it. -/
theorem switch_ {S1 S2 : World → Prop} (hS : ∀ w, S2 w → S1 w) : ∀ (fuel : Nat) (l : Array Bool) (a : Act) (w : World), S2 w → wpAnyLast P md ops Q S2 [] fuel l a w → wpAnyLast P md ops Q S1 [] fuel l a w
  | 0, _, _, _, _, h => h
  | fuel + 1, l, a, w, hw, h => ⟨h.1, fun i hi => wpOp_mono (fun a' w' h' => ⟨fun _ _ => hS _ (h'.1 (by simp) hw), switch_ hS fuel _ _ _ (h'.1 (by simp) hw) h'.2⟩) (h.2 i hi)⟩
theorem cut_three {P : Program} (t e : TypeId) {i : TypeInfo} (ht : P.underlying t = some (.slice e)) (hi : P.info? e = some i) (size : Nat) (hsz : i.size = size) (A : Option Addr) (n c : Nat) (lo hi' m : Int) (h0 : 0 ≤ lo) (h1 : lo ≤ hi') (h2 : hi' ≤ m) (hc : m ≤ c) :
    ∃ v, ∀ W : World, (Instr.slice t (.slice A n c) (some (.int .i64 lo)) (some (.int .i64 hi')) (some (.int .i64 m))).run P W = .ok v W := by
  have hel : P.elem t = e := by simp [Program.elem, ht]
  have hu : P.underlying t = some (.slice (P.elem t)) := by rw [hel]; exact ht
  refine ⟨sliced A lo.toNat hi'.toNat m.toNat size, fun W => ?_⟩
  rw [run_slice_lhm W t A n c hu .i64 .i64 .i64 lo hi' m h0 h1 h2 hc, hel]
  simp [sizeOf, typeInfo, hi, hsz, Result.andThen]
end
/-- What lies behind a row's end may be written: the row reads as before. -/
theorem C_behind {W : World} {base g n c : Nat} {ok : Nat → Prop} {xs : List S59} (h : Kd.N k59 59 W base ok (.slice (some ⟨g, 0, none⟩) n c) xs) (o : Nat) (ho : n ≤ o) (u : Value) : Kd.C k59 (W.setCell ⟨g, o, none⟩ u) (some ⟨g, 0, none⟩) xs.length xs := by
  have hn := (Kd.N_reads' h).1
  have hmx := (Kd.N_reads' h).2.2.2.1
  obtain ⟨hown, rows, hl, hR, hf⟩ := h
  have hraw := (Kd.R_reads' hR).2.2
  refine ⟨rfl, hmx, fun hp => ?_⟩
  obtain ⟨ad, e, hc⟩ := hraw.2.2 (by omega)
  injection e with e
  subst e
  refine ⟨⟨g, 0, none⟩, rfl, fun j p hj => ?_⟩
  have hjl : j < xs.length := (List.getElem?_eq_some_iff.1 hj).1
  obtain ⟨r, hr⟩ : ∃ r, rows[j]? = some r := ⟨rows[j]'(by omega), List.getElem?_eq_getElem (by omega)⟩
  obtain ⟨cs, h1, h2, h3⟩ := hc j r hr
  obtain ⟨rfl, h4⟩ := h2
  refine ⟨cs, h1, ?_, fun i v hi => ?_⟩
  · refine (hf j p cs hj hr) (W.setCell ⟨g, o, none⟩ u) (fun k hk hlt => Below.heap_setCell _ _ _ _ (fun e => hk.2 (by simp [Value.ownBlock, e])))
  · have h1' : cs.length = 1 := h1
    have hi2 : i = 0 := by have := (List.getElem?_eq_some_iff.1 hi).1; omega
    subst hi2
    have h5 : W.cell? ⟨g, j, none⟩ = some v := by
      have h6 := h3 0 v hi
      rw [add_plain] at h6
      rw [show j = j * (Kd.raw k59.sz).sz + 0 from (by show j = j * 1 + 0; omega)]
      exact h6
    rw [add_plain, show j * k59.sz + 0 = j from (by show j * 1 + 0 = j; omega)]
    exact (World.cell?_setCell_other _ _ _ _ (fun e => by have h6 : o = j := congrArg Addr.off e; omega)).trans h5
theorem F_came {w : World} {A : Option Addr} {l : List S59} (h : Kd.C k59 w A l.length l) : Kd.F k59 w (fun k => k < w.heap.size) A l.length l := Kd.C_F (Kd.heap_iso _ (Kd.heap_slice 3 (Kd.heap_int .i64))) h
set_option maxHeartbeats 8000000 in
set_option maxRecDepth 100000 in
theorem clone_calls (A0 : Option Addr) (c0 : Nat) (l : List S59) (w : World) (hr0 : Kd.C k59 w A0 l.length l) (hc0 : l.length ≤ c0) (hp : 0 < l.length) (hl : l.length ≤ 1048576) :
    Calls Try.prog 40 #[.slice A0 l.length c0] w fun e w' => ∃ g c, e = .returned (.slice (some ⟨g, 0, none⟩) l.length c) ∧ Kd.N k59 59 w' w.heap.size (fun _ => True) (.slice (some ⟨g, 0, none⟩) l.length c) l ∧ Below w.heap.size w w' := by
  have q_ : ∀ (w : World) (a : Option Addr) (n c n' c' : Nat), (binOp .eql 37 (.slice a n c) (.slice none n' c')).run Try.prog w = .ok (.bool a.isNone) w := fun w a n c n' c' => Go.Lib.run_eql_slice_nil w _ _ a n c n' c' Try.underlying37
  obtain ⟨ad0, rfl⟩ : ∃ ad, A0 = some ad := by
    obtain ⟨ad, _, _, e, _⟩ := at_T59 hr0 0 (by omega) (by omega)
    exact ⟨ad, e⟩
  have HF := Aside0.mk (F_came hr0)
  have HC := Aside0.mk hc0
  have HL := Aside0.mk hl
  have HP := Aside0.mk hp
  have HB := Aside0.mk (Below.refl w.heap.size w)
  clear hr0 hc0 hl hp
  go_enter Try.func40, Try.ntmps40
  go_wp2_with (first | ((with_reducible refine gate_dst (N := 5) rfl ?_); refine Kd.N_lit k59 (w0 := w) w.heap.size 59 ?hg (N' := 5) ?hd (xs := ([] : List S59)) (inner := []) (ok := fun _ => True) (okp := fun _ => True) ?hr ?hp (fun _ hk => hk) trivial (by repeat (first | (with_reducible first | exact HB.out | apply below_alloc | apply pw_below_drewN | apply below_drew1) | exact HB.out)) (below_size (by repeat (first | (with_reducible first | exact HB.out | apply below_alloc | apply pw_below_drewN | apply below_drew1) | exact HB.out))) (by simp) ?_; (case hd => rfl); (case hg => rfl); (case hr => first | (go_simp; done) | (go_simp; rfl)); (case hp => exact (Reps.none _ _)); intro v1 w1 ho hb hg_ hnew_; clear hg_ hnew_ HB; have HO := Aside0.mk ho; have HB := Aside0.mk hb; clear ho hb) | ((with_reducible refine gate_builtin (b := .append) (xs := #[.tmp 5, .tmp 6]) rfl ?_); at_builtin; refine Kd.N_append_rows k59 (w0 := w) w.heap.size rfl (.tmp 5) (.tmp 6) 37 59 (.agg #[(.slice none 0 0)]) 24 rfl Try.underlying37 info59 rfl (by decide) (by omega) v1 [] l _ _ _ (fun _ => True) (fun k_ => k_ < w.heap.size) rfl rfl ?aO ?aR ?aK ?aF ?aB ?aS ?aL ?_; (case aR => exact Kd.F_below HF.out HB.out); (case aK => exact (fun k hk => ⟨trivial, fun e => by have := Kd.N_base HO.out k e.symm; omega⟩)); (case aB => exact (by repeat (first | (with_reducible first | exact HB.out | apply below_alloc | apply pw_below_drewN | apply below_drew1) | exact HB.out))); (case aF => exact (fun _ _ => trivial)); (case aO => exact HO.out); (case aS => exact (below_size (by repeat (first | (with_reducible first | exact HB.out | apply below_alloc | apply pw_below_drewN | apply below_drew1) | exact HB.out)))); (case aL => have := HL.out; simp only [List.length_nil]; omega); intro v2 w2 ho hb hg hat; clear HB HO hg hat; have HO := Aside0.mk ho; have HB := Aside0.mk hb; clear ho hb))
  obtain ⟨g, c, e, _, _, _⟩ := Kd.N_form HO.out (by have := HP.out; simpa using this)
  subst e
  go_ret
  exact ⟨g, c, rfl, HO.out, HB.out⟩

def del_.T5 : Bool × List (List Nat × List Nat) := (true, [([], []), ([], []), ([0, 1], [0, 1]), ([], []), ([], []), ([3, 4], [3, 4]), ([2, 5], [2, 5]), ([6, 6, 0, 1, 2, 3, 4, 5, 6], [0, 3, 6])])
def del_.B5 : List Nat := [0, 0, 3, 0, 0, 24, 63, 127]
theorem del_.tab5 : rtab .any (opsOf Try.f39 5) = del_.T5 := by kernel_rfl
theorem del_.bits5 : waitsOk del_.T5.2 del_.B5 = true := by kernel_rfl
theorem cut_cap {P : Program} (t e : TypeId) {i : TypeInfo} (ht : P.underlying t = some (.slice e)) (hi : P.info? e = some i) (hsz : i.size = 1) (g n c : Nat) (lo hi' : Nat) (h1 : lo < hi') (h2 : hi' ≤ c) :
    ∀ W : World, (Instr.slice t (.slice (some ⟨g, 0, none⟩) n c) (some (.int .i64 (lo : Int))) (some (.int .i64 (hi' : Int))) none).run P W = .ok (.slice (some ⟨g, lo, none⟩) (hi' - lo) (c - lo)) W := by
  intro W
  have hel : P.elem t = e := by simp [Program.elem, ht]
  have hu : P.underlying t = some (.slice (P.elem t)) := by rw [hel]; exact ht
  rw [run_slice_lh W t (some ⟨g, 0, none⟩) n c hu .i64 .i64 lo hi' (by omega) (by omega) (by omega), hel]
  have hne : ¬ c = lo := by omega
  simp [sizeOf, typeInfo, hi, hsz, sliced, Result.andThen, hne, add_plain]
theorem own_behind {W : World} {base g n c : Nat} {ok : Nat → Prop} {xs : List S59} (h : Kd.N k59 59 W base ok (.slice (some ⟨g, 0, none⟩) n c) xs) (o : Nat) (ho : o < c) : ∃ x, W.cell? ⟨g, o, none⟩ = some x := by
  obtain ⟨_, rows, _, ⟨_, inner, hown, _⟩, _⟩ := h
  rcases hown.2 with ⟨h, _⟩ | ⟨g', cap, cur, h, hg, hh, _, _, hsz, _⟩
  · cases h
  · injection h with h1 h2 h3
    injection h1 with h1
    injection h1 with h1 _ _
    subst h1; subst h3
    rw [blk_cell hh]
    have hz : cur.size = c * 1 := hsz
    exact ⟨_, Array.getElem?_eq_getElem (by omega)⟩
theorem own_unfrozen {W : World} {base g n c : Nat} {ok : Nat → Prop} {xs : List S59} (h : Kd.N k59 59 W base ok (.slice (some ⟨g, 0, none⟩) n c) xs) (o : Nat) : W.frozen? ⟨g, o, none⟩ = false := by
  obtain ⟨cells, hh⟩ := Kd.N_typed h g rfl
  exact blk_frozen hh o
theorem zero_offer (w : World) : (zeroValue 59).run Try.prog w = .ok (.agg #[.slice none 0 0]) w := by kernel_rfl
theorem clear_one (g o c : Nat) (w : World) (ty : TypeId) (x : Value) (hc : w.cell? ⟨g, o, none⟩ = some x) (hf : w.frozen? ⟨g, o, none⟩ = false) : (Builtin.clear_ #[37] ty #[.slice (some ⟨g, o, none⟩) 1 c]).run Try.prog w = .ok (.tuple #[]) (w.setCell ⟨g, o, none⟩ (.slice none 0 0)) := by
  have hst := run_storeCells_cells (P := Try.prog) g o [.slice none 0 0] 0 w (by intro j hj; obtain rfl : j = 0 := (by simpa using hj); rw [show o + 0 + 0 = o from rfl, hc]; rfl) (by intro j hj; obtain rfl : j = 0 := (by simpa using hj); exact hf) (by intro v hv; rw [List.mem_singleton.1 hv]; rfl)
  have hzc : (Builtin.zeroCells (Value.agg #[.slice none 0 0]).cells 1).toList = [.slice none 0 0] := by simp [Builtin.zeroCells, Value.cells]
  have hst2 : (storeCells ⟨g, o, none⟩ [.slice none 0 0]).run Try.prog w = .ok () (w.setCell ⟨g, o, none⟩ (.slice none 0 0)) := hst
  simp [Builtin.clear_, run_underlying Try.underlying37, zero_offer, hzc, hst2]
set_option maxHeartbeats 8000000 in
set_option maxRecDepth 100000 in
theorem delete_calls (g c : Nat) (l : List S59) (i j : Int) (w0 w : World) (hB : Below w0.heap.size w0 w) (hO : Kd.N k59 59 w w0.heap.size (fun _ => True) (.slice (some ⟨g, 0, none⟩) l.length c) l) (h0 : 0 ≤ i) (h1 : i < (l.length : Int)) (hj : i + 1 = j) (hl : l.length ≤ 1048576) :
    Calls Try.prog 39 #[.slice (some ⟨g, 0, none⟩) l.length c, .int .i64 i, .int .i64 j] w fun e w' => e = .returned (.slice (some ⟨g, 0, none⟩) (l.eraseIdx i.toNat).length c) ∧ Kd.C k59 w' (some ⟨g, 0, none⟩) (l.eraseIdx i.toNat).length (l.eraseIdx i.toNat) ∧ (l.eraseIdx i.toNat).length ≤ c ∧ Below w0.heap.size w0 w' := by
  have HO := Aside0.mk hO
  have HB := Aside0.mk hB
  have HCAP : Aside0 (l.length ≤ c) := ⟨(Kd.N_reads' hO).2.1⟩
  have HI : Aside0 (0 ≤ i ∧ i.toNat < l.length ∧ j.toNat = i.toNat + 1 ∧ l.length ≤ 1048576) := ⟨by omega⟩
  obtain ⟨y, hy⟩ : ∃ y, l.eraseIdx i.toNat = y := ⟨_, rfl⟩
  have HN1 : Aside0 (l.length - 1 = y.length) := ⟨by rw [← hy, List.length_eraseIdx_of_lt (by omega)]⟩
  have GE : Aside0 (w0.heap.size ≤ g) := ⟨Kd.N_base hO g rfl⟩
  obtain ⟨ii, hii, hz0, hsz, hb0⟩ := info_parts info59
  have hinfo : Aside0 ((Try.prog.info? 59).map (·.size) = some k59.sz) := ⟨by rw [hii]; exact congrArg some hsz⟩
  obtain ⟨v13, hcut3⟩ := cut_three (P := Try.prog) 37 59 Try.underlying37 hii 1 hsz (some ⟨g, 0, none⟩) l.length c i j (l.length : Int) h0 (by omega) (by omega) (by have := HCAP.out; omega)
  have hcutT := cut_to (P := Try.prog) 37 59 .i64 Try.underlying37 hii (some ⟨g, 0, none⟩) l.length c i h0 (by omega) HCAP.out
  have hcutF := cut_from (P := Try.prog) 37 59 .i64 Try.underlying37 hii 1 hsz (some ⟨g, 0, none⟩) l.length c j (by omega) (by omega)
  obtain ⟨A2, hA2⟩ : ∃ A2, (if c = j.toNat then some (⟨g, 0, none⟩ : Addr) else (some (⟨g, 0, none⟩ : Addr)).map (·.add (j.toNat * 1))) = A2 := ⟨_, rfl⟩
  obtain ⟨m2, hm2⟩ : ∃ m2, l.length - j.toNat = m2 := ⟨_, rfl⟩
  rw [hA2, hm2] at hcutF
  have EA : Aside0 (A2 = if c = i.toNat + 1 then some (⟨g, 0, none⟩ : Addr) else (some (⟨g, 0, none⟩ : Addr)).map (·.add ((i.toNat + 1) * k59.sz))) := ⟨by rw [← hA2, HI.out.2.2.1]; rfl⟩
  have EM : Aside0 (m2 = l.length - (i.toNat + 1)) := ⟨by rw [← hm2, HI.out.2.2.1]⟩
  have hcutC := cut_cap (P := Try.prog) 37 59 Try.underlying37 hii hsz g y.length c y.length l.length (by have := HN1.out; have := HI.out; omega) HCAP.out
  rw [show l.length - y.length = 1 by have := HN1.out; have := HI.out; omega] at hcutC
  have hij : (i == j) = false := beq_eq_false_iff_ne.mpr (by omega)
  have EY := Aside0.mk hy
  clear hO hB h0 h1 hj hl hA2 hm2 hii hz0 hsz hb0
  rw [hy]
  clear hy
  go_enter Try.func39, Try.ntmps39
  go_upto_region 5 with (fail)
  refine start_ (n := 8) (S := fun w' => True) (ds := []) #[false, false, false, false, false, false, false, false] (by kernel_rfl) rfl rfl trivial (fun hHeld => ?_); refine with_tabW del_.tab5 del_.bits5 (fun HT_ HW_ => ?_)
  have n0_ := Aside0.mk (Kd.N_drew HO.out)
  have n1_ := Aside0.mk (below_drew1 HB.out)
  clear HO HB
  have HO := n0_
  have HB := n1_
  clear n0_ n1_
  generalize World.drew _ = wd at HO HB hHeld ⊢
  refine pure_ (i := 0) (N := some 20) (v := ?_) (a' := ?_) #[true, false, false, false, false, false, false, false] rfl rfl (any_of HT_.out (by kernel_rfl)) (fun _ _ _ h => h) (Or.inl ⟨by rfl, ?_⟩) ?_ ?_
  rotate_left
  · intro w'
    go_simp
    with_reducible rfl
  rotate_left
  · simp only [Act.put, List.setIfInBounds_toArray, List.set_cons_zero, List.set_cons_succ, i64_w, i32_w]
    rfl
  refine pure_ (i := 1) (N := some 21) (v := ?_) (a' := ?_) #[true, true, false, false, false, false, false, false] rfl rfl (any_of HT_.out (by kernel_rfl)) (fun _ _ _ h => h) (Or.inl ⟨by rfl, ?_⟩) ?_ ?_
  rotate_left
  · intro w'
    go_simp
    with_reducible rfl
  rotate_left
  · simp only [Act.put, List.setIfInBounds_toArray, List.set_cons_zero, List.set_cons_succ, i64_w, i32_w]
    rfl
  refine pure_ (i := 2) (N := some 22) (v := ?_) (a' := ?_) #[true, true, true, false, false, false, false, false] rfl rfl (any_of HT_.out (by kernel_rfl)) (fun _ _ _ h => h) (Or.inl ⟨by rfl, ?_⟩) ?_ ?_
  rotate_left
  · intro w'
    go_simp
    with_reducible rfl
  rotate_left
  · simp only [Act.put, List.setIfInBounds_toArray, List.set_cons_zero, List.set_cons_succ, i64_w, i32_w]
    rfl
  refine pure_ (i := 3) (N := some 23) (v := ?_) (a' := ?_) #[true, true, true, true, false, false, false, false] rfl rfl (any_of HT_.out (by kernel_rfl)) (fun _ _ _ h => h) (Or.inl ⟨by rfl, ?_⟩) ?_ ?_
  rotate_left
  · intro w'
    go_simp
    with_reducible rfl
  rotate_left
  · simp only [Act.put, List.setIfInBounds_toArray, List.set_cons_zero, List.set_cons_succ, i64_w, i32_w]
    rfl
  refine pure_ (i := 4) (N := some 24) (v := ?_) (a' := ?_) #[true, true, true, true, true, false, false, false] rfl rfl (any_of HT_.out (by kernel_rfl)) (fun _ _ _ h => h) (Or.inl ⟨by rfl, ?_⟩) ?_ ?_
  rotate_left
  · intro w'
    go_simp
    with_reducible rfl
  rotate_left
  · simp only [Act.put, List.setIfInBounds_toArray, List.set_cons_zero, List.set_cons_succ, i64_w, i32_w]
    rfl
  refine pure_ (i := 5) (N := some 25) (v := ?_) (a' := ?_) #[true, true, true, true, true, true, false, false] rfl rfl (any_of HT_.out (by kernel_rfl)) (fun _ _ _ h => h) (Or.inl ⟨by rfl, ?_⟩) ?_ ?_
  rotate_left
  · intro w'
    go_simp
    with_reducible rfl
  rotate_left
  · simp only [Act.put, List.setIfInBounds_toArray, List.set_cons_zero, List.set_cons_succ, i64_w, i32_w]
    rfl
  refine one_ (i := 6) (N := some 26) #[true, true, true, true, true, true, true, false] rfl rfl (one_of HT_.out (by kernel_rfl)) (by decide) (fun K hK => ?_)
  refine Kd.N_delete_step k59 (w0 := w0) w0.heap.size (by rfl) (.tmp 22) (.tmp 25) 37 59 rfl Try.underlying37 hinfo.out (k := i.toNat) rfl rfl EA.out EM.out HO.out HI.out.2.1 HB.out (below_size HB.out) ?_
  intro w2 ho hb hg
  rw [HN1.out, EY.out] at ho
  rw [HN1.out]
  clear HO HB hg
  have HO := Aside0.mk ho
  have HB := Aside0.mk hb
  clear ho hb hHeld
  refine hK.out _ _ trivial (fun hHeld => ?_)
  clear hK K
  refine norm_ (a' := ?_) ?_ ?_
  rotate_left
  · show Act.put _ (some 26) _ = _
    simp only [Act.put, List.setIfInBounds_toArray, List.set_cons_zero, List.set_cons_succ, i64_w, i32_w]
    rfl
  refine pure_ (i := 7) (N := some 0) (v := ?_) (a' := ?_) #[true, true, true, true, true, true, true, true] rfl rfl (any_of HT_.out (by kernel_rfl)) (fun _ _ _ h => h) (Or.inl ⟨by rfl, ?_⟩) ?_ ?_
  rotate_left
  · intro w'
    go_simp
    with_reducible rfl
  rotate_left
  · simp only [Act.put, List.setIfInBounds_toArray, List.set_cons_zero, List.set_cons_succ, i64_w, i32_w]
    rfl
  refine done_ (done_of HT_.out (by kernel_rfl)) ?_
  clear hHeld HT_ HW_
  obtain ⟨x0, hx0⟩ : ∃ x, w2.cell? ⟨g, y.length, none⟩ = some x := own_behind HO.out y.length (by have := HN1.out; have := HI.out; have := HCAP.out; omega)
  have hf0 : w2.frozen? ⟨g, y.length, none⟩ = false := own_unfrozen HO.out _
  have hcl := fun ty => clear_one g y.length (c - y.length) w2 ty x0 hx0 hf0
  clear hx0 hf0
  go_wp2_with (first | ((with_reducible refine gate_builtin (b := .clear) (xs := #[.tmp 31]) rfl ?_); refine Kd.event_run (w1 := w2.setCell ⟨g, y.length, none⟩ (.slice none 0 0)) (v := .tuple #[]) rfl ?hr ?_; (case hr => go_simp; exact hcl _)))
  go_ret
  exact ⟨rfl, C_behind HO.out y.length (Nat.le_refl _) _, by have := HCAP.out; have := HN1.out; omega, below_set HB.out GE.out⟩

/-! ### what both answer -/
abbrev offs (x : S59) : List Int := x.f0
def rowsV (l : List S59) (a : Int) : List (List Int) := M.rowsFrom (fun x : S59 => x.f0) (List.replicate (a + 1).toNat 0) l
def lastV (l : List S59) (a : Int) : Int := rd (rd_L1 (rowsV l a) (l.length : Int)) a
def dropV (l : List S59) (k a : Int) : Int × Bool := if M.offersOk (fun x : S59 => x.f0) l = true ∧ (0 ≤ a ∧ a ≤ 40) ∧ (0 ≤ k ∧ k < (l.length : Int)) then (wrap64 (lastV l a - lastV (l.eraseIdx k.toNat) a), true) else (0, false)
theorem tabF {l : List S59} {a : Int} (h : M.offersOk (fun x : S59 => x.f0) l = true ∧ (0 ≤ a ∧ a ≤ 40)) : (0 ≤ a ∧ a ≤ 1000) ∧ l.length ≤ 1048576 ∧ ∀ x ∈ l, x.f0.length ≤ 1048576 := by
  obtain ⟨h1, h2⟩ := M.offersOk_iff.1 h.1
  exact ⟨by omega, by omega, fun x hx => by have := (M.offOk_iff.1 (h2 x hx)).1; omega⟩
theorem tabF_less {l : List S59} {a : Int} (h : (0 ≤ a ∧ a ≤ 1000) ∧ l.length ≤ 1048576 ∧ ∀ x ∈ l, x.f0.length ≤ 1048576) (k : Nat) : (0 ≤ a ∧ a ≤ 1000) ∧ (l.eraseIdx k).length ≤ 1048576 ∧ ∀ x ∈ l.eraseIdx k, x.f0.length ≤ 1048576 :=
  ⟨h.1, Nat.le_trans (List.length_eraseIdx_le ..) h.2.1, fun x hx => h.2.2 x (List.mem_of_mem_eraseIdx hx)⟩
/-- The last table's cell for so many places. -/
theorem tab_at {w : World} {base : Nat} {ok : Nat → Prop} {v : Value} {l : List S59} {a : Int} (h : Kd.N (Kd.slice 3 (Kd.int .i64)) 22 w base ok v (rowsV l a)) (ha : 0 ≤ a) :
    ∃ ad n c bd m d, v = .slice (some ad) n c ∧ (l.length : Int) < (n : Int) ∧ w.cell? (ad.add l.length) = some (.slice (some bd) m d) ∧ a < (m : Int) ∧ w.cell? (bd.add a.toNat) = some (.int .i64 (lastV l a)) := by
  obtain ⟨A, c, rfl⟩ := Kd.N_slice h
  have hl : (rowsV l a).length = l.length + 1 := M.rowsFrom_length _ _ _
  obtain ⟨ad, B, d, rfl, h1, h2, h3⟩ := at_L1 (Kd.N_reads' h).2.2 (l.length : Int) (by omega) (by omega)
  have hr : (rd_L1 (rowsV l a) (l.length : Int)).length = (a + 1).toNat := by
    unfold rd_L1
    rw [Int.toNat_natCast]
    exact M.rowsFrom_at _ (n := (a + 1).toNat) l _ (by simp) (Nat.le_refl _)
  obtain ⟨bd, rfl, h4⟩ := Kd.at_int h3 a ha (by omega)
  rw [Int.toNat_natCast] at h1
  exact ⟨ad, _, c, bd, _, d, rfl, by omega, h1, by omega, h4⟩
theorem spec_tab (l : List S59) (a : Int) (h : (0 ≤ a ∧ a ≤ 1000) ∧ l.length ≤ 1048576 ∧ ∀ x ∈ l, x.f0.length ≤ 1048576) : spec_l6Rows.f l a = some (rowsV l a) := by unfold spec_l6Rows.f; exact if_pos h
theorem impl_tab (l : List S59) (a : Int) (h : (0 ≤ a ∧ a ≤ 1000) ∧ l.length ≤ 1048576 ∧ ∀ x ∈ l, x.f0.length ≤ 1048576) : impl_tables.f l a = some (rowsV l a) := by unfold impl_tables.f; exact if_pos h

def spec_Drop.T5 : Bool × List (List Nat × List Nat) := (true, [([], []), ([], []), ([0, 1], [0, 1]), ([], []), ([3], [3]), ([2, 4], [2, 4]), ([5], [5]), ([], []), ([6, 7], [6, 7]), ([8], [8]), ([], []), ([], []), ([10, 11, 2], [10, 11]), ([], []), ([13], [13]), ([12, 14], [12, 14]), ([15], [15]), ([], []), ([16, 17], [16, 17]), ([18], [18]), ([9, 19], [9, 19]), ([20, 12, 0, 1, 2, 3, 4, 5, 6, 7, 8, 9, 10, 11, 12, 13, 14, 15, 16, 17, 18, 19, 20], [20]), ([21, 0, 1, 2, 3, 4, 5, 6, 7, 8, 9, 10, 11, 12, 13, 14, 15, 16, 17, 18, 19, 20, 21], [])])
def spec_Drop.B5 : List Nat := [0, 0, 3, 0, 8, 31, 63, 0, 255, 511, 0, 0, 3079, 0, 8192, 31751, 64519, 0, 261127, 523271, 1048575, 2097151, 4194303]
theorem spec_Drop.tab5 : rtab .any (opsOf Try.f15 5) = spec_Drop.T5 := by kernel_rfl
theorem spec_Drop.bits5 : waitsOk spec_Drop.T5.2 spec_Drop.B5 = true := by kernel_rfl
set_option maxHeartbeats 8000000 in
set_option maxRecDepth 100000 in
theorem spec_Drop_good (A0 : Option Addr) (c0 : Nat) (l : List S59) (a1 a2 : Int) (w : World) (hr0 : Kd.C k59 w A0 l.length l) (hc0 : l.length ≤ c0) (c1 : M.offersOk (fun x : S59 => x.f0) l = true) (c2 : 0 ≤ a2 ∧ a2 ≤ 40) (c3 : 0 ≤ a1 ∧ a1 < (l.length : Int)) :
    Calls Try.prog 15 #[.slice A0 l.length c0, .int .i64 a1, .int .i64 a2] w fun e w' => e = .returned (.tuple #[.int .i64 (wrap64 (lastV l a2 - lastV (l.eraseIdx a1.toNat) a2)), .bool true]) ∧ Below w.heap.size w w' := by
  obtain ⟨y, hy⟩ : ∃ y, l.eraseIdx a1.toNat = y := ⟨_, rfl⟩
  have TB := Aside0.mk (tabF ⟨c1, c2⟩)
  have TY : Aside0 ((0 ≤ a2 ∧ a2 ≤ 1000) ∧ y.length ≤ 1048576 ∧ ∀ x ∈ y, x.f0.length ≤ 1048576) := ⟨by rw [← hy]; exact tabF_less TB.out _⟩
  have EA := Aside0.mk c2.1
  have eA := eq_true c2.1
  have eL : (0 ≤ (l.length : Int)) = True := eq_true (by omega)
  have eY : (0 ≤ (y.length : Int)) = True := eq_true (by omega)
  have H1 := Aside0.mk c3
  have HY0 := Aside0.mk hy
  have HC := Aside0.mk hc0
  have HF := Aside0.mk (F_came hr0)
  have HB := Aside0.mk (Below.refl w.heap.size w)
  have G1 : Aside0 (spec_GoodOffers.f l = some true) := ⟨by unfold spec_GoodOffers.f; rw [if_pos TB.out.2, c1]⟩
  have G2 : Aside0 (spec_l6Places.f a2 = some true) := ⟨by rw [spec_l6Places.eq]; simp [c2.1, c2.2]⟩
  have e3 : decide (a1 < 0) = false := decide_eq_false (by omega)
  have e4 : decide ((l.length : Int) ≤ a1) = false := decide_eq_false (by omega)
  have e5 : IntKind.i64.wrap (a1 + 1) = a1 + 1 := (i64_w _).trans (M.wrap_id (by omega) (by have := TB.out; omega))
  obtain ⟨ii, hii, hz0, hsz, hb0⟩ := info_parts info59
  have hcutT := cut_to (P := Try.prog) 37 59 .i64 Try.underlying37 hii A0 l.length c0 a1 c3.1 (by omega) hc0
  have hcutF := cut_from (P := Try.prog) 37 59 .i64 Try.underlying37 hii 1 hsz A0 l.length c0 (a1 + 1) (by omega) (by omega)
  obtain ⟨A2, hA2⟩ : ∃ A2, (if c0 = (a1 + 1).toNat then A0 else A0.map (·.add ((a1 + 1).toNat * 1))) = A2 := ⟨_, rfl⟩
  obtain ⟨n1, hn1⟩ : ∃ n1, a1.toNat = n1 := ⟨_, rfl⟩
  obtain ⟨n2, hn2⟩ : ∃ n2, l.length - (a1 + 1).toNat = n2 := ⟨_, rfl⟩
  rw [hn1] at hcutT
  rw [hA2, hn2] at hcutF
  have EN1 := Aside0.mk hn1
  have FT : Aside0 (Kd.F k59 w (fun k => k < w.heap.size) A0 n1 (l.take n1)) := ⟨by have h := Kd.F_take (m := n1) (F_came hr0) (by omega); rw [show (l.take n1).length = n1 by rw [List.length_take]; omega] at h; exact h⟩
  have FC : Aside0 (Kd.F k59 w (fun k => k < w.heap.size) A2 n2 (l.drop (n1 + 1))) := ⟨by have h := Kd.F_cut (m := n1 + 1) (F_came hr0) (by omega) hc0; rw [show n1 + 1 = (a1 + 1).toNat by omega] at h ⊢; rw [show (l.drop (a1 + 1).toNat).length = n2 by rw [List.length_drop]; omega] at h; rw [← hA2]; exact h⟩
  have EL : Aside0 (n1 ≤ 1048576 ∧ n2 ≤ 1048576) := ⟨by have := TB.out; omega⟩
  rw [hy]
  clear hr0 hc0 c1 c2 c3 hy hii hz0 hsz hb0 hA2 hn1 hn2
  go_enter Try.func15, Try.ntmps15
  go_upto_region 5 with (first | ((with_reducible refine gate_callee (f := 33) rfl ?_); refine goesL_ (some 10) rfl rfl Try.func33 (by kernel_rfl) rfl #[.slice A0 l.length c0] rfl (by (try simp only [List.map_toArray, List.map_cons, List.map_nil]); first | done | rfl) ?_; (with_reducible refine (spec_GoodOffers.calls _ _ l true _ ?sg HC.out G1.out).mono ?_); (case sg => exact Kd.F_now (Kd.F_below HF.out (by repeat (first | (with_reducible first | exact HB.out | apply below_alloc | apply pw_below_drewN | apply below_drew1) | exact HB.out)))); rintro e w1 ⟨rfl, hb⟩; refine ⟨_, rfl, ?_⟩; clear HB; have HB := Aside0.mk hb; clear hb) | (go_at_call 34; (with_reducible refine (spec_l6Places.calls a2 true _ G2.out).mono ?_); rintro e w2 ⟨rfl, ⟨nd, rfl⟩⟩) | ((with_reducible refine gate_dst (N := 27) rfl ?_); refine Kd.N_lit k59 (w0 := w) w.heap.size 59 ?hg (N' := 27) ?hd (xs := ([] : List S59)) (inner := []) (ok := fun _ => True) (okp := fun _ => True) ?hr ?hp (fun _ hk => hk) trivial (by repeat (first | (with_reducible first | exact HB.out | apply below_alloc | apply pw_below_drewN | apply below_drew1) | exact HB.out)) (below_size (by repeat (first | (with_reducible first | exact HB.out | apply below_alloc | apply pw_below_drewN | apply below_drew1) | exact HB.out))) (by simp) ?_; (case hd => rfl); (case hg => rfl); (case hr => first | (go_simp; done) | (go_simp; rfl)); (case hp => exact (Reps.none _ _)); intro v2 w2 ho hb hg_ hnew_; clear hg_ hnew_ HB; have HO := Aside0.mk ho; have HB := Aside0.mk hb; clear ho hb) | ((with_reducible refine gate_builtin (b := .append) (xs := #[.tmp 27, .tmp 30]) rfl ?_); at_builtin; refine Kd.N_append_rows k59 (w0 := w) w.heap.size rfl (.tmp 27) (.tmp 30) 37 59 (.agg #[(.slice none 0 0)]) 24 rfl Try.underlying37 info59 rfl (by decide) (by omega) v2 [] (l.take n1) A0 n1 _ (fun _ => True) (fun k_ => k_ < w.heap.size) rfl rfl ?aO ?aR ?aK ?aF ?aB ?aS ?aL ?_; (case aR => exact (Kd.F_below FT.out (by repeat (first | (with_reducible first | exact HB.out | apply below_alloc | apply pw_below_drewN | apply below_drew1) | exact HB.out)))); (case aK => exact (fun k hk => ⟨trivial, fun e => by have := Kd.N_base HO.out k e.symm; omega⟩)); (case aB => exact (by repeat (first | (with_reducible first | exact HB.out | apply below_alloc | apply pw_below_drewN | apply below_drew1) | exact HB.out))); (case aF => exact (fun _ _ => trivial)); (case aO => exact HO.out); (case aS => exact (below_size (by repeat (first | (with_reducible first | exact HB.out | apply below_alloc | apply pw_below_drewN | apply below_drew1) | exact HB.out)))); (case aL => have := EL.out; simp only [List.length_nil]; omega); intro v3 w3 ho hb hg hat; clear HB HO hg hat; have HO := Aside0.mk ho; have HB := Aside0.mk hb; clear ho hb) | ((with_reducible refine gate_builtin (b := .append) (xs := #[.tmp 32, .tmp 36]) rfl ?_); at_builtin; refine Kd.N_append_rows k59 (w0 := w) w.heap.size rfl (.tmp 32) (.tmp 36) 37 59 (.agg #[(.slice none 0 0)]) 24 rfl Try.underlying37 info59 rfl (by decide) (by omega) v3 ([] ++ l.take n1) (l.drop (n1 + 1)) A2 n2 _ (fun _ => True) (fun k_ => k_ < w.heap.size) rfl rfl ?aO ?aR ?aK ?aF ?aB ?aS ?aL ?_; (case aR => exact (Kd.F_below FC.out (by repeat (first | (with_reducible first | exact HB.out | apply below_alloc | apply pw_below_drewN | apply below_drew1) | exact HB.out)))); (case aK => exact (fun k hk => ⟨trivial, fun e => by have := Kd.N_base HO.out k e.symm; omega⟩)); (case aB => exact (by repeat (first | (with_reducible first | exact HB.out | apply below_alloc | apply pw_below_drewN | apply below_drew1) | exact HB.out))); (case aF => exact (fun _ _ => trivial)); (case aO => exact HO.out); (case aS => exact (below_size (by repeat (first | (with_reducible first | exact HB.out | apply below_alloc | apply pw_below_drewN | apply below_drew1) | exact HB.out)))); (case aL => have := EL.out; have h9 := List.length_take_le n1 l; simp only [List.nil_append]; omega); intro v4 w4 ho hb hg hat; clear HB HO hg hat; have HO := Aside0.mk ho; have HB := Aside0.mk hb; clear ho hb))
  have HYV : Aside0 (Kd.N k59 59 w4 w.heap.size (fun _ => True) v4 y) := ⟨by have h := HO.out; rw [← HY0.out, List.eraseIdx_eq_take_drop_succ, EN1.out]; rw [List.nil_append] at h; exact h⟩
  obtain ⟨AY, cY, eY_⟩ := Kd.N_slice HYV.out
  subst eY_
  have HCY := Aside0.mk (Kd.N_reads' HYV.out).2.1
  have HY := Aside0.mk (F_came (Kd.N_reads' HYV.out).2.2)
  have n0_ := Aside0.mk (Kd.F_below HF.out HB.out)
  clear HO HYV FT FC HF
  have HF := n0_
  clear n0_
  refine start_ (n := 23) (S := fun w' => True) (ds := []) #[false, false, false, false, false, false, false, false, false, false, false, false, false, false, false, false, false, false, false, false, false, false, false] (by kernel_rfl) rfl rfl trivial (fun hHeld => ?_); refine with_tabW spec_Drop.tab5 spec_Drop.bits5 (fun HT_ HW_ => ?_)
  have n0_ := Aside0.mk (Kd.F_drew HF.out)
  have n1_ := Aside0.mk (below_drew1 HB.out)
  have n2_ := Aside0.mk (Kd.F_drew HY.out)
  clear HF HB HY
  have HF := n0_
  have HB := n1_
  have HY := n2_
  clear n0_ n1_ n2_
  generalize World.drew _ = wd at HF HB HY hHeld ⊢
  refine pure_ (i := 0) (N := some 38) (v := ?_) (a' := ?_) #[true, false, false, false, false, false, false, false, false, false, false, false, false, false, false, false, false, false, false, false, false, false, false] rfl rfl (any_of HT_.out (by kernel_rfl)) (fun _ _ _ h => h) (Or.inl ⟨by rfl, ?_⟩) ?_ ?_
  rotate_left
  · intro w'
    go_simp
    with_reducible rfl
  rotate_left
  · simp only [Act.put, List.setIfInBounds_toArray, List.set_cons_zero, List.set_cons_succ, i64_w, i32_w]
    rfl
  refine pure_ (i := 1) (N := some 39) (v := ?_) (a' := ?_) #[true, true, false, false, false, false, false, false, false, false, false, false, false, false, false, false, false, false, false, false, false, false, false] rfl rfl (any_of HT_.out (by kernel_rfl)) (fun _ _ _ h => h) (Or.inl ⟨by rfl, ?_⟩) ?_ ?_
  rotate_left
  · intro w'
    go_simp
    with_reducible rfl
  rotate_left
  · simp only [Act.put, List.setIfInBounds_toArray, List.set_cons_zero, List.set_cons_succ, i64_w, i32_w]
    rfl
  refine pure_ (i := 3) (N := some 41) (v := ?_) (a' := ?_) #[true, true, false, true, false, false, false, false, false, false, false, false, false, false, false, false, false, false, false, false, false, false, false] rfl rfl (any_of HT_.out (by kernel_rfl)) (fun _ _ _ h => h) (Or.inl ⟨by rfl, ?_⟩) ?_ ?_
  rotate_left
  · intro w'
    go_simp
    with_reducible rfl
  rotate_left
  · simp only [Act.put, List.setIfInBounds_toArray, List.set_cons_zero, List.set_cons_succ, i64_w, i32_w]
    rfl
  refine pure_ (i := 4) (N := some 42) (v := ?_) (a' := ?_) #[true, true, false, true, true, false, false, false, false, false, false, false, false, false, false, false, false, false, false, false, false, false, false] rfl rfl (any_of HT_.out (by kernel_rfl)) (fun _ _ _ h => h) (Or.inl ⟨by rfl, ?_⟩) ?_ ?_
  rotate_left
  · intro w'
    go_simp
    with_reducible rfl
  rotate_left
  · simp only [Act.put, List.setIfInBounds_toArray, List.set_cons_zero, List.set_cons_succ, i64_w, i32_w]
    rfl
  refine pure_ (i := 7) (N := some 45) (v := ?_) (a' := ?_) #[true, true, false, true, true, false, false, true, false, false, false, false, false, false, false, false, false, false, false, false, false, false, false] rfl rfl (any_of HT_.out (by kernel_rfl)) (fun _ _ _ h => h) (Or.inl ⟨by rfl, ?_⟩) ?_ ?_
  rotate_left
  · intro w'
    go_simp
    with_reducible rfl
  rotate_left
  · simp only [Act.put, List.setIfInBounds_toArray, List.set_cons_zero, List.set_cons_succ, i64_w, i32_w]
    rfl
  refine pure_ (i := 10) (N := some 48) (v := ?_) (a' := ?_) #[true, true, false, true, true, false, false, true, false, false, true, false, false, false, false, false, false, false, false, false, false, false, false] rfl rfl (any_of HT_.out (by kernel_rfl)) (fun _ _ _ h => h) (Or.inl ⟨by rfl, ?_⟩) ?_ ?_
  rotate_left
  · intro w'
    go_simp
    with_reducible rfl
  rotate_left
  · simp only [Act.put, List.setIfInBounds_toArray, List.set_cons_zero, List.set_cons_succ, i64_w, i32_w]
    rfl
  refine pure_ (i := 11) (N := some 49) (v := ?_) (a' := ?_) #[true, true, false, true, true, false, false, true, false, false, true, true, false, false, false, false, false, false, false, false, false, false, false] rfl rfl (any_of HT_.out (by kernel_rfl)) (fun _ _ _ h => h) (Or.inl ⟨by rfl, ?_⟩) ?_ ?_
  rotate_left
  · intro w'
    go_simp
    with_reducible rfl
  rotate_left
  · simp only [Act.put, List.setIfInBounds_toArray, List.set_cons_zero, List.set_cons_succ, i64_w, i32_w]
    rfl
  refine pure_ (i := 13) (N := some 51) (v := ?_) (a' := ?_) #[true, true, false, true, true, false, false, true, false, false, true, true, false, true, false, false, false, false, false, false, false, false, false] rfl rfl (any_of HT_.out (by kernel_rfl)) (fun _ _ _ h => h) (Or.inl ⟨by rfl, ?_⟩) ?_ ?_
  rotate_left
  · intro w'
    go_simp
    with_reducible rfl
  rotate_left
  · simp only [Act.put, List.setIfInBounds_toArray, List.set_cons_zero, List.set_cons_succ, i64_w, i32_w]
    rfl
  refine pure_ (i := 14) (N := some 52) (v := ?_) (a' := ?_) #[true, true, false, true, true, false, false, true, false, false, true, true, false, true, true, false, false, false, false, false, false, false, false] rfl rfl (any_of HT_.out (by kernel_rfl)) (fun _ _ _ h => h) (Or.inl ⟨by rfl, ?_⟩) ?_ ?_
  rotate_left
  · intro w'
    go_simp
    with_reducible rfl
  rotate_left
  · simp only [Act.put, List.setIfInBounds_toArray, List.set_cons_zero, List.set_cons_succ, i64_w, i32_w]
    rfl
  refine pure_ (i := 17) (N := some 55) (v := ?_) (a' := ?_) #[true, true, false, true, true, false, false, true, false, false, true, true, false, true, true, false, false, true, false, false, false, false, false] rfl rfl (any_of HT_.out (by kernel_rfl)) (fun _ _ _ h => h) (Or.inl ⟨by rfl, ?_⟩) ?_ ?_
  rotate_left
  · intro w'
    go_simp
    with_reducible rfl
  rotate_left
  · simp only [Act.put, List.setIfInBounds_toArray, List.set_cons_zero, List.set_cons_succ, i64_w, i32_w]
    rfl
  refine one_ (i := 2) (N := some 40) #[true, true, true, true, true, false, false, true, false, false, true, true, false, true, true, false, false, true, false, false, false, false, false] rfl rfl (one_of HT_.out (by kernel_rfl)) (by decide) (fun K hK => ?_)
  refine goes_ Try.func35 (by kernel_rfl) rfl #[.slice A0 l.length c0, .int .i64 a2] (by rfl) rfl rfl (by (try simp only [List.map_toArray, List.map_cons, List.map_nil]); first | done | rfl) ?_
  with_reducible refine (spec_l6Rows.calls _ _ l a2 _ _ (Kd.F_now HF.out) HC.out (spec_tab l a2 TB.out)).mono ?_
  rintro e wtp ⟨vtp, rfl, ht, hb⟩
  refine ⟨_, rfl, ?_⟩
  obtain ⟨adp, np, cp, bdp, mp, dp, rfl, g1p, x1p, g2p, x2p⟩ := tab_at ht EA.out
  have n0_ := Aside0.mk (Kd.F_below HF.out hb)
  have n1_ := Aside0.mk (Kd.F_below HY.out hb)
  have n2_ := Aside0.mk (below_step HB.out hb)
  clear HF HY HB ht
  have HF := n0_
  have HY := n1_
  have HB := n2_
  clear n0_ n1_ n2_ hb
  have g1p := eq_true g1p
  have g2p := eq_true g2p
  clear hHeld
  refine hK.out _ _ trivial (fun hHeld => ?_)
  clear hK K
  refine norm_ (a' := ?_) ?_ ?_
  rotate_left
  · show Act.put _ (some 40) _ = _
    simp only [Act.put, List.setIfInBounds_toArray, List.set_cons_zero, List.set_cons_succ, i64_w, i32_w]
    rfl
  clear hHeld
  generalize hz : lastV l a2 = zp at x2p ⊢
  have Zp := Aside0.mk hz
  clear hz
  have hHeld := And.intro x1p x2p
  clear x1p x2p
  refine switch_ (S2 := fun w' => w'.cell? (adp.add l.length) = some (.slice (some bdp) mp dp) ∧ w'.cell? (bdp.add a2.toNat) = some (.int .i64 zp)) (fun _ _ => trivial) _ _ _ _ hHeld ?_
  refine pure_ (i := 5) (N := some 43) (v := ?_) (a' := ?_) #[true, true, true, true, true, true, false, true, false, false, true, true, false, true, true, false, false, true, false, false, false, false, false] rfl rfl (any_of HT_.out (by kernel_rfl)) (fun _ _ _ h => h) (Or.inl ⟨by rfl, ?_⟩) ?_ ?_
  rotate_left
  · intro w'
    go_simp
    with_reducible rfl
  rotate_left
  · simp only [Act.put, List.setIfInBounds_toArray, List.set_cons_zero, List.set_cons_succ, i64_w, i32_w]
    rfl
  refine take_ (i := 6) (N := some 44) (v := ?_) (a' := ?_) #[true, true, true, true, true, true, true, true, false, false, true, true, false, true, true, false, false, true, false, false, false, false, false] rfl rfl (take_ofW HT_.out HW_.out (by kernel_rfl)) (fun _ _ _ h => h) (Or.inl ⟨by rfl, ?_⟩) hHeld ?_ ?_
  rotate_left
  · rintro w' ⟨s0, s1⟩
    go_simp
    with_reducible rfl
  rotate_left
  · simp only [Act.put, List.setIfInBounds_toArray, List.set_cons_zero, List.set_cons_succ, i64_w, i32_w]
    rfl
  refine pure_ (i := 8) (N := some 46) (v := ?_) (a' := ?_) #[true, true, true, true, true, true, true, true, true, false, true, true, false, true, true, false, false, true, false, false, false, false, false] rfl rfl (any_of HT_.out (by kernel_rfl)) (fun _ _ _ h => h) (Or.inl ⟨by rfl, ?_⟩) ?_ ?_
  rotate_left
  · intro w'
    go_simp
    with_reducible rfl
  rotate_left
  · simp only [Act.put, List.setIfInBounds_toArray, List.set_cons_zero, List.set_cons_succ, i64_w, i32_w]
    rfl
  refine take_ (i := 9) (N := some 47) (v := ?_) (a' := ?_) #[true, true, true, true, true, true, true, true, true, true, true, true, false, true, true, false, false, true, false, false, false, false, false] rfl rfl (take_ofW HT_.out HW_.out (by kernel_rfl)) (fun _ _ _ h => h) (Or.inl ⟨by rfl, ?_⟩) hHeld ?_ ?_
  rotate_left
  · rintro w' ⟨s0, s1⟩
    go_simp
    with_reducible rfl
  rotate_left
  · simp only [Act.put, List.setIfInBounds_toArray, List.set_cons_zero, List.set_cons_succ, i64_w, i32_w]
    rfl
  refine one_ (i := 12) (N := some 50) #[true, true, true, true, true, true, true, true, true, true, true, true, true, true, true, false, false, true, false, false, false, false, false] rfl rfl (one_of HT_.out (by kernel_rfl)) (by decide) (fun K hK => ?_)
  refine goes_ Try.func35 (by kernel_rfl) rfl #[.slice AY y.length cY, .int .i64 a2] (by rfl) rfl rfl (by (try simp only [List.map_toArray, List.map_cons, List.map_nil]); first | done | rfl) ?_
  with_reducible refine (spec_l6Rows.calls _ _ y a2 _ _ (Kd.F_now HY.out) HCY.out (spec_tab y a2 TY.out)).mono ?_
  rintro e wtq ⟨vtq, rfl, ht, hb⟩
  refine ⟨_, rfl, ?_⟩
  obtain ⟨adq, nq, cq, bdq, mq, dq, rfl, g1q, x1q, g2q, x2q⟩ := tab_at ht EA.out
  have n0_ := Aside0.mk (Kd.F_below HF.out hb)
  have n1_ := Aside0.mk (Kd.F_below HY.out hb)
  have n2_ := Aside0.mk (below_step HB.out hb)
  have y0_ := pw_cell_below hb hHeld.1
  have y1_ := pw_cell_below hb hHeld.2
  clear HF HY HB ht
  have HF := n0_
  have HY := n1_
  have HB := n2_
  clear n0_ n1_ n2_ hb
  have g1q := eq_true g1q
  have g2q := eq_true g2q
  clear hHeld
  refine hK.out _ _ ⟨y0_, y1_⟩ (fun hHeld => ?_)
  clear hK K
  refine norm_ (a' := ?_) ?_ ?_
  rotate_left
  · show Act.put _ (some 50) _ = _
    simp only [Act.put, List.setIfInBounds_toArray, List.set_cons_zero, List.set_cons_succ, i64_w, i32_w]
    rfl
  generalize hz : lastV y a2 = zq at x2q ⊢
  have Zq := Aside0.mk hz
  clear hz y0_ y1_
  have hHeld2 : wtq.cell? (adp.add l.length) = some (.slice (some bdp) mp dp) ∧ wtq.cell? (bdp.add a2.toNat) = some (.int .i64 zp) ∧ wtq.cell? (adq.add y.length) = some (.slice (some bdq) mq dq) ∧ wtq.cell? (bdq.add a2.toNat) = some (.int .i64 zq) := ⟨hHeld.1, hHeld.2, x1q, x2q⟩
  clear x1q x2q hHeld
  have hHeld := hHeld2
  clear hHeld2
  refine switch_ (S2 := fun w' => w'.cell? (adp.add l.length) = some (.slice (some bdp) mp dp) ∧ w'.cell? (bdp.add a2.toNat) = some (.int .i64 zp) ∧ w'.cell? (adq.add y.length) = some (.slice (some bdq) mq dq) ∧ w'.cell? (bdq.add a2.toNat) = some (.int .i64 zq)) (fun _ h => ⟨h.1, h.2.1⟩) _ _ _ _ hHeld ?_
  refine pure_ (i := 15) (N := some 53) (v := ?_) (a' := ?_) #[true, true, true, true, true, true, true, true, true, true, true, true, true, true, true, true, false, true, false, false, false, false, false] rfl rfl (any_of HT_.out (by kernel_rfl)) (fun _ _ _ h => h) (Or.inl ⟨by rfl, ?_⟩) ?_ ?_
  rotate_left
  · intro w'
    go_simp
    with_reducible rfl
  rotate_left
  · simp only [Act.put, List.setIfInBounds_toArray, List.set_cons_zero, List.set_cons_succ, i64_w, i32_w]
    rfl
  refine take_ (i := 16) (N := some 54) (v := ?_) (a' := ?_) #[true, true, true, true, true, true, true, true, true, true, true, true, true, true, true, true, true, true, false, false, false, false, false] rfl rfl (take_ofW HT_.out HW_.out (by kernel_rfl)) (fun _ _ _ h => h) (Or.inl ⟨by rfl, ?_⟩) hHeld ?_ ?_
  rotate_left
  · rintro w' ⟨s0, s1, s2, s3⟩
    go_simp
    with_reducible rfl
  rotate_left
  · simp only [Act.put, List.setIfInBounds_toArray, List.set_cons_zero, List.set_cons_succ, i64_w, i32_w]
    rfl
  refine pure_ (i := 18) (N := some 56) (v := ?_) (a' := ?_) #[true, true, true, true, true, true, true, true, true, true, true, true, true, true, true, true, true, true, true, false, false, false, false] rfl rfl (any_of HT_.out (by kernel_rfl)) (fun _ _ _ h => h) (Or.inl ⟨by rfl, ?_⟩) ?_ ?_
  rotate_left
  · intro w'
    go_simp
    with_reducible rfl
  rotate_left
  · simp only [Act.put, List.setIfInBounds_toArray, List.set_cons_zero, List.set_cons_succ, i64_w, i32_w]
    rfl
  refine take_ (i := 19) (N := some 57) (v := ?_) (a' := ?_) #[true, true, true, true, true, true, true, true, true, true, true, true, true, true, true, true, true, true, true, true, false, false, false] rfl rfl (take_ofW HT_.out HW_.out (by kernel_rfl)) (fun _ _ _ h => h) (Or.inl ⟨by rfl, ?_⟩) hHeld ?_ ?_
  rotate_left
  · rintro w' ⟨s0, s1, s2, s3⟩
    go_simp
    with_reducible rfl
  rotate_left
  · simp only [Act.put, List.setIfInBounds_toArray, List.set_cons_zero, List.set_cons_succ, i64_w, i32_w]
    rfl
  refine pure_ (i := 20) (N := some 58) (v := ?_) (a' := ?_) #[true, true, true, true, true, true, true, true, true, true, true, true, true, true, true, true, true, true, true, true, true, false, false] rfl rfl (any_of HT_.out (by kernel_rfl)) (fun _ _ _ h => h) (Or.inl ⟨by rfl, ?_⟩) ?_ ?_
  rotate_left
  · intro w'
    go_simp
    with_reducible rfl
  rotate_left
  · simp only [Act.put, List.setIfInBounds_toArray, List.set_cons_zero, List.set_cons_succ, i64_w, i32_w]
    rfl
  refine pure_ (i := 21) (N := some 6) (v := ?_) (a' := ?_) #[true, true, true, true, true, true, true, true, true, true, true, true, true, true, true, true, true, true, true, true, true, true, false] rfl rfl (any_of HT_.out (by kernel_rfl)) (fun _ _ _ h => h) (Or.inl ⟨by rfl, ?_⟩) ?_ ?_
  rotate_left
  · intro w'
    go_simp
    with_reducible rfl
  rotate_left
  · simp only [Act.put, List.setIfInBounds_toArray, List.set_cons_zero, List.set_cons_succ, i64_w, i32_w]
    rfl
  refine pure_ (i := 22) (N := some 7) (v := ?_) (a' := ?_) #[true, true, true, true, true, true, true, true, true, true, true, true, true, true, true, true, true, true, true, true, true, true, true] rfl rfl (any_of HT_.out (by kernel_rfl)) (fun _ _ _ h => h) (Or.inl ⟨by rfl, ?_⟩) ?_ ?_
  rotate_left
  · intro w'
    go_simp
    with_reducible rfl
  rotate_left
  · simp only [Act.put, List.setIfInBounds_toArray, List.set_cons_zero, List.set_cons_succ, i64_w, i32_w]
    rfl
  refine done_ (done_of HT_.out (by kernel_rfl)) ?_
  clear hHeld HT_ HW_
  go_wp2
  go_ret2
  exact ⟨by rw [Zp.out, Zq.out]; rfl, HB.out⟩
set_option maxHeartbeats 8000000 in
set_option maxRecDepth 100000 in
theorem spec_Drop_bad (A0 : Option Addr) (c0 : Nat) (l : List S59) (a1 a2 : Int) (w : World) (hr0 : Kd.C k59 w A0 l.length l) (hc0 : l.length ≤ c0) (hb1 : l.length ≤ 1048576) (hb2 : ∀ x ∈ l, x.f0.length ≤ 1048576) (hn : ¬ (M.offersOk (fun x : S59 => x.f0) l = true ∧ (0 ≤ a2 ∧ a2 ≤ 40) ∧ (0 ≤ a1 ∧ a1 < (l.length : Int)))) :
    Calls Try.prog 15 #[.slice A0 l.length c0, .int .i64 a1, .int .i64 a2] w fun e w' => e = .returned (.tuple #[.int .i64 0, .bool false]) ∧ Below w.heap.size w w' := by
  obtain ⟨g, hg⟩ : ∃ g, M.offersOk (fun x : S59 => x.f0) l = g := ⟨_, rfl⟩
  have G1 : Aside0 (spec_GoodOffers.f l = some g) := ⟨by unfold spec_GoodOffers.f; rw [if_pos ⟨hb1, hb2⟩, hg]⟩
  have HR := Aside0.mk hr0
  have HC := Aside0.mk hc0
  have HB := Aside0.mk (Below.refl w.heap.size w)
  have HN := Aside0.mk hn
  clear hr0 hc0 hn hb1 hb2
  cases g
  case false =>
    clear hg HN
    go_enter Try.func15, Try.ntmps15
    go_wp2_with (first | ((with_reducible refine gate_callee (f := 33) rfl ?_); refine goesL_ (some 10) rfl rfl Try.func33 (by kernel_rfl) rfl #[.slice A0 l.length c0] rfl (by (try simp only [List.map_toArray, List.map_cons, List.map_nil]); first | done | rfl) ?_; (with_reducible refine (spec_GoodOffers.calls _ _ l false _ ?sg HC.out G1.out).mono ?_); (case sg => exact Kd.C_below HR.out (by repeat (first | (with_reducible first | exact HB.out | apply below_alloc | apply pw_below_drewN | apply below_drew1) | exact HB.out))); rintro e w1 ⟨rfl, hb⟩; refine ⟨_, rfl, ?_⟩; clear HB; have HB := Aside0.mk hb; clear hb))
    go_ret2
    exact ⟨rfl, HB.out⟩
  by_cases c2 : 0 ≤ a2 ∧ a2 ≤ 40
  case neg =>
    have G2 : Aside0 (spec_l6Places.f a2 = some false) := ⟨by rw [spec_l6Places.eq]; simp; omega⟩
    clear hg HN c2
    go_enter Try.func15, Try.ntmps15
    go_wp2_with (first | ((with_reducible refine gate_callee (f := 33) rfl ?_); refine goesL_ (some 10) rfl rfl Try.func33 (by kernel_rfl) rfl #[.slice A0 l.length c0] rfl (by (try simp only [List.map_toArray, List.map_cons, List.map_nil]); first | done | rfl) ?_; (with_reducible refine (spec_GoodOffers.calls _ _ l true _ ?sg HC.out G1.out).mono ?_); (case sg => exact Kd.C_below HR.out (by repeat (first | (with_reducible first | exact HB.out | apply below_alloc | apply pw_below_drewN | apply below_drew1) | exact HB.out))); rintro e w1 ⟨rfl, hb⟩; refine ⟨_, rfl, ?_⟩; clear HB; have HB := Aside0.mk hb; clear hb) | (go_at_call 34; (with_reducible refine (spec_l6Places.calls a2 false _ G2.out).mono ?_); rintro e w2 ⟨rfl, ⟨nd, rfl⟩⟩))
    go_ret2
    exact ⟨rfl, (by repeat (first | (with_reducible first | exact HB.out | apply below_alloc | apply pw_below_drewN | apply below_drew1) | exact HB.out))⟩
  have G2 : Aside0 (spec_l6Places.f a2 = some true) := ⟨by rw [spec_l6Places.eq]; simp [c2.1, c2.2]⟩
  by_cases c3 : a1 < 0
  case pos =>
    have e3 : decide (a1 < 0) = true := decide_eq_true c3
    clear hg HN c2 c3
    go_enter Try.func15, Try.ntmps15
    go_wp2_with (first | ((with_reducible refine gate_callee (f := 33) rfl ?_); refine goesL_ (some 10) rfl rfl Try.func33 (by kernel_rfl) rfl #[.slice A0 l.length c0] rfl (by (try simp only [List.map_toArray, List.map_cons, List.map_nil]); first | done | rfl) ?_; (with_reducible refine (spec_GoodOffers.calls _ _ l true _ ?sg HC.out G1.out).mono ?_); (case sg => exact Kd.C_below HR.out (by repeat (first | (with_reducible first | exact HB.out | apply below_alloc | apply pw_below_drewN | apply below_drew1) | exact HB.out))); rintro e w1 ⟨rfl, hb⟩; refine ⟨_, rfl, ?_⟩; clear HB; have HB := Aside0.mk hb; clear hb) | (go_at_call 34; (with_reducible refine (spec_l6Places.calls a2 true _ G2.out).mono ?_); rintro e w2 ⟨rfl, ⟨nd, rfl⟩⟩))
    go_ret2
    exact ⟨rfl, (by repeat (first | (with_reducible first | exact HB.out | apply below_alloc | apply pw_below_drewN | apply below_drew1) | exact HB.out))⟩
  have e3 : decide (a1 < 0) = false := decide_eq_false c3
  have e4 : decide ((l.length : Int) ≤ a1) = true := decide_eq_true (by
    by_cases h : (l.length : Int) ≤ a1
    · exact h
    · exact absurd ⟨hg, c2, by omega, by omega⟩ HN.out)
  clear hg HN c2 c3
  go_enter Try.func15, Try.ntmps15
  go_wp2_with (first | ((with_reducible refine gate_callee (f := 33) rfl ?_); refine goesL_ (some 10) rfl rfl Try.func33 (by kernel_rfl) rfl #[.slice A0 l.length c0] rfl (by (try simp only [List.map_toArray, List.map_cons, List.map_nil]); first | done | rfl) ?_; (with_reducible refine (spec_GoodOffers.calls _ _ l true _ ?sg HC.out G1.out).mono ?_); (case sg => exact Kd.C_below HR.out (by repeat (first | (with_reducible first | exact HB.out | apply below_alloc | apply pw_below_drewN | apply below_drew1) | exact HB.out))); rintro e w1 ⟨rfl, hb⟩; refine ⟨_, rfl, ?_⟩; clear HB; have HB := Aside0.mk hb; clear hb) | (go_at_call 34; (with_reducible refine (spec_l6Places.calls a2 true _ G2.out).mono ?_); rintro e w2 ⟨rfl, ⟨nd, rfl⟩⟩))
  go_ret2
  exact ⟨rfl, (by repeat (first | (with_reducible first | exact HB.out | apply below_alloc | apply pw_below_drewN | apply below_drew1) | exact HB.out))⟩
theorem spec_DropOffer.calls (A0 : Option Addr) (c0 : Nat) (l : List S59) (a1 a2 : Int) (w : World) (hr0 : Kd.C k59 w A0 l.length l) (hc0 : l.length ≤ c0) (hb1 : l.length ≤ 1048576) (hb2 : ∀ x ∈ l, x.f0.length ≤ 1048576) {d : Int} {b : Bool} (h : dropV l a1 a2 = (d, b)) :
    Calls Try.prog 15 #[.slice A0 l.length c0, .int .i64 a1, .int .i64 a2] w fun e w' => e = .returned (.tuple #[.int .i64 d, .bool b]) ∧ Below w.heap.size w w' := by
  unfold dropV at h
  by_cases hc : M.offersOk (fun x : S59 => x.f0) l = true ∧ (0 ≤ a2 ∧ a2 ≤ 40) ∧ (0 ≤ a1 ∧ a1 < (l.length : Int))
  · rw [if_pos hc] at h
    obtain ⟨rfl, rfl⟩ := Prod.mk.inj h
    exact spec_Drop_good A0 c0 l a1 a2 w hr0 hc0 hc.1 hc.2.1 hc.2.2
  · rw [if_neg hc] at h
    obtain ⟨rfl, rfl⟩ := Prod.mk.inj h
    exact spec_Drop_bad A0 c0 l a1 a2 w hr0 hc0 hb1 hb2 hc
def impl_Drop.T4 : Bool × List (List Nat × List Nat) := (true, [([], []), ([], []), ([0, 1], [0, 1]), ([], []), ([3], [3]), ([2, 4], [2, 4]), ([5], [5]), ([], []), ([6, 7], [6, 7]), ([8], [8]), ([], []), ([], []), ([10, 11, 2], [10, 11]), ([], []), ([13], [13]), ([12, 14], [12, 14]), ([15], [15]), ([], []), ([16, 17], [16, 17]), ([18], [18]), ([9, 19], [9, 19]), ([20, 12, 0, 1, 2, 3, 4, 5, 6, 7, 8, 9, 10, 11, 12, 13, 14, 15, 16, 17, 18, 19, 20], [20]), ([21, 0, 1, 2, 3, 4, 5, 6, 7, 8, 9, 10, 11, 12, 13, 14, 15, 16, 17, 18, 19, 20, 21], [])])
def impl_Drop.B4 : List Nat := [0, 0, 3, 0, 8, 31, 63, 0, 255, 511, 0, 0, 3079, 0, 8192, 31751, 64519, 0, 261127, 523271, 1048575, 2097151, 4194303]
theorem impl_Drop.tab4 : rtab .any (opsOf Try.f17 4) = impl_Drop.T4 := by kernel_rfl
theorem impl_Drop.bits4 : waitsOk impl_Drop.T4.2 impl_Drop.B4 = true := by kernel_rfl
set_option maxHeartbeats 8000000 in
set_option maxRecDepth 100000 in
theorem impl_Drop_good (A0 : Option Addr) (c0 : Nat) (l : List S59) (a1 a2 : Int) (w : World) (hr0 : Kd.C k59 w A0 l.length l) (hc0 : l.length ≤ c0) (c1 : M.offersOk (fun x : S59 => x.f0) l = true) (c2 : 0 ≤ a2 ∧ a2 ≤ 40) (c3 : 0 ≤ a1 ∧ a1 < (l.length : Int)) :
    Calls Try.prog 17 #[.slice A0 l.length c0, .int .i64 a1, .int .i64 a2] w fun e w' => e = .returned (.tuple #[.int .i64 (wrap64 (lastV l a2 - lastV (l.eraseIdx a1.toNat) a2)), .bool true]) ∧ Below w.heap.size w w' := by
  obtain ⟨y, hy⟩ : ∃ y, l.eraseIdx a1.toNat = y := ⟨_, rfl⟩
  have TB := Aside0.mk (tabF ⟨c1, c2⟩)
  have TY : Aside0 ((0 ≤ a2 ∧ a2 ≤ 1000) ∧ y.length ≤ 1048576 ∧ ∀ x ∈ y, x.f0.length ≤ 1048576) := ⟨by rw [← hy]; exact tabF_less TB.out _⟩
  have EA := Aside0.mk c2.1
  have eA := eq_true c2.1
  have eL : (0 ≤ (l.length : Int)) = True := eq_true (by omega)
  have eY : (0 ≤ (y.length : Int)) = True := eq_true (by omega)
  have H1 := Aside0.mk c3
  have HY0 := Aside0.mk hy
  have HC := Aside0.mk hc0
  have HF := Aside0.mk (F_came hr0)
  have HB := Aside0.mk (Below.refl w.heap.size w)
  have HP : Aside0 (0 < l.length) := ⟨by omega⟩
  have G1 : Aside0 (impl_isOffered.f l a2 = some true) := ⟨by rw [impl_isOffered.eq, if_pos ⟨c1, c2⟩]⟩
  have G2 : Aside0 (impl_within.f a1 0 ((l.length : Int) - 1) = some true) := ⟨by rw [impl_within.eq]; simp; omega⟩
  have e4 : IntKind.i64.wrap ((l.length : Int) - 1) = (l.length : Int) - 1 := (i64_w _).trans (M.wrap_id (by omega) (by have := TB.out; omega))
  have e5 : IntKind.i64.wrap (a1 + 1) = a1 + 1 := (i64_w _).trans (M.wrap_id (by omega) (by have := TB.out; omega))
  rw [hy]
  clear hr0 hc0 c1 c2 c3 hy
  go_enter Try.func17, Try.ntmps17
  go_upto_region 4 with (first | ((with_reducible refine gate_callee (f := 37) rfl ?_); refine goesL_ (some 11) rfl rfl Try.func37 (by kernel_rfl) rfl #[.slice A0 l.length c0, .int .i64 a2] rfl (by (try simp only [List.map_toArray, List.map_cons, List.map_nil]); first | done | rfl) ?_; (with_reducible refine (impl_isOffered.calls _ _ l a2 true _ ?sg HC.out G1.out).mono ?_); (case sg => exact Kd.F_now (Kd.F_below HF.out (by repeat (first | (with_reducible first | exact HB.out | apply below_alloc | apply pw_below_drewN | apply below_drew1) | exact HB.out)))); rintro e w1 ⟨rfl, hb⟩; refine ⟨_, rfl, ?_⟩; clear HB; have HB := Aside0.mk hb; clear hb) | (go_at_call 38; (with_reducible refine (impl_within.calls a1 0 ((l.length : Int) - 1) true _ G2.out).mono ?_); rintro e w2 ⟨rfl, ⟨nd, rfl⟩⟩) | ((with_reducible refine gate_callee (f := 40) rfl ?_); refine goesL_ (some 22) rfl rfl Try.func40 (by kernel_rfl) rfl #[.slice A0 l.length c0] rfl (by (try simp only [List.map_toArray, List.map_cons, List.map_nil]); first | done | rfl) ?_; (with_reducible refine (clone_calls A0 c0 l _ ?sg HC.out HP.out TB.out.2.1).mono ?_); (case sg => exact Kd.F_now (Kd.F_below HF.out (by repeat (first | (with_reducible first | exact HB.out | apply below_alloc | apply pw_below_drewN | apply below_drew1) | exact HB.out)))); rintro e w3 ⟨gc, cc, rfl, ho, hb⟩; refine ⟨_, rfl, ?_⟩; have HX := Aside0.mk ho; have HBX := Aside0.mk hb; clear ho hb) | ((with_reducible refine gate_callee (f := 39) rfl ?_); refine goesL_ (some 26) rfl rfl Try.func39 (by kernel_rfl) rfl #[.slice (some ⟨gc, 0, none⟩) l.length cc, .int .i64 a1, .int .i64 (a1 + 1)] rfl (by (try simp only [List.map_toArray, List.map_cons, List.map_nil]); first | done | rfl) ?_; (with_reducible refine (delete_calls gc cc l a1 (a1 + 1) _ _ HBX.out HX.out H1.out.1 H1.out.2 rfl TB.out.2.1).mono ?_); rintro e w4 ⟨rfl, hy4, hc4, hb⟩; refine ⟨_, rfl, ?_⟩; have n0_ := Aside0.mk (below_step (by repeat (first | (with_reducible first | exact HB.out | apply below_alloc | apply pw_below_drewN | apply below_drew1) | exact HB.out)) hb); clear HB HX HBX; have HB := n0_; have HYC := Aside0.mk hy4; have HYL := Aside0.mk hc4; clear n0_ hb hy4 hc4))
  rw [HY0.out] at HYC HYL
  rw [HY0.out]
  have HCY := HYL
  have HY := Aside0.mk (F_came HYC.out)
  have n0_ := Aside0.mk (Kd.F_below HF.out HB.out)
  clear HF HYC HYL
  have HF := n0_
  clear n0_
  refine start_ (n := 23) (S := fun w' => True) (ds := []) #[false, false, false, false, false, false, false, false, false, false, false, false, false, false, false, false, false, false, false, false, false, false, false] (by kernel_rfl) rfl rfl trivial (fun hHeld => ?_); refine with_tabW impl_Drop.tab4 impl_Drop.bits4 (fun HT_ HW_ => ?_)
  have n0_ := Aside0.mk (Kd.F_drew HF.out)
  have n1_ := Aside0.mk (below_drew1 HB.out)
  have n2_ := Aside0.mk (Kd.F_drew HY.out)
  clear HF HB HY
  have HF := n0_
  have HB := n1_
  have HY := n2_
  clear n0_ n1_ n2_
  generalize World.drew _ = wd at HF HB HY hHeld ⊢
  refine pure_ (i := 0) (N := some 27) (v := ?_) (a' := ?_) #[true, false, false, false, false, false, false, false, false, false, false, false, false, false, false, false, false, false, false, false, false, false, false] rfl rfl (any_of HT_.out (by kernel_rfl)) (fun _ _ _ h => h) (Or.inl ⟨by rfl, ?_⟩) ?_ ?_
  rotate_left
  · intro w'
    go_simp
    with_reducible rfl
  rotate_left
  · simp only [Act.put, List.setIfInBounds_toArray, List.set_cons_zero, List.set_cons_succ, i64_w, i32_w]
    rfl
  refine pure_ (i := 1) (N := some 28) (v := ?_) (a' := ?_) #[true, true, false, false, false, false, false, false, false, false, false, false, false, false, false, false, false, false, false, false, false, false, false] rfl rfl (any_of HT_.out (by kernel_rfl)) (fun _ _ _ h => h) (Or.inl ⟨by rfl, ?_⟩) ?_ ?_
  rotate_left
  · intro w'
    go_simp
    with_reducible rfl
  rotate_left
  · simp only [Act.put, List.setIfInBounds_toArray, List.set_cons_zero, List.set_cons_succ, i64_w, i32_w]
    rfl
  refine pure_ (i := 3) (N := some 30) (v := ?_) (a' := ?_) #[true, true, false, true, false, false, false, false, false, false, false, false, false, false, false, false, false, false, false, false, false, false, false] rfl rfl (any_of HT_.out (by kernel_rfl)) (fun _ _ _ h => h) (Or.inl ⟨by rfl, ?_⟩) ?_ ?_
  rotate_left
  · intro w'
    go_simp
    with_reducible rfl
  rotate_left
  · simp only [Act.put, List.setIfInBounds_toArray, List.set_cons_zero, List.set_cons_succ, i64_w, i32_w]
    rfl
  refine pure_ (i := 4) (N := some 31) (v := ?_) (a' := ?_) #[true, true, false, true, true, false, false, false, false, false, false, false, false, false, false, false, false, false, false, false, false, false, false] rfl rfl (any_of HT_.out (by kernel_rfl)) (fun _ _ _ h => h) (Or.inl ⟨by rfl, ?_⟩) ?_ ?_
  rotate_left
  · intro w'
    go_simp
    with_reducible rfl
  rotate_left
  · simp only [Act.put, List.setIfInBounds_toArray, List.set_cons_zero, List.set_cons_succ, i64_w, i32_w]
    rfl
  refine pure_ (i := 7) (N := some 34) (v := ?_) (a' := ?_) #[true, true, false, true, true, false, false, true, false, false, false, false, false, false, false, false, false, false, false, false, false, false, false] rfl rfl (any_of HT_.out (by kernel_rfl)) (fun _ _ _ h => h) (Or.inl ⟨by rfl, ?_⟩) ?_ ?_
  rotate_left
  · intro w'
    go_simp
    with_reducible rfl
  rotate_left
  · simp only [Act.put, List.setIfInBounds_toArray, List.set_cons_zero, List.set_cons_succ, i64_w, i32_w]
    rfl
  refine pure_ (i := 10) (N := some 37) (v := ?_) (a' := ?_) #[true, true, false, true, true, false, false, true, false, false, true, false, false, false, false, false, false, false, false, false, false, false, false] rfl rfl (any_of HT_.out (by kernel_rfl)) (fun _ _ _ h => h) (Or.inl ⟨by rfl, ?_⟩) ?_ ?_
  rotate_left
  · intro w'
    go_simp
    with_reducible rfl
  rotate_left
  · simp only [Act.put, List.setIfInBounds_toArray, List.set_cons_zero, List.set_cons_succ, i64_w, i32_w]
    rfl
  refine pure_ (i := 11) (N := some 38) (v := ?_) (a' := ?_) #[true, true, false, true, true, false, false, true, false, false, true, true, false, false, false, false, false, false, false, false, false, false, false] rfl rfl (any_of HT_.out (by kernel_rfl)) (fun _ _ _ h => h) (Or.inl ⟨by rfl, ?_⟩) ?_ ?_
  rotate_left
  · intro w'
    go_simp
    with_reducible rfl
  rotate_left
  · simp only [Act.put, List.setIfInBounds_toArray, List.set_cons_zero, List.set_cons_succ, i64_w, i32_w]
    rfl
  refine pure_ (i := 13) (N := some 40) (v := ?_) (a' := ?_) #[true, true, false, true, true, false, false, true, false, false, true, true, false, true, false, false, false, false, false, false, false, false, false] rfl rfl (any_of HT_.out (by kernel_rfl)) (fun _ _ _ h => h) (Or.inl ⟨by rfl, ?_⟩) ?_ ?_
  rotate_left
  · intro w'
    go_simp
    with_reducible rfl
  rotate_left
  · simp only [Act.put, List.setIfInBounds_toArray, List.set_cons_zero, List.set_cons_succ, i64_w, i32_w]
    rfl
  refine pure_ (i := 14) (N := some 41) (v := ?_) (a' := ?_) #[true, true, false, true, true, false, false, true, false, false, true, true, false, true, true, false, false, false, false, false, false, false, false] rfl rfl (any_of HT_.out (by kernel_rfl)) (fun _ _ _ h => h) (Or.inl ⟨by rfl, ?_⟩) ?_ ?_
  rotate_left
  · intro w'
    go_simp
    with_reducible rfl
  rotate_left
  · simp only [Act.put, List.setIfInBounds_toArray, List.set_cons_zero, List.set_cons_succ, i64_w, i32_w]
    rfl
  refine pure_ (i := 17) (N := some 44) (v := ?_) (a' := ?_) #[true, true, false, true, true, false, false, true, false, false, true, true, false, true, true, false, false, true, false, false, false, false, false] rfl rfl (any_of HT_.out (by kernel_rfl)) (fun _ _ _ h => h) (Or.inl ⟨by rfl, ?_⟩) ?_ ?_
  rotate_left
  · intro w'
    go_simp
    with_reducible rfl
  rotate_left
  · simp only [Act.put, List.setIfInBounds_toArray, List.set_cons_zero, List.set_cons_succ, i64_w, i32_w]
    rfl
  refine one_ (i := 2) (N := some 29) #[true, true, true, true, true, false, false, true, false, false, true, true, false, true, true, false, false, true, false, false, false, false, false] rfl rfl (one_of HT_.out (by kernel_rfl)) (by decide) (fun K hK => ?_)
  refine goes_ Try.func41 (by kernel_rfl) rfl #[.slice A0 l.length c0, .int .i64 a2] (by rfl) rfl rfl (by (try simp only [List.map_toArray, List.map_cons, List.map_nil]); first | done | rfl) ?_
  with_reducible refine (impl_tables.calls _ _ l a2 _ _ (Kd.F_now HF.out) HC.out (impl_tab l a2 TB.out)).mono ?_
  rintro e wtp ⟨vtp, rfl, ht, hb⟩
  refine ⟨_, rfl, ?_⟩
  obtain ⟨adp, np, cp, bdp, mp, dp, rfl, g1p, x1p, g2p, x2p⟩ := tab_at ht EA.out
  have n0_ := Aside0.mk (Kd.F_below HF.out hb)
  have n1_ := Aside0.mk (Kd.F_below HY.out hb)
  have n2_ := Aside0.mk (below_step HB.out hb)
  clear HF HY HB ht
  have HF := n0_
  have HY := n1_
  have HB := n2_
  clear n0_ n1_ n2_ hb
  have g1p := eq_true g1p
  have g2p := eq_true g2p
  clear hHeld
  refine hK.out _ _ trivial (fun hHeld => ?_)
  clear hK K
  refine norm_ (a' := ?_) ?_ ?_
  rotate_left
  · show Act.put _ (some 29) _ = _
    simp only [Act.put, List.setIfInBounds_toArray, List.set_cons_zero, List.set_cons_succ, i64_w, i32_w]
    rfl
  clear hHeld
  generalize hz : lastV l a2 = zp at x2p ⊢
  have Zp := Aside0.mk hz
  clear hz
  have hHeld := And.intro x1p x2p
  clear x1p x2p
  refine switch_ (S2 := fun w' => w'.cell? (adp.add l.length) = some (.slice (some bdp) mp dp) ∧ w'.cell? (bdp.add a2.toNat) = some (.int .i64 zp)) (fun _ _ => trivial) _ _ _ _ hHeld ?_
  refine pure_ (i := 5) (N := some 32) (v := ?_) (a' := ?_) #[true, true, true, true, true, true, false, true, false, false, true, true, false, true, true, false, false, true, false, false, false, false, false] rfl rfl (any_of HT_.out (by kernel_rfl)) (fun _ _ _ h => h) (Or.inl ⟨by rfl, ?_⟩) ?_ ?_
  rotate_left
  · intro w'
    go_simp
    with_reducible rfl
  rotate_left
  · simp only [Act.put, List.setIfInBounds_toArray, List.set_cons_zero, List.set_cons_succ, i64_w, i32_w]
    rfl
  refine take_ (i := 6) (N := some 33) (v := ?_) (a' := ?_) #[true, true, true, true, true, true, true, true, false, false, true, true, false, true, true, false, false, true, false, false, false, false, false] rfl rfl (take_ofW HT_.out HW_.out (by kernel_rfl)) (fun _ _ _ h => h) (Or.inl ⟨by rfl, ?_⟩) hHeld ?_ ?_
  rotate_left
  · rintro w' ⟨s0, s1⟩
    go_simp
    with_reducible rfl
  rotate_left
  · simp only [Act.put, List.setIfInBounds_toArray, List.set_cons_zero, List.set_cons_succ, i64_w, i32_w]
    rfl
  refine pure_ (i := 8) (N := some 35) (v := ?_) (a' := ?_) #[true, true, true, true, true, true, true, true, true, false, true, true, false, true, true, false, false, true, false, false, false, false, false] rfl rfl (any_of HT_.out (by kernel_rfl)) (fun _ _ _ h => h) (Or.inl ⟨by rfl, ?_⟩) ?_ ?_
  rotate_left
  · intro w'
    go_simp
    with_reducible rfl
  rotate_left
  · simp only [Act.put, List.setIfInBounds_toArray, List.set_cons_zero, List.set_cons_succ, i64_w, i32_w]
    rfl
  refine take_ (i := 9) (N := some 36) (v := ?_) (a' := ?_) #[true, true, true, true, true, true, true, true, true, true, true, true, false, true, true, false, false, true, false, false, false, false, false] rfl rfl (take_ofW HT_.out HW_.out (by kernel_rfl)) (fun _ _ _ h => h) (Or.inl ⟨by rfl, ?_⟩) hHeld ?_ ?_
  rotate_left
  · rintro w' ⟨s0, s1⟩
    go_simp
    with_reducible rfl
  rotate_left
  · simp only [Act.put, List.setIfInBounds_toArray, List.set_cons_zero, List.set_cons_succ, i64_w, i32_w]
    rfl
  refine one_ (i := 12) (N := some 39) #[true, true, true, true, true, true, true, true, true, true, true, true, true, true, true, false, false, true, false, false, false, false, false] rfl rfl (one_of HT_.out (by kernel_rfl)) (by decide) (fun K hK => ?_)
  refine goes_ Try.func41 (by kernel_rfl) rfl #[.slice (some ⟨gc, 0, none⟩) y.length cc, .int .i64 a2] (by rfl) rfl rfl (by (try simp only [List.map_toArray, List.map_cons, List.map_nil]); first | done | rfl) ?_
  with_reducible refine (impl_tables.calls _ _ y a2 _ _ (Kd.F_now HY.out) HCY.out (impl_tab y a2 TY.out)).mono ?_
  rintro e wtq ⟨vtq, rfl, ht, hb⟩
  refine ⟨_, rfl, ?_⟩
  obtain ⟨adq, nq, cq, bdq, mq, dq, rfl, g1q, x1q, g2q, x2q⟩ := tab_at ht EA.out
  have n0_ := Aside0.mk (Kd.F_below HF.out hb)
  have n1_ := Aside0.mk (Kd.F_below HY.out hb)
  have n2_ := Aside0.mk (below_step HB.out hb)
  have y0_ := pw_cell_below hb hHeld.1
  have y1_ := pw_cell_below hb hHeld.2
  clear HF HY HB ht
  have HF := n0_
  have HY := n1_
  have HB := n2_
  clear n0_ n1_ n2_ hb
  have g1q := eq_true g1q
  have g2q := eq_true g2q
  clear hHeld
  refine hK.out _ _ ⟨y0_, y1_⟩ (fun hHeld => ?_)
  clear hK K
  refine norm_ (a' := ?_) ?_ ?_
  rotate_left
  · show Act.put _ (some 39) _ = _
    simp only [Act.put, List.setIfInBounds_toArray, List.set_cons_zero, List.set_cons_succ, i64_w, i32_w]
    rfl
  generalize hz : lastV y a2 = zq at x2q ⊢
  have Zq := Aside0.mk hz
  clear hz y0_ y1_
  have hHeld2 : wtq.cell? (adp.add l.length) = some (.slice (some bdp) mp dp) ∧ wtq.cell? (bdp.add a2.toNat) = some (.int .i64 zp) ∧ wtq.cell? (adq.add y.length) = some (.slice (some bdq) mq dq) ∧ wtq.cell? (bdq.add a2.toNat) = some (.int .i64 zq) := ⟨hHeld.1, hHeld.2, x1q, x2q⟩
  clear x1q x2q hHeld
  have hHeld := hHeld2
  clear hHeld2
  refine switch_ (S2 := fun w' => w'.cell? (adp.add l.length) = some (.slice (some bdp) mp dp) ∧ w'.cell? (bdp.add a2.toNat) = some (.int .i64 zp) ∧ w'.cell? (adq.add y.length) = some (.slice (some bdq) mq dq) ∧ w'.cell? (bdq.add a2.toNat) = some (.int .i64 zq)) (fun _ h => ⟨h.1, h.2.1⟩) _ _ _ _ hHeld ?_
  refine pure_ (i := 15) (N := some 42) (v := ?_) (a' := ?_) #[true, true, true, true, true, true, true, true, true, true, true, true, true, true, true, true, false, true, false, false, false, false, false] rfl rfl (any_of HT_.out (by kernel_rfl)) (fun _ _ _ h => h) (Or.inl ⟨by rfl, ?_⟩) ?_ ?_
  rotate_left
  · intro w'
    go_simp
    with_reducible rfl
  rotate_left
  · simp only [Act.put, List.setIfInBounds_toArray, List.set_cons_zero, List.set_cons_succ, i64_w, i32_w]
    rfl
  refine take_ (i := 16) (N := some 43) (v := ?_) (a' := ?_) #[true, true, true, true, true, true, true, true, true, true, true, true, true, true, true, true, true, true, false, false, false, false, false] rfl rfl (take_ofW HT_.out HW_.out (by kernel_rfl)) (fun _ _ _ h => h) (Or.inl ⟨by rfl, ?_⟩) hHeld ?_ ?_
  rotate_left
  · rintro w' ⟨s0, s1, s2, s3⟩
    go_simp
    with_reducible rfl
  rotate_left
  · simp only [Act.put, List.setIfInBounds_toArray, List.set_cons_zero, List.set_cons_succ, i64_w, i32_w]
    rfl
  refine pure_ (i := 18) (N := some 45) (v := ?_) (a' := ?_) #[true, true, true, true, true, true, true, true, true, true, true, true, true, true, true, true, true, true, true, false, false, false, false] rfl rfl (any_of HT_.out (by kernel_rfl)) (fun _ _ _ h => h) (Or.inl ⟨by rfl, ?_⟩) ?_ ?_
  rotate_left
  · intro w'
    go_simp
    with_reducible rfl
  rotate_left
  · simp only [Act.put, List.setIfInBounds_toArray, List.set_cons_zero, List.set_cons_succ, i64_w, i32_w]
    rfl
  refine take_ (i := 19) (N := some 46) (v := ?_) (a' := ?_) #[true, true, true, true, true, true, true, true, true, true, true, true, true, true, true, true, true, true, true, true, false, false, false] rfl rfl (take_ofW HT_.out HW_.out (by kernel_rfl)) (fun _ _ _ h => h) (Or.inl ⟨by rfl, ?_⟩) hHeld ?_ ?_
  rotate_left
  · rintro w' ⟨s0, s1, s2, s3⟩
    go_simp
    with_reducible rfl
  rotate_left
  · simp only [Act.put, List.setIfInBounds_toArray, List.set_cons_zero, List.set_cons_succ, i64_w, i32_w]
    rfl
  refine pure_ (i := 20) (N := some 47) (v := ?_) (a' := ?_) #[true, true, true, true, true, true, true, true, true, true, true, true, true, true, true, true, true, true, true, true, true, false, false] rfl rfl (any_of HT_.out (by kernel_rfl)) (fun _ _ _ h => h) (Or.inl ⟨by rfl, ?_⟩) ?_ ?_
  rotate_left
  · intro w'
    go_simp
    with_reducible rfl
  rotate_left
  · simp only [Act.put, List.setIfInBounds_toArray, List.set_cons_zero, List.set_cons_succ, i64_w, i32_w]
    rfl
  refine pure_ (i := 21) (N := some 6) (v := ?_) (a' := ?_) #[true, true, true, true, true, true, true, true, true, true, true, true, true, true, true, true, true, true, true, true, true, true, false] rfl rfl (any_of HT_.out (by kernel_rfl)) (fun _ _ _ h => h) (Or.inl ⟨by rfl, ?_⟩) ?_ ?_
  rotate_left
  · intro w'
    go_simp
    with_reducible rfl
  rotate_left
  · simp only [Act.put, List.setIfInBounds_toArray, List.set_cons_zero, List.set_cons_succ, i64_w, i32_w]
    rfl
  refine pure_ (i := 22) (N := some 7) (v := ?_) (a' := ?_) #[true, true, true, true, true, true, true, true, true, true, true, true, true, true, true, true, true, true, true, true, true, true, true] rfl rfl (any_of HT_.out (by kernel_rfl)) (fun _ _ _ h => h) (Or.inl ⟨by rfl, ?_⟩) ?_ ?_
  rotate_left
  · intro w'
    go_simp
    with_reducible rfl
  rotate_left
  · simp only [Act.put, List.setIfInBounds_toArray, List.set_cons_zero, List.set_cons_succ, i64_w, i32_w]
    rfl
  refine done_ (done_of HT_.out (by kernel_rfl)) ?_
  clear hHeld HT_ HW_
  go_wp2
  go_ret2
  exact ⟨by rw [Zp.out, Zq.out]; rfl, HB.out⟩
set_option maxHeartbeats 8000000 in
set_option maxRecDepth 100000 in
theorem impl_Drop_bad (A0 : Option Addr) (c0 : Nat) (l : List S59) (a1 a2 : Int) (w : World) (hr0 : Kd.C k59 w A0 l.length l) (hc0 : l.length ≤ c0) (hb1 : l.length ≤ 1048576) (hn : ¬ (M.offersOk (fun x : S59 => x.f0) l = true ∧ (0 ≤ a2 ∧ a2 ≤ 40) ∧ (0 ≤ a1 ∧ a1 < (l.length : Int)))) :
    Calls Try.prog 17 #[.slice A0 l.length c0, .int .i64 a1, .int .i64 a2] w fun e w' => e = .returned (.tuple #[.int .i64 0, .bool false]) ∧ Below w.heap.size w w' := by
  have HR := Aside0.mk hr0
  have HC := Aside0.mk hc0
  have HB := Aside0.mk (Below.refl w.heap.size w)
  have e4 : IntKind.i64.wrap ((l.length : Int) - 1) = (l.length : Int) - 1 := (i64_w _).trans (M.wrap_id (by omega) (by omega))
  by_cases c : M.offersOk (fun x : S59 => x.f0) l = true ∧ (0 ≤ a2 ∧ a2 ≤ 40)
  case neg =>
    have G1 : Aside0 (impl_isOffered.f l a2 = some false) := ⟨by rw [impl_isOffered.eq, if_neg c]⟩
    clear hr0 hc0 hn hb1 c
    go_enter Try.func17, Try.ntmps17
    go_wp2_with (first | ((with_reducible refine gate_callee (f := 37) rfl ?_); refine goesL_ (some 11) rfl rfl Try.func37 (by kernel_rfl) rfl #[.slice A0 l.length c0, .int .i64 a2] rfl (by (try simp only [List.map_toArray, List.map_cons, List.map_nil]); first | done | rfl) ?_; (with_reducible refine (impl_isOffered.calls _ _ l a2 false _ ?sg HC.out G1.out).mono ?_); (case sg => exact Kd.C_below HR.out (by repeat (first | (with_reducible first | exact HB.out | apply below_alloc | apply pw_below_drewN | apply below_drew1) | exact HB.out))); rintro e w1 ⟨rfl, hb⟩; refine ⟨_, rfl, ?_⟩; clear HB; have HB := Aside0.mk hb; clear hb))
    go_ret2
    exact ⟨rfl, HB.out⟩
  have G1 : Aside0 (impl_isOffered.f l a2 = some true) := ⟨by rw [impl_isOffered.eq, if_pos c]⟩
  have G2 : Aside0 (impl_within.f a1 0 ((l.length : Int) - 1) = some false) := ⟨by
    rw [impl_within.eq]
    have h : ¬ (0 ≤ a1 ∧ a1 < (l.length : Int)) := fun h => hn ⟨c.1, c.2, h⟩
    simp
    omega⟩
  clear hr0 hc0 hn hb1 c
  go_enter Try.func17, Try.ntmps17
  go_wp2_with (first | ((with_reducible refine gate_callee (f := 37) rfl ?_); refine goesL_ (some 11) rfl rfl Try.func37 (by kernel_rfl) rfl #[.slice A0 l.length c0, .int .i64 a2] rfl (by (try simp only [List.map_toArray, List.map_cons, List.map_nil]); first | done | rfl) ?_; (with_reducible refine (impl_isOffered.calls _ _ l a2 true _ ?sg HC.out G1.out).mono ?_); (case sg => exact Kd.C_below HR.out (by repeat (first | (with_reducible first | exact HB.out | apply below_alloc | apply pw_below_drewN | apply below_drew1) | exact HB.out))); rintro e w1 ⟨rfl, hb⟩; refine ⟨_, rfl, ?_⟩; clear HB; have HB := Aside0.mk hb; clear hb) | (go_at_call 38; (with_reducible refine (impl_within.calls a1 0 ((l.length : Int) - 1) false _ G2.out).mono ?_); rintro e w2 ⟨rfl, ⟨nd, rfl⟩⟩))
  go_ret2
  exact ⟨rfl, (by repeat (first | (with_reducible first | exact HB.out | apply below_alloc | apply pw_below_drewN | apply below_drew1) | exact HB.out))⟩
theorem impl_DropOffer.calls (A0 : Option Addr) (c0 : Nat) (l : List S59) (a1 a2 : Int) (w : World) (hr0 : Kd.C k59 w A0 l.length l) (hc0 : l.length ≤ c0) (hb1 : l.length ≤ 1048576) {d : Int} {b : Bool} (h : dropV l a1 a2 = (d, b)) :
    Calls Try.prog 17 #[.slice A0 l.length c0, .int .i64 a1, .int .i64 a2] w fun e w' => e = .returned (.tuple #[.int .i64 d, .bool b]) ∧ Below w.heap.size w w' := by
  unfold dropV at h
  by_cases hc : M.offersOk (fun x : S59 => x.f0) l = true ∧ (0 ≤ a2 ∧ a2 ≤ 40) ∧ (0 ≤ a1 ∧ a1 < (l.length : Int))
  · rw [if_pos hc] at h
    obtain ⟨rfl, rfl⟩ := Prod.mk.inj h
    exact impl_Drop_good A0 c0 l a1 a2 w hr0 hc0 hc.1 hc.2.1 hc.2.2
  · rw [if_neg hc] at h
    obtain ⟨rfl, rfl⟩ := Prod.mk.inj h
    exact impl_Drop_bad A0 c0 l a1 a2 w hr0 hc0 hb1 hc

open V
/-- The rows of offers that the call has made. -/
def orow (B : Nat) (ok : Nat → Prop) (v : Value) (xs : List S59) : Ob := ⟨ok, fun W => Kd.S k59 59 W B ok v xs⟩
def ORd (w : World) (A : Option Addr) (c : Nat) (l : List S59) : Prop := l.length ≤ c ∧ Kd.C k59 w A l.length l
def LRd (w : World) (A : Option Addr) (c : Nat) (l : List S54) : Prop := l.length ≤ c ∧ Kd.C k54 w A l.length l
/-- A row of numbers that is only read. -/
def frow (B : Nat) (ok : Nat → Prop) (v : Value) (xs : List Int) : Ob := ⟨ok, fun W => Kd.V (Kd.int .i64) 3 W B ok v xs⟩
section
variable {w0 w W : World} {L : List Ob} {A A0 A1 : Option Addr} {c c0 c1 n : Nat} {l : List S54} {y : List S59} {p q : List Int}
theorem orow_at {B b : Nat} {ok : Nat → Prop} {v : Value} (hr : Kd.S k59 59 w b ok v y) (hB : B ≤ b) : At (orow B (fun k => b ≤ k ∧ k < w.heap.size) v y) b w :=
  ⟨fun k hk => hk.1, fun k hk => hk.2, fun W hW => Kd.S_lower (Kd.S_step (Kd.S_mono (Kd.S_bound hr) (fun k hk => ⟨hk.2.1, hk.2.2.1⟩)) (fun k hk _ => hW k hk)) hB⟩
theorem frow_at {B b : Nat} {ok : Nat → Prop} {v : Value} (hr : Kd.V (Kd.int .i64) 3 w b ok v p) (hok : ∀ k, ok k → b ≤ k) (hB : B ≤ b) : At (frow B (fun k => b ≤ k ∧ k < w.heap.size) v p) b w := by
  refine ⟨fun k hk => hk.1, fun k hk => hk.2, fun W hW => ?_⟩
  obtain ⟨A, c, rfl, hl, hf⟩ := hr
  exact ⟨A, c, rfl, hl, Kd.F_step (Kd.F_mono (Kd.F_bound hf) (fun k hk => ⟨hok k hk.1, hk.2⟩)) (fun k hk _ => hW k hk)⟩
theorem ord_of (h : Live w0 w L) (i : Nat) {B : Nat} {ok : Nat → Prop} (hi : L[i]? = some (orow B ok (.slice A n c) y)) : ORd w A c y := by
  obtain ⟨h1, h2, h3⟩ := Kd.S_reads' (h.get i hi)
  exact ⟨h1 ▸ h2, h3⟩
theorem frd_of (h : Live w0 w L) (i : Nat) {B : Nat} {ok : Nat → Prop} (hi : L[i]? = some (frow B ok (.slice A p.length c) p)) : Rd w A c p := by
  obtain ⟨A', c', e, hl, hf⟩ := h.get i hi
  injection e with e1 e2 e3
  subst e1; subst e3
  exact ⟨hl, Kd.F_now hf⟩
theorem lrd_of (h : Live w0 w L) (hr : LRd w0 A c l) : LRd w A c l := ⟨hr.1, h.came hr.2⟩
theorem szO_live (HL : Live w0 w L) (h0 : LRd w0 A0 c0 l) {a r : Int} (hf : laws_szOfferS.f l a = some r) :
    Calls Try.prog 14 #[.slice A0 l.length c0, .int .i64 a] w fun e w' => e = .returned (.int .i64 r) ∧ Live w0 w' L :=
  (laws_szOfferS.calls _ _ l a r _ (lrd_of HL h0).2 h0.1 hf).mono fun e w' ⟨he, hb⟩ => ⟨he, HL.later hb⟩
theorem toO_live (HL : Live w0 w L) (h0 : LRd w0 A0 c0 l) (hf : laws_toOfferS.f l = some y) :
    Calls Try.prog 16 #[.slice A0 l.length c0] w fun e w' => ∃ B d ok, e = .returned (.slice B y.length d) ∧ Live w0 w' (orow w0.heap.size ok (.slice B y.length d) y :: L) := by
  refine (laws_toOfferS.calls _ _ l y _ (lrd_of HL h0).2 h0.1 hf).mono ?_
  rintro e w' ⟨v0, rfl, g0, hb⟩
  obtain ⟨B, d, rfl⟩ := Kd.S_slice g0
  exact ⟨B, d, _, rfl, HL.new hb (orow_at g0 HL.below.size)⟩
theorem eqO_live (HL : Live w0 w L) (h0 : ORd w A0 c0 y) (h1 : ORd w A1 c1 y) (l0 : y.length ≤ 1048576) (l1 : ∀ x ∈ y, x.f0.length ≤ 1048576) :
    Calls Try.prog 18 #[.slice A0 y.length c0, .slice A1 y.length c1] w fun e w' => e = .returned (.bool true) ∧ Live w0 w' L :=
  (laws_eqOfferS.calls _ _ y _ _ y true _ h0.2 h0.1 h1.2 h1.1 (laws_eqOfferS.self y l0 l1)).mono fun e w' ⟨he, hb⟩ => ⟨he, HL.later hb⟩
/-- A size that is not below zero: the lengths' sum is bounded. -/
theorem szL_sum : ∀ (ns : List Nat) (left : Int), 0 ≤ left → ¬ M.szL ns left < 0 → (ns.sum : Int) ≤ left
  | [], left, h, _ => by simpa using h
  | m :: ns, left, h0, h => by
    unfold M.szL at h
    by_cases c : left - m < 0
    · rw [if_pos c] at h; omega
    · rw [if_neg c] at h
      have := szL_sum ns (left - m) (by omega) h
      rw [List.sum_cons]; omega
theorem sz_sum {len : Nat} {ns : List Nat} {left : Int} (h : ¬ M.sz len ns left < 0) : (ns.sum : Int) ≤ left - len := by
  unfold M.sz at h
  by_cases c : left - len < 0
  · rw [if_pos c] at h; omega
  · rw [if_neg c] at h
    exact szL_sum ns _ (by omega) h
theorem sum_ge {ns : List Nat} {n : Nat} (h : n ∈ ns) : n ≤ ns.sum := by
  induction ns with
  | nil => cases h
  | cons m ns ih =>
    rw [List.sum_cons]
    rcases List.mem_cons.1 h with rfl | h
    · omega
    · have := ih h; omega
/-- What the law's guard tells of the offers that came in. -/
theorem came_sizes {w : World} (hr : Kd.C k54 w A l.length l) : (l.length ≤ 9223372036854775807 ∧ ∀ x ∈ l, x.f0.length ≤ 9223372036854775807) := by
  refine ⟨hr.2.1, fun x hx => ?_⟩
  obtain ⟨i, hi, rfl⟩ := List.mem_iff_getElem.1 hx
  obtain ⟨_, _, _, _, _, _, h4⟩ := at_T54 hr (i : Int) (by omega) (by omega)
  have e : rd_T54 l (i : Int) = l[i] := by unfold rd_T54; simp [hi]
  rw [e] at h4
  exact h4.2.1
theorem sz_case {w : World} (hr : Kd.C k54 w A l.length l) : ∃ r, laws_szOfferS.f l 1048576 = some r ∧ (r < 0 ∨ 0 ≤ r ∧ ∃ y, laws_toOfferS.f l = some y ∧ y.length ≤ 1048576 ∧ (∀ x ∈ y, x.f0.length ≤ 1048576) ∧ (y.map fun x => x.f0.length).sum ≤ 1048576) := by
  refine ⟨M.sz l.length (l.map fun x => x.f0.length) 1048576, ?_, ?_⟩
  · unfold laws_szOfferS.f
    rw [if_pos ⟨came_sizes hr, by omega, by omega⟩]
  · by_cases c : M.sz l.length (l.map fun x => x.f0.length) 1048576 < 0
    · exact Or.inl c
    · refine Or.inr ⟨by omega, ?_⟩
      have d := M.sz_ok c
      have e := sz_sum c
      have g1 : l.length ≤ 1048576 := by omega
      have g2 : ∀ x ∈ l, x.f0.length ≤ 1048576 := fun x hx => by
        have := d.2 x.f0.length (List.mem_map_of_mem (f := fun x : S54 => x.f0.length) hx)
        omega
      refine ⟨_, laws_toOfferS.eq l g1 g2, by rw [List.length_map]; exact g1, fun x hx => ?_, ?_⟩
      · obtain ⟨z, hz, rfl⟩ := List.mem_map.1 hx
        exact g2 z hz
      · rw [List.map_map]
        have : (fun x : S59 => x.f0.length) ∘ (fun x : S54 => (⟨x.f0⟩ : S59)) = fun x => x.f0.length := rfl
        rw [this]
        omega
end

theorem spec_dr_live {w0 w : World} {L : List Ob} {A0 : Option Addr} {c0 : Nat} {y : List S59} (HL : Live w0 w L) (h0 : ORd w A0 c0 y) (h1 : y.length ≤ 1048576) (h2 : ∀ x ∈ y, x.f0.length ≤ 1048576) {k a : Int} {d : Int} {b : Bool} (hf : dropV y k a = (d, b)) :
    Calls Try.prog 15 #[.slice A0 y.length c0, .int .i64 k, .int .i64 a] w fun e w' => e = .returned (.tuple #[.int .i64 d, .bool b]) ∧ Live w0 w' L :=
  (spec_DropOffer.calls _ _ y k a _ h0.2 h0.1 h1 h2 hf).mono fun e w' ⟨he, hb⟩ => ⟨he, HL.later hb⟩
theorem impl_dr_live {w0 w : World} {L : List Ob} {A0 : Option Addr} {c0 : Nat} {y : List S59} (HL : Live w0 w L) (h0 : ORd w A0 c0 y) (h1 : y.length ≤ 1048576) {k a : Int} {d : Int} {b : Bool} (hf : dropV y k a = (d, b)) :
    Calls Try.prog 17 #[.slice A0 y.length c0, .int .i64 k, .int .i64 a] w fun e w' => e = .returned (.tuple #[.int .i64 d, .bool b]) ∧ Live w0 w' L :=
  (impl_DropOffer.calls _ _ y k a _ h0.2 h0.1 h1 hf).mono fun e w' ⟨he, hb⟩ => ⟨he, HL.later hb⟩

def laws_FnExactDropOffer.f (l0 : List S54) (a1 a2 : Int) : Option Bool := some true
set_option maxHeartbeats 8000000 in
set_option maxRecDepth 100000 in
theorem laws_FnExactDropOffer.calls (A0 : Option Addr) (c0 : Nat) (l0 : List S54) (a1 a2 : Int) (r : Bool) (w : World) (hr0 : Kd.C k54 w A0 l0.length l0) (hc0 : l0.length ≤ c0) (h : laws_FnExactDropOffer.f l0 a1 a2 = some r) :
    Calls Try.prog 4 #[.slice A0 l0.length c0, .int .i64 a1, .int .i64 a2] w fun e w' => e = .returned (.bool r) ∧ Below w.heap.size w w' := by
  obtain rfl := Option.some.inj h
  clear h
  obtain ⟨r1, hs1, hcase⟩ := sz_case hr0
  have R0 : Aside0 (LRd w A0 c0 l0) := ⟨⟨hc0, hr0⟩⟩
  have HL0 := Aside0.mk (Live.start w)
  have S1 := Aside0.mk hs1
  clear hr0 hc0 hs1
  rcases hcase with hneg | ⟨hpos, y, hy, g1, g2, g3⟩
  · have d1 : decide (r1 < 0) = true := decide_eq_true hneg
    clear hneg
    go_enter Try.func4, Try.ntmps4
    go_wp2_with (first | ((with_reducible refine gate_callee (f := 14) rfl ?_); refine goesL_ (some 15) rfl rfl Try.func14 (by kernel_rfl) rfl #[.slice A0 l0.length c0, .int .i64 1048576] rfl (by (try simp only [List.map_toArray, List.map_cons, List.map_nil]); first | done | rfl) ?_; (with_reducible refine (szO_live HL0.out R0.out S1.out).mono ?_); rintro e w2_ ⟨rfl, HLn⟩; refine ⟨_, rfl, ?_⟩; have HL1_ := Aside0.mk HLn; clear HLn HL0))
    go_ret
    exact ⟨rfl, HL1_.out.below⟩
  have d1 : decide (r1 < 0) = false := decide_eq_false (by omega)
  obtain ⟨d, b, hbt⟩ : ∃ d b, dropV y a1 a2 = (d, b) := ⟨_, _, rfl⟩
  have BT := Aside0.mk hbt
  have Y1 := Aside0.mk hy
  have G1 := Aside0.mk g1
  have G2 := Aside0.mk g2
  clear hpos hy g1 g2 g3 hbt
  go_enter Try.func4, Try.ntmps4
  go_wp2_with (first | ((with_reducible refine gate_callee (f := 14) rfl ?_); refine goesL_ (some 15) rfl rfl Try.func14 (by kernel_rfl) rfl #[.slice A0 l0.length c0, .int .i64 1048576] rfl (by (try simp only [List.map_toArray, List.map_cons, List.map_nil]); first | done | rfl) ?_; (with_reducible refine (szO_live HL0.out R0.out S1.out).mono ?_); rintro e w2_ ⟨rfl, HLn⟩; refine ⟨_, rfl, ?_⟩; have HL1_ := Aside0.mk HLn; clear HLn HL0) | ((with_reducible refine gate_callee (f := 16) rfl ?_); refine goesL_ (some 20) rfl rfl Try.func16 (by kernel_rfl) rfl #[.slice A0 l0.length c0] rfl (by (try simp only [List.map_toArray, List.map_cons, List.map_nil]); first | done | rfl) ?_; (with_reducible refine (toO_live HL1_.out R0.out Y1.out).mono ?_); rintro e w7_ ⟨B3_, c4_, ok5_, rfl, HLn⟩; refine ⟨_, rfl, ?_⟩; have HL6_ := Aside0.mk HLn; clear HLn HL1_) | ((with_reducible refine gate_callee (f := 15) rfl ?_); refine goesL_ (some 23) rfl rfl Try.func15 (by kernel_rfl) rfl #[.slice B3_ y.length c4_, .int .i64 a1, .int .i64 a2] rfl (by (try simp only [List.map_toArray, List.map_cons, List.map_nil]); first | done | rfl) ?_; (with_reducible refine (spec_dr_live HL6_.out (ord_of HL6_.out 0 rfl) G1.out G2.out BT.out).mono ?_); rintro e w9_ ⟨rfl, HLn⟩; refine ⟨_, rfl, ?_⟩; have HL8_ := Aside0.mk HLn; clear HLn HL6_) | ((with_reducible refine gate_callee (f := 16) rfl ?_); refine goesL_ (some 27) rfl rfl Try.func16 (by kernel_rfl) rfl #[.slice A0 l0.length c0] rfl (by (try simp only [List.map_toArray, List.map_cons, List.map_nil]); first | done | rfl) ?_; (with_reducible refine (toO_live HL8_.out R0.out Y1.out).mono ?_); rintro e w14_ ⟨B10_, c11_, ok12_, rfl, HLn⟩; refine ⟨_, rfl, ?_⟩; have HL13_ := Aside0.mk HLn; clear HLn HL8_) | ((with_reducible refine gate_callee (f := 17) rfl ?_); refine goesL_ (some 32) rfl rfl Try.func17 (by kernel_rfl) rfl #[.slice B10_ y.length c11_, .int .i64 a1, .int .i64 a2] rfl (by (try simp only [List.map_toArray, List.map_cons, List.map_nil]); first | done | rfl) ?_; (with_reducible refine (impl_dr_live HL13_.out (ord_of HL13_.out 0 rfl) G1.out BT.out).mono ?_); rintro e w16_ ⟨rfl, HLn⟩; refine ⟨_, rfl, ?_⟩; have HL15_ := Aside0.mk HLn; clear HLn HL13_) | ((with_reducible refine gate_callee (f := 16) rfl ?_); refine goesL_ (some 45) rfl rfl Try.func16 (by kernel_rfl) rfl #[.slice A0 l0.length c0] rfl (by (try simp only [List.map_toArray, List.map_cons, List.map_nil]); first | done | rfl) ?_; (with_reducible refine (toO_live HL15_.out R0.out Y1.out).mono ?_); rintro e w21_ ⟨B17_, c18_, ok19_, rfl, HLn⟩; refine ⟨_, rfl, ?_⟩; have HL20_ := Aside0.mk HLn; clear HLn HL15_) | ((with_reducible refine gate_callee (f := 18) rfl ?_); refine goesL_ (some 46) rfl rfl Try.func18 (by kernel_rfl) rfl #[.slice B10_ y.length c11_, .slice B17_ y.length c18_] rfl (by (try simp only [List.map_toArray, List.map_cons, List.map_nil]); first | done | rfl) ?_; (with_reducible refine (eqO_live HL20_.out (ord_of HL20_.out 1 rfl) (ord_of HL20_.out 0 rfl) G1.out G2.out).mono ?_); rintro e w23_ ⟨rfl, HLn⟩; refine ⟨_, rfl, ?_⟩; have HL22_ := Aside0.mk HLn; clear HLn HL20_))
  go_ret
  exact ⟨rfl, HL22_.out.below⟩

end Go.Proofs.Ytdgpplnfkifkgaa.PFnExactDropOffer
