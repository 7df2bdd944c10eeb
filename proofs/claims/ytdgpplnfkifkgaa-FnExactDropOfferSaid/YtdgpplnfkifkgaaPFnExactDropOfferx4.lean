/- Contracts of the Go functions that the law FnExactDropOffer reaches, printed by a program of this session over the kit's print: each call comes to what the Lean function beside it says. Conditions: those that each theorem names. -/
import Derived.Test.YtdgpplnfkifkgaaPFnExactDropOfferx0
import Derived.Test.YtdgpplnfkifkgaaPFnExactDropOfferx3
namespace Go.Proofs.Ytdgpplnfkifkgaa.PFnExactDropOffer
open Go.RowKit Go.Proofs.YtdgpplnfkifkgaaW.PrintWords Go.Proofs.YtdgpplnfkifkgaaW.PrintLast Go.Proofs.YtdgpplnfkifkgaaW.PrintMore
attribute [local go_sem] max2_int min2_int max_two min_two max_three min_three max_four min_four   -- for this text's walks alone
set_option linter.unusedVariables false
set_option linter.unusedSimpArgs false

/-! ### impl_tables: function 41 -/
def impl_tables.f (l0 : List (S59)) (a1 : Int) : Option ((List (List Int))) := if (0 ≤ a1 ∧ a1 ≤ 1000) ∧ l0.length ≤ 1048576 ∧ (∀ x ∈ l0, x.f0.length ≤ 1048576) then some (M.rowsFrom (fun x : S59 => x.f0) (List.replicate (a1 + 1).toNat 0) l0) else none
theorem impl_gain_eq (g : List Int) {c : Nat} (h1 : 1 ≤ c) (h2 : c ≤ g.length) (hl : g.length ≤ 1048576) : impl_Offer_gain.f g (c : Int) = some (M.gainAt g (c : Int)) := by
  unfold impl_Offer_gain.f M.gainAt
  have h0 : ¬ (c : Int) = 0 := by omega
  rw [M.wrap_id (x := (c : Int) - 1) (by omega) (by omega), if_neg h0, if_pos (by omega), if_pos (by omega), if_neg h0]
def impl_tables.T12 : Bool × List (List Nat × List Nat) := (true, [([], []), ([], []), ([], []), ([], []), ([2, 3], [2, 3]), ([4], [4]), ([], []), ([], []), ([6, 7], [6, 7]), ([8], [8]), ([], []), ([], []), ([10, 11], [10, 11]), ([9, 12], [9, 12]), ([13], [13]), ([], []), ([], []), ([15, 16], [15, 16]), ([14, 17], [14, 17]), ([5, 18], [5, 18]), ([0, 1, 0, 1, 2, 3, 4, 5, 6, 7, 8, 9, 10, 11, 12, 13, 14, 15, 16, 17, 18, 19], [0, 1]), ([20, 19, 17, 0, 1, 2, 3, 4, 5, 6, 7, 8, 9, 10, 11, 12, 13, 14, 15, 16, 17, 18, 19], [19, 20])])
def impl_tables.B12 : List Nat := [0, 0, 0, 0, 12, 28, 0, 0, 192, 448, 0, 0, 3072, 8128, 16320, 0, 0, 98304, 262080, 524284, 1048575, 2097151]
theorem impl_tables.tab12 : rtab .any (opsOf Try.f41 12) = impl_tables.T12 := by kernel_rfl
theorem impl_tables.bits12 : waitsOk impl_tables.T12.2 impl_tables.B12 = true := by kernel_rfl
set_option maxHeartbeats 8000000 in
set_option maxRecDepth 100000 in
theorem impl_tables.callsR (A0 : Option Addr) (c0 : Nat) (l0 : List S59) (a1 : Int) (r : List (List Int)) (w : World) (hr0 : Kd.C k59 w A0 l0.length l0) (hc0 : l0.length ≤ c0) (h : impl_tables.f l0 a1 = some r) :
    Calls Try.prog 41 #[.slice A0 l0.length c0, .int .i64 a1] w fun e w' => ∃ v0_ : Value, e = .returned (v0_) ∧ Kd.R (Kd.slice 3 (Kd.int .i64)) 22 w' w.heap.size (fun k_ => (w.heap.size ≤ k_)) v0_ r ∧ Below w.heap.size w w' := by
  unfold impl_tables.f at h
  by_cases hg : (0 ≤ a1 ∧ a1 ≤ 1000) ∧ l0.length ≤ 1048576 ∧ (∀ x ∈ l0, x.f0.length ≤ 1048576)
  case neg => rw [if_neg hg] at h; exact absurd h (by simp)
  rw [if_pos hg] at h
  obtain ⟨⟨ha0, ha1⟩, hl, hx⟩ := hg
  obtain ⟨n1, hn1⟩ : ∃ n : Nat, a1 + 1 = (n : Int) := ⟨(a1 + 1).toNat, by omega⟩
  have e1 : (a1 + 1).toNat = n1 := by omega
  rw [e1] at h
  obtain ⟨Z, hZ⟩ : ∃ Z : List Int, List.replicate n1 0 = Z := ⟨_, rfl⟩
  have hZl : Z.length = n1 := by rw [← hZ, List.length_replicate]
  rw [hZ] at h
  obtain rfl := Option.some.inj h
  clear h
  obtain ⟨RS, hRS⟩ : ∃ RS, M.rowsFrom (fun x : S59 => x.f0) Z l0 = RS := ⟨_, rfl⟩
  rw [hRS]
  have hu59 := Try.underlying59
  have HR0 := Aside0.mk hr0
  have HC0 := Aside0.mk hc0
  have HX := Aside0.mk hx
  have HL0 := Aside0.mk hl
  have EZ := Aside0.mk hZ
  have LZ := Aside0.mk hZl
  have ER := Aside0.mk hRS
  clear hr0 hc0 hx hl hZ hZl hRS
  have HB := Aside0.mk (Below.refl w.heap.size w)
  have hw1 : IntKind.i64.wrap (a1 + 1) = (n1 : Int) := (i64_w _).trans (by rw [M.wrap_id (by omega) (by omega)]; exact hn1)
  have c4b0 : (0 ≤ (n1 : Int)) = True := eq_true (by omega)
  have c4b1 : decide (0 ≤ (n1 : Int)) = true := decide_eq_true (by omega)
  have c5b1 : decide (((n1 : Int)).toNat ≤ 35184372088832) = true := decide_eq_true (by omega)
  have hn2 : Aside0 (1 ≤ n1 ∧ n1 ≤ 1001) := ⟨by omega⟩
  clear hn1 ha0 ha1 e1
  go_enter Try.func41, Try.ntmps41
  go_wp2_with (first | ((with_reducible refine gate_dst (N := 13) rfl ?_); refine Kd.R_make (Kd.int .i64) _ 3 rfl (N := 13) rfl 22 _ _ rfl (n1 : Int) rfl rfl Try.underlying22 (.int .i64 0) 8 info3 rfl (by decide) (by omega) 0 (ok := fun _ => True) (okp := fun _ => True) rfl (fun _ hk => hk) trivial (of_decide_eq_true (by first | (with_reducible assumption) | assumption)) (Nat.le_trans (Nat.mul_le_mul_right _ (of_decide_eq_true (by first | (with_reducible assumption) | assumption) : ((n1 : Int)).toNat ≤ 35184372088832)) (by omega)) (Below.refl _ _) (Nat.le_refl _) ?_; intro v174 w6 ho7 hb hg_ hnew_; clear hg_ hnew_; rw [Int.toNat_natCast, EZ.out] at ho7; have n0_ := Aside0.mk (Kd.R_lower (Kd.R_newM (M := fun k_ => (w.heap.size ≤ k_)) ho7 (below_size (by repeat (first | (with_reducible first | exact HB.out | apply below_alloc | apply pw_below_drewN | apply below_drew1) | exact HB.out))) (fun k_ h_ => h_)) (below_size (by repeat (first | (with_reducible first | exact HB.out | apply below_alloc | apply pw_below_drewN | apply below_drew1) | exact HB.out)))); have n1_ := Aside0.mk (below_step (by repeat (first | (with_reducible first | exact HB.out | apply below_alloc | apply pw_below_drewN | apply below_drew1) | exact HB.out)) hb); clear HB; have HO175 := n0_; have HB := n1_; clear n0_ n1_; clear hb ho7; obtain ⟨Ao8, co8, eo8⟩ := Kd.R_slice HO175.out; subst eo8) | ((with_reducible refine gate_dst (N := 14) rfl ?_); refine Kd.R_lit (Kd.slice 3 (Kd.int .i64)) (w0 := w) w.heap.size 22 ?hg (N := 14) ?hd (xs := ([Z] : List (List Int))) (inner := [.slice Ao8 Z.length co8]) (ok := (fun k_ => (w.heap.size ≤ k_))) (okp := (fun k_ => (w.heap.size ≤ k_))) ?hr ?hp (fun _ hk => hk) (below_size HB.out) HB.out (below_size HB.out) (by simp) ?_; (case hd => rfl); (case hg => rfl); (case hr => first | (go_simp; done) | (go_simp; rfl)); (case hp => exact (Reps.one (show (Kd.slice 3 (Kd.int .i64)).M _ _ (fun k_ => (w.heap.size ≤ k_)) Z [.slice Ao8 Z.length co8] from Kd.M_row (Kd.R_mono HO175.out (fun k_ hk => hk.1))) (Reps.none _ _))); intro v177 w9 ho10 hb hg_ hnew_; clear hg_ hnew_; have n0_ := Aside0.mk ho10; have n1_ := Aside0.mk hb; clear HB; clear HO175; have HO178 := n0_; have HB := n1_; clear n0_ n1_; clear hb ho10))
  go_loopg [5, 17] l0.length (fun gg v5 v17 w' => ∃ (x5 : List (List Int)) (j : Int), v17 = .int .i64 j ∧ Aside0 (0 ≤ j ∧ j ≤ (l0.length : Int) ∧ l0.length - j.toNat ≤ gg) ∧ Aside0 (x5 = RS.take (j.toNat + 1)) ∧ Aside0 (Kd.R (Kd.slice 3 (Kd.int .i64)) 22 w' w.heap.size (fun k_ => (w.heap.size ≤ k_)) v5 x5) ∧ Aside0 (Below w.heap.size w w'))
  case atStart => exact ⟨[Z], 0, rfl, ⟨by omega⟩, ⟨by rw [← ER.out]; exact (M.rowsFrom_zero _ _ _).symm⟩, ⟨by (with_reducible repeat (first | apply Kd.R_alloc | apply Kd.R_drewN | apply Kd.R_drew)); exact HO178.out⟩, ⟨by repeat (first | (with_reducible first | exact HB.out | apply below_alloc | apply pw_below_drewN | apply below_drew1) | exact HB.out)⟩⟩
  case round =>
    clear HB HO178 hw1 c4b0 c4b1 c5b1
    obtain ⟨x5, j, rfl, HI, EX, HO_5, HB⟩ := hrel
    by_cases hlt : j < (l0.length : Int)
    case neg =>
      have c11b0 : decide (j < (l0.length : Int)) = false := decide_eq_false hlt
      have hlen : Aside0 (x5 = RS) := ⟨by have h1 := EX.out; have h2 := HI.out; have h3 : j.toNat = l0.length := by omega
                                          rw [h1, ← ER.out, h3]; exact M.rowsFrom_whole _ _ _⟩
      clear hlt
      go_wp2
      go_ret
      exact ⟨_, rfl, by (with_reducible repeat (first | apply Kd.R_alloc | apply Kd.R_drewN | apply Kd.R_drew)); exact hlen.out ▸ HO_5.out, by repeat (first | (with_reducible first | exact HB.out | apply below_alloc | apply pw_below_drewN | apply below_drew1) | exact HB.out)⟩
    have p1 : 0 ≤ j := HI.out.1
    have q1 : j < (l0.length : Int) := hlt
    have c11b0 : decide (j < (l0.length : Int)) = true := decide_eq_true hlt
    obtain ⟨adl, Ag, cg, eA, hxl, hlg, hig⟩ := at_T59 HR0.out j p1 q1
    cases eA
    replace hxl := (HB.out.cell (World.block_lt_of_cell? w _ hxl)).trans hxl
    have HGL : Aside0 ((rd_T59 l0 j).f0.length ≤ 1048576) := ⟨HX.out _ (by unfold rd_T59; rw [List.getD_eq_getElem?_getD, List.getElem?_eq_getElem (show j.toNat < l0.length by omega)]; exact List.getElem_mem _)⟩
    have HG1 : Aside0 (l0.getD j.toNat z59 = rd_T59 l0 j) := ⟨rfl⟩
    generalize rd_T59 l0 j = og at hxl hlg hig HGL HG1
    have HLG := Aside0.mk hlg
    have HIG := Aside0.mk hig
    clear hlg hig
    have hx5 : x5.length = j.toNat + 1 := by rw [EX.out, ← ER.out, List.length_take, M.rowsFrom_length]; omega
    have hrl : (rd_L1 x5 j).length = n1 := by
      unfold rd_L1
      rw [EX.out, ← ER.out, M.rowsFrom_got _ _ _ (by omega)]
      exact M.rowsFrom_at _ _ _ LZ.out (by omega)
    have ERow : Aside0 ((RS.getD j.toNat []) = rd_L1 x5 j) := ⟨by unfold rd_L1; rw [EX.out, ← ER.out]; exact (M.rowsFrom_got _ _ _ (by omega)).symm⟩
    have q2 : j < (x5.length : Int) := by omega
    obtain ⟨go, co5, e5, hgo1, hgo2, hgo3⟩ := Kd.R_form HO_5.out (by omega)
    subst e5
    clear hgo1 hgo2 hgo3
    have HX5 := Aside0.mk hx5
    have HRL := Aside0.mk hrl
    clear hx5 hrl
    have c14b0 : decide (j < (x5.length : Int)) = true := decide_eq_true q2
    obtain ⟨row, erow⟩ : ∃ row : List Int, rd_L1 x5 j = row := ⟨_, rfl⟩
    rw [erow] at HRL ERow
    have EROW := Aside0.mk erow
    clear erow
    clear hlt
    have P1 := Aside0.mk p1
    have Q1 := Aside0.mk q1
    have Q2 := Aside0.mk q2
    replace p1 := eq_true p1
    replace q1 := eq_true q1
    replace q2 := eq_true q2
    go_wp2_with (first | ((with_reducible refine gate_dst (N := 7) rfl ?_); refine box_event ?hg (N := 7) ?hd (cs := #[.slice none 0 0]) (t := 59) ?hr ?_; (case hd => rfl); (case hg => rfl); (case hr => first | (go_simp; done) | (go_simp; rfl)); intro gb hg wb hbox hb; have n0_ := Aside0.mk (Kd.R_below (Kd.R_elderB (by (with_reducible repeat (first | apply Kd.R_alloc | apply Kd.R_drewN | apply Kd.R_drew)); exact HO_5.out) gb (Nat.le_of_eq hg.symm)) hb); have n1_ := Aside0.mk (below_step (by repeat (first | (with_reducible first | exact HB.out | apply below_alloc | apply pw_below_drewN | apply below_drew1) | exact HB.out)) hb); have BK := Aside0.mk hbox; have GE := Aside0.mk ((by rw [hg]; exact (below_size (by repeat (first | (with_reducible first | exact HB.out | apply below_alloc | apply pw_below_drewN | apply below_drew1) | exact HB.out))) : w.heap.size ≤ gb)); clear HO_5 HB; have HO_5 := n0_; have HB := n1_; clear n0_ n1_; clear hb hbox hg; have hcz : wb.cell? ⟨gb, 0, none⟩ = some (.slice none 0 0) := (blk_cell BK.out 0).trans rfl; have hfz := blk_frozen BK.out 0) | ((with_reducible refine gate_store (t := 59) (p := 7) rfl ?_); refine store_event (t := 59) (p := 7) (v := ?vo_b) (w1 := (wb.setCell ⟨gb, 0, none⟩ (.slice Ag og.f0.length cg))) ?hg ?ho ?hn ?hr ?_; (case ho => rfl); (case hg => rfl); (case hn => rfl); (case hr => first | (go_simp; done) | (go_simp; rfl)); intro ws hw; have n0_ : Aside0 (Kd.R (Kd.slice 3 (Kd.int .i64)) 22 ws w.heap.size (fun k_ => (w.heap.size ≤ k_) ∧ k_ ≠ gb) (.slice (some ⟨go, 0, none⟩) x5.length co5) x5) := ⟨(by rw [hw]; exact Kd.R_far (p := ⟨gb, 0, none⟩) HO_5.out (fun _ hk => hk.2) _)⟩; have n1_ : Aside0 (ws.heap[gb]? = some (.cells #[.slice Ag og.f0.length cg] 59 (0, 0))) := ⟨(by rw [hw]; exact blk_put (cs := #[.slice none 0 0]) BK.out 0 _ rfl)⟩; have n2_ : Aside0 (Below w.heap.size w ws) := ⟨(by rw [hw]; exact below_set HB.out GE.out)⟩; clear hw HO_5 BK HB hcz hfz; have HO_5 := n0_; have BK := n1_; have HB := n2_; clear n0_ n1_ n2_; obtain ⟨ad5, Ar, cr, e5, hx5, hl5, hi5⟩ := at_L1 (Kd.R_reads' HO_5.out).2.2 j P1.out Q2.out; rw [EROW.out] at hx5 hl5 hi5; cases e5; rw [add_plain] at hx5; obtain ⟨ce5, hce5, hMe5, hcc5⟩ := Kd.R_getA HO_5.out [] j P1.out Q2.out; obtain ⟨vv5, rfl, hR5⟩ := hMe5; have hv5 := hcc5 0 _ rfl; rw [Nat.add_zero, show ((Kd.slice 3 (Kd.int .i64))).sz = 1 from rfl, Nat.mul_one, add_plain] at hv5; replace hv5 := Option.some.inj (hv5.symm.trans hx5); subst hv5; rw [show x5.getD j.toNat [] = row from EROW.out] at hR5; have HV := Aside0.mk hR5; clear hR5 hcc5 hce5; have HR5 := Aside0.mk hi5; have HC5 := Aside0.mk hl5; have HH5 := Aside0.mk hx5; clear hi5 hl5) | ((with_reducible refine gate_callee (f := 47) rfl ?_); refine goesL_ (some 26) rfl rfl Try.func47 (by kernel_rfl) rfl #[.slice Ar row.length cr] rfl (by (try simp only [List.map_toArray, List.map_cons, List.map_nil]); first | done | rfl) ?_; (with_reducible refine (slices_Clone_int_int.calls _ _ row row _ ?side1 ?side2 ?side3).mono ?_); (case side1 => exact HR5.out); (case side2 => exact HC5.out); (case side3 => have := HRL.out; have := hn2.out; unfold slices_Clone_int_int.f; simp only [Option.bind_some, List.length_nil, List.nil_append]; rw [if_pos (by omega)]); rintro e wt ⟨vt, rfl, ho0, hb⟩; refine ⟨_, rfl, ?_⟩; obtain ⟨gt, ct, et, hgt1, hgt2, cst, hgt3⟩ := Kd.R_form ho0 (by have := HRL.out; have := hn2.out; omega); subst et; have n0_ := Aside0.mk (Kd.R_elder' HO_5.out (Kd.R_base ho0) hb); have n1_ := Aside0.mk (Kd.R_elder' HV.out (Kd.R_base ho0) hb); have n2_ := Aside0.mk (Kd.R_tight rfl (Kd.R_lower ho0 (below_size HB.out))); have n3_ := Aside0.mk (blk_below BK.out hb); have n5_ := Aside0.mk (below_step HB.out hb); have n6_ := Aside0.mk ((hb.cell (World.block_lt_of_cell? ws _ HH5.out)).trans HH5.out); have GT : Aside0 (w.heap.size ≤ gt) := ⟨Nat.le_trans (below_size HB.out) hgt1⟩; have BT := Aside0.mk hgt3; clear HO_5 HV HR5 BK HB HH5 hx5 hgt1 hgt2 hgt3; have HO_5 := n0_; have HV := n1_; have HT := n2_; have BK := n3_; have HB := n5_; have HH5 := n6_; clear n0_ n1_ n2_ n3_ n5_ n6_ hb ho0))
    have KB : Aside0 (∀ W, Kept wt W (fun k_ => k_ = gt) → W.cell? ⟨gb, 0, none⟩ = some (.slice Ag og.f0.length cg)) := ⟨fun W hk => (blk_cell (blk_kept BK.out hk (fun e => by subst e; exact absurd (BK.out.symm.trans BT.out) (by simp))) 0).trans rfl⟩
    have KH : Aside0 (∀ W, Kept wt W (fun k_ => k_ = gt) → W.cell? ⟨go, j.toNat, none⟩ = some (.slice Ar row.length cr)) := ⟨fun W hk => cell_kept HH5.out hk (fun e => (HO_5.out.1 go rfl).2 (congrArg some e))⟩
    have KR : Aside0 (∀ W, Kept wt W (fun k_ => k_ = gt) → Kd.C (Kd.int .i64) W Ar row.length row) := ⟨Kd.C_kept_own HV.out (fun k hk e => hk.2 (congrArg some e))⟩
    have KG : Aside0 (∀ W, Kept wt W (fun k_ => k_ = gt) → Kd.C (Kd.int .i64) W Ag og.f0.length og.f0) := ⟨Kd.C_kept_came (Kd.heap_int .i64) HIG.out HB.out (fun k e => by rw [e]; exact GT.out)⟩
    have HK := Aside0.mk (Kept.refl wt (fun k_ => k_ = gt))
    have HNL : Aside0 ((M.nextRow row og.f0).length = row.length) := ⟨M.nextRow_length _ _⟩
    have HT2 : Aside0 (Kd.R (Kd.int .i64) 3 wt w.heap.size (fun k_ => some k_ = (Value.slice (some ⟨gt, 0, none⟩) row.length ct).ownBlock) (.slice (some ⟨gt, 0, none⟩) row.length ct) (M.part (M.nextRow row og.f0) row 0)) := ⟨by rw [M.part_zero]; exact HT.out⟩
    go_loopg [29] n1 (fun gg v29 w' => ∃ p : Int, v29 = .int .i64 p ∧ Aside0 (0 ≤ p ∧ p ≤ (n1 : Int) ∧ n1 - p.toNat ≤ gg) ∧ Aside0 (Kd.R (Kd.int .i64) 3 w' w.heap.size (fun k_ => some k_ = (Value.slice (some ⟨gt, 0, none⟩) row.length ct).ownBlock) (.slice (some ⟨gt, 0, none⟩) row.length ct) (M.part (M.nextRow row og.f0) row p.toNat)) ∧ Aside0 (Kept wt w' (fun k_ => k_ = gt)) ∧ Aside0 (Below w.heap.size w w'))
    case atStart => exact ⟨0, rfl, ⟨by omega⟩, ⟨by (with_reducible repeat (first | apply Kd.R_alloc | apply Kd.R_drewN | apply Kd.R_drew)); exact HT2.out⟩, ⟨(by repeat (first | (with_reducible first | exact HK.out | apply Kept.alloc | apply Kept.drewN | apply Kept.drew) | exact HK.out))⟩, ⟨(by repeat (first | (with_reducible first | exact HB.out | apply below_alloc | apply pw_below_drewN | apply below_drew1) | exact HB.out))⟩⟩
    case round =>
      clear HT HT2 HK HB hxl c11b0 c14b0
      obtain ⟨p, rfl, HP, HT, HK, HB⟩ := hrel
      by_cases hp : p < (n1 : Int)
      case neg =>
        have cp : decide (p < (row.length : Int)) = false := decide_eq_false (by have := HRL.out; omega)
        have n0_ : Aside0 (Kd.R (Kd.int .i64) 3 wr w.heap.size (fun k_ => some k_ = (Value.slice (some ⟨gt, 0, none⟩) row.length ct).ownBlock) (.slice (some ⟨gt, 0, none⟩) row.length ct) (M.nextRow row og.f0)) := ⟨by have h := HT.out; have h2 := HP.out; have h3 : p.toNat = row.length := (by have := HRL.out; omega); rw [h3, M.part_all HNL.out] at h; exact h⟩
        have n1_ := Aside0.mk (Kd.R_mono (Kd.R_kept HO_5.out HK.out (fun k hk e => hk.2 (congrArg some e))) (fun k hk => (hk.1.1 : w.heap.size ≤ k)))
        have NE : Aside0 (go ≠ gt) := ⟨fun e => (HO_5.out.1 go rfl).2 (congrArg some e)⟩
        clear HT HO_5 hp
        have HT := n0_
        have HO_5 := n1_
        clear n0_ n1_
        have hwj : Aside0 (wrap64 (j + 1) = j + 1) := ⟨M.wrap_id (by have := P1.out; omega) (by have := Q1.out; have := HL0.out; omega)⟩
        go_wp2_with (first | ((with_reducible refine gate_builtin (b := .append) (xs := #[.tmp 63, .tmp 65]) rfl ?_); at_builtin; refine Kd.R_append (Kd.slice 3 (Kd.int .i64)) (w0 := w) w.heap.size rfl (.tmp 63) (.tmp 65) 57 22 (.slice none 0 0) 24 rfl Try.underlying57 info22 rfl (by decide) (by omega) (.slice (some ⟨go, 0, none⟩) x5.length co5) x5 (M.nextRow row og.f0) [.slice (some ⟨gt, 0, none⟩) row.length ct] (fun k_ => (w.heap.size ≤ k_)) (fun k_ => ((fun k_ => (w.heap.size ≤ k_)) k_ ∧ some k_ ≠ (.slice (some ⟨go, 0, none⟩) x5.length co5 : Value).ownBlock)) rfl rfl ?aP (fun _ hk => hk) ?aF ?aO ?aB ?aS ?aL ?_; (case aP => exact Kd.M_row (Kd.R_mono HT.out (fun k hk => by (injection hk with hk; subst hk; exact ⟨GT.out, fun e => (by injection e with e; exact NE.out e.symm)⟩)))); (case aB => exact (by repeat (first | (with_reducible first | exact HB.out | apply below_alloc | apply pw_below_drewN | apply below_drew1) | exact HB.out))); (case aF => exact (fun k_ hk => Nat.le_trans (below_size (by repeat (first | (with_reducible first | exact HB.out | apply below_alloc | apply pw_below_drewN | apply below_drew1) | exact HB.out))) hk)); (case aO => exact (by (with_reducible repeat (first | apply Kd.R_alloc | apply Kd.R_drewN | apply Kd.R_drew)); exact HO_5.out)); (case aS => exact (below_size (by repeat (first | (with_reducible first | exact HB.out | apply below_alloc | apply pw_below_drewN | apply below_drew1) | exact HB.out)))); (case aL => have := HX5.out; have := HL0.out; have := Q1.out; omega); intro v187 w22 ho hb hg hat; have n2_ := Aside0.mk hb; have n3_ := Aside0.mk ho; clear HB HO_5 HT HK; have HB := n2_; have HO_5 := n3_; clear n2_ n3_ ho hb hg hat))
        go_roundg (l0.length - (j + 1).toNat)
        case measure => have := HI.out; have := Q1.out; omega
        case rel =>
          exact ⟨x5 ++ [M.nextRow row og.f0], wrap64 (j + 1), (by first | rfl | (simp; done)), ⟨by rw [hwj.out]; have := HI.out; have := Q1.out; omega⟩, ⟨by
            rw [hwj.out, show (j + 1).toNat + 1 = j.toNat + 2 by have := P1.out; omega, ← ER.out, M.rowsFrom_step _ z59 _ _ _ (by have := P1.out; have := Q1.out; omega), ER.out, ERow.out, HG1.out, ← EX.out]⟩, ⟨by (with_reducible repeat (first | apply Kd.R_alloc | apply Kd.R_drewN | apply Kd.R_drew)); exact HO_5.out⟩, ⟨(by repeat (first | (with_reducible first | exact HB.out | apply below_alloc | apply pw_below_drewN | apply below_drew1) | exact HB.out))⟩⟩
      have cp : decide (p < (row.length : Int)) = true := decide_eq_true (by have := HRL.out; omega)
      obtain ⟨K, hK0⟩ : ∃ K : Nat, min p.toNat og.f0.length = K := ⟨_, rfl⟩
      have EK := Aside0.mk hK0
      have EP : Aside0 ((p.toNat : Int) = p ∧ p.toNat < row.length) := ⟨by have := HP.out; have := HRL.out; omega⟩
      clear hK0 hp
      go_wp2
      obtain ⟨wo, rfl⟩ : ∃ wo : World, wo = wr := ⟨_, rfl⟩
      go_loopg [10] (K + 1) (fun gg v10 w' => ∃ c b : Int, v10 = .int .i64 c ∧ Aside0 (1 ≤ c ∧ c ≤ (K : Int) + 1 ∧ K + 1 - c.toNat ≤ gg) ∧ Aside0 (M.bestN row og.f0 p.toNat (K + 1 - c.toNat) c.toNat b = M.bestAt row og.f0 p.toNat) ∧ Aside0 (Kd.R (Kd.int .i64) 3 w' w.heap.size (fun k_ => some k_ = (Value.slice (some ⟨gt, 0, none⟩) row.length ct).ownBlock) (.slice (some ⟨gt, 0, none⟩) row.length ct) ((M.part (M.nextRow row og.f0) row p.toNat).set p.toNat b)) ∧ Aside0 (Kept wt w' (fun k_ => k_ = gt)) ∧ Aside0 (Below w.heap.size w w'))
      case atStart =>
        have h1 : p.toNat < (M.part (M.nextRow row og.f0) row p.toNat).length := by rw [M.part_len HNL.out]; exact EP.out.2
        have h2 := M.part_rd HNL.out EP.out.2
        have h3 := M.set_rd h1
        rw [h2, EP.out.1] at h3
        exact ⟨1, rd row p, rfl, ⟨by omega⟩, ⟨by rw [← EK.out]; unfold M.bestAt; rw [EP.out.1]; rfl⟩, ⟨by (with_reducible repeat (first | apply Kd.R_alloc | apply Kd.R_drewN | apply Kd.R_drew)); rw [h3]; exact HT.out⟩, ⟨(by repeat (first | (with_reducible first | exact HK.out | apply Kept.alloc | apply Kept.drewN | apply Kept.drew) | exact HK.out))⟩, ⟨(by repeat (first | (with_reducible first | exact HB.out | apply below_alloc | apply pw_below_drewN | apply below_drew1) | exact HB.out))⟩⟩
      case round =>
        clear HT HK HB
        obtain ⟨c, b, rfl, HC, HBN, HT, HK, HB⟩ := hrel
        have hmin : (if (og.f0.length : Int) < p then (og.f0.length : Int) else p) = (K : Int) := by
          have h := M.min_int p.toNat og.f0.length
          rw [EP.out.1, EK.out] at h
          exact h
        have hb0 := KB.out wr HK.out
        by_cases hc : c ≤ (K : Int)
        case neg =>
          have ck : decide (c ≤ (K : Int)) = false := decide_eq_false hc
          have n0_ : Aside0 (Kd.R (Kd.int .i64) 3 wr w.heap.size (fun k_ => some k_ = (Value.slice (some ⟨gt, 0, none⟩) row.length ct).ownBlock) (.slice (some ⟨gt, 0, none⟩) row.length ct) (M.part (M.nextRow row og.f0) row (p.toNat + 1))) := ⟨by
            have h := HT.out
            have h1 := HBN.out
            rw [show K + 1 - c.toNat = 0 by have := HC.out; omega, M.bestN_zero] at h1
            rw [h1, ← M.nextRow_rd row og.f0 EP.out.2, M.part_step HNL.out EP.out.2] at h
            exact h⟩
          clear HT hc
          have HT := n0_
          clear n0_
          have hwp : Aside0 (wrap64 (p + 1) = p + 1) := ⟨M.wrap_id (by have := HP.out; omega) (by have := HP.out; have := hn2.out; omega)⟩
          go_wp2
          go_roundg (n1 - (p + 1).toNat)
          case measure => have := HP.out; have := EP.out; have := HRL.out; omega
          case rel => exact ⟨wrap64 (p + 1), (by first | rfl | (simp; done)), ⟨by rw [hwp.out]; have := HP.out; have := EP.out; have := HRL.out; omega⟩, ⟨by rw [hwp.out, show (p + 1).toNat = p.toNat + 1 by have := HP.out; omega]; (with_reducible repeat (first | apply Kd.R_alloc | apply Kd.R_drewN | apply Kd.R_drew)); exact HT.out⟩, ⟨(by repeat (first | (with_reducible first | exact HK.out | apply Kept.alloc | apply Kept.drewN | apply Kept.drew) | exact HK.out))⟩, ⟨(by repeat (first | (with_reducible first | exact HB.out | apply below_alloc | apply pw_below_drewN | apply below_drew1) | exact HB.out))⟩⟩
        have ck : decide (c ≤ (K : Int)) = true := decide_eq_true hc
        have HCK : Aside0 (c ≤ (K : Int) ∧ c ≤ p ∧ c.toNat ≤ og.f0.length ∧ (c.toNat : Int) = c) := ⟨by have := EK.out; have := HC.out; omega⟩
        clear hc
        obtain ⟨d, hd⟩ : ∃ d : Int, p - c = d := ⟨_, rfl⟩
        have hwd : IntKind.i64.wrap (p - c) = d := (i64_w _).trans (by rw [M.wrap_id (by have := HC.out; have := HCK.out; omega) (by have := HC.out; have := HP.out; have := hn2.out; omega)]; exact hd)
        have ED := Aside0.mk hd
        clear hd
        have pd0 : 0 ≤ d := by have := ED.out; have := HCK.out; omega
        have qd0 : d < (row.length : Int) := by have := ED.out; have := HC.out; have := EP.out; omega
        obtain ⟨adr, er, hxr⟩ := Kd.at_int (KR.out wr HK.out) d pd0 qd0
        subst er
        have KE : Aside0 (∀ W, Kept wt W (fun k_ => k_ = gt) → W.cell? (adr.add d.toNat) = some (.int .i64 (rd row d))) := ⟨fun W hk => by
          obtain ⟨ad', e', hx'⟩ := Kd.at_int (KR.out W hk) d pd0 qd0
          cases e'
          exact hx'⟩
        have KT : Aside0 (∀ W ok x, Kd.R (Kd.int .i64) 3 W w.heap.size ok (.slice (some ⟨gt, 0, none⟩) row.length ct) ((M.part (M.nextRow row og.f0) row p.toNat).set p.toNat x) → W.cell? ⟨gt, p.toNat, none⟩ = some (.int .i64 x) ∧ W.frozen? ⟨gt, p.toNat, none⟩ = false) := ⟨fun W ok x h => by
          have h1 := Kd.R_celln 0 h p HP.out.1 (by have := EP.out; omega)
          have h2 : rdOf 0 ((M.part (M.nextRow row og.f0) row p.toNat).set p.toNat x) p = x := by
            have h3 := M.rd_set (l := M.part (M.nextRow row og.f0) row p.toNat) (p := p.toNat) (by rw [M.part_len HNL.out]; exact EP.out.2) x
            rw [EP.out.1] at h3
            exact h3
          rw [h2] at h1
          exact h1⟩
        clear hxr
        have pd := eq_true pd0
        have qd := eq_true qd0
        have pp : (0 ≤ p) = True := eq_true HP.out.1
        have qp : (p < (row.length : Int)) = True := eq_true (by have := EP.out; omega)
        clear pd0 qd0
        obtain ⟨nb, hnb⟩ : ∃ nb : Int, (if b < wrap64 (rd row d + M.gainAt og.f0 c) then wrap64 (rd row d + M.gainAt og.f0 c) else b) = nb := ⟨_, rfl⟩
        have ENB := Aside0.mk hnb
        go_wp2
        refine start_ (n := 22) (S := fun w' => w'.cell? ⟨gt, p.toNat, none⟩ = some (.int .i64 b) ∧ w'.cell? ⟨go, j.toNat, none⟩ = some (.slice (some adr) row.length cr) ∧ w'.cell? (adr.add d.toNat) = some (.int .i64 (rd row d)) ∧ w'.cell? ⟨gb, 0, none⟩ = some (.slice Ag og.f0.length cg)) (ds := [21]) #[false, false, false, false, false, false, false, false, false, false, false, false, false, false, false, false, false, false, false, false, false, false] (by kernel_rfl) rfl rfl ⟨(KT.out _ _ _ (Kd.R_drew HT.out)).1, KH.out _ HK.out.drew, KE.out _ HK.out.drew, KB.out _ HK.out.drew⟩ (fun hHeld => ?_); refine with_tabW impl_tables.tab12 impl_tables.bits12 (fun HT_ HW_ => ?_)
        have n0_ := Aside0.mk (Kd.R_drew HT.out)
        have n1_ := Aside0.mk HK.out.drew
        have n2_ := Aside0.mk (below_drew1 HB.out)
        clear HT HK HB hb0
        have HT := n0_
        have HK := n1_
        have HB := n2_
        clear n0_ n1_ n2_
        generalize wr.drew = wd at HT HK HB hHeld ⊢
        refine take_ (i := 0) (N := some 41) (v := ?_) (a' := ?_) #[true, false, false, false, false, false, false, false, false, false, false, false, false, false, false, false, false, false, false, false, false, false] rfl rfl (take_ofW HT_.out HW_.out (by kernel_rfl)) (fun _ _ _ h => h) (Or.inl ⟨by rfl, ?_⟩) hHeld ?_ ?_
        rotate_left
        · rintro w' ⟨s0, s1, s2, s3⟩
          go_simp
          with_reducible rfl
        rotate_left
        · simp only [Act.put, List.setIfInBounds_toArray, List.set_cons_zero, List.set_cons_succ, i64_w, i32_w]
          rfl
        refine take_ (i := 1) (N := some 42) (v := ?_) (a' := ?_) #[true, true, false, false, false, false, false, false, false, false, false, false, false, false, false, false, false, false, false, false, false, false] rfl rfl (take_ofW HT_.out HW_.out (by kernel_rfl)) (fun _ _ _ h => h) (Or.inl ⟨by rfl, ?_⟩) hHeld ?_ ?_
        rotate_left
        · rintro w' ⟨s0, s1, s2, s3⟩
          go_simp
          with_reducible rfl
        rotate_left
        · simp only [Act.put, List.setIfInBounds_toArray, List.set_cons_zero, List.set_cons_succ, i64_w, i32_w]
          rfl
        refine take_ (i := 2) (N := some 43) (v := ?_) (a' := ?_) #[true, true, true, false, false, false, false, false, false, false, false, false, false, false, false, false, false, false, false, false, false, false] rfl rfl (take_ofW HT_.out HW_.out (by kernel_rfl)) (fun _ _ _ h => h) (Or.inl ⟨by rfl, ?_⟩) hHeld ?_ ?_
        rotate_left
        · rintro w' ⟨s0, s1, s2, s3⟩
          go_simp
          with_reducible rfl
        rotate_left
        · simp only [Act.put, List.setIfInBounds_toArray, List.set_cons_zero, List.set_cons_succ, i64_w, i32_w]
          rfl
        refine take_ (i := 3) (N := some 44) (v := ?_) (a' := ?_) #[true, true, true, true, false, false, false, false, false, false, false, false, false, false, false, false, false, false, false, false, false, false] rfl rfl (take_ofW HT_.out HW_.out (by kernel_rfl)) (fun _ _ _ h => h) (Or.inl ⟨by rfl, ?_⟩) hHeld ?_ ?_
        rotate_left
        · rintro w' ⟨s0, s1, s2, s3⟩
          go_simp
          with_reducible rfl
        rotate_left
        · simp only [Act.put, List.setIfInBounds_toArray, List.set_cons_zero, List.set_cons_succ, i64_w, i32_w]
          rfl
        refine take_ (i := 4) (N := some 45) (v := ?_) (a' := ?_) #[true, true, true, true, true, false, false, false, false, false, false, false, false, false, false, false, false, false, false, false, false, false] rfl rfl (take_ofW HT_.out HW_.out (by kernel_rfl)) (fun _ _ _ h => h) (Or.inl ⟨by rfl, ?_⟩) hHeld ?_ ?_
        rotate_left
        · rintro w' ⟨s0, s1, s2, s3⟩
          go_simp
          with_reducible rfl
        rotate_left
        · simp only [Act.put, List.setIfInBounds_toArray, List.set_cons_zero, List.set_cons_succ, i64_w, i32_w]
          rfl
        refine take_ (i := 5) (N := some 46) (v := ?_) (a' := ?_) #[true, true, true, true, true, true, false, false, false, false, false, false, false, false, false, false, false, false, false, false, false, false] rfl rfl (take_ofW HT_.out HW_.out (by kernel_rfl)) (fun _ _ _ h => h) (Or.inl ⟨by rfl, ?_⟩) hHeld ?_ ?_
        rotate_left
        · rintro w' ⟨s0, s1, s2, s3⟩
          go_simp
          with_reducible rfl
        rotate_left
        · simp only [Act.put, List.setIfInBounds_toArray, List.set_cons_zero, List.set_cons_succ, i64_w, i32_w]
          rfl
        refine take_ (i := 6) (N := some 47) (v := ?_) (a' := ?_) #[true, true, true, true, true, true, true, false, false, false, false, false, false, false, false, false, false, false, false, false, false, false] rfl rfl (take_ofW HT_.out HW_.out (by kernel_rfl)) (fun _ _ _ h => h) (Or.inl ⟨by rfl, ?_⟩) hHeld ?_ ?_
        rotate_left
        · rintro w' ⟨s0, s1, s2, s3⟩
          go_simp
          with_reducible rfl
        rotate_left
        · simp only [Act.put, List.setIfInBounds_toArray, List.set_cons_zero, List.set_cons_succ, i64_w, i32_w]
          rfl
        refine take_ (i := 7) (N := some 48) (v := ?_) (a' := ?_) #[true, true, true, true, true, true, true, true, false, false, false, false, false, false, false, false, false, false, false, false, false, false] rfl rfl (take_ofW HT_.out HW_.out (by kernel_rfl)) (fun _ _ _ h => h) (Or.inl ⟨by rfl, ?_⟩) hHeld ?_ ?_
        rotate_left
        · rintro w' ⟨s0, s1, s2, s3⟩
          go_simp
          with_reducible rfl
        rotate_left
        · simp only [Act.put, List.setIfInBounds_toArray, List.set_cons_zero, List.set_cons_succ, i64_w, i32_w]
          rfl
        refine take_ (i := 8) (N := some 49) (v := ?_) (a' := ?_) #[true, true, true, true, true, true, true, true, true, false, false, false, false, false, false, false, false, false, false, false, false, false] rfl rfl (take_ofW HT_.out HW_.out (by kernel_rfl)) (fun _ _ _ h => h) (Or.inl ⟨by rfl, ?_⟩) hHeld ?_ ?_
        rotate_left
        · rintro w' ⟨s0, s1, s2, s3⟩
          go_simp
          with_reducible rfl
        rotate_left
        · simp only [Act.put, List.setIfInBounds_toArray, List.set_cons_zero, List.set_cons_succ, i64_w, i32_w]
          rfl
        refine take_ (i := 9) (N := some 50) (v := ?_) (a' := ?_) #[true, true, true, true, true, true, true, true, true, true, false, false, false, false, false, false, false, false, false, false, false, false] rfl rfl (take_ofW HT_.out HW_.out (by kernel_rfl)) (fun _ _ _ h => h) (Or.inl ⟨by rfl, ?_⟩) hHeld ?_ ?_
        rotate_left
        · rintro w' ⟨s0, s1, s2, s3⟩
          go_simp
          with_reducible rfl
        rotate_left
        · simp only [Act.put, List.setIfInBounds_toArray, List.set_cons_zero, List.set_cons_succ, i64_w, i32_w]
          rfl
        refine take_ (i := 10) (N := some 51) (v := ?_) (a' := ?_) #[true, true, true, true, true, true, true, true, true, true, true, false, false, false, false, false, false, false, false, false, false, false] rfl rfl (take_ofW HT_.out HW_.out (by kernel_rfl)) (fun _ _ _ h => h) (Or.inl ⟨by rfl, ?_⟩) hHeld ?_ ?_
        rotate_left
        · rintro w' ⟨s0, s1, s2, s3⟩
          go_simp
          with_reducible rfl
        rotate_left
        · simp only [Act.put, List.setIfInBounds_toArray, List.set_cons_zero, List.set_cons_succ, i64_w, i32_w]
          rfl
        refine take_ (i := 11) (N := some 52) (v := ?_) (a' := ?_) #[true, true, true, true, true, true, true, true, true, true, true, true, false, false, false, false, false, false, false, false, false, false] rfl rfl (take_ofW HT_.out HW_.out (by kernel_rfl)) (fun _ _ _ h => h) (Or.inl ⟨by rfl, ?_⟩) hHeld ?_ ?_
        rotate_left
        · rintro w' ⟨s0, s1, s2, s3⟩
          go_simp
          with_reducible rfl
        rotate_left
        · simp only [Act.put, List.setIfInBounds_toArray, List.set_cons_zero, List.set_cons_succ, i64_w, i32_w]
          rfl
        refine take_ (i := 12) (N := some 53) (v := ?_) (a' := ?_) #[true, true, true, true, true, true, true, true, true, true, true, true, true, false, false, false, false, false, false, false, false, false] rfl rfl (take_ofW HT_.out HW_.out (by kernel_rfl)) (fun _ _ _ h => h) (Or.inl ⟨by rfl, ?_⟩) hHeld ?_ ?_
        rotate_left
        · rintro w' ⟨s0, s1, s2, s3⟩
          go_simp
          with_reducible rfl
        rotate_left
        · simp only [Act.put, List.setIfInBounds_toArray, List.set_cons_zero, List.set_cons_succ, i64_w, i32_w]
          rfl
        refine take_ (i := 13) (N := some 54) (v := ?_) (a' := ?_) #[true, true, true, true, true, true, true, true, true, true, true, true, true, true, false, false, false, false, false, false, false, false] rfl rfl (take_ofW HT_.out HW_.out (by kernel_rfl)) (fun _ _ _ h => h) (Or.inl ⟨by rfl, ?_⟩) hHeld ?_ ?_
        rotate_left
        · rintro w' ⟨s0, s1, s2, s3⟩
          go_simp
          with_reducible rfl
        rotate_left
        · simp only [Act.put, List.setIfInBounds_toArray, List.set_cons_zero, List.set_cons_succ, i64_w, i32_w]
          rfl
        refine take_ (i := 14) (N := some 55) (v := ?_) (a' := ?_) #[true, true, true, true, true, true, true, true, true, true, true, true, true, true, true, false, false, false, false, false, false, false] rfl rfl (take_ofW HT_.out HW_.out (by kernel_rfl)) (fun _ _ _ h => h) (Or.inl ⟨by rfl, ?_⟩) hHeld ?_ ?_
        rotate_left
        · rintro w' ⟨s0, s1, s2, s3⟩
          go_simp
          with_reducible rfl
        rotate_left
        · simp only [Act.put, List.setIfInBounds_toArray, List.set_cons_zero, List.set_cons_succ, i64_w, i32_w]
          rfl
        refine take_ (i := 15) (N := some 56) (v := ?_) (a' := ?_) #[true, true, true, true, true, true, true, true, true, true, true, true, true, true, true, true, false, false, false, false, false, false] rfl rfl (take_ofW HT_.out HW_.out (by kernel_rfl)) (fun _ _ _ h => h) (Or.inl ⟨by rfl, ?_⟩) hHeld ?_ ?_
        rotate_left
        · rintro w' ⟨s0, s1, s2, s3⟩
          go_simp
          with_reducible rfl
        rotate_left
        · simp only [Act.put, List.setIfInBounds_toArray, List.set_cons_zero, List.set_cons_succ, i64_w, i32_w]
          rfl
        refine take_ (i := 16) (N := some 57) (v := ?_) (a' := ?_) #[true, true, true, true, true, true, true, true, true, true, true, true, true, true, true, true, true, false, false, false, false, false] rfl rfl (take_ofW HT_.out HW_.out (by kernel_rfl)) (fun _ _ _ h => h) (Or.inl ⟨by rfl, ?_⟩) hHeld ?_ ?_
        rotate_left
        · rintro w' ⟨s0, s1, s2, s3⟩
          go_simp
          with_reducible rfl
        rotate_left
        · simp only [Act.put, List.setIfInBounds_toArray, List.set_cons_zero, List.set_cons_succ, i64_w, i32_w]
          rfl
        refine one_ (i := 17) (N := some 58) #[true, true, true, true, true, true, true, true, true, true, true, true, true, true, true, true, true, true, false, false, false, false] rfl rfl (one_of HT_.out (by kernel_rfl)) (by decide) (fun K hK => ?_)
        refine goes_ Try.func44 (by kernel_rfl) rfl #[.agg #[.slice Ag og.f0.length cg], .int .i64 c] (by rfl) rfl rfl (by (try simp only [List.map_toArray, List.map_cons, List.map_nil]); first | done | rfl) ?_
        with_reducible refine (impl_Offer_gain.calls _ _ og.f0 c (M.gainAt og.f0 c) _ (KG.out _ HK.out) HLG.out (by have h := impl_gain_eq og.f0 (c := c.toNat) (by have := HC.out; omega) HCK.out.2.2.1 HGL.out; rw [HCK.out.2.2.2] at h; exact h)).mono ?_
        rintro e we ⟨rfl, hb⟩
        refine ⟨_, rfl, ?_⟩
        have n0_ := Aside0.mk (Kd.R_below HT.out hb)
        have n1_ := Aside0.mk (HK.out.below hb)
        have n2_ := Aside0.mk (below_step HB.out hb)
        clear HT HK HB hb
        have HT := n0_
        have HK := n1_
        have HB := n2_
        clear n0_ n1_ n2_
        clear hHeld
        refine hK.out _ _ ⟨(KT.out _ _ _ HT.out).1, KH.out _ HK.out, KE.out _ HK.out, KB.out _ HK.out⟩ (fun hHeld => ?_)
        clear hK K
        refine norm_ (a' := ?_) ?_ ?_
        rotate_left
        · show Act.put _ (some 58) _ = _
          simp only [Act.put, List.setIfInBounds_toArray, List.set_cons_zero, List.set_cons_succ, i64_w, i32_w]
          rfl
        refine pure_ (i := 18) (N := some 59) (v := ?_) (a' := ?_) #[true, true, true, true, true, true, true, true, true, true, true, true, true, true, true, true, true, true, true, false, false, false] rfl rfl (any_of HT_.out (by kernel_rfl)) (fun _ _ _ h => h) (Or.inl ⟨by rfl, ?_⟩) ?_ ?_
        rotate_left
        · intro w'
          go_simp
          with_reducible rfl
        rotate_left
        · simp only [Act.put, List.setIfInBounds_toArray, List.set_cons_zero, List.set_cons_succ, i64_w, i32_w]
          rfl
        refine pure_ (i := 19) (N := some 60) (v := ?_) (a' := ?_) #[true, true, true, true, true, true, true, true, true, true, true, true, true, true, true, true, true, true, true, true, false, false] rfl rfl (any_of HT_.out (by kernel_rfl)) (fun _ _ _ h => h) (Or.inl ⟨by rfl, ?_⟩) ?_ ?_
        rotate_left
        · intro w'
          go_simp
          with_reducible rfl
        rotate_left
        · simp only [Act.put, List.setIfInBounds_toArray, List.set_cons_zero, List.set_cons_succ, i64_w, i32_w]
          rfl
        refine pure_ (i := 20) (N := some 61) (v := ?_) (a' := ?_) #[true, true, true, true, true, true, true, true, true, true, true, true, true, true, true, true, true, true, true, true, true, false] rfl rfl (any_of HT_.out (by kernel_rfl)) (fun _ _ _ h => h) (Or.inl ⟨by rfl, ?_⟩) ?_ ?_
        rotate_left
        · intro w'
          go_simp
          with_reducible rfl
        rotate_left
        · simp only [Act.put, List.setIfInBounds_toArray, List.set_cons_zero, List.set_cons_succ, i64_w, i32_w]
          rfl
        refine last_ (i := 21) (N := none) #[true, true, true, true, true, true, true, true, true, true, true, true, true, true, true, true, true, true, true, true, true, true] rfl rfl (one_of HT_.out (by kernel_rfl)) (by decide) (fun K hK => ?_)
        have hct := (KT.out _ _ _ HT.out).1
        have hft := (KT.out _ _ _ HT.out).2
        refine skip_ (w1 := we.setCell ⟨gt, p.toNat, none⟩ (.int .i64 nb)) (by rfl) rfl ?_ ?_
        · go_simp
        have HPT := Kd.R_putg HT.out p nb
        have n0_ : Aside0 (Kd.R (Kd.int .i64) 3 (we.setCell ⟨gt, p.toNat, none⟩ (.int .i64 nb)) w.heap.size (fun k_ => some k_ = (Value.slice (some ⟨gt, 0, none⟩) row.length ct).ownBlock) (.slice (some ⟨gt, 0, none⟩) row.length ct) ((M.part (M.nextRow row og.f0) row p.toNat).set p.toNat nb)) := ⟨by have h := HPT.1; rw [List.set_set] at h; exact h⟩
        have n1_ := Aside0.mk (HK.out.setCell (p := ⟨gt, p.toNat, none⟩) (Or.inl rfl) (.int .i64 nb))
        have n2_ := Aside0.mk (below_set (j := p.toNat) (v := .int .i64 nb) HB.out GT.out)
        clear HT HK HB hct hft HPT
        have HT := n0_
        have HK := n1_
        have HB := n2_
        clear n0_ n1_ n2_
        refine hK.out _ _ ?_
        clear hK K hHeld
        generalize we.setCell ⟨gt, p.toNat, none⟩ (.int .i64 nb) = wf at HT HK HB ⊢
        refine done_ (done_of HT_.out (by kernel_rfl)) ?_
        clear HT_ HW_
        have hwc : Aside0 (wrap64 (c + 1) = c + 1) := ⟨M.wrap_id (by have := HC.out; omega) (by have := HCK.out; have := HGL.out; omega)⟩
        clear hnb
        go_wp2
        go_roundg (K + 1 - (c + 1).toNat)
        case measure => have := HC.out; have := HCK.out; omega
        case rel =>
          exact ⟨wrap64 (c + 1), nb, (by first | rfl | (simp; done)), ⟨by rw [hwc.out]; have := HC.out; have := HCK.out; omega⟩, ⟨by
            have h := HBN.out
            rw [show K + 1 - c.toNat = (K + 1 - (c + 1).toNat) + 1 by have := HC.out; have := HCK.out; omega, M.bestN_step _ _ _ (by have := HCK.out; omega), HCK.out.2.2.2, EP.out.1, ED.out, ENB.out] at h
            rw [hwc.out, show (c + 1).toNat = c.toNat + 1 by have := HC.out; omega]
            rw [show (c + 1).toNat = c.toNat + 1 by have := HC.out; omega] at h
            exact h⟩, ⟨by (with_reducible repeat (first | apply Kd.R_alloc | apply Kd.R_drewN | apply Kd.R_drew)); exact HT.out⟩, ⟨(by repeat (first | (with_reducible first | exact HK.out | apply Kept.alloc | apply Kept.drewN | apply Kept.drew) | exact HK.out))⟩, ⟨(by repeat (first | (with_reducible first | exact HB.out | apply below_alloc | apply pw_below_drewN | apply below_drew1) | exact HB.out))⟩⟩

set_option maxHeartbeats 8000000 in
set_option maxRecDepth 100000 in
theorem impl_tables.calls (A0 : Option Addr) (c0 : Nat) (l0 : List (S59)) (a1 : Int) (r : List (List Int)) (w : World) (hr0 : Kd.C k59 w A0 l0.length l0) (hc0 : l0.length ≤ c0) (h : impl_tables.f l0 a1 = some r) :
    Calls Try.prog 41 #[.slice A0 l0.length c0, .int .i64 a1] w fun e w' => ∃ v0_ : Value, e = .returned (v0_) ∧ Kd.N (Kd.slice 3 (Kd.int .i64)) 22 w' w.heap.size (fun k_ => (w.heap.size ≤ k_)) v0_ r ∧ Below w.heap.size w w' := by
  exact (impl_tables.callsR A0 c0 l0 a1 r w hr0 hc0 h).mono fun e w' ⟨v, he, hv, hb⟩ => ⟨v, he, Kd.R_N hv, hb⟩


end Go.Proofs.Ytdgpplnfkifkgaa.PFnExactDropOffer
