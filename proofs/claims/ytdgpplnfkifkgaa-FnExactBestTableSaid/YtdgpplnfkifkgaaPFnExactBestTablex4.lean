/- Contracts of the Go functions that the law FnExactBestTable reaches, printed by a program of this session over the kit's print: each call comes to what the Lean function beside it says. Conditions: those that each theorem names. -/
import Derived.Test.YtdgpplnfkifkgaaPFnExactBestTablex0
import Derived.Test.YtdgpplnfkifkgaaPFnExactBestTablex3
namespace Go.Proofs.Ytdgpplnfkifkgaa.PFnExactBestTable
open Go.RowKit Go.Proofs.YtdgpplnfkifkgaaW.PrintWords Go.Proofs.YtdgpplnfkifkgaaW.PrintLast Go.Proofs.YtdgpplnfkifkgaaW.PrintMore
attribute [local go_sem] max2_int min2_int max_two min_two max_three min_three max_four min_four   -- for this text's walks alone
set_option linter.unusedVariables false
set_option linter.unusedSimpArgs false

/-! ### impl_tables: function 41 -/
def impl_tables.f (l0 : List (S59)) (a1 : Int) : Option ((List (List Int))) := if (0 ≤ a1 ∧ a1 ≤ 1000) ∧ l0.length ≤ 1048576 ∧ (∀ x ∈ l0, x.f0.length ≤ 1048576) then some (M.rowsFrom (fun x : S59 => x.f0) (List.replicate (a1 + 1).toNat 0) l0) else none
theorem impl_gain_eq (g : List Int) {c : Nat} (h1 : 1 ≤ c) (h2 : c ≤ g.length) (hl : g.length ≤ 1048576) : impl_Offer_gain.f g (c : Int) = some (M.gainAt g (c : Int)) := by
  unfold impl_Offer_gain.f M.gainAt
  have h0 : ¬ (c : Int) = 0 := by omega
  rw [M.wrap_id (x := (c : Int) - 1) (by omega) (by omega), if_neg h0, if_pos (by omega), if_pos (by omega), if_neg h0]
def impl_tables.T12 : Bool × List (List Nat × List Nat) := (true, [([], []), ([], []), ([], []), ([], []), ([2, 3], [2, 3]), ([4], [4]), ([], []), ([], []), ([6, 7], [6, 7]), ([8], [8]), ([], []), ([], []), ([10, 11], [10, 11]), ([9, 12], [9, 12]), ([13], [13]), ([], []), ([], []), ([15, 16], [15, 16]), ([14, 17], [14, 17]), ([5, 18], [5, 18]), ([0, 1, 0, 1, 2, 3, 4, 5, 6, 7, 8, 9, 10, 11, 12, 13, 14, 15, 16, 17, 18, 19], [0, 1]), ([20, 19, 17, 0, 1, 2, 3, 4, 5, 6, 7, 8, 9, 10, 11, 12, 13, 14, 15, 16, 17, 18, 19], [19, 20])])
def impl_tables.B12 : List Nat := [0, 0, 0, 0, 12, 28, 0, 0, 192, 448, 0, 0, 3072, 8128, 16320, 0, 0, 98304, 262080, 524284, 1048575, 2097151]
theorem impl_tables.tab12 : rtab .any (opsOf Try.f41 12) = impl_tables.T12 := by kernel_rfl
theorem impl_tables.bits12 : waitsOk impl_tables.T12.2 impl_tables.B12 = true := by kernel_rfl
set_option maxHeartbeats 8000000 in
set_option maxRecDepth 100000 in
theorem impl_tables.callsR (A0 : Option Addr) (c0 : Nat) (l0 : List S59) (a1 : Int) (r : List (List Int)) (w : World) (hr0 : Kd.C k59 w A0 l0.length l0) (hc0 : l0.length ≤ c0) (h : impl_tables.f l0 a1 = some r) :
    Calls Try.prog 41 #[.slice A0 l0.length c0, .int .i64 a1] w fun e w' => ∃ v0_ : Value, e = .returned (v0_) ∧ Kd.R (Kd.slice 3 (Kd.int .i64)) 22 w' w.heap.size (fun k_ => (w.heap.size ≤ k_)) v0_ r ∧ Below w.heap.size w w' := by
  unfold impl_tables.f at h
  by_cases hg : (0 ≤ a1 ∧ a1 ≤ 1000) ∧ l0.length ≤ 1048576 ∧ (∀ x ∈ l0, x.f0.length ≤ 1048576)
  case neg => rw [if_neg hg] at h; exact absurd h (by simp)
  rw [if_pos hg] at h
  obtain ⟨⟨ha0, ha1⟩, hl, hx⟩ := hg
  obtain ⟨n1, hn1⟩ : ∃ n : Nat, a1 + 1 = (n : Int) := ⟨(a1 + 1).toNat, by omega⟩
  have e1 : (a1 + 1).toNat = n1 := by omega
  rw [e1] at h
  obtain ⟨Z, hZ⟩ : ∃ Z : List Int, List.replicate n1 0 = Z := ⟨_, rfl⟩
  have hZl : Z.length = n1 := by rw [← hZ, List.length_replicate]
  rw [hZ] at h
  obtain rfl := Option.some.inj h
  clear h
  obtain ⟨RS, hRS⟩ : ∃ RS, M.rowsFrom (fun x : S59 => x.f0) Z l0 = RS := ⟨_, rfl⟩
  rw [hRS]
  have hu59 := Try.underlying59
  have HR0 := Aside0.mk hr0
  have HC0 := Aside0.mk hc0
  have HX := Aside0.mk hx
  have HL0 := Aside0.mk hl
  have EZ := Aside0.mk hZ
  have LZ := Aside0.mk hZl
  have ER := Aside0.mk hRS
  clear hr0 hc0 hx hl hZ hZl hRS
  have HB := Aside0.mk (Below.refl w.heap.size w)
  have hw1 : IntKind.i64.wrap (a1 + 1) = (n1 : Int) := (i64_w _).trans (by rw [M.wrap_id (by omega) (by omega)]; exact hn1)
  have c4b0 : (0 ≤ (n1 : Int)) = True := eq_true (by omega)
  have c4b1 : decide (0 ≤ (n1 : Int)) = true := decide_eq_true (by omega)
  have c5b1 : decide (((n1 : Int)).toNat ≤ 35184372088832) = true := decide_eq_true (by omega)
  have hn2 : Aside0 (1 ≤ n1 ∧ n1 ≤ 1001) := ⟨by omega⟩
  clear hn1 ha0 ha1 e1
  go_enter Try.func41, Try.ntmps41
  go_wp2_with (first | ((with_reducible refine gate_dst (N := 13) rfl ?_); refine Kd.R_make (Kd.int .i64) _ 3 rfl (N := 13) rfl 22 _ _ rfl (n1 : Int) rfl rfl Try.underlying22 (.int .i64 0) 8 info3 rfl (by decide) (by omega) 0 (ok := fun _ => True) (okp := fun _ => True) rfl (fun _ hk => hk) trivial (of_decide_eq_true (by first | (with_reducible assumption) | assumption)) (Nat.le_trans (Nat.mul_le_mul_right _ (of_decide_eq_true (by first | (with_reducible assumption) | assumption) : ((n1 : Int)).toNat ≤ 35184372088832)) (by omega)) (Below.refl _ _) (Nat.le_refl _) ?_; intro v174 w6 ho7 hb hg_ hnew_; clear hg_ hnew_; rw [Int.toNat_natCast, EZ.out] at ho7; have n0_ := Aside0.mk (Kd.R_lower (Kd.R_newM (M := fun k_ => (w.heap.size ≤ k_)) ho7 (below_size (by repeat (first | (with_reducible first | exact HB.out | apply below_alloc | apply pw_below_drewN | apply below_drew1) | exact HB.out))) (fun k_ h_ => h_)) (below_size (by repeat (first | (with_reducible first | exact HB.out | apply below_alloc | apply pw_below_drewN | apply below_drew1) | exact HB.out)))); have n1_ := Aside0.mk (below_step (by repeat (first | (with_reducible first | exact HB.out | apply below_alloc | apply pw_below_drewN | apply below_drew1) | exact HB.out)) hb); clear HB; have HO175 := n0_; have HB := n1_; clear n0_ n1_; clear hb ho7; obtain ⟨Ao8, co8, eo8⟩ := Kd.R_slice HO175.out; subst eo8) | ((with_reducible refine gate_dst (N := 14) rfl ?_); refine Kd.R_lit (Kd.slice 3 (Kd.int .i64)) (w0 := w) w.heap.size 22 ?hg (N := 14) ?hd (xs := ([Z] : List (List Int))) (inner := [.slice Ao8 Z.length co8]) (ok := (fun k_ => (w.heap.size ≤ k_))) (okp := (fun k_ => (w.heap.size ≤ k_))) ?hr ?hp (fun _ hk => hk) (below_size HB.out) HB.out (below_size HB.out) (by simp) ?_; (case hd => rfl); (case hg => rfl); (case hr => first | (go_simp; done) | (go_simp; rfl)); (case hp => exact (Reps.one (show (Kd.slice 3 (Kd.int .i64)).M _ _ (fun k_ => (w.heap.size ≤ k_)) Z [.slice Ao8 Z.length co8] from Kd.M_row (Kd.R_mono HO175.out (fun k_ hk => hk.1))) (Reps.none _ _))); intro v177 w9 ho10 hb hg_ hnew_; clear hg_ hnew_; have n0_ := Aside0.mk ho10; have n1_ := Aside0.mk hb; clear HB; clear HO175; have HO178 := n0_; have HB := n1_; clear n0_ n1_; clear hb ho10))
  go_loopg [5, 17] l0.length (fun gg v5 v17 w' => ∃ (x5 : List (List Int)) (j : Int), v17 = .int .i64 j ∧ Aside0 (0 ≤ j ∧ j ≤ (l0.length : Int) ∧ l0.length - j.toNat ≤ gg) ∧ Aside0 (x5 = RS.take (j.toNat + 1)) ∧ Aside0 (Kd.R (Kd.slice 3 (Kd.int .i64)) 22 w' w.heap.size (fun k_ => (w.heap.size ≤ k_)) v5 x5) ∧ Aside0 (Below w.heap.size w w'))
  case atStart => exact ⟨[Z], 0, rfl, ⟨by omega⟩, ⟨by rw [← ER.out]; exact (M.rowsFrom_zero _ _ _).symm⟩, ⟨by (with_reducible repeat (first | apply Kd.R_alloc | apply Kd.R_drewN | apply Kd.R_drew)); exact HO178.out⟩, ⟨by repeat (first | (with_reducible first | exact HB.out | apply below_alloc | apply pw_below_drewN | apply below_drew1) | exact HB.out)⟩⟩
  case round =>
    clear HB HO178 hw1 c4b0 c4b1 c5b1
    obtain ⟨x5, j, rfl, HI, EX, HO_5, HB⟩ := hrel
    by_cases hlt : j < (l0.length : Int)
    case neg =>
      have c11b0 : decide (j < (l0.length : Int)) = false := decide_eq_false hlt
      have hlen : Aside0 (x5 = RS) := ⟨by have h1 := EX.out; have h2 := HI.out; have h3 : j.toNat = l0.length := by omega
                                          rw [h1, ← ER.out, h3]; exact M.rowsFrom_whole _ _ _⟩
      clear hlt
      go_wp2
      go_ret
      exact ⟨_, rfl, by (with_reducible repeat (first | apply Kd.R_alloc | apply Kd.R_drewN | apply Kd.R_drew)); exact hlen.out ▸ HO_5.out, by repeat (first | (with_reducible first | exact HB.out | apply below_alloc | apply pw_below_drewN | apply below_drew1) | exact HB.out)⟩
    have p1 : 0 ≤ j := HI.out.1
    have q1 : j < (l0.length : Int) := hlt
    have c11b0 : decide (j < (l0.length : Int)) = true := decide_eq_true hlt
    obtain ⟨adl, Ag, cg, eA, hxl, hlg, hig⟩ := at_T59 HR0.out j p1 q1
    cases eA
    replace hxl := (HB.out.cell (World.block_lt_of_cell? w _ hxl)).trans hxl
    have HGL : Aside0 ((rd_T59 l0 j).f0.length ≤ 1048576) := ⟨HX.out _ (by unfold rd_T59; rw [List.getD_eq_getElem?_getD, List.getElem?_eq_getElem (show j.toNat < l0.length by omega)]; exact List.getElem_mem _)⟩
    have HG1 : Aside0 (l0.getD j.toNat z59 = rd_T59 l0 j) := ⟨rfl⟩
    generalize rd_T59 l0 j = og at hxl hlg hig HGL HG1
    have HLG := Aside0.mk hlg
    have HIG := Aside0.mk hig
    clear hlg hig
    have hx5 : x5.length = j.toNat + 1 := by rw [EX.out, ← ER.out, List.length_take, M.rowsFrom_length]; omega
    have hrl : (rd_L1 x5 j).length = n1 := by
      unfold rd_L1
      rw [EX.out, ← ER.out, M.rowsFrom_got _ _ _ (by omega)]
      exact M.rowsFrom_at _ _ _ LZ.out (by omega)
    have ERow : Aside0 ((RS.getD j.toNat []) = rd_L1 x5 j) := ⟨by unfold rd_L1; rw [EX.out, ← ER.out]; exact (M.rowsFrom_got _ _ _ (by omega)).symm⟩
    have q2 : j < (x5.length : Int) := by omega
    obtain ⟨go, co5, e5, hgo1, hgo2, hgo3⟩ := Kd.R_form HO_5.out (by omega)
    subst e5
    clear hgo1 hgo2 hgo3
    have HX5 := Aside0.mk hx5
    have HRL := Aside0.mk hrl
    clear hx5 hrl
    have c14b0 : decide (j < (x5.length : Int)) = true := decide_eq_true q2
    obtain ⟨row, erow⟩ : ∃ row : List Int, rd_L1 x5 j = row := ⟨_, rfl⟩
    rw [erow] at HRL ERow
    have EROW := Aside0.mk erow
    clear erow
    clear hlt
    have P1 := Aside0.mk p1
    have Q1 := Aside0.mk q1
    have Q2 := Aside0.mk q2
    replace p1 := eq_true p1
    replace q1 := eq_true q1
    replace q2 := eq_true q2
    go_wp2_with (first | ((with_reducible refine gate_dst (N := 7) rfl ?_); refine box_event ?hg (N := 7) ?hd (cs := #[.slice none 0 0]) (t := 59) ?hr ?_; (case hd => rfl); (case hg => rfl); (case hr => first | (go_simp; done) | (go_simp; rfl)); intro gb hg wb hbox hb; have n0_ := Aside0.mk (Kd.R_below (Kd.R_elderB (by (with_reducible repeat (first | apply Kd.R_alloc | apply Kd.R_drewN | apply Kd.R_drew)); exact HO_5.out) gb (Nat.le_of_eq hg.symm)) hb); have n1_ := Aside0.mk (below_step (by repeat (first | (with_reducible first | exact HB.out | apply below_alloc | apply pw_below_drewN | apply below_drew1) | exact HB.out)) hb); have BK := Aside0.mk hbox; have GE := Aside0.mk ((by rw [hg]; exact (below_size (by repeat (first | (with_reducible first | exact HB.out | apply below_alloc | apply pw_below_drewN | apply below_drew1) | exact HB.out))) : w.heap.size ≤ gb)); clear HO_5 HB; have HO_5 := n0_; have HB := n1_; clear n0_ n1_; clear hb hbox hg; have hcz : wb.cell? ⟨gb, 0, none⟩ = some (.slice none 0 0) := (blk_cell BK.out 0).trans rfl; have hfz := blk_frozen BK.out 0) | ((with_reducible refine gate_store (t := 59) (p := 7) rfl ?_); refine store_event (t := 59) (p := 7) (v := ?vo_b) (w1 := (wb.setCell ⟨gb, 0, none⟩ (.slice Ag og.f0.length cg))) ?hg ?ho ?hn ?hr ?_; (case ho => rfl); (case hg => rfl); (case hn => rfl); (case hr => first | (go_simp; done) | (go_simp; rfl)); intro ws hw; have n0_ : Aside0 (Kd.R (Kd.slice 3 (Kd.int .i64)) 22 ws w.heap.size (fun k_ => (w.heap.size ≤ k_) ∧ k_ ≠ gb) (.slice (some ⟨go, 0, none⟩) x5.length co5) x5) := ⟨(by rw [hw]; exact Kd.R_far (p := ⟨gb, 0, none⟩) HO_5.out (fun _ hk => hk.2) _)⟩; have n1_ : Aside0 (ws.heap[gb]? = some (.cells #[.slice Ag og.f0.length cg] 59 (0, 0))) := ⟨(by rw [hw]; exact blk_put (cs := #[.slice none 0 0]) BK.out 0 _ rfl)⟩; have n2_ : Aside0 (Below w.heap.size w ws) := ⟨(by rw [hw]; exact below_set HB.out GE.out)⟩; clear hw HO_5 BK HB hcz hfz; have HO_5 := n0_; have BK := n1_; have HB := n2_; clear n0_ n1_ n2_; obtain ⟨ad5, Ar, cr, e5, hx5, hl5, hi5⟩ := at_L1 (Kd.R_reads' HO_5.out).2.2 j P1.out Q2.out; rw [EROW.out] at hx5 hl5 hi5; cases e5; rw [add_plain] at hx5; obtain ⟨ce5, hce5, hMe5, hcc5⟩ := Kd.R_getA HO_5.out [] j P1.out Q2.out; obtain ⟨vv5, rfl, hR5⟩ := hMe5; have hv5 := hcc5 0 _ rfl; rw [Nat.add_zero, show ((Kd.slice 3 (Kd.int .i64))).sz = 1 from rfl, Nat.mul_one, add_plain] at hv5; replace hv5 := Option.some.inj (hv5.symm.trans hx5); subst hv5; rw [show x5.getD j.toNat [] = row from EROW.out] at hR5; have HV := Aside0.mk hR5; clear hR5 hcc5 hce5; have HR5 := Aside0.mk hi5; have HC5 := Aside0.mk hl5; have HH5 := Aside0.mk hx5; clear hi5 hl5) | ((with_reducible refine gate_callee (f := 47) rfl ?_); refine goesL_ (some 26) rfl rfl Try.func47 (by kernel_rfl) rfl #[.slice Ar row.length cr] rfl (by (try simp only [List.map_toArray, List.map_cons, List.map_nil]); first | done | rfl) ?_; (with_reducible refine (slices_Clone_int_int.calls _ _ row row _ ?side1 ?side2 ?side3).mono ?_); (case side1 => exact HR5.out); (case side2 => exact HC5.out); (case side3 => have := HRL.out; have := hn2.out; unfold slices_Clone_int_int.f; simp only [Option.bind_some, List.length_nil, List.nil_append]; rw [if_pos (by omega)]); rintro e wt ⟨vt, rfl, ho0, hb⟩; refine ⟨_, rfl, ?_⟩; obtain ⟨gt, ct, et, hgt1, hgt2, cst, hgt3⟩ := Kd.R_form ho0 (by have := HRL.out; have := hn2.out; omega); subst et; have n0_ := Aside0.mk (Kd.R_elder' HO_5.out (Kd.R_base ho0) hb); have n1_ := Aside0.mk (Kd.R_elder' HV.out (Kd.R_base ho0) hb); have n2_ := Aside0.mk (Kd.R_tight rfl (Kd.R_lower ho0 (below_size HB.out))); have n3_ := Aside0.mk (blk_below BK.out hb); have n5_ := Aside0.mk (below_step HB.out hb); have n6_ := Aside0.mk ((hb.cell (World.block_lt_of_cell? ws _ HH5.out)).trans HH5.out); have GT : Aside0 (w.heap.size ≤ gt) := ⟨Nat.le_trans (below_size HB.out) hgt1⟩; have BT := Aside0.mk hgt3; clear HO_5 HV HR5 BK HB HH5 hx5 hgt1 hgt2 hgt3; have HO_5 := n0_; have HV := n1_; have HT := n2_; have BK := n3_; have HB := n5_; have HH5 := n6_; clear n0_ n1_ n2_ n3_ n5_ n6_ hb ho0))
    have KB : Aside0 (∀ W, Kept wt W (fun k_ => k_ = gt) → W.cell? ⟨gb, 0, none⟩ = some (.slice Ag og.f0.length cg)) := ⟨fun W hk => (blk_cell (blk_kept BK.out hk (fun e => by subst e; exact absurd (BK.out.symm.trans BT.out) (by simp))) 0).trans rfl⟩
    have KH : Aside0 (∀ W, Kept wt W (fun k_ => k_ = gt) → W.cell? ⟨go, j.toNat, none⟩ = some (.slice Ar row.length cr)) := ⟨fun W hk => cell_kept HH5.out hk (fun e => (HO_5.out.1 go rfl).2 (congrArg some e))⟩
    have KR : Aside0 (∀ W, Kept wt W (fun k_ => k_ = gt) → Kd.C (Kd.int .i64) W Ar row.length row) := ⟨Kd.C_kept_own HV.out (fun k hk e => hk.2 (congrArg some e))⟩
    have KG : Aside0 (∀ W, Kept wt W (fun k_ => k_ = gt) → Kd.C (Kd.int .i64) W Ag og.f0.length og.f0) := ⟨Kd.C_kept_came (Kd.heap_int .i64) HIG.out HB.out (fun k e => by rw [e]; exact GT.out)⟩
    have HK := Aside0.mk (Kept.refl wt (fun k_ => k_ = gt))
    have HNL : Aside0 ((M.nextRow row og.f0).length = row.length) := ⟨M.nextRow_length _ _⟩
    have HT2 : Aside0 (Kd.R (Kd.int .i64) 3 wt w.heap.size (fun k_ => some k_ = (Value.slice (some ⟨gt, 0, none⟩) row.length ct).ownBlock) (.slice (some ⟨gt, 0, none⟩) row.length ct) (M.part (M.nextRow row og.f0) row 0)) := ⟨by rw [M.part_zero]; exact HT.out⟩
    go_loopg [29] n1 (fun gg v29 w' => ∃ p : Int, v29 = .int .i64 p ∧ Aside0 (0 ≤ p ∧ p ≤ (n1 : Int) ∧ n1 - p.toNat ≤ gg) ∧ Aside0 (Kd.R (Kd.int .i64) 3 w' w.heap.size (fun k_ => some k_ = (Value.slice (some ⟨gt, 0, none⟩) row.length ct).ownBlock) (.slice (some ⟨gt, 0, none⟩) row.length ct) (M.part (M.nextRow row og.f0) row p.toNat)) ∧ Aside0 (Kept wt w' (fun k_ => k_ = gt)) ∧ Aside0 (Below w.heap.size w w'))
    case atStart => exact ⟨0, rfl, ⟨by omega⟩, ⟨by (with_reducible repeat (first | apply Kd.R_alloc | apply Kd.R_drewN | apply Kd.R_drew)); exact HT2.out⟩, ⟨(by repeat (first | (with_reducible first | exact HK.out | apply Kept.alloc | apply Kept.drewN | apply Kept.drew) | exact HK.out))⟩, ⟨(by repeat (first | (with_reducible first | exact HB.out | apply below_alloc | apply pw_below_drewN | apply below_drew1) | exact HB.out))⟩⟩
    case round =>
      clear HT HT2 HK HB hxl c11b0 c14b0
      obtain ⟨p, rfl, HP, HT, HK, HB⟩ := hrel
      by_cases hp : p < (n1 : Int)
      case neg =>
        have cp : decide (p < (row.length : Int)) = false := decide_eq_false (by have := HRL.out; omega)
        have n0_ : Aside0 (Kd.R (Kd.int .i64) 3 wr w.heap.size (fun k_ => some k_ = (Value.slice (some ⟨gt, 0, none⟩) row.length ct).ownBlock) (.slice (some ⟨gt, 0, none⟩) row.length ct) (M.nextRow row og.f0)) := ⟨by have h := HT.out; have h2 := HP.out; have h3 : p.toNat = row.length := (by have := HRL.out; omega); rw [h3, M.part_all HNL.out] at h; exact h⟩
        have n1_ := Aside0.mk (Kd.R_mono (Kd.R_kept HO_5.out HK.out (fun k hk e => hk.2 (congrArg some e))) (fun k hk => (hk.1.1 : w.heap.size ≤ k)))
        have NE : Aside0 (go ≠ gt) := ⟨fun e => (HO_5.out.1 go rfl).2 (congrArg some e)⟩
        clear HT HO_5 hp
        have HT := n0_
        have HO_5 := n1_
        clear n0_ n1_
        have hwj : Aside0 (wrap64 (j + 1) = j + 1) := ⟨M.wrap_id (by have := P1.out; omega) (by have := Q1.out; have := HL0.out; omega)⟩
        go_wp2_with (first | ((with_reducible refine gate_builtin (b := .append) (xs := #[.tmp 63, .tmp 65]) rfl ?_); at_builtin; refine Kd.R_append (Kd.slice 3 (Kd.int .i64)) (w0 := w) w.heap.size rfl (.tmp 63) (.tmp 65) 57 22 (.slice none 0 0) 24 rfl Try.underlying57 info22 rfl (by decide) (by omega) (.slice (some ⟨go, 0, none⟩) x5.length co5) x5 (M.nextRow row og.f0) [.slice (some ⟨gt, 0, none⟩) row.length ct] (fun k_ => (w.heap.size ≤ k_)) (fun k_ => ((fun k_ => (w.heap.size ≤ k_)) k_ ∧ some k_ ≠ (.slice (some ⟨go, 0, none⟩) x5.length co5 : Value).ownBlock)) rfl rfl ?aP (fun _ hk => hk) ?aF ?aO ?aB ?aS ?aL ?_; (case aP => exact Kd.M_row (Kd.R_mono HT.out (fun k hk => by (injection hk with hk; subst hk; exact ⟨GT.out, fun e => (by injection e with e; exact NE.out e.symm)⟩)))); (case aB => exact (by repeat (first | (with_reducible first | exact HB.out | apply below_alloc | apply pw_below_drewN | apply below_drew1) | exact HB.out))); (case aF => exact (fun k_ hk => Nat.le_trans (below_size (by repeat (first | (with_reducible first | exact HB.out | apply below_alloc | apply pw_below_drewN | apply below_drew1) | exact HB.out))) hk)); (case aO => exact (by (with_reducible repeat (first | apply Kd.R_alloc | apply Kd.R_drewN | apply Kd.R_drew)); exact HO_5.out)); (case aS => exact (below_size (by repeat (first | (with_reducible first | exact HB.out | apply below_alloc | apply pw_below_drewN | apply below_drew1) | exact HB.out)))); (case aL => have := HX5.out; have := HL0.out; have := Q1.out; omega); intro v187 w22 ho hb hg hat; have n2_ := Aside0.mk hb; have n3_ := Aside0.mk ho; clear HB HO_5 HT HK; have HB := n2_; have HO_5 := n3_; clear n2_ n3_ ho hb hg hat))
        go_roundg (l0.length - (j + 1).toNat)
        case measure => have := HI.out; have := Q1.out; omega
        case rel =>
          exact ⟨x5 ++ [M.nextRow row og.f0], wrap64 (j + 1), (by first | rfl | (simp; done)), ⟨by rw [hwj.out]; have := HI.out; have := Q1.out; omega⟩, ⟨by
            rw [hwj.out, show (j + 1).toNat + 1 = j.toNat + 2 by have := P1.out; omega, ← ER.out, M.rowsFrom_step _ z59 _ _ _ (by have := P1.out; have := Q1.out; omega), ER.out, ERow.out, HG1.out, ← EX.out]⟩, ⟨by (with_reducible repeat (first | apply Kd.R_alloc | apply Kd.R_drewN | apply Kd.R_drew)); exact HO_5.out⟩, ⟨(by repeat (first | (with_reducible first | exact HB.out | apply below_alloc | apply pw_below_drewN | apply below_drew1) | exact HB.out))⟩⟩
      have cp : decide (p < (row.length : Int)) = true := decide_eq_true (by have := HRL.out; omega)
      obtain ⟨K, hK0⟩ : ∃ K : Nat, min p.toNat og.f0.length = K := ⟨_, rfl⟩
      have EK := Aside0.mk hK0
      have EP : Aside0 ((p.toNat : Int) = p ∧ p.toNat < row.length) := ⟨by have := HP.out; have := HRL.out; omega⟩
      clear hK0 hp
      go_wp2
      obtain ⟨wo, rfl⟩ : ∃ wo : World, wo = wr := ⟨_, rfl⟩
      go_loopg [10] (K + 1) (fun gg v10 w' => ∃ c b : Int, v10 = .int .i64 c ∧ Aside0 (1 ≤ c ∧ c ≤ (K : Int) + 1 ∧ K + 1 - c.toNat ≤ gg) ∧ Aside0 (M.bestN row og.f0 p.toNat (K + 1 - c.toNat) c.toNat b = M.bestAt row og.f0 p.toNat) ∧ Aside0 (Kd.R (Kd.int .i64) 3 w' w.heap.size (fun k_ => some k_ = (Value.slice (some ⟨gt, 0, none⟩) row.length ct).ownBlock) (.slice (some ⟨gt, 0, none⟩) row.length ct) ((M.part (M.nextRow row og.f0) row p.toNat).set p.toNat b)) ∧ Aside0 (Kept wt w' (fun k_ => k_ = gt)) ∧ Aside0 (Below w.heap.size w w'))
      case atStart =>
        have h1 : p.toNat < (M.part (M.nextRow row og.f0) row p.toNat).length := by rw [M.part_len HNL.out]; exact EP.out.2
        have h2 := M.part_rd HNL.out EP.out.2
        have h3 := M.set_rd h1
        rw [h2, EP.out.1] at h3
        exact ⟨1, rd row p, rfl, ⟨by omega⟩, ⟨by rw [← EK.out]; unfold M.bestAt; rw [EP.out.1]; rfl⟩, ⟨by (with_reducible repeat (first | apply Kd.R_alloc | apply Kd.R_drewN | apply Kd.R_drew)); rw [h3]; exact HT.out⟩, ⟨(by repeat (first | (with_reducible first | exact HK.out | apply Kept.alloc | apply Kept.drewN | apply Kept.drew) | exact HK.out))⟩, ⟨(by repeat (first | (with_reducible first | exact HB.out | apply below_alloc | apply pw_below_drewN | apply below_drew1) | exact HB.out))⟩⟩
      case round =>
        clear HT HK HB
        obtain ⟨c, b, rfl, HC, HBN, HT, HK, HB⟩ := hrel
        have hmin : (if (og.f0.length : Int) < p then (og.f0.length : Int) else p) = (K : Int) := by
          have h := M.min_int p.toNat og.f0.length
          rw [EP.out.1, EK.out] at h
          exact h
        have hb0 := KB.out wr HK.out
        by_cases hc : c ≤ (K : Int)
        case neg =>
          have ck : decide (c ≤ (K : Int)) = false := decide_eq_false hc
          have n0_ : Aside0 (Kd.R (Kd.int .i64) 3 wr w.heap.size (fun k_ => some k_ = (Value.slice (some ⟨gt, 0, none⟩) row.length ct).ownBlock) (.slice (some ⟨gt, 0, none⟩) row.length ct) (M.part (M.nextRow row og.f0) row (p.toNat + 1))) := ⟨by
            have h := HT.out
            have h1 := HBN.out
            rw [show K + 1 - c.toNat = 0 by have := HC.out; omega, M.bestN_zero] at h1
            rw [h1, ← M.nextRow_rd row og.f0 EP.out.2, M.part_step HNL.out EP.out.2] at h
            exact h⟩
          clear HT hc
          have HT := n0_
          clear n0_
          have hwp : Aside0 (wrap64 (p + 1) = p + 1) := ⟨M.wrap_id (by have := HP.out; omega) (by have := HP.out; have := hn2.out; omega)⟩
          go_wp2
          go_roundg (n1 - (p + 1).toNat)
          case measure => have := HP.out; have := EP.out; have := HRL.out; omega
          case rel => exact ⟨wrap64 (p + 1), (by first | rfl | (simp; done)), ⟨by rw [hwp.out]; have := HP.out; have := EP.out; have := HRL.out; omega⟩, ⟨by rw [hwp.out, show (p + 1).toNat = p.toNat + 1 by have := HP.out; omega]; (with_reducible repeat (first | apply Kd.R_alloc | apply Kd.R_drewN | apply Kd.R_drew)); exact HT.out⟩, ⟨(by repeat (first | (with_reducible first | exact HK.out | apply Kept.alloc | apply Kept.drewN | apply Kept.drew) | exact HK.out))⟩, ⟨(by repeat (first | (with_reducible first | exact HB.out | apply below_alloc | apply pw_below_drewN | apply below_drew1) | exact HB.out))⟩⟩
        have ck : decide (c ≤ (K : Int)) = true := decide_eq_true hc
        have HCK : Aside0 (c ≤ (K : Int) ∧ c ≤ p ∧ c.toNat ≤ og.f0.length ∧ (c.toNat : Int) = c) := ⟨by have := EK.out; have := HC.out; omega⟩
        clear hc
        obtain ⟨d, hd⟩ : ∃ d : Int, p - c = d := ⟨_, rfl⟩
        have hwd : IntKind.i64.wrap (p - c) = d := (i64_w _).trans (by rw [M.wrap_id (by have := HC.out; have := HCK.out; omega) (by have := HC.out; have := HP.out; have := hn2.out; omega)]; exact hd)
        have ED := Aside0.mk hd
        clear hd
        have pd0 : 0 ≤ d := by have := ED.out; have := HCK.out; omega
        have qd0 : d < (row.length : Int) := by have := ED.out; have := HC.out; have := EP.out; omega
        obtain ⟨adr, er, hxr⟩ := Kd.at_int (KR.out wr HK.out) d pd0 qd0
        subst er
        have KE : Aside0 (∀ W, Kept wt W (fun k_ => k_ = gt) → W.cell? (adr.add d.toNat) = some (.int .i64 (rd row d))) := ⟨fun W hk => by
          obtain ⟨ad', e', hx'⟩ := Kd.at_int (KR.out W hk) d pd0 qd0
          cases e'
          exact hx'⟩
        have KT : Aside0 (∀ W ok x, Kd.R (Kd.int .i64) 3 W w.heap.size ok (.slice (some ⟨gt, 0, none⟩) row.length ct) ((M.part (M.nextRow row og.f0) row p.toNat).set p.toNat x) → W.cell? ⟨gt, p.toNat, none⟩ = some (.int .i64 x) ∧ W.frozen? ⟨gt, p.toNat, none⟩ = false) := ⟨fun W ok x h => by
          have h1 := Kd.R_celln 0 h p HP.out.1 (by have := EP.out; omega)
          have h2 : rdOf 0 ((M.part (M.nextRow row og.f0) row p.toNat).set p.toNat x) p = x := by
            have h3 := M.rd_set (l := M.part (M.nextRow row og.f0) row p.toNat) (p := p.toNat) (by rw [M.part_len HNL.out]; exact EP.out.2) x
            rw [EP.out.1] at h3
            exact h3
          rw [h2] at h1
          exact h1⟩
        clear hxr
        have pd := eq_true pd0
        have qd := eq_true qd0
        have pp : (0 ≤ p) = True := eq_true HP.out.1
        have qp : (p < (row.length : Int)) = True := eq_true (by have := EP.out; omega)
        clear pd0 qd0
        obtain ⟨nb, hnb⟩ : ∃ nb : Int, (if b < wrap64 (rd row d + M.gainAt og.f0 c) then wrap64 (rd row d + M.gainAt og.f0 c) else b) = nb := ⟨_, rfl⟩
        have ENB := Aside0.mk hnb
        go_wp2
        refine start_ (n := 22) (S := fun w' => w'.cell? ⟨gt, p.toNat, none⟩ = some (.int .i64 b) ∧ w'.cell? ⟨go, j.toNat, none⟩ = some (.slice (some adr) row.length cr) ∧ w'.cell? (adr.add d.toNat) = some (.int .i64 (rd row d)) ∧ w'.cell? ⟨gb, 0, none⟩ = some (.slice Ag og.f0.length cg)) (ds := [21]) #[false, false, false, false, false, false, false, false, false, false, false, false, false, false, false, false, false, false, false, false, false, false] (by kernel_rfl) rfl rfl ⟨(KT.out _ _ _ (Kd.R_drew HT.out)).1, KH.out _ HK.out.drew, KE.out _ HK.out.drew, KB.out _ HK.out.drew⟩ (fun hHeld => ?_); refine with_tabW impl_tables.tab12 impl_tables.bits12 (fun HT_ HW_ => ?_)
        have n0_ := Aside0.mk (Kd.R_drew HT.out)
        have n1_ := Aside0.mk HK.out.drew
        have n2_ := Aside0.mk (below_drew1 HB.out)
        clear HT HK HB hb0
        have HT := n0_
        have HK := n1_
        have HB := n2_
        clear n0_ n1_ n2_
        generalize wr.drew = wd at HT HK HB hHeld ⊢
        refine take_ (i := 0) (N := some 41) (v := ?_) (a' := ?_) #[true, false, false, false, false, false, false, false, false, false, false, false, false, false, false, false, false, false, false, false, false, false] rfl rfl (take_ofW HT_.out HW_.out (by kernel_rfl)) (fun _ _ _ h => h) (Or.inl ⟨by rfl, ?_⟩) hHeld ?_ ?_
        rotate_left
        · rintro w' ⟨s0, s1, s2, s3⟩
          go_simp
          with_reducible rfl
        rotate_left
        · simp only [Act.put, List.setIfInBounds_toArray, List.set_cons_zero, List.set_cons_succ, i64_w, i32_w]
          rfl
        refine take_ (i := 1) (N := some 42) (v := ?_) (a' := ?_) #[true, true, false, false, false, false, false, false, false, false, false, false, false, false, false, false, false, false, false, false, false, false] rfl rfl (take_ofW HT_.out HW_.out (by kernel_rfl)) (fun _ _ _ h => h) (Or.inl ⟨by rfl, ?_⟩) hHeld ?_ ?_
        rotate_left
        · rintro w' ⟨s0, s1, s2, s3⟩
          go_simp
          with_reducible rfl
        rotate_left
        · simp only [Act.put, List.setIfInBounds_toArray, List.set_cons_zero, List.set_cons_succ, i64_w, i32_w]
          rfl
        refine take_ (i := 2) (N := some 43) (v := ?_) (a' := ?_) #[true, true, true, false, false, false, false, false, false, false, false, false, false, false, false, false, false, false, false, false, false, false] rfl rfl (take_ofW HT_.out HW_.out (by kernel_rfl)) (fun _ _ _ h => h) (Or.inl ⟨by rfl, ?_⟩) hHeld ?_ ?_
        rotate_left
        · rintro w' ⟨s0, s1, s2, s3⟩
          go_simp
          with_reducible rfl
        rotate_left
        · simp only [Act.put, List.setIfInBounds_toArray, List.set_cons_zero, List.set_cons_succ, i64_w, i32_w]
          rfl
        refine take_ (i := 3) (N := some 44) (v := ?_) (a' := ?_) #[true, true, true, true, false, false, false, false, false, false, false, false, false, false, false, false, false, false, false, false, false, false] rfl rfl (take_ofW HT_.out HW_.out (by kernel_rfl)) (fun _ _ _ h => h) (Or.inl ⟨by rfl, ?_⟩) hHeld ?_ ?_
        rotate_left
        · rintro w' ⟨s0, s1, s2, s3⟩
          go_simp
          with_reducible rfl
        rotate_left
        · simp only [Act.put, List.setIfInBounds_toArray, List.set_cons_zero, List.set_cons_succ, i64_w, i32_w]
          rfl
        refine take_ (i := 4) (N := some 45) (v := ?_) (a' := ?_) #[true, true, true, true, true, false, false, false, false, false, false, false, false, false, false, false, false, false, false, false, false, false] rfl rfl (take_ofW HT_.out HW_.out (by kernel_rfl)) (fun _ _ _ h => h) (Or.inl ⟨by rfl, ?_⟩) hHeld ?_ ?_
        rotate_left
        · rintro w' ⟨s0, s1, s2, s3⟩
          go_simp
          with_reducible rfl
        rotate_left
        · simp only [Act.put, List.setIfInBounds_toArray, List.set_cons_zero, List.set_cons_succ, i64_w, i32_w]
          rfl
        refine take_ (i := 5) (N := some 46) (v := ?_) (a' := ?_) #[true, true, true, true, true, true, false, false, false, false, false, false, false, false, false, false, false, false, false, false, false, false] rfl rfl (take_ofW HT_.out HW_.out (by kernel_rfl)) (fun _ _ _ h => h) (Or.inl ⟨by rfl, ?_⟩) hHeld ?_ ?_
        rotate_left
        · rintro w' ⟨s0, s1, s2, s3⟩
          go_simp
          with_reducible rfl
        rotate_left
        · simp only [Act.put, List.setIfInBounds_toArray, List.set_cons_zero, List.set_cons_succ, i64_w, i32_w]
          rfl
        refine take_ (i := 6) (N := some 47) (v := ?_) (a' := ?_) #[true, true, true, true, true, true, true, false, false, false, false, false, false, false, false, false, false, false, false, false, false, false] rfl rfl (take_ofW HT_.out HW_.out (by kernel_rfl)) (fun _ _ _ h => h) (Or.inl ⟨by rfl, ?_⟩) hHeld ?_ ?_
        rotate_left
        · rintro w' ⟨s0, s1, s2, s3⟩
          go_simp
          with_reducible rfl
        rotate_left
        · simp only [Act.put, List.setIfInBounds_toArray, List.set_cons_zero, List.set_cons_succ, i64_w, i32_w]
          rfl
        refine take_ (i := 7) (N := some 48) (v := ?_) (a' := ?_) #[true, true, true, true, true, true, true, true, false, false, false, false, false, false, false, false, false, false, false, false, false, false] rfl rfl (take_ofW HT_.out HW_.out (by kernel_rfl)) (fun _ _ _ h => h) (Or.inl ⟨by rfl, ?_⟩) hHeld ?_ ?_
        rotate_left
        · rintro w' ⟨s0, s1, s2, s3⟩
          go_simp
          with_reducible rfl
        rotate_left
        · simp only [Act.put, List.setIfInBounds_toArray, List.set_cons_zero, List.set_cons_succ, i64_w, i32_w]
          rfl
        refine take_ (i := 8) (N := some 49) (v := ?_) (a' := ?_) #[true, true, true, true, true, true, true, true, true, false, false, false, false, false, false, false, false, false, false, false, false, false] rfl rfl (take_ofW HT_.out HW_.out (by kernel_rfl)) (fun _ _ _ h => h) (Or.inl ⟨by rfl, ?_⟩) hHeld ?_ ?_
        rotate_left
        · rintro w' ⟨s0, s1, s2, s3⟩
          go_simp
          with_reducible rfl
        rotate_left
        · simp only [Act.put, List.setIfInBounds_toArray, List.set_cons_zero, List.set_cons_succ, i64_w, i32_w]
          rfl
        refine take_ (i := 9) (N := some 50) (v := ?_) (a' := ?_) #[true, true, true, true, true, true, true, true, true, true, false, false, false, false, false, false, false, false, false, false, false, false] rfl rfl (take_ofW HT_.out HW_.out (by kernel_rfl)) (fun _ _ _ h => h) (Or.inl ⟨by rfl, ?_⟩) hHeld ?_ ?_
        rotate_left
        · rintro w' ⟨s0, s1, s2, s3⟩
          go_simp
          with_reducible rfl
        rotate_left
        · simp only [Act.put, List.setIfInBounds_toArray, List.set_cons_zero, List.set_cons_succ, i64_w, i32_w]
          rfl
        refine take_ (i := 10) (N := some 51) (v := ?_) (a' := ?_) #[true, true, true, true, true, true, true, true, true, true, true, false, false, false, false, false, false, false, false, false, false, false] rfl rfl (take_ofW HT_.out HW_.out (by kernel_rfl)) (fun _ _ _ h => h) (Or.inl ⟨by rfl, ?_⟩) hHeld ?_ ?_
        rotate_left
        · rintro w' ⟨s0, s1, s2, s3⟩
          go_simp
          with_reducible rfl
        rotate_left
        · simp only [Act.put, List.setIfInBounds_toArray, List.set_cons_zero, List.set_cons_succ, i64_w, i32_w]
          rfl
        refine take_ (i := 11) (N := some 52) (v := ?_) (a' := ?_) #[true, true, true, true, true, true, true, true, true, true, true, true, false, false, false, false, false, false, false, false, false, false] rfl rfl (take_ofW HT_.out HW_.out (by kernel_rfl)) (fun _ _ _ h => h) (Or.inl ⟨by rfl, ?_⟩) hHeld ?_ ?_
        rotate_left
        · rintro w' ⟨s0, s1, s2, s3⟩
          go_simp
          with_reducible rfl
        rotate_left
        · simp only [Act.put, List.setIfInBounds_toArray, List.set_cons_zero, List.set_cons_succ, i64_w, i32_w]
          rfl
        refine take_ (i := 12) (N := some 53) (v := ?_) (a' := ?_) #[true, true, true, true, true, true, true, true, true, true, true, true, true, false, false, false, false, false, false, false, false, false] rfl rfl (take_ofW HT_.out HW_.out (by kernel_rfl)) (fun _ _ _ h => h) (Or.inl ⟨by rfl, ?_⟩) hHeld ?_ ?_
        rotate_left
        · rintro w' ⟨s0, s1, s2, s3⟩
          go_simp
          with_reducible rfl
        rotate_left
        · simp only [Act.put, List.setIfInBounds_toArray, List.set_cons_zero, List.set_cons_succ, i64_w, i32_w]
          rfl
        refine take_ (i := 13) (N := some 54) (v := ?_) (a' := ?_) #[true, true, true, true, true, true, true, true, true, true, true, true, true, true, false, false, false, false, false, false, false, false] rfl rfl (take_ofW HT_.out HW_.out (by kernel_rfl)) (fun _ _ _ h => h) (Or.inl ⟨by rfl, ?_⟩) hHeld ?_ ?_
        rotate_left
        · rintro w' ⟨s0, s1, s2, s3⟩
          go_simp
          with_reducible rfl
        rotate_left
        · simp only [Act.put, List.setIfInBounds_toArray, List.set_cons_zero, List.set_cons_succ, i64_w, i32_w]
          rfl
        refine take_ (i := 14) (N := some 55) (v := ?_) (a' := ?_) #[true, true, true, true, true, true, true, true, true, true, true, true, true, true, true, false, false, false, false, false, false, false] rfl rfl (take_ofW HT_.out HW_.out (by kernel_rfl)) (fun _ _ _ h => h) (Or.inl ⟨by rfl, ?_⟩) hHeld ?_ ?_
        rotate_left
        · rintro w' ⟨s0, s1, s2, s3⟩
          go_simp
          with_reducible rfl
        rotate_left
        · simp only [Act.put, List.setIfInBounds_toArray, List.set_cons_zero, List.set_cons_succ, i64_w, i32_w]
          rfl
        refine take_ (i := 15) (N := some 56) (v := ?_) (a' := ?_) #[true, true, true, true, true, true, true, true, true, true, true, true, true, true, true, true, false, false, false, false, false, false] rfl rfl (take_ofW HT_.out HW_.out (by kernel_rfl)) (fun _ _ _ h => h) (Or.inl ⟨by rfl, ?_⟩) hHeld ?_ ?_
        rotate_left
        · rintro w' ⟨s0, s1, s2, s3⟩
          go_simp
          with_reducible rfl
        rotate_left
        · simp only [Act.put, List.setIfInBounds_toArray, List.set_cons_zero, List.set_cons_succ, i64_w, i32_w]
          rfl
        refine take_ (i := 16) (N := some 57) (v := ?_) (a' := ?_) #[true, true, true, true, true, true, true, true, true, true, true, true, true, true, true, true, true, false, false, false, false, false] rfl rfl (take_ofW HT_.out HW_.out (by kernel_rfl)) (fun _ _ _ h => h) (Or.inl ⟨by rfl, ?_⟩) hHeld ?_ ?_
        rotate_left
        · rintro w' ⟨s0, s1, s2, s3⟩
          go_simp
          with_reducible rfl
        rotate_left
        · simp only [Act.put, List.setIfInBounds_toArray, List.set_cons_zero, List.set_cons_succ, i64_w, i32_w]
          rfl
        refine one_ (i := 17) (N := some 58) #[true, true, true, true, true, true, true, true, true, true, true, true, true, true, true, true, true, true, false, false, false, false] rfl rfl (one_of HT_.out (by kernel_rfl)) (by decide) (fun K hK => ?_)
        refine goes_ Try.func44 (by kernel_rfl) rfl #[.agg #[.slice Ag og.f0.length cg], .int .i64 c] (by rfl) rfl rfl (by (try simp only [List.map_toArray, List.map_cons, List.map_nil]); first | done | rfl) ?_
        with_reducible refine (impl_Offer_gain.calls _ _ og.f0 c (M.gainAt og.f0 c) _ (KG.out _ HK.out) HLG.out (by have h := impl_gain_eq og.f0 (c := c.toNat) (by have := HC.out; omega) HCK.out.2.2.1 HGL.out; rw [HCK.out.2.2.2] at h; exact h)).mono ?_
        rintro e we ⟨rfl, hb⟩
        refine ⟨_, rfl, ?_⟩
        have n0_ := Aside0.mk (Kd.R_below HT.out hb)
        have n1_ := Aside0.mk (HK.out.below hb)
        have n2_ := Aside0.mk (below_step HB.out hb)
        clear HT HK HB hb
        have HT := n0_
        have HK := n1_
        have HB := n2_
        clear n0_ n1_ n2_
        clear hHeld
        refine hK.out _ _ ⟨(KT.out _ _ _ HT.out).1, KH.out _ HK.out, KE.out _ HK.out, KB.out _ HK.out⟩ (fun hHeld => ?_)
        clear hK K
        refine norm_ (a' := ?_) ?_ ?_
        rotate_left
        · show Act.put _ (some 58) _ = _
          simp only [Act.put, List.setIfInBounds_toArray, List.set_cons_zero, List.set_cons_succ, i64_w, i32_w]
          rfl
        refine pure_ (i := 18) (N := some 59) (v := ?_) (a' := ?_) #[true, true, true, true, true, true, true, true, true, true, true, true, true, true, true, true, true, true, true, false, false, false] rfl rfl (any_of HT_.out (by kernel_rfl)) (fun _ _ _ h => h) (Or.inl ⟨by rfl, ?_⟩) ?_ ?_
        rotate_left
        · intro w'
          go_simp
          with_reducible rfl
        rotate_left
        · simp only [Act.put, List.setIfInBounds_toArray, List.set_cons_zero, List.set_cons_succ, i64_w, i32_w]
          rfl
        refine pure_ (i := 19) (N := some 60) (v := ?_) (a' := ?_) #[true, true, true, true, true, true, true, true, true, true, true, true, true, true, true, true, true, true, true, true, false, false] rfl rfl (any_of HT_.out (by kernel_rfl)) (fun _ _ _ h => h) (Or.inl ⟨by rfl, ?_⟩) ?_ ?_
        rotate_left
        · intro w'
          go_simp
          with_reducible rfl
        rotate_left
        · simp only [Act.put, List.setIfInBounds_toArray, List.set_cons_zero, List.set_cons_succ, i64_w, i32_w]
          rfl
        refine pure_ (i := 20) (N := some 61) (v := ?_) (a' := ?_) #[true, true, true, true, true, true, true, true, true, true, true, true, true, true, true, true, true, true, true, true, true, false] rfl rfl (any_of HT_.out (by kernel_rfl)) (fun _ _ _ h => h) (Or.inl ⟨by rfl, ?_⟩) ?_ ?_
        rotate_left
        · intro w'
          go_simp
          with_reducible rfl
        rotate_left
        · simp only [Act.put, List.setIfInBounds_toArray, List.set_cons_zero, List.set_cons_succ, i64_w, i32_w]
          rfl
        refine last_ (i := 21) (N := none) #[true, true, true, true, true, true, true, true, true, true, true, true, true, true, true, true, true, true, true, true, true, true] rfl rfl (one_of HT_.out (by kernel_rfl)) (by decide) (fun K hK => ?_)
        have hct := (KT.out _ _ _ HT.out).1
        have hft := (KT.out _ _ _ HT.out).2
        refine skip_ (w1 := we.setCell ⟨gt, p.toNat, none⟩ (.int .i64 nb)) (by rfl) rfl ?_ ?_
        · go_simp
        have HPT := Kd.R_putg HT.out p nb
        have n0_ : Aside0 (Kd.R (Kd.int .i64) 3 (we.setCell ⟨gt, p.toNat, none⟩ (.int .i64 nb)) w.heap.size (fun k_ => some k_ = (Value.slice (some ⟨gt, 0, none⟩) row.length ct).ownBlock) (.slice (some ⟨gt, 0, none⟩) row.length ct) ((M.part (M.nextRow row og.f0) row p.toNat).set p.toNat nb)) := ⟨by have h := HPT.1; rw [List.set_set] at h; exact h⟩
        have n1_ := Aside0.mk (HK.out.setCell (p := ⟨gt, p.toNat, none⟩) (Or.inl rfl) (.int .i64 nb))
        have n2_ := Aside0.mk (below_set (j := p.toNat) (v := .int .i64 nb) HB.out GT.out)
        clear HT HK HB hct hft HPT
        have HT := n0_
        have HK := n1_
        have HB := n2_
        clear n0_ n1_ n2_
        refine hK.out _ _ ?_
        clear hK K hHeld
        generalize we.setCell ⟨gt, p.toNat, none⟩ (.int .i64 nb) = wf at HT HK HB ⊢
        refine done_ (done_of HT_.out (by kernel_rfl)) ?_
        clear HT_ HW_
        have hwc : Aside0 (wrap64 (c + 1) = c + 1) := ⟨M.wrap_id (by have := HC.out; omega) (by have := HCK.out; have := HGL.out; omega)⟩
        clear hnb
        go_wp2
        go_roundg (K + 1 - (c + 1).toNat)
        case measure => have := HC.out; have := HCK.out; omega
        case rel =>
          exact ⟨wrap64 (c + 1), nb, (by first | rfl | (simp; done)), ⟨by rw [hwc.out]; have := HC.out; have := HCK.out; omega⟩, ⟨by
            have h := HBN.out
            rw [show K + 1 - c.toNat = (K + 1 - (c + 1).toNat) + 1 by have := HC.out; have := HCK.out; omega, M.bestN_step _ _ _ (by have := HCK.out; omega), HCK.out.2.2.2, EP.out.1, ED.out, ENB.out] at h
            rw [hwc.out, show (c + 1).toNat = c.toNat + 1 by have := HC.out; omega]
            rw [show (c + 1).toNat = c.toNat + 1 by have := HC.out; omega] at h
            exact h⟩, ⟨by (with_reducible repeat (first | apply Kd.R_alloc | apply Kd.R_drewN | apply Kd.R_drew)); exact HT.out⟩, ⟨(by repeat (first | (with_reducible first | exact HK.out | apply Kept.alloc | apply Kept.drewN | apply Kept.drew) | exact HK.out))⟩, ⟨(by repeat (first | (with_reducible first | exact HB.out | apply below_alloc | apply pw_below_drewN | apply below_drew1) | exact HB.out))⟩⟩

set_option maxHeartbeats 8000000 in
set_option maxRecDepth 100000 in
theorem impl_tables.calls (A0 : Option Addr) (c0 : Nat) (l0 : List (S59)) (a1 : Int) (r : List (List Int)) (w : World) (hr0 : Kd.C k59 w A0 l0.length l0) (hc0 : l0.length ≤ c0) (h : impl_tables.f l0 a1 = some r) :
    Calls Try.prog 41 #[.slice A0 l0.length c0, .int .i64 a1] w fun e w' => ∃ v0_ : Value, e = .returned (v0_) ∧ Kd.N (Kd.slice 3 (Kd.int .i64)) 22 w' w.heap.size (fun k_ => (w.heap.size ≤ k_)) v0_ r ∧ Below w.heap.size w w' := by
  exact (impl_tables.callsR A0 c0 l0 a1 r w hr0 hc0 h).mono fun e w' ⟨v, he, hv, hb⟩ => ⟨v, he, Kd.R_N hv, hb⟩


/-! ### impl_BestTable: function 20 -/
def impl_BestTable.f (l0 : List (S59)) (a1 : Int) : Option (List Int × Bool) := (impl_isOffered.f l0 a1).bind fun t189 => (if t189 = true then ((impl_tables.f l0 a1).bind fun t190 => (if 0 ≤ (l0.length : Int) then (if (l0.length : Int) < (t190.length : Int) then (some (rd_L1 t190 (l0.length : Int), true)) else (none)) else (none))) else (some (([] : List Int), false)))
set_option maxHeartbeats 8000000 in
set_option maxRecDepth 100000 in
theorem impl_BestTable.calls (A0 : Option Addr) (c0 : Nat) (l0 : List (S59)) (a1 : Int) (r1 : List Int) (r2 : Bool) (w : World) (hr0 : Kd.C k59 w A0 l0.length l0) (hc0 : l0.length ≤ c0) (h : impl_BestTable.f l0 a1 = some (r1, r2)) :
    Calls Try.prog 20 #[.slice A0 l0.length c0, .int .i64 a1] w fun e w' => ∃ v0_ : Value, e = .returned (.tuple #[v0_, .bool r2]) ∧ Kd.V (Kd.int .i64) 3 w' w.heap.size (fun k_ => (w.heap.size ≤ k_)) v0_ r1 ∧ Below w.heap.size w w' := by
  have HR0 := Aside0.mk hr0
  have HC0 := Aside0.mk hc0
  clear hr0 hc0
  have HB := Aside0.mk (Below.refl w.heap.size w)
  have H : ((impl_isOffered.f l0 a1).bind fun t189 => (if t189 = true then ((impl_tables.f l0 a1).bind fun t190 => (if 0 ≤ (l0.length : Int) then (if (l0.length : Int) < (t190.length : Int) then (some (rd_L1 t190 (l0.length : Int), true)) else (none)) else (none))) else (some (([] : List Int), false)))) = some (r1, r2) := h
  clear h
  replace H := Option.bind_eq_some_iff.mp H
  obtain ⟨t189, A30, H⟩ := H
  replace H : (if t189 = true then ((impl_tables.f l0 a1).bind fun t190 => (if 0 ≤ (l0.length : Int) then (if (l0.length : Int) < (t190.length : Int) then (some (rd_L1 t190 (l0.length : Int), true)) else (none)) else (none))) else (some (([] : List Int), false))) = some (r1, r2) := H
  have A3 := Aside0.mk A30
  clear A30
  by_cases c4 : t189 = true
  · subst c4
    have H1 : ((impl_tables.f l0 a1).bind fun t190 => (if 0 ≤ (l0.length : Int) then (if (l0.length : Int) < (t190.length : Int) then (some (rd_L1 t190 (l0.length : Int), true)) else (none)) else (none))) = some (r1, r2) := by rw [if_pos rfl] at H; exact H
    clear H
    have H := H1
    clear H1
    replace H := Option.bind_eq_some_iff.mp H
    obtain ⟨t190, A50, H⟩ := H
    replace H : (if 0 ≤ (l0.length : Int) then (if (l0.length : Int) < (t190.length : Int) then (some (rd_L1 t190 (l0.length : Int), true)) else (none)) else (none)) = some (r1, r2) := H
    have A5 := Aside0.mk A50
    clear A50
    by_cases c6 : 0 ≤ (l0.length : Int)
    · rw [if_pos c6] at H
      have c6b0 : decide (0 ≤ (l0.length : Int)) = true := decide_eq_true c6
      have c6b1 : decide (0 ≤ l0.length) = true := decide_eq_true (by omega)
      clear c6
      by_cases c7 : (l0.length : Int) < (t190.length : Int)
      · rw [if_pos c7] at H
        have c7b0 : decide ((l0.length : Int) < (t190.length : Int)) = true := decide_eq_true c7
        have c7b1 : decide (l0.length < t190.length) = true := decide_eq_true (Int.ofNat_lt.mp c7)
        clear c7
        simp only [Option.some.injEq, Prod.mk.injEq] at H
        obtain ⟨rfl, rfl⟩ := H
        go_enter Try.func20, Try.ntmps20
        go_wp2_with (first | ((with_reducible refine gate_callee (f := 37) rfl ?_); refine goesL_ (some 8) rfl rfl Try.func37 (by kernel_rfl) rfl #[.slice A0 l0.length c0, .int .i64 a1] rfl (by (try simp only [List.map_toArray, List.map_cons, List.map_nil]); first | done | rfl | (simp only [List.length_drop, List.length_take]; rfl)) ?_; (with_reducible refine (impl_isOffered.calls _ _ l0 a1 true _ ?side1 ?side2 A3.out).mono ?_); (case side1 => repeat (first | exact HR0.out | (with_reducible refine Kd.C_alloc ?_ _) | (with_reducible refine Kd.C_drewN ?_ _) | (with_reducible refine Kd.C_drew ?_))); (case side2 => exact HC0.out); rintro e w8 ⟨rfl, hb⟩; refine ⟨_, rfl, ?_⟩; have n0_ := Aside0.mk (below_step (by repeat (first | (with_reducible first | exact HB.out | apply below_alloc | apply pw_below_drewN | apply below_drew1) | exact HB.out)) hb); clear HB; have HB := n0_; clear n0_; (try clear hb); (try clear hb2); (try clear hk); (try clear hi)) | ((with_reducible refine gate_callee (f := 41) rfl ?_); refine goesL_ (some 12) rfl rfl Try.func41 (by kernel_rfl) rfl #[.slice A0 l0.length c0, .int .i64 a1] rfl (by (try simp only [List.map_toArray, List.map_cons, List.map_nil]); first | done | rfl | (simp only [List.length_drop, List.length_take]; rfl)) ?_; (with_reducible refine (impl_tables.calls _ _ l0 a1 t190 _ ?side1 ?side2 A5.out).mono ?_); (case side1 => repeat (first | exact (Kd.C_below HR0.out HB.out) | (with_reducible refine Kd.C_alloc ?_ _) | (with_reducible refine Kd.C_drewN ?_ _) | (with_reducible refine Kd.C_drew ?_))); (case side2 => exact HC0.out); rintro e w9 ⟨v191, rfl, ho0, hb⟩; refine ⟨_, rfl, ?_⟩; have n0_ := Aside0.mk (Kd.N_lower (Kd.N_mono (ok' := fun k_ => (w.heap.size ≤ k_)) ho0 (fun k_ hk_ => (Nat.le_trans (below_size (by repeat (first | (with_reducible first | exact HB.out | apply below_alloc | apply pw_below_drewN | apply below_drew1) | exact HB.out))) hk_))) (below_size (by repeat (first | (with_reducible first | exact HB.out | apply below_alloc | apply pw_below_drewN | apply below_drew1) | exact HB.out)))); have n1_ := Aside0.mk (below_step (by repeat (first | (with_reducible first | exact HB.out | apply below_alloc | apply pw_below_drewN | apply below_drew1) | exact HB.out)) hb); clear HB; have HO192 := n0_; have HB := n1_; clear n0_ n1_; (try clear hb); (try clear hb2); (try clear hk); (try clear hi); (try clear ho0); obtain ⟨Ao10, co10, eo10⟩ := Kd.N_slice HO192.out; subst eo10; have p193 : 0 ≤ ((l0.length : Int) : Int) := of_decide_eq_true (by first | (with_reducible assumption) | assumption); have q193 : (l0.length : Int) < (t190.length : Int) := of_decide_eq_true (by first | (with_reducible assumption) | assumption); obtain ⟨ad193, A193_0, c193_0, e193, hx193_0, hl193_0, hi193_0⟩ := at_L1 (Kd.N_reads' HO192.out).2.2 (l0.length : Int) p193 q193; cases e193; obtain ⟨ce193, hce193, hMe193, hcc193⟩ := Kd.N_get HO192.out [] (l0.length : Int) p193 (by first | exact q193 | exact of_decide_eq_true (by first | (with_reducible assumption) | assumption) | (have e_ := (Kd.N_reads' HO192.out).1; omega)); obtain ⟨ua193_0, uc193_0, rfl, ul193_0, ge193_0⟩ := Kd.FK_slice_open hMe193; have hv193_0 := hcc193 0 _ rfl; rw [Nat.add_zero, show ((Kd.slice 3 (Kd.int .i64))).sz = 1 from rfl, Nat.mul_one] at hv193_0; replace hv193_0 := Option.some.inj (hv193_0.symm.trans hx193_0); injection hv193_0 with hva_ hvn_ hvc_; rw [hva_] at ge193_0; rw [hvc_] at ul193_0; have HL193_0 := Aside0.mk (show Kd.V (Kd.int .i64) 3 _ w.heap.size _ _ (rd_L1 t190 (l0.length : Int)) from Kd.V_mk ul193_0 ge193_0); clear hva_ hvn_ hvc_ ge193_0 ul193_0; clear hcc193 hce193; have HR193_0 := Aside0.mk hi193_0; have HC193_0 := Aside0.mk hl193_0; clear hi193_0 hl193_0; (try simp only [Go.IntWalk.toNatUp] at hx193_0); replace p193 := eq_true p193; replace q193 := eq_true q193))
        go_ret2
        exact ⟨_, by first | rfl | (simp [errW_none, errW_some] <;> rfl) | (simp [*, errW_none, errW_some] <;> rfl), by (with_reducible repeat (first | apply Kd.V_alloc | apply Kd.V_drewN | apply Kd.V_drew)); exact Kd.V_mono HL193_0.out (fun _ hk => hk.1), by repeat (first | (with_reducible first | exact HB.out | apply below_alloc | apply pw_below_drewN | apply below_drew1) | exact HB.out)⟩
      · rw [if_neg c7] at H
        exact absurd H (by simp)
    · rw [if_neg c6] at H
      exact absurd H (by simp)
  · replace c4 := Bool.eq_false_iff.mpr c4
    subst c4
    have H1 : (some (([] : List Int), false)) = some (r1, r2) := by rw [if_neg (show ¬ (false = true) by decide)] at H; exact H
    clear H
    have H := H1
    clear H1
    simp only [Option.some.injEq, Prod.mk.injEq] at H
    obtain ⟨rfl, rfl⟩ := H
    go_enter Try.func20, Try.ntmps20
    go_wp2_with (first | ((with_reducible refine gate_callee (f := 37) rfl ?_); refine goesL_ (some 8) rfl rfl Try.func37 (by kernel_rfl) rfl #[.slice A0 l0.length c0, .int .i64 a1] rfl (by (try simp only [List.map_toArray, List.map_cons, List.map_nil]); first | done | rfl | (simp only [List.length_drop, List.length_take]; rfl)) ?_; (with_reducible refine (impl_isOffered.calls _ _ l0 a1 false _ ?side1 ?side2 A3.out).mono ?_); (case side1 => repeat (first | exact HR0.out | (with_reducible refine Kd.C_alloc ?_ _) | (with_reducible refine Kd.C_drewN ?_ _) | (with_reducible refine Kd.C_drew ?_))); (case side2 => exact HC0.out); rintro e w11 ⟨rfl, hb⟩; refine ⟨_, rfl, ?_⟩; have n0_ := Aside0.mk (below_step (by repeat (first | (with_reducible first | exact HB.out | apply below_alloc | apply pw_below_drewN | apply below_drew1) | exact HB.out)) hb); clear HB; have HB := n0_; clear n0_; (try clear hb); (try clear hb2); (try clear hk); (try clear hi)))
    go_ret2
    exact ⟨.slice none 0 0, by first | rfl | (simp [errW_none, errW_some] <;> rfl) | (simp [*, errW_none, errW_some] <;> rfl), Kd.R_V (base := w.heap.size) (by first | exact Kd.R_nil _ _ _ _ _ | exact Kd.N_nil _ _ _ _ _ | exact Kd.V_nil _ _ _ _ _ | exact Kd.Q_nil _ _ _ _ _ | exact Kd.S_nil _ _ _ _ _), by repeat (first | (with_reducible first | exact HB.out | apply below_alloc | apply pw_below_drewN | apply below_drew1) | exact HB.out)⟩

/-! ### laws_markIntS: function 23 -/
def laws_markIntS_p.l0 : Nat → List Int → Int → Int → Option (Int × List Int)
  | 0, _, _, _ => none
  | k + 1, x0, x1, x5 => if x5 < (x0.length : Int) then (if 0 ≤ x5 then (laws_markIntS_p.l0 k (x0.set (x5 : Int).toNat x1) (wrap64 (x1 + 1)) (wrap64 (x5 + 1))) else (none)) else (some (x1, x0))
def laws_markIntS_p.f (k : Nat) (l0 : List Int) (a1 : Int) : Option (Int × List Int) := laws_markIntS_p.l0 k l0 a1 0
theorem laws_markIntS_p.mono_l : ∀ k, (∀ y0 y1 y2, LeO (laws_markIntS_p.l0 k y0 y1 y2) (laws_markIntS_p.l0 (k + 1) y0 y1 y2))
  | 0 => fun _ _ _ r h => by simp [laws_markIntS_p.l0] at h
  | k + 1 => by
    have ih0 := laws_markIntS_p.mono_l k
    · intro y0 y1 y2
      unfold laws_markIntS_p.l0
      repeat' first
      | (with_reducible exact ih0 _ _ _)
      | (with_reducible exact LeO.refl _)
      | (with_reducible exact LeO.none _)
      | (with_reducible refine LeO.ite ?_ ?_)
      | (with_reducible refine LeO.bind ?_ (fun _ => ?_))
      | exact ih0 _ _ _
      | exact LeO.none _
      | refine LeO.ite ?_ ?_
      | refine LeO.bind ?_ (fun _ => ?_)
theorem laws_markIntS_p.mono : ∀ a0 a1 k, LeO (laws_markIntS_p.f k a0 a1) (laws_markIntS_p.f (k + 1) a0 a1) := by
  intro a0 a1 k
  have ih0 := laws_markIntS_p.mono_l k
  unfold laws_markIntS_p.f
  repeat' first
      | (with_reducible exact ih0 _ _ _)
      | (with_reducible exact LeO.refl _)
      | (with_reducible exact LeO.none _)
      | (with_reducible refine LeO.ite ?_ ?_)
      | (with_reducible refine LeO.bind ?_ (fun _ => ?_))
      | exact ih0 _ _ _
      | exact LeO.none _
      | refine LeO.ite ?_ ?_
      | refine LeO.bind ?_ (fun _ => ?_)
set_option maxHeartbeats 8000000 in
set_option maxRecDepth 100000 in
theorem laws_markIntS_p.calls (k : Nat) (P0_ : Nat → Prop) (u9000_ : Value) (l0 : List Int) (a1 : Int) (r1 : Int) (r2 : List Int) (w0 w : World) (hB : Below w0.heap.size w0 w) (ho0 : Kd.R (Kd.int .i64) 3 w w0.heap.size P0_ u9000_ l0) (h : laws_markIntS_p.f k l0 a1 = some (r1, r2)) :
    Calls Try.prog 23 #[u9000_, .int .i64 a1] w fun e w' => e = .returned (.int .i64 r1) ∧ Kd.R (Kd.int .i64) 3 w' w0.heap.size (fun k_ => (P0_ k_ ∨ w.heap.size ≤ k_)) u9000_ r2 ∧ Below w0.heap.size w0 w' ∧ Kept w w' (fun k_ => P0_ k_) := by
  have HO0 := Aside0.mk (show Kd.R (Kd.int .i64) 3 w w0.heap.size (fun k_ => (P0_ k_ ∨ w.heap.size ≤ k_)) u9000_ l0 from Kd.R_mono ho0 (fun k_ hk => (.inl hk)))
  have HK := Aside0.mk (Kept.refl w (fun k_ => P0_ k_))
  have HW0 := Aside0.mk hB.size
  have HB := Aside0.mk hB
  clear hB
  have H : (laws_markIntS_p.l0 k l0 a1 0) = some (r1, r2) := h
  clear h
  have H' := Aside0.mk H
  clear H
  go_enter Try.func23, Try.ntmps23
  go_wp2
  go_loopg [1, 5] k (fun kq v1 v5 w' => ∃ (x0_1 : List Int) (x1_1 : Int) (x5_1 : Int), v1 = .int .i64 x1_1 ∧ v5 = .int .i64 x5_1 ∧ Aside0 (laws_markIntS_p.l0 kq x0_1 x1_1 x5_1 = some (r1, r2)) ∧ Aside0 (kq ≤ k) ∧ Aside0 (Kd.R (Kd.int .i64) 3 w' w0.heap.size (fun k_ => (P0_ k_ ∨ w.heap.size ≤ k_)) u9000_ x0_1) ∧ Aside0 (Kept w w' (fun k_ => P0_ k_)) ∧ Aside0 (Below w0.heap.size w0 w'))
  case atStart => exact ⟨(l0), (a1), (0), (by first | rfl | (simp; done) | (simp [*]; done)), (by first | rfl | (simp; done) | (simp [*]; done)), H', ⟨Nat.le_refl _⟩, ⟨by (with_reducible repeat (first | apply Kd.R_alloc | apply Kd.R_drewN | apply Kd.R_drew)); exact HO0.out⟩, ⟨by repeat (first | (with_reducible first | exact HK.out | apply Kept.alloc | apply Kept.drewN | apply Kept.drew) | exact HK.out)⟩, ⟨by repeat (first | (with_reducible first | exact HB.out | apply below_alloc | apply pw_below_drewN | apply below_drew1) | exact HB.out)⟩⟩
  case round =>
    clear H'
    try clear c2
    try clear p2
    obtain ⟨x0_1, x1_1, x5_1, rfl, rfl, HA, HK1, HO_0, HK, HB⟩ := hrel
    cases gk with
    | zero => exact absurd HA.out (by simp [laws_markIntS_p.l0])
    | succ k1 =>
      have H := HA.out
      clear HA
      simp only [laws_markIntS_p.l0] at H
      by_cases c3 : x5_1 < (x0_1.length : Int)
      · rw [if_pos c3] at H
        have c3b0 : decide (x5_1 < (x0_1.length : Int)) = true := decide_eq_true c3
        clear c3
        by_cases c4 : 0 ≤ x5_1
        · rw [if_pos c4] at H
          have c4b0 : decide (0 ≤ x5_1) = true := decide_eq_true c4
          clear c4
          obtain ⟨y194, hy194⟩ : ∃ y_ : List Int, y_ = (x0_1.set (x5_1 : Int).toNat x1_1) := ⟨_, rfl⟩
          replace H : (laws_markIntS_p.l0 k1 y194 (wrap64 (x1_1 + 1)) (wrap64 (x5_1 + 1))) = some (r1, r2) := by first | (rw [hy194]; with_reducible exact H) | (have H2_ := (Option.bind_some _ _).symm.trans H; rw [hy194]; with_reducible exact H2_) | (have H2_ := (Option.bind_some _ _).symm.trans H; with_reducible exact H2_) | with_reducible exact H | (rw [hy194]; exact H) | exact H
          have Ny194 := Aside0.mk hy194
          clear hy194
          have H' := Aside0.mk H
          clear H
          obtain ⟨Ao6, co6, eo6⟩ := Kd.R_slice HO_0.out
          subst eo6
          have p5 : 0 ≤ (x5_1 : Int) := of_decide_eq_true (by first | (with_reducible assumption) | assumption)
          have q5 : (x5_1 : Int) < ((x0_1.length : Int) : Int) := of_decide_eq_true (by first | (with_reducible assumption) | assumption)
          obtain ⟨go5, co5, eo5, gb5, gl5, cl5, HG5⟩ := Kd.R_form HO_0.out (by omega)
          (first | cases eo5 | (injection eo5 with ea_ en_ ec_; (first | subst ea_ | (injection ea_ with ea_; subst ea_)); subst ec_; clear en_))
          have GB5 := Aside0.mk gb5
          have GG5 := Aside0.mk HG5
          clear gb5 gl5 HG5
          have HMgo5 := Aside0.mk (show (P0_ go5 ∨ w.heap.size ≤ go5) from (HO_0.out.1 _ rfl))
          obtain ⟨hx5_0, hf5_0⟩ := Kd.R_celln 0 HO_0.out (x5_1 : Int) p5 q5
          replace p5 := eq_true p5
          replace q5 := eq_true q5
          have HP7 := Kd.R_putg HO_0.out (x5_1 : Int) x1_1
          go_wp2_with (first | ((with_reducible refine gate_store (t := 3) (p := 15) rfl ?_); refine store_event (t := 3) (p := 15) (v := ?vo_w8) (w1 := (wr.setCell ⟨go5, (x5_1 : Int).toNat, none⟩ (.int .i64 x1_1))) ?hg ?ho ?hn ?hr ?_; (case ho => rfl); (case hg => rfl); (case hn => rfl); (case hr => first | (go_simp; done) | (go_simp; rfl)); intro w8 hw; have hg : wr.grownBy w8 (some go5) := (by rw [hw]; exact HP7.2); have hp_ : Kd.R (Kd.int .i64) 3 w8 w0.heap.size (fun k_ => (P0_ k_ ∨ w.heap.size ≤ k_)) (.slice (some ⟨go5, 0, none⟩) x0_1.length co6) y194 := (by rw [hw, Ny194.out]; exact HP7.1); clear HP7; have n0_ := Aside0.mk (hp_); have n1_ := Aside0.mk ((by rw [hw]; exact below_set (HB.out) GB5.out : Below w0.heap.size w0 w8)); have n2_ := Aside0.mk (Kept.of_grown (S := (fun k_ => P0_ k_)) hg (by repeat (first | (with_reducible first | exact HK.out | apply Kept.alloc | apply Kept.drewN | apply Kept.drew) | exact HK.out)) (fun k_ e_ => (HO_0.out.1 k_ e_))); clear HO_0; clear HB; clear HK; have HO_0 := n0_; have HB := n1_; have HK := n2_; clear n0_ n1_ n2_; clear hg hw hp_))
          go_roundg k1
          case measure => have := HK1.out; omega
          case rel => exact ⟨(y194), (wrap64 (x1_1 + 1)), (wrap64 (x5_1 + 1)), (by first | rfl | (simp; done) | (simp [*]; done)), (by first | rfl | (simp; done) | (simp [*]; done)), H', ⟨by have := HK1.out; omega⟩, ⟨by (with_reducible repeat (first | apply Kd.R_alloc | apply Kd.R_drewN | apply Kd.R_drew)); exact HO_0.out⟩, ⟨by repeat (first | (with_reducible first | exact HK.out | apply Kept.alloc | apply Kept.drewN | apply Kept.drew) | exact HK.out)⟩, ⟨by repeat (first | (with_reducible first | exact HB.out | apply below_alloc | apply pw_below_drewN | apply below_drew1) | exact HB.out)⟩⟩
        · rw [if_neg c4] at H
          exact absurd H (by simp)
      · rw [if_neg c3] at H
        have c3b0 : decide (x5_1 < (x0_1.length : Int)) = false := decide_eq_false c3
        clear c3
        simp only [Option.some.injEq, Prod.mk.injEq] at H
        obtain ⟨rfl, rfl⟩ := H
        obtain ⟨Ao9, co9, eo9⟩ := Kd.R_slice HO_0.out
        subst eo9
        go_wp2
        go_ret
        exact ⟨by first | rfl | (simp [errW_none, errW_some] <;> rfl) | (simp [*, errW_none, errW_some] <;> rfl), by (with_reducible repeat (first | apply Kd.R_alloc | apply Kd.R_drewN | apply Kd.R_drew)); exact HO_0.out, by repeat (first | (with_reducible first | exact HB.out | apply below_alloc | apply pw_below_drewN | apply below_drew1) | exact HB.out), by repeat (first | (with_reducible first | exact HK.out | apply Kept.alloc | apply Kept.drewN | apply Kept.drew) | exact HK.out)⟩

theorem laws_markIntS_p.run : ∀ (s : List Int) (i : Nat) (y : List Int) (c : Int), y.drop i = s → y.length ≤ 1048576 → 0 ≤ c → c + s.length ≤ 4194304 → laws_markIntS_p.l0 (s.length + 1) y c (i : Int) = some (c + s.length, y.take i ++ M.upFrom c s.length)
  | [], i, y, c, hd, hy, h0, h1 => by
    have h1 := M.drop_nil hd
    rw [laws_markIntS_p.l0, if_neg (by omega), List.take_of_length_le h1]
    simp [M.upFrom]
  | x :: s, i, y, c, hd, hy, h0, h1 => by
    obtain ⟨g1, g2, g3, g4⟩ := M.drop_cons hd
    rw [List.length_cons] at h1
    rw [List.length_cons, laws_markIntS_p.l0, if_pos (by omega), if_pos (by omega), Int.toNat_natCast, M.wrap_succ (by omega), M.wrap_id (x := c + 1) (by omega) (by omega)]
    rw [laws_markIntS_p.run s (i + 1) (y.set i c) (c + 1) (by rw [List.drop_set_of_lt (by omega)]; exact g3) (by rw [List.length_set]; exact hy) (by omega) (by omega)]
    congr 1
    congr 1
    · omega
    · rw [M.upFrom, List.take_add_one, List.getElem?_set_self g1, List.take_set_of_le (Nat.le_refl _)]
      simp

def laws_markIntS.f (l0 : List Int) (a1 : Int) : Option (Int × List Int) := if l0.length ≤ 1048576 ∧ 0 ≤ a1 ∧ a1 ≤ 2097152 then some (a1 + l0.length, M.upFrom a1 l0.length) else none
theorem laws_markIntS.ok (l0 : List Int) (a1 : Int) (r1 : Int) (r2 : List Int) (h : laws_markIntS.f l0 a1 = some (r1, r2)) : ∃ k, laws_markIntS_p.f k l0 a1 = some (r1, r2) := by
  unfold laws_markIntS.f at h
  split at h
  · rename_i hb
    simp only [Option.some.injEq, Prod.mk.injEq] at h
    obtain ⟨rfl, rfl⟩ := h
    refine ⟨l0.length + 1, ?_⟩
    have := laws_markIntS_p.run l0 0 l0 a1 rfl hb.1 hb.2.1 (by omega)
    rw [List.take_zero, List.nil_append] at this
    exact this
  · cases h
theorem laws_markIntS.calls (P0_ : Nat → Prop) (u9000_ : Value) (l0 : List Int) (a1 : Int) (r1 : Int) (r2 : List Int) (w0 w : World) (hB : Below w0.heap.size w0 w) (ho0 : Kd.R (Kd.int .i64) 3 w w0.heap.size P0_ u9000_ l0) (h : laws_markIntS.f l0 a1 = some (r1, r2)) :
    Calls Try.prog 23 #[u9000_, .int .i64 a1] w fun e w' => e = .returned (.int .i64 r1) ∧ Kd.R (Kd.int .i64) 3 w' w0.heap.size (fun k_ => (P0_ k_ ∨ w.heap.size ≤ k_)) u9000_ r2 ∧ Below w0.heap.size w0 w' ∧ Kept w w' (fun k_ => P0_ k_) := by
  obtain ⟨k, hk⟩ := laws_markIntS.ok l0 a1 r1 r2 h
  exact laws_markIntS_p.calls k P0_ u9000_ l0 a1 r1 r2 w0 w hB ho0 hk

theorem laws_markIntS.eq (l : List Int) (h : l.length ≤ 1048576) : laws_markIntS.f l 1 = some (1 + (l.length : Int), M.upFrom 1 l.length) := by
  unfold laws_markIntS.f
  rw [if_pos ⟨h, by omega, by omega⟩]

/-! ### laws_heldIntS: function 24 -/
def laws_heldIntS_p.l0 : Nat → List Int → Int → Int → Option (Int)
  | 0, _, _, _ => none
  | k + 1, x0, x1, x5 => if x5 < (x0.length : Int) then (if 0 ≤ x5 then (if (rd x0 x5) = x1 then (laws_heldIntS_p.l0 k x0 (wrap64 (x1 + 1)) (wrap64 (x5 + 1))) else (some (-1))) else (none)) else (some x1)
def laws_heldIntS_p.f (k : Nat) (l0 : List Int) (a1 : Int) : Option (Int) := laws_heldIntS_p.l0 k l0 a1 0
theorem laws_heldIntS_p.mono_l : ∀ k, (∀ y0 y1 y2, LeO (laws_heldIntS_p.l0 k y0 y1 y2) (laws_heldIntS_p.l0 (k + 1) y0 y1 y2))
  | 0 => fun _ _ _ r h => by simp [laws_heldIntS_p.l0] at h
  | k + 1 => by
    have ih0 := laws_heldIntS_p.mono_l k
    · intro y0 y1 y2
      unfold laws_heldIntS_p.l0
      repeat' first
      | (with_reducible exact ih0 _ _ _)
      | (with_reducible exact LeO.refl _)
      | (with_reducible exact LeO.none _)
      | (with_reducible refine LeO.ite ?_ ?_)
      | (with_reducible refine LeO.bind ?_ (fun _ => ?_))
      | exact ih0 _ _ _
      | exact LeO.none _
      | refine LeO.ite ?_ ?_
      | refine LeO.bind ?_ (fun _ => ?_)
theorem laws_heldIntS_p.mono : ∀ a0 a1 k, LeO (laws_heldIntS_p.f k a0 a1) (laws_heldIntS_p.f (k + 1) a0 a1) := by
  intro a0 a1 k
  have ih0 := laws_heldIntS_p.mono_l k
  unfold laws_heldIntS_p.f
  repeat' first
      | (with_reducible exact ih0 _ _ _)
      | (with_reducible exact LeO.refl _)
      | (with_reducible exact LeO.none _)
      | (with_reducible refine LeO.ite ?_ ?_)
      | (with_reducible refine LeO.bind ?_ (fun _ => ?_))
      | exact ih0 _ _ _
      | exact LeO.none _
      | refine LeO.ite ?_ ?_
      | refine LeO.bind ?_ (fun _ => ?_)
set_option maxHeartbeats 8000000 in
set_option maxRecDepth 100000 in
theorem laws_heldIntS_p.calls (k : Nat) (A0 : Option Addr) (c0 : Nat) (l0 : List Int) (a1 : Int) (r : Int) (w : World) (hr0 : Kd.C (Kd.int .i64) w A0 l0.length l0) (hc0 : l0.length ≤ c0) (h : laws_heldIntS_p.f k l0 a1 = some r) :
    Calls Try.prog 24 #[.slice A0 l0.length c0, .int .i64 a1] w fun e w' => e = .returned (.int .i64 r) ∧ Drawn0 w w' := by
  have HR0 := Aside0.mk hr0
  have HC0 := Aside0.mk hc0
  clear hr0 hc0
  have H : (laws_heldIntS_p.l0 k l0 a1 0) = some r := h
  clear h
  have H' := Aside0.mk H
  clear H
  go_enter Try.func24, Try.ntmps24
  go_wp2
  go_loopg [1, 5] k (fun kq v1 v5 w' => ∃ (x1_1 : Int) (x5_1 : Int), v1 = .int .i64 x1_1 ∧ v5 = .int .i64 x5_1 ∧ Aside0 (laws_heldIntS_p.l0 kq l0 x1_1 x5_1 = some r) ∧ Aside0 (kq ≤ k) ∧ Drawn0 w w')
  case atStart => exact ⟨(a1), (0), (by first | rfl | (simp; done) | (simp [*]; done)), (by first | rfl | (simp; done) | (simp [*]; done)), H', ⟨Nat.le_refl _⟩, by repeat (first | exact Drawn0.refl _ | apply Drawn0.step)⟩
  case round =>
    clear H'
    try clear c2
    try clear p2
    obtain ⟨x1_1, x5_1, rfl, rfl, HA, HK1, ⟨m1, rfl⟩⟩ := hrel
    cases gk with
    | zero => exact absurd HA.out (by simp [laws_heldIntS_p.l0])
    | succ k1 =>
      have H := HA.out
      clear HA
      simp only [laws_heldIntS_p.l0] at H
      by_cases c3 : x5_1 < (l0.length : Int)
      · rw [if_pos c3] at H
        have c3b0 : decide (x5_1 < (l0.length : Int)) = true := decide_eq_true c3
        clear c3
        by_cases c4 : 0 ≤ x5_1
        · rw [if_pos c4] at H
          have c4b0 : decide (0 ≤ x5_1) = true := decide_eq_true c4
          clear c4
          by_cases c5 : (rd l0 x5_1) = x1_1
          · rw [if_pos c5] at H
            have c5b0 : ((rd l0 x5_1) == x1_1) = true := beq_iff_eq.mpr c5
            have c5b1 : ((rd l0 x5_1) != x1_1) = false := bne_eq_false_iff_eq.mpr c5
            clear c5
            have H' := Aside0.mk H
            clear H
            have p195 : 0 ≤ (x5_1 : Int) := of_decide_eq_true (by first | (with_reducible assumption) | assumption)
            have q195 : x5_1 < (l0.length : Int) := of_decide_eq_true (by first | (with_reducible assumption) | assumption)
            obtain ⟨ad195, e195, hx195_0⟩ := Kd.at_int HR0.out x5_1 p195 q195
            cases e195
            replace p195 := eq_true p195
            replace q195 := eq_true q195
            go_wp2
            go_roundg k1
            case measure => have := HK1.out; omega
            case rel => exact ⟨(wrap64 (x1_1 + 1)), (wrap64 (x5_1 + 1)), (by first | rfl | (simp; done) | (simp [*]; done)), (by first | rfl | (simp; done) | (simp [*]; done)), H', ⟨by have := HK1.out; omega⟩, by repeat (first | exact Drawn0.refl _ | apply Drawn0.step)⟩
          · rw [if_neg c5] at H
            have c5b0 : ((rd l0 x5_1) == x1_1) = false := beq_eq_false_iff_ne.mpr c5
            have c5b1 : ((rd l0 x5_1) != x1_1) = true := bne_iff_ne.mpr c5
            obtain rfl := Option.some.inj H
            have p195 : 0 ≤ (x5_1 : Int) := of_decide_eq_true (by first | (with_reducible assumption) | assumption)
            have q195 : x5_1 < (l0.length : Int) := of_decide_eq_true (by first | (with_reducible assumption) | assumption)
            obtain ⟨ad195, e195, hx195_0⟩ := Kd.at_int HR0.out x5_1 p195 q195
            cases e195
            replace p195 := eq_true p195
            replace q195 := eq_true q195
            go_wp2
            go_ret
            exact ⟨by first | rfl | (simp; done) | (simp [*]; done), by repeat (first | exact Drawn0.refl _ | apply Drawn0.step)⟩
        · rw [if_neg c4] at H
          exact absurd H (by simp)
      · rw [if_neg c3] at H
        have c3b0 : decide (x5_1 < (l0.length : Int)) = false := decide_eq_false c3
        clear c3
        obtain rfl := Option.some.inj H
        go_wp2
        go_ret
        exact ⟨by first | rfl | (simp; done) | (simp [*]; done), by repeat (first | exact Drawn0.refl _ | apply Drawn0.step)⟩

theorem laws_heldIntS_p.run (l : List Int) (hl : l.length ≤ 1048576) : ∀ (s : List Int) (i : Nat) (c : Int), l.drop i = s → 0 ≤ c → c + s.length ≤ 4194304 → laws_heldIntS_p.l0 (s.length + 1) l c (i : Int) = some (if s = M.upFrom c s.length then c + s.length else -1)
  | [], i, c, hd, h0, h1 => by
    have h1 := M.drop_nil hd
    rw [laws_heldIntS_p.l0, if_neg (by omega)]
    simp [M.upFrom]
  | x :: s, i, c, hd, h0, h1 => by
    obtain ⟨g1, g2, g3, g4⟩ := M.drop_cons hd
    rw [List.length_cons] at h1
    rw [List.length_cons, laws_heldIntS_p.l0, if_pos (by omega), if_pos (by omega), M.rd_at g2, M.wrap_succ (by omega), M.wrap_id (x := c + 1) (by omega) (by omega), M.upFrom]
    by_cases e : x = c
    · rw [if_pos e, laws_heldIntS_p.run l hl s (i + 1) (c + 1) g3 (by omega) (by omega)]
      subst e
      by_cases e2 : s = M.upFrom (x + 1) s.length
      · rw [if_pos e2, if_pos (by rw [← e2])]
        congr 1; omega
      · rw [if_neg e2, if_neg (fun z => e2 (List.cons.inj z).2)]
    · rw [if_neg e, if_neg (fun z => e (List.cons.inj z).1)]

def laws_heldIntS.f (l0 : List Int) (a1 : Int) : Option (Int) := if l0.length ≤ 1048576 ∧ 0 ≤ a1 ∧ a1 ≤ 2097152 then some (if l0 = M.upFrom a1 l0.length then a1 + l0.length else -1) else none
theorem laws_heldIntS.ok (l0 : List Int) (a1 : Int) (r : Int) (h : laws_heldIntS.f l0 a1 = some r) : ∃ k, laws_heldIntS_p.f k l0 a1 = some r := by
  unfold laws_heldIntS.f at h
  split at h
  · rename_i hb
    obtain rfl := Option.some.inj h
    exact ⟨l0.length + 1, laws_heldIntS_p.run l0 hb.1 l0 0 a1 rfl hb.2.1 (by omega)⟩
  · cases h
theorem laws_heldIntS.calls (A0 : Option Addr) (c0 : Nat) (l0 : List Int) (a1 : Int) (r : Int) (w : World) (hr0 : Kd.C (Kd.int .i64) w A0 l0.length l0) (hc0 : l0.length ≤ c0) (h : laws_heldIntS.f l0 a1 = some r) :
    Calls Try.prog 24 #[.slice A0 l0.length c0, .int .i64 a1] w fun e w' => e = .returned (.int .i64 r) ∧ Drawn0 w w' := by
  obtain ⟨k, hk⟩ := laws_heldIntS.ok l0 a1 r h
  exact laws_heldIntS_p.calls k A0 c0 l0 a1 r w hr0 hc0 hk

theorem laws_heldIntS.eq (n : Nat) (h : n ≤ 1048576) : laws_heldIntS.f (M.upFrom 1 n) 1 = some (1 + (n : Int)) := by
  unfold laws_heldIntS.f
  rw [M.upFrom_length, if_pos ⟨h, by omega, by omega⟩, if_pos rfl]

end Go.Proofs.Ytdgpplnfkifkgaa.PFnExactBestTable
