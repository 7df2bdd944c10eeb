/- Contracts of the Go functions that the law FnExactDropOffer reaches, printed by a program of this session over the kit's print: each call comes to what the Lean function beside it says. Conditions: those that each theorem names. -/
import Derived.Test.YtdgpplnfkifkgaaPFnExactDropOfferx0
import Derived.Test.YtdgpplnfkifkgaaPFnExactDropOfferx2
namespace Go.Proofs.Ytdgpplnfkifkgaa.PFnExactDropOffer
open Go.RowKit Go.Proofs.YtdgpplnfkifkgaaW.PrintWords Go.Proofs.YtdgpplnfkifkgaaW.PrintLast Go.Proofs.YtdgpplnfkifkgaaW.PrintMore
attribute [local go_sem] max2_int min2_int max_two min_two max_three min_three max_four min_four   -- for this text's walks alone
set_option linter.unusedVariables false
set_option linter.unusedSimpArgs false

/-! ### spec_l6Rows: function 35 -/
def spec_l6Rows.f (l0 : List (S59)) (a1 : Int) : Option ((List (List Int))) := if (0 ≤ a1 ∧ a1 ≤ 1000) ∧ l0.length ≤ 1048576 ∧ (∀ x ∈ l0, x.f0.length ≤ 1048576) then some (M.rowsFrom (fun x : S59 => x.f0) (List.replicate (a1 + 1).toNat 0) l0) else none
theorem spec_gain_eq (g : List Int) {c : Nat} (h1 : 1 ≤ c) (h2 : c ≤ g.length) (hl : g.length ≤ 1048576) : spec_l6Gain.f g (c : Int) = some (M.gainAt g (c : Int)) := by
  unfold spec_l6Gain.f M.gainAt
  have h0 : ¬ (c : Int) = 0 := by omega
  rw [M.wrap_id (x := (c : Int) - 1) (by omega) (by omega), if_neg h0, if_pos (by omega), if_pos (by omega), if_neg h0]
def spec_l6Rows.T14 : Bool × List (List Nat × List Nat) := (true, [([], []), ([], []), ([], []), ([1, 2], [1, 2]), ([0, 3], [0, 3]), ([4], [4]), ([], []), ([], []), ([6, 7], [6, 7]), ([5, 8], [5, 8]), ([9, 8, 0, 1, 2, 3, 4, 5, 6, 7, 8, 9], [9])])
def spec_l6Rows.B14 : List Nat := [0, 0, 0, 6, 15, 31, 0, 0, 192, 511, 1023]
theorem spec_l6Rows.tab14 : rtab .any (opsOf Try.f35 14) = spec_l6Rows.T14 := by kernel_rfl
theorem spec_l6Rows.bits14 : waitsOk spec_l6Rows.T14.2 spec_l6Rows.B14 = true := by kernel_rfl

set_option maxHeartbeats 8000000 in
set_option maxRecDepth 100000 in
theorem spec_l6Rows.calls (A0 : Option Addr) (c0 : Nat) (l0 : List (S59)) (a1 : Int) (r : List (List Int)) (w : World) (hr0 : Kd.C k59 w A0 l0.length l0) (hc0 : l0.length ≤ c0) (h : spec_l6Rows.f l0 a1 = some r) :
    Calls Try.prog 35 #[.slice A0 l0.length c0, .int .i64 a1] w fun e w' => ∃ v0_ : Value, e = .returned (v0_) ∧ Kd.N (Kd.slice 3 (Kd.int .i64)) 22 w' w.heap.size (fun k_ => (w.heap.size ≤ k_)) v0_ r ∧ Below w.heap.size w w' := by
  unfold spec_l6Rows.f at h
  by_cases hg : (0 ≤ a1 ∧ a1 ≤ 1000) ∧ l0.length ≤ 1048576 ∧ (∀ x ∈ l0, x.f0.length ≤ 1048576)
  case neg => rw [if_neg hg] at h; exact absurd h (by simp)
  rw [if_pos hg] at h
  obtain ⟨⟨ha0, ha1⟩, hl, hx⟩ := hg
  obtain ⟨n1, hn1⟩ : ∃ n : Nat, a1 + 1 = (n : Int) := ⟨(a1 + 1).toNat, by omega⟩
  have e1 : (a1 + 1).toNat = n1 := by omega
  rw [e1] at h
  obtain ⟨Z, hZ⟩ : ∃ Z : List Int, List.replicate n1 0 = Z := ⟨_, rfl⟩
  have hZl : Z.length = n1 := by rw [← hZ, List.length_replicate]
  rw [hZ] at h
  obtain rfl := Option.some.inj h
  clear h
  obtain ⟨RS, hRS⟩ : ∃ RS, M.rowsFrom (fun x : S59 => x.f0) Z l0 = RS := ⟨_, rfl⟩
  rw [hRS]
  have hu59 := Try.underlying59
  have HR0 := Aside0.mk hr0
  have HC0 := Aside0.mk hc0
  have HX := Aside0.mk hx
  have HL0 := Aside0.mk hl
  have EZ := Aside0.mk hZ
  have LZ := Aside0.mk hZl
  have ER := Aside0.mk hRS
  clear hr0 hc0 hx hl hZ hZl hRS
  have HB := Aside0.mk (Below.refl w.heap.size w)
  have hw1 : IntKind.i64.wrap (a1 + 1) = (n1 : Int) := (i64_w _).trans (by rw [M.wrap_id (by omega) (by omega)]; exact hn1)
  have c4b0 : (0 ≤ (n1 : Int)) = True := eq_true (by omega)
  have c4b1 : decide (0 ≤ (n1 : Int)) = true := decide_eq_true (by omega)
  have c5b1 : decide (((n1 : Int)).toNat ≤ 35184372088832) = true := decide_eq_true (by omega)
  have hn2 : Aside0 (1 ≤ n1 ∧ n1 ≤ 1001) := ⟨by omega⟩
  clear hn1 ha0 ha1 e1
  go_enter Try.func35, Try.ntmps35
  go_wp2_with (first | ((with_reducible refine gate_dst (N := 16) rfl ?_); refine Kd.R_make (Kd.int .i64) _ 3 rfl (N := 16) rfl 22 _ _ rfl (n1 : Int) rfl rfl Try.underlying22 (.int .i64 0) 8 info3 rfl (by decide) (by omega) 0 (ok := fun _ => True) (okp := fun _ => True) rfl (fun _ hk => hk) trivial (of_decide_eq_true (by first | (with_reducible assumption) | assumption)) (Nat.le_trans (Nat.mul_le_mul_right _ (of_decide_eq_true (by first | (with_reducible assumption) | assumption) : ((n1 : Int)).toNat ≤ 35184372088832)) (by omega)) (Below.refl _ _) (Nat.le_refl _) ?_; intro v174 w6 ho7 hb hg_ hnew_; clear hg_ hnew_; rw [Int.toNat_natCast, EZ.out] at ho7; have n0_ := Aside0.mk (Kd.R_lower (Kd.R_newM (M := fun k_ => (w.heap.size ≤ k_)) ho7 (below_size (by repeat (first | (with_reducible first | exact HB.out | apply below_alloc | apply pw_below_drewN | apply below_drew1) | exact HB.out))) (fun k_ h_ => h_)) (below_size (by repeat (first | (with_reducible first | exact HB.out | apply below_alloc | apply pw_below_drewN | apply below_drew1) | exact HB.out)))); have n1_ := Aside0.mk (below_step (by repeat (first | (with_reducible first | exact HB.out | apply below_alloc | apply pw_below_drewN | apply below_drew1) | exact HB.out)) hb); clear HB; have HO175 := n0_; have HB := n1_; clear n0_ n1_; clear hb ho7; obtain ⟨Ao8, co8, eo8⟩ := Kd.R_slice HO175.out; subst eo8) | ((with_reducible refine gate_dst (N := 18) rfl ?_); refine Kd.N_lit (Kd.slice 3 (Kd.int .i64)) _ 22 ?hg (N' := 18) ?hd (xs := ([Z] : List (List Int))) (inner := [.slice Ao8 Z.length co8]) (ok := (fun k_ => (w.heap.size ≤ k_))) (okp := (fun k_ => (w.heap.size ≤ k_))) ?hr ?hp (fun _ hk => hk) ((show ∀ k_, w6.heap.size ≤ k_ → (fun k_ => (w.heap.size ≤ k_)) k_ from fun k_ hk => (Nat.le_trans (below_size (by repeat (first | (with_reducible first | exact HB.out | apply below_alloc | apply pw_below_drewN | apply below_drew1) | exact HB.out))) hk)) _ (Nat.le_refl _)) (Below.refl _ _) (Nat.le_refl _) (by simp) ?_; (case hd => rfl); (case hg => rfl); (case hr => first | (go_simp; done) | (go_simp; rfl)); (case hp => exact (Reps.one (show Kd.FK (Kd.slice 3 (Kd.int .i64)) _ _ Z [.slice Ao8 Z.length co8] from (Kd.FK_slice_mk (Kd.R_reads' (Kd.R_mono (ok' := (fun k_ => (w.heap.size ≤ k_))) (HO175.out) (fun k_ hk => hk.1))).2.1 (Kd.R_F (Kd.R_mono (ok' := (fun k_ => (w.heap.size ≤ k_))) (HO175.out) (fun k_ hk => hk.1))))) (Reps.none _ _))); intro v177 w9 ho10 hb hg_ hnew_; clear hg_ hnew_; have n0_ := Aside0.mk (Kd.N_lower ho10 (below_size (by repeat (first | (with_reducible first | exact HB.out | apply below_alloc | apply pw_below_drewN | apply below_drew1) | exact HB.out)))); have n1_ := Aside0.mk (below_step (by repeat (first | (with_reducible first | exact HB.out | apply below_alloc | apply pw_below_drewN | apply below_drew1) | exact HB.out)) hb); have hr_ : Kd.R (Kd.int .i64) 3 w9 w.heap.size (fun k_ => (w.heap.size ≤ k_)) (.slice Ao8 Z.length co8) Z := Kd.R_below (by (with_reducible repeat (first | apply Kd.R_alloc | apply Kd.R_drewN | apply Kd.R_drew)); exact Kd.R_mono HO175.out (fun k_ hk => hk.1)) hb; have HV := Aside0.mk (Kd.R_V (base' := w.heap.size) hr_); clear hr_; clear HB HO175; have HO178 := n0_; have HB := n1_; clear n0_ n1_; clear hb ho10))
  go_loopg [5, 6, 21] l0.length (fun gg v5 v6 v21 w' => ∃ (x6 : List (List Int)) (row : List Int) (j : Int), v21 = .int .i64 j ∧ Aside0 (0 ≤ j ∧ j ≤ (l0.length : Int) ∧ l0.length - j.toNat ≤ gg) ∧ Aside0 (x6 = RS.take (j.toNat + 1)) ∧ Aside0 (RS.getD j.toNat [] = row) ∧ Aside0 (Kd.V (Kd.int .i64) 3 w' w.heap.size (fun k_ => (w.heap.size ≤ k_)) v5 row) ∧ Aside0 (Kd.N (Kd.slice 3 (Kd.int .i64)) 22 w' w.heap.size (fun k_ => (w.heap.size ≤ k_)) v6 x6) ∧ Aside0 (Below w.heap.size w w'))
  case atStart => exact ⟨[Z], Z, 0, rfl, ⟨by omega⟩, ⟨by rw [← ER.out]; exact (M.rowsFrom_zero _ _ _).symm⟩, ⟨by rw [← ER.out]; exact M.rowsFrom_head _ _ _⟩, ⟨by (with_reducible repeat (first | apply Kd.V_alloc | apply Kd.V_drewN | apply Kd.V_drew)); exact HV.out⟩, ⟨by (with_reducible repeat (first | apply Kd.N_alloc | apply Kd.N_drewN | apply Kd.N_drew)); exact HO178.out⟩, ⟨(by repeat (first | (with_reducible first | exact HB.out | apply below_alloc | apply pw_below_drewN | apply below_drew1) | exact HB.out))⟩⟩
  case round =>
    clear HB HO178 HV
    obtain ⟨x6, row, j, rfl, HI, EX, ERow, HV, HO_5, HB⟩ := hrel
    by_cases hlt : j < (l0.length : Int)
    case neg =>
      have c11b0 : decide (j < (l0.length : Int)) = false := decide_eq_false hlt
      have hlen : Aside0 (x6 = RS) := ⟨by have h1 := EX.out; have h2 := HI.out; have h3 : j.toNat = l0.length := by omega
                                          rw [h1, ← ER.out, h3]; exact M.rowsFrom_whole _ _ _⟩
      clear hlt
      go_wp2
      go_ret
      exact ⟨_, rfl, by (with_reducible repeat (first | apply Kd.N_alloc | apply Kd.N_drewN | apply Kd.N_drew)); exact hlen.out ▸ HO_5.out, (by repeat (first | (with_reducible first | exact HB.out | apply below_alloc | apply pw_below_drewN | apply below_drew1) | exact HB.out))⟩
    have p1 : 0 ≤ j := HI.out.1
    have q1 : j < (l0.length : Int) := hlt
    have c11b0 : decide (j < (l0.length : Int)) = true := decide_eq_true hlt
    obtain ⟨adl, Ag, cg, eA, hxl, hlg, hig⟩ := at_T59 HR0.out j p1 q1
    cases eA
    replace hxl := (HB.out.cell (World.block_lt_of_cell? w _ hxl)).trans hxl
    have HGL : Aside0 ((rd_T59 l0 j).f0.length ≤ 1048576) := ⟨HX.out _ (by unfold rd_T59; rw [List.getD_eq_getElem?_getD, List.getElem?_eq_getElem (show j.toNat < l0.length by omega)]; exact List.getElem_mem _)⟩
    have HG1 : Aside0 (l0.getD j.toNat z59 = rd_T59 l0 j) := ⟨rfl⟩
    generalize rd_T59 l0 j = og at hxl hlg hig HGL HG1
    have HLG := Aside0.mk hlg
    have HIG := Aside0.mk hig
    clear hlg hig
    have HX5 : Aside0 (x6.length = j.toNat + 1) := ⟨by rw [EX.out, ← ER.out, List.length_take, M.rowsFrom_length]; omega⟩
    have HRL : Aside0 (row.length = n1) := ⟨by rw [← ERow.out, ← ER.out]; exact M.rowsFrom_at _ _ _ LZ.out (by omega)⟩
    clear hlt
    obtain ⟨Ar, cr, er, hlr, hFr⟩ := HV.out
    subst er
    clear HV
    have HF := Aside0.mk hFr
    clear hFr hlr
    obtain ⟨go, co5, e5, hgo1, hgo2, hgo3⟩ := Kd.N_form HO_5.out (by have := HX5.out; omega)
    subst e5
    clear hgo1 hgo2 hgo3
    have P1 := Aside0.mk p1
    have Q1 := Aside0.mk q1
    replace p1 := eq_true p1
    replace q1 := eq_true q1
    go_wp2_with (first | ((with_reducible refine gate_dst (N := 8) rfl ?_); refine box_event ?hg (N := 8) ?hd (cs := #[.slice none 0 0]) (t := 59) ?hr ?_; (case hd => rfl); (case hg => rfl); (case hr => first | (go_simp; done) | (go_simp; rfl)); intro gb hg wb hbox hb; have n0_ := Aside0.mk (Kd.N_below (Kd.N_elderB (by (with_reducible repeat (first | apply Kd.N_alloc | apply Kd.N_drewN | apply Kd.N_drew)); exact HO_5.out) gb (Nat.le_of_eq hg.symm)) hb); have n3_ := Aside0.mk (Kd.F_below (Kd.F_elderB (by (with_reducible repeat (first | apply Kd.F_alloc | apply Kd.F_drewN | apply Kd.F_drew)); exact HF.out) gb (Nat.le_of_eq hg.symm)) hb); have n1_ := Aside0.mk (below_step (by repeat (first | (with_reducible first | exact HB.out | apply below_alloc | apply pw_below_drewN | apply below_drew1) | exact HB.out)) hb); have BK := Aside0.mk hbox; have GE := Aside0.mk ((by rw [hg]; exact (below_size (by repeat (first | (with_reducible first | exact HB.out | apply below_alloc | apply pw_below_drewN | apply below_drew1) | exact HB.out))) : w.heap.size ≤ gb)); clear HO_5 HB HF; have HO_5 := n0_; have HB := n1_; have HF := n3_; clear n0_ n1_ n3_; clear hb hbox hg; have hcz : wb.cell? ⟨gb, 0, none⟩ = some (.slice none 0 0) := (blk_cell BK.out 0).trans rfl; have hfz := blk_frozen BK.out 0) | ((with_reducible refine gate_store (t := 59) (p := 8) rfl ?_); refine store_event (t := 59) (p := 8) (v := ?vo_b) (w1 := (wb.setCell ⟨gb, 0, none⟩ (.slice Ag og.f0.length cg))) ?hg ?ho ?hn ?hr ?_; (case ho => rfl); (case hg => rfl); (case hn => rfl); (case hr => first | (go_simp; done) | (go_simp; rfl)); intro ws hw; have n0_ : Aside0 (Kd.N (Kd.slice 3 (Kd.int .i64)) 22 ws w.heap.size (fun k_ => (w.heap.size ≤ k_) ∧ k_ ≠ gb) (.slice (some ⟨go, 0, none⟩) x6.length co5) x6) := ⟨(by rw [hw]; exact Kd.N_far (p := ⟨gb, 0, none⟩) HO_5.out (fun _ hk => hk.2) _)⟩; have n3_ : Aside0 (Kd.F (Kd.int .i64) ws (fun k_ => (w.heap.size ≤ k_) ∧ k_ ≠ gb) Ar row.length row) := ⟨(by rw [hw]; exact Kd.F_far (p := ⟨gb, 0, none⟩) HF.out (fun _ hk => hk.2) _)⟩; have n1_ : Aside0 (ws.heap[gb]? = some (.cells #[.slice Ag og.f0.length cg] 59 (0, 0))) := ⟨(by rw [hw]; exact blk_put (cs := #[.slice none 0 0]) BK.out 0 _ rfl)⟩; have n2_ : Aside0 (Below w.heap.size w ws) := ⟨(by rw [hw]; exact below_set HB.out GE.out)⟩; clear hw HO_5 BK HB HF hcz hfz; have HO_5 := n0_; have BK := n1_; have HB := n2_; have HF := n3_; clear n0_ n1_ n2_ n3_) | ((with_reducible refine gate_dst (N := 27) rfl ?_); refine Kd.R_make (Kd.int .i64) _ 3 rfl (N := 27) rfl 22 _ _ rfl (n1 : Int) rfl rfl Try.underlying22 (.int .i64 0) 8 info3 rfl (by decide) (by omega) 0 (ok := fun _ => True) (okp := fun _ => True) rfl (fun _ hk => hk) trivial (of_decide_eq_true (by first | (with_reducible assumption) | assumption)) (Nat.le_trans (Nat.mul_le_mul_right _ (of_decide_eq_true (by first | (with_reducible assumption) | assumption) : ((n1 : Int)).toNat ≤ 35184372088832)) (by omega)) (Below.refl _ _) (Nat.le_refl _) ?_; intro vt wt ho7 hb hg_ hnew_; clear hg_ hnew_; rw [Int.toNat_natCast, EZ.out] at ho7; obtain ⟨gt, ct, et, hgt1, hgt2, cst, hgt3⟩ := Kd.R_form ho7 (by have := LZ.out; have := hn2.out; omega); subst et; have n0_ := Aside0.mk (Kd.N_elder' (by (with_reducible repeat (first | apply Kd.N_alloc | apply Kd.N_drewN | apply Kd.N_drew)); exact HO_5.out) (Kd.R_base ho7) hb); have n1_ := Aside0.mk (Kd.F_elder' (by (with_reducible repeat (first | apply Kd.F_alloc | apply Kd.F_drewN | apply Kd.F_drew)); exact HF.out) (Kd.R_base ho7) hb); have n2_ := Aside0.mk (Kd.R_tight rfl (Kd.R_lower ho7 (below_size (by repeat (first | (with_reducible first | exact HB.out | apply below_alloc | apply pw_below_drewN | apply below_drew1) | exact HB.out))))); have n3_ := Aside0.mk (blk_below (by (with_reducible repeat (first | refine blk_drewN ?_ _ | refine blk_drew ?_ | refine blk_alloc ?_ _)); exact BK.out) hb); have n5_ := Aside0.mk (below_step (by repeat (first | (with_reducible first | exact HB.out | apply below_alloc | apply pw_below_drewN | apply below_drew1) | exact HB.out)) hb); have GT : Aside0 (w.heap.size ≤ gt) := ⟨Nat.le_trans (below_size (by repeat (first | (with_reducible first | exact HB.out | apply below_alloc | apply pw_below_drewN | apply below_drew1) | exact HB.out))) hgt1⟩; have BT := Aside0.mk hgt3; clear HO_5 HF BK HB hgt1 hgt2 hgt3; have HO_5 := n0_; have HF := n1_; have HT := n2_; have BK := n3_; have HB := n5_; clear n0_ n1_ n2_ n3_ n5_ hb ho7))
    have KB : Aside0 (∀ W, Kept wt W (fun k_ => k_ = gt) → W.cell? ⟨gb, 0, none⟩ = some (.slice Ag og.f0.length cg)) := ⟨fun W hk => (blk_cell (blk_kept BK.out hk (fun e => by subst e; exact absurd (BK.out.symm.trans BT.out) (by simp))) 0).trans rfl⟩
    have KR : Aside0 (∀ W, Kept wt W (fun k_ => k_ = gt) → Kd.C (Kd.int .i64) W Ar row.length row) := ⟨fun W hk => Kd.F_now (Kd.F_kept HF.out hk (fun k hk e => hk.2 (congrArg some e)))⟩
    have KG : Aside0 (∀ W, Kept wt W (fun k_ => k_ = gt) → Kd.C (Kd.int .i64) W Ag og.f0.length og.f0) := ⟨Kd.C_kept_came (Kd.heap_int .i64) HIG.out HB.out (fun k e => by rw [e]; exact GT.out)⟩
    have HK := Aside0.mk (Kept.refl wt (fun k_ => k_ = gt))
    have HNL : Aside0 ((M.nextRow row og.f0).length = Z.length) := ⟨by rw [M.nextRow_length, HRL.out, LZ.out]⟩
    have HT2 : Aside0 (Kd.R (Kd.int .i64) 3 wt w.heap.size (fun k_ => some k_ = (Value.slice (some ⟨gt, 0, none⟩) Z.length ct).ownBlock) (.slice (some ⟨gt, 0, none⟩) Z.length ct) (M.part (M.nextRow row og.f0) Z 0)) := ⟨by rw [M.part_zero]; exact HT.out⟩
    go_loopg [30] n1 (fun gg v30 w' => ∃ p : Int, v30 = .int .i64 p ∧ Aside0 (0 ≤ p ∧ p ≤ (n1 : Int) ∧ n1 - p.toNat ≤ gg) ∧ Aside0 (Kd.R (Kd.int .i64) 3 w' w.heap.size (fun k_ => some k_ = (Value.slice (some ⟨gt, 0, none⟩) Z.length ct).ownBlock) (.slice (some ⟨gt, 0, none⟩) Z.length ct) (M.part (M.nextRow row og.f0) Z p.toNat)) ∧ Aside0 (Kept wt w' (fun k_ => k_ = gt)) ∧ Aside0 (Below w.heap.size w w'))
    case atStart => exact ⟨0, rfl, ⟨by omega⟩, ⟨by (with_reducible repeat (first | apply Kd.R_alloc | apply Kd.R_drewN | apply Kd.R_drew)); exact HT2.out⟩, ⟨(by repeat (first | (with_reducible first | exact HK.out | apply Kept.alloc | apply Kept.drewN | apply Kept.drew) | exact HK.out))⟩, ⟨(by repeat (first | (with_reducible first | exact HB.out | apply below_alloc | apply pw_below_drewN | apply below_drew1) | exact HB.out))⟩⟩
    case round =>
      clear HT HT2 HK HB hxl c11b0
      obtain ⟨p, rfl, HP, HT, HK, HB⟩ := hrel
      by_cases hp : p < (n1 : Int)
      case neg =>
        have cp : decide (p < (Z.length : Int)) = false := decide_eq_false (by have := LZ.out; omega)
        have n0_ : Aside0 (Kd.R (Kd.int .i64) 3 wr w.heap.size (fun k_ => some k_ = (Value.slice (some ⟨gt, 0, none⟩) Z.length ct).ownBlock) (.slice (some ⟨gt, 0, none⟩) Z.length ct) (M.nextRow row og.f0)) := ⟨by have h := HT.out; have h2 := HP.out; have h3 : p.toNat = Z.length := (by have := LZ.out; omega); rw [h3, M.part_all HNL.out] at h; exact h⟩
        have n1_ := Aside0.mk (Kd.N_mono (Kd.N_kept HO_5.out HK.out (fun k hk e => hk.2 (congrArg some e))) (fun k hk => (hk.1.1 : w.heap.size ≤ k)))
        have NE : Aside0 (go ≠ gt) := ⟨fun e => (HO_5.out.1 go rfl).2 (congrArg some e)⟩
        clear HT HO_5 hp
        have HT := n0_
        have HO_5 := n1_
        clear n0_ n1_
        have hwj : Aside0 (wrap64 (j + 1) = j + 1) := ⟨M.wrap_id (by have := P1.out; omega) (by have := Q1.out; have := HL0.out; omega)⟩
        go_wp2_with (first | ((with_reducible refine gate_builtin (b := .append) (xs := #[.tmp 69, .tmp 71]) rfl ?_); at_builtin; refine Kd.N_append (Kd.slice 3 (Kd.int .i64)) (w0 := w) w.heap.size rfl (.tmp 69) (.tmp 71) 57 22 (.slice none 0 0) 24 rfl Try.underlying57 info22 rfl (by decide) (by omega) (.slice (some ⟨go, 0, none⟩) x6.length co5) x6 (M.nextRow row og.f0) [(.slice (some ⟨gt, 0, none⟩) Z.length ct)] (fun k_ => (w.heap.size ≤ k_)) (fun k_ => ((fun k_ => (w.heap.size ≤ k_)) k_ ∧ some k_ ≠ (.slice (some ⟨go, 0, none⟩) x6.length co5 : Value).ownBlock)) rfl rfl ?aP (fun _ hk => hk) ?aF ?aO ?aB ?aS ?aL ?_; (case aP => have hR : Kd.R (Kd.int .i64) 3 wr w.heap.size (fun k_ => ((fun k_ => (w.heap.size ≤ k_)) k_ ∧ some k_ ≠ (.slice (some ⟨go, 0, none⟩) x6.length co5 : Value).ownBlock)) (.slice (some ⟨gt, 0, none⟩) (M.nextRow row og.f0).length ct) (M.nextRow row og.f0) := (by rw [HNL.out]; exact Kd.R_mono HT.out (fun k hk => by (injection hk with hk; subst hk; exact ⟨GT.out, fun e => (by injection e with e; exact NE.out e.symm)⟩))); have hF := Kd.FK_slice_mk (e := 3) (Kd.R_reads' hR).2.1 (Kd.R_F hR); rw [HNL.out] at hF; exact hF); (case aB => exact (by repeat (first | (with_reducible first | exact HB.out | apply below_alloc | apply pw_below_drewN | apply below_drew1) | exact HB.out))); (case aF => exact (fun k_ hk => Nat.le_trans (below_size (by repeat (first | (with_reducible first | exact HB.out | apply below_alloc | apply pw_below_drewN | apply below_drew1) | exact HB.out))) hk)); (case aO => exact (by (with_reducible repeat (first | apply Kd.N_alloc | apply Kd.N_drewN | apply Kd.N_drew)); exact HO_5.out)); (case aS => exact (below_size (by repeat (first | (with_reducible first | exact HB.out | apply below_alloc | apply pw_below_drewN | apply below_drew1) | exact HB.out)))); (case aL => have := HX5.out; have := HL0.out; have := Q1.out; omega); intro v187 w22 ho hb hg hat; have n2_ := Aside0.mk hb; have n3_ := Aside0.mk ho; have n4_ : Aside0 (Kd.R (Kd.int .i64) 3 w22 w.heap.size (fun k_ => some k_ = (Value.slice (some ⟨gt, 0, none⟩) Z.length ct).ownBlock) (.slice (some ⟨gt, 0, none⟩) Z.length ct) (M.nextRow row og.f0)) := ⟨Kd.R_grown HT.out hg (fun k hk e => by (injection hk with hk; injection e with e; exact NE.out (e.symm.trans hk)))⟩; clear HB HO_5 HT HK; have HB := n2_; have HO_5 := n3_; have HT := n4_; clear n2_ n3_ n4_ ho hb hg hat))
        go_roundg (l0.length - (j + 1).toNat)
        case measure => have := HI.out; have := Q1.out; omega
        case rel =>
          have hs := M.rowsFrom_step (fun x : S59 => x.f0) z59 l0 Z j.toNat (by have := P1.out; have := Q1.out; omega)
          rw [ER.out, ERow.out, HG1.out, ← EX.out] at hs
          have hn : RS.getD (j + 1).toNat [] = M.nextRow row og.f0 := by
            have h1 := M.rowsFrom_got (fun x : S59 => x.f0) Z l0 (i := j.toNat + 1) (by have := P1.out; have := Q1.out; omega)
            rw [ER.out, show j.toNat + 1 + 1 = j.toNat + 2 from rfl, hs, List.getD_eq_getElem?_getD, List.getElem?_append_right (by have := HX5.out; omega), HX5.out, Nat.sub_self] at h1
            rw [show (j + 1).toNat = j.toNat + 1 by have := P1.out; omega, ← h1]; rfl
          exact ⟨x6 ++ [M.nextRow row og.f0], M.nextRow row og.f0, wrap64 (j + 1), (by first | rfl | (simp; done)), ⟨by rw [hwj.out]; have := HI.out; have := Q1.out; omega⟩, ⟨by
            rw [hwj.out, show (j + 1).toNat + 1 = j.toNat + 2 by have := P1.out; omega]; exact hs.symm⟩, ⟨by rw [hwj.out]; exact hn⟩, ⟨by (with_reducible repeat (first | apply Kd.V_alloc | apply Kd.V_drewN | apply Kd.V_drew)); exact Kd.R_V (base' := w.heap.size) (Kd.R_mono HT.out (fun k hk => by (injection hk with hk; subst hk; exact GT.out)))⟩, ⟨by (with_reducible repeat (first | apply Kd.N_alloc | apply Kd.N_drewN | apply Kd.N_drew)); exact HO_5.out⟩, ⟨(by repeat (first | (with_reducible first | exact HB.out | apply below_alloc | apply pw_below_drewN | apply below_drew1) | exact HB.out))⟩⟩
      have cp : decide (p < (Z.length : Int)) = true := decide_eq_true (by have := LZ.out; omega)
      obtain ⟨K, hK0⟩ : ∃ K : Nat, min p.toNat og.f0.length = K := ⟨_, rfl⟩
      have EK := Aside0.mk hK0
      have EP : Aside0 ((p.toNat : Int) = p ∧ p.toNat < row.length) := ⟨by have := HP.out; have := HRL.out; omega⟩
      have EP2 : Aside0 (p.toNat < Z.length) := ⟨by have := HP.out; have := LZ.out; omega⟩
      clear hK0 hp
      obtain ⟨adr, er, hxr⟩ := Kd.at_int (KR.out wr HK.out) p HP.out.1 (by have := EP.out; omega)
      subst er
      have pp : (0 ≤ p) = True := eq_true HP.out.1
      have qp : (p < (row.length : Int)) = True := eq_true (by have := EP.out; omega)
      have qz : (p < (Z.length : Int)) = True := eq_true (by have := EP2.out; omega)
      go_wp2
      obtain ⟨wo, rfl⟩ : ∃ wo : World, wo = wr := ⟨_, rfl⟩
      go_loopg [11, 12] (K + 1) (fun gg v11 v12 w' => ∃ c b : Int, v11 = .int .i64 b ∧ v12 = .int .i64 c ∧ Aside0 (1 ≤ c ∧ c ≤ (K : Int) + 1 ∧ K + 1 - c.toNat ≤ gg) ∧ Aside0 (M.bestN row og.f0 p.toNat (K + 1 - c.toNat) c.toNat b = M.bestAt row og.f0 p.toNat) ∧ Aside0 (Kd.R (Kd.int .i64) 3 w' w.heap.size (fun k_ => some k_ = (Value.slice (some ⟨gt, 0, none⟩) Z.length ct).ownBlock) (.slice (some ⟨gt, 0, none⟩) Z.length ct) (M.part (M.nextRow row og.f0) Z p.toNat)) ∧ Aside0 (Kept wt w' (fun k_ => k_ = gt)) ∧ Aside0 (Below w.heap.size w w'))
      case atStart => exact ⟨1, rd row p, rfl, rfl, ⟨by omega⟩, ⟨by rw [← EK.out]; unfold M.bestAt; rw [EP.out.1]; rfl⟩, ⟨by (with_reducible repeat (first | apply Kd.R_alloc | apply Kd.R_drewN | apply Kd.R_drew)); exact HT.out⟩, ⟨(by repeat (first | (with_reducible first | exact HK.out | apply Kept.alloc | apply Kept.drewN | apply Kept.drew) | exact HK.out))⟩, ⟨(by repeat (first | (with_reducible first | exact HB.out | apply below_alloc | apply pw_below_drewN | apply below_drew1) | exact HB.out))⟩⟩
      case round =>
        clear HT HK HB hxr cp
        obtain ⟨c, b, rfl, rfl, HC, HBN, HT, HK, HB⟩ := hrel
        have hb0 := KB.out wr HK.out
        by_cases hc : c ≤ (K : Int)
        case neg =>
          have HBB : Aside0 (b = M.bestAt row og.f0 p.toNat) := ⟨by
            have h1 := HBN.out
            rw [show K + 1 - c.toNat = 0 by have := HC.out; omega, M.bestN_zero] at h1
            exact h1⟩
          have hwp : Aside0 (wrap64 (p + 1) = p + 1) := ⟨M.wrap_id (by have := HP.out; omega) (by have := HP.out; have := hn2.out; omega)⟩
          have hct := Kd.R_celln 0 HT.out p HP.out.1 (by have := EP2.out; omega)
          obtain ⟨hct, hft⟩ := hct
          by_cases hcg : c ≤ (og.f0.length : Int)
          · have g1 : decide (c ≤ (og.f0.length : Int)) = true := decide_eq_true hcg
            have g2 : decide (c ≤ p) = false := decide_eq_false (by have := EK.out; have := EP.out; omega)
            clear hc hcg
            go_wp2_with (first | ((with_reducible refine gate_store (t := 3) (p := 66) rfl ?_); refine store_event (t := 3) (p := 66) (v := ?vo_1) (w1 := (wr.setCell ⟨gt, p.toNat, none⟩ (.int .i64 b))) ?hg ?ho ?hn ?hr ?_; (case ho => rfl); (case hg => rfl); (case hn => rfl); (case hr => first | (go_simp; done) | (go_simp; rfl)); intro wf hw; have n0_ : Aside0 (Kd.R (Kd.int .i64) 3 wf w.heap.size (fun k_ => some k_ = (Value.slice (some ⟨gt, 0, none⟩) Z.length ct).ownBlock) (.slice (some ⟨gt, 0, none⟩) Z.length ct) (M.part (M.nextRow row og.f0) Z (p.toNat + 1))) := ⟨by have h := (Kd.R_putg HT.out p b).1; rw [HBB.out, ← M.nextRow_rd row og.f0 EP.out.2, M.part_step HNL.out EP2.out] at h; rw [hw, HBB.out, ← M.nextRow_rd row og.f0 EP.out.2]; exact h⟩; have n1_ : Aside0 (Kept wt wf (fun k_ => k_ = gt)) := ⟨by rw [hw]; exact HK.out.setCell (p := ⟨gt, p.toNat, none⟩) (Or.inl rfl) _⟩; have n2_ : Aside0 (Below w.heap.size w wf) := ⟨by rw [hw]; exact below_set HB.out GT.out⟩; clear HT HK HB hw; have HT := n0_; have HK := n1_; have HB := n2_; clear n0_ n1_ n2_))
            go_roundg (n1 - (p + 1).toNat)
            case measure => have := HP.out; have := EP.out; have := HRL.out; omega
            case rel => exact ⟨wrap64 (p + 1), (by first | rfl | (simp; done)), ⟨by rw [hwp.out]; have := HP.out; have := EP.out; have := HRL.out; omega⟩, ⟨by rw [hwp.out, show (p + 1).toNat = p.toNat + 1 by have := HP.out; omega]; (with_reducible repeat (first | apply Kd.R_alloc | apply Kd.R_drewN | apply Kd.R_drew)); exact HT.out⟩, ⟨(by repeat (first | (with_reducible first | exact HK.out | apply Kept.alloc | apply Kept.drewN | apply Kept.drew) | exact HK.out))⟩, ⟨(by repeat (first | (with_reducible first | exact HB.out | apply below_alloc | apply pw_below_drewN | apply below_drew1) | exact HB.out))⟩⟩
          · have g1 : decide (c ≤ (og.f0.length : Int)) = false := decide_eq_false hcg
            clear hc hcg
            go_wp2_with (first | ((with_reducible refine gate_store (t := 3) (p := 66) rfl ?_); refine store_event (t := 3) (p := 66) (v := ?vo_2) (w1 := (wr.setCell ⟨gt, p.toNat, none⟩ (.int .i64 b))) ?hg ?ho ?hn ?hr ?_; (case ho => rfl); (case hg => rfl); (case hn => rfl); (case hr => first | (go_simp; done) | (go_simp; rfl)); intro wf hw; have n0_ : Aside0 (Kd.R (Kd.int .i64) 3 wf w.heap.size (fun k_ => some k_ = (Value.slice (some ⟨gt, 0, none⟩) Z.length ct).ownBlock) (.slice (some ⟨gt, 0, none⟩) Z.length ct) (M.part (M.nextRow row og.f0) Z (p.toNat + 1))) := ⟨by have h := (Kd.R_putg HT.out p b).1; rw [HBB.out, ← M.nextRow_rd row og.f0 EP.out.2, M.part_step HNL.out EP2.out] at h; rw [hw, HBB.out, ← M.nextRow_rd row og.f0 EP.out.2]; exact h⟩; have n1_ : Aside0 (Kept wt wf (fun k_ => k_ = gt)) := ⟨by rw [hw]; exact HK.out.setCell (p := ⟨gt, p.toNat, none⟩) (Or.inl rfl) _⟩; have n2_ : Aside0 (Below w.heap.size w wf) := ⟨by rw [hw]; exact below_set HB.out GT.out⟩; clear HT HK HB hw; have HT := n0_; have HK := n1_; have HB := n2_; clear n0_ n1_ n2_))
            go_roundg (n1 - (p + 1).toNat)
            case measure => have := HP.out; have := EP.out; have := HRL.out; omega
            case rel => exact ⟨wrap64 (p + 1), (by first | rfl | (simp; done)), ⟨by rw [hwp.out]; have := HP.out; have := EP.out; have := HRL.out; omega⟩, ⟨by rw [hwp.out, show (p + 1).toNat = p.toNat + 1 by have := HP.out; omega]; (with_reducible repeat (first | apply Kd.R_alloc | apply Kd.R_drewN | apply Kd.R_drew)); exact HT.out⟩, ⟨(by repeat (first | (with_reducible first | exact HK.out | apply Kept.alloc | apply Kept.drewN | apply Kept.drew) | exact HK.out))⟩, ⟨(by repeat (first | (with_reducible first | exact HB.out | apply below_alloc | apply pw_below_drewN | apply below_drew1) | exact HB.out))⟩⟩
        have g1 : decide (c ≤ (og.f0.length : Int)) = true := decide_eq_true (by have := EK.out; omega)
        have g2 : decide (c ≤ p) = true := decide_eq_true (by have := EK.out; have := EP.out; omega)
        have HCK : Aside0 (c ≤ (K : Int) ∧ c ≤ p ∧ c.toNat ≤ og.f0.length ∧ (c.toNat : Int) = c) := ⟨by have := EK.out; have := HC.out; have := EP.out; omega⟩
        clear hc
        obtain ⟨d, hd⟩ : ∃ d : Int, p - c = d := ⟨_, rfl⟩
        have hwd : IntKind.i64.wrap (p - c) = d := (i64_w _).trans (by rw [M.wrap_id (by have := HC.out; have := HCK.out; omega) (by have := HC.out; have := HP.out; have := hn2.out; omega)]; exact hd)
        have ED := Aside0.mk hd
        clear hd
        have pd0 : 0 ≤ d := by have := ED.out; have := HCK.out; omega
        have qd0 : d < (row.length : Int) := by have := ED.out; have := HC.out; have := EP.out; omega
        have KE : Aside0 (∀ W, Kept wt W (fun k_ => k_ = gt) → W.cell? (adr.add d.toNat) = some (.int .i64 (rd row d))) := ⟨fun W hk => by
          obtain ⟨ad', e', hx'⟩ := Kd.at_int (KR.out W hk) d pd0 qd0
          cases e'
          exact hx'⟩
        have pd := eq_true pd0
        have qd := eq_true qd0
        clear pd0 qd0
        have HBS0 : Aside0 (M.bestN row og.f0 p.toNat (K + 1 - (c.toNat + 1)) (c.toNat + 1) (if b < wrap64 (rd row d + M.gainAt og.f0 c) then wrap64 (rd row d + M.gainAt og.f0 c) else b) = M.bestAt row og.f0 p.toNat) := ⟨by
          have h := HBN.out
          rw [show K + 1 - c.toNat = (K + 1 - (c.toNat + 1)) + 1 by have := HC.out; have := HCK.out; omega, M.bestN_step _ _ _ (by have := HCK.out; omega), HCK.out.2.2.2, EP.out.1, ED.out] at h
          exact h⟩
        obtain ⟨nv, hnv⟩ : ∃ nv : Int, wrap64 (rd row d + M.gainAt og.f0 c) = nv := ⟨_, rfl⟩
        rw [hnv] at HBS0
        have ENV := Aside0.mk hnv
        have hwc : Aside0 (wrap64 (c + 1) = c + 1) := ⟨M.wrap_id (by have := HC.out; omega) (by have := HCK.out; have := HGL.out; omega)⟩
        go_wp2
        refine start_ (n := 11) (S := fun w' => w'.cell? (adr.add d.toNat) = some (.int .i64 (rd row d)) ∧ w'.cell? ⟨gb, 0, none⟩ = some (.slice Ag og.f0.length cg)) (ds := []) #[false, false, false, false, false, false, false, false, false, false, false] (by kernel_rfl) rfl rfl ⟨KE.out _ HK.out.drew, KB.out _ HK.out.drew⟩ (fun hHeld => ?_); refine with_tabW spec_l6Rows.tab14 spec_l6Rows.bits14 (fun HT_ HW_ => ?_)
        have n0_ := Aside0.mk (Kd.R_drew HT.out)
        have n1_ := Aside0.mk HK.out.drew
        have n2_ := Aside0.mk (below_drew1 HB.out)
        clear HT HK HB hb0
        have HT := n0_
        have HK := n1_
        have HB := n2_
        clear n0_ n1_ n2_
        generalize wr.drew = wd at HT HK HB hHeld ⊢
        refine take_ (i := 0) (N := some 49) (v := ?_) (a' := ?_) #[true, false, false, false, false, false, false, false, false, false, false] rfl rfl (take_ofW HT_.out HW_.out (by kernel_rfl)) (fun _ _ _ h => h) (Or.inl ⟨by rfl, ?_⟩) hHeld ?_ ?_
        rotate_left
        · rintro w' ⟨s0, s1⟩
          go_simp
          with_reducible rfl
        rotate_left
        · simp only [Act.put, List.setIfInBounds_toArray, List.set_cons_zero, List.set_cons_succ, i64_w, i32_w]
          rfl
        refine take_ (i := 1) (N := some 50) (v := ?_) (a' := ?_) #[true, true, false, false, false, false, false, false, false, false, false] rfl rfl (take_ofW HT_.out HW_.out (by kernel_rfl)) (fun _ _ _ h => h) (Or.inl ⟨by rfl, ?_⟩) hHeld ?_ ?_
        rotate_left
        · rintro w' ⟨s0, s1⟩
          go_simp
          with_reducible rfl
        rotate_left
        · simp only [Act.put, List.setIfInBounds_toArray, List.set_cons_zero, List.set_cons_succ, i64_w, i32_w]
          rfl
        refine take_ (i := 2) (N := some 51) (v := ?_) (a' := ?_) #[true, true, true, false, false, false, false, false, false, false, false] rfl rfl (take_ofW HT_.out HW_.out (by kernel_rfl)) (fun _ _ _ h => h) (Or.inl ⟨by rfl, ?_⟩) hHeld ?_ ?_
        rotate_left
        · rintro w' ⟨s0, s1⟩
          go_simp
          with_reducible rfl
        rotate_left
        · simp only [Act.put, List.setIfInBounds_toArray, List.set_cons_zero, List.set_cons_succ, i64_w, i32_w]
          rfl
        refine take_ (i := 3) (N := some 52) (v := ?_) (a' := ?_) #[true, true, true, true, false, false, false, false, false, false, false] rfl rfl (take_ofW HT_.out HW_.out (by kernel_rfl)) (fun _ _ _ h => h) (Or.inl ⟨by rfl, ?_⟩) hHeld ?_ ?_
        rotate_left
        · rintro w' ⟨s0, s1⟩
          go_simp
          with_reducible rfl
        rotate_left
        · simp only [Act.put, List.setIfInBounds_toArray, List.set_cons_zero, List.set_cons_succ, i64_w, i32_w]
          rfl
        refine take_ (i := 4) (N := some 53) (v := ?_) (a' := ?_) #[true, true, true, true, true, false, false, false, false, false, false] rfl rfl (take_ofW HT_.out HW_.out (by kernel_rfl)) (fun _ _ _ h => h) (Or.inl ⟨by rfl, ?_⟩) hHeld ?_ ?_
        rotate_left
        · rintro w' ⟨s0, s1⟩
          go_simp
          with_reducible rfl
        rotate_left
        · simp only [Act.put, List.setIfInBounds_toArray, List.set_cons_zero, List.set_cons_succ, i64_w, i32_w]
          rfl
        refine take_ (i := 5) (N := some 54) (v := ?_) (a' := ?_) #[true, true, true, true, true, true, false, false, false, false, false] rfl rfl (take_ofW HT_.out HW_.out (by kernel_rfl)) (fun _ _ _ h => h) (Or.inl ⟨by rfl, ?_⟩) hHeld ?_ ?_
        rotate_left
        · rintro w' ⟨s0, s1⟩
          go_simp
          with_reducible rfl
        rotate_left
        · simp only [Act.put, List.setIfInBounds_toArray, List.set_cons_zero, List.set_cons_succ, i64_w, i32_w]
          rfl
        refine take_ (i := 6) (N := some 55) (v := ?_) (a' := ?_) #[true, true, true, true, true, true, true, false, false, false, false] rfl rfl (take_ofW HT_.out HW_.out (by kernel_rfl)) (fun _ _ _ h => h) (Or.inl ⟨by rfl, ?_⟩) hHeld ?_ ?_
        rotate_left
        · rintro w' ⟨s0, s1⟩
          go_simp
          with_reducible rfl
        rotate_left
        · simp only [Act.put, List.setIfInBounds_toArray, List.set_cons_zero, List.set_cons_succ, i64_w, i32_w]
          rfl
        refine take_ (i := 7) (N := some 56) (v := ?_) (a' := ?_) #[true, true, true, true, true, true, true, true, false, false, false] rfl rfl (take_ofW HT_.out HW_.out (by kernel_rfl)) (fun _ _ _ h => h) (Or.inl ⟨by rfl, ?_⟩) hHeld ?_ ?_
        rotate_left
        · rintro w' ⟨s0, s1⟩
          go_simp
          with_reducible rfl
        rotate_left
        · simp only [Act.put, List.setIfInBounds_toArray, List.set_cons_zero, List.set_cons_succ, i64_w, i32_w]
          rfl
        refine one_ (i := 8) (N := some 57) #[true, true, true, true, true, true, true, true, true, false, false] rfl rfl (one_of HT_.out (by kernel_rfl)) (by decide) (fun K hK => ?_)
        refine goes_ Try.func43 (by kernel_rfl) rfl #[.agg #[.slice Ag og.f0.length cg], .int .i64 c] (by rfl) rfl rfl (by (try simp only [List.map_toArray, List.map_cons, List.map_nil]); first | done | rfl) ?_
        with_reducible refine (spec_l6Gain.calls _ _ og.f0 c (M.gainAt og.f0 c) _ (KG.out _ HK.out) HLG.out (by have h := spec_gain_eq og.f0 (c := c.toNat) (by have := HC.out; omega) HCK.out.2.2.1 HGL.out; rw [HCK.out.2.2.2] at h; exact h)).mono ?_
        rintro e we ⟨rfl, hb⟩
        refine ⟨_, rfl, ?_⟩
        have n0_ := Aside0.mk (Kd.R_below HT.out hb)
        have n1_ := Aside0.mk (HK.out.below hb)
        have n2_ := Aside0.mk (below_step HB.out hb)
        clear HT HK HB hb
        have HT := n0_
        have HK := n1_
        have HB := n2_
        clear n0_ n1_ n2_
        clear hHeld
        refine hK.out _ _ ⟨KE.out _ HK.out, KB.out _ HK.out⟩ (fun hHeld => ?_)
        clear hK K
        refine norm_ (a' := ?_) ?_ ?_
        rotate_left
        · show Act.put _ (some 57) _ = _
          simp only [Act.put, List.setIfInBounds_toArray, List.set_cons_zero, List.set_cons_succ, i64_w, i32_w]
          rfl
        refine pure_ (i := 9) (N := some 58) (v := ?_) (a' := ?_) #[true, true, true, true, true, true, true, true, true, true, false] rfl rfl (any_of HT_.out (by kernel_rfl)) (fun _ _ _ h => h) (Or.inl ⟨by rfl, ?_⟩) ?_ ?_
        rotate_left
        · intro w'
          go_simp
          with_reducible rfl
        rotate_left
        · simp only [Act.put, List.setIfInBounds_toArray, List.set_cons_zero, List.set_cons_succ, i64_w, i32_w]
          rfl
        refine pure_ (i := 10) (N := some 13) (v := ?_) (a' := ?_) #[true, true, true, true, true, true, true, true, true, true, true] rfl rfl (any_of HT_.out (by kernel_rfl)) (fun _ _ _ h => h) (Or.inl ⟨by rfl, ?_⟩) ?_ ?_
        rotate_left
        · intro w'
          go_simp
          with_reducible rfl
        rotate_left
        · simp only [Act.put, List.setIfInBounds_toArray, List.set_cons_zero, List.set_cons_succ, i64_w, i32_w]
          rfl
        refine done_ (done_of HT_.out (by kernel_rfl)) ?_
        clear hHeld HT_ HW_
        clear hwd
        by_cases hbv : b < nv
        · have cv : decide (b < nv) = true := decide_eq_true hbv
          have HBS : Aside0 (M.bestN row og.f0 p.toNat (K + 1 - (c.toNat + 1)) (c.toNat + 1) nv = M.bestAt row og.f0 p.toNat) := ⟨by have h := HBS0.out; rw [if_pos hbv] at h; exact h⟩
          clear hbv HBS0
          go_wp2
          go_roundg (K + 1 - (c + 1).toNat)
          case measure => have := HC.out; have := HCK.out; omega
          case rel =>
            exact ⟨wrap64 (c + 1), nv, (by first | rfl | (simp; done)), (by first | rfl | (simp; done)), ⟨by rw [hwc.out]; have := HC.out; have := HCK.out; omega⟩, ⟨by
              rw [hwc.out, show (c + 1).toNat = c.toNat + 1 by have := HC.out; omega]
              exact HBS.out⟩, ⟨by (with_reducible repeat (first | apply Kd.R_alloc | apply Kd.R_drewN | apply Kd.R_drew)); exact HT.out⟩, ⟨(by repeat (first | (with_reducible first | exact HK.out | apply Kept.alloc | apply Kept.drewN | apply Kept.drew) | exact HK.out))⟩, ⟨(by repeat (first | (with_reducible first | exact HB.out | apply below_alloc | apply pw_below_drewN | apply below_drew1) | exact HB.out))⟩⟩
        · have cv : decide (b < nv) = false := decide_eq_false hbv
          have HBS : Aside0 (M.bestN row og.f0 p.toNat (K + 1 - (c.toNat + 1)) (c.toNat + 1) b = M.bestAt row og.f0 p.toNat) := ⟨by have h := HBS0.out; rw [if_neg hbv] at h; exact h⟩
          clear hbv HBS0
          go_wp2
          go_roundg (K + 1 - (c + 1).toNat)
          case measure => have := HC.out; have := HCK.out; omega
          case rel =>
            exact ⟨wrap64 (c + 1), b, (by first | rfl | (simp; done)), (by first | rfl | (simp; done)), ⟨by rw [hwc.out]; have := HC.out; have := HCK.out; omega⟩, ⟨by
              rw [hwc.out, show (c + 1).toNat = c.toNat + 1 by have := HC.out; omega]
              exact HBS.out⟩, ⟨by (with_reducible repeat (first | apply Kd.R_alloc | apply Kd.R_drewN | apply Kd.R_drew)); exact HT.out⟩, ⟨(by repeat (first | (with_reducible first | exact HK.out | apply Kept.alloc | apply Kept.drewN | apply Kept.drew) | exact HK.out))⟩, ⟨(by repeat (first | (with_reducible first | exact HB.out | apply below_alloc | apply pw_below_drewN | apply below_drew1) | exact HB.out))⟩⟩


/-! ### impl_within: function 38 -/
def impl_within.f (a0 : Int) (a1 : Int) (a2 : Int) : Option (Bool) := if a0 ≥ a1 then (some (decide (a0 ≤ a2))) else (some false)
set_option maxHeartbeats 8000000 in
set_option maxRecDepth 100000 in
theorem impl_within.calls (a0 : Int) (a1 : Int) (a2 : Int) (r : Bool) (w : World) (h : impl_within.f a0 a1 a2 = some r) :
    Calls Try.prog 38 #[.int .i64 a0, .int .i64 a1, .int .i64 a2] w fun e w' => e = .returned (.bool r) ∧ Drawn0 w w' := by
  have H : (if a0 ≥ a1 then (some (decide (a0 ≤ a2))) else (some false)) = some r := h
  clear h
  by_cases c4 : a0 ≥ a1
  · rw [if_pos c4] at H
    have c4b0 : decide (a1 ≤ a0) = true := decide_eq_true c4
    clear c4
    obtain rfl := Option.some.inj H
    go_enter Try.func38, Try.ntmps38
    go_wp2
    go_ret
    exact ⟨by first | rfl | (simp; done) | (simp [*]; done), by repeat (first | exact Drawn0.refl _ | apply Drawn0.step)⟩
  · rw [if_neg c4] at H
    have c4b0 : decide (a1 ≤ a0) = false := decide_eq_false c4
    clear c4
    obtain rfl := Option.some.inj H
    go_enter Try.func38, Try.ntmps38
    go_wp2
    go_ret
    exact ⟨by first | rfl | (simp; done) | (simp [*]; done), by repeat (first | exact Drawn0.refl _ | apply Drawn0.step)⟩

theorem impl_within.eq (a b c : Int) : impl_within.f a b c = some (decide (b ≤ a) && decide (a ≤ c)) := by
  unfold impl_within.f
  by_cases h : a ≥ b
  · rw [if_pos h, decide_eq_true (show b ≤ a from h), Bool.true_and]
  · rw [if_neg h, decide_eq_false (show ¬ b ≤ a from h), Bool.false_and]

/-! ### impl_allWithin: function 46 -/
def impl_allWithin.f (l0 : List Int) (a1 : Int) (a2 : Int) : Option (Bool) := some (M.inAll l0 a1 a2)

set_option maxHeartbeats 1000000 in
theorem impl_allWithin_cl (lo hi x : Int) (b1 b2 : Nat) (W : World) (h1 : W.cell? ⟨b1, 0, none⟩ = some (.int .i64 lo)) (h2 : W.cell? ⟨b2, 0, none⟩ = some (.int .i64 hi)) (r : Bool) (hr : (!(decide (lo ≤ x) && decide (x ≤ hi))) = r) :
    Calls Try.prog 51 #[.int .i64 x, .pointer (some ⟨b1, 0, none⟩), .pointer (some ⟨b2, 0, none⟩)] W fun e w' => e = .returned (.bool r) ∧ Drawn0 W w' := by
  subst hr
  have hw : impl_within.f x lo hi = some (decide (lo ≤ x) && decide (x ≤ hi)) := by
    unfold impl_within.f
    by_cases h : x ≥ lo
    · rw [if_pos h]; simp [h]
    · rw [if_neg h]; simp [h]
  generalize (decide (lo ≤ x) && decide (x ≤ hi)) = r at hw ⊢
  go_enter Try.func51, Try.ntmps51
  go_wp2_with (go_at_call 38; refine (impl_within.calls x lo hi r _ hw).mono ?_; rintro e w' ⟨rfl, ⟨nd, rfl⟩⟩)
  go_ret
  exact ⟨rfl, by repeat (first | exact Drawn0.refl _ | apply Drawn0.step)⟩
set_option maxHeartbeats 1000000 in
theorem impl_allWithin_idx (lo hi : Int) (b1 b2 : Nat) (A0 : Option Addr) (c0 : Nat) (l0 : List Int) (w : World) (hr0 : Kd.C (Kd.int .i64) w A0 l0.length l0) (hc0 : l0.length ≤ c0) (h1 : w.cell? ⟨b1, 0, none⟩ = some (.int .i64 lo)) (h2 : w.cell? ⟨b2, 0, none⟩ = some (.int .i64 hi)) :
    Calls Try.prog 55 #[.slice A0 l0.length c0, .func (.func 51) #[] #[.pointer (some ⟨b1, 0, none⟩), .pointer (some ⟨b2, 0, none⟩)]] w fun e w' => (∃ i : Int, e = .returned (.int .i64 i) ∧ decide (0 ≤ i) = !l0.all (fun x => decide (lo ≤ x) && decide (x ≤ hi))) ∧ Drawn0 w w' := by
  have HR0 := Aside0.mk hr0
  clear hr0
  have hbig : (l0.length : Int) ≤ 9223372036854775807 := by have := HR0.out.2.1; omega
  go_enter Try.func55, Try.ntmps55
  go_wp2
  go_loopg [5, 8] l0.length (fun gg _ v8 w' => ∃ kk : Nat, kk ≤ l0.length ∧ l0.length - kk ≤ gg ∧ v8 = .int .i64 kk ∧ Aside0 (l0.all (fun x => decide (lo ≤ x) && decide (x ≤ hi)) = (l0.drop kk).all (fun x => decide (lo ≤ x) && decide (x ≤ hi))) ∧ Drawn0 w w')
  case atStart => exact ⟨0, Nat.zero_le _, by omega, rfl, ⟨by simp⟩, Drawn0.refl _⟩
  case round =>
    obtain ⟨kk, hkk, hg, rfl, A, ⟨m, rfl⟩⟩ := hrel
    by_cases hlt : kk < l0.length
    · have hltz : (kk : Int) < (l0.length : Int) := by omega
      obtain ⟨ad, e, hx⟩ := Kd.at_int HR0.out (kk : Int) (by omega) (by omega)
      cases e
      simp only [Int.toNat_natCast] at hx
      generalize hv : rd l0 (kk : Int) = v at hx
      have B : Aside0 ((l0.drop kk).all (fun x => decide (lo ≤ x) && decide (x ≤ hi)) = ((decide (lo ≤ v) && decide (v ≤ hi)) && (l0.drop (kk + 1)).all (fun x => decide (lo ≤ x) && decide (x ≤ hi)))) := ⟨by
        rw [List.drop_eq_getElem_cons hlt, List.all_cons]
        have : l0[kk] = v := by rw [← hv]; unfold rd; simp [hlt]
        rw [this]⟩
      clear hv
      cases hq : (!(decide (lo ≤ v) && decide (v ≤ hi))) with
      | true =>
        have hcall := fun W h1 h2 => impl_allWithin_cl lo hi v b1 b2 W h1 h2 true hq
        have HQ := Aside0.mk hq
        clear hq
        go_wp2_with (go_at_call 51; refine (hcall _ (by assumption) (by assumption)).mono ?_; rintro e w' ⟨rfl, ⟨nd, rfl⟩⟩)
        go_ret
        refine ⟨⟨kk, rfl, ?_⟩, by repeat (first | exact Drawn0.refl _ | apply Drawn0.step)⟩
        have := HQ.out
        rw [A.out, B.out, Bool.not_and, this, Bool.true_or]
        simp
      | false =>
        have hcall := fun W h1 h2 => impl_allWithin_cl lo hi v b1 b2 W h1 h2 false hq
        have HQ := Aside0.mk hq
        clear hq
        go_wp2_with (go_at_call 51; refine (hcall _ (by assumption) (by assumption)).mono ?_; rintro e w' ⟨rfl, ⟨nd, rfl⟩⟩)
        go_roundg (l0.length - (kk + 1))
        case measure => omega
        case rel =>
          refine ⟨kk + 1, by omega, by omega, by go_num, ⟨?_⟩, by repeat (first | exact Drawn0.refl _ | apply Drawn0.step)⟩
          have := HQ.out
          rw [Bool.not_eq_false'] at this
          rw [A.out, B.out, this, Bool.true_and]
    · have hltz : ¬ (kk : Int) < (l0.length : Int) := by omega
      go_wp2
      go_ret
      refine ⟨⟨-1, rfl, ?_⟩, by repeat (first | exact Drawn0.refl _ | apply Drawn0.step)⟩
      rw [A.out, List.drop_eq_nil_of_le (by omega)]; rfl
set_option maxHeartbeats 1000000 in
theorem impl_allWithin_cont (lo hi : Int) (b1 b2 : Nat) (A0 : Option Addr) (c0 : Nat) (l0 : List Int) (w : World) (hr0 : Kd.C (Kd.int .i64) w A0 l0.length l0) (hc0 : l0.length ≤ c0) (h1 : w.cell? ⟨b1, 0, none⟩ = some (.int .i64 lo)) (h2 : w.cell? ⟨b2, 0, none⟩ = some (.int .i64 hi)) (r : Bool) (hr : (!l0.all (fun x => decide (lo ≤ x) && decide (x ≤ hi))) = r) :
    Calls Try.prog 50 #[.slice A0 l0.length c0, .func (.func 51) #[] #[.pointer (some ⟨b1, 0, none⟩), .pointer (some ⟨b2, 0, none⟩)]] w fun e w' => e = .returned (.bool r) ∧ Drawn0 w w' := by
  have hidx := impl_allWithin_idx lo hi b1 b2 A0 c0 l0 w hr0 hc0 h1 h2
  rw [hr] at hidx
  clear hr0 h1 h2 hr
  go_enter Try.func50, Try.ntmps50
  go_wp2_with (go_at_call 55; refine hidx.mono ?_; rintro e w' ⟨⟨i, rfl, hi⟩, ⟨nd, rfl⟩⟩)
  go_ret
  exact ⟨rfl, by repeat (first | exact Drawn0.refl _ | apply Drawn0.step)⟩

set_option maxHeartbeats 8000000 in
set_option maxRecDepth 100000 in
theorem impl_allWithin.calls (A0 : Option Addr) (c0 : Nat) (l0 : List Int) (a1 : Int) (a2 : Int) (r : Bool) (w : World) (hr0 : Kd.C (Kd.int .i64) w A0 l0.length l0) (hc0 : l0.length ≤ c0) (h : impl_allWithin.f l0 a1 a2 = some r) :
    Calls Try.prog 46 #[.slice A0 l0.length c0, .int .i64 a1, .int .i64 a2] w fun e w' => e = .returned (.bool r) ∧ Below w.heap.size w w' := by
  have hr : (!l0.all (fun x => decide (a1 ≤ x) && decide (x ≤ a2))) = !r := by have := Option.some.inj h; unfold M.inAll at this; rw [this]
  have hcont := impl_allWithin_cont a1 a2 w.heap.size (w.heap.size + 1) A0 c0 l0 ((w.alloc (.cells #[.int .i64 a1] 3)).alloc (.cells #[.int .i64 a2] 3)) (Kd.C_below (Kd.C_below hr0 (below_alloc (Below.refl _ _) _)) (below_alloc (Below.refl _ _) _)) hc0
    (by simp) (by simp) _ hr
  have HR0 := Aside0.mk hr0
  clear hr0 h hr
  go_enter Try.func46, Try.ntmps46
  go_wp2_with (go_at_call 50; refine hcont.mono ?_; rintro e w' ⟨rfl, ⟨nd, rfl⟩⟩)
  go_ret
  exact ⟨by simp, by repeat (first | exact Below.refl _ _ | apply below_alloc | apply pw_below_drewN)⟩

/-! ### impl_isOffer: function 54 -/
def impl_isOffer.f (l0_0 : List Int) : Option (Bool) := if (l0_0.length : Int) ≤ 6 then ((impl_allWithin.f l0_0 (-1000) 1000).bind fun t155 => (some t155)) else (some false)
set_option maxHeartbeats 8000000 in
set_option maxRecDepth 100000 in
theorem impl_isOffer.calls (A0_0 : Option Addr) (c0_0 : Nat) (l0_0 : List Int) (r : Bool) (w : World) (hr0_0 : Kd.C (Kd.int .i64) w A0_0 l0_0.length l0_0) (hc0_0 : l0_0.length ≤ c0_0) (h : impl_isOffer.f l0_0 = some r) :
    Calls Try.prog 54 #[.agg #[.slice A0_0 l0_0.length c0_0]] w fun e w' => e = .returned (.bool r) ∧ Below w.heap.size w w' := by
  have hu59 := Try.underlying59
  have HR0_0 := Aside0.mk hr0_0
  have HC0_0 := Aside0.mk hc0_0
  clear hr0_0 hc0_0
  have HB := Aside0.mk (Below.refl w.heap.size w)
  have H : (if (l0_0.length : Int) ≤ 6 then ((impl_allWithin.f l0_0 (-1000) 1000).bind fun t155 => (some t155)) else (some false)) = some r := h
  clear h
  by_cases c2 : (l0_0.length : Int) ≤ 6
  · rw [if_pos c2] at H
    have c2b0 : decide ((l0_0.length : Int) ≤ 6) = true := decide_eq_true c2
    have c2b1 : decide (l0_0.length ≤ 6) = true := decide_eq_true (by omega)
    clear c2
    replace H := Option.bind_eq_some_iff.mp H
    obtain ⟨t155, A30, H⟩ := H
    replace H : (some t155) = some r := H
    have A3 := Aside0.mk A30
    clear A30
    obtain rfl := Option.some.inj H
    go_enter Try.func54, Try.ntmps54
    go_wp2_with (first | ((with_reducible refine gate_dst (N := 1) rfl ?_); refine box_event ?hg (N := 1) ?hd (cs := #[.slice A0_0 l0_0.length c0_0]) (t := 59) ?hr ?_; (case hd => rfl); (case hg => rfl); (case hr => first | (go_simp; done) | (go_simp; rfl)); intro gb154 hg w4 hbox hb; have n0_ := Aside0.mk (below_step (by repeat (first | (with_reducible first | exact HB.out | apply below_alloc | apply pw_below_drewN | apply below_drew1) | exact HB.out)) hb); have n1_ := Aside0.mk (hbox); have n2_ := Aside0.mk ((by rw [hg]; exact (below_size (by repeat (first | (with_reducible first | exact HB.out | apply below_alloc | apply pw_below_drewN | apply below_drew1) | exact HB.out))) : w.heap.size ≤ gb154)); have n3_ := Aside0.mk ((by rw [hg]; exact (below_size (by repeat (first | (with_reducible first | exact HB.out | apply below_alloc | apply pw_below_drewN | apply below_drew1) | exact HB.out))) : w.heap.size ≤ gb154)); clear HB; have HB := n0_; have BK154 := n1_; have GW154 := n2_; have GE154 := n3_; clear n0_ n1_ n2_ n3_; clear hb hbox hg; have hcz5_0 : w4.cell? ⟨gb154, 0, none⟩ = some (.slice A0_0 l0_0.length c0_0) := (blk_cell BK154.out 0).trans rfl; have hfz5_0 := blk_frozen BK154.out 0) | (go_at_call 46; (with_reducible refine (impl_allWithin.calls _ _ l0_0 (-1000) 1000 t155 _ ?side1 ?side2 A3.out).mono ?_); (case side1 => repeat (first | exact (Kd.C_below HR0_0.out HB.out) | (with_reducible refine Kd.C_alloc ?_ _) | (with_reducible refine Kd.C_drewN ?_ _) | (with_reducible refine Kd.C_drew ?_))); (case side2 => exact HC0_0.out); rintro e w6 ⟨rfl, hb⟩; have n0_ := Aside0.mk (blk_below (g := gb154) (o := .cells #[.slice A0_0 l0_0.length c0_0] 59 (0, 0)) (by (with_reducible repeat (first | refine blk_drewN ?_ _ | refine blk_drew ?_ | refine blk_alloc ?_ _)); exact BK154.out) hb); have n1_ := Aside0.mk (below_step (by repeat (first | (with_reducible first | exact HB.out | apply below_alloc | apply pw_below_drewN | apply below_drew1 | refine below_set ?_ GE154.out) | exact HB.out)) hb); clear BK154; clear HB; have BK154 := n0_; have HB := n1_; clear n0_ n1_; (try clear hb); (try clear hb2); (try clear hk); (try clear hi)))
    go_ret
    exact ⟨by first | rfl | (simp [errW_none, errW_some] <;> rfl) | (simp [*, errW_none, errW_some] <;> rfl), by repeat (first | (with_reducible first | exact HB.out | apply below_alloc | apply pw_below_drewN | apply below_drew1 | refine below_set ?_ GE154.out) | exact HB.out)⟩
  · rw [if_neg c2] at H
    have c2b0 : decide ((l0_0.length : Int) ≤ 6) = false := decide_eq_false c2
    have c2b1 : decide (l0_0.length ≤ 6) = false := decide_eq_false (by omega)
    clear c2
    obtain rfl := Option.some.inj H
    go_enter Try.func54, Try.ntmps54
    go_wp2_with (first | ((with_reducible refine gate_dst (N := 1) rfl ?_); refine box_event ?hg (N := 1) ?hd (cs := #[.slice A0_0 l0_0.length c0_0]) (t := 59) ?hr ?_; (case hd => rfl); (case hg => rfl); (case hr => first | (go_simp; done) | (go_simp; rfl)); intro gb154 hg w7 hbox hb; have n0_ := Aside0.mk (below_step (by repeat (first | (with_reducible first | exact HB.out | apply below_alloc | apply pw_below_drewN | apply below_drew1) | exact HB.out)) hb); have n1_ := Aside0.mk (hbox); have n2_ := Aside0.mk ((by rw [hg]; exact (below_size (by repeat (first | (with_reducible first | exact HB.out | apply below_alloc | apply pw_below_drewN | apply below_drew1) | exact HB.out))) : w.heap.size ≤ gb154)); have n3_ := Aside0.mk ((by rw [hg]; exact (below_size (by repeat (first | (with_reducible first | exact HB.out | apply below_alloc | apply pw_below_drewN | apply below_drew1) | exact HB.out))) : w.heap.size ≤ gb154)); clear HB; have HB := n0_; have BK154 := n1_; have GW154 := n2_; have GE154 := n3_; clear n0_ n1_ n2_ n3_; clear hb hbox hg; have hcz8_0 : w7.cell? ⟨gb154, 0, none⟩ = some (.slice A0_0 l0_0.length c0_0) := (blk_cell BK154.out 0).trans rfl; have hfz8_0 := blk_frozen BK154.out 0))
    go_ret
    exact ⟨by first | rfl | (simp [errW_none, errW_some] <;> rfl) | (simp [*, errW_none, errW_some] <;> rfl), by repeat (first | (with_reducible first | exact HB.out | apply below_alloc | apply pw_below_drewN | apply below_drew1 | refine below_set ?_ GE154.out) | exact HB.out)⟩

theorem impl_isOffer.eq (l : List Int) : impl_isOffer.f l = some (M.offOk l) := by
  unfold impl_isOffer.f M.offOk impl_allWithin.f
  by_cases h : l.length ≤ 6
  · rw [if_pos (by omega), decide_eq_true h, Bool.true_and]; rfl
  · rw [if_neg (by omega), decide_eq_false h, Bool.false_and]

/-! ### impl_GoodOffers_1: function 53 -/
def impl_GoodOffers_1.f (l0_0 : List Int) : Option (Bool) := (impl_isOffer.f l0_0).bind fun t157 => (some (!t157))
set_option maxHeartbeats 8000000 in
set_option maxRecDepth 100000 in
theorem impl_GoodOffers_1.calls (A0_0 : Option Addr) (c0_0 : Nat) (l0_0 : List Int) (r : Bool) (w : World) (hr0_0 : Kd.C (Kd.int .i64) w A0_0 l0_0.length l0_0) (hc0_0 : l0_0.length ≤ c0_0) (h : impl_GoodOffers_1.f l0_0 = some r) :
    Calls Try.prog 53 #[.agg #[.slice A0_0 l0_0.length c0_0]] w fun e w' => e = .returned (.bool r) ∧ Below w.heap.size w w' := by
  have hu59 := Try.underlying59
  have HR0_0 := Aside0.mk hr0_0
  have HC0_0 := Aside0.mk hc0_0
  clear hr0_0 hc0_0
  have HB := Aside0.mk (Below.refl w.heap.size w)
  have H : ((impl_isOffer.f l0_0).bind fun t157 => (some (!t157))) = some r := h
  clear h
  replace H := Option.bind_eq_some_iff.mp H
  obtain ⟨t157, A20, H⟩ := H
  replace H : (some (!t157)) = some r := H
  have A2 := Aside0.mk A20
  clear A20
  obtain rfl := Option.some.inj H
  go_enter Try.func53, Try.ntmps53
  go_wp2_with (first | ((with_reducible refine gate_dst (N := 1) rfl ?_); refine box_event ?hg (N := 1) ?hd (cs := #[.slice A0_0 l0_0.length c0_0]) (t := 59) ?hr ?_; (case hd => rfl); (case hg => rfl); (case hr => first | (go_simp; done) | (go_simp; rfl)); intro gb156 hg w3 hbox hb; have n0_ := Aside0.mk (below_step (by repeat (first | (with_reducible first | exact HB.out | apply below_alloc | apply pw_below_drewN | apply below_drew1) | exact HB.out)) hb); have n1_ := Aside0.mk (hbox); have n2_ := Aside0.mk ((by rw [hg]; exact (below_size (by repeat (first | (with_reducible first | exact HB.out | apply below_alloc | apply pw_below_drewN | apply below_drew1) | exact HB.out))) : w.heap.size ≤ gb156)); have n3_ := Aside0.mk ((by rw [hg]; exact (below_size (by repeat (first | (with_reducible first | exact HB.out | apply below_alloc | apply pw_below_drewN | apply below_drew1) | exact HB.out))) : w.heap.size ≤ gb156)); clear HB; have HB := n0_; have BK156 := n1_; have GW156 := n2_; have GE156 := n3_; clear n0_ n1_ n2_ n3_; clear hb hbox hg; have hcz4_0 : w3.cell? ⟨gb156, 0, none⟩ = some (.slice A0_0 l0_0.length c0_0) := (blk_cell BK156.out 0).trans rfl; have hfz4_0 := blk_frozen BK156.out 0) | ((with_reducible refine gate_callee (f := 54) rfl ?_); refine goesL_ (some 4) rfl rfl Try.func54 (by kernel_rfl) rfl #[.agg #[.slice A0_0 l0_0.length c0_0]] rfl (by (try simp only [List.map_toArray, List.map_cons, List.map_nil]); first | done | rfl | (simp only [List.length_drop, List.length_take]; rfl)) ?_; (with_reducible refine (impl_isOffer.calls _ _ l0_0 t157 _ ?side1 ?side2 A2.out).mono ?_); (case side1 => repeat (first | exact (Kd.C_below HR0_0.out HB.out) | (with_reducible refine Kd.C_alloc ?_ _) | (with_reducible refine Kd.C_drewN ?_ _) | (with_reducible refine Kd.C_drew ?_))); (case side2 => exact HC0_0.out); rintro e w5 ⟨rfl, hb⟩; refine ⟨_, rfl, ?_⟩; have n0_ := Aside0.mk (blk_below (g := gb156) (o := .cells #[.slice A0_0 l0_0.length c0_0] 59 (0, 0)) (by (with_reducible repeat (first | refine blk_drewN ?_ _ | refine blk_drew ?_ | refine blk_alloc ?_ _)); exact BK156.out) hb); have n1_ := Aside0.mk (below_step (by repeat (first | (with_reducible first | exact HB.out | apply below_alloc | apply pw_below_drewN | apply below_drew1 | refine below_set ?_ GE156.out) | exact HB.out)) hb); clear BK156; clear HB; have BK156 := n0_; have HB := n1_; clear n0_ n1_; (try clear hb); (try clear hb2); (try clear hk); (try clear hi)))
  go_ret
  exact ⟨by first | rfl | (simp [errW_none, errW_some] <;> rfl) | (simp [*, errW_none, errW_some] <;> rfl), by repeat (first | (with_reducible first | exact HB.out | apply below_alloc | apply pw_below_drewN | apply below_drew1 | refine below_set ?_ GE156.out) | exact HB.out)⟩

/-! ### impl_GoodOffers: function 49 -/
def impl_GoodOffers.f (l0 : List (S59)) : Option (Bool) := some (M.offersOk (fun x : S59 => x.f0) l0)

set_option maxHeartbeats 1000000 in
theorem impl_GoodOffers_idx (A0 : Option Addr) (c0 : Nat) (l0 : List (S59)) (w : World) (hr0 : Kd.C k59 w A0 l0.length l0) (hc0 : l0.length ≤ c0) (p : S59 → Bool) (hp : ∀ x ∈ l0, impl_GoodOffers_1.f x.f0 = some (!p x)) :
    Calls Try.prog 56 #[.slice A0 l0.length c0, .func (.func 53) #[] #[]] w fun e w' => (∃ i : Int, e = .returned (.int .i64 i) ∧ decide (0 ≤ i) = !l0.all p) ∧ Below w.heap.size w w' := by
  have HR0 := Aside0.mk hr0
  have HP := Aside0.mk hp
  clear hr0 hp
  have hbig : (l0.length : Int) ≤ 9223372036854775807 := by have := HR0.out.2.1; omega
  have hu := Try.underlying59
  go_enter Try.func56, Try.ntmps56
  go_wp2
  go_loopg [5, 8] l0.length (fun gg _ v8 w' => ∃ kk : Nat, kk ≤ l0.length ∧ l0.length - kk ≤ gg ∧ v8 = .int .i64 kk ∧ Aside0 (l0.all p = (l0.drop kk).all p) ∧ Aside0 (Below w.heap.size w w'))
  case atStart => exact ⟨0, Nat.zero_le _, by omega, rfl, ⟨by simp⟩, ⟨Below.refl _ _⟩⟩
  case round =>
    obtain ⟨kk, hkk, hg, rfl, A, HB⟩ := hrel
    by_cases hlt : kk < l0.length
    · have hltz : (kk : Int) < (l0.length : Int) := by omega
      obtain ⟨ad, A2, c2, e, hx0, hl2, hi2⟩ := at_T59 HR0.out (kk : Int) (by omega) (by omega)
      cases e
      simp only [Int.toNat_natCast] at hx0
      generalize hv : rd_T59 l0 (kk : Int) = v at hx0 hl2 hi2
      have hm : l0[kk] = v := by rw [← hv]; unfold rd_T59; simp [hlt]
      have B : Aside0 ((l0.drop kk).all p = (p v && (l0.drop (kk + 1)).all p)) := ⟨by rw [List.drop_eq_getElem_cons hlt, List.all_cons, hm]⟩
      have hc := HP.out v (by rw [← hm]; exact List.getElem_mem hlt)
      have HI := Aside0.mk hi2
      have HL := Aside0.mk hl2
      clear hv hm hi2 hl2
      replace hx0 := (HB.out.cell (World.block_lt_of_cell? w _ hx0)).trans hx0
      cases hq : p v with
      | false =>
        rw [hq] at hc
        have HC := Aside0.mk hc
        have HQ := Aside0.mk hq
        clear hq hc
        go_wp2_with (go_at_call 53; refine (impl_GoodOffers_1.calls A2 c2 v.f0 _ _ ?side1 ?side2 HC.out).mono ?_; (case side1 => exact Kd.C_below HI.out (by repeat (first | exact HB.out | apply below_alloc | apply pw_below_drewN | apply below_drew1))); (case side2 => exact HL.out); rintro e w2 ⟨rfl, hb⟩; have HB2 := Aside0.mk (below_step (by repeat (first | exact HB.out | apply below_alloc | apply pw_below_drewN | apply below_drew1)) hb); clear hb)
        go_ret
        refine ⟨⟨kk, rfl, ?_⟩, by repeat (first | exact HB2.out | apply below_alloc | apply pw_below_drewN | apply below_drew1)⟩
        rw [A.out, B.out, HQ.out, Bool.false_and]
        simp
      | true =>
        rw [hq] at hc
        have HC := Aside0.mk hc
        have HQ := Aside0.mk hq
        clear hq hc
        go_wp2_with (go_at_call 53; refine (impl_GoodOffers_1.calls A2 c2 v.f0 _ _ ?side1 ?side2 HC.out).mono ?_; (case side1 => exact Kd.C_below HI.out (by repeat (first | exact HB.out | apply below_alloc | apply pw_below_drewN | apply below_drew1))); (case side2 => exact HL.out); rintro e w2 ⟨rfl, hb⟩; have HB2 := Aside0.mk (below_step (by repeat (first | exact HB.out | apply below_alloc | apply pw_below_drewN | apply below_drew1)) hb); clear hb)
        go_roundg (l0.length - (kk + 1))
        case measure => omega
        case rel =>
          refine ⟨kk + 1, by omega, by omega, by go_num, ⟨?_⟩, ⟨by repeat (first | exact HB2.out | apply below_alloc | apply pw_below_drewN | apply below_drew1)⟩⟩
          rw [A.out, B.out, HQ.out, Bool.true_and]
    · have hltz : ¬ (kk : Int) < (l0.length : Int) := by omega
      go_wp2
      go_ret
      refine ⟨⟨-1, rfl, ?_⟩, by repeat (first | exact HB.out | apply below_alloc | apply pw_below_drewN | apply below_drew1)⟩
      rw [A.out, List.drop_eq_nil_of_le (by omega)]; rfl
set_option maxHeartbeats 1000000 in
theorem impl_GoodOffers_cont (A0 : Option Addr) (c0 : Nat) (l0 : List (S59)) (w : World) (hr0 : Kd.C k59 w A0 l0.length l0) (hc0 : l0.length ≤ c0) (p : S59 → Bool) (hp : ∀ x ∈ l0, impl_GoodOffers_1.f x.f0 = some (!p x)) (r : Bool) (hr : l0.all p = r) :
    Calls Try.prog 52 #[.slice A0 l0.length c0, .func (.func 53) #[] #[]] w fun e w' => e = .returned (.bool (!r)) ∧ Below w.heap.size w w' := by
  have hidx := impl_GoodOffers_idx A0 c0 l0 w hr0 hc0 p hp
  rw [hr] at hidx
  clear hr0 hp hr
  go_enter Try.func52, Try.ntmps52
  go_wp2_with (go_at_call 56; refine hidx.mono ?_; rintro e w2 ⟨⟨i, rfl, hi⟩, hb⟩; have HB2 := Aside0.mk (below_step (by repeat (first | exact Below.refl _ _ | apply below_alloc | apply pw_below_drewN | apply below_drew1)) hb); clear hb)
  go_ret
  exact ⟨rfl, by repeat (first | exact HB2.out | apply below_alloc | apply pw_below_drewN | apply below_drew1)⟩

theorem impl_GoodOffers_p (l0 : List S59) : ∀ x ∈ l0, impl_GoodOffers_1.f x.f0 = some (!(fun x : S59 => M.offOk x.f0) x) := fun x _ => by
  unfold impl_GoodOffers_1.f
  rw [impl_isOffer.eq]; rfl

set_option maxHeartbeats 8000000 in
set_option maxRecDepth 100000 in
theorem impl_GoodOffers.calls (A0 : Option Addr) (c0 : Nat) (l0 : List (S59)) (r : Bool) (w : World) (hr0 : Kd.C k59 w A0 l0.length l0) (hc0 : l0.length ≤ c0) (h : impl_GoodOffers.f l0 = some r) :
    Calls Try.prog 49 #[.slice A0 l0.length c0] w fun e w' => e = .returned (.bool r) ∧ Below w.heap.size w w' := by
  unfold impl_GoodOffers.f M.offersOk at h
  have h' := Option.some.inj h
  clear h
  by_cases h8 : l0.length ≤ 12
  · rw [decide_eq_true h8, Bool.true_and] at h'
    have hcont := impl_GoodOffers_cont A0 c0 l0 w hr0 hc0 _ (impl_GoodOffers_p l0) r h'
    have e1 : decide (l0.length ≤ 12) = true := decide_eq_true h8
    have e2 : decide ((l0.length : Int) ≤ 12) = true := decide_eq_true (by omega)
    clear hr0 h'
    go_enter Try.func49, Try.ntmps49
    go_wp2_with (go_at_call 52; refine hcont.mono ?_; rintro e w2 ⟨rfl, hb⟩; have HB2 := Aside0.mk (below_step (by repeat (first | exact Below.refl _ _ | apply below_alloc | apply pw_below_drewN | apply below_drew1)) hb); clear hb)
    go_ret
    exact ⟨by simp, by repeat (first | exact HB2.out | apply below_alloc | apply pw_below_drewN | apply below_drew1)⟩
  · rw [decide_eq_false h8, Bool.false_and] at h'
    subst h'
    have e1 : decide (l0.length ≤ 12) = false := decide_eq_false h8
    have e2 : decide ((l0.length : Int) ≤ 12) = false := decide_eq_false (by omega)
    clear hr0
    go_enter Try.func49, Try.ntmps49
    go_wp2
    go_ret
    exact ⟨rfl, by repeat (first | exact Below.refl _ _ | apply below_alloc | apply pw_below_drewN | apply below_drew1)⟩

/-! ### impl_isOffered: function 37 -/
def impl_isOffered.f (l0 : List (S59)) (a1 : Int) : Option (Bool) := (impl_GoodOffers.f l0).bind fun t158 => (if t158 = true then ((impl_within.f a1 0 40).bind fun t159 => (some t159)) else (some false))
set_option maxHeartbeats 8000000 in
set_option maxRecDepth 100000 in
theorem impl_isOffered.calls (A0 : Option Addr) (c0 : Nat) (l0 : List (S59)) (a1 : Int) (r : Bool) (w : World) (hr0 : Kd.C k59 w A0 l0.length l0) (hc0 : l0.length ≤ c0) (h : impl_isOffered.f l0 a1 = some r) :
    Calls Try.prog 37 #[.slice A0 l0.length c0, .int .i64 a1] w fun e w' => e = .returned (.bool r) ∧ Below w.heap.size w w' := by
  have HR0 := Aside0.mk hr0
  have HC0 := Aside0.mk hc0
  clear hr0 hc0
  have HB := Aside0.mk (Below.refl w.heap.size w)
  have H : ((impl_GoodOffers.f l0).bind fun t158 => (if t158 = true then ((impl_within.f a1 0 40).bind fun t159 => (some t159)) else (some false))) = some r := h
  clear h
  replace H := Option.bind_eq_some_iff.mp H
  obtain ⟨t158, A30, H⟩ := H
  replace H : (if t158 = true then ((impl_within.f a1 0 40).bind fun t159 => (some t159)) else (some false)) = some r := H
  have A3 := Aside0.mk A30
  clear A30
  by_cases c4 : t158 = true
  · subst c4
    have H1 : ((impl_within.f a1 0 40).bind fun t159 => (some t159)) = some r := by rw [if_pos rfl] at H; exact H
    clear H
    have H := H1
    clear H1
    replace H := Option.bind_eq_some_iff.mp H
    obtain ⟨t159, A50, H⟩ := H
    replace H : (some t159) = some r := H
    have A5 := Aside0.mk A50
    clear A50
    obtain rfl := Option.some.inj H
    go_enter Try.func37, Try.ntmps37
    go_wp2_with (first | ((with_reducible refine gate_callee (f := 49) rfl ?_); refine goesL_ (some 6) rfl rfl Try.func49 (by kernel_rfl) rfl #[.slice A0 l0.length c0] rfl (by (try simp only [List.map_toArray, List.map_cons, List.map_nil]); first | done | rfl | (simp only [List.length_drop, List.length_take]; rfl)) ?_; (with_reducible refine (impl_GoodOffers.calls _ _ l0 true _ ?side1 ?side2 A3.out).mono ?_); (case side1 => repeat (first | exact HR0.out | (with_reducible refine Kd.C_alloc ?_ _) | (with_reducible refine Kd.C_drewN ?_ _) | (with_reducible refine Kd.C_drew ?_))); (case side2 => exact HC0.out); rintro e w6 ⟨rfl, hb⟩; refine ⟨_, rfl, ?_⟩; have n0_ := Aside0.mk (below_step (by repeat (first | (with_reducible first | exact HB.out | apply below_alloc | apply pw_below_drewN | apply below_drew1) | exact HB.out)) hb); clear HB; have HB := n0_; clear n0_; (try clear hb); (try clear hb2); (try clear hk); (try clear hi)) | (go_at_call 38; (with_reducible refine (impl_within.calls a1 0 40 t159 _ A5.out).mono ?_); rintro e w' ⟨rfl, ⟨nd, rfl⟩⟩))
    go_ret
    exact ⟨by first | rfl | (simp [errW_none, errW_some] <;> rfl) | (simp [*, errW_none, errW_some] <;> rfl), by repeat (first | (with_reducible first | exact HB.out | apply below_alloc | apply pw_below_drewN | apply below_drew1) | exact HB.out)⟩
  · replace c4 := Bool.eq_false_iff.mpr c4
    subst c4
    have H1 : (some false) = some r := by rw [if_neg (show ¬ (false = true) by decide)] at H; exact H
    clear H
    have H := H1
    clear H1
    obtain rfl := Option.some.inj H
    go_enter Try.func37, Try.ntmps37
    go_wp2_with (first | ((with_reducible refine gate_callee (f := 49) rfl ?_); refine goesL_ (some 6) rfl rfl Try.func49 (by kernel_rfl) rfl #[.slice A0 l0.length c0] rfl (by (try simp only [List.map_toArray, List.map_cons, List.map_nil]); first | done | rfl | (simp only [List.length_drop, List.length_take]; rfl)) ?_; (with_reducible refine (impl_GoodOffers.calls _ _ l0 false _ ?side1 ?side2 A3.out).mono ?_); (case side1 => repeat (first | exact HR0.out | (with_reducible refine Kd.C_alloc ?_ _) | (with_reducible refine Kd.C_drewN ?_ _) | (with_reducible refine Kd.C_drew ?_))); (case side2 => exact HC0.out); rintro e w7 ⟨rfl, hb⟩; refine ⟨_, rfl, ?_⟩; have n0_ := Aside0.mk (below_step (by repeat (first | (with_reducible first | exact HB.out | apply below_alloc | apply pw_below_drewN | apply below_drew1) | exact HB.out)) hb); clear HB; have HB := n0_; clear n0_; (try clear hb); (try clear hb2); (try clear hk); (try clear hi)))
    go_ret
    exact ⟨by first | rfl | (simp [errW_none, errW_some] <;> rfl) | (simp [*, errW_none, errW_some] <;> rfl), by repeat (first | (with_reducible first | exact HB.out | apply below_alloc | apply pw_below_drewN | apply below_drew1) | exact HB.out)⟩

theorem impl_isOffered.eq (l : List S59) (n : Int) : impl_isOffered.f l n = some (if M.offersOk (fun x : S59 => x.f0) l = true ∧ (0 ≤ n ∧ n ≤ 40) then true else false) := by
  unfold impl_isOffered.f impl_GoodOffers.f
  simp only [Option.bind_some, impl_within.eq]
  by_cases c1 : M.offersOk (fun x : S59 => x.f0) l = true
  · rw [if_pos c1]
    by_cases c2 : 0 ≤ n ∧ n ≤ 40
    · rw [if_pos ⟨c1, c2⟩]; simp [c2]
    · rw [if_neg (fun z => c2 z.2)]
      simp only [Option.some.injEq]
      rw [Bool.and_eq_false_iff, decide_eq_false_iff_not, decide_eq_false_iff_not]
      omega
  · rw [if_neg c1, if_neg (fun z => c1 z.1)]

/-! ### impl_Offer_gain: function 44 -/
def impl_Offer_gain.f (l0_0 : List Int) (a1 : Int) : Option (Int) := if a1 = 0 then (some 0) else (if 0 ≤ (wrap64 (a1 - 1)) then (if (wrap64 (a1 - 1)) < (l0_0.length : Int) then (some (rd l0_0 (wrap64 (a1 - 1)))) else (none)) else (none))
set_option maxHeartbeats 8000000 in
set_option maxRecDepth 100000 in
theorem impl_Offer_gain.calls (A0_0 : Option Addr) (c0_0 : Nat) (l0_0 : List Int) (a1 : Int) (r : Int) (w : World) (hr0_0 : Kd.C (Kd.int .i64) w A0_0 l0_0.length l0_0) (hc0_0 : l0_0.length ≤ c0_0) (h : impl_Offer_gain.f l0_0 a1 = some r) :
    Calls Try.prog 44 #[.agg #[.slice A0_0 l0_0.length c0_0], .int .i64 a1] w fun e w' => e = .returned (.int .i64 r) ∧ Below w.heap.size w w' := by
  have hu59 := Try.underlying59
  have HR0_0 := Aside0.mk hr0_0
  have HC0_0 := Aside0.mk hc0_0
  clear hr0_0 hc0_0
  have HB := Aside0.mk (Below.refl w.heap.size w)
  have H : (if a1 = 0 then (some 0) else (if 0 ≤ (wrap64 (a1 - 1)) then (if (wrap64 (a1 - 1)) < (l0_0.length : Int) then (some (rd l0_0 (wrap64 (a1 - 1)))) else (none)) else (none))) = some r := h
  clear h
  by_cases c3 : a1 = 0
  · rw [if_pos c3] at H
    have c3b0 : (a1 == 0) = true := beq_iff_eq.mpr c3
    have c3b1 : (a1 != 0) = false := bne_eq_false_iff_eq.mpr c3
    clear c3
    obtain rfl := Option.some.inj H
    go_enter Try.func44, Try.ntmps44
    go_wp2_with (first | ((with_reducible refine gate_dst (N := 2) rfl ?_); refine box_event ?hg (N := 2) ?hd (cs := #[.slice A0_0 l0_0.length c0_0]) (t := 59) ?hr ?_; (case hd => rfl); (case hg => rfl); (case hr => first | (go_simp; done) | (go_simp; rfl)); intro gb160 hg w4 hbox hb; have n0_ := Aside0.mk (below_step (by repeat (first | (with_reducible first | exact HB.out | apply below_alloc | apply pw_below_drewN | apply below_drew1) | exact HB.out)) hb); have n1_ := Aside0.mk (hbox); have n2_ := Aside0.mk ((by rw [hg]; exact (below_size (by repeat (first | (with_reducible first | exact HB.out | apply below_alloc | apply pw_below_drewN | apply below_drew1) | exact HB.out))) : w.heap.size ≤ gb160)); have n3_ := Aside0.mk ((by rw [hg]; exact (below_size (by repeat (first | (with_reducible first | exact HB.out | apply below_alloc | apply pw_below_drewN | apply below_drew1) | exact HB.out))) : w.heap.size ≤ gb160)); clear HB; have HB := n0_; have BK160 := n1_; have GW160 := n2_; have GE160 := n3_; clear n0_ n1_ n2_ n3_; clear hb hbox hg))
    go_ret
    exact ⟨by first | rfl | (simp [errW_none, errW_some] <;> rfl) | (simp [*, errW_none, errW_some] <;> rfl), by repeat (first | (with_reducible first | exact HB.out | apply below_alloc | apply pw_below_drewN | apply below_drew1 | refine below_set ?_ GE160.out) | exact HB.out)⟩
  · rw [if_neg c3] at H
    have c3b0 : (a1 == 0) = false := beq_eq_false_iff_ne.mpr c3
    have c3b1 : (a1 != 0) = true := bne_iff_ne.mpr c3
    obtain ⟨ji5, hji5⟩ : ∃ j_ : Int, (wrap64 (a1 - 1)) = j_ := ⟨_, rfl⟩
    replace H : (if 0 ≤ (ji5) then (if (ji5) < (l0_0.length : Int) then (some (rd l0_0 (ji5))) else (none)) else (none)) = some r := by first | (rw [hji5] at H; exact H) | (simp only [hji5] at H ⊢; exact H)
    have hji5w : (IntKind.i64.wrap (a1 - 1)) = ji5 := (i64_w _).trans hji5
    by_cases c6 : 0 ≤ (ji5)
    · rw [if_pos c6] at H
      have c6b0 : decide (0 ≤ (ji5)) = true := decide_eq_true c6
      clear c6
      by_cases c7 : (ji5) < (l0_0.length : Int)
      · rw [if_pos c7] at H
        have c7b0 : decide ((ji5) < (l0_0.length : Int)) = true := decide_eq_true c7
        clear c7
        obtain rfl := Option.some.inj H
        go_enter Try.func44, Try.ntmps44
        go_wp2_with (first | ((with_reducible refine gate_dst (N := 2) rfl ?_); refine box_event ?hg (N := 2) ?hd (cs := #[.slice A0_0 l0_0.length c0_0]) (t := 59) ?hr ?_; (case hd => rfl); (case hg => rfl); (case hr => first | (go_simp; done) | (go_simp; rfl)); intro gb160 hg w8 hbox hb; have n0_ := Aside0.mk (below_step (by repeat (first | (with_reducible first | exact HB.out | apply below_alloc | apply pw_below_drewN | apply below_drew1) | exact HB.out)) hb); have n1_ := Aside0.mk (hbox); have n2_ := Aside0.mk ((by rw [hg]; exact (below_size (by repeat (first | (with_reducible first | exact HB.out | apply below_alloc | apply pw_below_drewN | apply below_drew1) | exact HB.out))) : w.heap.size ≤ gb160)); have n3_ := Aside0.mk ((by rw [hg]; exact (below_size (by repeat (first | (with_reducible first | exact HB.out | apply below_alloc | apply pw_below_drewN | apply below_drew1) | exact HB.out))) : w.heap.size ≤ gb160)); clear HB; have HB := n0_; have BK160 := n1_; have GW160 := n2_; have GE160 := n3_; clear n0_ n1_ n2_ n3_; clear hb hbox hg; have hcz9_0 : w8.cell? ⟨gb160, 0, none⟩ = some (.slice A0_0 l0_0.length c0_0) := (blk_cell BK160.out 0).trans rfl; have hfz9_0 := blk_frozen BK160.out 0; have p161 : 0 ≤ ((ji5) : Int) := of_decide_eq_true (by first | (with_reducible assumption) | assumption); have q161 : (ji5) < (l0_0.length : Int) := of_decide_eq_true (by first | (with_reducible assumption) | assumption); obtain ⟨ad161, e161, hx161_0⟩ := Kd.at_int HR0_0.out (ji5) p161 q161; cases e161; replace hx161_0 := (HB.out.cell (World.block_lt_of_cell? w _ hx161_0)).trans hx161_0; replace p161 := eq_true p161; replace q161 := eq_true q161))
        go_ret
        exact ⟨by first | rfl | (simp [errW_none, errW_some] <;> rfl) | (simp only [← hji5]; first | rfl | (simp [errW_none, errW_some] <;> rfl)) | (simp [*, errW_none, errW_some] <;> rfl), by repeat (first | (with_reducible first | exact HB.out | apply below_alloc | apply pw_below_drewN | apply below_drew1 | refine below_set ?_ GE160.out) | exact HB.out)⟩
      · rw [if_neg c7] at H
        exact absurd H (by simp)
    · rw [if_neg c6] at H
      exact absurd H (by simp)

theorem impl_Offer_gain.eq (l : List Int) (n : Int) (h : l.length ≤ 6) (h0 : 0 ≤ n) (h1 : n ≤ (l.length : Int)) : impl_Offer_gain.f l n = some (M.gainAt l n) := by
  unfold impl_Offer_gain.f M.gainAt
  by_cases c : n = 0
  · rw [if_pos c, if_pos c]
  · rw [if_neg c, if_neg c, M.wrap_id (x := n - 1) (by omega) (by omega), if_pos (by omega), if_pos (by omega)]

/-! ### slices_Clone_int_int: function 47 -/
def slices_Clone_int_int.f (l0 : List Int) : Option (List Int) := (some (([] : List Int) : List Int)).bind fun y162 => (if y162.length + l0.length < 17592186044416 then (some (y162 ++ l0)) else (none))
set_option maxHeartbeats 8000000 in
set_option maxRecDepth 100000 in
theorem slices_Clone_int_int.calls (A0 : Option Addr) (c0 : Nat) (l0 : List Int) (r : List Int) (w : World) (hr0 : Kd.C (Kd.int .i64) w A0 l0.length l0) (hc0 : l0.length ≤ c0) (h : slices_Clone_int_int.f l0 = some r) :
    Calls Try.prog 47 #[.slice A0 l0.length c0] w fun e w' => ∃ v0_ : Value, e = .returned (v0_) ∧ Kd.R (Kd.int .i64) 3 w' w.heap.size (fun _ => True) v0_ r ∧ Below w.heap.size w w' := by
  have q22_ : ∀ (w : World) (a : Option Addr) (n c n' c' : Nat), (binOp .eql 22 (.slice a n c) (.slice none n' c')).run Try.prog w = .ok (.bool a.isNone) w := fun w a n c n' c' => Go.Lib.run_eql_slice_nil w _ _ a n c n' c' Try.underlying22
  rcases A0 with _ | ad0_
  · have hl : l0 = [] := by
      cases l0 with
      | nil => rfl
      | cons x s =>
        obtain ⟨ad, e, _⟩ := Kd.at_int hr0 0 (by omega) (by rw [List.length_cons]; omega)
        cases e
    subst hl
    have hr : r = [] := by
      unfold slices_Clone_int_int.f at h
      simpa using h.symm
    subst hr
    clear hr0 h
    go_enter Try.func47, Try.ntmps47
    go_wp2
    go_ret
    exact ⟨_, rfl, Kd.R_nil _ _ _ _ _, by repeat (first | exact Below.refl _ _ | apply below_alloc | apply pw_below_drewN | apply below_drew1)⟩
  have HR0 := Aside0.mk hr0
  have HC0 := Aside0.mk hc0
  clear hr0 hc0
  have HB := Aside0.mk (Below.refl w.heap.size w)
  have H : ((some (([] : List Int) : List Int)).bind fun y162 => (if y162.length + l0.length < 17592186044416 then (some (y162 ++ l0)) else (none))) = some r := h
  clear h
  obtain ⟨y162, hy162⟩ : ∃ y_ : List Int, y_ = (([] : List Int)) := ⟨_, rfl⟩
  replace H : (if y162.length + l0.length < 17592186044416 then (some (y162 ++ l0)) else (none)) = some r := by first | (rw [hy162]; with_reducible exact H) | (have H2_ := (Option.bind_some _ _).symm.trans H; rw [hy162]; with_reducible exact H2_) | (have H2_ := (Option.bind_some _ _).symm.trans H; with_reducible exact H2_) | with_reducible exact H | (rw [hy162]; exact H) | exact H
  have Ny162 := Aside0.mk hy162
  clear hy162
  by_cases c2 : y162.length + l0.length < 17592186044416
  · rw [if_pos c2] at H
    have LMc2 := Aside0.mk c2
    clear c2
    obtain ⟨y165, hy165⟩ : ∃ y_ : List Int, y_ = (y162 ++ l0) := ⟨_, rfl⟩
    replace H : (some y165) = some r := by first | (rw [hy165]; with_reducible exact H) | (have H2_ := (Option.bind_some _ _).symm.trans H; rw [hy165]; with_reducible exact H2_) | (have H2_ := (Option.bind_some _ _).symm.trans H; with_reducible exact H2_) | with_reducible exact H | (rw [hy165]; exact H) | exact H
    have Ny165 := Aside0.mk hy165
    clear hy165
    obtain rfl := Option.some.inj H
    go_enter Try.func47, Try.ntmps47
    go_wp2_with (first | ((with_reducible refine gate_dst (N := 5) rfl ?_); refine Kd.R_lit (Kd.int .i64) _ 3 ?hg (N := 5) ?hd (xs := ([] : List Int)) (inner := []) (ok := fun _ => True) (okp := fun _ => True) ?hr ?hp (fun _ hk => hk) trivial (Below.refl _ _) (Nat.le_refl _) (by simp) ?_; (case hd => rfl); (case hg => rfl); (case hr => first | (go_simp; done) | (go_simp; rfl)); (case hp => exact (Reps.none _ _)); intro v163 w3 ho4 hb hg_ hnew_; clear hg_ hnew_; (first | rw [← Ny162.out] at ho4 | (simp only [Int.reduceToNat] at ho4; rw [← Ny162.out] at ho4)); have n0_ := Aside0.mk (Kd.R_lower ho4 (below_size (by repeat (first | (with_reducible first | exact HB.out | apply below_alloc | apply pw_below_drewN | apply below_drew1) | exact HB.out)))); have n1_ := Aside0.mk (below_step (by repeat (first | (with_reducible first | exact HB.out | apply below_alloc | apply pw_below_drewN | apply below_drew1) | exact HB.out)) hb); clear HB; have HO164 := n0_; have HB := n1_; clear n0_ n1_; clear hb ho4) | ((with_reducible refine gate_builtin (b := .append) (xs := #[.tmp 5, .tmp 6]) rfl ?_); at_builtin; refine Kd.R_append_rows (Kd.int .i64) (w0 := w) w.heap.size rfl (.tmp 5) (.tmp 6) 22 3 (.int .i64 0) 8 rfl Try.underlying22 info3 rfl (by decide) (by omega) v163 y162 l0 _ _ _ (fun _ => True) (fun _ => False) rfl rfl ?aO ?aR (fun _ _ h => h) (fun _ h => h.elim) ?aF ?aB ?aS ?aL ?_; (case aR => repeat (first | exact (Kd.C_below HR0.out HB.out) | (with_reducible refine Kd.C_alloc ?_ _) | (with_reducible refine Kd.C_drewN ?_ _) | (with_reducible refine Kd.C_drew ?_))); (case aB => exact (by repeat (first | (with_reducible first | exact HB.out | apply below_alloc | apply pw_below_drewN | apply below_drew1) | exact HB.out))); (case aF => exact (fun _ _ => trivial)); (case aO => exact (by (with_reducible repeat (first | apply Kd.R_alloc | apply Kd.R_drewN | apply Kd.R_drew)); exact HO164.out)); (case aS => exact (below_size (by repeat (first | (with_reducible first | exact HB.out | apply below_alloc | apply pw_below_drewN | apply below_drew1) | exact HB.out)))); (case aL => have := LMc2.out; omega); intro v166 w5 ho hb hg hat; rw [← Ny165.out] at ho; have n0_ := Aside0.mk (hb); have n1_ := Aside0.mk (ho); clear HB; clear HO164; have HB := n0_; have HO167 := n1_; clear n0_ n1_; clear ho hb hg hat))
    go_ret
    exact ⟨_, by first | rfl | (simp [errW_none, errW_some] <;> rfl) | (simp [*, errW_none, errW_some] <;> rfl), by (with_reducible repeat (first | apply Kd.R_alloc | apply Kd.R_drewN | apply Kd.R_drew)); exact HO167.out, by repeat (first | (with_reducible first | exact HB.out | apply below_alloc | apply pw_below_drewN | apply below_drew1) | exact HB.out)⟩
  · rw [if_neg c2] at H
    exact absurd H (by simp)

end Go.Proofs.Ytdgpplnfkifkgaa.PFnExactDropOffer
