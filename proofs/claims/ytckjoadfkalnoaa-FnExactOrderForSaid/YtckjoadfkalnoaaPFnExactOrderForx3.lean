/- Contracts of the Go functions that the law FnExactOrderFor reaches, printed by a program of this session over the kit's print: each call comes to what the Lean function beside it says. Conditions: those that each theorem names. -/
import Derived.Test.YtckjoadfkalnoaaPFnExactOrderForx0
import Derived.Test.YtckjoadfkalnoaaPFnExactOrderForx2
namespace Go.Proofs.Ytckjoadfkalnoaa.PFnExactOrderFor
open Go.RowKit Go.Proofs.YtckjoadfkalnoaaW.PrintWords Go.Proofs.YtckjoadfkalnoaaW.PrintLast Go.Proofs.YtckjoadfkalnoaaW.PrintMore
attribute [local go_sem] max2_int min2_int max_two min_two max_three min_three max_four min_four   -- for this text's walks alone
set_option linter.unusedVariables false
set_option linter.unusedSimpArgs false

/-! ### spec_OrderFor: function 44 -/
mutual
def spec_OrderFor_p.l0 : Nat → List Int → List Int → List Int → Int → Int → Option (List Int × Bool)
  | 0, _, _, _, _, _ => none
  | k + 1, x0, x6, x17, x18, x19 => if x19 < x18 then (if 0 ≤ x19 then (if x19 < (x17.length : Int) then (if x6.length < 17592186044416 then (spec_OrderFor_p.l0 k x0 (x6 ++ [wrap64 (-(rd x17 x19))]) x17 x18 (wrap64 (x19 + 1))) else (none)) else (none)) else (none)) else ((spec_l3Rank.f x0).bind fun t162 => (if 0 ≤ (x0.length : Int) then (if ((x0.length : Int) : Int).toNat ≤ 35184372088832 then ((spec_l3Rank.f x6).bind fun t168 => (spec_OrderFor_p.l1 k t162 (List.replicate ((x0.length : Int) : Int).toNat 0) t168 (t168.length : Int) 0)) else (none)) else (none)))
def spec_OrderFor_p.l1 : Nat → List Int → List Int → List Int → Int → Int → Option (List Int × Bool)
  | 0, _, _, _, _, _ => none
  | k + 1, x9, x10, x35, x36, x37 => if x37 < x36 then (if 0 ≤ x37 then (if x37 < (x35.length : Int) then (if x37 < (x9.length : Int) then (if 0 ≤ (rd x35 x37) then (if (rd x35 x37) < (x10.length : Int) then (spec_OrderFor_p.l1 k x9 (x10.set ((rd x35 x37) : Int).toNat (rd x9 x37)) x35 x36 (wrap64 (x37 + 1))) else (none)) else (none)) else (none)) else (none)) else (none)) else (some (x10, true))
end
def spec_OrderFor_p.f (k : Nat) (l0 : List Int) (l1 : List Int) : Option (List Int × Bool) := (spec_l7Ways.f l0 l1).bind fun t157 => (if t157 = true then (spec_OrderFor_p.l0 k l0 ([] : List Int) l1 (l1.length : Int) 0) else (some (([] : List Int), false)))
theorem spec_OrderFor_p.mono_l : ∀ k, (∀ y0 y1 y2 y3 y4, LeO (spec_OrderFor_p.l0 k y0 y1 y2 y3 y4) (spec_OrderFor_p.l0 (k + 1) y0 y1 y2 y3 y4)) ∧ (∀ y0 y1 y2 y3 y4, LeO (spec_OrderFor_p.l1 k y0 y1 y2 y3 y4) (spec_OrderFor_p.l1 (k + 1) y0 y1 y2 y3 y4))
  | 0 => ⟨fun _ _ _ _ _ r h => by simp [spec_OrderFor_p.l0] at h, fun _ _ _ _ _ r h => by simp [spec_OrderFor_p.l1] at h⟩
  | k + 1 => by
    obtain ⟨ih0, ih1⟩ := spec_OrderFor_p.mono_l k
    refine ⟨?_, ?_⟩
    · intro y0 y1 y2 y3 y4
      unfold spec_OrderFor_p.l0
      repeat' first
      | (with_reducible exact ih0 _ _ _ _ _)
      | (with_reducible exact ih1 _ _ _ _ _)
      | (with_reducible exact LeO.refl _)
      | (with_reducible exact LeO.none _)
      | (with_reducible refine LeO.ite ?_ ?_)
      | (with_reducible refine LeO.bind ?_ (fun _ => ?_))
      | exact ih0 _ _ _ _ _
      | exact ih1 _ _ _ _ _
      | exact LeO.none _
      | refine LeO.ite ?_ ?_
      | refine LeO.bind ?_ (fun _ => ?_)
    · intro y0 y1 y2 y3 y4
      unfold spec_OrderFor_p.l1
      repeat' first
      | (with_reducible exact ih0 _ _ _ _ _)
      | (with_reducible exact ih1 _ _ _ _ _)
      | (with_reducible exact LeO.refl _)
      | (with_reducible exact LeO.none _)
      | (with_reducible refine LeO.ite ?_ ?_)
      | (with_reducible refine LeO.bind ?_ (fun _ => ?_))
      | exact ih0 _ _ _ _ _
      | exact ih1 _ _ _ _ _
      | exact LeO.none _
      | refine LeO.ite ?_ ?_
      | refine LeO.bind ?_ (fun _ => ?_)
theorem spec_OrderFor_p.mono : ∀ a0 a1 k, LeO (spec_OrderFor_p.f k a0 a1) (spec_OrderFor_p.f (k + 1) a0 a1) := by
  intro a0 a1 k
  obtain ⟨ih0, ih1⟩ := spec_OrderFor_p.mono_l k
  unfold spec_OrderFor_p.f
  repeat' first
      | (with_reducible exact ih0 _ _ _ _ _)
      | (with_reducible exact ih1 _ _ _ _ _)
      | (with_reducible exact LeO.refl _)
      | (with_reducible exact LeO.none _)
      | (with_reducible refine LeO.ite ?_ ?_)
      | (with_reducible refine LeO.bind ?_ (fun _ => ?_))
      | exact ih0 _ _ _ _ _
      | exact ih1 _ _ _ _ _
      | exact LeO.none _
      | refine LeO.ite ?_ ?_
      | refine LeO.bind ?_ (fun _ => ?_)
set_option maxHeartbeats 8000000 in
set_option maxRecDepth 100000 in
theorem spec_OrderFor_p.calls (k : Nat) (A0 : Option Addr) (c0 : Nat) (l0 : List Int) (A1 : Option Addr) (c1 : Nat) (l1 : List Int) (r1 : List Int) (r2 : Bool) (w : World) (hr0 : Kd.C (Kd.int .i64) w A0 l0.length l0) (hc0 : l0.length ≤ c0) (hr1 : Kd.C (Kd.int .i64) w A1 l1.length l1) (hc1 : l1.length ≤ c1) (h : spec_OrderFor_p.f k l0 l1 = some (r1, r2)) :
    Calls Try.prog 44 #[.slice A0 l0.length c0, .slice A1 l1.length c1] w fun e w' => ∃ v0_ : Value, e = .returned (.tuple #[v0_, .bool r2]) ∧ Kd.R (Kd.int .i64) 3 w' w.heap.size (fun _ => True) v0_ r1 ∧ Below w.heap.size w w' := by
  have HR0 := Aside0.mk hr0
  have HC0 := Aside0.mk hc0
  clear hr0 hc0
  have HR1 := Aside0.mk hr1
  have HC1 := Aside0.mk hc1
  clear hr1 hc1
  have HB := Aside0.mk (Below.refl w.heap.size w)
  have H : ((spec_l7Ways.f l0 l1).bind fun t157 => (if t157 = true then (spec_OrderFor_p.l0 k l0 ([] : List Int) l1 (l1.length : Int) 0) else (some (([] : List Int), false)))) = some (r1, r2) := h
  clear h
  replace H := Option.bind_eq_some_iff.mp H
  obtain ⟨t157, A30, H⟩ := H
  replace H : (if t157 = true then (spec_OrderFor_p.l0 k l0 ([] : List Int) l1 (l1.length : Int) 0) else (some (([] : List Int), false))) = some (r1, r2) := H
  have A3 := Aside0.mk A30
  clear A30
  by_cases c4 : t157 = true
  · subst c4
    have H1 : (spec_OrderFor_p.l0 k l0 ([] : List Int) l1 (l1.length : Int) 0) = some (r1, r2) := by rw [if_pos rfl] at H; exact H
    clear H
    have H := H1
    clear H1
    have H' := Aside0.mk H
    clear H
    go_enter Try.func44, Try.ntmps44
    go_wp2_with (first | ((with_reducible refine gate_callee (f := 87) rfl ?_); refine goesL_ (some 15) rfl rfl Try.func87 (by kernel_rfl) rfl #[.slice A0 l0.length c0, .slice A1 l1.length c1] rfl (by (try simp only [List.map_toArray, List.map_cons, List.map_nil]); first | done | rfl | (simp only [List.length_drop, List.length_take]; rfl)) ?_; (with_reducible refine (spec_l7Ways.calls _ _ l0 _ _ l1 true _ ?side1 ?side2 ?side3 ?side4 A3.out).mono ?_); (case side1 => repeat (first | exact HR0.out | (with_reducible refine Kd.C_alloc ?_ _) | (with_reducible refine Kd.C_drewN ?_ _) | (with_reducible refine Kd.C_drew ?_))); (case side2 => exact HC0.out); (case side3 => repeat (first | exact HR1.out | (with_reducible refine Kd.C_alloc ?_ _) | (with_reducible refine Kd.C_drewN ?_ _) | (with_reducible refine Kd.C_drew ?_))); (case side4 => exact HC1.out); rintro e w' ⟨rfl, ⟨nd, rfl⟩⟩; refine ⟨_, rfl, ?_⟩))
    go_loopg [6, 19] k (fun kq v6 v19 w' => ∃ (x6_1 : List Int) (x19_1 : Int), v19 = .int .i64 x19_1 ∧ Aside0 (spec_OrderFor_p.l0 kq l0 x6_1 l1 (l1.length : Int) x19_1 = some (r1, r2)) ∧ Aside0 (kq ≤ k) ∧ Aside0 (Kd.R (Kd.int .i64) 3 w' w.heap.size (fun _ => True) v6 x6_1) ∧ Aside0 (Below w.heap.size w w'))
    case atStart => exact ⟨(([] : List Int)), (0), (by first | rfl | (simp; done) | (simp [*]; done)), H', ⟨Nat.le_refl _⟩, ⟨by first | exact Kd.R_nil _ _ _ _ _ | exact Kd.N_nil _ _ _ _ _ | exact Kd.V_nil _ _ _ _ _ | exact Kd.Q_nil _ _ _ _ _ | exact Kd.S_nil _ _ _ _ _⟩, ⟨by repeat (first | (with_reducible first | exact HB.out | apply below_alloc | apply pw_below_drewN | apply below_drew1) | exact HB.out)⟩⟩
    case round =>
      clear H'
      try clear c1
      try clear p2
      try clear c4
      obtain ⟨x6_1, x19_1, rfl, HA, HK1, HO_6, HB⟩ := hrel
      cases gk with
      | zero => exact absurd HA.out (by simp [spec_OrderFor_p.l0])
      | succ k1 =>
        have H := HA.out
        clear HA
        simp only [spec_OrderFor_p.l0] at H
        by_cases c5 : x19_1 < (l1.length : Int)
        · rw [if_pos c5] at H
          have c5b0 : decide (x19_1 < (l1.length : Int)) = true := decide_eq_true c5
          clear c5
          by_cases c6 : 0 ≤ x19_1
          · rw [if_pos c6] at H
            have c6b0 : decide (0 ≤ x19_1) = true := decide_eq_true c6
            clear c6
            by_cases c7 : x19_1 < (l1.length : Int)
            · rw [if_pos c7] at H
              have c7b0 : decide (x19_1 < (l1.length : Int)) = true := decide_eq_true c7
              clear c7
              by_cases c8 : x6_1.length < 17592186044416
              · rw [if_pos c8] at H
                have LMc8 := Aside0.mk c8
                clear c8
                obtain ⟨y159, hy159⟩ : ∃ y_ : List Int, y_ = (x6_1 ++ [wrap64 (-(rd l1 x19_1))]) := ⟨_, rfl⟩
                replace H : (spec_OrderFor_p.l0 k1 l0 y159 l1 (l1.length : Int) (wrap64 (x19_1 + 1))) = some (r1, r2) := by first | (rw [hy159]; with_reducible exact H) | (have H2_ := (Option.bind_some _ _).symm.trans H; rw [hy159]; with_reducible exact H2_) | (have H2_ := (Option.bind_some _ _).symm.trans H; with_reducible exact H2_) | with_reducible exact H | (rw [hy159]; exact H) | exact H
                have Ny159 := Aside0.mk hy159
                clear hy159
                have H' := Aside0.mk H
                clear H
                have p158 : 0 ≤ (x19_1 : Int) := of_decide_eq_true (by first | (with_reducible assumption) | assumption)
                have q158 : x19_1 < (l1.length : Int) := of_decide_eq_true (by first | (with_reducible assumption) | assumption)
                obtain ⟨ad158, e158, hx158_0⟩ := Kd.at_int HR1.out x19_1 p158 q158
                cases e158
                replace hx158_0 := (HB.out.cell (World.block_lt_of_cell? w _ hx158_0)).trans hx158_0
                replace p158 := eq_true p158
                replace q158 := eq_true q158
                go_wp2_with (first | ((with_reducible refine gate_builtin (b := .append) (xs := #[.tmp 23, .tmp 26]) rfl ?_); at_builtin; refine Kd.R_append (Kd.int .i64) (w0 := w) w.heap.size rfl (.tmp 23) (.tmp 26) 35 3 (.int .i64 0) 8 rfl Try.underlying35 info3 rfl (by decide) (by omega) u6 x6_1 (wrap64 (-(rd l1 x19_1))) [.int .i64 (wrap64 (-(rd l1 x19_1)))] (fun _ => True) (fun _ => False) rfl rfl ?aP (fun _ hk => hk.elim) ?aF ?aO ?aB ?aS ?aL ?_; (case aP => exact rfl); (case aB => exact (by repeat (first | (with_reducible first | exact HB.out | apply below_alloc | apply pw_below_drewN | apply below_drew1) | exact HB.out))); (case aF => exact (fun _ _ => trivial)); (case aO => exact (by (with_reducible repeat (first | apply Kd.R_alloc | apply Kd.R_drewN | apply Kd.R_drew)); exact HO_6.out)); (case aS => exact (below_size (by repeat (first | (with_reducible first | exact HB.out | apply below_alloc | apply pw_below_drewN | apply below_drew1) | exact HB.out)))); (case aL => have := LMc8.out; omega); intro v160 w9 ho hb hg hat; rw [← Ny159.out] at ho; have n0_ := Aside0.mk (hb); have n1_ := Aside0.mk (ho); clear HB; clear HO_6; have HB := n0_; have HO161 := n1_; clear n0_ n1_; clear ho hb hg hat))
                go_roundg k1
                case measure => have := HK1.out; omega
                case rel => exact ⟨(y159), (wrap64 (x19_1 + 1)), (by first | rfl | (simp; done) | (simp [*]; done)), H', ⟨by have := HK1.out; omega⟩, ⟨by (with_reducible repeat (first | apply Kd.R_alloc | apply Kd.R_drewN | apply Kd.R_drew)); exact HO161.out⟩, ⟨by repeat (first | (with_reducible first | exact HB.out | apply below_alloc | apply pw_below_drewN | apply below_drew1) | exact HB.out)⟩⟩
              · rw [if_neg c8] at H
                exact absurd H (by simp)
            · rw [if_neg c7] at H
              exact absurd H (by simp)
          · rw [if_neg c6] at H
            exact absurd H (by simp)
        · rw [if_neg c5] at H
          have c5b0 : decide (x19_1 < (l1.length : Int)) = false := decide_eq_false c5
          clear c5
          replace H := Option.bind_eq_some_iff.mp H
          obtain ⟨t162, A100, H⟩ := H
          replace H : (if 0 ≤ (l0.length : Int) then (if ((l0.length : Int) : Int).toNat ≤ 35184372088832 then ((spec_l3Rank.f x6_1).bind fun t168 => (spec_OrderFor_p.l1 k1 t162 (List.replicate ((l0.length : Int) : Int).toNat 0) t168 (t168.length : Int) 0)) else (none)) else (none)) = some (r1, r2) := H
          have A10 := Aside0.mk A100
          clear A100
          by_cases c11 : 0 ≤ (l0.length : Int)
          · rw [if_pos c11] at H
            have c11b0 := eq_true c11
            have c11b1 : decide (0 ≤ (l0.length : Int)) = true := decide_eq_true c11
            clear c11
            by_cases c12 : ((l0.length : Int) : Int).toNat ≤ 35184372088832
            · rw [if_pos c12] at H
              have c12b0 := eq_true c12
              have c12b1 : decide (((l0.length : Int) : Int).toNat ≤ 35184372088832) = true := decide_eq_true c12
              clear c12
              obtain ⟨y165, hy165⟩ : ∃ y_ : List Int, y_ = (List.replicate ((l0.length : Int) : Int).toNat 0) := ⟨_, rfl⟩
              replace H : ((spec_l3Rank.f x6_1).bind fun t168 => (spec_OrderFor_p.l1 k1 t162 y165 t168 (t168.length : Int) 0)) = some (r1, r2) := by first | (rw [hy165]; with_reducible exact H) | (have H2_ := (Option.bind_some _ _).symm.trans H; rw [hy165]; with_reducible exact H2_) | (have H2_ := (Option.bind_some _ _).symm.trans H; with_reducible exact H2_) | with_reducible exact H | (rw [hy165]; exact H) | exact H
              have Ny165 := Aside0.mk hy165
              clear hy165
              replace H := Option.bind_eq_some_iff.mp H
              obtain ⟨t168, A130, H⟩ := H
              replace H : (spec_OrderFor_p.l1 k1 t162 y165 t168 (t168.length : Int) 0) = some (r1, r2) := H
              have A13 := Aside0.mk A130
              clear A130
              have H' := Aside0.mk H
              clear H
              go_wp2_with (first | ((with_reducible refine gate_callee (f := 72) rfl ?_); refine goesL_ (some 30) rfl rfl Try.func72 (by kernel_rfl) rfl #[.slice A0 l0.length c0] rfl (by (try simp only [List.map_toArray, List.map_cons, List.map_nil]); first | done | rfl | (simp only [List.length_drop, List.length_take]; rfl)) ?_; (with_reducible refine (spec_l3Rank.calls _ _ l0 t162 _ ?side1 ?side2 A10.out).mono ?_); (case side1 => repeat (first | exact (Kd.C_below HR0.out HB.out) | (with_reducible refine Kd.C_alloc ?_ _) | (with_reducible refine Kd.C_drewN ?_ _) | (with_reducible refine Kd.C_drew ?_))); (case side2 => exact HC0.out); rintro e w14 ⟨v163, rfl, ho0, hb⟩; refine ⟨_, rfl, ?_⟩; have n0_ := Aside0.mk (Kd.R_elder' (by (with_reducible repeat (first | apply Kd.R_alloc | apply Kd.R_drewN | apply Kd.R_drew)); exact HO_6.out) (Kd.R_base ho0) hb); have n1_ := Aside0.mk (Kd.R_lower (Kd.R_new' ho0 (Kd.R_lt (by (with_reducible repeat (first | apply Kd.R_alloc | apply Kd.R_drewN | apply Kd.R_drew)); exact HO_6.out))) (below_size (by repeat (first | (with_reducible first | exact HB.out | apply below_alloc | apply pw_below_drewN | apply below_drew1) | exact HB.out)))); have n2_ := Aside0.mk (below_step (by repeat (first | (with_reducible first | exact HB.out | apply below_alloc | apply pw_below_drewN | apply below_drew1) | exact HB.out)) hb); clear HO_6; clear HB; have HO_6 := n0_; have HO164 := n1_; have HB := n2_; clear n0_ n1_ n2_; (try clear hb); (try clear hb2); (try clear hk); (try clear hi); (try clear ho0)) | ((with_reducible refine gate_dst (N := 33) rfl ?_); refine Kd.R_make (Kd.int .i64) _ 3 rfl (N := 33) rfl 35 _ _ rfl (l0.length : Int) rfl rfl Try.underlying35 (.int .i64 0) 8 info3 rfl (by decide) (by omega) 0 (ok := fun _ => True) (okp := fun _ => True) rfl (fun _ hk => hk) trivial (of_decide_eq_true (by first | (with_reducible assumption) | assumption)) (Nat.le_trans (Nat.mul_le_mul_right _ (of_decide_eq_true (by first | (with_reducible assumption) | assumption) : (l0.length : Int).toNat ≤ 35184372088832)) (by omega)) (Below.refl _ _) (Nat.le_refl _) ?_; intro v166 w15 ho16 hb hg_ hnew_; clear hg_ hnew_; (first | rw [← Ny165.out] at ho16 | (simp only [Int.reduceToNat] at ho16; rw [← Ny165.out] at ho16)); have n0_ := Aside0.mk (Kd.R_elder' (by (with_reducible repeat (first | apply Kd.R_alloc | apply Kd.R_drewN | apply Kd.R_drew)); exact HO_6.out) (Kd.R_base ho16) hb); have n1_ := Aside0.mk (Kd.R_elder' (by (with_reducible repeat (first | apply Kd.R_alloc | apply Kd.R_drewN | apply Kd.R_drew)); exact HO164.out) (Kd.R_base ho16) hb); have n2_ := Aside0.mk (Kd.R_lower (Kd.R_new' (Kd.R_new' ho16 (Kd.R_lt (by (with_reducible repeat (first | apply Kd.R_alloc | apply Kd.R_drewN | apply Kd.R_drew)); exact HO_6.out))) (Kd.R_lt (by (with_reducible repeat (first | apply Kd.R_alloc | apply Kd.R_drewN | apply Kd.R_drew)); exact HO164.out))) (below_size (by repeat (first | (with_reducible first | exact HB.out | apply below_alloc | apply pw_below_drewN | apply below_drew1) | exact HB.out)))); have n3_ := Aside0.mk (below_step (by repeat (first | (with_reducible first | exact HB.out | apply below_alloc | apply pw_below_drewN | apply below_drew1) | exact HB.out)) hb); clear HO_6; clear HO164; clear HB; have HO_6 := n0_; have HO164 := n1_; have HO167 := n2_; have HB := n3_; clear n0_ n1_ n2_ n3_; clear hb ho16; obtain ⟨Ao17, co17, eo17⟩ := Kd.R_slice HO_6.out; subst eo17) | ((with_reducible refine gate_callee (f := 72) rfl ?_); refine goesL_ (some 35) rfl rfl Try.func72 (by kernel_rfl) rfl #[.slice Ao17 x6_1.length co17] rfl (by (try simp only [List.map_toArray, List.map_cons, List.map_nil]); first | done | rfl | (simp only [List.length_drop, List.length_take]; rfl)) ?_; (with_reducible refine (spec_l3Rank.calls _ _ x6_1 t168 _ ?side1 ?side2 A13.out).mono ?_); (case side1 => repeat (first | exact (Kd.R_reads' HO_6.out).2.2 | (with_reducible refine Kd.C_alloc ?_ _) | (with_reducible refine Kd.C_drewN ?_ _) | (with_reducible refine Kd.C_drew ?_))); (case side2 => exact (Kd.R_reads' HO_6.out).2.1); rintro e w18 ⟨v169, rfl, ho0, hb⟩; refine ⟨_, rfl, ?_⟩; have n0_ := Aside0.mk (Kd.R_elder' (by (with_reducible repeat (first | apply Kd.R_alloc | apply Kd.R_drewN | apply Kd.R_drew)); exact HO_6.out) (Kd.R_base ho0) hb); have n1_ := Aside0.mk (Kd.R_elder' (by (with_reducible repeat (first | apply Kd.R_alloc | apply Kd.R_drewN | apply Kd.R_drew)); exact HO164.out) (Kd.R_base ho0) hb); have n2_ := Aside0.mk (Kd.R_elder' (by (with_reducible repeat (first | apply Kd.R_alloc | apply Kd.R_drewN | apply Kd.R_drew)); exact HO167.out) (Kd.R_base ho0) hb); have n3_ := Aside0.mk (Kd.R_lower (Kd.R_new' (Kd.R_new' (Kd.R_new' ho0 (Kd.R_lt (by (with_reducible repeat (first | apply Kd.R_alloc | apply Kd.R_drewN | apply Kd.R_drew)); exact HO_6.out))) (Kd.R_lt (by (with_reducible repeat (first | apply Kd.R_alloc | apply Kd.R_drewN | apply Kd.R_drew)); exact HO164.out))) (Kd.R_lt (by (with_reducible repeat (first | apply Kd.R_alloc | apply Kd.R_drewN | apply Kd.R_drew)); exact HO167.out))) (below_size (by repeat (first | (with_reducible first | exact HB.out | apply below_alloc | apply pw_below_drewN | apply below_drew1) | exact HB.out)))); have n4_ := Aside0.mk (below_step (by repeat (first | (with_reducible first | exact HB.out | apply below_alloc | apply pw_below_drewN | apply below_drew1) | exact HB.out)) hb); clear HO_6; clear HO164; clear HO167; clear HB; have HO_6 := n0_; have HO164 := n1_; have HO167 := n2_; have HO170 := n3_; have HB := n4_; clear n0_ n1_ n2_ n3_ n4_; (try clear hb); (try clear hb2); (try clear hk); (try clear hi); (try clear ho0); obtain ⟨Ao19, co19, eo19⟩ := Kd.R_slice HO170.out; subst eo19))
              go_loopg [37] k1 (fun kq v37 w' => ∃ (x10_2 : List Int) (x37_2 : Int), v37 = .int .i64 x37_2 ∧ Aside0 (spec_OrderFor_p.l1 kq t162 x10_2 t168 (t168.length : Int) x37_2 = some (r1, r2)) ∧ Aside0 (kq ≤ k1) ∧ Aside0 (Kd.R (Kd.int .i64) 3 w' w.heap.size (fun k_ => some k_ ≠ (v166 : Value).ownBlock ∧ some k_ ≠ ((.slice Ao19 t168.length co19) : Value).ownBlock) v163 t162) ∧ Aside0 (Kd.R (Kd.int .i64) 3 w' w.heap.size (fun k_ => some k_ ≠ (v163 : Value).ownBlock ∧ some k_ ≠ ((.slice Ao19 t168.length co19) : Value).ownBlock) v166 x10_2) ∧ Aside0 (Kd.R (Kd.int .i64) 3 w' w.heap.size (fun k_ => some k_ ≠ (v163 : Value).ownBlock ∧ some k_ ≠ (v166 : Value).ownBlock) (.slice Ao19 t168.length co19) t168) ∧ Aside0 (Below w.heap.size w w'))
              case atStart => exact ⟨(y165), (0), (by first | rfl | (simp; done) | (simp [*]; done)), H', ⟨Nat.le_refl _⟩, ⟨by (with_reducible repeat (first | apply Kd.R_alloc | apply Kd.R_drewN | apply Kd.R_drew)); exact Kd.R_mono HO164.out (fun _ hk => ⟨hk.1.2, hk.2⟩)⟩, ⟨by (with_reducible repeat (first | apply Kd.R_alloc | apply Kd.R_drewN | apply Kd.R_drew)); exact Kd.R_mono HO167.out (fun _ hk => ⟨hk.1.2, hk.2⟩)⟩, ⟨by (with_reducible repeat (first | apply Kd.R_alloc | apply Kd.R_drewN | apply Kd.R_drew)); exact Kd.R_mono HO170.out (fun _ hk => ⟨hk.1.2, hk.2⟩)⟩, ⟨by repeat (first | (with_reducible first | exact HB.out | apply below_alloc | apply pw_below_drewN | apply below_drew1) | exact HB.out)⟩⟩
              case round =>
                clear H'
                try clear c1
                try clear p1
                try clear q1
                try clear hx1
                try clear p2
                try clear c4
                try clear c5
                try clear c5b0
                try clear c6
                try clear c6b0
                try clear p6
                try clear c7
                try clear c7b0
                try clear c8
                try clear c11
                try clear c11b0
                try clear c11b1
                try clear c12
                try clear c12b0
                try clear c12b1
                try clear p15
                try clear q15
                try clear hx15
                try clear hx158_0
                try clear p158
                try clear p2
                try clear q158
                obtain ⟨x10_2, x37_2, rfl, HA, HK2, HO_9, HO_10, HO_35, HB⟩ := hrel
                cases gk with
                | zero => exact absurd HA.out (by simp [spec_OrderFor_p.l1])
                | succ k2 =>
                  have H := HA.out
                  clear HA
                  simp only [spec_OrderFor_p.l1] at H
                  by_cases c20 : x37_2 < (t168.length : Int)
                  · rw [if_pos c20] at H
                    have c20b0 : decide (x37_2 < (t168.length : Int)) = true := decide_eq_true c20
                    clear c20
                    by_cases c21 : 0 ≤ x37_2
                    · rw [if_pos c21] at H
                      have c21b0 : decide (0 ≤ x37_2) = true := decide_eq_true c21
                      clear c21
                      by_cases c22 : x37_2 < (t168.length : Int)
                      · rw [if_pos c22] at H
                        have c22b0 : decide (x37_2 < (t168.length : Int)) = true := decide_eq_true c22
                        clear c22
                        by_cases c23 : x37_2 < (t162.length : Int)
                        · rw [if_pos c23] at H
                          have c23b0 : decide (x37_2 < (t162.length : Int)) = true := decide_eq_true c23
                          clear c23
                          by_cases c24 : 0 ≤ (rd t168 x37_2)
                          · rw [if_pos c24] at H
                            have c24b0 : decide (0 ≤ (rd t168 x37_2)) = true := decide_eq_true c24
                            clear c24
                            by_cases c25 : (rd t168 x37_2) < (x10_2.length : Int)
                            · rw [if_pos c25] at H
                              have c25b0 : decide ((rd t168 x37_2) < (x10_2.length : Int)) = true := decide_eq_true c25
                              clear c25
                              obtain ⟨y173, hy173⟩ : ∃ y_ : List Int, y_ = (x10_2.set ((rd t168 x37_2) : Int).toNat (rd t162 x37_2)) := ⟨_, rfl⟩
                              replace H : (spec_OrderFor_p.l1 k2 t162 y173 t168 (t168.length : Int) (wrap64 (x37_2 + 1))) = some (r1, r2) := by first | (rw [hy173]; with_reducible exact H) | (have H2_ := (Option.bind_some _ _).symm.trans H; rw [hy173]; with_reducible exact H2_) | (have H2_ := (Option.bind_some _ _).symm.trans H; with_reducible exact H2_) | with_reducible exact H | (rw [hy173]; exact H) | exact H
                              have Ny173 := Aside0.mk hy173
                              clear hy173
                              have H' := Aside0.mk H
                              clear H
                              have p171 : 0 ≤ (x37_2 : Int) := of_decide_eq_true (by first | (with_reducible assumption) | assumption)
                              have q171 : x37_2 < (t168.length : Int) := of_decide_eq_true (by first | (with_reducible assumption) | assumption)
                              obtain ⟨ad171, e171, hx171_0⟩ := Kd.at_int (Kd.R_reads' HO_35.out).2.2 x37_2 p171 q171
                              cases e171
                              replace p171 := eq_true p171
                              replace q171 := eq_true q171
                              obtain ⟨Ao27, co27, eo27⟩ := Kd.R_slice HO_9.out
                              subst eo27
                              have p172 : 0 ≤ (x37_2 : Int) := of_decide_eq_true (by first | (with_reducible assumption) | assumption)
                              have q172 : x37_2 < (t162.length : Int) := of_decide_eq_true (by first | (with_reducible assumption) | assumption)
                              obtain ⟨ad172, e172, hx172_0⟩ := Kd.at_int (Kd.R_reads' HO_9.out).2.2 x37_2 p172 q172
                              cases e172
                              replace p172 := eq_true p172
                              replace q172 := eq_true q172
                              have p26 : 0 ≤ ((rd t168 x37_2) : Int) := of_decide_eq_true (by first | (with_reducible assumption) | assumption)
                              have q26 : ((rd t168 x37_2) : Int) < ((x10_2.length : Int) : Int) := of_decide_eq_true (by first | (with_reducible assumption) | assumption)
                              obtain ⟨go26, co26, eo26, gb26, gl26, cl26, HG26⟩ := Kd.R_form HO_10.out (by omega)
                              (first | cases eo26 | (injection eo26 with ea_ en_ ec_; (first | subst ea_ | (injection ea_ with ea_; subst ea_)); subst ec_; clear en_))
                              have GB26 := Aside0.mk gb26
                              have GG26 := Aside0.mk HG26
                              clear gb26 gl26 HG26
                              obtain ⟨hx26_0, hf26_0⟩ := Kd.R_celln 0 HO_10.out ((rd t168 x37_2) : Int) p26 q26
                              replace p26 := eq_true p26
                              replace q26 := eq_true q26
                              have HP28 := Kd.R_putg HO_10.out ((rd t168 x37_2) : Int) (rd t162 x37_2)
                              go_wp2_with (first | ((with_reducible refine gate_store (t := 3) (p := 48) rfl ?_); refine store_event (t := 3) (p := 48) (v := ?vo_w29) (w1 := (wr.setCell ⟨go26, ((rd t168 x37_2) : Int).toNat, none⟩ (.int .i64 (rd t162 x37_2)))) ?hg ?ho ?hn ?hr ?_; (case ho => rfl); (case hg => rfl); (case hn => rfl); (case hr => first | (go_simp; done) | (go_simp; rfl)); intro w29 hw; have hg : wr.grownBy w29 (some go26) := (by rw [hw]; exact HP28.2); have hp_ : Kd.R (Kd.int .i64) 3 w29 w.heap.size (fun k_ => some k_ ≠ (.slice (some ad172) t162.length co27 : Value).ownBlock ∧ some k_ ≠ (.slice (some ad171) t168.length co19 : Value).ownBlock) (.slice (some ⟨go26, 0, none⟩) x10_2.length co26) y173 := (by rw [hw, Ny173.out]; exact HP28.1); clear HP28; have n0_ := Aside0.mk (Kd.R_after (v := (.slice (some ⟨go26, 0, none⟩) x10_2.length co26)) (v1 := (.slice (some ⟨go26, 0, none⟩) x10_2.length co26)) (ok := (fun k_ => some k_ ≠ (.slice (some ad171) t168.length co19 : Value).ownBlock)) (by (with_reducible repeat (first | apply Kd.R_alloc | apply Kd.R_drewN | apply Kd.R_drew)); exact Kd.R_mono HO_9.out (fun _ hk => ⟨hk.2, hk.1⟩)) hg (.inl rfl)); have n1_ := Aside0.mk (hp_); have n2_ := Aside0.mk (Kd.R_after (v := (.slice (some ⟨go26, 0, none⟩) x10_2.length co26)) (v1 := (.slice (some ⟨go26, 0, none⟩) x10_2.length co26)) (ok := (fun k_ => some k_ ≠ (.slice (some ad172) t162.length co27 : Value).ownBlock)) (by (with_reducible repeat (first | apply Kd.R_alloc | apply Kd.R_drewN | apply Kd.R_drew)); exact HO_35.out) hg (.inl rfl)); have n3_ := Aside0.mk ((by rw [hw]; exact below_set (HB.out) GB26.out : Below w.heap.size w w29)); clear HO_9; clear HO_10; clear HO_35; clear HB; have HO_9 := n0_; have HO_10 := n1_; have HO_35 := n2_; have HB := n3_; clear n0_ n1_ n2_ n3_; clear hg hw hp_))
                              go_roundg k2
                              case measure => have := HK1.out; have := HK2.out; omega
                              case rel => exact ⟨(y173), (wrap64 (x37_2 + 1)), (by first | rfl | (simp; done) | (simp [*]; done)), H', ⟨by have := HK1.out; have := HK2.out; omega⟩, ⟨by (with_reducible repeat (first | apply Kd.R_alloc | apply Kd.R_drewN | apply Kd.R_drew)); exact Kd.R_mono HO_9.out (fun _ hk => ⟨hk.2, hk.1⟩)⟩, ⟨by (with_reducible repeat (first | apply Kd.R_alloc | apply Kd.R_drewN | apply Kd.R_drew)); exact HO_10.out⟩, ⟨by (with_reducible repeat (first | apply Kd.R_alloc | apply Kd.R_drewN | apply Kd.R_drew)); exact HO_35.out⟩, ⟨by repeat (first | (with_reducible first | exact HB.out | apply below_alloc | apply pw_below_drewN | apply below_drew1) | exact HB.out)⟩⟩
                            · rw [if_neg c25] at H
                              exact absurd H (by simp)
                          · rw [if_neg c24] at H
                            exact absurd H (by simp)
                        · rw [if_neg c23] at H
                          exact absurd H (by simp)
                      · rw [if_neg c22] at H
                        exact absurd H (by simp)
                    · rw [if_neg c21] at H
                      exact absurd H (by simp)
                  · rw [if_neg c20] at H
                    have c20b0 : decide (x37_2 < (t168.length : Int)) = false := decide_eq_false c20
                    clear c20
                    simp only [Option.some.injEq, Prod.mk.injEq] at H
                    obtain ⟨rfl, rfl⟩ := H
                    go_wp2
                    go_ret2
                    exact ⟨_, by first | rfl | (simp [errW_none, errW_some] <;> rfl) | (simp [*, errW_none, errW_some] <;> rfl), by (with_reducible repeat (first | apply Kd.R_alloc | apply Kd.R_drewN | apply Kd.R_drew)); exact Kd.R_mono HO_10.out (fun _ hk => trivial), by repeat (first | (with_reducible first | exact HB.out | apply below_alloc | apply pw_below_drewN | apply below_drew1) | exact HB.out)⟩
            · rw [if_neg c12] at H
              exact absurd H (by simp)
          · rw [if_neg c11] at H
            exact absurd H (by simp)
  · replace c4 := Bool.eq_false_iff.mpr c4
    subst c4
    have H1 : (some (([] : List Int), false)) = some (r1, r2) := by rw [if_neg (show ¬ (false = true) by decide)] at H; exact H
    clear H
    have H := H1
    clear H1
    simp only [Option.some.injEq, Prod.mk.injEq] at H
    obtain ⟨rfl, rfl⟩ := H
    go_enter Try.func44, Try.ntmps44
    go_wp2_with (first | ((with_reducible refine gate_callee (f := 87) rfl ?_); refine goesL_ (some 15) rfl rfl Try.func87 (by kernel_rfl) rfl #[.slice A0 l0.length c0, .slice A1 l1.length c1] rfl (by (try simp only [List.map_toArray, List.map_cons, List.map_nil]); first | done | rfl | (simp only [List.length_drop, List.length_take]; rfl)) ?_; (with_reducible refine (spec_l7Ways.calls _ _ l0 _ _ l1 false _ ?side1 ?side2 ?side3 ?side4 A3.out).mono ?_); (case side1 => repeat (first | exact HR0.out | (with_reducible refine Kd.C_alloc ?_ _) | (with_reducible refine Kd.C_drewN ?_ _) | (with_reducible refine Kd.C_drew ?_))); (case side2 => exact HC0.out); (case side3 => repeat (first | exact HR1.out | (with_reducible refine Kd.C_alloc ?_ _) | (with_reducible refine Kd.C_drewN ?_ _) | (with_reducible refine Kd.C_drew ?_))); (case side4 => exact HC1.out); rintro e w' ⟨rfl, ⟨nd, rfl⟩⟩; refine ⟨_, rfl, ?_⟩))
    go_ret2
    exact ⟨_, by first | rfl | (simp [errW_none, errW_some] <;> rfl) | (simp [*, errW_none, errW_some] <;> rfl), by first | exact Kd.R_nil _ _ _ _ _ | exact Kd.N_nil _ _ _ _ _ | exact Kd.V_nil _ _ _ _ _ | exact Kd.Q_nil _ _ _ _ _ | exact Kd.S_nil _ _ _ _ _, by repeat (first | (with_reducible first | exact HB.out | apply below_alloc | apply pw_below_drewN | apply below_drew1) | exact HB.out)⟩

theorem spec_OrderFor_p.run (g p : List Int) (n : Nat) (hg : g.length = p.length) (hp : ∀ z ∈ p, 0 ≤ z ∧ z < (n : Int)) (h12 : p.length ≤ 12) : ∀ (s : List Int) (i : Nat) (y : List Int) (q : Nat), p.drop i = s → y.length = n → s.length < q → spec_OrderFor_p.l1 q g y p (p.length : Int) (i : Int) = some (M.putAll (rd g) s i y, true)
  | [], i, y, q + 1, hd, hy, hq => by
    have h1 : p.length ≤ i := List.drop_eq_nil_iff.1 hd
    rw [spec_OrderFor_p.l1, if_neg (by omega), M.putAll]
  | x :: s, i, y, q + 1, hd, hy, hq => by
    have hlt : i < p.length := by
      rcases Nat.lt_or_ge i p.length with h | h
      · exact h
      · rw [List.drop_eq_nil_of_le h] at hd; cases hd
    have h2 : p[i]? = some x := by rw [← List.head?_drop, hd]; rfl
    have h3 : p.drop (i + 1) = s := by rw [← List.tail_drop, hd]; rfl
    have hz := hp x (List.mem_of_getElem? h2)
    rw [List.length_cons] at hq
    rw [spec_OrderFor_p.l1, if_pos (by omega), if_pos (by omega), if_pos (by omega), if_pos (by omega), M.rd_at h2, if_pos (by omega), if_pos (by omega), M.wrap_succ (by omega), spec_OrderFor_p.run g p n hg hp h12 s (i + 1) _ q h3 (by rw [List.length_set]; exact hy) (by omega), M.putAll]
  | _, _, _, 0, _, _, hq => by omega

theorem spec_OrderFor_p.run0 (u v : List Int) (hu : u.length = v.length) (hl : v.length ≤ 10) (hv : M.inAll v 0 1000 = true) : ∀ (s : List Int) (i : Nat) (y : List Int) (q : Nat), v.drop i = s → y.length = i → i ≤ v.length → s.length + u.length + 2 ≤ q → spec_OrderFor_p.l0 q u y v (v.length : Int) (i : Int) = some (M.putAll (rd (M.rank u)) (M.rank (y ++ s.map fun x => -x)) 0 (List.replicate u.length 0), true)
  | [], i, y, q + 1, hd, hy, hi, hq => by
    have h1 : v.length ≤ i := List.drop_eq_nil_iff.1 hd
    have hyl : y.length = u.length := by omega
    rw [spec_OrderFor_p.l0, if_neg (by omega), List.map_nil, List.append_nil]
    unfold spec_l3Rank.f
    rw [if_pos (by omega), if_pos (by omega)]
    simp only [Option.bind_some]
    rw [if_pos (by omega), if_pos (by omega), Int.toNat_natCast]
    exact spec_OrderFor_p.run (M.rank u) (M.rank y) u.length (by rw [M.rank_length, M.rank_length, hyl]) (fun z hz => by have := M.rank_in y z hz; omega) (by rw [M.rank_length]; omega) (M.rank y) 0 _ q rfl (by rw [List.length_replicate]) (by rw [M.rank_length]; simp only [List.length_nil] at hq; omega)
  | x :: s, i, y, q + 1, hd, hy, hi, hq => by
    have hlt : i < v.length := by
      rcases Nat.lt_or_ge i v.length with h | h
      · exact h
      · rw [List.drop_eq_nil_of_le h] at hd; cases hd
    have h2 : v[i]? = some x := by rw [← List.head?_drop, hd]; rfl
    have h3 : v.drop (i + 1) = s := by rw [← List.tail_drop, hd]; rfl
    have hx := M.inAll_iff.1 hv x (List.mem_of_getElem? h2)
    rw [List.length_cons] at hq
    rw [spec_OrderFor_p.l0, if_pos (by omega), if_pos (by omega), if_pos (by omega), if_pos (by omega), M.rd_at h2, M.wrap_succ (by omega), M.wrap_id (by omega) (by omega), spec_OrderFor_p.run0 u v hu hl hv s (i + 1) _ q h3 (by rw [List.length_append, hy]; rfl) (by omega) (by omega), List.append_assoc]
    rfl
  | _, _, _, 0, _, _, _, hq => by omega

def spec_OrderFor.f (l0 : List Int) (l1 : List Int) : Option (List Int × Bool) := some (if M.ways l0 l1 = true then (M.putAll (rd (M.rank l0)) (M.rank (l1.map fun x => -x)) 0 (List.replicate l0.length 0), true) else ([], false))
theorem spec_OrderFor.ok (l0 : List Int) (l1 : List Int) (r1 : List Int) (r2 : Bool) (h : spec_OrderFor.f l0 l1 = some (r1, r2)) : ∃ k, spec_OrderFor_p.f k l0 l1 = some (r1, r2) := by
  unfold spec_OrderFor.f at h
  refine ⟨l1.length + l0.length + 2, ?_⟩
  unfold spec_OrderFor_p.f
  rw [spec_l7Ways.eq, ← h]
  simp only [Option.bind_some]
  by_cases hw : M.ways l0 l1 = true
  · rw [if_pos hw, if_pos hw]
    have hb := M.ways_iff.1 hw
    exact spec_OrderFor_p.run0 l0 l1 hb.1 (by omega) hb.2.2.2 l1 0 [] _ rfl rfl (by omega) (Nat.le_refl _)
  · rw [if_neg hw, if_neg hw]
theorem spec_OrderFor.calls (A0 : Option Addr) (c0 : Nat) (l0 : List Int) (A1 : Option Addr) (c1 : Nat) (l1 : List Int) (r1 : List Int) (r2 : Bool) (w : World) (hr0 : Kd.C (Kd.int .i64) w A0 l0.length l0) (hc0 : l0.length ≤ c0) (hr1 : Kd.C (Kd.int .i64) w A1 l1.length l1) (hc1 : l1.length ≤ c1) (h : spec_OrderFor.f l0 l1 = some (r1, r2)) :
    Calls Try.prog 44 #[.slice A0 l0.length c0, .slice A1 l1.length c1] w fun e w' => ∃ v0_ : Value, e = .returned (.tuple #[v0_, .bool r2]) ∧ Kd.R (Kd.int .i64) 3 w' w.heap.size (fun _ => True) v0_ r1 ∧ Below w.heap.size w w' := by
  obtain ⟨k, hk⟩ := spec_OrderFor.ok l0 l1 r1 r2 h
  exact spec_OrderFor_p.calls k A0 c0 l0 A1 c1 l1 r1 r2 w hr0 hc0 hr1 hc1 hk


/-! ### impl_rank: function 74 -/
def impl_rank.f (l0 : List Int) : Option (List Int) := if l0.length ≤ 12 ∧ M.inAll l0 (-10000000) 10000000 = true then some (M.rank l0) else none

set_option maxHeartbeats 1000000 in
theorem impl_rank_cl (l : List Int) (b : Nat) (ad : Addr) (c : Nat) (W : World) (hb : W.cell? ⟨b, 0, none⟩ = some (.slice (some ad) l.length c)) (hv : ∀ i : Nat, i < l.length → W.cell? (ad.add i) = some (.int .i64 (rd l (i : Int)))) (x y : Fin l.length) :
    Calls Try.prog 118 #[.int .i64 ((x : Nat) : Int), .int .i64 ((y : Nat) : Int), .pointer (some ⟨b, 0, none⟩)] W fun e w' => e = .returned (.int .i64 (wrap64 (rd l ((y : Nat) : Int) - rd l ((x : Nat) : Int)))) ∧ ∃ q, w' = W.drewN q := by
  obtain ⟨x, hx⟩ := x
  obtain ⟨y, hy⟩ := y
  have h1 := hv x hx
  have h2 := hv y hy
  have p1 : (x : Int) < (l.length : Int) := by omega
  have p2 : (y : Int) < (l.length : Int) := by omega
  have p3 : (0 : Int) ≤ (x : Int) := by omega
  have p4 : (0 : Int) ≤ (y : Int) := by omega
  clear hv
  go_enter Try.func118, Try.ntmps118
  go_wp2
  go_quiet (fail)
  go_wp2
  go_ret
  exact ⟨rfl, _, rfl⟩
theorem impl_rank_cmp (l : List Int) [Inhabited (Fin l.length)] (b : Nat) (ad : Addr) (c : Nat) (w : World) (blk off n : Nat) (hb : w.cell? ⟨b, 0, none⟩ = some (.slice (some ad) l.length c)) (hv : ∀ i : Nat, i < l.length → w.cell? (ad.add i) = some (.int .i64 (rd l (i : Int)))) (h1 : b ≠ blk) (h2 : ad.block ≠ blk) (h3 : b < w.heap.size) (h4 : ad.block < w.heap.size) :
    CmpReads Try.prog 118 #[.pointer (some ⟨b, 0, none⟩)] (R.encF l.length) (fun x y => wrap64 (rd l ((y : Nat) : Int) - rd l ((x : Nat) : Int))) blk off n w := by
  intro m os dk hs x y
  exact impl_rank_cl l b ad c _ ((R.sort_cell (R.encF l.length) w blk off m dk os _ h1 h3).trans hb) (fun i hi => (R.sort_cell (R.encF l.length) w blk off m dk os (ad.add i) (by unfold Addr.add; split; exact h2; exact h2) (by unfold Addr.add; split; exact h4; exact h4)).trans (hv i hi)) x y

set_option maxHeartbeats 8000000 in
set_option maxRecDepth 100000 in
theorem impl_rank.calls (A0 : Option Addr) (c0 : Nat) (l0 : List Int) (r : List Int) (w : World) (hr0 : Kd.C (Kd.int .i64) w A0 l0.length l0) (hc0 : l0.length ≤ c0) (h : impl_rank.f l0 = some r) :
    Calls Try.prog 74 #[.slice A0 l0.length c0] w fun e w' => ∃ v0_ : Value, e = .returned (v0_) ∧ Kd.R (Kd.int .i64) 3 w' w.heap.size (fun _ => True) v0_ r ∧ Below w.heap.size w w' := by
  unfold impl_rank.f at h
  by_cases hb : l0.length ≤ 12 ∧ M.inAll l0 (-10000000) 10000000 = true
  case neg => rw [if_neg hb] at h; cases h
  rw [if_pos hb] at h
  obtain ⟨h12, hin⟩ := hb
  have HRK := Aside0.mk (Option.some.inj h)
  have HIN := Aside0.mk hin
  have HR0 := Aside0.mk hr0
  have HC0 := Aside0.mk hc0
  clear h hin hr0 hc0
  have hmax : (l0.length : Int) ≤ 12 := by omega
  have HB := Aside0.mk (Below.refl (w.alloc (.cells #[.slice A0 l0.length c0] 35)).heap.size (w.alloc (.cells #[.slice A0 l0.length c0] 35)))
  go_enter Try.func74, Try.ntmps74
  go_wp2_with ((with_reducible refine gate_dst (N := 5) rfl ?_); refine Kd.R_lit (Kd.int .i64) _ 3 ?hg (N := 5) ?hd (xs := ([] : List Int)) (inner := []) (ok := fun _ => True) (okp := fun _ => True) ?hr ?hp (fun _ hk => hk) trivial (Below.refl _ _) (Nat.le_refl _) (by simp) ?_; (case hd => rfl); (case hg => rfl); (case hr => first | (go_simp; done) | (go_simp; rfl)); (case hp => exact (Reps.none _ _)); intro v5 w5 ho hb hg_ hnew_; clear hg_ hnew_; have hbx5 : w5.cell? ⟨w.heap.size, 0, none⟩ = some (.slice A0 l0.length c0) := (hb.cell (p := ⟨w.heap.size, 0, none⟩) (by simp)).trans (by simp); have HO := Aside0.mk ho; have n1_ := Aside0.mk (below_step HB.out hb); clear HB; have HB := n1_; clear n1_; clear hb ho)
  go_loopg [3, 8] l0.length (fun gg v3 v8 w' => ∃ kk : Nat, kk ≤ l0.length ∧ l0.length - kk ≤ gg ∧ v8 = .int .i64 kk ∧ Aside0 (Kd.R (Kd.int .i64) 3 w' (w.alloc (.cells #[.slice A0 l0.length c0] 35)).heap.size (fun _ => True) v3 (M.nums kk)) ∧ Aside0 (Below (w.alloc (.cells #[.slice A0 l0.length c0] 35)).heap.size (w.alloc (.cells #[.slice A0 l0.length c0] 35)) w'))
  case atStart => exact ⟨0, Nat.zero_le _, by omega, rfl, ⟨by (with_reducible repeat (first | apply Kd.R_alloc | apply Kd.R_drewN | apply Kd.R_drew)); exact HO.out⟩, ⟨by repeat (first | (with_reducible first | exact HB.out | apply below_alloc | apply pw_below_drewN | apply below_drew1) | exact HB.out)⟩⟩
  case round =>
    obtain ⟨kk, hkk, hgg, rfl, HO, HB⟩ := hrel
    by_cases hlt : kk < l0.length
    · have hltz : (kk : Int) < (l0.length : Int) := by omega
      have HL : Aside0 ((M.nums kk).length < 17592186044416) := ⟨by rw [M.nums_length]; omega⟩
      go_wp2_with ((with_reducible refine gate_builtin (b := .append) (xs := #[.tmp 11, .tmp 13]) rfl ?_); at_builtin; refine Kd.R_append (Kd.int .i64) (w0 := (w.alloc (.cells #[.slice A0 l0.length c0] 35))) (w.alloc (.cells #[.slice A0 l0.length c0] 35)).heap.size rfl (.tmp 11) (.tmp 13) 35 3 (.int .i64 0) 8 rfl Try.underlying35 info3 rfl (by decide) (by omega) u3 (M.nums kk) (kk : Int) [.int .i64 (kk : Int)] (fun _ => True) (fun _ => False) rfl rfl ?aP (fun _ hk => hk.elim) ?aF ?aO ?aB ?aS ?aL ?_; (case aP => exact rfl); (case aB => exact (by repeat (first | (with_reducible first | exact HB.out | apply below_alloc | apply pw_below_drewN | apply below_drew1) | exact HB.out))); (case aF => exact (fun _ _ => trivial)); (case aO => exact (by (with_reducible repeat (first | apply Kd.R_alloc | apply Kd.R_drewN | apply Kd.R_drew)); exact HO.out)); (case aS => exact (below_size (by repeat (first | (with_reducible first | exact HB.out | apply below_alloc | apply pw_below_drewN | apply below_drew1) | exact HB.out)))); (case aL => have := HL.out; omega); intro v14 w14 ho hb hg hat; have n0_ := Aside0.mk hb; have n1_ := Aside0.mk ho; clear HB; clear HO; have HB := n0_; have HO := n1_; clear n0_ n1_; clear ho hb hg hat)
      go_roundg (l0.length - (kk + 1))
      case measure => omega
      case rel => exact ⟨kk + 1, by omega, by omega, by go_num, ⟨by rw [M.nums_succ]; (with_reducible repeat (first | apply Kd.R_alloc | apply Kd.R_drewN | apply Kd.R_drew)); exact HO.out⟩, ⟨by repeat (first | (with_reducible first | exact HB.out | apply below_alloc | apply pw_below_drewN | apply below_drew1) | exact HB.out)⟩⟩
    · obtain rfl : kk = l0.length := by omega
      have hltz : ¬ (l0.length : Int) < (l0.length : Int) := by omega
      rcases Nat.eq_zero_or_pos l0.length with h0 | hpos
      · obtain rfl : l0 = [] := List.eq_nil_of_length_eq_zero h0
        clear h0
        obtain ⟨A3, c3, hv3⟩ := Kd.R_slice HO.out
        have hv3' : u3 = .slice A3 0 c3 := hv3
        clear hv3
        subst hv3'
        have hr0 : r = [] := HRK.out.symm
        clear HRK
        subst hr0
        go_wp2_with (go_at_call 84; refine Calls.mono (R.sortStable_none _ _ _ _) ?_; rintro e w3 ⟨rfl, q, rfl⟩)
        go_ret
        exact ⟨_, rfl, Kd.R_lower (by (with_reducible repeat (first | apply Kd.R_alloc | apply Kd.R_drewN | apply Kd.R_drew)); exact HO.out) (by simp), below_then (below_alloc (Below.refl _ _) _) (by simp) (by repeat (first | (with_reducible first | exact HB.out | apply below_alloc | apply pw_below_drewN | apply below_drew1) | exact HB.out))⟩
      · have hL2 : (M.nums l0.length).length = l0.length := M.nums_length _
        obtain ⟨g, cap, hgb, hgl, _, hv3⟩ := R.row_at (by rw [hL2]; exact hpos) HO.out
        rw [hL2] at hv3
        subst hv3
        haveI : Inhabited (Fin l0.length) := ⟨⟨0, hpos⟩⟩
        obtain ⟨ad, eA, hx⟩ := Kd.at_int HR0.out 0 (by omega) (by omega)
        subst eA
        have hadl : ad.block < w.heap.size := by
          have := World.block_lt_of_cell? w _ hx
          unfold Addr.add at this
          split at this <;> exact this
        have hC := Kd.C_below (Kd.C_below HR0.out (below_alloc (Below.refl _ _) (.cells #[.slice (some ad) l0.length c0] 35))) HB.out
        have hv : ∀ i : Nat, i < l0.length → _ = some (Value.int .i64 (rd l0 (i : Int))) := fun i hi => by
          obtain ⟨ad', e', hx'⟩ := Kd.at_int hC (i : Int) (by omega) (by omega)
          cases e'
          simp only [Int.toNat_natCast] at hx'
          exact hx'
        have hbx := (HB.out.cell (p := ⟨w.heap.size, 0, none⟩) (by simp)).trans (by simp : _ = some (Value.slice (some ad) l0.length c0))
        have hsz := HB.out.size
        simp at hsz hgb
        have hcmp := fun q => impl_rank_cmp l0 w.heap.size ad c0 (World.drewN _ q) g 0 l0.length ((R.cell_drewN _ q _).trans hbx) (fun i hi => (R.cell_drewN _ q _).trans (hv i hi)) (by omega) (by omega) (by simp; omega) (by simp; omega)
        have hlen := M.rank_fin l0 (ltOf fun x y => wrap64 (rd l0 ((y : Nat) : Int) - rd l0 ((x : Nat) : Int))) (fun x y => by
          have b1 := M.rd_in HIN.out (k := ((x : Nat) : Int)) (by omega) (by have := x.isLt; omega)
          have b2 := M.rd_in HIN.out (k := ((y : Nat) : Int)) (by omega) (by have := y.isLt; omega)
          unfold ltOf
          show decide (wrap64 (rd l0 ((y : Nat) : Int) - rd l0 ((x : Nat) : Int)) < 0) = _
          rw [M.wrap_id (by omega) (by omega)]
          congr 1
          apply propext
          constructor <;> intro h <;> omega)
        have hsize := congrArg List.length hlen
        rw [List.length_map, M.rank_length, Array.length_toList] at hsize
        have HS := Aside0.mk (R.sortStable_calls l0.length hpos (by omega) _ 118 #[.pointer (some ⟨w.heap.size, 0, none⟩)] (fun _ => True) (w.alloc (.cells #[.slice (some ad) l0.length c0] 35)).heap.size g cap trivial (List.finRange l0.length) (by simp) _ (enters_of Try.func118 (by kernel_rfl) rfl) hcmp (fun q => by rw [M.finRange_nums]; exact Kd.R_drewN HO.out q) hsize)
        rw [hlen, HRK.out] at HS
        clear hC hv hbx hcmp hlen hsize hx hsz
        go_wp2_with (go_at_call 84; refine Calls.mono HS.out ?_; rintro e w3 ⟨rfl, q, q2, w2, rfl, hR2, hG2⟩; have HR2 := Aside0.mk hR2; have HB2 := Aside0.mk ((pw_below_drewN HB.out q).grown hG2 (pw_below_drewN HB.out q).size (fun k e => by cases e; simp; omega)); clear hR2 hG2)
        go_ret
        exact ⟨_, rfl, Kd.R_lower (by (with_reducible repeat (first | apply Kd.R_alloc | apply Kd.R_drewN | apply Kd.R_drew)); exact HR2.out) (by simp), below_then (below_alloc (Below.refl _ _) _) (by simp) (by repeat (first | (with_reducible first | exact HB2.out | apply below_alloc | apply pw_below_drewN | apply below_drew1) | exact HB2.out))⟩

/-! ### slices_SortStableFunc_int_int: function 84 -/
theorem slices_SortStableFunc_int_int_low {W : World} {A1 : Option Addr} {l1 : List Int} (h : Kd.C (Kd.int .i64) W A1 l1.length l1) (a : Addr) (e : A1 = some a) (hp : 0 < l1.length) : a.block < W.heap.size := by
  obtain ⟨ad, eA, hx⟩ := Kd.at_int h 0 (by omega) (by omega)
  rw [eA] at e
  cases e
  have := World.block_lt_of_cell? W _ hx
  unfold Addr.add at this
  split at this <;> exact this

def slices_SortStableFunc_int_int.f (l0 : List Int) (l1 : List Int) : Option (List Int) := if l0 = M.nums (l1.map fun x => -x).length ∧ l1.length ≤ 12 ∧ M.inAll l1 (-10000000) 10000000 = true then some (M.rank (l1.map fun x => -x)) else none

set_option maxHeartbeats 1000000 in
theorem slices_SortStableFunc_int_int_cl (l : List Int) (n : Nat) (hn : n = l.length) (b : Nat) (ad : Addr) (c : Nat) (W : World) (hb : W.cell? ⟨b, 0, none⟩ = some (.slice (some ad) l.length c)) (hv : ∀ i : Nat, i < l.length → W.cell? (ad.add i) = some (.int .i64 (rd l (i : Int)))) (x y : Fin n) :
    Calls Try.prog 91 #[.int .i64 ((x : Nat) : Int), .int .i64 ((y : Nat) : Int), .pointer (some ⟨b, 0, none⟩)] W fun e w' => e = .returned (.int .i64 (wrap64 (rd l ((x : Nat) : Int) - rd l ((y : Nat) : Int)))) ∧ ∃ q, w' = W.drewN q := by
  obtain ⟨x, hx⟩ := x
  obtain ⟨y, hy⟩ := y
  subst hn
  have h1 := hv x hx
  have h2 := hv y hy
  have p1 : (x : Int) < (l.length : Int) := by omega
  have p2 : (y : Int) < (l.length : Int) := by omega
  have p3 : (0 : Int) ≤ (x : Int) := by omega
  have p4 : (0 : Int) ≤ (y : Int) := by omega
  clear hv
  go_enter Try.func91, Try.ntmps91
  go_wp2
  go_quiet (fail)
  go_wp2
  go_ret
  exact ⟨rfl, _, rfl⟩
theorem slices_SortStableFunc_int_int_cmp (l : List Int) (n : Nat) (hn : n = l.length) [Inhabited (Fin n)] (b : Nat) (ad : Addr) (c : Nat) (w : World) (blk off m : Nat) (hb : w.cell? ⟨b, 0, none⟩ = some (.slice (some ad) l.length c)) (hv : ∀ i : Nat, i < l.length → w.cell? (ad.add i) = some (.int .i64 (rd l (i : Int)))) (h1 : b ≠ blk) (h2 : ad.block ≠ blk) (h3 : b < w.heap.size) (h4 : ad.block < w.heap.size) :
    CmpReads Try.prog 91 #[.pointer (some ⟨b, 0, none⟩)] (R.encF n) (fun x y => wrap64 (rd l ((x : Nat) : Int) - rd l ((y : Nat) : Int))) blk off m w := by
  intro m os dk hs x y
  exact slices_SortStableFunc_int_int_cl l n hn b ad c _ ((R.sort_cell (R.encF n) w blk off m dk os _ h1 h3).trans hb) (fun i hi => (R.sort_cell (R.encF n) w blk off m dk os (ad.add i) (by unfold Addr.add; split; exact h2; exact h2) (by unfold Addr.add; split; exact h4; exact h4)).trans (hv i hi)) x y
theorem slices_SortStableFunc_int_int_rd (l : List Int) (k : Int) (h0 : 0 ≤ k) (h1 : k < (l.length : Int)) : rd (l.map fun x => -x) k = -(rd l k) := by
  have hk : k.toNat < l.length := by omega
  unfold rd
  simp [hk]

set_option maxHeartbeats 8000000 in
set_option maxRecDepth 100000 in
theorem slices_SortStableFunc_int_int.calls (P0_ : Nat → Prop) (u9000_ : Value) (l0 : List Int) (A1 : Option Addr) (c1 : Nat) (l1 : List Int) (r : List Int) (w0 w : World) (hB : Below w0.heap.size w0 w) (ho0 : Kd.R (Kd.int .i64) 3 w w0.heap.size P0_ u9000_ l0) (hr1 : ∀ W_, Kept w W_ (fun k_ => P0_ k_) → Kd.C (Kd.int .i64) W_ A1 l1.length l1) (hc1 : l1.length ≤ c1) (b_ : Nat) (hbx_ : w.cell? ⟨b_, 0, none⟩ = some (.slice A1 l1.length c1)) (hbl_ : b_ < w0.heap.size) (hbl2_ : ∀ a, A1 = some a → 0 < l1.length → a.block < w0.heap.size) (h : slices_SortStableFunc_int_int.f l0 l1 = some r) :
    Calls Try.prog 84 #[u9000_, .func (.func 91) #[] #[.pointer (some ⟨b_, 0, none⟩)]] w fun e w' => e = .returned (.tuple #[]) ∧ Kd.R (Kd.int .i64) 3 w' w0.heap.size (fun k_ => (P0_ k_ ∨ w.heap.size ≤ k_)) u9000_ r ∧ Below w0.heap.size w0 w' ∧ Kept w w' (fun k_ => P0_ k_) := by
  unfold slices_SortStableFunc_int_int.f at h
  by_cases hb : l0 = M.nums (l1.map fun x => -x).length ∧ l1.length ≤ 12 ∧ M.inAll l1 (-10000000) 10000000 = true
  case neg => rw [if_neg hb] at h; cases h
  rw [if_pos hb] at h
  obtain ⟨rfl, h12, hin⟩ := hb
  have hrs := Option.some.inj h
  have hL2 : (M.nums (l1.map fun x => -x).length).length = (l1.map fun x => -x).length := M.nums_length _
  have hN : (l1.map fun x => -x).length = l1.length := List.length_map ..
  rcases Nat.eq_zero_or_pos l1.length with h0 | hpos
  · obtain rfl := List.eq_nil_of_length_eq_zero h0
    obtain ⟨A3, c3, hv3⟩ := Kd.R_slice ho0
    have hv3' : u9000_ = .slice A3 0 c3 := hv3
    subst hv3'
    have hr : r = [] := hrs.symm
    subst hr
    refine (R.sortStable_none A3 c3 _ w).mono ?_
    rintro e w' ⟨rfl, q, rfl⟩
    exact ⟨rfl, Kd.R_drewN (Kd.R_mono ho0 (fun k hk => .inl hk)) q, pw_below_drewN hB q, Kept.of_below (pw_below_drewN (Below.refl _ _) q) _⟩
  · obtain ⟨g, cap, hgb, hgl, hok, hv3⟩ := R.row_at (by rw [hL2]; omega) ho0
    rw [hL2] at hv3
    subst hv3
    haveI : Inhabited (Fin (l1.map fun x => -x).length) := ⟨⟨0, by omega⟩⟩
    have hC := hr1 w (Kept.refl _ _)
    obtain ⟨ad, eA, hx⟩ := Kd.at_int hC 0 (by omega) (by omega)
    subst eA
    have hadl : ad.block < w.heap.size := by
      have := World.block_lt_of_cell? w _ hx
      unfold Addr.add at this
      split at this <;> exact this
    have hadg : ad.block ≠ g := by have := hbl2_ ad rfl (by omega); omega
    have hv : ∀ i : Nat, i < l1.length → w.cell? (ad.add i) = some (Value.int .i64 (rd l1 (i : Int))) := fun i hi => by
      obtain ⟨ad', e', hx'⟩ := Kd.at_int hC (i : Int) (by omega) (by omega)
      cases e'
      simp only [Int.toNat_natCast] at hx'
      exact hx'
    have hcmp := fun q => slices_SortStableFunc_int_int_cmp l1 (l1.map fun x => -x).length hN b_ ad c1 (World.drewN w q) g 0 (l1.map fun x => -x).length ((R.cell_drewN _ q _).trans hbx_) (fun i hi => (R.cell_drewN _ q _).trans (hv i hi)) (by omega) hadg (by have := below_size hB; simp; omega) (by simp; omega)
    have hlen := M.rank_fin (l1.map fun x => -x) (ltOf fun x y => wrap64 (rd l1 ((x : Nat) : Int) - rd l1 ((y : Nat) : Int))) (fun x y => by
      have b1 := M.rd_in hin (k := ((x : Nat) : Int)) (by omega) (by have := x.isLt; omega)
      have b2 := M.rd_in hin (k := ((y : Nat) : Int)) (by omega) (by have := y.isLt; omega)
      have e1 := slices_SortStableFunc_int_int_rd l1 ((x : Nat) : Int) (by omega) (by have := x.isLt; omega)
      have e2 := slices_SortStableFunc_int_int_rd l1 ((y : Nat) : Int) (by omega) (by have := y.isLt; omega)
      unfold ltOf
      show decide (wrap64 (rd l1 ((x : Nat) : Int) - rd l1 ((y : Nat) : Int)) < 0) = decide (rd (l1.map fun x => -x) ((y : Nat) : Int) < rd (l1.map fun x => -x) ((x : Nat) : Int))
      rw [M.wrap_id (by omega) (by omega), e1, e2]
      congr 1
      apply propext
      constructor <;> intro h <;> omega)
    have hsize := congrArg List.length hlen
    rw [List.length_map, M.rank_length, Array.length_toList] at hsize
    have HS := R.sortStable_calls (l1.map fun x => -x).length (by omega) (by omega) _ 91 #[.pointer (some ⟨b_, 0, none⟩)] P0_ w0.heap.size g cap hok (List.finRange (l1.map fun x => -x).length) (by simp) w (enters_of Try.func91 (by kernel_rfl) rfl) hcmp (fun q => by rw [M.finRange_nums]; exact Kd.R_drewN ho0 q) hsize
    rw [hlen, hrs] at HS
    refine HS.mono ?_
    rintro e w' ⟨rfl, q, q2, w2, rfl, hR2, hG2⟩
    have hB2 := (pw_below_drewN hB q).grown hG2 (pw_below_drewN hB q).size (fun k e => by cases e; exact hgb)
    refine ⟨rfl, Kd.R_drewN (Kd.R_mono hR2 (fun k hk => .inl hk)) q2, pw_below_drewN hB2 q2, ?_⟩
    have hK : Kept w w2 (fun k_ => P0_ k_) := ⟨by have := hG2.size; simpa using this, fun i hi hS => by
      have := hG2.block i (by simpa using hi) (fun hc => hS (by cases hc; exact hok))
      simpa using this⟩
    exact hK.then_ (Kept.of_below (pw_below_drewN (Below.refl _ _) q2) (fun _ => False)) (fun k hk => hk.elim)

/-! ### impl_within: function 68 -/
def impl_within.f (a0 : Int) (a1 : Int) (a2 : Int) : Option (Bool) := if a0 ≥ a1 then (some (decide (a0 ≤ a2))) else (some false)
set_option maxHeartbeats 8000000 in
set_option maxRecDepth 100000 in
theorem impl_within.calls (a0 : Int) (a1 : Int) (a2 : Int) (r : Bool) (w : World) (h : impl_within.f a0 a1 a2 = some r) :
    Calls Try.prog 68 #[.int .i64 a0, .int .i64 a1, .int .i64 a2] w fun e w' => e = .returned (.bool r) ∧ Drawn0 w w' := by
  have H : (if a0 ≥ a1 then (some (decide (a0 ≤ a2))) else (some false)) = some r := h
  clear h
  by_cases c4 : a0 ≥ a1
  · rw [if_pos c4] at H
    have c4b0 : decide (a1 ≤ a0) = true := decide_eq_true c4
    clear c4
    obtain rfl := Option.some.inj H
    go_enter Try.func68, Try.ntmps68
    go_wp2
    go_ret
    exact ⟨by first | rfl | (simp; done) | (simp [*]; done), by repeat (first | exact Drawn0.refl _ | apply Drawn0.step)⟩
  · rw [if_neg c4] at H
    have c4b0 : decide (a1 ≤ a0) = false := decide_eq_false c4
    clear c4
    obtain rfl := Option.some.inj H
    go_enter Try.func68, Try.ntmps68
    go_wp2
    go_ret
    exact ⟨by first | rfl | (simp; done) | (simp [*]; done), by repeat (first | exact Drawn0.refl _ | apply Drawn0.step)⟩

theorem impl_within.eq (a b c : Int) : impl_within.f a b c = some (decide (b ≤ a) && decide (a ≤ c)) := by
  unfold impl_within.f
  by_cases h : a ≥ b
  · rw [if_pos h, decide_eq_true (show b ≤ a from h), Bool.true_and]
  · rw [if_neg h, decide_eq_false (show ¬ b ≤ a from h), Bool.false_and]

/-! ### impl_allWithin: function 73 -/
def impl_allWithin.f (l0 : List Int) (a1 : Int) (a2 : Int) : Option (Bool) := some (M.inAll l0 a1 a2)

set_option maxHeartbeats 1000000 in
theorem impl_allWithin_cl (lo hi x : Int) (b1 b2 : Nat) (W : World) (h1 : W.cell? ⟨b1, 0, none⟩ = some (.int .i64 lo)) (h2 : W.cell? ⟨b2, 0, none⟩ = some (.int .i64 hi)) (r : Bool) (hr : (!(decide (lo ≤ x) && decide (x ≤ hi))) = r) :
    Calls Try.prog 117 #[.int .i64 x, .pointer (some ⟨b1, 0, none⟩), .pointer (some ⟨b2, 0, none⟩)] W fun e w' => e = .returned (.bool r) ∧ Drawn0 W w' := by
  subst hr
  have hw : impl_within.f x lo hi = some (decide (lo ≤ x) && decide (x ≤ hi)) := by
    unfold impl_within.f
    by_cases h : x ≥ lo
    · rw [if_pos h]; simp [h]
    · rw [if_neg h]; simp [h]
  generalize (decide (lo ≤ x) && decide (x ≤ hi)) = r at hw ⊢
  go_enter Try.func117, Try.ntmps117
  go_wp2_with (go_at_call 68; refine (impl_within.calls x lo hi r _ hw).mono ?_; rintro e w' ⟨rfl, ⟨nd, rfl⟩⟩)
  go_ret
  exact ⟨rfl, by repeat (first | exact Drawn0.refl _ | apply Drawn0.step)⟩
set_option maxHeartbeats 1000000 in
theorem impl_allWithin_idx (lo hi : Int) (b1 b2 : Nat) (A0 : Option Addr) (c0 : Nat) (l0 : List Int) (w : World) (hr0 : Kd.C (Kd.int .i64) w A0 l0.length l0) (hc0 : l0.length ≤ c0) (h1 : w.cell? ⟨b1, 0, none⟩ = some (.int .i64 lo)) (h2 : w.cell? ⟨b2, 0, none⟩ = some (.int .i64 hi)) :
    Calls Try.prog 131 #[.slice A0 l0.length c0, .func (.func 117) #[] #[.pointer (some ⟨b1, 0, none⟩), .pointer (some ⟨b2, 0, none⟩)]] w fun e w' => (∃ i : Int, e = .returned (.int .i64 i) ∧ decide (0 ≤ i) = !l0.all (fun x => decide (lo ≤ x) && decide (x ≤ hi))) ∧ Drawn0 w w' := by
  have HR0 := Aside0.mk hr0
  clear hr0
  have hbig : (l0.length : Int) ≤ 9223372036854775807 := by have := HR0.out.2.1; omega
  go_enter Try.func131, Try.ntmps131
  go_wp2
  go_loopg [5, 8] l0.length (fun gg _ v8 w' => ∃ kk : Nat, kk ≤ l0.length ∧ l0.length - kk ≤ gg ∧ v8 = .int .i64 kk ∧ Aside0 (l0.all (fun x => decide (lo ≤ x) && decide (x ≤ hi)) = (l0.drop kk).all (fun x => decide (lo ≤ x) && decide (x ≤ hi))) ∧ Drawn0 w w')
  case atStart => exact ⟨0, Nat.zero_le _, by omega, rfl, ⟨by simp⟩, Drawn0.refl _⟩
  case round =>
    obtain ⟨kk, hkk, hg, rfl, A, ⟨m, rfl⟩⟩ := hrel
    by_cases hlt : kk < l0.length
    · have hltz : (kk : Int) < (l0.length : Int) := by omega
      obtain ⟨ad, e, hx⟩ := Kd.at_int HR0.out (kk : Int) (by omega) (by omega)
      cases e
      simp only [Int.toNat_natCast] at hx
      generalize hv : rd l0 (kk : Int) = v at hx
      have B : Aside0 ((l0.drop kk).all (fun x => decide (lo ≤ x) && decide (x ≤ hi)) = ((decide (lo ≤ v) && decide (v ≤ hi)) && (l0.drop (kk + 1)).all (fun x => decide (lo ≤ x) && decide (x ≤ hi)))) := ⟨by
        rw [List.drop_eq_getElem_cons hlt, List.all_cons]
        have : l0[kk] = v := by rw [← hv]; unfold rd; simp [hlt]
        rw [this]⟩
      clear hv
      cases hq : (!(decide (lo ≤ v) && decide (v ≤ hi))) with
      | true =>
        have hcall := fun W h1 h2 => impl_allWithin_cl lo hi v b1 b2 W h1 h2 true hq
        have HQ := Aside0.mk hq
        clear hq
        go_wp2_with (go_at_call 117; refine (hcall _ (by assumption) (by assumption)).mono ?_; rintro e w' ⟨rfl, ⟨nd, rfl⟩⟩)
        go_ret
        refine ⟨⟨kk, rfl, ?_⟩, by repeat (first | exact Drawn0.refl _ | apply Drawn0.step)⟩
        have := HQ.out
        rw [A.out, B.out, Bool.not_and, this, Bool.true_or]
        simp
      | false =>
        have hcall := fun W h1 h2 => impl_allWithin_cl lo hi v b1 b2 W h1 h2 false hq
        have HQ := Aside0.mk hq
        clear hq
        go_wp2_with (go_at_call 117; refine (hcall _ (by assumption) (by assumption)).mono ?_; rintro e w' ⟨rfl, ⟨nd, rfl⟩⟩)
        go_roundg (l0.length - (kk + 1))
        case measure => omega
        case rel =>
          refine ⟨kk + 1, by omega, by omega, by go_num, ⟨?_⟩, by repeat (first | exact Drawn0.refl _ | apply Drawn0.step)⟩
          have := HQ.out
          rw [Bool.not_eq_false'] at this
          rw [A.out, B.out, this, Bool.true_and]
    · have hltz : ¬ (kk : Int) < (l0.length : Int) := by omega
      go_wp2
      go_ret
      refine ⟨⟨-1, rfl, ?_⟩, by repeat (first | exact Drawn0.refl _ | apply Drawn0.step)⟩
      rw [A.out, List.drop_eq_nil_of_le (by omega)]; rfl
set_option maxHeartbeats 1000000 in
theorem impl_allWithin_cont (lo hi : Int) (b1 b2 : Nat) (A0 : Option Addr) (c0 : Nat) (l0 : List Int) (w : World) (hr0 : Kd.C (Kd.int .i64) w A0 l0.length l0) (hc0 : l0.length ≤ c0) (h1 : w.cell? ⟨b1, 0, none⟩ = some (.int .i64 lo)) (h2 : w.cell? ⟨b2, 0, none⟩ = some (.int .i64 hi)) (r : Bool) (hr : (!l0.all (fun x => decide (lo ≤ x) && decide (x ≤ hi))) = r) :
    Calls Try.prog 116 #[.slice A0 l0.length c0, .func (.func 117) #[] #[.pointer (some ⟨b1, 0, none⟩), .pointer (some ⟨b2, 0, none⟩)]] w fun e w' => e = .returned (.bool r) ∧ Drawn0 w w' := by
  have hidx := impl_allWithin_idx lo hi b1 b2 A0 c0 l0 w hr0 hc0 h1 h2
  rw [hr] at hidx
  clear hr0 h1 h2 hr
  go_enter Try.func116, Try.ntmps116
  go_wp2_with (go_at_call 131; refine hidx.mono ?_; rintro e w' ⟨⟨i, rfl, hi⟩, ⟨nd, rfl⟩⟩)
  go_ret
  exact ⟨rfl, by repeat (first | exact Drawn0.refl _ | apply Drawn0.step)⟩

set_option maxHeartbeats 8000000 in
set_option maxRecDepth 100000 in
theorem impl_allWithin.calls (A0 : Option Addr) (c0 : Nat) (l0 : List Int) (a1 : Int) (a2 : Int) (r : Bool) (w : World) (hr0 : Kd.C (Kd.int .i64) w A0 l0.length l0) (hc0 : l0.length ≤ c0) (h : impl_allWithin.f l0 a1 a2 = some r) :
    Calls Try.prog 73 #[.slice A0 l0.length c0, .int .i64 a1, .int .i64 a2] w fun e w' => e = .returned (.bool r) ∧ Below w.heap.size w w' := by
  have hr : (!l0.all (fun x => decide (a1 ≤ x) && decide (x ≤ a2))) = !r := by have := Option.some.inj h; unfold M.inAll at this; rw [this]
  have hcont := impl_allWithin_cont a1 a2 w.heap.size (w.heap.size + 1) A0 c0 l0 ((w.alloc (.cells #[.int .i64 a1] 3)).alloc (.cells #[.int .i64 a2] 3)) (Kd.C_below (Kd.C_below hr0 (below_alloc (Below.refl _ _) _)) (below_alloc (Below.refl _ _) _)) hc0
    (by simp) (by simp) _ hr
  have HR0 := Aside0.mk hr0
  clear hr0 h hr
  go_enter Try.func73, Try.ntmps73
  go_wp2_with (go_at_call 116; refine hcont.mono ?_; rintro e w' ⟨rfl, ⟨nd, rfl⟩⟩)
  go_ret
  exact ⟨by simp, by repeat (first | exact Below.refl _ _ | apply below_alloc | apply pw_below_drewN)⟩

/-! ### impl_areUsed: function 88 -/
def impl_areUsed.f (l0 : List Int) (l1 : List Int) : Option (Bool) := if (l0.length : Int) ≤ 10 then (if (l1.length : Int) = (l0.length : Int) then ((impl_allWithin.f l0 0 1000).bind fun t175 => (if t175 = true then ((impl_allWithin.f l1 0 1000).bind fun t176 => (some t176)) else (some false))) else (some false)) else (some false)
set_option maxHeartbeats 8000000 in
set_option maxRecDepth 100000 in
theorem impl_areUsed.calls (A0 : Option Addr) (c0 : Nat) (l0 : List Int) (A1 : Option Addr) (c1 : Nat) (l1 : List Int) (r : Bool) (w : World) (hr0 : Kd.C (Kd.int .i64) w A0 l0.length l0) (hc0 : l0.length ≤ c0) (hr1 : Kd.C (Kd.int .i64) w A1 l1.length l1) (hc1 : l1.length ≤ c1) (h : impl_areUsed.f l0 l1 = some r) :
    Calls Try.prog 88 #[.slice A0 l0.length c0, .slice A1 l1.length c1] w fun e w' => e = .returned (.bool r) ∧ Below w.heap.size w w' := by
  have HR0 := Aside0.mk hr0
  have HC0 := Aside0.mk hc0
  clear hr0 hc0
  have HR1 := Aside0.mk hr1
  have HC1 := Aside0.mk hc1
  clear hr1 hc1
  have HB := Aside0.mk (Below.refl w.heap.size w)
  have H : (if (l0.length : Int) ≤ 10 then (if (l1.length : Int) = (l0.length : Int) then ((impl_allWithin.f l0 0 1000).bind fun t175 => (if t175 = true then ((impl_allWithin.f l1 0 1000).bind fun t176 => (some t176)) else (some false))) else (some false)) else (some false)) = some r := h
  clear h
  by_cases c3 : (l0.length : Int) ≤ 10
  · rw [if_pos c3] at H
    have c3b0 : decide ((l0.length : Int) ≤ 10) = true := decide_eq_true c3
    have c3b1 : decide (l0.length ≤ 10) = true := decide_eq_true (by omega)
    clear c3
    by_cases c4 : (l1.length : Int) = (l0.length : Int)
    · rw [if_pos c4] at H
      have c4b0 : ((l1.length : Int) == (l0.length : Int)) = true := beq_iff_eq.mpr c4
      have c4b1 : ((l1.length : Int) != (l0.length : Int)) = false := bne_eq_false_iff_eq.mpr c4
      have c4b2 : (l1.length == l0.length) = true := by first | simpa using c4 | (simp at c4 ⊢; omega)
      clear c4
      replace H := Option.bind_eq_some_iff.mp H
      obtain ⟨t175, A50, H⟩ := H
      replace H : (if t175 = true then ((impl_allWithin.f l1 0 1000).bind fun t176 => (some t176)) else (some false)) = some r := H
      have A5 := Aside0.mk A50
      clear A50
      by_cases c6 : t175 = true
      · subst c6
        have H1 : ((impl_allWithin.f l1 0 1000).bind fun t176 => (some t176)) = some r := by rw [if_pos rfl] at H; exact H
        clear H
        have H := H1
        clear H1
        replace H := Option.bind_eq_some_iff.mp H
        obtain ⟨t176, A70, H⟩ := H
        replace H : (some t176) = some r := H
        have A7 := Aside0.mk A70
        clear A70
        obtain rfl := Option.some.inj H
        go_enter Try.func88, Try.ntmps88
        go_wp2_with (first | (go_at_call 73; (with_reducible refine (impl_allWithin.calls _ _ l0 0 1000 true _ ?side1 ?side2 A5.out).mono ?_); (case side1 => repeat (first | exact HR0.out | (with_reducible refine Kd.C_alloc ?_ _) | (with_reducible refine Kd.C_drewN ?_ _) | (with_reducible refine Kd.C_drew ?_))); (case side2 => exact HC0.out); rintro e w8 ⟨rfl, hb⟩; have n0_ := Aside0.mk (below_step (by repeat (first | (with_reducible first | exact HB.out | apply below_alloc | apply pw_below_drewN | apply below_drew1) | exact HB.out)) hb); clear HB; have HB := n0_; clear n0_; (try clear hb); (try clear hb2); (try clear hk); (try clear hi)) | (go_at_call 73; (with_reducible refine (impl_allWithin.calls _ _ l1 0 1000 t176 _ ?side1 ?side2 A7.out).mono ?_); (case side1 => repeat (first | exact (Kd.C_below HR1.out HB.out) | (with_reducible refine Kd.C_alloc ?_ _) | (with_reducible refine Kd.C_drewN ?_ _) | (with_reducible refine Kd.C_drew ?_))); (case side2 => exact HC1.out); rintro e w9 ⟨rfl, hb⟩; have n0_ := Aside0.mk (below_step (by repeat (first | (with_reducible first | exact HB.out | apply below_alloc | apply pw_below_drewN | apply below_drew1) | exact HB.out)) hb); clear HB; have HB := n0_; clear n0_; (try clear hb); (try clear hb2); (try clear hk); (try clear hi)))
        go_ret
        exact ⟨by first | rfl | (simp [errW_none, errW_some] <;> rfl) | (simp [*, errW_none, errW_some] <;> rfl), by repeat (first | (with_reducible first | exact HB.out | apply below_alloc | apply pw_below_drewN | apply below_drew1) | exact HB.out)⟩
      · replace c6 := Bool.eq_false_iff.mpr c6
        subst c6
        have H1 : (some false) = some r := by rw [if_neg (show ¬ (false = true) by decide)] at H; exact H
        clear H
        have H := H1
        clear H1
        obtain rfl := Option.some.inj H
        go_enter Try.func88, Try.ntmps88
        go_wp2_with (first | (go_at_call 73; (with_reducible refine (impl_allWithin.calls _ _ l0 0 1000 false _ ?side1 ?side2 A5.out).mono ?_); (case side1 => repeat (first | exact HR0.out | (with_reducible refine Kd.C_alloc ?_ _) | (with_reducible refine Kd.C_drewN ?_ _) | (with_reducible refine Kd.C_drew ?_))); (case side2 => exact HC0.out); rintro e w10 ⟨rfl, hb⟩; have n0_ := Aside0.mk (below_step (by repeat (first | (with_reducible first | exact HB.out | apply below_alloc | apply pw_below_drewN | apply below_drew1) | exact HB.out)) hb); clear HB; have HB := n0_; clear n0_; (try clear hb); (try clear hb2); (try clear hk); (try clear hi)))
        go_ret
        exact ⟨by first | rfl | (simp [errW_none, errW_some] <;> rfl) | (simp [*, errW_none, errW_some] <;> rfl), by repeat (first | (with_reducible first | exact HB.out | apply below_alloc | apply pw_below_drewN | apply below_drew1) | exact HB.out)⟩
    · rw [if_neg c4] at H
      have c4b0 : ((l1.length : Int) == (l0.length : Int)) = false := beq_eq_false_iff_ne.mpr c4
      have c4b1 : ((l1.length : Int) != (l0.length : Int)) = true := bne_iff_ne.mpr c4
      have c4b2 : (l1.length == l0.length) = false := by first | simpa using c4 | (simp at c4 ⊢; omega)
      obtain rfl := Option.some.inj H
      go_enter Try.func88, Try.ntmps88
      go_wp2
      go_ret
      exact ⟨by first | rfl | (simp [errW_none, errW_some] <;> rfl) | (simp [*, errW_none, errW_some] <;> rfl), by repeat (first | (with_reducible first | exact HB.out | apply below_alloc | apply pw_below_drewN | apply below_drew1) | exact HB.out)⟩
  · rw [if_neg c3] at H
    have c3b0 : decide ((l0.length : Int) ≤ 10) = false := decide_eq_false c3
    have c3b1 : decide (l0.length ≤ 10) = false := decide_eq_false (by omega)
    clear c3
    obtain rfl := Option.some.inj H
    go_enter Try.func88, Try.ntmps88
    go_wp2
    go_ret
    exact ⟨by first | rfl | (simp [errW_none, errW_some] <;> rfl) | (simp [*, errW_none, errW_some] <;> rfl), by repeat (first | (with_reducible first | exact HB.out | apply below_alloc | apply pw_below_drewN | apply below_drew1) | exact HB.out)⟩

theorem impl_areUsed.eq (a b : List Int) : impl_areUsed.f a b = some (M.ways a b) := by
  unfold impl_areUsed.f M.ways
  by_cases h2 : a.length ≤ 10
  · rw [if_pos (by omega), decide_eq_true h2, Bool.true_and]
    by_cases h1 : a.length = b.length
    · unfold impl_allWithin.f
      rw [if_pos (by omega), decide_eq_true h1, Bool.true_and]
      simp only [Option.bind_some]
      cases M.inAll a 0 1000 <;> simp
    · rw [if_neg (by omega), decide_eq_false h1, Bool.false_and]
  · rw [if_neg (by omega), decide_eq_false h2, Bool.false_and, Bool.and_false]

/-! ### slices_Clone_int_int: function 89 -/
def slices_Clone_int_int.f (l0 : List Int) : Option (List Int) := (some (([] : List Int) : List Int)).bind fun y177 => (if y177.length + l0.length < 17592186044416 then (some (y177 ++ l0)) else (none))
set_option maxHeartbeats 8000000 in
set_option maxRecDepth 100000 in
theorem slices_Clone_int_int.calls (A0 : Option Addr) (c0 : Nat) (l0 : List Int) (r : List Int) (w : World) (hr0 : Kd.C (Kd.int .i64) w A0 l0.length l0) (hc0 : l0.length ≤ c0) (h : slices_Clone_int_int.f l0 = some r) :
    Calls Try.prog 89 #[.slice A0 l0.length c0] w fun e w' => ∃ v0_ : Value, e = .returned (v0_) ∧ Kd.R (Kd.int .i64) 3 w' w.heap.size (fun _ => True) v0_ r ∧ Below w.heap.size w w' := by
  have q22_ : ∀ (w : World) (a : Option Addr) (n c n' c' : Nat), (binOp .eql 35 (.slice a n c) (.slice none n' c')).run Try.prog w = .ok (.bool a.isNone) w := fun w a n c n' c' => Go.Lib.run_eql_slice_nil w _ _ a n c n' c' Try.underlying35
  rcases A0 with _ | ad0_
  · have hl : l0 = [] := by
      cases l0 with
      | nil => rfl
      | cons x s =>
        obtain ⟨ad, e, _⟩ := Kd.at_int hr0 0 (by omega) (by rw [List.length_cons]; omega)
        cases e
    subst hl
    have hr : r = [] := by
      unfold slices_Clone_int_int.f at h
      simpa using h.symm
    subst hr
    clear hr0 h
    go_enter Try.func89, Try.ntmps89
    go_wp2
    go_ret
    exact ⟨_, rfl, Kd.R_nil _ _ _ _ _, by repeat (first | exact Below.refl _ _ | apply below_alloc | apply pw_below_drewN | apply below_drew1)⟩
  have HR0 := Aside0.mk hr0
  have HC0 := Aside0.mk hc0
  clear hr0 hc0
  have HB := Aside0.mk (Below.refl w.heap.size w)
  have H : ((some (([] : List Int) : List Int)).bind fun y177 => (if y177.length + l0.length < 17592186044416 then (some (y177 ++ l0)) else (none))) = some r := h
  clear h
  obtain ⟨y177, hy177⟩ : ∃ y_ : List Int, y_ = (([] : List Int)) := ⟨_, rfl⟩
  replace H : (if y177.length + l0.length < 17592186044416 then (some (y177 ++ l0)) else (none)) = some r := by first | (rw [hy177]; with_reducible exact H) | (have H2_ := (Option.bind_some _ _).symm.trans H; rw [hy177]; with_reducible exact H2_) | (have H2_ := (Option.bind_some _ _).symm.trans H; with_reducible exact H2_) | with_reducible exact H | (rw [hy177]; exact H) | exact H
  have Ny177 := Aside0.mk hy177
  clear hy177
  by_cases c2 : y177.length + l0.length < 17592186044416
  · rw [if_pos c2] at H
    have LMc2 := Aside0.mk c2
    clear c2
    obtain ⟨y180, hy180⟩ : ∃ y_ : List Int, y_ = (y177 ++ l0) := ⟨_, rfl⟩
    replace H : (some y180) = some r := by first | (rw [hy180]; with_reducible exact H) | (have H2_ := (Option.bind_some _ _).symm.trans H; rw [hy180]; with_reducible exact H2_) | (have H2_ := (Option.bind_some _ _).symm.trans H; with_reducible exact H2_) | with_reducible exact H | (rw [hy180]; exact H) | exact H
    have Ny180 := Aside0.mk hy180
    clear hy180
    obtain rfl := Option.some.inj H
    go_enter Try.func89, Try.ntmps89
    go_wp2_with (first | ((with_reducible refine gate_dst (N := 5) rfl ?_); refine Kd.R_lit (Kd.int .i64) _ 3 ?hg (N := 5) ?hd (xs := ([] : List Int)) (inner := []) (ok := fun _ => True) (okp := fun _ => True) ?hr ?hp (fun _ hk => hk) trivial (Below.refl _ _) (Nat.le_refl _) (by simp) ?_; (case hd => rfl); (case hg => rfl); (case hr => first | (go_simp; done) | (go_simp; rfl)); (case hp => exact (Reps.none _ _)); intro v178 w3 ho4 hb hg_ hnew_; clear hg_ hnew_; (first | rw [← Ny177.out] at ho4 | (simp only [Int.reduceToNat] at ho4; rw [← Ny177.out] at ho4)); have n0_ := Aside0.mk (Kd.R_lower ho4 (below_size (by repeat (first | (with_reducible first | exact HB.out | apply below_alloc | apply pw_below_drewN | apply below_drew1) | exact HB.out)))); have n1_ := Aside0.mk (below_step (by repeat (first | (with_reducible first | exact HB.out | apply below_alloc | apply pw_below_drewN | apply below_drew1) | exact HB.out)) hb); clear HB; have HO179 := n0_; have HB := n1_; clear n0_ n1_; clear hb ho4) | ((with_reducible refine gate_builtin (b := .append) (xs := #[.tmp 5, .tmp 6]) rfl ?_); at_builtin; refine Kd.R_append_rows (Kd.int .i64) (w0 := w) w.heap.size rfl (.tmp 5) (.tmp 6) 35 3 (.int .i64 0) 8 rfl Try.underlying35 info3 rfl (by decide) (by omega) v178 y177 l0 _ _ _ (fun _ => True) (fun _ => False) rfl rfl ?aO ?aR (fun _ _ h => h) (fun _ h => h.elim) ?aF ?aB ?aS ?aL ?_; (case aR => repeat (first | exact (Kd.C_below HR0.out HB.out) | (with_reducible refine Kd.C_alloc ?_ _) | (with_reducible refine Kd.C_drewN ?_ _) | (with_reducible refine Kd.C_drew ?_))); (case aB => exact (by repeat (first | (with_reducible first | exact HB.out | apply below_alloc | apply pw_below_drewN | apply below_drew1) | exact HB.out))); (case aF => exact (fun _ _ => trivial)); (case aO => exact (by (with_reducible repeat (first | apply Kd.R_alloc | apply Kd.R_drewN | apply Kd.R_drew)); exact HO179.out)); (case aS => exact (below_size (by repeat (first | (with_reducible first | exact HB.out | apply below_alloc | apply pw_below_drewN | apply below_drew1) | exact HB.out)))); (case aL => have := LMc2.out; omega); intro v181 w5 ho hb hg hat; rw [← Ny180.out] at ho; have n0_ := Aside0.mk (hb); have n1_ := Aside0.mk (ho); clear HB; clear HO179; have HB := n0_; have HO182 := n1_; clear n0_ n1_; clear ho hb hg hat))
    go_ret
    exact ⟨_, by first | rfl | (simp [errW_none, errW_some] <;> rfl) | (simp [*, errW_none, errW_some] <;> rfl), by (with_reducible repeat (first | apply Kd.R_alloc | apply Kd.R_drewN | apply Kd.R_drew)); exact HO182.out, by repeat (first | (with_reducible first | exact HB.out | apply below_alloc | apply pw_below_drewN | apply below_drew1) | exact HB.out)⟩
  · rw [if_neg c2] at H
    exact absurd H (by simp)

/-! ### slices_Sort_int_int: function 90 -/
def slices_Sort_int_int.f (l0 : List Int) : Option (List Int) := if l0.length ≤ 1048576 then some (M.srt l0) else none
set_option maxHeartbeats 8000000 in
set_option maxRecDepth 100000 in
theorem slices_Sort_int_int.calls (P0_ : Nat → Prop) (u9000_ : Value) (l0 : List Int) (r : List Int) (w0 w : World) (hB : Below w0.heap.size w0 w) (ho0 : Kd.R (Kd.int .i64) 3 w w0.heap.size P0_ u9000_ l0) (h : slices_Sort_int_int.f l0 = some r) :
    Calls Try.prog 90 #[u9000_] w fun e w' => e = .returned (.tuple #[]) ∧ Kd.R (Kd.int .i64) 3 w' w0.heap.size (fun k_ => (P0_ k_ ∨ w.heap.size ≤ k_)) u9000_ r ∧ Below w0.heap.size w0 w' ∧ Kept w w' (fun k_ => P0_ k_) := by
  unfold slices_Sort_int_int.f at h
  by_cases hb : l0.length ≤ 1048576
  case neg => rw [if_neg hb] at h; cases h
  rw [if_pos hb] at h
  have hrs := Option.some.inj h
  rcases Nat.eq_zero_or_pos l0.length with h0 | hpos
  · obtain rfl := List.eq_nil_of_length_eq_zero h0
    obtain ⟨A3, c3, hv3⟩ := Kd.R_slice ho0
    have hv3' : u9000_ = .slice A3 0 c3 := hv3
    subst hv3'
    have hr : r = [] := by rw [← hrs]; simp [M.srt]
    subst hr
    refine (AnyM.slices_Sort_int_none Q.lay A3 c3 w).mono ?_
    rintro e w' ⟨rfl, rfl⟩
    exact ⟨rfl, Kd.R_mono ho0 (fun k hk => .inl hk), hB, Kept.refl _ _⟩
  · obtain ⟨g, cap, hgb, hgl, hok, hv3⟩ := R.row_at hpos ho0
    subst hv3
    obtain ⟨hokk, inner, ho, hr⟩ := ho0
    have hi := R.inner_ints hr
    subst hi
    rcases ho.2 with ⟨hc, _⟩ | ⟨g', cap', cur, hv, hg, hb', hn, hcap, hsz, htk⟩
    · cases hc
    · cases hv
      have htk' : cur.toList.take l0.length = l0.map (Value.int .i64) := by
        have e1 : l0.length * (Kd.int .i64).sz = l0.length := Nat.mul_one _
        rw [e1] at htk; exact htk
      have hsl : (M.srt l0).length = l0.length := M.srt_length l0
      refine (AnyM.slices_Sort_int Q.lay g 0 cap l0 w (holds_of_blockI hb' htk') hgl (by omega)).mono ?_
      rintro e w' ⟨rfl, nn, os, rfl⟩
      have hgr := grownBy_sortedI (w := w) (g := g) (n := nn) (os := os) (M.srt l0).toArray
      refine ⟨rfl, ?_, hB.grown hgr (below_size hB) (fun j hj => by cases hj; exact hgb), ⟨hgr.size, fun i hi hS => hgr.block i hi (fun hc => hS (by cases hc; exact hok))⟩⟩
      rw [← hrs]
      have ho2 := ownsRow_sortedI (w := w) (n := nn) (os := os) (ss := l0) (ts := M.srt l0) hsl hg hb' hn hcap hsz
      refine Kd.R_of_own (by rw [hsl]; exact ho2) (fun k hk => .inl ?_)
      cases hk
      exact hok

end Go.Proofs.Ytckjoadfkalnoaa.PFnExactOrderFor
