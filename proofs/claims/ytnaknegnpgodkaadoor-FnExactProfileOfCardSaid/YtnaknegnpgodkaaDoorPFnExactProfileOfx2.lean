/- Contracts of the Go functions that the law FnExactProfileOf reaches, printed by a program of this session over the kit's print: each call comes to what the Lean function beside it says. Conditions: those that each theorem names. -/
import Derived.Test.YtnaknegnpgodkaaDoorPFnExactProfileOfx0
namespace Go.Proofs.YtnaknegnpgodkaaDoor.PFnExactProfileOf
open Go.RowKit Go.Proofs.YtnaknegnpgodkaaDoorW.PrintWords Go.Proofs.YtnaknegnpgodkaaDoorW.PrintLast Go.Proofs.YtnaknegnpgodkaaDoorW.PrintMore
attribute [local go_sem] max2_int min2_int max_two min_two max_three min_three max_four min_four   -- for this text's walks alone
set_option linter.unusedVariables false
set_option linter.unusedSimpArgs false

/-! ### spec_l1In: function 31 -/
def spec_l1In.f (a0 : Int) (a1 : Int) (a2 : Int) : Option (Bool) := if a0 ≥ a1 then (some (decide (a0 ≤ a2))) else (some false)
set_option maxHeartbeats 8000000 in
set_option maxRecDepth 100000 in
theorem spec_l1In.calls (a0 : Int) (a1 : Int) (a2 : Int) (r : Bool) (w : World) (h : spec_l1In.f a0 a1 a2 = some r) :
    Calls Tryd.prog 31 #[.int .i64 a0, .int .i64 a1, .int .i64 a2] w fun e w' => e = .returned (.bool r) ∧ Drawn0 w w' := by
  have H : (if a0 ≥ a1 then (some (decide (a0 ≤ a2))) else (some false)) = some r := h
  clear h
  by_cases c4 : a0 ≥ a1
  · rw [if_pos c4] at H
    have c4b0 : decide (a1 ≤ a0) = true := decide_eq_true c4
    clear c4
    obtain rfl := Option.some.inj H
    go_enter Tryd.func31, Tryd.ntmps31
    go_wp2
    go_ret
    exact ⟨by first | rfl | (simp; done) | (simp [*]; done), by repeat (first | exact Drawn0.refl _ | apply Drawn0.step)⟩
  · rw [if_neg c4] at H
    have c4b0 : decide (a1 ≤ a0) = false := decide_eq_false c4
    clear c4
    obtain rfl := Option.some.inj H
    go_enter Tryd.func31, Tryd.ntmps31
    go_wp2
    go_ret
    exact ⟨by first | rfl | (simp; done) | (simp [*]; done), by repeat (first | exact Drawn0.refl _ | apply Drawn0.step)⟩

theorem spec_l1In.eq (a b c : Int) : spec_l1In.f a b c = some (decide (b ≤ a) && decide (a ≤ c)) := by
  unfold spec_l1In.f
  by_cases h : a ≥ b
  · rw [if_pos h, decide_eq_true (show b ≤ a from h), Bool.true_and]
  · rw [if_neg h, decide_eq_false (show ¬ b ≤ a from h), Bool.false_and]

/-! ### spec_l3Name: function 30 -/
def spec_l3Name_p.l0 : Nat → ByteArray → Int → Option (Bool)
  | 0, _, _ => none
  | k + 1, x0, x3 => if x3 < (x0.size : Int) then (if 0 ≤ x3 then (if (bt x0 x3) < 97 then (some false) else (if (bt x0 x3) > 122 then (some false) else (spec_l3Name_p.l0 k x0 (wrap64 (x3 + 1))))) else (none)) else ((spec_l1In.f (x0.size : Int) 1 8).bind fun t119 => (some t119))
def spec_l3Name_p.f (k : Nat) (a0 : ByteArray) : Option (Bool) := spec_l3Name_p.l0 k a0 0
theorem spec_l3Name_p.mono_l : ∀ k, (∀ y0 y1, LeO (spec_l3Name_p.l0 k y0 y1) (spec_l3Name_p.l0 (k + 1) y0 y1))
  | 0 => fun _ _ r h => by simp [spec_l3Name_p.l0] at h
  | k + 1 => by
    have ih0 := spec_l3Name_p.mono_l k
    · intro y0 y1
      unfold spec_l3Name_p.l0
      repeat' first
      | (with_reducible exact ih0 _ _)
      | (with_reducible exact LeO.refl _)
      | (with_reducible exact LeO.none _)
      | (with_reducible refine LeO.ite ?_ ?_)
      | (with_reducible refine LeO.bind ?_ (fun _ => ?_))
      | exact ih0 _ _
      | exact LeO.none _
      | refine LeO.ite ?_ ?_
      | refine LeO.bind ?_ (fun _ => ?_)
theorem spec_l3Name_p.mono : ∀ a0 k, LeO (spec_l3Name_p.f k a0) (spec_l3Name_p.f (k + 1) a0) := by
  intro a0 k
  have ih0 := spec_l3Name_p.mono_l k
  unfold spec_l3Name_p.f
  repeat' first
      | (with_reducible exact ih0 _ _)
      | (with_reducible exact LeO.refl _)
      | (with_reducible exact LeO.none _)
      | (with_reducible refine LeO.ite ?_ ?_)
      | (with_reducible refine LeO.bind ?_ (fun _ => ?_))
      | exact ih0 _ _
      | exact LeO.none _
      | refine LeO.ite ?_ ?_
      | refine LeO.bind ?_ (fun _ => ?_)
set_option maxHeartbeats 8000000 in
set_option maxRecDepth 100000 in
theorem spec_l3Name_p.calls (k : Nat) (a0 : ByteArray) (r : Bool) (w : World) (h : spec_l3Name_p.f k a0 = some r) :
    Calls Tryd.prog 30 #[.string a0] w fun e w' => e = .returned (.bool r) ∧ Drawn0 w w' := by
  have H : (spec_l3Name_p.l0 k a0 0) = some r := h
  clear h
  have H' := Aside0.mk H
  clear H
  go_enter Tryd.func30, Tryd.ntmps30
  go_wp2
  go_loopg [3] k (fun kq v3 w' => ∃ (x3_1 : Int), v3 = .int .i64 x3_1 ∧ Aside0 (spec_l3Name_p.l0 kq a0 x3_1 = some r) ∧ Aside0 (kq ≤ k) ∧ Drawn0 w w')
  case atStart => exact ⟨(0), (by first | rfl | (simp; done) | (simp [*]; done)), H', ⟨Nat.le_refl _⟩, by repeat (first | exact Drawn0.refl _ | apply Drawn0.step)⟩
  case round =>
    clear H'
    obtain ⟨x3_1, rfl, HA, HK1, ⟨m1, rfl⟩⟩ := hrel
    cases gk with
    | zero => exact absurd HA.out (by simp [spec_l3Name_p.l0])
    | succ k1 =>
      have H := HA.out
      clear HA
      simp only [spec_l3Name_p.l0] at H
      by_cases c2 : x3_1 < (a0.size : Int)
      · rw [if_pos c2] at H
        have c2b0 : decide (x3_1 < (a0.size : Int)) = true := decide_eq_true c2
        clear c2
        by_cases c3 : 0 ≤ x3_1
        · rw [if_pos c3] at H
          have c3b0 : decide (0 ≤ x3_1) = true := decide_eq_true c3
          clear c3
          by_cases c5 : (bt a0 x3_1) < 97
          · rw [if_pos c5] at H
            have c5b0 : decide ((bt a0 x3_1) < 97) = true := decide_eq_true c5
            clear c5
            obtain rfl := Option.some.inj H
            have p4 : 0 ≤ (x3_1 : Int) := of_decide_eq_true (by first | (with_reducible assumption) | assumption)
            have q4 : x3_1 < (a0.size : Int) := of_decide_eq_true (by first | (with_reducible assumption) | assumption)
            have hx4 := bt_at a0 x3_1
            replace p4 := eq_true p4
            replace q4 := eq_true q4
            go_wp2
            go_ret
            exact ⟨by first | rfl | (simp; done) | (simp [*]; done), by repeat (first | exact Drawn0.refl _ | apply Drawn0.step)⟩
          · rw [if_neg c5] at H
            have c5b0 : decide ((bt a0 x3_1) < 97) = false := decide_eq_false c5
            clear c5
            by_cases c7 : (bt a0 x3_1) > 122
            · rw [if_pos c7] at H
              have c7b0 : decide (122 < (bt a0 x3_1)) = true := decide_eq_true c7
              clear c7
              obtain rfl := Option.some.inj H
              have p4 : 0 ≤ (x3_1 : Int) := of_decide_eq_true (by first | (with_reducible assumption) | assumption)
              have q4 : x3_1 < (a0.size : Int) := of_decide_eq_true (by first | (with_reducible assumption) | assumption)
              have hx4 := bt_at a0 x3_1
              replace p4 := eq_true p4
              replace q4 := eq_true q4
              have p6 : 0 ≤ (x3_1 : Int) := of_decide_eq_true (by first | (with_reducible assumption) | assumption)
              have q6 : x3_1 < (a0.size : Int) := of_decide_eq_true (by first | (with_reducible assumption) | assumption)
              have hx6 := bt_at a0 x3_1
              replace p6 := eq_true p6
              replace q6 := eq_true q6
              go_wp2
              go_ret
              exact ⟨by first | rfl | (simp; done) | (simp [*]; done), by repeat (first | exact Drawn0.refl _ | apply Drawn0.step)⟩
            · rw [if_neg c7] at H
              have c7b0 : decide (122 < (bt a0 x3_1)) = false := decide_eq_false c7
              clear c7
              have H' := Aside0.mk H
              clear H
              have p4 : 0 ≤ (x3_1 : Int) := of_decide_eq_true (by first | (with_reducible assumption) | assumption)
              have q4 : x3_1 < (a0.size : Int) := of_decide_eq_true (by first | (with_reducible assumption) | assumption)
              have hx4 := bt_at a0 x3_1
              replace p4 := eq_true p4
              replace q4 := eq_true q4
              have p6 : 0 ≤ (x3_1 : Int) := of_decide_eq_true (by first | (with_reducible assumption) | assumption)
              have q6 : x3_1 < (a0.size : Int) := of_decide_eq_true (by first | (with_reducible assumption) | assumption)
              have hx6 := bt_at a0 x3_1
              replace p6 := eq_true p6
              replace q6 := eq_true q6
              go_wp2
              go_roundg k1
              case measure => have := HK1.out; omega
              case rel => exact ⟨(wrap64 (x3_1 + 1)), (by first | rfl | (simp; done) | (simp [*]; done)), H', ⟨by have := HK1.out; omega⟩, by repeat (first | exact Drawn0.refl _ | apply Drawn0.step)⟩
        · rw [if_neg c3] at H
          exact absurd H (by simp)
      · rw [if_neg c2] at H
        have c2b0 : decide (x3_1 < (a0.size : Int)) = false := decide_eq_false c2
        clear c2
        replace H := Option.bind_eq_some_iff.mp H
        obtain ⟨t119, A80, H⟩ := H
        replace H : (some t119) = some r := H
        have A8 := Aside0.mk A80
        clear A80
        obtain rfl := Option.some.inj H
        go_wp2_with (first | ((with_reducible refine gate_callee (f := 31) rfl ?_); refine goesL_ (some 22) rfl rfl Tryd.func31 (by kernel_rfl) rfl #[.int .i64 (a0.size : Int), .int .i64 1, .int .i64 8] rfl (by (try simp only [List.map_toArray, List.map_cons, List.map_nil]); first | done | rfl | (simp only [List.length_drop, List.length_take]; rfl)) ?_; (with_reducible refine (spec_l1In.calls (a0.size : Int) 1 8 t119 _ A8.out).mono ?_); rintro e w' ⟨rfl, ⟨nd, rfl⟩⟩; refine ⟨_, rfl, ?_⟩))
        go_ret
        exact ⟨by first | rfl | (simp; done) | (simp [*]; done), by repeat (first | exact Drawn0.refl _ | apply Drawn0.step)⟩

theorem spec_l3Name_p.run (s : ByteArray) (hs : s.size ≤ 1048576) : ∀ (t : List UInt8) (i : Nat), s.data.toList.drop i = t → i + t.length = s.size → spec_l3Name_p.l0 (t.length + 1) s (i : Int) = some ((decide (1 ≤ s.size) && decide (s.size ≤ 8)) && t.all fun b => decide (97 ≤ b.toNat) && decide (b.toNat ≤ 122))
  | [], i, hd, hi => by
    rw [List.length_nil] at hi
    rw [spec_l3Name_p.l0, if_neg (by omega), spec_l1In.eq]
    simp only [Option.bind_some, List.all_nil, Bool.and_true]
    congr 1
    rw [Bool.eq_iff_iff]
    simp
    omega
  | x :: t, i, hd, hi => by
    obtain ⟨h1, h2, h3, h4⟩ := M.drop_cons hd
    rw [List.length_cons] at hi
    have hlt : ((i : Int)).toNat < s.size := by omega
    have hb : bt s (i : Int) = (x.toNat : Int) := by
      rw [← bt_at s (i : Int) hlt]
      have e : s.data.toList[i]? = some x := h2
      have e2 : s[((i : Int)).toNat] = x := by
        have : s.data.toList[i]? = some (s[((i : Int)).toNat]) := by
          rw [List.getElem?_eq_getElem h1]
          rfl
        rw [this] at e
        exact Option.some.inj e
      rw [e2]
    have hx := x.toNat_lt
    rw [List.length_cons, spec_l3Name_p.l0, if_pos (by omega), if_pos (by omega), hb, List.all_cons]
    by_cases c : x.toNat < 97
    · rw [if_pos (by omega), decide_eq_false (show ¬ 97 ≤ x.toNat by omega), Bool.false_and, Bool.false_and, Bool.and_false]
    · rw [if_neg (by omega)]
      by_cases d : 122 < x.toNat
      · rw [if_pos (by omega), decide_eq_false (show ¬ x.toNat ≤ 122 by omega), Bool.and_false, Bool.false_and, Bool.and_false]
      · rw [if_neg (by omega), decide_eq_true (show 97 ≤ x.toNat by omega), decide_eq_true (show x.toNat ≤ 122 by omega), M.wrap_succ (by omega), spec_l3Name_p.run s hs t (i + 1) h3 (by omega)]
        simp

def spec_l3Name.f (a0 : ByteArray) : Option (Bool) := if a0.size ≤ 1048576 then some (M.nameOk a0) else none
theorem spec_l3Name.ok (a0 : ByteArray) (r : Bool) (h : spec_l3Name.f a0 = some r) : ∃ k, spec_l3Name_p.f k a0 = some r := by
  unfold spec_l3Name.f at h
  split at h
  · rename_i hb
    refine ⟨a0.data.toList.length + 1, ?_⟩
    unfold spec_l3Name_p.f
    rw [← h]
    exact spec_l3Name_p.run a0 hb a0.data.toList 0 rfl (by rw [Nat.zero_add]; exact Array.length_toList)
  · cases h
theorem spec_l3Name.calls (a0 : ByteArray) (r : Bool) (w : World) (h : spec_l3Name.f a0 = some r) :
    Calls Tryd.prog 30 #[.string a0] w fun e w' => e = .returned (.bool r) ∧ Drawn0 w w' := by
  obtain ⟨k, hk⟩ := spec_l3Name.ok a0 r h
  exact spec_l3Name_p.calls k a0 r w hk

theorem spec_l3Name.eq (s : ByteArray) (h : s.size ≤ 1048576) : spec_l3Name.f s = some (M.nameOk s) := by
  unfold spec_l3Name.f
  rw [if_pos h]

/-! ### spec_GoodGoods: function 10 -/
mutual
def spec_GoodGoods_p.l0 : Nat → List (S56) → List (S56) → Int → Int → Option (Bool)
  | 0, _, _, _, _ => none
  | k + 1, x0, x7, x8, x9 => if x9 < x8 then (if 0 ≤ x9 then (if x9 < (x7.length : Int) then ((spec_l3Name.f ((rd_T56 x7 x9).f0)).bind fun t122 => (if t122 = true then ((spec_l1In.f ((rd_T56 x7 x9).f1) 1 100).bind fun t123 => (spec_GoodGoods_p.j1 k x0 x9 x7 x8 x9 (!t123) ((rd_T56 x7 x9).f0) ((rd_T56 x7 x9).f1))) else (spec_GoodGoods_p.j1 k x0 x9 x7 x8 x9 true ((rd_T56 x7 x9).f0) ((rd_T56 x7 x9).f1)))) else (none)) else (none)) else (some (decide ((x0.length : Int) ≤ 12)))
def spec_GoodGoods_p.j1 : Nat → List (S56) → Int → List (S56) → Int → Int → Bool → ByteArray → Int → Option (Bool)
  | 0, _, _, _, _, _, _, _, _ => none
  | k + 1, x0, x3, x7, x8, x9, x23, x122000, x122001 => if x23 = true then (some false) else (if 0 ≤ x3 then (if x3 ≤ (x0.length : Int) then ((some (x0.take (x3 : Int).toNat : List (S56))).bind fun y124 => (spec_GoodGoods_p.l1 k x0 x7 x8 x9 y124 (y124.length : Int) 0 x122000 x122001)) else (none)) else (none))
def spec_GoodGoods_p.l1 : Nat → List (S56) → List (S56) → Int → Int → List (S56) → Int → Int → ByteArray → Int → Option (Bool)
  | 0, _, _, _, _, _, _, _, _, _ => none
  | k + 1, x0, x7, x8, x9, x26, x27, x28, x122000, x122001 => if x28 < x27 then (if 0 ≤ x28 then (if x28 < (x26.length : Int) then (if ((rd_T56 x26 x28).f0).toList = x122000.toList then (some false) else (spec_GoodGoods_p.l1 k x0 x7 x8 x9 x26 x27 (wrap64 (x28 + 1)) x122000 x122001)) else (none)) else (none)) else (spec_GoodGoods_p.l0 k x0 x7 x8 (wrap64 (x9 + 1)))
end
def spec_GoodGoods_p.f (k : Nat) (l0 : List (S56)) : Option (Bool) := spec_GoodGoods_p.l0 k l0 l0 (l0.length : Int) 0
theorem spec_GoodGoods_p.mono_l : ∀ k, (∀ y0 y1 y2 y3, LeO (spec_GoodGoods_p.l0 k y0 y1 y2 y3) (spec_GoodGoods_p.l0 (k + 1) y0 y1 y2 y3)) ∧ (∀ y0 y1 y2 y3 y4 y5 y6 y7, LeO (spec_GoodGoods_p.j1 k y0 y1 y2 y3 y4 y5 y6 y7) (spec_GoodGoods_p.j1 (k + 1) y0 y1 y2 y3 y4 y5 y6 y7)) ∧ (∀ y0 y1 y2 y3 y4 y5 y6 y7 y8, LeO (spec_GoodGoods_p.l1 k y0 y1 y2 y3 y4 y5 y6 y7 y8) (spec_GoodGoods_p.l1 (k + 1) y0 y1 y2 y3 y4 y5 y6 y7 y8))
  | 0 => ⟨fun _ _ _ _ r h => by simp [spec_GoodGoods_p.l0] at h, fun _ _ _ _ _ _ _ _ r h => by simp [spec_GoodGoods_p.j1] at h, fun _ _ _ _ _ _ _ _ _ r h => by simp [spec_GoodGoods_p.l1] at h⟩
  | k + 1 => by
    obtain ⟨ih0, ih1, ih2⟩ := spec_GoodGoods_p.mono_l k
    refine ⟨?_, ?_, ?_⟩
    · intro y0 y1 y2 y3
      unfold spec_GoodGoods_p.l0
      repeat' first
      | (with_reducible exact ih0 _ _ _ _)
      | (with_reducible exact ih1 _ _ _ _ _ _ _ _)
      | (with_reducible exact ih2 _ _ _ _ _ _ _ _ _)
      | (with_reducible exact LeO.refl _)
      | (with_reducible exact LeO.none _)
      | (with_reducible refine LeO.ite ?_ ?_)
      | (with_reducible refine LeO.bind ?_ (fun _ => ?_))
      | exact ih0 _ _ _ _
      | exact ih1 _ _ _ _ _ _ _ _
      | exact ih2 _ _ _ _ _ _ _ _ _
      | exact LeO.none _
      | refine LeO.ite ?_ ?_
      | refine LeO.bind ?_ (fun _ => ?_)
    · intro y0 y1 y2 y3 y4 y5 y6 y7
      unfold spec_GoodGoods_p.j1
      repeat' first
      | (with_reducible exact ih0 _ _ _ _)
      | (with_reducible exact ih1 _ _ _ _ _ _ _ _)
      | (with_reducible exact ih2 _ _ _ _ _ _ _ _ _)
      | (with_reducible exact LeO.refl _)
      | (with_reducible exact LeO.none _)
      | (with_reducible refine LeO.ite ?_ ?_)
      | (with_reducible refine LeO.bind ?_ (fun _ => ?_))
      | exact ih0 _ _ _ _
      | exact ih1 _ _ _ _ _ _ _ _
      | exact ih2 _ _ _ _ _ _ _ _ _
      | exact LeO.none _
      | refine LeO.ite ?_ ?_
      | refine LeO.bind ?_ (fun _ => ?_)
    · intro y0 y1 y2 y3 y4 y5 y6 y7 y8
      unfold spec_GoodGoods_p.l1
      repeat' first
      | (with_reducible exact ih0 _ _ _ _)
      | (with_reducible exact ih1 _ _ _ _ _ _ _ _)
      | (with_reducible exact ih2 _ _ _ _ _ _ _ _ _)
      | (with_reducible exact LeO.refl _)
      | (with_reducible exact LeO.none _)
      | (with_reducible refine LeO.ite ?_ ?_)
      | (with_reducible refine LeO.bind ?_ (fun _ => ?_))
      | exact ih0 _ _ _ _
      | exact ih1 _ _ _ _ _ _ _ _
      | exact ih2 _ _ _ _ _ _ _ _ _
      | exact LeO.none _
      | refine LeO.ite ?_ ?_
      | refine LeO.bind ?_ (fun _ => ?_)
theorem spec_GoodGoods_p.mono : ∀ a0 k, LeO (spec_GoodGoods_p.f k a0) (spec_GoodGoods_p.f (k + 1) a0) := by
  intro a0 k
  obtain ⟨ih0, ih1, ih2⟩ := spec_GoodGoods_p.mono_l k
  unfold spec_GoodGoods_p.f
  repeat' first
      | (with_reducible exact ih0 _ _ _ _)
      | (with_reducible exact ih1 _ _ _ _ _ _ _ _)
      | (with_reducible exact ih2 _ _ _ _ _ _ _ _ _)
      | (with_reducible exact LeO.refl _)
      | (with_reducible exact LeO.none _)
      | (with_reducible refine LeO.ite ?_ ?_)
      | (with_reducible refine LeO.bind ?_ (fun _ => ?_))
      | exact ih0 _ _ _ _
      | exact ih1 _ _ _ _ _ _ _ _
      | exact ih2 _ _ _ _ _ _ _ _ _
      | exact LeO.none _
      | refine LeO.ite ?_ ?_
      | refine LeO.bind ?_ (fun _ => ?_)
set_option maxHeartbeats 8000000 in
set_option maxRecDepth 100000 in
theorem spec_GoodGoods_p.calls (k : Nat) (A0 : Option Addr) (c0 : Nat) (l0 : List (S56)) (r : Bool) (w : World) (hr0 : Kd.C k56 w A0 l0.length l0) (hc0 : l0.length ≤ c0) (h : spec_GoodGoods_p.f k l0 = some r) :
    Calls Tryd.prog 10 #[.slice A0 l0.length c0] w fun e w' => e = .returned (.bool r) ∧ Below w.heap.size w w' := by
  have hu56 := Tryd.underlying56
  have HR0 := Aside0.mk hr0
  have HC0 := Aside0.mk hc0
  clear hr0 hc0
  have HB := Aside0.mk (Below.refl w.heap.size w)
  have H : (spec_GoodGoods_p.l0 k l0 l0 (l0.length : Int) 0) = some r := h
  clear h
  have H' := Aside0.mk H
  clear H
  go_enter Tryd.func10, Tryd.ntmps10
  go_wp2
  go_loopg [9] k (fun kq v9 w' => ∃ (x9_1 : Int), v9 = .int .i64 x9_1 ∧ Aside0 (spec_GoodGoods_p.l0 kq l0 l0 (l0.length : Int) x9_1 = some r) ∧ Aside0 (kq ≤ k) ∧ Aside0 (Below w.heap.size w w'))
  case atStart => exact ⟨(0), (by first | rfl | (simp; done) | (simp [*]; done)), H', ⟨Nat.le_refl _⟩, ⟨by repeat (first | (with_reducible first | exact HB.out | apply below_alloc | apply pw_below_drewN | apply below_drew1) | exact HB.out)⟩⟩
  case round =>
    clear H'
    try clear c1
    obtain ⟨x9_1, rfl, HA, HK1, HB⟩ := hrel
    cases gk with
    | zero => exact absurd HA.out (by simp [spec_GoodGoods_p.l0])
    | succ k1 =>
      have H := HA.out
      clear HA
      simp only [spec_GoodGoods_p.l0] at H
      by_cases c2 : x9_1 < (l0.length : Int)
      · rw [if_pos c2] at H
        have c2b0 : decide (x9_1 < (l0.length : Int)) = true := decide_eq_true c2
        clear c2
        by_cases c3 : 0 ≤ x9_1
        · rw [if_pos c3] at H
          have c3b0 : decide (0 ≤ x9_1) = true := decide_eq_true c3
          clear c3
          by_cases c4 : x9_1 < (l0.length : Int)
          · rw [if_pos c4] at H
            have c4b0 : decide (x9_1 < (l0.length : Int)) = true := decide_eq_true c4
            clear c4
            have HC5 := Aside0.mk H
            clear H
            have p120 : 0 ≤ (x9_1 : Int) := of_decide_eq_true (by first | (with_reducible assumption) | assumption)
            have q120 : x9_1 < (l0.length : Int) := of_decide_eq_true (by first | (with_reducible assumption) | assumption)
            obtain ⟨ad120, e120, hx120_0, hx120_1⟩ := at_T56 HR0.out x9_1 p120 q120
            cases e120
            replace hx120_0 := (HB.out.cell (World.block_lt_of_cell? w _ hx120_0)).trans hx120_0
            replace hx120_1 := (HB.out.cell (World.block_lt_of_cell? w _ hx120_1)).trans hx120_1
            replace p120 := eq_true p120
            replace q120 := eq_true q120
            go_upto_region 4 with (first | ((with_reducible refine gate_dst (N := 4) rfl ?_); refine box_event ?hg (N := 4) ?hd (cs := #[.string (⟨#[]⟩ : ByteArray), .int .i64 0]) (t := 56) ?hr ?_; (case hd => rfl); (case hg => rfl); (case hr => first | (go_simp; done) | (go_simp; rfl)); intro gb121 hg w6 hbox hb; have n0_ := Aside0.mk (below_step (by repeat (first | (with_reducible first | exact HB.out | apply below_alloc | apply pw_below_drewN | apply below_drew1) | exact HB.out)) hb); have n1_ := Aside0.mk (hbox); have n2_ := Aside0.mk ((by rw [hg]; exact (below_size (by repeat (first | (with_reducible first | exact HB.out | apply below_alloc | apply pw_below_drewN | apply below_drew1) | exact HB.out))) : w.heap.size ≤ gb121)); have n3_ := Aside0.mk ((by rw [hg]; exact (below_size (by repeat (first | (with_reducible first | exact HB.out | apply below_alloc | apply pw_below_drewN | apply below_drew1) | exact HB.out))) : w.heap.size ≤ gb121)); clear HB; have HB := n0_; have BK121 := n1_; have GW121 := n2_; have GE121 := n3_; clear n0_ n1_ n2_ n3_; clear hb hbox hg; have hcz7_0 : w6.cell? ⟨gb121, 0, none⟩ = some (.string (⟨#[]⟩ : ByteArray)) := (blk_cell BK121.out 0).trans rfl; have hcz7_1 : w6.cell? ⟨gb121, 1, none⟩ = some (.int .i64 0) := (blk_cell BK121.out 1).trans rfl; have hfz7_0 := blk_frozen BK121.out 0; have hfz7_1 := blk_frozen BK121.out 1))
            (try simp only [Act.put, List.setIfInBounds_toArray, List.set_cons_zero, List.set_cons_succ])
            go_cut [23] (fun v23 wc => ∃ (kq : Nat) (x23_4 : Bool), v23 = .bool x23_4 ∧ Aside0 (spec_GoodGoods_p.j1 kq l0 x9_1 l0 (l0.length : Int) x9_1 x23_4 ((rd_T56 l0 x9_1).f0) ((rd_T56 l0 x9_1).f1) = some r) ∧ Aside0 (kq ≤ k1) ∧ Aside0 (wc.heap[gb121]? = some (.cells #[.string ((rd_T56 l0 x9_1).f0), .int .i64 ((rd_T56 l0 x9_1).f1)] 56 (0, 0))) ∧ Aside0 (Below w.heap.size w wc))
            case first =>
              have H := HC5.out
              clear HC5
              replace H := Option.bind_eq_some_iff.mp H
              obtain ⟨t122, A80, H⟩ := H
              replace H : (if t122 = true then ((spec_l1In.f ((rd_T56 l0 x9_1).f1) 1 100).bind fun t123 => (spec_GoodGoods_p.j1 k1 l0 x9_1 l0 (l0.length : Int) x9_1 (!t123) ((rd_T56 l0 x9_1).f0) ((rd_T56 l0 x9_1).f1))) else (spec_GoodGoods_p.j1 k1 l0 x9_1 l0 (l0.length : Int) x9_1 true ((rd_T56 l0 x9_1).f0) ((rd_T56 l0 x9_1).f1))) = some r := H
              have A8 := Aside0.mk A80
              clear A80
              by_cases c9 : t122 = true
              · subst c9
                have H1 : ((spec_l1In.f ((rd_T56 l0 x9_1).f1) 1 100).bind fun t123 => (spec_GoodGoods_p.j1 k1 l0 x9_1 l0 (l0.length : Int) x9_1 (!t123) ((rd_T56 l0 x9_1).f0) ((rd_T56 l0 x9_1).f1))) = some r := by rw [if_pos rfl] at H; exact H
                clear H
                have H := H1
                clear H1
                replace H := Option.bind_eq_some_iff.mp H
                obtain ⟨t123, A100, H⟩ := H
                replace H : (spec_GoodGoods_p.j1 k1 l0 x9_1 l0 (l0.length : Int) x9_1 (!t123) ((rd_T56 l0 x9_1).f0) ((rd_T56 l0 x9_1).f1)) = some r := H
                have A10 := Aside0.mk A100
                clear A100
                have H' := Aside0.mk H
                clear H
                have hcz11_0 : w6.cell? ⟨gb121, 0, none⟩ = some (.string (⟨#[]⟩ : ByteArray)) := (blk_cell BK121.out 0).trans rfl
                have hcz11_1 : w6.cell? ⟨gb121, 1, none⟩ = some (.int .i64 0) := (blk_cell BK121.out 1).trans rfl
                have hfz11_0 := blk_frozen BK121.out 0
                have hfz11_1 := blk_frozen BK121.out 1
                go_wp2_with (first | ((with_reducible refine gate_callee (f := 30) rfl ?_); refine goesL_ (some 16) rfl rfl Tryd.func30 (by kernel_rfl) rfl #[.string ((rd_T56 l0 x9_1).f0)] rfl (by (try simp only [List.map_toArray, List.map_cons, List.map_nil]); first | done | rfl | (simp only [List.length_drop, List.length_take]; rfl)) ?_; (with_reducible refine (spec_l3Name.calls ((rd_T56 l0 x9_1).f0) true _ A8.out).mono ?_); rintro e w' ⟨rfl, ⟨nd, rfl⟩⟩; refine ⟨_, rfl, ?_⟩) | (go_at_call 31; (with_reducible refine (spec_l1In.calls ((rd_T56 l0 x9_1).f1) 1 100 t123 _ A10.out).mono ?_); rintro e w' ⟨rfl, ⟨nd, rfl⟩⟩))
                go_meet
                case rel => exact ⟨_, (!t123), (by first | rfl | (simp; done) | (simp [*]; done)), H', ⟨by have := HK1.out; first | omega | exact Nat.le_refl _⟩, ⟨by (with_reducible repeat (first | refine blk_drewN ?_ _ | refine blk_drew ?_ | refine blk_alloc ?_ _)); refine blk_put (cs := #[.string ((rd_T56 l0 x9_1).f0), .int .i64 0]) ?_ 1 _ rfl; (with_reducible repeat (first | refine blk_drewN ?_ _ | refine blk_drew ?_ | refine blk_alloc ?_ _)); refine blk_put (cs := #[.string (⟨#[]⟩ : ByteArray), .int .i64 0]) ?_ 0 _ rfl; (with_reducible repeat (first | refine blk_drewN ?_ _ | refine blk_drew ?_ | refine blk_alloc ?_ _)); exact BK121.out⟩, ⟨by repeat (first | (with_reducible first | exact HB.out | apply below_alloc | apply pw_below_drewN | apply below_drew1 | refine below_set ?_ GE121.out) | exact HB.out)⟩⟩
              · replace c9 := Bool.eq_false_iff.mpr c9
                subst c9
                have H1 : (spec_GoodGoods_p.j1 k1 l0 x9_1 l0 (l0.length : Int) x9_1 true ((rd_T56 l0 x9_1).f0) ((rd_T56 l0 x9_1).f1)) = some r := by rw [if_neg (show ¬ (false = true) by decide)] at H; exact H
                clear H
                have H := H1
                clear H1
                have H' := Aside0.mk H
                clear H
                have hcz12_0 : w6.cell? ⟨gb121, 0, none⟩ = some (.string (⟨#[]⟩ : ByteArray)) := (blk_cell BK121.out 0).trans rfl
                have hcz12_1 : w6.cell? ⟨gb121, 1, none⟩ = some (.int .i64 0) := (blk_cell BK121.out 1).trans rfl
                have hfz12_0 := blk_frozen BK121.out 0
                have hfz12_1 := blk_frozen BK121.out 1
                go_wp2_with (first | ((with_reducible refine gate_callee (f := 30) rfl ?_); refine goesL_ (some 16) rfl rfl Tryd.func30 (by kernel_rfl) rfl #[.string ((rd_T56 l0 x9_1).f0)] rfl (by (try simp only [List.map_toArray, List.map_cons, List.map_nil]); first | done | rfl | (simp only [List.length_drop, List.length_take]; rfl)) ?_; (with_reducible refine (spec_l3Name.calls ((rd_T56 l0 x9_1).f0) false _ A8.out).mono ?_); rintro e w' ⟨rfl, ⟨nd, rfl⟩⟩; refine ⟨_, rfl, ?_⟩))
                go_meet
                case rel => exact ⟨_, (true), (by first | rfl | (simp; done) | (simp [*]; done)), H', ⟨by have := HK1.out; first | omega | exact Nat.le_refl _⟩, ⟨by (with_reducible repeat (first | refine blk_drewN ?_ _ | refine blk_drew ?_ | refine blk_alloc ?_ _)); refine blk_put (cs := #[.string ((rd_T56 l0 x9_1).f0), .int .i64 0]) ?_ 1 _ rfl; (with_reducible repeat (first | refine blk_drewN ?_ _ | refine blk_drew ?_ | refine blk_alloc ?_ _)); refine blk_put (cs := #[.string (⟨#[]⟩ : ByteArray), .int .i64 0]) ?_ 0 _ rfl; (with_reducible repeat (first | refine blk_drewN ?_ _ | refine blk_drew ?_ | refine blk_alloc ?_ _)); exact BK121.out⟩, ⟨by repeat (first | (with_reducible first | exact HB.out | apply below_alloc | apply pw_below_drewN | apply below_drew1 | refine below_set ?_ GE121.out) | exact HB.out)⟩⟩
            case rest =>
              clear HC5
              try clear c1
              try clear p1
              try clear q1
              try clear hx1
              try clear c2
              try clear c2b0
              try clear p2
              try clear c3
              try clear c3b0
              try clear c4
              try clear c4b0
              try clear c9
              try clear c10
              try clear p12
              try clear q12
              try clear hx12
              try clear hcz11_0
              try clear hcz11_1
              try clear hcz12_0
              try clear hcz12_1
              try clear hcz7_0
              try clear hcz7_1
              try clear hfz11_0
              try clear hfz11_1
              try clear hfz12_0
              try clear hfz12_1
              try clear hfz7_0
              try clear hfz7_1
              try clear hx120_0
              try clear hx120_1
              try clear p120
              try clear q120
              obtain ⟨kq, x23_4, rfl, HA, HJ4, BK121, HB⟩ := hcut
              cases kq with
              | zero => exact absurd HA.out (by simp [spec_GoodGoods_p.j1])
              | succ kj4 =>
                have H := HA.out
                clear HA
                simp only [spec_GoodGoods_p.j1] at H
                by_cases c13 : x23_4 = true
                · subst c13
                  have H1 : (some false) = some r := by rw [if_pos rfl] at H; exact H
                  clear H
                  have H := H1
                  clear H1
                  obtain rfl := Option.some.inj H
                  go_wp2
                  go_ret
                  exact ⟨by first | rfl | (simp [errW_none, errW_some] <;> rfl) | (simp [*, errW_none, errW_some] <;> rfl), by repeat (first | (with_reducible first | exact HB.out | apply below_alloc | apply pw_below_drewN | apply below_drew1 | refine below_set ?_ GE121.out) | exact HB.out)⟩
                · replace c13 := Bool.eq_false_iff.mpr c13
                  subst c13
                  have H1 : (if 0 ≤ x9_1 then (if x9_1 ≤ (l0.length : Int) then ((some (l0.take (x9_1 : Int).toNat : List (S56))).bind fun y124 => (spec_GoodGoods_p.l1 kj4 l0 l0 (l0.length : Int) x9_1 y124 (y124.length : Int) 0 ((rd_T56 l0 x9_1).f0) ((rd_T56 l0 x9_1).f1))) else (none)) else (none)) = some r := by rw [if_neg (show ¬ (false = true) by decide)] at H; exact H
                  clear H
                  have H := H1
                  clear H1
                  by_cases c14 : 0 ≤ x9_1
                  · rw [if_pos c14] at H
                    have c14b0 := eq_true c14
                    have c14b1 : decide (0 ≤ x9_1) = true := decide_eq_true c14
                    clear c14
                    by_cases c15 : x9_1 ≤ (l0.length : Int)
                    · rw [if_pos c15] at H
                      have c15b0 := eq_true c15
                      have c15b1 : decide (x9_1 ≤ (l0.length : Int)) = true := decide_eq_true c15
                      clear c15
                      obtain ⟨y124, hy124⟩ : ∃ y_ : List (S56), y_ = (l0.take (x9_1 : Int).toNat) := ⟨_, rfl⟩
                      replace H : (spec_GoodGoods_p.l1 kj4 l0 l0 (l0.length : Int) x9_1 y124 (y124.length : Int) 0 ((rd_T56 l0 x9_1).f0) ((rd_T56 l0 x9_1).f1)) = some r := by first | (rw [hy124]; with_reducible exact H) | (have H2_ := (Option.bind_some _ _).symm.trans H; rw [hy124]; with_reducible exact H2_) | (have H2_ := (Option.bind_some _ _).symm.trans H; with_reducible exact H2_) | with_reducible exact H | (rw [hy124]; exact H) | exact H
                      have Ny124 := Aside0.mk hy124
                      clear hy124
                      have H' := Aside0.mk H
                      clear H
                      have q16 : (x9_1 : Int) ≤ ((l0.length : Int) : Int) := of_decide_eq_true (by first | (with_reducible assumption) | assumption)
                      obtain ⟨i016, hi016, _, hsz16, _⟩ := info_parts info56
                      have hroom16 : l0.length ≤ c0 := HC0.out
                      have hC16 : Kd.C k56 _ (some ad120) l0.length l0 := HR0.out
                      have hcut16 := cut_to (P := Tryd.prog) 32 56 .i64 Tryd.underlying32 hi016 (some ad120) l0.length c0 x9_1 (of_decide_eq_true (by first | (with_reducible assumption) | assumption)) q16 hroom16
                      have hr16 := Kd.C_take (m := (x9_1 : Int).toNat) hC16 (by omega)
                      have hy16 : y124.length = (x9_1 : Int).toNat := (by rw [Ny124.out, List.length_take]; omega)
                      rw [← Ny124.out] at hr16
                      rw [← hy16] at hcut16
                      have HR127 := Aside0.mk hr16
                      have HC127 := Aside0.mk (show y124.length ≤ c0 from by omega)
                      clear hr16 hC16 hroom16 hi016 hsz16
                      have KY16 := Aside0.mk hy16
                      clear hy16
                      replace q16 := eq_true q16
                      go_wp2
                      go_loopg [28] kj4 (fun kq v28 w' => ∃ (x28_3 : Int), v28 = .int .i64 x28_3 ∧ Aside0 (spec_GoodGoods_p.l1 kq l0 l0 (l0.length : Int) x9_1 y124 (y124.length : Int) x28_3 ((rd_T56 l0 x9_1).f0) ((rd_T56 l0 x9_1).f1) = some r) ∧ Aside0 (kq ≤ kj4) ∧ Aside0 (w'.heap[gb121]? = some (.cells #[.string ((rd_T56 l0 x9_1).f0), .int .i64 ((rd_T56 l0 x9_1).f1)] 56 (0, 0))) ∧ Aside0 (Below w.heap.size w w'))
                      case atStart => exact ⟨(0), (by first | rfl | (simp; done) | (simp [*]; done)), H', ⟨Nat.le_refl _⟩, ⟨by (with_reducible repeat (first | refine blk_drewN ?_ _ | refine blk_drew ?_ | refine blk_alloc ?_ _)); exact BK121.out⟩, ⟨by repeat (first | (with_reducible first | exact HB.out | apply below_alloc | apply pw_below_drewN | apply below_drew1 | refine below_set ?_ GE121.out) | exact HB.out)⟩⟩
                      case round =>
                        clear H'
                        try clear c1
                        try clear p1
                        try clear q1
                        try clear hx1
                        try clear c2
                        try clear c2b0
                        try clear p2
                        try clear c3
                        try clear c3b0
                        try clear c4
                        try clear c4b0
                        try clear c9
                        try clear c10
                        try clear p12
                        try clear q12
                        try clear hx12
                        try clear c13
                        try clear c14
                        try clear c14b0
                        try clear c14b1
                        try clear c15
                        try clear c15b0
                        try clear c15b1
                        try clear q16
                        try clear hcz11_0
                        try clear hcz11_1
                        try clear hcz12_0
                        try clear hcz12_1
                        try clear hcz7_0
                        try clear hcz7_1
                        try clear hfz11_0
                        try clear hfz11_1
                        try clear hfz12_0
                        try clear hfz12_1
                        try clear hfz7_0
                        try clear hfz7_1
                        try clear hx120_0
                        try clear hx120_1
                        try clear p1
                        try clear p12
                        try clear p120
                        try clear p2
                        try clear q1
                        try clear q12
                        try clear q120
                        try clear q16
                        obtain ⟨x28_3, rfl, HA, HK3, BK121, HB⟩ := hrel
                        cases gk with
                        | zero => exact absurd HA.out (by simp [spec_GoodGoods_p.l1])
                        | succ k3 =>
                          have H := HA.out
                          clear HA
                          simp only [spec_GoodGoods_p.l1] at H
                          by_cases c17 : x28_3 < (y124.length : Int)
                          · rw [if_pos c17] at H
                            have c17b0 : decide (x28_3 < (y124.length : Int)) = true := decide_eq_true c17
                            clear c17
                            by_cases c18 : 0 ≤ x28_3
                            · rw [if_pos c18] at H
                              have c18b0 : decide (0 ≤ x28_3) = true := decide_eq_true c18
                              clear c18
                              by_cases c19 : x28_3 < (y124.length : Int)
                              · rw [if_pos c19] at H
                                have c19b0 : decide (x28_3 < (y124.length : Int)) = true := decide_eq_true c19
                                clear c19
                                by_cases c20 : ((rd_T56 y124 x28_3).f0).toList = ((rd_T56 l0 x9_1).f0).toList
                                · rw [if_pos c20] at H
                                  have c20b0 : (((rd_T56 y124 x28_3).f0).toList == ((rd_T56 l0 x9_1).f0).toList) = true := beq_iff_eq.mpr c20
                                  have c20b1 : (((rd_T56 y124 x28_3).f0).toList != ((rd_T56 l0 x9_1).f0).toList) = false := bne_eq_false_iff_eq.mpr c20
                                  clear c20
                                  obtain rfl := Option.some.inj H
                                  have p128 : 0 ≤ (x28_3 : Int) := of_decide_eq_true (by first | (with_reducible assumption) | assumption)
                                  have q128 : x28_3 < (y124.length : Int) := of_decide_eq_true (by first | (with_reducible assumption) | assumption)
                                  obtain ⟨ad128, e128, hx128_0, hx128_1⟩ := at_T56 HR127.out x28_3 p128 q128
                                  obtain rfl : ad120 = ad128 := (by injection e128)
                                  replace hx128_0 := (HB.out.cell (World.block_lt_of_cell? w _ hx128_0)).trans hx128_0
                                  replace hx128_1 := (HB.out.cell (World.block_lt_of_cell? w _ hx128_1)).trans hx128_1
                                  replace p128 := eq_true p128
                                  replace q128 := eq_true q128
                                  go_wp2_with (first | ((with_reducible refine gate_dst (N := 6) rfl ?_); refine box_event ?hg (N := 6) ?hd (cs := #[.string (⟨#[]⟩ : ByteArray), .int .i64 0]) (t := 56) ?hr ?_; (case hd => rfl); (case hg => rfl); (case hr => first | (go_simp; done) | (go_simp; rfl)); intro gb129 hg w21 hbox hb; have n0_ := Aside0.mk (blk_below (g := gb121) (o := .cells #[.string ((rd_T56 l0 x9_1).f0), .int .i64 ((rd_T56 l0 x9_1).f1)] 56 (0, 0)) (by (with_reducible repeat (first | refine blk_drewN ?_ _ | refine blk_drew ?_ | refine blk_alloc ?_ _)); exact BK121.out) hb); have n1_ := Aside0.mk (below_step (by repeat (first | (with_reducible first | exact HB.out | apply below_alloc | apply pw_below_drewN | apply below_drew1 | refine below_set ?_ GE121.out) | exact HB.out)) hb); have n2_ := Aside0.mk (hbox); have n3_ := Aside0.mk ((by rw [hg]; exact (below_size (by repeat (first | (with_reducible first | exact HB.out | apply below_alloc | apply pw_below_drewN | apply below_drew1 | refine below_set ?_ GE121.out) | exact HB.out))) : w.heap.size ≤ gb129)); have n4_ := Aside0.mk ((by rw [hg]; exact (below_size (by repeat (first | (with_reducible first | exact HB.out | apply below_alloc | apply pw_below_drewN | apply below_drew1 | refine below_set ?_ GE121.out) | exact HB.out))) : w.heap.size ≤ gb129)); have n5_ := Aside0.mk ((by rw [hg]; exact Nat.ne_of_lt (blk_lt (g := gb121) (o := .cells #[.string ((rd_T56 l0 x9_1).f0), .int .i64 ((rd_T56 l0 x9_1).f1)] 56 (0, 0)) (by (with_reducible repeat (first | refine blk_drewN ?_ _ | refine blk_drew ?_ | refine blk_alloc ?_ _)); exact BK121.out)) : gb121 ≠ gb129)); have n6_ := Aside0.mk ((by rw [hg]; exact Nat.ne_of_gt (blk_lt (g := gb121) (o := .cells #[.string ((rd_T56 l0 x9_1).f0), .int .i64 ((rd_T56 l0 x9_1).f1)] 56 (0, 0)) (by (with_reducible repeat (first | refine blk_drewN ?_ _ | refine blk_drew ?_ | refine blk_alloc ?_ _)); exact BK121.out)) : gb129 ≠ gb121)); clear BK121; clear HB; have BK121 := n0_; have HB := n1_; have BK129 := n2_; have GW129 := n3_; have GE129 := n4_; have NB121_129 := n5_; have NB129_121 := n6_; clear n0_ n1_ n2_ n3_ n4_ n5_ n6_; clear hb hbox hg; have hnb22 := NB129_121.out; have hnc22 := NB121_129.out; have hcz23_0 : w21.cell? ⟨gb129, 0, none⟩ = some (.string (⟨#[]⟩ : ByteArray)) := (blk_cell BK129.out 0).trans rfl; have hcz23_1 : w21.cell? ⟨gb129, 1, none⟩ = some (.int .i64 0) := (blk_cell BK129.out 1).trans rfl; have hfz23_0 := blk_frozen BK129.out 0; have hfz23_1 := blk_frozen BK129.out 1; have hcz24_0 : w21.cell? ⟨gb121, 0, none⟩ = some (.string ((rd_T56 l0 x9_1).f0)) := (blk_cell BK121.out 0).trans rfl; have hcz24_1 : w21.cell? ⟨gb121, 1, none⟩ = some (.int .i64 ((rd_T56 l0 x9_1).f1)) := (blk_cell BK121.out 1).trans rfl; have hfz24_0 := blk_frozen BK121.out 0; have hfz24_1 := blk_frozen BK121.out 1))
                                  go_ret
                                  exact ⟨by first | rfl | (simp [errW_none, errW_some] <;> rfl) | (simp [*, errW_none, errW_some] <;> rfl), by repeat (first | (with_reducible first | exact HB.out | apply below_alloc | apply pw_below_drewN | apply below_drew1 | refine below_set ?_ GE121.out | refine below_set ?_ GE129.out) | exact HB.out)⟩
                                · rw [if_neg c20] at H
                                  have c20b0 : (((rd_T56 y124 x28_3).f0).toList == ((rd_T56 l0 x9_1).f0).toList) = false := beq_eq_false_iff_ne.mpr c20
                                  have c20b1 : (((rd_T56 y124 x28_3).f0).toList != ((rd_T56 l0 x9_1).f0).toList) = true := bne_iff_ne.mpr c20
                                  have H' := Aside0.mk H
                                  clear H
                                  have p128 : 0 ≤ (x28_3 : Int) := of_decide_eq_true (by first | (with_reducible assumption) | assumption)
                                  have q128 : x28_3 < (y124.length : Int) := of_decide_eq_true (by first | (with_reducible assumption) | assumption)
                                  obtain ⟨ad128, e128, hx128_0, hx128_1⟩ := at_T56 HR127.out x28_3 p128 q128
                                  obtain rfl : ad120 = ad128 := (by injection e128)
                                  replace hx128_0 := (HB.out.cell (World.block_lt_of_cell? w _ hx128_0)).trans hx128_0
                                  replace hx128_1 := (HB.out.cell (World.block_lt_of_cell? w _ hx128_1)).trans hx128_1
                                  replace p128 := eq_true p128
                                  replace q128 := eq_true q128
                                  go_wp2_with (first | ((with_reducible refine gate_dst (N := 6) rfl ?_); refine box_event ?hg (N := 6) ?hd (cs := #[.string (⟨#[]⟩ : ByteArray), .int .i64 0]) (t := 56) ?hr ?_; (case hd => rfl); (case hg => rfl); (case hr => first | (go_simp; done) | (go_simp; rfl)); intro gb129 hg w25 hbox hb; have n0_ := Aside0.mk (blk_below (g := gb121) (o := .cells #[.string ((rd_T56 l0 x9_1).f0), .int .i64 ((rd_T56 l0 x9_1).f1)] 56 (0, 0)) (by (with_reducible repeat (first | refine blk_drewN ?_ _ | refine blk_drew ?_ | refine blk_alloc ?_ _)); exact BK121.out) hb); have n1_ := Aside0.mk (below_step (by repeat (first | (with_reducible first | exact HB.out | apply below_alloc | apply pw_below_drewN | apply below_drew1 | refine below_set ?_ GE121.out) | exact HB.out)) hb); have n2_ := Aside0.mk (hbox); have n3_ := Aside0.mk ((by rw [hg]; exact (below_size (by repeat (first | (with_reducible first | exact HB.out | apply below_alloc | apply pw_below_drewN | apply below_drew1 | refine below_set ?_ GE121.out) | exact HB.out))) : w.heap.size ≤ gb129)); have n4_ := Aside0.mk ((by rw [hg]; exact (below_size (by repeat (first | (with_reducible first | exact HB.out | apply below_alloc | apply pw_below_drewN | apply below_drew1 | refine below_set ?_ GE121.out) | exact HB.out))) : w.heap.size ≤ gb129)); have n5_ := Aside0.mk ((by rw [hg]; exact Nat.ne_of_lt (blk_lt (g := gb121) (o := .cells #[.string ((rd_T56 l0 x9_1).f0), .int .i64 ((rd_T56 l0 x9_1).f1)] 56 (0, 0)) (by (with_reducible repeat (first | refine blk_drewN ?_ _ | refine blk_drew ?_ | refine blk_alloc ?_ _)); exact BK121.out)) : gb121 ≠ gb129)); have n6_ := Aside0.mk ((by rw [hg]; exact Nat.ne_of_gt (blk_lt (g := gb121) (o := .cells #[.string ((rd_T56 l0 x9_1).f0), .int .i64 ((rd_T56 l0 x9_1).f1)] 56 (0, 0)) (by (with_reducible repeat (first | refine blk_drewN ?_ _ | refine blk_drew ?_ | refine blk_alloc ?_ _)); exact BK121.out)) : gb129 ≠ gb121)); clear BK121; clear HB; have BK121 := n0_; have HB := n1_; have BK129 := n2_; have GW129 := n3_; have GE129 := n4_; have NB121_129 := n5_; have NB129_121 := n6_; clear n0_ n1_ n2_ n3_ n4_ n5_ n6_; clear hb hbox hg; have hnb26 := NB129_121.out; have hnc26 := NB121_129.out; have hcz27_0 : w25.cell? ⟨gb129, 0, none⟩ = some (.string (⟨#[]⟩ : ByteArray)) := (blk_cell BK129.out 0).trans rfl; have hcz27_1 : w25.cell? ⟨gb129, 1, none⟩ = some (.int .i64 0) := (blk_cell BK129.out 1).trans rfl; have hfz27_0 := blk_frozen BK129.out 0; have hfz27_1 := blk_frozen BK129.out 1; have hcz28_0 : w25.cell? ⟨gb121, 0, none⟩ = some (.string ((rd_T56 l0 x9_1).f0)) := (blk_cell BK121.out 0).trans rfl; have hcz28_1 : w25.cell? ⟨gb121, 1, none⟩ = some (.int .i64 ((rd_T56 l0 x9_1).f1)) := (blk_cell BK121.out 1).trans rfl; have hfz28_0 := blk_frozen BK121.out 0; have hfz28_1 := blk_frozen BK121.out 1))
                                  go_roundg k3
                                  case measure => have := HK1.out; have := HJ4.out; have := HK3.out; omega
                                  case rel => exact ⟨(wrap64 (x28_3 + 1)), (by first | rfl | (simp; done) | (simp [*]; done)), H', ⟨by have := HK1.out; have := HJ4.out; have := HK3.out; omega⟩, ⟨by (with_reducible repeat (first | refine blk_drewN ?_ _ | refine blk_drew ?_ | refine blk_alloc ?_ _)); refine blk_far ?_ NB121_129.out _; (with_reducible repeat (first | refine blk_drewN ?_ _ | refine blk_drew ?_ | refine blk_alloc ?_ _)); refine blk_far ?_ NB121_129.out _; (with_reducible repeat (first | refine blk_drewN ?_ _ | refine blk_drew ?_ | refine blk_alloc ?_ _)); exact BK121.out⟩, ⟨by repeat (first | (with_reducible first | exact HB.out | apply below_alloc | apply pw_below_drewN | apply below_drew1 | refine below_set ?_ GE121.out | refine below_set ?_ GE129.out) | exact HB.out)⟩⟩
                              · rw [if_neg c19] at H
                                exact absurd H (by simp)
                            · rw [if_neg c18] at H
                              exact absurd H (by simp)
                          · rw [if_neg c17] at H
                            have c17b0 : decide (x28_3 < (y124.length : Int)) = false := decide_eq_false c17
                            clear c17
                            have H' := Aside0.mk H
                            clear H
                            go_wp2
                            go_roundg k3
                            case measure => have := HK1.out; have := HJ4.out; have := HK3.out; omega
                            case rel => exact ⟨(wrap64 (x9_1 + 1)), (by first | rfl | (simp; done) | (simp [*]; done)), H', ⟨by have := HK1.out; have := HJ4.out; have := HK3.out; omega⟩, ⟨by repeat (first | (with_reducible first | exact HB.out | apply below_alloc | apply pw_below_drewN | apply below_drew1 | refine below_set ?_ GE121.out) | exact HB.out)⟩⟩
                    · rw [if_neg c15] at H
                      exact absurd H (by simp)
                  · rw [if_neg c14] at H
                    exact absurd H (by simp)
          · rw [if_neg c4] at H
            exact absurd H (by simp)
        · rw [if_neg c3] at H
          exact absurd H (by simp)
      · rw [if_neg c2] at H
        have c2b0 : decide (x9_1 < (l0.length : Int)) = false := decide_eq_false c2
        clear c2
        obtain rfl := Option.some.inj H
        go_wp2
        go_ret
        exact ⟨by first | rfl | (simp [errW_none, errW_some] <;> rfl) | (simp [*, errW_none, errW_some] <;> rfl), by repeat (first | (with_reducible first | exact HB.out | apply below_alloc | apply pw_below_drewN | apply below_drew1) | exact HB.out)⟩

theorem spec_GoodGoods_p.runI (l : List (S56)) (hl : l.length ≤ 1048576) (i : Nat) (hi : i < l.length) (nm : ByteArray) (sz : Int) (v : Bool) (B : Nat) (hv : ∀ q, B ≤ q → spec_GoodGoods_p.l0 q l l (l.length : Int) ((i + 1 : Nat) : Int) = some v) : ∀ (s : List (S56)) (j q : Nat), (l.take i).drop j = s → B + s.length + 1 ≤ q → spec_GoodGoods_p.l1 q l l (l.length : Int) (i : Int) (l.take i) ((l.take i).length : Int) (j : Int) nm sz = some (!(s.any (fun y : S56 => decide (y.f0.toList = nm.toList))) && v)
  | [], j, q + 1, hd, hq => by
    have h1 := M.drop_nil hd
    rw [spec_GoodGoods_p.l1, if_neg (by omega), M.wrap_succ (by omega), hv q (by simp at hq; omega)]
    rfl
  | x :: s, j, q + 1, hd, hq => by
    obtain ⟨h1, h2, h3, h4⟩ := M.drop_cons hd
    have hx : rd_T56 (l.take i) (j : Int) = x := M.getD_at h2
    have ht : (l.take i).length ≤ 1048576 := by rw [List.length_take]; omega
    rw [List.length_cons] at hq
    rw [spec_GoodGoods_p.l1, if_pos (by omega), if_pos (by omega), if_pos (by omega), hx, List.any_cons]
    by_cases c : x.f0.toList = nm.toList
    · rw [if_pos c, decide_eq_true c, Bool.true_or]; rfl
    · rw [if_neg c, decide_eq_false c, Bool.false_or, M.wrap_succ (by omega), spec_GoodGoods_p.runI l hl i hi nm sz v B hv s (j + 1) q h3 (by omega)]
  | _, _, 0, _, hq => by omega
theorem spec_GoodGoods_p.runO (l : List (S56)) (hl : l.length ≤ 1048576) (hs : ∀ x ∈ l, x.f0.size ≤ 1048576) : ∀ (n i : Nat), i + n = l.length → ∀ q : Nat, n * (l.length + 4) + 1 ≤ q → spec_GoodGoods_p.l0 q l l (l.length : Int) (i : Int) = some (M.goodsFrom (fun x : S56 => x.f0) (fun x : S56 => x.f1) l i (l.drop i) && decide (l.length ≤ 12))
  | 0, i, hi, q + 1, hq => by
    rw [spec_GoodGoods_p.l0, if_neg (by omega), List.drop_eq_nil_of_le (by omega), M.goodsFrom, Bool.true_and]
    congr 1
    rw [Bool.eq_iff_iff]
    simp
    omega
  | n + 1, i, hi, q + 1, hq => by
    have hlt : i < l.length := by omega
    have hd := List.drop_eq_getElem_cons hlt
    have hx : rd_T56 l (i : Int) = l[i] := by unfold rd_T56; simp [hlt]
    have hsz := hs l[i] (List.getElem_mem hlt)
    have hq' : n * (l.length + 4) + 1 + (l.length + 4) ≤ q + 1 := by rw [Nat.succ_mul] at hq; omega
    have ih := fun q h => spec_GoodGoods_p.runO l hl hs n (i + 1) (by omega) q h
    rw [spec_GoodGoods_p.l0, if_pos (by omega), if_pos (by omega), if_pos (by omega), hx, spec_l3Name.eq _ hsz, hd, M.goodsFrom]
    simp only [Option.bind_some]
    obtain ⟨q, rfl⟩ : ∃ z, q = z + 1 := ⟨q - 1, by omega⟩
    cases c : M.nameOk (l[i]).f0 with
    | false =>
      rw [if_neg (by simp), spec_GoodGoods_p.j1, if_pos (by simp)]
      simp
    | true =>
      rw [if_pos rfl, spec_l1In.eq]
      simp only [Option.bind_some]
      have ez : (decide (1 ≤ (l[i]).f1) && decide ((l[i]).f1 ≤ 100)) = M.sizeOk (l[i]).f1 := rfl
      rw [ez]
      cases d : M.sizeOk (l[i]).f1 with
      | false =>
        rw [spec_GoodGoods_p.j1, if_pos (by simp)]
        simp
      | true =>
        rw [spec_GoodGoods_p.j1, if_neg (by simp), if_pos (by omega), if_pos (by omega)]
        simp only [Option.bind_some]
        rw [Int.toNat_natCast]
        have hr := spec_GoodGoods_p.runI l hl i hlt (l[i]).f0 (l[i]).f1 _ (n * (l.length + 4) + 1) ih (l.take i) 0 q rfl (by rw [List.length_take]; omega)
        rw [show ((0 : Nat) : Int) = 0 from rfl] at hr
        rw [hr]
        simp [Bool.and_assoc]
  | _, _, _, 0, hq => by omega

def spec_GoodGoods.f (l0 : List (S56)) : Option (Bool) := if l0.length ≤ 1048576 ∧ (∀ x ∈ l0, x.f0.size ≤ 1048576) then some (M.goodGoods (fun x : S56 => x.f0) (fun x : S56 => x.f1) l0) else none
theorem spec_GoodGoods.ok (l0 : List (S56)) (r : Bool) (h : spec_GoodGoods.f l0 = some r) : ∃ k, spec_GoodGoods_p.f k l0 = some r := by
  unfold spec_GoodGoods.f at h
  split at h
  · rename_i hb
    refine ⟨l0.length * (l0.length + 4) + 1, ?_⟩
    unfold spec_GoodGoods_p.f
    rw [← h]
    exact spec_GoodGoods_p.runO l0 hb.1 hb.2 l0.length 0 (by omega) _ (Nat.le_refl _)
  · cases h
theorem spec_GoodGoods.calls (A0 : Option Addr) (c0 : Nat) (l0 : List (S56)) (r : Bool) (w : World) (hr0 : Kd.C k56 w A0 l0.length l0) (hc0 : l0.length ≤ c0) (h : spec_GoodGoods.f l0 = some r) :
    Calls Tryd.prog 10 #[.slice A0 l0.length c0] w fun e w' => e = .returned (.bool r) ∧ Below w.heap.size w w' := by
  obtain ⟨k, hk⟩ := spec_GoodGoods.ok l0 r h
  exact spec_GoodGoods_p.calls k A0 c0 l0 r w hr0 hc0 hk


end Go.Proofs.YtnaknegnpgodkaaDoor.PFnExactProfileOf
