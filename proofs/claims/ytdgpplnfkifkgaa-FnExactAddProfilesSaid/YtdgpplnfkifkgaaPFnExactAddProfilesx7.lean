/- Contracts of the Go functions that the law FnExactAddProfiles reaches, printed by a program of this session over the kit's print: each call comes to what the Lean function beside it says. Conditions: those that each theorem names. -/
import Derived.Test.YtdgpplnfkifkgaaPFnExactAddProfilesx0
import Derived.Test.YtdgpplnfkifkgaaPFnExactAddProfilesx1
import Derived.Test.YtdgpplnfkifkgaaPFnExactAddProfilesx2
import Derived.Test.YtdgpplnfkifkgaaPFnExactAddProfilesx3
import Derived.Test.YtdgpplnfkifkgaaPFnExactAddProfilesx4
import Derived.Test.YtdgpplnfkifkgaaPFnExactAddProfilesx5
import Derived.Test.YtdgpplnfkifkgaaPFnExactAddProfilesx6
namespace Go.Proofs.Ytdgpplnfkifkgaa.PFnExactAddProfiles
open Go.RowKit Go.Proofs.YtdgpplnfkifkgaaW.PrintWords Go.Proofs.YtdgpplnfkifkgaaW.PrintLast Go.Proofs.YtdgpplnfkifkgaaW.PrintMore
attribute [local go_sem] max2_int min2_int max_two min_two max_three min_three max_four min_four   -- for this text's walks alone
set_option linter.unusedVariables false
set_option linter.unusedSimpArgs false

/-! ### laws_FnExactAddProfiles: function 3 -/
/-- Two lists, number by number. -/
def sums (p q : List Int) : List Int := List.zipWith (fun x y => x + y) p q
theorem sums_len {p q : List Int} (h : p.length = q.length) : (sums p q).length = p.length := by unfold sums; rw [List.length_zipWith]; omega
theorem rd_at (l : List Int) (x : Int) (s : List Int) : rd (l ++ x :: s) ((l.length : Nat) : Int) = x := by unfold rd; simp
theorem added_run (q : List Int) (hq : q.length ≤ 12) (hqb : M.inAll q 0 10000000 = true) : ∀ (s t pre pre' : List Int), q = pre' ++ t → pre.length = pre'.length → s.length = t.length → M.inAll s 0 10000000 = true → impl_added.l0 (s.length + 1) (pre ++ s) q (q.length : Int) ((pre.length : Nat) : Int) = some (pre ++ sums s t)
  | [], [], pre, pre', e, hl, _, _ => by
    have : ¬ ((pre.length : Nat) : Int) < (q.length : Int) := by rw [e, List.length_append, List.length_nil]; omega
    unfold impl_added.l0
    rw [if_neg this]; rfl
  | x :: s, y :: t, pre, pre', e, hl, h, hs => by
    rw [M.inAll_cons] at hs
    have hlen : q.length = pre'.length + (t.length + 1) := by rw [e, List.length_append, List.length_cons]
    have hy : 0 ≤ y ∧ y ≤ 10000000 := M.inAll_iff.1 hqb y (by rw [e]; simp)
    have e1 : rd (pre ++ x :: s) ((pre.length : Nat) : Int) = x := rd_at pre x s
    have e2 : rd q ((pre.length : Nat) : Int) = y := by rw [e, hl]; exact rd_at pre' y t
    have hst : s.length = t.length := by simpa using h
    show impl_added.l0 ((s.length + 1) + 1) _ _ _ _ = _
    unfold impl_added.l0
    rw [if_pos (by omega), if_pos (by omega), if_pos (by omega), if_pos (by rw [List.length_append, List.length_cons]; omega), e1, e2, M.wrap_id (x := x + y) (by omega) (by omega), M.wrap_succ (by omega)]
    have e3 : (pre ++ x :: s).set (((pre.length : Nat) : Int)).toNat (x + y) = (pre ++ [x + y]) ++ s := by simp
    rw [e3]
    have := added_run q hq hqb s t (pre ++ [x + y]) (pre' ++ [y]) (by rw [e]; simp) (by simp [hl]) hst hs.2
    rw [List.length_append, List.length_singleton] at this
    rw [this]
    simp [sums]
  | [], _ :: _, _, _, _, _, h, _ => by simp at h
  | _ :: _, [], _, _, _, _, h, _ => by simp at h
theorem added_eq {p q : List Int} (h : p.length = q.length) (h12 : q.length ≤ 12) (hp : M.inAll p 0 10000000 = true) (hq : M.inAll q 0 10000000 = true) : impl_added.f 13 p q = some (sums p q) := by
  have h1 := added_run q h12 hq p q [] [] rfl rfl h hp
  unfold impl_added.f slices_Clone_int_int.f
  simp only [Option.bind_some, List.length_nil, List.nil_append]
  rw [if_pos (by omega)]
  simp only [Option.bind_some]
  have h2 : impl_added.l0 (p.length + 1) p q (q.length : Int) 0 = some (sums p q) := h1
  exact at_rounds (g := fun k => impl_added.l0 k p q (q.length : Int) 0) (fun k => impl_added.mono_l k _ _ _ _) (by omega) h2
/-- What both return. -/
def sumP (a b c d : List Int) : List Int × List Int × Bool := if M.goodP a b = true ∧ M.goodP c d = true ∧ a.length = c.length ∧ M.goodP (sums a c) (sums b d) = true then (sums a c, sums b d, true) else ([], [], false)
theorem impl_j0 (a b c d : List Int) : impl_AddProfiles.j0 14 false a b c d = ((impl_added.f 13 a c).bind fun t164 => ((impl_added.f 13 b d).bind fun t167 => ((impl_GoodProfile.f t164 t167).bind fun t171 => (if t171 = true then (some (t164, t167, true)) else (some (([] : List Int), ([] : List Int), false)))))) := rfl
theorem spec_j0 (a b c d : List Int) : spec_AddProfiles.j0 14 false a b c d = spec_AddProfiles.l0 13 (a.length : Int) 0 a b c d [] [] := rfl
theorem implP (a b c d : List Int) : impl_AddProfiles.f 14 a b c d = some (sumP a b c d) := by
  unfold impl_AddProfiles.f sumP impl_GoodProfile.f
  simp only [Option.bind_some]
  by_cases h1 : M.goodP a b = true
  · rw [if_pos h1]
    by_cases h2 : M.goodP c d = true
    · rw [if_pos h2]
      by_cases h3 : a.length = c.length
      · have e : ((a.length : Int) != (c.length : Int)) = false := by rw [h3]; simp
        have g1 := M.goodP_iff.1 h1
        have g2 := M.goodP_iff.1 h2
        rw [e]
        rw [impl_j0, added_eq h3 (by omega) (M.inAll_mono g1.2.2.1 (by omega) (by omega)) (M.inAll_mono g2.2.2.1 (by omega) (by omega))]
        simp only [Option.bind_some]
        rw [added_eq (by omega) (by omega) g1.2.2.2.1 g2.2.2.2.1]
        simp only [Option.bind_some]
        unfold impl_GoodProfile.f
        simp only [Option.bind_some]
        by_cases h4 : M.goodP (sums a c) (sums b d) = true
        · rw [if_pos h4, if_pos ⟨h1, h2, h3, h4⟩]
        · rw [if_neg h4, if_neg (fun hh => h4 hh.2.2.2)]
      · have e : ((a.length : Int) != (c.length : Int)) = true := by simp; omega
        rw [e, if_neg (fun hh => h3 hh.2.2.1)]; rfl
    · rw [if_neg h2, if_neg (fun hh => h2 hh.2.1)]; rfl
  · rw [if_neg h1, if_neg (fun hh => h1 hh.1)]; rfl
theorem spec_run (a b c d : List Int) (h12 : a.length ≤ 12) (hb : b.length = a.length) (hc : c.length = a.length) (hd : d.length = a.length) (ha : M.inAll a 0 10000000 = true) (hbb : M.inAll b 0 10000000 = true) (hcc : M.inAll c 0 10000000 = true) (hdd : M.inAll d 0 10000000 = true) :
    ∀ (s t u v p1 p2 p3 p4 q1 q2 : List Int), a = p1 ++ s → b = p2 ++ t → c = p3 ++ u → d = p4 ++ v → p2.length = p1.length → p3.length = p1.length → p4.length = p1.length → q1.length = p1.length → q2.length = p1.length →
      spec_AddProfiles.l0 (s.length + 1) (a.length : Int) ((p1.length : Nat) : Int) a b c d q1 q2 = (if M.goodP (q1 ++ sums s u) (q2 ++ sums t v) = true then some (q1 ++ sums s u, q2 ++ sums t v, true) else some ([], [], false))
  | [], t, u, v, p1, p2, p3, p4, q1, q2, e1, e2, e3, e4, l2, l3, l4, _, _ => by
    have n1 : a.length = p1.length := by rw [e1]; simp
    obtain rfl : t = [] := by have : b.length = p2.length + t.length := by rw [e2, List.length_append]
                              exact List.length_eq_zero_iff.1 (by omega)
    obtain rfl : u = [] := by have : c.length = p3.length + u.length := by rw [e3, List.length_append]
                              exact List.length_eq_zero_iff.1 (by omega)
    have n2 : ¬ ((p1.length : Nat) : Int) < (a.length : Int) := by omega
    unfold spec_AddProfiles.l0
    rw [if_neg n2]
    unfold spec_GoodProfile.f
    simp only [Option.bind_some, sums, List.zipWith_nil_left, List.append_nil]
  | x :: s, t, u, v, p1, p2, p3, p4, q1, q2, e1, e2, e3, e4, l2, l3, l4, m1, m2 => by
    have n1 : a.length = p1.length + (s.length + 1) := by rw [e1, List.length_append, List.length_cons]
    have n2 : b.length = p2.length + t.length := by rw [e2, List.length_append]
    have n3 : c.length = p3.length + u.length := by rw [e3, List.length_append]
    have n4 : d.length = p4.length + v.length := by rw [e4, List.length_append]
    obtain ⟨y, t, rfl⟩ : ∃ y t', t = y :: t' := List.exists_cons_of_length_pos (by omega)
    obtain ⟨z, u, rfl⟩ : ∃ y t', u = y :: t' := List.exists_cons_of_length_pos (by omega)
    obtain ⟨r, v, rfl⟩ : ∃ y t', v = y :: t' := List.exists_cons_of_length_pos (by omega)
    have i1 := M.inAll_iff.1 ha x (by rw [e1]; simp)
    have i2 := M.inAll_iff.1 hbb y (by rw [e2]; simp)
    have i3 := M.inAll_iff.1 hcc z (by rw [e3]; simp)
    have i4 := M.inAll_iff.1 hdd r (by rw [e4]; simp)
    have r1 : rd a ((p1.length : Nat) : Int) = x := by rw [e1]; exact rd_at p1 x s
    have r2 : rd b ((p1.length : Nat) : Int) = y := by rw [e2, ← l2]; exact rd_at p2 y t
    have r3 : rd c ((p1.length : Nat) : Int) = z := by rw [e3, ← l3]; exact rd_at p3 z u
    have r4 : rd d ((p1.length : Nat) : Int) = r := by rw [e4, ← l4]; exact rd_at p4 r v
    show spec_AddProfiles.l0 ((s.length + 1) + 1) _ _ _ _ _ _ _ _ = _
    unfold spec_AddProfiles.l0
    rw [if_pos (by omega), if_pos (by omega), if_pos (by omega), if_pos (by omega), if_pos (by omega), if_pos (by omega), if_pos (by omega), if_pos (by omega), r1, r2, r3, r4,
      M.wrap_id (x := x + z) (by omega) (by omega), M.wrap_id (x := y + r) (by omega) (by omega), M.wrap_succ (by omega)]
    have := spec_run a b c d h12 hb hc hd ha hbb hcc hdd s t u v (p1 ++ [x]) (p2 ++ [y]) (p3 ++ [z]) (p4 ++ [r]) (q1 ++ [x + z]) (q2 ++ [y + r]) (by rw [e1]; simp) (by rw [e2]; simp) (by rw [e3]; simp) (by rw [e4]; simp) (by simp [l2]) (by simp [l3]) (by simp [l4]) (by simp [m1]) (by simp [m2])
    rw [List.length_append, List.length_singleton] at this
    rw [this]
    simp only [sums, List.zipWith_cons_cons, List.append_assoc, List.singleton_append]
    rfl
theorem specP (a b c d : List Int) : spec_AddProfiles.f 14 a b c d = some (sumP a b c d) := by
  unfold spec_AddProfiles.f sumP spec_GoodProfile.f
  simp only [Option.bind_some]
  by_cases h1 : M.goodP a b = true
  · rw [if_pos h1]
    by_cases h2 : M.goodP c d = true
    · rw [if_pos h2]
      by_cases h3 : a.length = c.length
      · have e : ((a.length : Int) != (c.length : Int)) = false := by rw [h3]; simp
        have g1 := M.goodP_iff.1 h1
        have g2 := M.goodP_iff.1 h2
        rw [e]
        rw [spec_j0]
        have h := spec_run a b c d (by omega) (by omega) (by omega) (by omega) (M.inAll_mono g1.2.2.1 (by omega) (by omega)) g1.2.2.2.1 (M.inAll_mono g2.2.2.1 (by omega) (by omega)) g2.2.2.2.1 a b c d [] [] [] [] [] [] rfl rfl rfl rfl rfl rfl rfl rfl rfl
        have h' := h
        simp only [List.nil_append, List.length_nil] at h'
        have hk : spec_AddProfiles.l0 13 (a.length : Int) 0 a b c d [] [] = (if M.goodP (sums a c) (sums b d) = true then some (sums a c, sums b d, true) else some ([], [], false)) := by
          by_cases h4 : M.goodP (sums a c) (sums b d) = true
          · rw [if_pos h4] at h' ⊢
            exact at_rounds (g := fun k => spec_AddProfiles.l0 k (a.length : Int) 0 a b c d [] []) (fun k => (spec_AddProfiles.mono_l k).2 _ _ _ _ _ _ _ _) (by omega) h'
          · rw [if_neg h4] at h' ⊢
            exact at_rounds (g := fun k => spec_AddProfiles.l0 k (a.length : Int) 0 a b c d [] []) (fun k => (spec_AddProfiles.mono_l k).2 _ _ _ _ _ _ _ _) (by omega) h'
        rw [hk]
        by_cases h4 : M.goodP (sums a c) (sums b d) = true
        · rw [if_pos h4, if_pos ⟨h1, h2, h3, h4⟩]
        · rw [if_neg h4, if_neg (fun hh => h4 hh.2.2.2)]
      · have e : ((a.length : Int) != (c.length : Int)) = true := by simp; omega
        rw [e, if_neg (fun hh => h3 hh.2.2.1)]; rfl
    · rw [if_neg h2, if_neg (fun hh => h2 hh.2.1)]; rfl
  · rw [if_neg h1, if_neg (fun hh => h1 hh.1)]; rfl
theorem sumP_len (a b c d : List Int) : (sumP a b c d).1.length ≤ 12 ∧ (sumP a b c d).2.1.length ≤ 12 := by
  unfold sumP
  split
  · rename_i h
    have g := M.goodP_iff.1 h.2.2.2
    constructor
    · show (sums a c).length ≤ 12; omega
    · show (sums b d).length ≤ 12; omega
  · simp

open V
section
variable {w0 w : World} {L : List Ob} {A0 A1 A2 A3 : Option Addr} {c0 c1 c2 c3 : Nat} {p q s t : List Int}
theorem sz_live (HL : Live w0 w L) (g0 : Rd w0 A0 c0 p) (g1 : Rd w0 A1 c1 q) {a r : Int} (hf : laws_szProfile.f p q a = some r) :
    Calls Try.prog 7 #[.agg #[.slice A0 p.length c0, .slice A1 q.length c1], .int .i64 a] w fun e w' => e = .returned (.int .i64 r) ∧ Live w0 w' L :=
  (laws_szProfile.calls _ _ p _ _ q a r _ (HL.rd0 g0).2 g0.1 (HL.rd0 g1).2 g1.1 hf).mono fun e w' ⟨he, hb⟩ => ⟨he, HL.later hb⟩
theorem toP_live (HL : Live w0 w L) (g0 : Rd w0 A0 c0 p) (g1 : Rd w0 A1 c1 q) (l0 : p.length ≤ 1048576) (l1 : q.length ≤ 1048576) :
    Calls Try.prog 9 #[.agg #[.slice A0 p.length c0, .slice A1 q.length c1]] w fun e w' => ∃ B0 d0 B1 d1, e = .returned (.agg #[.slice B0 p.length d0, .slice B1 q.length d1]) ∧
      Live w0 w' (row w0.heap.size (.slice B0 p.length d0) p :: row w0.heap.size (.slice B1 q.length d1) q :: L) := by
  have h0 := HL.rd0 g0
  have h1 := HL.rd0 g1
  refine (laws_toProfile.calls _ _ p _ _ q p q _ h0.2 h0.1 h1.2 h1.1 (by unfold laws_toProfile.f; rw [laws_toIntS.eq _ l0, laws_toIntS.eq _ l1]; rfl)).mono ?_
  rintro e w' ⟨v0, v1, rfl, g0, g1, hb⟩
  obtain ⟨B0, d0, rfl⟩ := Kd.R_slice g0
  obtain ⟨B1, d1, rfl⟩ := Kd.R_slice g1
  exact ⟨B0, d0, B1, d1, rfl, HL.row2 hb g0 g1⟩
theorem spec_live (HL : Live w0 w L) (h0 : Rd w A0 c0 p) (h1 : Rd w A1 c1 q) (h2 : Rd w A2 c2 s) (h3 : Rd w A3 c3 t) {x y : List Int} {b : Bool} (hf : sumP p q s t = (x, y, b)) :
    Calls Try.prog 8 #[.agg #[.slice A0 p.length c0, .slice A1 q.length c1], .agg #[.slice A2 s.length c2, .slice A3 t.length c3]] w fun e w' => ∃ B0 d0 B1 d1, e = .returned (.tuple #[.agg #[.slice B0 x.length d0, .slice B1 y.length d1], .bool b]) ∧
      Live w0 w' (row w0.heap.size (.slice B0 x.length d0) x :: row w0.heap.size (.slice B1 y.length d1) y :: L) := by
  refine (spec_AddProfiles.calls 14 _ _ p _ _ q _ _ s _ _ t x y b _ h0.2 h0.1 h1.2 h1.1 h2.2 h2.1 h3.2 h3.1 (by rw [specP, hf])).mono ?_
  rintro e w' ⟨v0, v1, rfl, g0, g1, hb⟩
  obtain ⟨B0, d0, rfl⟩ := Kd.R_slice g0
  obtain ⟨B1, d1, rfl⟩ := Kd.R_slice g1
  exact ⟨B0, d0, B1, d1, rfl, HL.row2 hb g0 g1⟩
theorem impl_live (HL : Live w0 w L) (h0 : Rd w A0 c0 p) (h1 : Rd w A1 c1 q) (h2 : Rd w A2 c2 s) (h3 : Rd w A3 c3 t) {x y : List Int} {b : Bool} (hf : sumP p q s t = (x, y, b)) :
    Calls Try.prog 10 #[.agg #[.slice A0 p.length c0, .slice A1 q.length c1], .agg #[.slice A2 s.length c2, .slice A3 t.length c3]] w fun e w' => ∃ B0 d0 B1 d1, e = .returned (.tuple #[.agg #[.slice B0 x.length d0, .slice B1 y.length d1], .bool b]) ∧
      Live w0 w' (row w0.heap.size (.slice B0 x.length d0) x :: row w0.heap.size (.slice B1 y.length d1) y :: L) := by
  refine (impl_AddProfiles.calls 14 _ _ p _ _ q _ _ s _ _ t x y b _ h0.2 h0.1 h1.2 h1.1 h2.2 h2.1 h3.2 h3.1 (by rw [implP, hf])).mono ?_
  rintro e w' ⟨v0, v1, rfl, g0, g1, hb⟩
  obtain ⟨B0, d0, rfl⟩ := Kd.R_slice g0
  obtain ⟨B1, d1, rfl⟩ := Kd.R_slice g1
  exact ⟨B0, d0, B1, d1, rfl, HL.row2 hb g0 g1⟩
theorem eq_live (HL : Live w0 w L) (h0 : Rd w A0 c0 p) (h1 : Rd w A1 c1 q) (h2 : Rd w A2 c2 p) (h3 : Rd w A3 c3 q) (l0 : p.length ≤ 1048576) (l1 : q.length ≤ 1048576) :
    Calls Try.prog 11 #[.agg #[.slice A0 p.length c0, .slice A1 q.length c1], .agg #[.slice A2 p.length c2, .slice A3 q.length c3]] w fun e w' => e = .returned (.bool true) ∧ Live w0 w' L :=
  (laws_eqProfile.calls _ _ p _ _ q _ _ p _ _ q true _ h0.2 h0.1 h1.2 h1.1 h2.2 h2.1 h3.2 h3.1 (by unfold laws_eqProfile.f; rw [laws_eqIntS.self _ l0, laws_eqIntS.self _ l1]; rfl)).mono fun e w' ⟨he, hb⟩ => ⟨he, HL.later hb⟩
theorem mark_live {u v : Value} (HL : Live w0 w (row w0.heap.size u p :: row w0.heap.size v q :: L)) (l0 : p.length ≤ 1048576) (l1 : q.length ≤ 1048576) {a z : Int} (ha : 0 ≤ a ∧ a ≤ 2097152 ∧ a + p.length ≤ 2097152) (hz : a + p.length + q.length = z) :
    Calls Try.prog 12 #[.agg #[u, v], .int .i64 a] w fun e w' => e = .returned (.int .i64 z) ∧
      Live w0 w' (row w0.heap.size u (M.upFrom a p.length) :: row w0.heap.size v (M.upFrom (a + p.length) q.length) :: L) := by
  subst hz
  have hap : ∀ k, some k = u.ownBlock → ¬ some k = v.ownBlock := (List.pairwise_cons.1 HL.apart).1 _ (List.mem_cons_self ..)
  refine (laws_markProfile.calls (fun k => some k = u.ownBlock) u p (fun k => some k = v.ownBlock) v q a _ _ _ w0 _ HL.below (HL.get 0 rfl) hap (HL.get 1 rfl) (fun k h1 h2 => hap k h2 h1)
    (show laws_markProfile.f p q a = some (a + p.length + q.length, M.upFrom a p.length, M.upFrom (a + p.length) q.length) by
      unfold laws_markProfile.f laws_markIntS.f
      rw [if_pos ⟨l0, ha.1, by omega⟩]; simp only [Option.bind_some]
      rw [if_pos ⟨l1, by omega, by omega⟩]; rfl)).mono ?_
  rintro e w' ⟨rfl, g0, g1, hb, hk⟩
  exact ⟨rfl, HL.wrote2 hb hk (fun _ h => h) (fun _ h => h) (fun W hW => Kd.R_step (Kd.R_tight rfl g0) (fun k hk _ => hW k hk)) (fun W hW => Kd.R_step (Kd.R_tight rfl g1) (fun k hk _ => hW k hk))⟩
theorem held_live (HL : Live w0 w L) {m n : Nat} (l0 : m ≤ 1048576) (l1 : n ≤ 1048576) (h0 : Rd w A0 c0 (M.upFrom 1 m)) (h1 : Rd w A1 c1 (M.upFrom (1 + m) n)) {z : Int} (hz : 1 + m + n = z) :
    Calls Try.prog 13 #[.agg #[.slice A0 m c0, .slice A1 n c1], .int .i64 1] w fun e w' => e = .returned (.int .i64 z) ∧ Live w0 w' L := by
  subst hz
  have h := laws_heldProfile.calls _ _ (M.upFrom 1 m) _ _ (M.upFrom (1 + m) n) 1 (1 + m + n) _ h0.2 h0.1 h1.2 h1.1 (by
    unfold laws_heldProfile.f laws_heldIntS.f
    rw [M.upFrom_length, M.upFrom_length, if_pos ⟨l0, by omega, by omega⟩]; simp only [Option.bind_some, if_true]
    rw [if_neg (by omega), if_pos ⟨l1, by omega, by omega⟩]; simp only [Option.bind_some, if_true]
    rw [if_neg (by omega)])
  rw [M.upFrom_length, M.upFrom_length] at h
  exact h.mono fun e w' ⟨he, hb⟩ => ⟨he, HL.later hb⟩
theorem sz_eq (p q : List Int) {a : Int} (h0 : 0 ≤ a) (h1 : a ≤ 1048576) (hp : p.length ≤ 9223372036854775807) (hq : q.length ≤ 9223372036854775807) : ∃ r, laws_szProfile.f p q a = some r ∧ (r < 0 ∨ (0 ≤ r ∧ r = a - p.length - q.length)) := by
  unfold laws_szProfile.f laws_szIntS.f
  rw [M.wrap_id (x := a - (p.length : Int)) (by omega) (by omega)]
  by_cases c : a - (p.length : Int) < 0
  · rw [if_pos c]; exact ⟨-1, by simp, Or.inl (by omega)⟩
  · rw [if_neg c]
    simp only [Option.bind_some]
    rw [if_neg c, M.wrap_id (x := a - (p.length : Int) - (q.length : Int)) (by omega) (by omega)]
    by_cases d : a - (p.length : Int) - (q.length : Int) < 0
    · rw [if_pos d]; exact ⟨-1, by simp, Or.inl (by omega)⟩
    · rw [if_neg d]
      simp only [Option.bind_some, if_neg d]
      exact ⟨_, rfl, Or.inr ⟨by omega, rfl⟩⟩
end

def laws_FnExactAddProfiles.T8 : Bool × List (List Nat × List Nat) := (true, [([], []), ([0], [0]), ([], []), ([2, 1], [2]), ([1, 3, 3], [1, 3]), ([4], [4]), ([5], [5]), ([5], [5]), ([], []), ([8, 6, 4, 0, 1, 2, 3, 4, 5, 6, 8], [6, 8]), ([7, 9, 0, 1, 2, 3, 4, 5, 6, 7, 8, 9], [7])])
def laws_FnExactAddProfiles.B8 : List Nat := [0, 1, 0, 7, 15, 31, 63, 63, 0, 383, 1023]
theorem laws_FnExactAddProfiles.tab8 : rtab .any (opsOf Try.f3 8) = laws_FnExactAddProfiles.T8 := by kernel_rfl
theorem laws_FnExactAddProfiles.bits8 : waitsOk laws_FnExactAddProfiles.T8.2 laws_FnExactAddProfiles.B8 = true := by kernel_rfl
def laws_FnExactAddProfiles.T31 : Bool × List (List Nat × List Nat) := (true, [([], []), ([0], [0]), ([], []), ([2, 1], [2]), ([1, 3, 3], [1, 3]), ([4], [4]), ([5], [5]), ([5], [5]), ([], []), ([8, 6, 4, 0, 1, 2, 3, 4, 5, 6, 8], [6, 8]), ([7, 9, 0, 1, 2, 3, 4, 5, 6, 7, 8, 9], [7])])
def laws_FnExactAddProfiles.B31 : List Nat := [0, 1, 0, 7, 15, 31, 63, 63, 0, 383, 1023]
theorem laws_FnExactAddProfiles.tab31 : rtab .any (opsOf Try.f3 31) = laws_FnExactAddProfiles.T31 := by kernel_rfl
theorem laws_FnExactAddProfiles.bits31 : waitsOk laws_FnExactAddProfiles.T31.2 laws_FnExactAddProfiles.B31 = true := by kernel_rfl

def laws_FnExactAddProfiles.f (l0_0 l0_1 l1_0 l1_1 : List Int) : Option Bool := some true
open V
set_option maxHeartbeats 8000000 in
set_option maxRecDepth 100000 in
theorem laws_FnExactAddProfiles.calls (A0_0 : Option Addr) (c0_0 : Nat) (l0_0 : List Int) (A0_1 : Option Addr) (c0_1 : Nat) (l0_1 : List Int) (A1_0 : Option Addr) (c1_0 : Nat) (l1_0 : List Int) (A1_1 : Option Addr) (c1_1 : Nat) (l1_1 : List Int) (r : Bool) (w : World) (hr0_0 : Kd.C (Kd.int .i64) w A0_0 l0_0.length l0_0) (hc0_0 : l0_0.length ≤ c0_0) (hr0_1 : Kd.C (Kd.int .i64) w A0_1 l0_1.length l0_1) (hc0_1 : l0_1.length ≤ c0_1) (hr1_0 : Kd.C (Kd.int .i64) w A1_0 l1_0.length l1_0) (hc1_0 : l1_0.length ≤ c1_0) (hr1_1 : Kd.C (Kd.int .i64) w A1_1 l1_1.length l1_1) (hc1_1 : l1_1.length ≤ c1_1) (h : laws_FnExactAddProfiles.f l0_0 l0_1 l1_0 l1_1 = some r) :
    Calls Try.prog 3 #[.agg #[.slice A0_0 l0_0.length c0_0, .slice A0_1 l0_1.length c0_1], .agg #[.slice A1_0 l1_0.length c1_0, .slice A1_1 l1_1.length c1_1]] w fun e w' => e = .returned (.bool r) ∧ Below w.heap.size w w' := by
  obtain rfl := Option.some.inj h
  clear h
  have hu24 := Try.underlying24
  have hu26 := Try.underlying26
  have R0 : Aside0 (Rd w A0_0 c0_0 l0_0) := ⟨⟨hc0_0, hr0_0⟩⟩
  have R1 : Aside0 (Rd w A0_1 c0_1 l0_1) := ⟨⟨hc0_1, hr0_1⟩⟩
  have R2 : Aside0 (Rd w A1_0 c1_0 l1_0) := ⟨⟨hc1_0, hr1_0⟩⟩
  have R3 : Aside0 (Rd w A1_1 c1_1 l1_1) := ⟨⟨hc1_1, hr1_1⟩⟩
  have HL0 := Aside0.mk (Live.start w)
  obtain ⟨r1, hs1, hr1⟩ := sz_eq l0_0 l0_1 (a := 1048576) (by omega) (by omega) hr0_0.2.1 hr0_1.2.1
  have S1 := Aside0.mk hs1
  clear hs1
  have H1_0 := Aside0.mk hr1_0.2.1
  have H1_1 := Aside0.mk hr1_1.2.1
  clear hr0_0 hr0_1 hr1_0 hr1_1 hc0_0 hc0_1 hc1_0 hc1_1
  by_cases d1 : r1 < 0
  · have d1b : decide (r1 < 0) = true := decide_eq_true d1
    clear d1 hr1
    go_enter Try.func3, Try.ntmps3
    go_wp2_with (first | ((with_reducible refine gate_dst (N := 2) rfl ?_); refine box_event ?hg (N := 2) ?hd (cs := #[.slice A0_0 l0_0.length c0_0, .slice A0_1 l0_1.length c0_1]) (t := 24) ?hr ?_; (case hd => rfl); (case hg => rfl); (case hr => first | (go_simp; done) | (go_simp; rfl)); intro g1 hg w1 hbox hb; have HL1 := Aside0.mk (HL0.out.box hb hg hbox); clear hb hbox hg HL0) | ((with_reducible refine gate_dst (N := 3) rfl ?_); refine box_event ?hg (N := 3) ?hd (cs := #[.slice A1_0 l1_0.length c1_0, .slice A1_1 l1_1.length c1_1]) (t := 24) ?hr ?_; (case hd => rfl); (case hg => rfl); (case hr => first | (go_simp; done) | (go_simp; rfl)); intro g2 hg w2 hbox hb; have HL2 := Aside0.mk (HL1.out.box hb hg hbox); clear hb hbox hg HL1; have hc_g1_0 : w2.cell? ⟨g1, 0, none⟩ = some (.slice A0_0 l0_0.length c0_0) := HL2.out.cell 1 rfl 0 rfl; have hc_g1_1 : w2.cell? ⟨g1, 1, none⟩ = some (.slice A0_1 l0_1.length c0_1) := HL2.out.cell 1 rfl 1 rfl) | ((with_reducible refine gate_callee (f := 7) rfl ?_); refine goesL_ (some 19) rfl rfl Try.func7 (by kernel_rfl) rfl #[.agg #[.slice A0_0 l0_0.length c0_0, .slice A0_1 l0_1.length c0_1], .int .i64 1048576] rfl (by (try simp only [List.map_toArray, List.map_cons, List.map_nil]); first | done | rfl) ?_; (with_reducible refine (sz_live HL2.out R0.out R1.out S1.out).mono ?_); rintro e w3 ⟨rfl, HLn⟩; refine ⟨_, rfl, ?_⟩; have HL3 := Aside0.mk HLn; clear HLn HL2))
    go_ret
    exact ⟨rfl, HL3.out.below⟩
  · have d1b : decide (r1 < 0) = false := decide_eq_false d1
    obtain ⟨r2, hs2, hr2⟩ := sz_eq l1_0 l1_1 (a := r1) (by omega) (by omega) H1_0.out H1_1.out
    have S2 := Aside0.mk hs2
    clear hs2
    by_cases d2 : r2 < 0
    · have d2b : decide (r2 < 0) = true := decide_eq_true d2
      clear d1 d2 hr1 hr2
      go_enter Try.func3, Try.ntmps3
      go_wp2_with (first | ((with_reducible refine gate_dst (N := 2) rfl ?_); refine box_event ?hg (N := 2) ?hd (cs := #[.slice A0_0 l0_0.length c0_0, .slice A0_1 l0_1.length c0_1]) (t := 24) ?hr ?_; (case hd => rfl); (case hg => rfl); (case hr => first | (go_simp; done) | (go_simp; rfl)); intro g1 hg w1 hbox hb; have HL1 := Aside0.mk (HL0.out.box hb hg hbox); clear hb hbox hg HL0) | ((with_reducible refine gate_dst (N := 3) rfl ?_); refine box_event ?hg (N := 3) ?hd (cs := #[.slice A1_0 l1_0.length c1_0, .slice A1_1 l1_1.length c1_1]) (t := 24) ?hr ?_; (case hd => rfl); (case hg => rfl); (case hr => first | (go_simp; done) | (go_simp; rfl)); intro g2 hg w2 hbox hb; have HL2 := Aside0.mk (HL1.out.box hb hg hbox); clear hb hbox hg HL1; have hc_g1_0 : w2.cell? ⟨g1, 0, none⟩ = some (.slice A0_0 l0_0.length c0_0) := HL2.out.cell 1 rfl 0 rfl; have hc_g1_1 : w2.cell? ⟨g1, 1, none⟩ = some (.slice A0_1 l0_1.length c0_1) := HL2.out.cell 1 rfl 1 rfl) | ((with_reducible refine gate_callee (f := 7) rfl ?_); refine goesL_ (some 19) rfl rfl Try.func7 (by kernel_rfl) rfl #[.agg #[.slice A0_0 l0_0.length c0_0, .slice A0_1 l0_1.length c0_1], .int .i64 1048576] rfl (by (try simp only [List.map_toArray, List.map_cons, List.map_nil]); first | done | rfl) ?_; (with_reducible refine (sz_live HL2.out R0.out R1.out S1.out).mono ?_); rintro e w3 ⟨rfl, HLn⟩; refine ⟨_, rfl, ?_⟩; have HL3 := Aside0.mk HLn; clear HLn HL2; have hc_g2_0 : w3.cell? ⟨g2, 0, none⟩ = some (.slice A1_0 l1_0.length c1_0) := HL3.out.cell 0 rfl 0 rfl; have hc_g2_1 : w3.cell? ⟨g2, 1, none⟩ = some (.slice A1_1 l1_1.length c1_1) := HL3.out.cell 0 rfl 1 rfl) | ((with_reducible refine gate_callee (f := 7) rfl ?_); refine goesL_ (some 24) rfl rfl Try.func7 (by kernel_rfl) rfl #[.agg #[.slice A1_0 l1_0.length c1_0, .slice A1_1 l1_1.length c1_1], .int .i64 r1] rfl (by (try simp only [List.map_toArray, List.map_cons, List.map_nil]); first | done | rfl) ?_; (with_reducible refine (sz_live HL3.out R2.out R3.out S2.out).mono ?_); rintro e w4 ⟨rfl, HLn⟩; refine ⟨_, rfl, ?_⟩; have HL4 := Aside0.mk HLn; clear HLn HL3))
      go_ret
      exact ⟨rfl, HL4.out.below⟩
    · have d2b : decide (r2 < 0) = false := decide_eq_false d2
      have K0 : Aside0 (l0_0.length ≤ 1048576) := ⟨by omega⟩
      have K1 : Aside0 (l0_1.length ≤ 1048576) := ⟨by omega⟩
      have K2 : Aside0 (l1_0.length ≤ 1048576) := ⟨by omega⟩
      have K3 : Aside0 (l1_1.length ≤ 1048576) := ⟨by omega⟩
      have KT : Aside0 (l0_0.length + l0_1.length + l1_0.length + l1_1.length ≤ 1048576) := ⟨by omega⟩
      obtain ⟨x, y, bo, hsum⟩ : ∃ x y b, sumP l0_0 l0_1 l1_0 l1_1 = (x, y, b) := ⟨_, _, _, rfl⟩
      have KL : Aside0 (x.length ≤ 12 ∧ y.length ≤ 12) := ⟨by have := sumP_len l0_0 l0_1 l1_0 l1_1; rw [hsum] at this; exact this⟩
      have SU := Aside0.mk hsum
      clear d1 d2 hr1 hr2 hsum
      go_enter Try.func3, Try.ntmps3
      go_wp2_with (first | ((with_reducible refine gate_dst (N := 2) rfl ?_); refine box_event ?hg (N := 2) ?hd (cs := #[.slice A0_0 l0_0.length c0_0, .slice A0_1 l0_1.length c0_1]) (t := 24) ?hr ?_; (case hd => rfl); (case hg => rfl); (case hr => first | (go_simp; done) | (go_simp; rfl)); intro g1 hg w1 hbox hb; have HL1 := Aside0.mk (HL0.out.box hb hg hbox); clear hb hbox hg HL0) | ((with_reducible refine gate_dst (N := 3) rfl ?_); refine box_event ?hg (N := 3) ?hd (cs := #[.slice A1_0 l1_0.length c1_0, .slice A1_1 l1_1.length c1_1]) (t := 24) ?hr ?_; (case hd => rfl); (case hg => rfl); (case hr => first | (go_simp; done) | (go_simp; rfl)); intro g2 hg w2 hbox hb; have HL2 := Aside0.mk (HL1.out.box hb hg hbox); clear hb hbox hg HL1; have hc_g1_0 : w2.cell? ⟨g1, 0, none⟩ = some (.slice A0_0 l0_0.length c0_0) := HL2.out.cell 1 rfl 0 rfl; have hc_g1_1 : w2.cell? ⟨g1, 1, none⟩ = some (.slice A0_1 l0_1.length c0_1) := HL2.out.cell 1 rfl 1 rfl) | ((with_reducible refine gate_callee (f := 7) rfl ?_); refine goesL_ (some 19) rfl rfl Try.func7 (by kernel_rfl) rfl #[.agg #[.slice A0_0 l0_0.length c0_0, .slice A0_1 l0_1.length c0_1], .int .i64 1048576] rfl (by (try simp only [List.map_toArray, List.map_cons, List.map_nil]); first | done | rfl) ?_; (with_reducible refine (sz_live HL2.out R0.out R1.out S1.out).mono ?_); rintro e w3 ⟨rfl, HLn⟩; refine ⟨_, rfl, ?_⟩; have HL3 := Aside0.mk HLn; clear HLn HL2; have hc_g2_0 : w3.cell? ⟨g2, 0, none⟩ = some (.slice A1_0 l1_0.length c1_0) := HL3.out.cell 0 rfl 0 rfl; have hc_g2_1 : w3.cell? ⟨g2, 1, none⟩ = some (.slice A1_1 l1_1.length c1_1) := HL3.out.cell 0 rfl 1 rfl) | ((with_reducible refine gate_callee (f := 7) rfl ?_); refine goesL_ (some 24) rfl rfl Try.func7 (by kernel_rfl) rfl #[.agg #[.slice A1_0 l1_0.length c1_0, .slice A1_1 l1_1.length c1_1], .int .i64 r1] rfl (by (try simp only [List.map_toArray, List.map_cons, List.map_nil]); first | done | rfl) ?_; (with_reducible refine (sz_live HL3.out R2.out R3.out S2.out).mono ?_); rintro e w4 ⟨rfl, HLn⟩; refine ⟨_, rfl, ?_⟩; have HL4 := Aside0.mk HLn; clear HLn HL3))
      clear hc_g1_0 hc_g1_1 hc_g2_0 hc_g2_1
      refine start_ (n := 11) (S := fun w' => w'.cell? ⟨g1, 0, none⟩ = some (.slice A0_0 l0_0.length c0_0) ∧ w'.cell? ⟨g1, 1, none⟩ = some (.slice A0_1 l0_1.length c0_1) ∧ w'.cell? ⟨g2, 0, none⟩ = some (.slice A1_0 l1_0.length c1_0) ∧ w'.cell? ⟨g2, 1, none⟩ = some (.slice A1_1 l1_1.length c1_1)) (ds := []) #[false, false, false, false, false, false, false, false, false, false, false] (by kernel_rfl) rfl rfl ⟨HL4.out.cell 1 rfl 0 rfl, HL4.out.cell 1 rfl 1 rfl, HL4.out.cell 0 rfl 0 rfl, HL4.out.cell 0 rfl 1 rfl⟩ (fun hHeld => ?_); refine with_tabW laws_FnExactAddProfiles.tab8 laws_FnExactAddProfiles.bits8 (fun HT_ HW_ => ?_)
      have HL2_ := Aside0.mk HL4.out.drew
      clear HL4
      generalize w4.drew = w1_ at HL2_ hHeld ⊢
      refine take_ (i := 0) (N := some 28) (v := ?_) (a' := ?_) #[true, false, false, false, false, false, false, false, false, false, false] rfl rfl (take_ofW HT_.out HW_.out (by kernel_rfl)) (fun _ _ _ h => h) (Or.inl ⟨by rfl, ?_⟩) hHeld ?_ ?_
      rotate_left
      · rintro w' ⟨s0, s1, s2, s3⟩
        go_simp
        with_reducible rfl
      rotate_left
      · simp only [Act.put, List.setIfInBounds_toArray, List.set_cons_zero, List.set_cons_succ, i64_w, i32_w]
        rfl
      refine take_ (i := 2) (N := some 30) (v := ?_) (a' := ?_) #[true, false, true, false, false, false, false, false, false, false, false] rfl rfl (take_ofW HT_.out HW_.out (by kernel_rfl)) (fun _ _ _ h => h) (Or.inl ⟨by rfl, ?_⟩) hHeld ?_ ?_
      rotate_left
      · rintro w' ⟨s0, s1, s2, s3⟩
        go_simp
        with_reducible rfl
      rotate_left
      · simp only [Act.put, List.setIfInBounds_toArray, List.set_cons_zero, List.set_cons_succ, i64_w, i32_w]
        rfl
      refine join_ (σ := Value × Value × Option Addr × Nat × Option Addr × Nat × Nat) 2 #[true, true, true, true, true, true, true, true, true, false, false] (fun s_ => [(29, s_.1), (31, s_.2.1), (32, .tuple #[.agg #[.slice s_.2.2.1 x.length s_.2.2.2.1, .slice s_.2.2.2.2.1 y.length s_.2.2.2.2.2.1], .bool bo]), (6, .pointer (some ⟨s_.2.2.2.2.2.2, 0, none⟩)), (27, .tuple #[.agg #[.slice s_.2.2.1 x.length s_.2.2.2.1, .slice s_.2.2.2.2.1 y.length s_.2.2.2.2.2.1], .bool bo]), (33, .agg #[.slice s_.2.2.1 x.length s_.2.2.2.1, .slice s_.2.2.2.2.1 y.length s_.2.2.2.2.2.1]), (34, .bool bo)]) (fun s_ w' => Live w w' [box s_.2.2.2.2.2.2 #[.slice none 0 0, .slice none 0 0] 26, row w.heap.size (.slice s_.2.2.1 x.length s_.2.2.2.1) x, row w.heap.size (.slice s_.2.2.2.2.1 y.length s_.2.2.2.2.2.1) y, box g2 #[.slice A1_0 l1_0.length c1_0, .slice A1_1 l1_1.length c1_1] 24, box g1 #[.slice A0_0 l0_0.length c0_0, .slice A0_1 l0_1.length c0_1] 24]) ?_ ?_
      rotate_left
      · intro hCont
        refine two_ (i := 1) (j := 8) (Ni := some 29) (Nj := some 6) #[true, true, true, false, false, false, false, false, false, false, false] #[true, false, true, false, false, false, false, false, true, false, false] rfl rfl rfl rfl (two_of HT_.out (by kernel_rfl)) (by decide) (by decide) (fun K hK => ?_) (fun K hK => ?_)
        · skip
          refine goes_ Try.func9 (by kernel_rfl) rfl #[.agg #[.slice A0_0 l0_0.length c0_0, .slice A0_1 l0_1.length c0_1]] (by rfl) rfl rfl (by (try simp only [List.map_toArray, List.map_cons, List.map_nil]); first | done | rfl) ?_
          with_reducible refine (toP_live HL2_.out R0.out R1.out K0.out K1.out).mono ?_
          rintro e w8_ ⟨B3_, c4_, B5_, c6_, rfl, HLn⟩
          refine ⟨_, rfl, ?_⟩
          have HL7_ := Aside0.mk HLn
          clear HLn HL2_
          clear hHeld
          refine hK.out _ _ ⟨HL7_.out.cell 3 rfl 0 rfl, HL7_.out.cell 3 rfl 1 rfl, HL7_.out.cell 2 rfl 0 rfl, HL7_.out.cell 2 rfl 1 rfl⟩ (fun hHeld => ?_)
          clear hK K
          refine norm_ (a' := ?_) ?_ ?_
          rotate_left
          · show Act.put _ (some 29) _ = _
            simp only [Act.put, List.setIfInBounds_toArray, List.set_cons_zero, List.set_cons_succ, i64_w, i32_w]
            rfl
          refine two_ (i := 3) (j := 8) (Ni := some 31) (Nj := some 6) #[true, true, true, true, false, false, false, false, false, false, false] #[true, true, true, false, false, false, false, false, true, false, false] rfl rfl rfl rfl (two_of HT_.out (by kernel_rfl)) (by decide) (by decide) (fun K hK => ?_) (fun K hK => ?_)
          · skip
            refine goes_ Try.func9 (by kernel_rfl) rfl #[.agg #[.slice A1_0 l1_0.length c1_0, .slice A1_1 l1_1.length c1_1]] (by rfl) rfl rfl (by (try simp only [List.map_toArray, List.map_cons, List.map_nil]); first | done | rfl) ?_
            with_reducible refine (toP_live HL7_.out R2.out R3.out K2.out K3.out).mono ?_
            rintro e w14_ ⟨B9_, c10_, B11_, c12_, rfl, HLn⟩
            refine ⟨_, rfl, ?_⟩
            have HL13_ := Aside0.mk HLn
            clear HLn HL7_
            clear hHeld
            refine hK.out _ _ ⟨HL13_.out.cell 5 rfl 0 rfl, HL13_.out.cell 5 rfl 1 rfl, HL13_.out.cell 4 rfl 0 rfl, HL13_.out.cell 4 rfl 1 rfl⟩ (fun hHeld => ?_)
            clear hK K
            refine norm_ (a' := ?_) ?_ ?_
            rotate_left
            · show Act.put _ (some 31) _ = _
              simp only [Act.put, List.setIfInBounds_toArray, List.set_cons_zero, List.set_cons_succ, i64_w, i32_w]
              rfl
            refine two_ (i := 4) (j := 8) (Ni := some 32) (Nj := some 6) #[true, true, true, true, true, false, false, false, false, false, false] #[true, true, true, true, false, false, false, false, true, false, false] rfl rfl rfl rfl (two_of HT_.out (by kernel_rfl)) (by decide) (by decide) (fun K hK => ?_) (fun K hK => ?_)
            · skip
              refine goes_ Try.func8 (by kernel_rfl) rfl #[.agg #[.slice B3_ l0_0.length c4_, .slice B5_ l0_1.length c6_], .agg #[.slice B9_ l1_0.length c10_, .slice B11_ l1_1.length c12_]] (by rfl) rfl rfl (by (try simp only [List.map_toArray, List.map_cons, List.map_nil]); first | done | rfl) ?_
              with_reducible refine (spec_live HL13_.out (HL13_.out.rd 2 rfl) (HL13_.out.rd 3 rfl) (HL13_.out.rd 0 rfl) (HL13_.out.rd 1 rfl) SU.out).mono ?_
              rintro e w20_ ⟨B15_, c16_, B17_, c18_, rfl, HLn⟩
              refine ⟨_, rfl, ?_⟩
              have HL19_ := Aside0.mk HLn
              clear HLn HL13_
              clear hHeld
              refine hK.out _ _ ⟨HL19_.out.cell 7 rfl 0 rfl, HL19_.out.cell 7 rfl 1 rfl, HL19_.out.cell 6 rfl 0 rfl, HL19_.out.cell 6 rfl 1 rfl⟩ (fun hHeld => ?_)
              clear hK K
              refine norm_ (a' := ?_) ?_ ?_
              rotate_left
              · show Act.put _ (some 32) _ = _
                simp only [Act.put, List.setIfInBounds_toArray, List.set_cons_zero, List.set_cons_succ, i64_w, i32_w]
                rfl
              refine pure_ (i := 5) (N := some 27) (v := ?_) (a' := ?_) #[true, true, true, true, true, true, false, false, false, false, false] rfl rfl (any_of HT_.out (by kernel_rfl)) (fun _ _ _ h => h) (Or.inl ⟨by rfl, ?_⟩) ?_ ?_
              rotate_left
              · intro w'
                go_simp
                with_reducible rfl
              rotate_left
              · simp only [Act.put, List.setIfInBounds_toArray, List.set_cons_zero, List.set_cons_succ, i64_w, i32_w]
                rfl
              refine pure_ (i := 6) (N := some 33) (v := ?_) (a' := ?_) #[true, true, true, true, true, true, true, false, false, false, false] rfl rfl (any_of HT_.out (by kernel_rfl)) (fun _ _ _ h => h) (Or.inl ⟨by rfl, ?_⟩) ?_ ?_
              rotate_left
              · intro w'
                go_simp
                with_reducible rfl
              rotate_left
              · simp only [Act.put, List.setIfInBounds_toArray, List.set_cons_zero, List.set_cons_succ, i64_w, i32_w]
                rfl
              refine pure_ (i := 7) (N := some 34) (v := ?_) (a' := ?_) #[true, true, true, true, true, true, true, true, false, false, false] rfl rfl (any_of HT_.out (by kernel_rfl)) (fun _ _ _ h => h) (Or.inl ⟨by rfl, ?_⟩) ?_ ?_
              rotate_left
              · intro w'
                go_simp
                with_reducible rfl
              rotate_left
              · simp only [Act.put, List.setIfInBounds_toArray, List.set_cons_zero, List.set_cons_succ, i64_w, i32_w]
                rfl
              refine one_ (i := 8) (N := some 6) #[true, true, true, true, true, true, true, true, true, false, false] rfl rfl (one_of HT_.out (by kernel_rfl)) (by decide) (fun K hK => ?_)
              refine box_step ?hg (N := 6) ?hd (cs := #[.slice none 0 0, .slice none 0 0]) (t := 26) ?hr ?_; (case hd => rfl); (case hg => rfl); (case hr => first | (go_simp; done) | (go_simp; rfl))
              intro g21_ hg w23_ hbox hb
              have HL22_ := Aside0.mk (HL19_.out.box hb hg hbox)
              clear hb hbox hg HL19_
              clear hHeld
              refine hK.out _ _ ⟨HL22_.out.cell 8 rfl 0 rfl, HL22_.out.cell 8 rfl 1 rfl, HL22_.out.cell 7 rfl 0 rfl, HL22_.out.cell 7 rfl 1 rfl⟩ (fun hHeld => ?_)
              clear hK K
              refine norm_ (a' := ?_) ?_ ?_
              rotate_left
              · show Act.put _ (some 6) _ = _
                simp only [Act.put, List.setIfInBounds_toArray, List.set_cons_zero, List.set_cons_succ, i64_w, i32_w]
                rfl
              exact norm_ (by simp only [putAll, Act.put, List.setIfInBounds_toArray, List.set_cons_zero, List.set_cons_succ]) (hCont (.agg #[.slice B3_ l0_0.length c4_, .slice B5_ l0_1.length c6_], .agg #[.slice B9_ l1_0.length c10_, .slice B11_ l1_1.length c12_], B15_, c16_, B17_, c18_, g21_) _ (HL22_.out.pick [0, 1, 2, 7, 8] (by decide) rfl))
            · skip
              refine box_step ?hg (N := 6) ?hd (cs := #[.slice none 0 0, .slice none 0 0]) (t := 26) ?hr ?_; (case hd => rfl); (case hg => rfl); (case hr => first | (go_simp; done) | (go_simp; rfl))
              intro g24_ hg w26_ hbox hb
              have HL25_ := Aside0.mk (HL13_.out.box hb hg hbox)
              clear hb hbox hg HL13_
              clear hHeld
              refine hK.out _ _ ⟨HL25_.out.cell 6 rfl 0 rfl, HL25_.out.cell 6 rfl 1 rfl, HL25_.out.cell 5 rfl 0 rfl, HL25_.out.cell 5 rfl 1 rfl⟩ (fun hHeld => ?_)
              clear hK K
              refine norm_ (a' := ?_) ?_ ?_
              rotate_left
              · show Act.put _ (some 6) _ = _
                simp only [Act.put, List.setIfInBounds_toArray, List.set_cons_zero, List.set_cons_succ, i64_w, i32_w]
                rfl
              refine one_ (i := 4) (N := some 32) #[true, true, true, true, true, false, false, false, true, false, false] rfl rfl (one_of HT_.out (by kernel_rfl)) (by decide) (fun K hK => ?_)
              refine goes_ Try.func8 (by kernel_rfl) rfl #[.agg #[.slice B3_ l0_0.length c4_, .slice B5_ l0_1.length c6_], .agg #[.slice B9_ l1_0.length c10_, .slice B11_ l1_1.length c12_]] (by rfl) rfl rfl (by (try simp only [List.map_toArray, List.map_cons, List.map_nil]); first | done | rfl) ?_
              with_reducible refine (spec_live HL25_.out (HL25_.out.rd 3 rfl) (HL25_.out.rd 4 rfl) (HL25_.out.rd 1 rfl) (HL25_.out.rd 2 rfl) SU.out).mono ?_
              rintro e w32_ ⟨B27_, c28_, B29_, c30_, rfl, HLn⟩
              refine ⟨_, rfl, ?_⟩
              have HL31_ := Aside0.mk HLn
              clear HLn HL25_
              clear hHeld
              refine hK.out _ _ ⟨HL31_.out.cell 8 rfl 0 rfl, HL31_.out.cell 8 rfl 1 rfl, HL31_.out.cell 7 rfl 0 rfl, HL31_.out.cell 7 rfl 1 rfl⟩ (fun hHeld => ?_)
              clear hK K
              refine norm_ (a' := ?_) ?_ ?_
              rotate_left
              · show Act.put _ (some 32) _ = _
                simp only [Act.put, List.setIfInBounds_toArray, List.set_cons_zero, List.set_cons_succ, i64_w, i32_w]
                rfl
              refine pure_ (i := 5) (N := some 27) (v := ?_) (a' := ?_) #[true, true, true, true, true, true, false, false, true, false, false] rfl rfl (any_of HT_.out (by kernel_rfl)) (fun _ _ _ h => h) (Or.inl ⟨by rfl, ?_⟩) ?_ ?_
              rotate_left
              · intro w'
                go_simp
                with_reducible rfl
              rotate_left
              · simp only [Act.put, List.setIfInBounds_toArray, List.set_cons_zero, List.set_cons_succ, i64_w, i32_w]
                rfl
              refine pure_ (i := 6) (N := some 33) (v := ?_) (a' := ?_) #[true, true, true, true, true, true, true, false, true, false, false] rfl rfl (any_of HT_.out (by kernel_rfl)) (fun _ _ _ h => h) (Or.inl ⟨by rfl, ?_⟩) ?_ ?_
              rotate_left
              · intro w'
                go_simp
                with_reducible rfl
              rotate_left
              · simp only [Act.put, List.setIfInBounds_toArray, List.set_cons_zero, List.set_cons_succ, i64_w, i32_w]
                rfl
              refine pure_ (i := 7) (N := some 34) (v := ?_) (a' := ?_) #[true, true, true, true, true, true, true, true, true, false, false] rfl rfl (any_of HT_.out (by kernel_rfl)) (fun _ _ _ h => h) (Or.inl ⟨by rfl, ?_⟩) ?_ ?_
              rotate_left
              · intro w'
                go_simp
                with_reducible rfl
              rotate_left
              · simp only [Act.put, List.setIfInBounds_toArray, List.set_cons_zero, List.set_cons_succ, i64_w, i32_w]
                rfl
              exact norm_ (by simp only [putAll, Act.put, List.setIfInBounds_toArray, List.set_cons_zero, List.set_cons_succ]) (hCont (.agg #[.slice B3_ l0_0.length c4_, .slice B5_ l0_1.length c6_], .agg #[.slice B9_ l1_0.length c10_, .slice B11_ l1_1.length c12_], B27_, c28_, B29_, c30_, g24_) _ (HL31_.out.pick [2, 0, 1, 7, 8] (by decide) rfl))
          · skip
            refine box_step ?hg (N := 6) ?hd (cs := #[.slice none 0 0, .slice none 0 0]) (t := 26) ?hr ?_; (case hd => rfl); (case hg => rfl); (case hr => first | (go_simp; done) | (go_simp; rfl))
            intro g33_ hg w35_ hbox hb
            have HL34_ := Aside0.mk (HL7_.out.box hb hg hbox)
            clear hb hbox hg HL7_
            clear hHeld
            refine hK.out _ _ ⟨HL34_.out.cell 4 rfl 0 rfl, HL34_.out.cell 4 rfl 1 rfl, HL34_.out.cell 3 rfl 0 rfl, HL34_.out.cell 3 rfl 1 rfl⟩ (fun hHeld => ?_)
            clear hK K
            refine norm_ (a' := ?_) ?_ ?_
            rotate_left
            · show Act.put _ (some 6) _ = _
              simp only [Act.put, List.setIfInBounds_toArray, List.set_cons_zero, List.set_cons_succ, i64_w, i32_w]
              rfl
            refine one_ (i := 3) (N := some 31) #[true, true, true, true, false, false, false, false, true, false, false] rfl rfl (one_of HT_.out (by kernel_rfl)) (by decide) (fun K hK => ?_)
            refine goes_ Try.func9 (by kernel_rfl) rfl #[.agg #[.slice A1_0 l1_0.length c1_0, .slice A1_1 l1_1.length c1_1]] (by rfl) rfl rfl (by (try simp only [List.map_toArray, List.map_cons, List.map_nil]); first | done | rfl) ?_
            with_reducible refine (toP_live HL34_.out R2.out R3.out K2.out K3.out).mono ?_
            rintro e w41_ ⟨B36_, c37_, B38_, c39_, rfl, HLn⟩
            refine ⟨_, rfl, ?_⟩
            have HL40_ := Aside0.mk HLn
            clear HLn HL34_
            clear hHeld
            refine hK.out _ _ ⟨HL40_.out.cell 6 rfl 0 rfl, HL40_.out.cell 6 rfl 1 rfl, HL40_.out.cell 5 rfl 0 rfl, HL40_.out.cell 5 rfl 1 rfl⟩ (fun hHeld => ?_)
            clear hK K
            refine norm_ (a' := ?_) ?_ ?_
            rotate_left
            · show Act.put _ (some 31) _ = _
              simp only [Act.put, List.setIfInBounds_toArray, List.set_cons_zero, List.set_cons_succ, i64_w, i32_w]
              rfl
            refine one_ (i := 4) (N := some 32) #[true, true, true, true, true, false, false, false, true, false, false] rfl rfl (one_of HT_.out (by kernel_rfl)) (by decide) (fun K hK => ?_)
            refine goes_ Try.func8 (by kernel_rfl) rfl #[.agg #[.slice B3_ l0_0.length c4_, .slice B5_ l0_1.length c6_], .agg #[.slice B36_ l1_0.length c37_, .slice B38_ l1_1.length c39_]] (by rfl) rfl rfl (by (try simp only [List.map_toArray, List.map_cons, List.map_nil]); first | done | rfl) ?_
            with_reducible refine (spec_live HL40_.out (HL40_.out.rd 3 rfl) (HL40_.out.rd 4 rfl) (HL40_.out.rd 0 rfl) (HL40_.out.rd 1 rfl) SU.out).mono ?_
            rintro e w47_ ⟨B42_, c43_, B44_, c45_, rfl, HLn⟩
            refine ⟨_, rfl, ?_⟩
            have HL46_ := Aside0.mk HLn
            clear HLn HL40_
            clear hHeld
            refine hK.out _ _ ⟨HL46_.out.cell 8 rfl 0 rfl, HL46_.out.cell 8 rfl 1 rfl, HL46_.out.cell 7 rfl 0 rfl, HL46_.out.cell 7 rfl 1 rfl⟩ (fun hHeld => ?_)
            clear hK K
            refine norm_ (a' := ?_) ?_ ?_
            rotate_left
            · show Act.put _ (some 32) _ = _
              simp only [Act.put, List.setIfInBounds_toArray, List.set_cons_zero, List.set_cons_succ, i64_w, i32_w]
              rfl
            refine pure_ (i := 5) (N := some 27) (v := ?_) (a' := ?_) #[true, true, true, true, true, true, false, false, true, false, false] rfl rfl (any_of HT_.out (by kernel_rfl)) (fun _ _ _ h => h) (Or.inl ⟨by rfl, ?_⟩) ?_ ?_
            rotate_left
            · intro w'
              go_simp
              with_reducible rfl
            rotate_left
            · simp only [Act.put, List.setIfInBounds_toArray, List.set_cons_zero, List.set_cons_succ, i64_w, i32_w]
              rfl
            refine pure_ (i := 6) (N := some 33) (v := ?_) (a' := ?_) #[true, true, true, true, true, true, true, false, true, false, false] rfl rfl (any_of HT_.out (by kernel_rfl)) (fun _ _ _ h => h) (Or.inl ⟨by rfl, ?_⟩) ?_ ?_
            rotate_left
            · intro w'
              go_simp
              with_reducible rfl
            rotate_left
            · simp only [Act.put, List.setIfInBounds_toArray, List.set_cons_zero, List.set_cons_succ, i64_w, i32_w]
              rfl
            refine pure_ (i := 7) (N := some 34) (v := ?_) (a' := ?_) #[true, true, true, true, true, true, true, true, true, false, false] rfl rfl (any_of HT_.out (by kernel_rfl)) (fun _ _ _ h => h) (Or.inl ⟨by rfl, ?_⟩) ?_ ?_
            rotate_left
            · intro w'
              go_simp
              with_reducible rfl
            rotate_left
            · simp only [Act.put, List.setIfInBounds_toArray, List.set_cons_zero, List.set_cons_succ, i64_w, i32_w]
              rfl
            exact norm_ (by simp only [putAll, Act.put, List.setIfInBounds_toArray, List.set_cons_zero, List.set_cons_succ]) (hCont (.agg #[.slice B3_ l0_0.length c4_, .slice B5_ l0_1.length c6_], .agg #[.slice B36_ l1_0.length c37_, .slice B38_ l1_1.length c39_], B42_, c43_, B44_, c45_, g33_) _ (HL46_.out.pick [4, 0, 1, 7, 8] (by decide) rfl))
        · skip
          refine box_step ?hg (N := 6) ?hd (cs := #[.slice none 0 0, .slice none 0 0]) (t := 26) ?hr ?_; (case hd => rfl); (case hg => rfl); (case hr => first | (go_simp; done) | (go_simp; rfl))
          intro g48_ hg w50_ hbox hb
          have HL49_ := Aside0.mk (HL2_.out.box hb hg hbox)
          clear hb hbox hg HL2_
          clear hHeld
          refine hK.out _ _ ⟨HL49_.out.cell 2 rfl 0 rfl, HL49_.out.cell 2 rfl 1 rfl, HL49_.out.cell 1 rfl 0 rfl, HL49_.out.cell 1 rfl 1 rfl⟩ (fun hHeld => ?_)
          clear hK K
          refine norm_ (a' := ?_) ?_ ?_
          rotate_left
          · show Act.put _ (some 6) _ = _
            simp only [Act.put, List.setIfInBounds_toArray, List.set_cons_zero, List.set_cons_succ, i64_w, i32_w]
            rfl
          refine one_ (i := 1) (N := some 29) #[true, true, true, false, false, false, false, false, true, false, false] rfl rfl (one_of HT_.out (by kernel_rfl)) (by decide) (fun K hK => ?_)
          refine goes_ Try.func9 (by kernel_rfl) rfl #[.agg #[.slice A0_0 l0_0.length c0_0, .slice A0_1 l0_1.length c0_1]] (by rfl) rfl rfl (by (try simp only [List.map_toArray, List.map_cons, List.map_nil]); first | done | rfl) ?_
          with_reducible refine (toP_live HL49_.out R0.out R1.out K0.out K1.out).mono ?_
          rintro e w56_ ⟨B51_, c52_, B53_, c54_, rfl, HLn⟩
          refine ⟨_, rfl, ?_⟩
          have HL55_ := Aside0.mk HLn
          clear HLn HL49_
          clear hHeld
          refine hK.out _ _ ⟨HL55_.out.cell 4 rfl 0 rfl, HL55_.out.cell 4 rfl 1 rfl, HL55_.out.cell 3 rfl 0 rfl, HL55_.out.cell 3 rfl 1 rfl⟩ (fun hHeld => ?_)
          clear hK K
          refine norm_ (a' := ?_) ?_ ?_
          rotate_left
          · show Act.put _ (some 29) _ = _
            simp only [Act.put, List.setIfInBounds_toArray, List.set_cons_zero, List.set_cons_succ, i64_w, i32_w]
            rfl
          refine one_ (i := 3) (N := some 31) #[true, true, true, true, false, false, false, false, true, false, false] rfl rfl (one_of HT_.out (by kernel_rfl)) (by decide) (fun K hK => ?_)
          refine goes_ Try.func9 (by kernel_rfl) rfl #[.agg #[.slice A1_0 l1_0.length c1_0, .slice A1_1 l1_1.length c1_1]] (by rfl) rfl rfl (by (try simp only [List.map_toArray, List.map_cons, List.map_nil]); first | done | rfl) ?_
          with_reducible refine (toP_live HL55_.out R2.out R3.out K2.out K3.out).mono ?_
          rintro e w62_ ⟨B57_, c58_, B59_, c60_, rfl, HLn⟩
          refine ⟨_, rfl, ?_⟩
          have HL61_ := Aside0.mk HLn
          clear HLn HL55_
          clear hHeld
          refine hK.out _ _ ⟨HL61_.out.cell 6 rfl 0 rfl, HL61_.out.cell 6 rfl 1 rfl, HL61_.out.cell 5 rfl 0 rfl, HL61_.out.cell 5 rfl 1 rfl⟩ (fun hHeld => ?_)
          clear hK K
          refine norm_ (a' := ?_) ?_ ?_
          rotate_left
          · show Act.put _ (some 31) _ = _
            simp only [Act.put, List.setIfInBounds_toArray, List.set_cons_zero, List.set_cons_succ, i64_w, i32_w]
            rfl
          refine one_ (i := 4) (N := some 32) #[true, true, true, true, true, false, false, false, true, false, false] rfl rfl (one_of HT_.out (by kernel_rfl)) (by decide) (fun K hK => ?_)
          refine goes_ Try.func8 (by kernel_rfl) rfl #[.agg #[.slice B51_ l0_0.length c52_, .slice B53_ l0_1.length c54_], .agg #[.slice B57_ l1_0.length c58_, .slice B59_ l1_1.length c60_]] (by rfl) rfl rfl (by (try simp only [List.map_toArray, List.map_cons, List.map_nil]); first | done | rfl) ?_
          with_reducible refine (spec_live HL61_.out (HL61_.out.rd 2 rfl) (HL61_.out.rd 3 rfl) (HL61_.out.rd 0 rfl) (HL61_.out.rd 1 rfl) SU.out).mono ?_
          rintro e w68_ ⟨B63_, c64_, B65_, c66_, rfl, HLn⟩
          refine ⟨_, rfl, ?_⟩
          have HL67_ := Aside0.mk HLn
          clear HLn HL61_
          clear hHeld
          refine hK.out _ _ ⟨HL67_.out.cell 8 rfl 0 rfl, HL67_.out.cell 8 rfl 1 rfl, HL67_.out.cell 7 rfl 0 rfl, HL67_.out.cell 7 rfl 1 rfl⟩ (fun hHeld => ?_)
          clear hK K
          refine norm_ (a' := ?_) ?_ ?_
          rotate_left
          · show Act.put _ (some 32) _ = _
            simp only [Act.put, List.setIfInBounds_toArray, List.set_cons_zero, List.set_cons_succ, i64_w, i32_w]
            rfl
          refine pure_ (i := 5) (N := some 27) (v := ?_) (a' := ?_) #[true, true, true, true, true, true, false, false, true, false, false] rfl rfl (any_of HT_.out (by kernel_rfl)) (fun _ _ _ h => h) (Or.inl ⟨by rfl, ?_⟩) ?_ ?_
          rotate_left
          · intro w'
            go_simp
            with_reducible rfl
          rotate_left
          · simp only [Act.put, List.setIfInBounds_toArray, List.set_cons_zero, List.set_cons_succ, i64_w, i32_w]
            rfl
          refine pure_ (i := 6) (N := some 33) (v := ?_) (a' := ?_) #[true, true, true, true, true, true, true, false, true, false, false] rfl rfl (any_of HT_.out (by kernel_rfl)) (fun _ _ _ h => h) (Or.inl ⟨by rfl, ?_⟩) ?_ ?_
          rotate_left
          · intro w'
            go_simp
            with_reducible rfl
          rotate_left
          · simp only [Act.put, List.setIfInBounds_toArray, List.set_cons_zero, List.set_cons_succ, i64_w, i32_w]
            rfl
          refine pure_ (i := 7) (N := some 34) (v := ?_) (a' := ?_) #[true, true, true, true, true, true, true, true, true, false, false] rfl rfl (any_of HT_.out (by kernel_rfl)) (fun _ _ _ h => h) (Or.inl ⟨by rfl, ?_⟩) ?_ ?_
          rotate_left
          · intro w'
            go_simp
            with_reducible rfl
          rotate_left
          · simp only [Act.put, List.setIfInBounds_toArray, List.set_cons_zero, List.set_cons_succ, i64_w, i32_w]
            rfl
          exact norm_ (by simp only [putAll, Act.put, List.setIfInBounds_toArray, List.set_cons_zero, List.set_cons_succ]) (hCont (.agg #[.slice B51_ l0_0.length c52_, .slice B53_ l0_1.length c54_], .agg #[.slice B57_ l1_0.length c58_, .slice B59_ l1_1.length c60_], B63_, c64_, B65_, c66_, g48_) _ (HL67_.out.pick [6, 0, 1, 7, 8] (by decide) rfl))
      rintro ⟨va_, vb_, Bg6, dg6, Eg6, fg6, g6⟩ w69_ HLn
      have HL70_ := Aside0.mk HLn
      clear HLn HL2_
      refine norm_ (a' := ?_) ?_ ?_
      rotate_left
      · simp only [putAll, Act.put, List.setIfInBounds_toArray, List.set_cons_zero, List.set_cons_succ]
        rfl
      refine one_ (i := 9) (N := none) #[true, true, true, true, true, true, true, true, true, true, false] rfl rfl (one_of HT_.out (by kernel_rfl)) (by decide) (fun K hK => ?_)
      have hs0 : w69_.cell? ⟨g6, 0, none⟩ = some (.slice none 0 0) := HL70_.out.cell 0 rfl 0 rfl
      have hs1 : w69_.cell? ⟨g6, 1, none⟩ = some (.slice none 0 0) := HL70_.out.cell 0 rfl 1 rfl
      have hf0 := HL70_.out.frozen 0 rfl 0
      have hf1 := HL70_.out.frozen 0 rfl 1
      refine skip_ (w1 := ((w69_.setCell ⟨g6, 0, none⟩ (.slice Bg6 x.length dg6)).setCell ⟨g6, 1, none⟩ (.slice Eg6 y.length fg6))) (by rfl) rfl ?_ ?_
      · go_simp
      have HL72_ : Aside0 (Live w ((w69_.setCell ⟨g6, 0, none⟩ (.slice Bg6 x.length dg6)).setCell ⟨g6, 1, none⟩ (.slice Eg6 y.length fg6)) _) := ⟨HL70_.out.put2⟩
      clear HL70_ hs0 hs1 hf0 hf1
      clear hHeld
      refine hK.out _ _ ⟨HL72_.out.cell 4 rfl 0 rfl, HL72_.out.cell 4 rfl 1 rfl, HL72_.out.cell 3 rfl 0 rfl, HL72_.out.cell 3 rfl 1 rfl⟩ (fun hHeld => ?_)
      clear hK K
      generalize ((w69_.setCell ⟨g6, 0, none⟩ (.slice Bg6 x.length dg6)).setCell ⟨g6, 1, none⟩ (.slice Eg6 y.length fg6)) = w71_ at HL72_ hHeld ⊢
      refine pure_ (i := 10) (N := some 7) (v := ?_) (a' := ?_) #[true, true, true, true, true, true, true, true, true, true, true] rfl rfl (any_of HT_.out (by kernel_rfl)) (fun _ _ _ h => h) (Or.inl ⟨by rfl, ?_⟩) ?_ ?_
      rotate_left
      · intro w'
        go_simp
        with_reducible rfl
      rotate_left
      · simp only [Act.put, List.setIfInBounds_toArray, List.set_cons_zero, List.set_cons_succ, i64_w, i32_w]
        rfl
      refine done_ (done_of HT_.out (by kernel_rfl)) ?_
      clear hHeld HT_ HW_
      have hc_g1_0 : w71_.cell? ⟨g1, 0, none⟩ = some (.slice A0_0 l0_0.length c0_0) := HL72_.out.cell 4 rfl 0 rfl
      have hc_g1_1 : w71_.cell? ⟨g1, 1, none⟩ = some (.slice A0_1 l0_1.length c0_1) := HL72_.out.cell 4 rfl 1 rfl
      go_upto_region 14 with (first | ((with_reducible refine gate_callee (f := 9) rfl ?_); refine goesL_ (some 36) rfl rfl Try.func9 (by kernel_rfl) rfl #[.agg #[.slice A0_0 l0_0.length c0_0, .slice A0_1 l0_1.length c0_1]] rfl (by (try simp only [List.map_toArray, List.map_cons, List.map_nil]); first | done | rfl) ?_; (with_reducible refine (toP_live HL72_.out R0.out R1.out K0.out K1.out).mono ?_); rintro e w74_ ⟨A8, c8, A8', c8', rfl, HLn⟩; refine ⟨_, rfl, ?_⟩; have HL73_ := Aside0.mk HLn; clear HLn HL72_; (try clear hc_g1_0 hc_g1_1)) | ((with_reducible refine gate_dst (N := 8) rfl ?_); refine box_event ?hg (N := 8) ?hd (cs := #[.slice none 0 0, .slice none 0 0]) (t := 26) ?hr ?_; (case hd => rfl); (case hg => rfl); (case hr => first | (go_simp; done) | (go_simp; rfl)); intro g8 hg w76_ hbox hb; have HL75_ := Aside0.mk (HL73_.out.box hb hg hbox); clear hb hbox hg HL73_; have hs0 : w76_.cell? ⟨g8, 0, none⟩ = some (.slice none 0 0) := HL75_.out.cell 0 rfl 0 rfl; have hs1 : w76_.cell? ⟨g8, 1, none⟩ = some (.slice none 0 0) := HL75_.out.cell 0 rfl 1 rfl; have hf0 := HL75_.out.frozen 0 rfl 0; have hf1 := HL75_.out.frozen 0 rfl 1) | ((with_reducible refine gate_store (t := 26) (p := 8) rfl ?_); refine store_event (t := 26) (p := 8) (v := ?vo_8) (w1 := ((w76_.setCell ⟨g8, 0, none⟩ (.slice A8 l0_0.length c8)).setCell ⟨g8, 1, none⟩ (.slice A8' l0_1.length c8'))) ?hg ?ho ?hN ?hr ?_; (case hg => rfl); (case ho => rfl); (case hN => rfl); (case hr => go_simp); intro w78_ hw; have HL77_ : Aside0 (Live w w78_ _) := ⟨by rw [hw]; exact HL75_.out.put2⟩; clear hw hs0 hs1 hf0 hf1 HL75_; have hc_g2_0 : w78_.cell? ⟨g2, 0, none⟩ = some (.slice A1_0 l1_0.length c1_0) := HL77_.out.cell 6 rfl 0 rfl; have hc_g2_1 : w78_.cell? ⟨g2, 1, none⟩ = some (.slice A1_1 l1_1.length c1_1) := HL77_.out.cell 6 rfl 1 rfl) | ((with_reducible refine gate_callee (f := 9) rfl ?_); refine goesL_ (some 38) rfl rfl Try.func9 (by kernel_rfl) rfl #[.agg #[.slice A1_0 l1_0.length c1_0, .slice A1_1 l1_1.length c1_1]] rfl (by (try simp only [List.map_toArray, List.map_cons, List.map_nil]); first | done | rfl) ?_; (with_reducible refine (toP_live HL77_.out R2.out R3.out K2.out K3.out).mono ?_); rintro e w80_ ⟨A9, c9, A9', c9', rfl, HLn⟩; refine ⟨_, rfl, ?_⟩; have HL79_ := Aside0.mk HLn; clear HLn HL77_; (try clear hc_g2_0 hc_g2_1)) | ((with_reducible refine gate_dst (N := 9) rfl ?_); refine box_event ?hg (N := 9) ?hd (cs := #[.slice none 0 0, .slice none 0 0]) (t := 26) ?hr ?_; (case hd => rfl); (case hg => rfl); (case hr => first | (go_simp; done) | (go_simp; rfl)); intro g9 hg w82_ hbox hb; have HL81_ := Aside0.mk (HL79_.out.box hb hg hbox); clear hb hbox hg HL79_; have hs0 : w82_.cell? ⟨g9, 0, none⟩ = some (.slice none 0 0) := HL81_.out.cell 0 rfl 0 rfl; have hs1 : w82_.cell? ⟨g9, 1, none⟩ = some (.slice none 0 0) := HL81_.out.cell 0 rfl 1 rfl; have hf0 := HL81_.out.frozen 0 rfl 0; have hf1 := HL81_.out.frozen 0 rfl 1) | ((with_reducible refine gate_store (t := 26) (p := 9) rfl ?_); refine store_event (t := 26) (p := 9) (v := ?vo_9) (w1 := ((w82_.setCell ⟨g9, 0, none⟩ (.slice A9 l1_0.length c9)).setCell ⟨g9, 1, none⟩ (.slice A9' l1_1.length c9'))) ?hg ?ho ?hN ?hr ?_; (case hg => rfl); (case ho => rfl); (case hN => rfl); (case hr => go_simp); intro w84_ hw; have HL83_ : Aside0 (Live w w84_ _) := ⟨by rw [hw]; exact HL81_.out.put2⟩; clear hw hs0 hs1 hf0 hf1 HL81_; have hc_g8_0 : w84_.cell? ⟨g8, 0, none⟩ = some (.slice A8 l0_0.length c8) := HL83_.out.cell 3 rfl 0 rfl; have hc_g8_1 : w84_.cell? ⟨g8, 1, none⟩ = some (.slice A8' l0_1.length c8') := HL83_.out.cell 3 rfl 1 rfl; have hc_g9_0 : w84_.cell? ⟨g9, 0, none⟩ = some (.slice A9 l1_0.length c9) := HL83_.out.cell 0 rfl 0 rfl; have hc_g9_1 : w84_.cell? ⟨g9, 1, none⟩ = some (.slice A9' l1_1.length c9') := HL83_.out.cell 0 rfl 1 rfl) | ((with_reducible refine gate_callee (f := 10) rfl ?_); refine goesL_ (some 42) rfl rfl Try.func10 (by kernel_rfl) rfl #[.agg #[.slice A8 l0_0.length c8, .slice A8' l0_1.length c8'], .agg #[.slice A9 l1_0.length c9, .slice A9' l1_1.length c9']] rfl (by (try simp only [List.map_toArray, List.map_cons, List.map_nil]); first | done | rfl) ?_; (with_reducible refine (impl_live HL83_.out (HL83_.out.rd 4 rfl) (HL83_.out.rd 5 rfl) (HL83_.out.rd 1 rfl) (HL83_.out.rd 2 rfl) SU.out).mono ?_); rintro e w86_ ⟨A10, c10, A10', c10', rfl, HLn⟩; refine ⟨_, rfl, ?_⟩; have HL85_ := Aside0.mk HLn; clear HLn HL83_; (try clear hc_g8_0 hc_g8_1 hc_g9_0 hc_g9_1)) | ((with_reducible refine gate_dst (N := 10) rfl ?_); refine box_event ?hg (N := 10) ?hd (cs := #[.slice none 0 0, .slice none 0 0]) (t := 26) ?hr ?_; (case hd => rfl); (case hg => rfl); (case hr => first | (go_simp; done) | (go_simp; rfl)); intro g10 hg w88_ hbox hb; have HL87_ := Aside0.mk (HL85_.out.box hb hg hbox); clear hb hbox hg HL85_; have hs0 : w88_.cell? ⟨g10, 0, none⟩ = some (.slice none 0 0) := HL87_.out.cell 0 rfl 0 rfl; have hs1 : w88_.cell? ⟨g10, 1, none⟩ = some (.slice none 0 0) := HL87_.out.cell 0 rfl 1 rfl; have hf0 := HL87_.out.frozen 0 rfl 0; have hf1 := HL87_.out.frozen 0 rfl 1) | ((with_reducible refine gate_store (t := 26) (p := 10) rfl ?_); refine store_event (t := 26) (p := 10) (v := ?vo_10) (w1 := ((w88_.setCell ⟨g10, 0, none⟩ (.slice A10 x.length c10)).setCell ⟨g10, 1, none⟩ (.slice A10' y.length c10'))) ?hg ?ho ?hN ?hr ?_; (case hg => rfl); (case ho => rfl); (case hN => rfl); (case hr => go_simp); intro w90_ hw; have HL89_ : Aside0 (Live w w90_ _) := ⟨by rw [hw]; exact HL87_.out.put2⟩; clear hw hs0 hs1 hf0 hf1 HL87_; have hc_g10_0 : w90_.cell? ⟨g10, 0, none⟩ = some (.slice A10 x.length c10) := HL89_.out.cell 0 rfl 0 rfl; have hc_g10_1 : w90_.cell? ⟨g10, 1, none⟩ = some (.slice A10' y.length c10') := HL89_.out.cell 0 rfl 1 rfl; have hc_g6_0 : w90_.cell? ⟨g6, 0, none⟩ = some (.slice Bg6 x.length dg6) := HL89_.out.cell 9 rfl 0 rfl; have hc_g6_1 : w90_.cell? ⟨g6, 1, none⟩ = some (.slice Eg6 y.length fg6) := HL89_.out.cell 9 rfl 1 rfl) | ((with_reducible refine gate_callee (f := 11) rfl ?_); refine goesL_ (some 47) rfl rfl Try.func11 (by kernel_rfl) rfl #[.agg #[.slice A10 x.length c10, .slice A10' y.length c10'], .agg #[.slice Bg6 x.length dg6, .slice Eg6 y.length fg6]] rfl (by (try simp only [List.map_toArray, List.map_cons, List.map_nil]); first | done | rfl) ?_; (with_reducible refine (eq_live HL89_.out (HL89_.out.rd 1 rfl) (HL89_.out.rd 2 rfl) (HL89_.out.rd 10 rfl) (HL89_.out.rd 11 rfl) (by have := KL.out; omega) (by have := KL.out; omega)).mono ?_); rintro e w92_ ⟨rfl, HLn⟩; refine ⟨_, rfl, ?_⟩; have HL91_ := Aside0.mk HLn; clear HLn HL89_; (try clear hc_g10_0 hc_g10_1 hc_g6_0 hc_g6_1)))
      skip
      refine start_ (n := 5) (S := fun w' => w'.cell? ⟨g8, 0, none⟩ = some (.slice A8 l0_0.length c8) ∧ w'.cell? ⟨g8, 1, none⟩ = some (.slice A8' l0_1.length c8') ∧ w'.cell? ⟨g1, 0, none⟩ = some (.slice A0_0 l0_0.length c0_0) ∧ w'.cell? ⟨g1, 1, none⟩ = some (.slice A0_1 l0_1.length c0_1)) (ds := []) #[false, false, false, false, false] (by kernel_rfl) rfl rfl ⟨HL91_.out.cell 6 rfl 0 rfl, HL91_.out.cell 6 rfl 1 rfl, HL91_.out.cell 13 rfl 0 rfl, HL91_.out.cell 13 rfl 1 rfl⟩ (fun hHeld => ?_)
      have HL94_ := Aside0.mk HL91_.out.drew
      clear HL91_
      generalize w92_.drew = w93_ at HL94_ hHeld ⊢
      refine take_ (i := 0) (N := some 54) (v := ?_) (a' := ?_) #[true, false, false, false, false] rfl rfl (by kernel_rfl) (fun _ _ _ h => h) (Or.inl ⟨by rfl, ?_⟩) hHeld ?_ ?_
      rotate_left
      · rintro w' ⟨s0, s1, s2, s3⟩
        go_simp
        with_reducible rfl
      rotate_left
      · simp only [Act.put, List.setIfInBounds_toArray, List.set_cons_zero, List.set_cons_succ, i64_w, i32_w]
        rfl
      refine take_ (i := 1) (N := some 55) (v := ?_) (a' := ?_) #[true, true, false, false, false] rfl rfl (by kernel_rfl) (fun _ _ _ h => h) (Or.inl ⟨by rfl, ?_⟩) hHeld ?_ ?_
      rotate_left
      · rintro w' ⟨s0, s1, s2, s3⟩
        go_simp
        with_reducible rfl
      rotate_left
      · simp only [Act.put, List.setIfInBounds_toArray, List.set_cons_zero, List.set_cons_succ, i64_w, i32_w]
        rfl
      refine one_ (i := 2) (N := some 56) #[true, true, true, false, false] rfl rfl (by kernel_rfl) (by decide) (fun K hK => ?_)
      refine goes_ Try.func9 (by kernel_rfl) rfl #[.agg #[.slice A0_0 l0_0.length c0_0, .slice A0_1 l0_1.length c0_1]] (by rfl) rfl rfl (by (try simp only [List.map_toArray, List.map_cons, List.map_nil]); first | done | rfl) ?_
      with_reducible refine (toP_live HL94_.out R0.out R1.out K0.out K1.out).mono ?_
      rintro e w100_ ⟨B95_, c96_, B97_, c98_, rfl, HLn⟩
      refine ⟨_, rfl, ?_⟩
      have HL99_ := Aside0.mk HLn
      clear HLn HL94_
      clear hHeld
      refine hK.out _ _ ⟨HL99_.out.cell 8 rfl 0 rfl, HL99_.out.cell 8 rfl 1 rfl, HL99_.out.cell 15 rfl 0 rfl, HL99_.out.cell 15 rfl 1 rfl⟩ (fun hHeld => ?_)
      clear hK K
      refine norm_ (a' := ?_) ?_ ?_
      rotate_left
      · show Act.put _ (some 56) _ = _
        simp only [Act.put, List.setIfInBounds_toArray, List.set_cons_zero, List.set_cons_succ, i64_w, i32_w]
        rfl
      refine one_ (i := 3) (N := some 57) #[true, true, true, true, false] rfl rfl (by kernel_rfl) (by decide) (fun K hK => ?_)
      refine goes_ Try.func11 (by kernel_rfl) rfl #[.agg #[.slice A8 l0_0.length c8, .slice A8' l0_1.length c8'], .agg #[.slice B95_ l0_0.length c96_, .slice B97_ l0_1.length c98_]] (by rfl) rfl rfl (by (try simp only [List.map_toArray, List.map_cons, List.map_nil]); first | done | rfl) ?_
      with_reducible refine (eq_live HL99_.out (HL99_.out.rd 9 rfl) (HL99_.out.rd 10 rfl) (HL99_.out.rd 0 rfl) (HL99_.out.rd 1 rfl) K0.out K1.out).mono ?_
      rintro e w102_ ⟨rfl, HLn⟩
      refine ⟨_, rfl, ?_⟩
      have HL101_ := Aside0.mk HLn
      clear HLn HL99_
      clear hHeld
      refine hK.out _ _ ⟨HL101_.out.cell 8 rfl 0 rfl, HL101_.out.cell 8 rfl 1 rfl, HL101_.out.cell 15 rfl 0 rfl, HL101_.out.cell 15 rfl 1 rfl⟩ (fun hHeld => ?_)
      clear hK K
      refine norm_ (a' := ?_) ?_ ?_
      rotate_left
      · show Act.put _ (some 57) _ = _
        simp only [Act.put, List.setIfInBounds_toArray, List.set_cons_zero, List.set_cons_succ, i64_w, i32_w]
        rfl
      refine pure_ (i := 4) (N := some 58) (v := ?_) (a' := ?_) #[true, true, true, true, true] rfl rfl (by kernel_rfl) (fun _ _ _ h => h) (Or.inl ⟨by rfl, ?_⟩) ?_ ?_
      rotate_left
      · intro w'
        go_simp
        with_reducible rfl
      rotate_left
      · simp only [Act.put, List.setIfInBounds_toArray, List.set_cons_zero, List.set_cons_succ, i64_w, i32_w]
        rfl
      refine done_ (by kernel_rfl) ?_
      have HL103_ := Aside0.mk HL101_.out.tail.tail
      clear hHeld HL101_
      go_wp2
      refine start_ (n := 5) (S := fun w' => w'.cell? ⟨g9, 0, none⟩ = some (.slice A9 l1_0.length c9) ∧ w'.cell? ⟨g9, 1, none⟩ = some (.slice A9' l1_1.length c9') ∧ w'.cell? ⟨g2, 0, none⟩ = some (.slice A1_0 l1_0.length c1_0) ∧ w'.cell? ⟨g2, 1, none⟩ = some (.slice A1_1 l1_1.length c1_1)) (ds := []) #[false, false, false, false, false] (by kernel_rfl) rfl rfl ⟨HL103_.out.cell 3 rfl 0 rfl, HL103_.out.cell 3 rfl 1 rfl, HL103_.out.cell 12 rfl 0 rfl, HL103_.out.cell 12 rfl 1 rfl⟩ (fun hHeld => ?_)
      have HL105_ := Aside0.mk HL103_.out.drew
      clear HL103_
      generalize w102_.drew = w104_ at HL105_ hHeld ⊢
      refine take_ (i := 0) (N := some 59) (v := ?_) (a' := ?_) #[true, false, false, false, false] rfl rfl (by kernel_rfl) (fun _ _ _ h => h) (Or.inl ⟨by rfl, ?_⟩) hHeld ?_ ?_
      rotate_left
      · rintro w' ⟨s0, s1, s2, s3⟩
        go_simp
        with_reducible rfl
      rotate_left
      · simp only [Act.put, List.setIfInBounds_toArray, List.set_cons_zero, List.set_cons_succ, i64_w, i32_w]
        rfl
      refine take_ (i := 1) (N := some 60) (v := ?_) (a' := ?_) #[true, true, false, false, false] rfl rfl (by kernel_rfl) (fun _ _ _ h => h) (Or.inl ⟨by rfl, ?_⟩) hHeld ?_ ?_
      rotate_left
      · rintro w' ⟨s0, s1, s2, s3⟩
        go_simp
        with_reducible rfl
      rotate_left
      · simp only [Act.put, List.setIfInBounds_toArray, List.set_cons_zero, List.set_cons_succ, i64_w, i32_w]
        rfl
      refine one_ (i := 2) (N := some 61) #[true, true, true, false, false] rfl rfl (by kernel_rfl) (by decide) (fun K hK => ?_)
      refine goes_ Try.func9 (by kernel_rfl) rfl #[.agg #[.slice A1_0 l1_0.length c1_0, .slice A1_1 l1_1.length c1_1]] (by rfl) rfl rfl (by (try simp only [List.map_toArray, List.map_cons, List.map_nil]); first | done | rfl) ?_
      with_reducible refine (toP_live HL105_.out R2.out R3.out K2.out K3.out).mono ?_
      rintro e w111_ ⟨B106_, c107_, B108_, c109_, rfl, HLn⟩
      refine ⟨_, rfl, ?_⟩
      have HL110_ := Aside0.mk HLn
      clear HLn HL105_
      clear hHeld
      refine hK.out _ _ ⟨HL110_.out.cell 5 rfl 0 rfl, HL110_.out.cell 5 rfl 1 rfl, HL110_.out.cell 14 rfl 0 rfl, HL110_.out.cell 14 rfl 1 rfl⟩ (fun hHeld => ?_)
      clear hK K
      refine norm_ (a' := ?_) ?_ ?_
      rotate_left
      · show Act.put _ (some 61) _ = _
        simp only [Act.put, List.setIfInBounds_toArray, List.set_cons_zero, List.set_cons_succ, i64_w, i32_w]
        rfl
      refine one_ (i := 3) (N := some 62) #[true, true, true, true, false] rfl rfl (by kernel_rfl) (by decide) (fun K hK => ?_)
      refine goes_ Try.func11 (by kernel_rfl) rfl #[.agg #[.slice A9 l1_0.length c9, .slice A9' l1_1.length c9'], .agg #[.slice B106_ l1_0.length c107_, .slice B108_ l1_1.length c109_]] (by rfl) rfl rfl (by (try simp only [List.map_toArray, List.map_cons, List.map_nil]); first | done | rfl) ?_
      with_reducible refine (eq_live HL110_.out (HL110_.out.rd 6 rfl) (HL110_.out.rd 7 rfl) (HL110_.out.rd 0 rfl) (HL110_.out.rd 1 rfl) K2.out K3.out).mono ?_
      rintro e w113_ ⟨rfl, HLn⟩
      refine ⟨_, rfl, ?_⟩
      have HL112_ := Aside0.mk HLn
      clear HLn HL110_
      clear hHeld
      refine hK.out _ _ ⟨HL112_.out.cell 5 rfl 0 rfl, HL112_.out.cell 5 rfl 1 rfl, HL112_.out.cell 14 rfl 0 rfl, HL112_.out.cell 14 rfl 1 rfl⟩ (fun hHeld => ?_)
      clear hK K
      refine norm_ (a' := ?_) ?_ ?_
      rotate_left
      · show Act.put _ (some 62) _ = _
        simp only [Act.put, List.setIfInBounds_toArray, List.set_cons_zero, List.set_cons_succ, i64_w, i32_w]
        rfl
      refine pure_ (i := 4) (N := some 63) (v := ?_) (a' := ?_) #[true, true, true, true, true] rfl rfl (by kernel_rfl) (fun _ _ _ h => h) (Or.inl ⟨by rfl, ?_⟩) ?_ ?_
      rotate_left
      · intro w'
        go_simp
        with_reducible rfl
      rotate_left
      · simp only [Act.put, List.setIfInBounds_toArray, List.set_cons_zero, List.set_cons_succ, i64_w, i32_w]
        rfl
      refine done_ (by kernel_rfl) ?_
      have HL114_ := Aside0.mk HL112_.out.tail.tail
      clear hHeld HL112_
      obtain ⟨k1, ek1⟩ : ∃ z : Int, 1 + l0_0.length + l0_1.length = z := ⟨_, rfl⟩
      obtain ⟨k2, ek2⟩ : ∃ z : Int, k1 + l1_0.length + l1_1.length = z := ⟨_, rfl⟩
      obtain ⟨m1, em1⟩ : ∃ z : Int, 1 + x.length + y.length = z := ⟨_, rfl⟩
      have b2 : decide (k2 < 0) = false := decide_eq_false (by omega)
      have b3 : decide (m1 < 0) = false := decide_eq_false (by omega)
      have Q1 : Aside0 ((0 : Int) ≤ 1 ∧ (1 : Int) ≤ 2097152 ∧ 1 + (l0_0.length : Int) ≤ 2097152) := ⟨by have := K0.out; omega⟩
      have Q2 : Aside0 (0 ≤ k1 ∧ k1 ≤ 2097152 ∧ k1 + (l1_0.length : Int) ≤ 2097152) := ⟨by have := KT.out; omega⟩
      have E1 := Aside0.mk ek1
      have E2 := Aside0.mk ek2
      have E3 := Aside0.mk em1
      clear ek1 ek2 em1
      have hc_g8_0 : w113_.cell? ⟨g8, 0, none⟩ = some (.slice A8 l0_0.length c8) := HL114_.out.cell 6 rfl 0 rfl
      have hc_g8_1 : w113_.cell? ⟨g8, 1, none⟩ = some (.slice A8' l0_1.length c8') := HL114_.out.cell 6 rfl 1 rfl
      have Q3 : Aside0 ((0 : Int) ≤ 1 ∧ (1 : Int) ≤ 2097152 ∧ 1 + (x.length : Int) ≤ 2097152) := ⟨by have := KL.out; omega⟩
      go_upto_region 31 with (first | ((with_reducible refine gate_callee (f := 12) rfl ?_); refine goesL_ (some 66) rfl rfl Try.func12 (by kernel_rfl) rfl #[.agg #[.slice A8 l0_0.length c8, .slice A8' l0_1.length c8'], .int .i64 1] rfl (by (try simp only [List.map_toArray, List.map_cons, List.map_nil]); first | done | rfl) ?_; (with_reducible refine (mark_live (HL114_.out.pick [7, 8, 0, 1, 2, 3, 4, 5, 9, 10, 11, 12, 13] (by decide) rfl) K0.out K1.out Q1.out E1.out).mono ?_); rintro e w116_ ⟨rfl, HLn⟩; refine ⟨_, rfl, ?_⟩; have HL115_ := Aside0.mk HLn; clear HLn HL114_; (try clear hc_g8_0 hc_g8_1); have hc_g9_0 : w116_.cell? ⟨g9, 0, none⟩ = some (.slice A9 l1_0.length c9) := HL115_.out.cell 5 rfl 0 rfl; have hc_g9_1 : w116_.cell? ⟨g9, 1, none⟩ = some (.slice A9' l1_1.length c9') := HL115_.out.cell 5 rfl 1 rfl) | ((with_reducible refine gate_callee (f := 12) rfl ?_); refine goesL_ (some 69) rfl rfl Try.func12 (by kernel_rfl) rfl #[.agg #[.slice A9 l1_0.length c9, .slice A9' l1_1.length c9'], .int .i64 k1] rfl (by (try simp only [List.map_toArray, List.map_cons, List.map_nil]); first | done | rfl) ?_; (with_reducible refine (mark_live (HL115_.out.pick [6, 7, 2, 3, 4, 8, 9, 10, 11, 12] (by decide) rfl) K2.out K3.out Q2.out E2.out).mono ?_); rintro e w118_ ⟨rfl, HLn⟩; refine ⟨_, rfl, ?_⟩; have HL117_ := Aside0.mk HLn; clear HLn HL115_; (try clear hc_g9_0 hc_g9_1); have hc_g10_0 : w118_.cell? ⟨g10, 0, none⟩ = some (.slice A10 x.length c10) := HL117_.out.cell 2 rfl 0 rfl; have hc_g10_1 : w118_.cell? ⟨g10, 1, none⟩ = some (.slice A10' y.length c10') := HL117_.out.cell 2 rfl 1 rfl; have hc_g6_0 : w118_.cell? ⟨g6, 0, none⟩ = some (.slice Bg6 x.length dg6) := HL117_.out.cell 5 rfl 0 rfl; have hc_g6_1 : w118_.cell? ⟨g6, 1, none⟩ = some (.slice Eg6 y.length fg6) := HL117_.out.cell 5 rfl 1 rfl) | (go_at_call 11; (with_reducible refine (eq_live HL117_.out (HL117_.out.rd 3 rfl) (HL117_.out.rd 4 rfl) (HL117_.out.rd 6 rfl) (HL117_.out.rd 7 rfl) (by have := KL.out; omega) (by have := KL.out; omega)).mono ?_); rintro e w120_ ⟨rfl, HLn⟩; have HL119_ := Aside0.mk HLn; clear HLn HL117_; (try clear hc_g10_0 hc_g10_1 hc_g6_0 hc_g6_1); have hc_g10_0 : w120_.cell? ⟨g10, 0, none⟩ = some (.slice A10 x.length c10) := HL119_.out.cell 2 rfl 0 rfl; have hc_g10_1 : w120_.cell? ⟨g10, 1, none⟩ = some (.slice A10' y.length c10') := HL119_.out.cell 2 rfl 1 rfl) | ((with_reducible refine gate_callee (f := 12) rfl ?_); refine goesL_ (some 85) rfl rfl Try.func12 (by kernel_rfl) rfl #[.agg #[.slice A10 x.length c10, .slice A10' y.length c10'], .int .i64 1] rfl (by (try simp only [List.map_toArray, List.map_cons, List.map_nil]); first | done | rfl) ?_; (with_reducible refine (mark_live (HL119_.out.pick [3, 4, 2, 5, 6, 7, 8, 9] (by decide) rfl) (by have := KL.out; omega) (by have := KL.out; omega) Q3.out E3.out).mono ?_); rintro e w122_ ⟨rfl, HLn⟩; refine ⟨_, rfl, ?_⟩; have HL121_ := Aside0.mk HLn; clear HLn HL119_; (try clear hc_g10_0 hc_g10_1); have hc_g10_0 : w122_.cell? ⟨g10, 0, none⟩ = some (.slice A10 x.length c10) := HL121_.out.cell 2 rfl 0 rfl; have hc_g10_1 : w122_.cell? ⟨g10, 1, none⟩ = some (.slice A10' y.length c10') := HL121_.out.cell 2 rfl 1 rfl) | ((with_reducible refine gate_callee (f := 13) rfl ?_); refine goesL_ (some 88) rfl rfl Try.func13 (by kernel_rfl) rfl #[.agg #[.slice A10 x.length c10, .slice A10' y.length c10'], .int .i64 1] rfl (by (try simp only [List.map_toArray, List.map_cons, List.map_nil]); first | done | rfl) ?_; (with_reducible refine (held_live HL121_.out (by have := KL.out; omega) (by have := KL.out; omega) (HL121_.out.rd 0 rfl) (HL121_.out.rd 1 rfl) E3.out).mono ?_); rintro e w124_ ⟨rfl, HLn⟩; refine ⟨_, rfl, ?_⟩; have HL123_ := Aside0.mk HLn; clear HLn HL121_; (try clear hc_g10_0 hc_g10_1)))
      refine start_ (n := 11) (S := fun w' => w'.cell? ⟨g1, 0, none⟩ = some (.slice A0_0 l0_0.length c0_0) ∧ w'.cell? ⟨g1, 1, none⟩ = some (.slice A0_1 l0_1.length c0_1) ∧ w'.cell? ⟨g2, 0, none⟩ = some (.slice A1_0 l1_0.length c1_0) ∧ w'.cell? ⟨g2, 1, none⟩ = some (.slice A1_1 l1_1.length c1_1)) (ds := []) #[false, false, false, false, false, false, false, false, false, false, false] (by kernel_rfl) rfl rfl ⟨HL123_.out.cell 7 rfl 0 rfl, HL123_.out.cell 7 rfl 1 rfl, HL123_.out.cell 6 rfl 0 rfl, HL123_.out.cell 6 rfl 1 rfl⟩ (fun hHeld => ?_); refine with_tabW laws_FnExactAddProfiles.tab31 laws_FnExactAddProfiles.bits31 (fun HT_ HW_ => ?_)
      have HL126_ := Aside0.mk HL123_.out.drew
      clear HL123_
      generalize w124_.drew = w125_ at HL126_ hHeld ⊢
      refine take_ (i := 0) (N := some 95) (v := ?_) (a' := ?_) #[true, false, false, false, false, false, false, false, false, false, false] rfl rfl (take_ofW HT_.out HW_.out (by kernel_rfl)) (fun _ _ _ h => h) (Or.inl ⟨by rfl, ?_⟩) hHeld ?_ ?_
      rotate_left
      · rintro w' ⟨s0, s1, s2, s3⟩
        go_simp
        with_reducible rfl
      rotate_left
      · simp only [Act.put, List.setIfInBounds_toArray, List.set_cons_zero, List.set_cons_succ, i64_w, i32_w]
        rfl
      refine take_ (i := 2) (N := some 97) (v := ?_) (a' := ?_) #[true, false, true, false, false, false, false, false, false, false, false] rfl rfl (take_ofW HT_.out HW_.out (by kernel_rfl)) (fun _ _ _ h => h) (Or.inl ⟨by rfl, ?_⟩) hHeld ?_ ?_
      rotate_left
      · rintro w' ⟨s0, s1, s2, s3⟩
        go_simp
        with_reducible rfl
      rotate_left
      · simp only [Act.put, List.setIfInBounds_toArray, List.set_cons_zero, List.set_cons_succ, i64_w, i32_w]
        rfl
      refine join_ (σ := Value × Value × Option Addr × Nat × Option Addr × Nat × Nat) 2 #[true, true, true, true, true, true, true, true, true, false, false] (fun s_ => [(96, s_.1), (98, s_.2.1), (99, .tuple #[.agg #[.slice s_.2.2.1 x.length s_.2.2.2.1, .slice s_.2.2.2.2.1 y.length s_.2.2.2.2.2.1], .bool bo]), (15, .pointer (some ⟨s_.2.2.2.2.2.2, 0, none⟩)), (94, .tuple #[.agg #[.slice s_.2.2.1 x.length s_.2.2.2.1, .slice s_.2.2.2.2.1 y.length s_.2.2.2.2.2.1], .bool bo]), (100, .agg #[.slice s_.2.2.1 x.length s_.2.2.2.1, .slice s_.2.2.2.2.1 y.length s_.2.2.2.2.2.1]), (101, .bool bo)]) (fun s_ w' => Live w w' [box s_.2.2.2.2.2.2 #[.slice none 0 0, .slice none 0 0] 26, row w.heap.size (.slice s_.2.2.1 x.length s_.2.2.2.1) x, row w.heap.size (.slice s_.2.2.2.2.1 y.length s_.2.2.2.2.2.1) y, row w.heap.size (.slice A10 x.length c10) (M.upFrom 1 x.length), row w.heap.size (.slice A10' y.length c10') (M.upFrom (1 + x.length) y.length), box g10 #[.slice A10 x.length c10, .slice A10' y.length c10'] 26, box g6 #[.slice Bg6 x.length dg6, .slice Eg6 y.length fg6] 26, row w.heap.size (.slice Bg6 x.length dg6) x, row w.heap.size (.slice Eg6 y.length fg6) y, box g2 #[.slice A1_0 l1_0.length c1_0, .slice A1_1 l1_1.length c1_1] 24, box g1 #[.slice A0_0 l0_0.length c0_0, .slice A0_1 l0_1.length c0_1] 24]) ?_ ?_
      rotate_left
      · intro hCont
        refine two_ (i := 1) (j := 8) (Ni := some 96) (Nj := some 15) #[true, true, true, false, false, false, false, false, false, false, false] #[true, false, true, false, false, false, false, false, true, false, false] rfl rfl rfl rfl (two_of HT_.out (by kernel_rfl)) (by decide) (by decide) (fun K hK => ?_) (fun K hK => ?_)
        · skip
          refine goes_ Try.func9 (by kernel_rfl) rfl #[.agg #[.slice A0_0 l0_0.length c0_0, .slice A0_1 l0_1.length c0_1]] (by rfl) rfl rfl (by (try simp only [List.map_toArray, List.map_cons, List.map_nil]); first | done | rfl) ?_
          with_reducible refine (toP_live HL126_.out R0.out R1.out K0.out K1.out).mono ?_
          rintro e w132_ ⟨B127_, c128_, B129_, c130_, rfl, HLn⟩
          refine ⟨_, rfl, ?_⟩
          have HL131_ := Aside0.mk HLn
          clear HLn HL126_
          clear hHeld
          refine hK.out _ _ ⟨HL131_.out.cell 9 rfl 0 rfl, HL131_.out.cell 9 rfl 1 rfl, HL131_.out.cell 8 rfl 0 rfl, HL131_.out.cell 8 rfl 1 rfl⟩ (fun hHeld => ?_)
          clear hK K
          refine norm_ (a' := ?_) ?_ ?_
          rotate_left
          · show Act.put _ (some 96) _ = _
            simp only [Act.put, List.setIfInBounds_toArray, List.set_cons_zero, List.set_cons_succ, i64_w, i32_w]
            rfl
          refine two_ (i := 3) (j := 8) (Ni := some 98) (Nj := some 15) #[true, true, true, true, false, false, false, false, false, false, false] #[true, true, true, false, false, false, false, false, true, false, false] rfl rfl rfl rfl (two_of HT_.out (by kernel_rfl)) (by decide) (by decide) (fun K hK => ?_) (fun K hK => ?_)
          · skip
            refine goes_ Try.func9 (by kernel_rfl) rfl #[.agg #[.slice A1_0 l1_0.length c1_0, .slice A1_1 l1_1.length c1_1]] (by rfl) rfl rfl (by (try simp only [List.map_toArray, List.map_cons, List.map_nil]); first | done | rfl) ?_
            with_reducible refine (toP_live HL131_.out R2.out R3.out K2.out K3.out).mono ?_
            rintro e w138_ ⟨B133_, c134_, B135_, c136_, rfl, HLn⟩
            refine ⟨_, rfl, ?_⟩
            have HL137_ := Aside0.mk HLn
            clear HLn HL131_
            clear hHeld
            refine hK.out _ _ ⟨HL137_.out.cell 11 rfl 0 rfl, HL137_.out.cell 11 rfl 1 rfl, HL137_.out.cell 10 rfl 0 rfl, HL137_.out.cell 10 rfl 1 rfl⟩ (fun hHeld => ?_)
            clear hK K
            refine norm_ (a' := ?_) ?_ ?_
            rotate_left
            · show Act.put _ (some 98) _ = _
              simp only [Act.put, List.setIfInBounds_toArray, List.set_cons_zero, List.set_cons_succ, i64_w, i32_w]
              rfl
            refine two_ (i := 4) (j := 8) (Ni := some 99) (Nj := some 15) #[true, true, true, true, true, false, false, false, false, false, false] #[true, true, true, true, false, false, false, false, true, false, false] rfl rfl rfl rfl (two_of HT_.out (by kernel_rfl)) (by decide) (by decide) (fun K hK => ?_) (fun K hK => ?_)
            · skip
              refine goes_ Try.func10 (by kernel_rfl) rfl #[.agg #[.slice B127_ l0_0.length c128_, .slice B129_ l0_1.length c130_], .agg #[.slice B133_ l1_0.length c134_, .slice B135_ l1_1.length c136_]] (by rfl) rfl rfl (by (try simp only [List.map_toArray, List.map_cons, List.map_nil]); first | done | rfl) ?_
              with_reducible refine (impl_live HL137_.out (HL137_.out.rd 2 rfl) (HL137_.out.rd 3 rfl) (HL137_.out.rd 0 rfl) (HL137_.out.rd 1 rfl) SU.out).mono ?_
              rintro e w144_ ⟨B139_, c140_, B141_, c142_, rfl, HLn⟩
              refine ⟨_, rfl, ?_⟩
              have HL143_ := Aside0.mk HLn
              clear HLn HL137_
              clear hHeld
              refine hK.out _ _ ⟨HL143_.out.cell 13 rfl 0 rfl, HL143_.out.cell 13 rfl 1 rfl, HL143_.out.cell 12 rfl 0 rfl, HL143_.out.cell 12 rfl 1 rfl⟩ (fun hHeld => ?_)
              clear hK K
              refine norm_ (a' := ?_) ?_ ?_
              rotate_left
              · show Act.put _ (some 99) _ = _
                simp only [Act.put, List.setIfInBounds_toArray, List.set_cons_zero, List.set_cons_succ, i64_w, i32_w]
                rfl
              refine pure_ (i := 5) (N := some 94) (v := ?_) (a' := ?_) #[true, true, true, true, true, true, false, false, false, false, false] rfl rfl (any_of HT_.out (by kernel_rfl)) (fun _ _ _ h => h) (Or.inl ⟨by rfl, ?_⟩) ?_ ?_
              rotate_left
              · intro w'
                go_simp
                with_reducible rfl
              rotate_left
              · simp only [Act.put, List.setIfInBounds_toArray, List.set_cons_zero, List.set_cons_succ, i64_w, i32_w]
                rfl
              refine pure_ (i := 6) (N := some 100) (v := ?_) (a' := ?_) #[true, true, true, true, true, true, true, false, false, false, false] rfl rfl (any_of HT_.out (by kernel_rfl)) (fun _ _ _ h => h) (Or.inl ⟨by rfl, ?_⟩) ?_ ?_
              rotate_left
              · intro w'
                go_simp
                with_reducible rfl
              rotate_left
              · simp only [Act.put, List.setIfInBounds_toArray, List.set_cons_zero, List.set_cons_succ, i64_w, i32_w]
                rfl
              refine pure_ (i := 7) (N := some 101) (v := ?_) (a' := ?_) #[true, true, true, true, true, true, true, true, false, false, false] rfl rfl (any_of HT_.out (by kernel_rfl)) (fun _ _ _ h => h) (Or.inl ⟨by rfl, ?_⟩) ?_ ?_
              rotate_left
              · intro w'
                go_simp
                with_reducible rfl
              rotate_left
              · simp only [Act.put, List.setIfInBounds_toArray, List.set_cons_zero, List.set_cons_succ, i64_w, i32_w]
                rfl
              refine one_ (i := 8) (N := some 15) #[true, true, true, true, true, true, true, true, true, false, false] rfl rfl (one_of HT_.out (by kernel_rfl)) (by decide) (fun K hK => ?_)
              refine box_step ?hg (N := 15) ?hd (cs := #[.slice none 0 0, .slice none 0 0]) (t := 26) ?hr ?_; (case hd => rfl); (case hg => rfl); (case hr => first | (go_simp; done) | (go_simp; rfl))
              intro g145_ hg w147_ hbox hb
              have HL146_ := Aside0.mk (HL143_.out.box hb hg hbox)
              clear hb hbox hg HL143_
              clear hHeld
              refine hK.out _ _ ⟨HL146_.out.cell 14 rfl 0 rfl, HL146_.out.cell 14 rfl 1 rfl, HL146_.out.cell 13 rfl 0 rfl, HL146_.out.cell 13 rfl 1 rfl⟩ (fun hHeld => ?_)
              clear hK K
              refine norm_ (a' := ?_) ?_ ?_
              rotate_left
              · show Act.put _ (some 15) _ = _
                simp only [Act.put, List.setIfInBounds_toArray, List.set_cons_zero, List.set_cons_succ, i64_w, i32_w]
                rfl
              exact norm_ (by simp only [putAll, Act.put, List.setIfInBounds_toArray, List.set_cons_zero, List.set_cons_succ]) (hCont (.agg #[.slice B127_ l0_0.length c128_, .slice B129_ l0_1.length c130_], .agg #[.slice B133_ l1_0.length c134_, .slice B135_ l1_1.length c136_], B139_, c140_, B141_, c142_, g145_) _ (HL146_.out.pick [0, 1, 2, 7, 8, 9, 10, 11, 12, 13, 14] (by decide) rfl))
            · skip
              refine box_step ?hg (N := 15) ?hd (cs := #[.slice none 0 0, .slice none 0 0]) (t := 26) ?hr ?_; (case hd => rfl); (case hg => rfl); (case hr => first | (go_simp; done) | (go_simp; rfl))
              intro g148_ hg w150_ hbox hb
              have HL149_ := Aside0.mk (HL137_.out.box hb hg hbox)
              clear hb hbox hg HL137_
              clear hHeld
              refine hK.out _ _ ⟨HL149_.out.cell 12 rfl 0 rfl, HL149_.out.cell 12 rfl 1 rfl, HL149_.out.cell 11 rfl 0 rfl, HL149_.out.cell 11 rfl 1 rfl⟩ (fun hHeld => ?_)
              clear hK K
              refine norm_ (a' := ?_) ?_ ?_
              rotate_left
              · show Act.put _ (some 15) _ = _
                simp only [Act.put, List.setIfInBounds_toArray, List.set_cons_zero, List.set_cons_succ, i64_w, i32_w]
                rfl
              refine one_ (i := 4) (N := some 99) #[true, true, true, true, true, false, false, false, true, false, false] rfl rfl (one_of HT_.out (by kernel_rfl)) (by decide) (fun K hK => ?_)
              refine goes_ Try.func10 (by kernel_rfl) rfl #[.agg #[.slice B127_ l0_0.length c128_, .slice B129_ l0_1.length c130_], .agg #[.slice B133_ l1_0.length c134_, .slice B135_ l1_1.length c136_]] (by rfl) rfl rfl (by (try simp only [List.map_toArray, List.map_cons, List.map_nil]); first | done | rfl) ?_
              with_reducible refine (impl_live HL149_.out (HL149_.out.rd 3 rfl) (HL149_.out.rd 4 rfl) (HL149_.out.rd 1 rfl) (HL149_.out.rd 2 rfl) SU.out).mono ?_
              rintro e w156_ ⟨B151_, c152_, B153_, c154_, rfl, HLn⟩
              refine ⟨_, rfl, ?_⟩
              have HL155_ := Aside0.mk HLn
              clear HLn HL149_
              clear hHeld
              refine hK.out _ _ ⟨HL155_.out.cell 14 rfl 0 rfl, HL155_.out.cell 14 rfl 1 rfl, HL155_.out.cell 13 rfl 0 rfl, HL155_.out.cell 13 rfl 1 rfl⟩ (fun hHeld => ?_)
              clear hK K
              refine norm_ (a' := ?_) ?_ ?_
              rotate_left
              · show Act.put _ (some 99) _ = _
                simp only [Act.put, List.setIfInBounds_toArray, List.set_cons_zero, List.set_cons_succ, i64_w, i32_w]
                rfl
              refine pure_ (i := 5) (N := some 94) (v := ?_) (a' := ?_) #[true, true, true, true, true, true, false, false, true, false, false] rfl rfl (any_of HT_.out (by kernel_rfl)) (fun _ _ _ h => h) (Or.inl ⟨by rfl, ?_⟩) ?_ ?_
              rotate_left
              · intro w'
                go_simp
                with_reducible rfl
              rotate_left
              · simp only [Act.put, List.setIfInBounds_toArray, List.set_cons_zero, List.set_cons_succ, i64_w, i32_w]
                rfl
              refine pure_ (i := 6) (N := some 100) (v := ?_) (a' := ?_) #[true, true, true, true, true, true, true, false, true, false, false] rfl rfl (any_of HT_.out (by kernel_rfl)) (fun _ _ _ h => h) (Or.inl ⟨by rfl, ?_⟩) ?_ ?_
              rotate_left
              · intro w'
                go_simp
                with_reducible rfl
              rotate_left
              · simp only [Act.put, List.setIfInBounds_toArray, List.set_cons_zero, List.set_cons_succ, i64_w, i32_w]
                rfl
              refine pure_ (i := 7) (N := some 101) (v := ?_) (a' := ?_) #[true, true, true, true, true, true, true, true, true, false, false] rfl rfl (any_of HT_.out (by kernel_rfl)) (fun _ _ _ h => h) (Or.inl ⟨by rfl, ?_⟩) ?_ ?_
              rotate_left
              · intro w'
                go_simp
                with_reducible rfl
              rotate_left
              · simp only [Act.put, List.setIfInBounds_toArray, List.set_cons_zero, List.set_cons_succ, i64_w, i32_w]
                rfl
              exact norm_ (by simp only [putAll, Act.put, List.setIfInBounds_toArray, List.set_cons_zero, List.set_cons_succ]) (hCont (.agg #[.slice B127_ l0_0.length c128_, .slice B129_ l0_1.length c130_], .agg #[.slice B133_ l1_0.length c134_, .slice B135_ l1_1.length c136_], B151_, c152_, B153_, c154_, g148_) _ (HL155_.out.pick [2, 0, 1, 7, 8, 9, 10, 11, 12, 13, 14] (by decide) rfl))
          · skip
            refine box_step ?hg (N := 15) ?hd (cs := #[.slice none 0 0, .slice none 0 0]) (t := 26) ?hr ?_; (case hd => rfl); (case hg => rfl); (case hr => first | (go_simp; done) | (go_simp; rfl))
            intro g157_ hg w159_ hbox hb
            have HL158_ := Aside0.mk (HL131_.out.box hb hg hbox)
            clear hb hbox hg HL131_
            clear hHeld
            refine hK.out _ _ ⟨HL158_.out.cell 10 rfl 0 rfl, HL158_.out.cell 10 rfl 1 rfl, HL158_.out.cell 9 rfl 0 rfl, HL158_.out.cell 9 rfl 1 rfl⟩ (fun hHeld => ?_)
            clear hK K
            refine norm_ (a' := ?_) ?_ ?_
            rotate_left
            · show Act.put _ (some 15) _ = _
              simp only [Act.put, List.setIfInBounds_toArray, List.set_cons_zero, List.set_cons_succ, i64_w, i32_w]
              rfl
            refine one_ (i := 3) (N := some 98) #[true, true, true, true, false, false, false, false, true, false, false] rfl rfl (one_of HT_.out (by kernel_rfl)) (by decide) (fun K hK => ?_)
            refine goes_ Try.func9 (by kernel_rfl) rfl #[.agg #[.slice A1_0 l1_0.length c1_0, .slice A1_1 l1_1.length c1_1]] (by rfl) rfl rfl (by (try simp only [List.map_toArray, List.map_cons, List.map_nil]); first | done | rfl) ?_
            with_reducible refine (toP_live HL158_.out R2.out R3.out K2.out K3.out).mono ?_
            rintro e w165_ ⟨B160_, c161_, B162_, c163_, rfl, HLn⟩
            refine ⟨_, rfl, ?_⟩
            have HL164_ := Aside0.mk HLn
            clear HLn HL158_
            clear hHeld
            refine hK.out _ _ ⟨HL164_.out.cell 12 rfl 0 rfl, HL164_.out.cell 12 rfl 1 rfl, HL164_.out.cell 11 rfl 0 rfl, HL164_.out.cell 11 rfl 1 rfl⟩ (fun hHeld => ?_)
            clear hK K
            refine norm_ (a' := ?_) ?_ ?_
            rotate_left
            · show Act.put _ (some 98) _ = _
              simp only [Act.put, List.setIfInBounds_toArray, List.set_cons_zero, List.set_cons_succ, i64_w, i32_w]
              rfl
            refine one_ (i := 4) (N := some 99) #[true, true, true, true, true, false, false, false, true, false, false] rfl rfl (one_of HT_.out (by kernel_rfl)) (by decide) (fun K hK => ?_)
            refine goes_ Try.func10 (by kernel_rfl) rfl #[.agg #[.slice B127_ l0_0.length c128_, .slice B129_ l0_1.length c130_], .agg #[.slice B160_ l1_0.length c161_, .slice B162_ l1_1.length c163_]] (by rfl) rfl rfl (by (try simp only [List.map_toArray, List.map_cons, List.map_nil]); first | done | rfl) ?_
            with_reducible refine (impl_live HL164_.out (HL164_.out.rd 3 rfl) (HL164_.out.rd 4 rfl) (HL164_.out.rd 0 rfl) (HL164_.out.rd 1 rfl) SU.out).mono ?_
            rintro e w171_ ⟨B166_, c167_, B168_, c169_, rfl, HLn⟩
            refine ⟨_, rfl, ?_⟩
            have HL170_ := Aside0.mk HLn
            clear HLn HL164_
            clear hHeld
            refine hK.out _ _ ⟨HL170_.out.cell 14 rfl 0 rfl, HL170_.out.cell 14 rfl 1 rfl, HL170_.out.cell 13 rfl 0 rfl, HL170_.out.cell 13 rfl 1 rfl⟩ (fun hHeld => ?_)
            clear hK K
            refine norm_ (a' := ?_) ?_ ?_
            rotate_left
            · show Act.put _ (some 99) _ = _
              simp only [Act.put, List.setIfInBounds_toArray, List.set_cons_zero, List.set_cons_succ, i64_w, i32_w]
              rfl
            refine pure_ (i := 5) (N := some 94) (v := ?_) (a' := ?_) #[true, true, true, true, true, true, false, false, true, false, false] rfl rfl (any_of HT_.out (by kernel_rfl)) (fun _ _ _ h => h) (Or.inl ⟨by rfl, ?_⟩) ?_ ?_
            rotate_left
            · intro w'
              go_simp
              with_reducible rfl
            rotate_left
            · simp only [Act.put, List.setIfInBounds_toArray, List.set_cons_zero, List.set_cons_succ, i64_w, i32_w]
              rfl
            refine pure_ (i := 6) (N := some 100) (v := ?_) (a' := ?_) #[true, true, true, true, true, true, true, false, true, false, false] rfl rfl (any_of HT_.out (by kernel_rfl)) (fun _ _ _ h => h) (Or.inl ⟨by rfl, ?_⟩) ?_ ?_
            rotate_left
            · intro w'
              go_simp
              with_reducible rfl
            rotate_left
            · simp only [Act.put, List.setIfInBounds_toArray, List.set_cons_zero, List.set_cons_succ, i64_w, i32_w]
              rfl
            refine pure_ (i := 7) (N := some 101) (v := ?_) (a' := ?_) #[true, true, true, true, true, true, true, true, true, false, false] rfl rfl (any_of HT_.out (by kernel_rfl)) (fun _ _ _ h => h) (Or.inl ⟨by rfl, ?_⟩) ?_ ?_
            rotate_left
            · intro w'
              go_simp
              with_reducible rfl
            rotate_left
            · simp only [Act.put, List.setIfInBounds_toArray, List.set_cons_zero, List.set_cons_succ, i64_w, i32_w]
              rfl
            exact norm_ (by simp only [putAll, Act.put, List.setIfInBounds_toArray, List.set_cons_zero, List.set_cons_succ]) (hCont (.agg #[.slice B127_ l0_0.length c128_, .slice B129_ l0_1.length c130_], .agg #[.slice B160_ l1_0.length c161_, .slice B162_ l1_1.length c163_], B166_, c167_, B168_, c169_, g157_) _ (HL170_.out.pick [4, 0, 1, 7, 8, 9, 10, 11, 12, 13, 14] (by decide) rfl))
        · skip
          refine box_step ?hg (N := 15) ?hd (cs := #[.slice none 0 0, .slice none 0 0]) (t := 26) ?hr ?_; (case hd => rfl); (case hg => rfl); (case hr => first | (go_simp; done) | (go_simp; rfl))
          intro g172_ hg w174_ hbox hb
          have HL173_ := Aside0.mk (HL126_.out.box hb hg hbox)
          clear hb hbox hg HL126_
          clear hHeld
          refine hK.out _ _ ⟨HL173_.out.cell 8 rfl 0 rfl, HL173_.out.cell 8 rfl 1 rfl, HL173_.out.cell 7 rfl 0 rfl, HL173_.out.cell 7 rfl 1 rfl⟩ (fun hHeld => ?_)
          clear hK K
          refine norm_ (a' := ?_) ?_ ?_
          rotate_left
          · show Act.put _ (some 15) _ = _
            simp only [Act.put, List.setIfInBounds_toArray, List.set_cons_zero, List.set_cons_succ, i64_w, i32_w]
            rfl
          refine one_ (i := 1) (N := some 96) #[true, true, true, false, false, false, false, false, true, false, false] rfl rfl (one_of HT_.out (by kernel_rfl)) (by decide) (fun K hK => ?_)
          refine goes_ Try.func9 (by kernel_rfl) rfl #[.agg #[.slice A0_0 l0_0.length c0_0, .slice A0_1 l0_1.length c0_1]] (by rfl) rfl rfl (by (try simp only [List.map_toArray, List.map_cons, List.map_nil]); first | done | rfl) ?_
          with_reducible refine (toP_live HL173_.out R0.out R1.out K0.out K1.out).mono ?_
          rintro e w180_ ⟨B175_, c176_, B177_, c178_, rfl, HLn⟩
          refine ⟨_, rfl, ?_⟩
          have HL179_ := Aside0.mk HLn
          clear HLn HL173_
          clear hHeld
          refine hK.out _ _ ⟨HL179_.out.cell 10 rfl 0 rfl, HL179_.out.cell 10 rfl 1 rfl, HL179_.out.cell 9 rfl 0 rfl, HL179_.out.cell 9 rfl 1 rfl⟩ (fun hHeld => ?_)
          clear hK K
          refine norm_ (a' := ?_) ?_ ?_
          rotate_left
          · show Act.put _ (some 96) _ = _
            simp only [Act.put, List.setIfInBounds_toArray, List.set_cons_zero, List.set_cons_succ, i64_w, i32_w]
            rfl
          refine one_ (i := 3) (N := some 98) #[true, true, true, true, false, false, false, false, true, false, false] rfl rfl (one_of HT_.out (by kernel_rfl)) (by decide) (fun K hK => ?_)
          refine goes_ Try.func9 (by kernel_rfl) rfl #[.agg #[.slice A1_0 l1_0.length c1_0, .slice A1_1 l1_1.length c1_1]] (by rfl) rfl rfl (by (try simp only [List.map_toArray, List.map_cons, List.map_nil]); first | done | rfl) ?_
          with_reducible refine (toP_live HL179_.out R2.out R3.out K2.out K3.out).mono ?_
          rintro e w186_ ⟨B181_, c182_, B183_, c184_, rfl, HLn⟩
          refine ⟨_, rfl, ?_⟩
          have HL185_ := Aside0.mk HLn
          clear HLn HL179_
          clear hHeld
          refine hK.out _ _ ⟨HL185_.out.cell 12 rfl 0 rfl, HL185_.out.cell 12 rfl 1 rfl, HL185_.out.cell 11 rfl 0 rfl, HL185_.out.cell 11 rfl 1 rfl⟩ (fun hHeld => ?_)
          clear hK K
          refine norm_ (a' := ?_) ?_ ?_
          rotate_left
          · show Act.put _ (some 98) _ = _
            simp only [Act.put, List.setIfInBounds_toArray, List.set_cons_zero, List.set_cons_succ, i64_w, i32_w]
            rfl
          refine one_ (i := 4) (N := some 99) #[true, true, true, true, true, false, false, false, true, false, false] rfl rfl (one_of HT_.out (by kernel_rfl)) (by decide) (fun K hK => ?_)
          refine goes_ Try.func10 (by kernel_rfl) rfl #[.agg #[.slice B175_ l0_0.length c176_, .slice B177_ l0_1.length c178_], .agg #[.slice B181_ l1_0.length c182_, .slice B183_ l1_1.length c184_]] (by rfl) rfl rfl (by (try simp only [List.map_toArray, List.map_cons, List.map_nil]); first | done | rfl) ?_
          with_reducible refine (impl_live HL185_.out (HL185_.out.rd 2 rfl) (HL185_.out.rd 3 rfl) (HL185_.out.rd 0 rfl) (HL185_.out.rd 1 rfl) SU.out).mono ?_
          rintro e w192_ ⟨B187_, c188_, B189_, c190_, rfl, HLn⟩
          refine ⟨_, rfl, ?_⟩
          have HL191_ := Aside0.mk HLn
          clear HLn HL185_
          clear hHeld
          refine hK.out _ _ ⟨HL191_.out.cell 14 rfl 0 rfl, HL191_.out.cell 14 rfl 1 rfl, HL191_.out.cell 13 rfl 0 rfl, HL191_.out.cell 13 rfl 1 rfl⟩ (fun hHeld => ?_)
          clear hK K
          refine norm_ (a' := ?_) ?_ ?_
          rotate_left
          · show Act.put _ (some 99) _ = _
            simp only [Act.put, List.setIfInBounds_toArray, List.set_cons_zero, List.set_cons_succ, i64_w, i32_w]
            rfl
          refine pure_ (i := 5) (N := some 94) (v := ?_) (a' := ?_) #[true, true, true, true, true, true, false, false, true, false, false] rfl rfl (any_of HT_.out (by kernel_rfl)) (fun _ _ _ h => h) (Or.inl ⟨by rfl, ?_⟩) ?_ ?_
          rotate_left
          · intro w'
            go_simp
            with_reducible rfl
          rotate_left
          · simp only [Act.put, List.setIfInBounds_toArray, List.set_cons_zero, List.set_cons_succ, i64_w, i32_w]
            rfl
          refine pure_ (i := 6) (N := some 100) (v := ?_) (a' := ?_) #[true, true, true, true, true, true, true, false, true, false, false] rfl rfl (any_of HT_.out (by kernel_rfl)) (fun _ _ _ h => h) (Or.inl ⟨by rfl, ?_⟩) ?_ ?_
          rotate_left
          · intro w'
            go_simp
            with_reducible rfl
          rotate_left
          · simp only [Act.put, List.setIfInBounds_toArray, List.set_cons_zero, List.set_cons_succ, i64_w, i32_w]
            rfl
          refine pure_ (i := 7) (N := some 101) (v := ?_) (a' := ?_) #[true, true, true, true, true, true, true, true, true, false, false] rfl rfl (any_of HT_.out (by kernel_rfl)) (fun _ _ _ h => h) (Or.inl ⟨by rfl, ?_⟩) ?_ ?_
          rotate_left
          · intro w'
            go_simp
            with_reducible rfl
          rotate_left
          · simp only [Act.put, List.setIfInBounds_toArray, List.set_cons_zero, List.set_cons_succ, i64_w, i32_w]
            rfl
          exact norm_ (by simp only [putAll, Act.put, List.setIfInBounds_toArray, List.set_cons_zero, List.set_cons_succ]) (hCont (.agg #[.slice B175_ l0_0.length c176_, .slice B177_ l0_1.length c178_], .agg #[.slice B181_ l1_0.length c182_, .slice B183_ l1_1.length c184_], B187_, c188_, B189_, c190_, g172_) _ (HL191_.out.pick [6, 0, 1, 7, 8, 9, 10, 11, 12, 13, 14] (by decide) rfl))
      rintro ⟨va_, vb_, Bg15, dg15, Eg15, fg15, g15⟩ w193_ HLn
      have HL194_ := Aside0.mk HLn
      clear HLn HL126_
      refine norm_ (a' := ?_) ?_ ?_
      rotate_left
      · simp only [putAll, Act.put, List.setIfInBounds_toArray, List.set_cons_zero, List.set_cons_succ]
        rfl
      refine one_ (i := 9) (N := none) #[true, true, true, true, true, true, true, true, true, true, false] rfl rfl (one_of HT_.out (by kernel_rfl)) (by decide) (fun K hK => ?_)
      have hs0 : w193_.cell? ⟨g15, 0, none⟩ = some (.slice none 0 0) := HL194_.out.cell 0 rfl 0 rfl
      have hs1 : w193_.cell? ⟨g15, 1, none⟩ = some (.slice none 0 0) := HL194_.out.cell 0 rfl 1 rfl
      have hf0 := HL194_.out.frozen 0 rfl 0
      have hf1 := HL194_.out.frozen 0 rfl 1
      refine skip_ (w1 := ((w193_.setCell ⟨g15, 0, none⟩ (.slice Bg15 x.length dg15)).setCell ⟨g15, 1, none⟩ (.slice Eg15 y.length fg15))) (by rfl) rfl ?_ ?_
      · go_simp
      have HL196_ : Aside0 (Live w ((w193_.setCell ⟨g15, 0, none⟩ (.slice Bg15 x.length dg15)).setCell ⟨g15, 1, none⟩ (.slice Eg15 y.length fg15)) _) := ⟨HL194_.out.put2⟩
      clear HL194_ hs0 hs1 hf0 hf1
      clear hHeld
      refine hK.out _ _ ⟨HL196_.out.cell 10 rfl 0 rfl, HL196_.out.cell 10 rfl 1 rfl, HL196_.out.cell 9 rfl 0 rfl, HL196_.out.cell 9 rfl 1 rfl⟩ (fun hHeld => ?_)
      clear hK K
      generalize ((w193_.setCell ⟨g15, 0, none⟩ (.slice Bg15 x.length dg15)).setCell ⟨g15, 1, none⟩ (.slice Eg15 y.length fg15)) = w195_ at HL196_ hHeld ⊢
      refine pure_ (i := 10) (N := some 16) (v := ?_) (a' := ?_) #[true, true, true, true, true, true, true, true, true, true, true] rfl rfl (any_of HT_.out (by kernel_rfl)) (fun _ _ _ h => h) (Or.inl ⟨by rfl, ?_⟩) ?_ ?_
      rotate_left
      · intro w'
        go_simp
        with_reducible rfl
      rotate_left
      · simp only [Act.put, List.setIfInBounds_toArray, List.set_cons_zero, List.set_cons_succ, i64_w, i32_w]
        rfl
      refine done_ (done_of HT_.out (by kernel_rfl)) ?_
      clear hHeld HT_ HW_
      have hc_g15_0 : w195_.cell? ⟨g15, 0, none⟩ = some (.slice Bg15 x.length dg15) := HL196_.out.cell 0 rfl 0 rfl
      have hc_g15_1 : w195_.cell? ⟨g15, 1, none⟩ = some (.slice Eg15 y.length fg15) := HL196_.out.cell 0 rfl 1 rfl
      have hc_g6_0 : w195_.cell? ⟨g6, 0, none⟩ = some (.slice Bg6 x.length dg6) := HL196_.out.cell 6 rfl 0 rfl
      have hc_g6_1 : w195_.cell? ⟨g6, 1, none⟩ = some (.slice Eg6 y.length fg6) := HL196_.out.cell 6 rfl 1 rfl
      go_wp2_with (first | ((with_reducible refine gate_callee (f := 11) rfl ?_); refine goesL_ (some 104) rfl rfl Try.func11 (by kernel_rfl) rfl #[.agg #[.slice Bg15 x.length dg15, .slice Eg15 y.length fg15], .agg #[.slice Bg6 x.length dg6, .slice Eg6 y.length fg6]] rfl (by (try simp only [List.map_toArray, List.map_cons, List.map_nil]); first | done | rfl) ?_; (with_reducible refine (eq_live HL196_.out (HL196_.out.rd 1 rfl) (HL196_.out.rd 2 rfl) (HL196_.out.rd 7 rfl) (HL196_.out.rd 8 rfl) (by have := KL.out; omega) (by have := KL.out; omega)).mono ?_); rintro e w198_ ⟨rfl, HLn⟩; refine ⟨_, rfl, ?_⟩; have HL197_ := Aside0.mk HLn; clear HLn HL196_; (try clear hc_g15_0 hc_g15_1 hc_g6_0 hc_g6_1); have hc_g10_0 : w198_.cell? ⟨g10, 0, none⟩ = some (.slice A10 x.length c10) := HL197_.out.cell 5 rfl 0 rfl; have hc_g10_1 : w198_.cell? ⟨g10, 1, none⟩ = some (.slice A10' y.length c10') := HL197_.out.cell 5 rfl 1 rfl) | ((with_reducible refine gate_callee (f := 13) rfl ?_); refine goesL_ (some 113) rfl rfl Try.func13 (by kernel_rfl) rfl #[.agg #[.slice A10 x.length c10, .slice A10' y.length c10'], .int .i64 1] rfl (by (try simp only [List.map_toArray, List.map_cons, List.map_nil]); first | done | rfl) ?_; (with_reducible refine (held_live HL197_.out (by have := KL.out; omega) (by have := KL.out; omega) (HL197_.out.rd 3 rfl) (HL197_.out.rd 4 rfl) E3.out).mono ?_); rintro e w200_ ⟨rfl, HLn⟩; refine ⟨_, rfl, ?_⟩; have HL199_ := Aside0.mk HLn; clear HLn HL197_; (try clear hc_g10_0 hc_g10_1)))
      go_ret
      exact ⟨rfl, HL199_.out.below⟩

end Go.Proofs.Ytdgpplnfkifkgaa.PFnExactAddProfiles
