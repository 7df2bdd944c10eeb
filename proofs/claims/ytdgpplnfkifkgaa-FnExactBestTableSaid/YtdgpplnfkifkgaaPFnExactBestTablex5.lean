/- Contracts of the Go functions that the law FnExactBestTable reaches, printed by a program of this session over the kit's print: each call comes to what the Lean function beside it says. Conditions: those that each theorem names. -/
import Derived.Test.YtdgpplnfkifkgaaPFnExactBestTablex0
import Derived.Test.YtdgpplnfkifkgaaPFnExactBestTablex1
import Derived.Test.YtdgpplnfkifkgaaPFnExactBestTablex2
import Derived.Test.YtdgpplnfkifkgaaPFnExactBestTablex3
import Derived.Test.YtdgpplnfkifkgaaPFnExactBestTablex4
namespace Go.Proofs.Ytdgpplnfkifkgaa.PFnExactBestTable
open Go.RowKit Go.Proofs.YtdgpplnfkifkgaaW.PrintWords Go.Proofs.YtdgpplnfkifkgaaW.PrintLast Go.Proofs.YtdgpplnfkifkgaaW.PrintMore
attribute [local go_sem] max2_int min2_int max_two min_two max_three min_three max_four min_four   -- for this text's walks alone
set_option linter.unusedVariables false
set_option linter.unusedSimpArgs false

/-! ### laws_FnExactBestTable: function 5 -/
open V
/-- The rows of offers that the call has made. -/
def orow (B : Nat) (ok : Nat → Prop) (v : Value) (xs : List S59) : Ob := ⟨ok, fun W => Kd.S k59 59 W B ok v xs⟩
def ORd (w : World) (A : Option Addr) (c : Nat) (l : List S59) : Prop := l.length ≤ c ∧ Kd.C k59 w A l.length l
def LRd (w : World) (A : Option Addr) (c : Nat) (l : List S54) : Prop := l.length ≤ c ∧ Kd.C k54 w A l.length l
/-- A row of numbers that is only read. -/
def frow (B : Nat) (ok : Nat → Prop) (v : Value) (xs : List Int) : Ob := ⟨ok, fun W => Kd.V (Kd.int .i64) 3 W B ok v xs⟩
section
variable {w0 w W : World} {L : List Ob} {A A0 A1 : Option Addr} {c c0 c1 n : Nat} {l : List S54} {y : List S59} {p q : List Int}
theorem orow_at {B b : Nat} {ok : Nat → Prop} {v : Value} (hr : Kd.S k59 59 w b ok v y) (hB : B ≤ b) : At (orow B (fun k => b ≤ k ∧ k < w.heap.size) v y) b w :=
  ⟨fun k hk => hk.1, fun k hk => hk.2, fun W hW => Kd.S_lower (Kd.S_step (Kd.S_mono (Kd.S_bound hr) (fun k hk => ⟨hk.2.1, hk.2.2.1⟩)) (fun k hk _ => hW k hk)) hB⟩
theorem frow_at {B b : Nat} {ok : Nat → Prop} {v : Value} (hr : Kd.V (Kd.int .i64) 3 w b ok v p) (hok : ∀ k, ok k → b ≤ k) (hB : B ≤ b) : At (frow B (fun k => b ≤ k ∧ k < w.heap.size) v p) b w := by
  refine ⟨fun k hk => hk.1, fun k hk => hk.2, fun W hW => ?_⟩
  obtain ⟨A, c, rfl, hl, hf⟩ := hr
  exact ⟨A, c, rfl, hl, Kd.F_step (Kd.F_mono (Kd.F_bound hf) (fun k hk => ⟨hok k hk.1, hk.2⟩)) (fun k hk _ => hW k hk)⟩
theorem ord_of (h : Live w0 w L) (i : Nat) {B : Nat} {ok : Nat → Prop} (hi : L[i]? = some (orow B ok (.slice A n c) y)) : ORd w A c y := by
  obtain ⟨h1, h2, h3⟩ := Kd.S_reads' (h.get i hi)
  exact ⟨h1 ▸ h2, h3⟩
theorem frd_of (h : Live w0 w L) (i : Nat) {B : Nat} {ok : Nat → Prop} (hi : L[i]? = some (frow B ok (.slice A p.length c) p)) : Rd w A c p := by
  obtain ⟨A', c', e, hl, hf⟩ := h.get i hi
  injection e with e1 e2 e3
  subst e1; subst e3
  exact ⟨hl, Kd.F_now hf⟩
theorem lrd_of (h : Live w0 w L) (hr : LRd w0 A c l) : LRd w A c l := ⟨hr.1, h.came hr.2⟩
theorem szO_live (HL : Live w0 w L) (h0 : LRd w0 A0 c0 l) {a r : Int} (hf : laws_szOfferS.f l a = some r) :
    Calls Try.prog 14 #[.slice A0 l.length c0, .int .i64 a] w fun e w' => e = .returned (.int .i64 r) ∧ Live w0 w' L :=
  (laws_szOfferS.calls _ _ l a r _ (lrd_of HL h0).2 h0.1 hf).mono fun e w' ⟨he, hb⟩ => ⟨he, HL.later hb⟩
theorem toO_live (HL : Live w0 w L) (h0 : LRd w0 A0 c0 l) (hf : laws_toOfferS.f l = some y) :
    Calls Try.prog 16 #[.slice A0 l.length c0] w fun e w' => ∃ B d ok, e = .returned (.slice B y.length d) ∧ Live w0 w' (orow w0.heap.size ok (.slice B y.length d) y :: L) := by
  refine (laws_toOfferS.calls _ _ l y _ (lrd_of HL h0).2 h0.1 hf).mono ?_
  rintro e w' ⟨v0, rfl, g0, hb⟩
  obtain ⟨B, d, rfl⟩ := Kd.S_slice g0
  exact ⟨B, d, _, rfl, HL.new hb (orow_at g0 HL.below.size)⟩
theorem eqO_live (HL : Live w0 w L) (h0 : ORd w A0 c0 y) (h1 : ORd w A1 c1 y) (l0 : y.length ≤ 1048576) (l1 : ∀ x ∈ y, x.f0.length ≤ 1048576) :
    Calls Try.prog 18 #[.slice A0 y.length c0, .slice A1 y.length c1] w fun e w' => e = .returned (.bool true) ∧ Live w0 w' L :=
  (laws_eqOfferS.calls _ _ y _ _ y true _ h0.2 h0.1 h1.2 h1.1 (laws_eqOfferS.self y l0 l1)).mono fun e w' ⟨he, hb⟩ => ⟨he, HL.later hb⟩
/-- A size that is not below zero: the lengths' sum is bounded. -/
theorem szL_sum : ∀ (ns : List Nat) (left : Int), 0 ≤ left → ¬ M.szL ns left < 0 → (ns.sum : Int) ≤ left
  | [], left, h, _ => by simpa using h
  | m :: ns, left, h0, h => by
    unfold M.szL at h
    by_cases c : left - m < 0
    · rw [if_pos c] at h; omega
    · rw [if_neg c] at h
      have := szL_sum ns (left - m) (by omega) h
      rw [List.sum_cons]; omega
theorem sz_sum {len : Nat} {ns : List Nat} {left : Int} (h : ¬ M.sz len ns left < 0) : (ns.sum : Int) ≤ left - len := by
  unfold M.sz at h
  by_cases c : left - len < 0
  · rw [if_pos c] at h; omega
  · rw [if_neg c] at h
    exact szL_sum ns _ (by omega) h
theorem sum_ge {ns : List Nat} {n : Nat} (h : n ∈ ns) : n ≤ ns.sum := by
  induction ns with
  | nil => cases h
  | cons m ns ih =>
    rw [List.sum_cons]
    rcases List.mem_cons.1 h with rfl | h
    · omega
    · have := ih h; omega
/-- What the law's guard tells of the offers that came in. -/
theorem came_sizes {w : World} (hr : Kd.C k54 w A l.length l) : (l.length ≤ 9223372036854775807 ∧ ∀ x ∈ l, x.f0.length ≤ 9223372036854775807) := by
  refine ⟨hr.2.1, fun x hx => ?_⟩
  obtain ⟨i, hi, rfl⟩ := List.mem_iff_getElem.1 hx
  obtain ⟨_, _, _, _, _, _, h4⟩ := at_T54 hr (i : Int) (by omega) (by omega)
  have e : rd_T54 l (i : Int) = l[i] := by unfold rd_T54; simp [hi]
  rw [e] at h4
  exact h4.2.1
theorem sz_case {w : World} (hr : Kd.C k54 w A l.length l) : ∃ r, laws_szOfferS.f l 1048576 = some r ∧ (r < 0 ∨ 0 ≤ r ∧ ∃ y, laws_toOfferS.f l = some y ∧ y.length ≤ 1048576 ∧ (∀ x ∈ y, x.f0.length ≤ 1048576) ∧ (y.map fun x => x.f0.length).sum ≤ 1048576) := by
  refine ⟨M.sz l.length (l.map fun x => x.f0.length) 1048576, ?_, ?_⟩
  · unfold laws_szOfferS.f
    rw [if_pos ⟨came_sizes hr, by omega, by omega⟩]
  · by_cases c : M.sz l.length (l.map fun x => x.f0.length) 1048576 < 0
    · exact Or.inl c
    · refine Or.inr ⟨by omega, ?_⟩
      have d := M.sz_ok c
      have e := sz_sum c
      have g1 : l.length ≤ 1048576 := by omega
      have g2 : ∀ x ∈ l, x.f0.length ≤ 1048576 := fun x hx => by
        have := d.2 x.f0.length (List.mem_map_of_mem (f := fun x : S54 => x.f0.length) hx)
        omega
      refine ⟨_, laws_toOfferS.eq l g1 g2, by rw [List.length_map]; exact g1, fun x hx => ?_, ?_⟩
      · obtain ⟨z, hz, rfl⟩ := List.mem_map.1 hx
        exact g2 z hz
      · rw [List.map_map]
        have : (fun x : S59 => x.f0.length) ∘ (fun x : S54 => (⟨x.f0⟩ : S59)) = fun x => x.f0.length := rfl
        rw [this]
        omega
end

/-- Marks over each offer's gains: nothing but the offers' own blocks is written. -/
theorem sum_set (y : List S59) (i : Nat) (r : List Int) (h : i < y.length) (hr : r.length = (y.getD i z59).f0.length) : ((y.set i ⟨r⟩).map fun x => x.f0.length) = (y.map fun x => x.f0.length) := by
  rw [List.map_set]
  have e : (y.map fun x => x.f0.length)[i]'(by simpa using h) = r.length := by rw [hr]; simp [h]
  rw [← e, List.set_getElem_self]
set_option maxHeartbeats 8000000 in
set_option maxRecDepth 100000 in
theorem markO_calls {w0 w : World} (B : Option Addr) (c0 : Nat) (ok : Nat → Prop) (y : List S59) (hB : Below w0.heap.size w0 w) (hok : ∀ k, ok k → k < w.heap.size) (hS : Kd.S k59 59 w w0.heap.size ok (.slice B y.length c0) y) (hl : y.length ≤ 1048576) (hs : (y.map fun x => x.f0.length).sum ≤ 1048576) :
    Calls Try.prog 22 #[.slice B y.length c0, .int .i64 1] w fun e w' => ∃ r : Int, e = .returned (.int .i64 r) ∧ 0 ≤ r ∧ Below w0.heap.size w0 w' ∧ Kept w w' ok := by
  have hu59 := Try.underlying59
  have HS := Aside0.mk hS
  have HB := Aside0.mk hB
  have HK := Aside0.mk (Kept.refl w ok)
  have HL := Aside0.mk hl
  have HM := Aside0.mk hs
  have OK_ := Aside0.mk hok
  clear hS hB hl hs hok
  obtain ⟨ns, hns⟩ : ∃ ns, (y.map fun x => x.f0.length) = ns := ⟨_, rfl⟩
  have HNS : Aside0 (ns.length = y.length ∧ ns.sum ≤ 1048576) := ⟨by rw [← hns]; exact ⟨by simp, HM.out⟩⟩
  have HN := Aside0.mk hns
  clear hns HM
  go_enter Try.func22, Try.ntmps22
  go_wp2
  go_loopg [1, 5] y.length (fun gg v1 v5 w' => ∃ (z : List S59) (a j : Int), v1 = .int .i64 a ∧ v5 = .int .i64 j ∧ Aside0 (0 ≤ j ∧ j ≤ (y.length : Int) ∧ y.length - j.toNat ≤ gg) ∧ Aside0 (0 ≤ a ∧ a ≤ 1 + ((ns.take j.toNat).sum : Int)) ∧ Aside0 (z.length = y.length ∧ (z.map fun x => x.f0.length) = ns) ∧ Aside0 (Kd.S k59 59 w' w0.heap.size ok (.slice B y.length c0) z) ∧ Aside0 (Kept w w' ok) ∧ Aside0 (Below w0.heap.size w0 w'))
  case atStart => exact ⟨y, 1, 0, rfl, rfl, ⟨by omega⟩, ⟨by simp⟩, ⟨rfl, HN.out⟩, ⟨by (with_reducible repeat (first | apply Kd.S_alloc | apply Kd.S_drewN | apply Kd.S_drew)); exact HS.out⟩, ⟨by repeat (first | (with_reducible first | exact HK.out | apply Kept.alloc | apply Kept.drewN | apply Kept.drew) | exact HK.out)⟩, ⟨by repeat (first | (with_reducible first | exact HB.out | apply below_alloc | apply pw_below_drewN | apply below_drew1) | exact HB.out)⟩⟩
  case round =>
    clear HS HK HB
    obtain ⟨z, a, j, rfl, rfl, HJ, HA, HZ, HS, HK, HB⟩ := hrel
    by_cases hlt : j < (y.length : Int)
    case neg =>
      have c11b0 : decide (j < (y.length : Int)) = false := decide_eq_false hlt
      clear hlt
      go_wp2
      go_ret
      exact ⟨a, rfl, HA.out.1, by repeat (first | (with_reducible first | exact HB.out | apply below_alloc | apply pw_below_drewN | apply below_drew1) | exact HB.out), by repeat (first | (with_reducible first | exact HK.out | apply Kept.alloc | apply Kept.drewN | apply Kept.drew) | exact HK.out)⟩
    have c11b0 : decide (j < (y.length : Int)) = true := decide_eq_true hlt
    have p1 : 0 ≤ j := HJ.out.1
    have hjl : j.toNat < z.length := by have := HZ.out.1; omega
    obtain ⟨gz, cz, ez, _, _, _⟩ := Kd.S_form HS.out (by omega)
    injection ez with ez1 ez2 ez3
    subst ez1
    clear ez2 ez3
    obtain ⟨oki, cs, hcl, hM, hcc, hfr, hoki, hH⟩ := Kd.S_elem HS.out z59 j p1 hlt
    obtain ⟨vi, rfl, hR⟩ := k59_openM hM
    have hxc := hcc 0 _ rfl
    rw [show k59.sz = 1 from rfl, Nat.mul_one, Nat.add_zero] at hxc
    obtain ⟨q, hq⟩ : ∃ q, (z.getD j.toNat z59).f0 = q := ⟨_, rfl⟩
    rw [hq] at hR
    have hqn : q.length = ns.getD j.toNat 0 := by rw [← hq, ← HZ.out.2]; simp [hjl]
    have hlast : (ns.take (j.toNat + 1)).sum = (ns.take j.toNat).sum + q.length := by
      have hn : j.toNat < ns.length := by have := HNS.out.1; omega
      rw [List.take_succ_eq_append_getElem hn, List.sum_append, hqn]
      simp [hn]
    have hall : (ns.take (j.toNat + 1)).sum ≤ ns.sum := by
      have h := List.take_append_drop (j.toNat + 1) ns
      have h2 : ((ns.take (j.toNat + 1)) ++ (ns.drop (j.toNat + 1))).sum = ns.sum := by rw [h]
      rw [List.sum_append] at h2; omega
    have HQ : Aside0 (q.length ≤ 1048576 ∧ 0 ≤ a ∧ a ≤ 2097152) := ⟨by have := HA.out; have := HNS.out; omega⟩
    have HR := Aside0.mk (Kd.R_tight rfl hR)
    have HO := Aside0.mk (hR.1)
    have HH := Aside0.mk hH
    have HI := Aside0.mk hoki
    have EQ := Aside0.mk hq
    have HT := Aside0.mk hlast
    have P1 := Aside0.mk p1
    have Q1 := Aside0.mk hlt
    have HJL := Aside0.mk hjl
    clear hcc hfr hoki hH hM hcl hR hq hqn hlast hall hjl
    replace p1 := eq_true p1
    replace hlt := eq_true hlt
    go_wp2_with (first | ((with_reducible refine gate_callee (f := 23) rfl ?_); refine goesL_ (some 18) rfl rfl Try.func23 (by kernel_rfl) rfl #[vi, .int .i64 a] rfl (by (try simp only [List.map_toArray, List.map_cons, List.map_nil]); first | done | rfl) ?_; (with_reducible refine (laws_markIntS.calls (fun k => some k = vi.ownBlock) vi q a (a + q.length) (M.upFrom a q.length) w0 _ ?s1 ?s2 ?s3).mono ?_); (case s1 => exact HB.out); (case s2 => exact HR.out); (case s3 => unfold laws_markIntS.f; rw [if_pos HQ.out]); rintro e w2 ⟨rfl, hr2, hb2, hk2⟩; refine ⟨_, rfl, ?_⟩; have n0_ : Aside0 (Kd.S k59 59 w2 w0.heap.size ok (.slice (some ⟨gz, 0, none⟩) y.length c0) (z.set j.toNat ⟨M.upFrom a q.length⟩)) := ⟨Kd.H_back (Kd.H_kept HH.out hk2 (fun k _ hn hk => hn (HO.out k hk.symm))) (k59_mkM w2 w0.heap.size (fun k => some k = vi.ownBlock) ⟨M.upFrom a q.length⟩ (Kd.R_tight rfl hr2)) (fun k hk => HO.out k hk.symm)⟩; have n1_ := Aside0.mk (HK.out.then_ hk2 (fun k hk => Or.inl ((HI.out k (HO.out k hk.symm)).1))); have n2_ := Aside0.mk hb2; clear HS HK HB hb2 hk2 hr2; have HS := n0_; have HK := n1_; have HB := n2_; clear n0_ n1_ n2_))
    have hwj : Aside0 (wrap64 (j + 1) = j + 1) := ⟨M.wrap_id (by have := P1.out; omega) (by have := Q1.out; have := HL.out; omega)⟩
    go_roundg (y.length - (j + 1).toNat)
    case measure => have := HJ.out; have := Q1.out; omega
    case rel =>
      exact ⟨z.set j.toNat ⟨M.upFrom a q.length⟩, a + q.length, wrap64 (j + 1), (by first | rfl | (simp; done)), (by first | rfl | (simp; done)), ⟨by rw [hwj.out]; have := HJ.out; have := Q1.out; omega⟩, ⟨by
        rw [hwj.out, show (j + 1).toNat = j.toNat + 1 by have := P1.out; omega, HT.out]; have := HA.out; omega⟩, ⟨by rw [List.length_set]; exact HZ.out.1, by rw [sum_set z j.toNat _ HJL.out (by rw [M.upFrom_length, EQ.out])]; exact HZ.out.2⟩, ⟨by (with_reducible repeat (first | apply Kd.S_alloc | apply Kd.S_drewN | apply Kd.S_drew)); exact HS.out⟩, ⟨by repeat (first | (with_reducible first | exact HK.out | apply Kept.alloc | apply Kept.drewN | apply Kept.drew) | exact HK.out)⟩, ⟨by repeat (first | (with_reducible first | exact HB.out | apply below_alloc | apply pw_below_drewN | apply below_drew1) | exact HB.out)⟩⟩

open V
section
variable {w0 w W : World} {L : List Ob} {A A0 A1 : Option Addr} {c c0 c1 n : Nat} {y : List S59} {p q : List Int}
theorem markO_live {ok : Nat → Prop} (HL : Live w0 w (orow w0.heap.size ok (.slice A y.length c) y :: L)) (hl : y.length ≤ 1048576) (hs : (y.map fun x => x.f0.length).sum ≤ 1048576) :
    Calls Try.prog 22 #[.slice A y.length c, .int .i64 1] w fun e w' => ∃ r : Int, e = .returned (.int .i64 r) ∧ decide (r < 0) = false ∧ Live w0 w' L := by
  have ho := HL.all _ (List.mem_cons_self ..)
  refine (markO_calls A c ok y HL.below ho.hi (HL.get 0 rfl) hl hs).mono ?_
  rintro e w' ⟨r, rfl, h0, hb, hk⟩
  exact ⟨r, rfl, decide_eq_false (by omega), (HL.wrote (p := ⟨fun _ => False, fun _ => True⟩) hb hk (fun _ h => h.elim) (fun _ _ => trivial)).tail⟩
theorem markI_live {u : Value} (HL : Live w0 w (row w0.heap.size u p :: L)) (l0 : p.length ≤ 1048576) {z : Int} (hz : 1 + (p.length : Int) = z) :
    Calls Try.prog 23 #[u, .int .i64 1] w fun e w' => e = .returned (.int .i64 z) ∧ Live w0 w' (row w0.heap.size u (M.upFrom 1 p.length) :: L) := by
  subst hz
  refine (laws_markIntS.calls (fun k => some k = u.ownBlock) u p 1 _ _ w0 _ HL.below (HL.get 0 rfl) (laws_markIntS.eq p l0)).mono ?_
  rintro e w' ⟨rfl, g0, hb, hk⟩
  exact ⟨rfl, HL.wrote hb hk (fun _ h => h) (fun W hW => Kd.R_step (Kd.R_tight rfl g0) (fun k hk _ => hW k hk))⟩
theorem heldI_live (HL : Live w0 w L) {m : Nat} (l0 : m ≤ 1048576) (h0 : Rd w A0 c0 (M.upFrom 1 m)) {z : Int} (hz : 1 + (m : Int) = z) :
    Calls Try.prog 24 #[.slice A0 m c0, .int .i64 1] w fun e w' => e = .returned (.int .i64 z) ∧ Live w0 w' L := by
  subst hz
  have h := laws_heldIntS.calls _ _ (M.upFrom 1 m) 1 (1 + (m : Int)) _ h0.2 h0.1 (laws_heldIntS.eq m l0)
  rw [M.upFrom_length] at h
  exact h.mono fun e w' ⟨he, hb⟩ => ⟨he, HL.later hb.below⟩
theorem eqI_live (HL : Live w0 w L) (h0 : Rd w A0 c0 p) (h1 : Rd w A1 c1 p) (l0 : p.length ≤ 1048576) :
    Calls Try.prog 21 #[.slice A0 p.length c0, .slice A1 p.length c1] w fun e w' => e = .returned (.bool true) ∧ Live w0 w' L :=
  (laws_eqIntS.calls _ _ p _ _ p true _ h0.2 h0.1 h1.2 h1.1 (laws_eqIntS.self p l0)).mono fun e w' ⟨he, hb⟩ => ⟨he, HL.later hb.below⟩
end

/-- What both answer. -/
def btV (l : List S59) (a : Int) : List Int × Bool := if M.offersOk (fun x : S59 => x.f0) l = true ∧ (0 ≤ a ∧ a ≤ 40) then (rd_L1 (M.rowsFrom (fun x : S59 => x.f0) (List.replicate (a + 1).toNat 0) l) (l.length : Int), true) else ([], false)
theorem tabF {l : List S59} {a : Int} (h : M.offersOk (fun x : S59 => x.f0) l = true ∧ (0 ≤ a ∧ a ≤ 40)) : (0 ≤ a ∧ a ≤ 1000) ∧ l.length ≤ 1048576 ∧ ∀ x ∈ l, x.f0.length ≤ 1048576 := by
  obtain ⟨h1, h2⟩ := M.offersOk_iff.1 h.1
  exact ⟨by omega, by omega, fun x hx => by have := (M.offOk_iff.1 (h2 x hx)).1; omega⟩
theorem btV_len (l : List S59) (a : Int) : (btV l a).1.length ≤ 1048576 := by
  unfold btV
  split
  · rename_i h
    show (rd_L1 _ _).length ≤ _
    unfold rd_L1
    rw [Int.toNat_natCast, M.rowsFrom_at _ (n := (a + 1).toNat) l _ (by simp) (Nat.le_refl _)]
    omega
  · simp
theorem spec_BestTable.eq (l : List S59) (a : Int) (h1 : l.length ≤ 1048576) (h2 : ∀ x ∈ l, x.f0.length ≤ 1048576) : spec_BestTable.f l a = some (btV l a) := by
  unfold spec_BestTable.f spec_GoodOffers.f
  rw [if_pos ⟨h1, h2⟩]
  simp only [Option.bind_some, spec_l6Places.eq]
  by_cases c1 : M.offersOk (fun x : S59 => x.f0) l = true
  · rw [if_pos c1]
    by_cases c2 : 0 ≤ a ∧ a ≤ 40
    · have e : (decide (0 ≤ a) && decide (a ≤ 40)) = true := by simp [c2]
      rw [if_pos e]
      unfold spec_l6Rows.f btV
      rw [if_pos (tabF ⟨c1, c2⟩), if_pos ⟨c1, c2⟩]
      simp only [Option.bind_some]
      rw [if_pos (by omega), if_pos (by rw [M.rowsFrom_length]; omega)]
    · have e : ¬ (decide (0 ≤ a) && decide (a ≤ 40)) = true := by simp; omega
      unfold btV
      rw [if_neg e, if_neg (fun h => c2 h.2)]
  · unfold btV
    rw [if_neg c1, if_neg (fun h => c1 h.1)]
theorem spec_bt_live {w0 w : World} {L : List Ob} {A0 : Option Addr} {c0 : Nat} {y : List S59} (HL : Live w0 w L) (h0 : ORd w A0 c0 y) (h1 : y.length ≤ 1048576) (h2 : ∀ x ∈ y, x.f0.length ≤ 1048576) {a : Int} {p : List Int} {b : Bool} (hf : btV y a = (p, b)) :
    Calls Try.prog 19 #[.slice A0 y.length c0, .int .i64 a] w fun e w' => ∃ B d ok, e = .returned (.tuple #[.slice B p.length d, .bool b]) ∧ Live w0 w' (frow w0.heap.size ok (.slice B p.length d) p :: L) := by
  refine (spec_BestTable.calls _ _ y a p b _ h0.2 h0.1 (by rw [spec_BestTable.eq y a h1 h2, hf])).mono ?_
  rintro e w' ⟨v0, rfl, g0, hb⟩
  have hg := frow_at (B := w0.heap.size) g0 (fun k hk => hk) HL.below.size
  obtain ⟨B, d, rfl, _⟩ := g0
  exact ⟨B, d, _, rfl, HL.new hb hg⟩
set_option maxHeartbeats 8000000 in
set_option maxRecDepth 100000 in
theorem impl_bt_live {w0 w : World} {L : List Ob} {A0 : Option Addr} {c0 : Nat} {y : List S59} (HL : Live w0 w L) (h0 : ORd w A0 c0 y) {a : Int} {p : List Int} {b : Bool} (hf : btV y a = (p, b)) :
    Calls Try.prog 20 #[.slice A0 y.length c0, .int .i64 a] w fun e w' => ∃ B d, e = .returned (.tuple #[.slice B p.length d, .bool b]) ∧ Live w0 w' (row w0.heap.size (.slice B p.length d) p :: L) := by
  suffices h : Calls Try.prog 20 #[.slice A0 y.length c0, .int .i64 a] w fun e w' => ∃ v0_ ok, e = .returned (.tuple #[v0_, .bool b]) ∧ Kd.R (Kd.int .i64) 3 w' w.heap.size ok v0_ p ∧ Below w.heap.size w w' by
    refine h.mono ?_
    rintro e w' ⟨v0, ok, rfl, g0, hb⟩
    obtain ⟨B, d, rfl⟩ := Kd.R_slice g0
    exact ⟨B, d, rfl, HL.row hb g0⟩
  have HR0 := Aside0.mk h0.2
  have HC0 := Aside0.mk h0.1
  have HB := Aside0.mk (Below.refl w.heap.size w)
  clear HL h0
  by_cases c : M.offersOk (fun x : S59 => x.f0) y = true ∧ (0 ≤ a ∧ a ≤ 40)
  · unfold btV at hf
    rw [if_pos c] at hf
    simp only [Prod.mk.injEq] at hf
    obtain ⟨hp, rfl⟩ := hf
    have E1 : Aside0 (impl_isOffered.f y a = some true) := ⟨by rw [impl_isOffered.eq, if_pos c]⟩
    obtain ⟨RS, hRS⟩ : ∃ RS, M.rowsFrom (fun x : S59 => x.f0) (List.replicate (a + 1).toNat 0) y = RS := ⟨_, rfl⟩
    have E2 : Aside0 (impl_tables.f y a = some RS) := ⟨by unfold impl_tables.f; rw [if_pos (tabF c), hRS]⟩
    have E3 : Aside0 (RS.length = y.length + 1) := ⟨by rw [← hRS, M.rowsFrom_length]⟩
    rw [hRS] at hp
    have E4 := Aside0.mk hp
    clear hp hRS c
    have p1 : (0 ≤ (y.length : Int)) = True := eq_true (by omega)
    have q1 : ((y.length : Int) < (RS.length : Int)) = True := eq_true (by have := E3.out; omega)
    go_enter Try.func20, Try.ntmps20
    go_wp2_with (first | ((with_reducible refine gate_callee (f := 37) rfl ?_); refine goesL_ (some 8) rfl rfl Try.func37 (by kernel_rfl) rfl #[.slice A0 y.length c0, .int .i64 a] rfl (by (try simp only [List.map_toArray, List.map_cons, List.map_nil]); first | done | rfl) ?_; (with_reducible refine (impl_isOffered.calls _ _ y a true _ ?s1 HC0.out E1.out).mono ?_); (case s1 => exact HR0.out); rintro e w8 ⟨rfl, hb⟩; refine ⟨_, rfl, ?_⟩; clear HB; have HB := Aside0.mk hb; clear hb) | ((with_reducible refine gate_callee (f := 41) rfl ?_); refine goesL_ (some 12) rfl rfl Try.func41 (by kernel_rfl) rfl #[.slice A0 y.length c0, .int .i64 a] rfl (by (try simp only [List.map_toArray, List.map_cons, List.map_nil]); first | done | rfl) ?_; (with_reducible refine (impl_tables.callsR _ _ y a RS _ ?s1 HC0.out E2.out).mono ?_); (case s1 => exact Kd.C_below HR0.out HB.out); rintro e w9 ⟨v, rfl, ho, hb⟩; refine ⟨_, rfl, ?_⟩; have n0_ := Aside0.mk (Kd.R_lower ho (below_size HB.out)); have n1_ := Aside0.mk (below_step HB.out hb); clear HB ho hb; have HO := n0_; have HB := n1_; clear n0_ n1_; obtain ⟨go, co, eo, _, _, _⟩ := Kd.R_form HO.out (by have := E3.out; omega); subst eo; obtain ⟨ce, hce, hMe, hcc⟩ := Kd.R_getA HO.out [] (y.length : Int) (by omega) (by have := E3.out; omega); obtain ⟨vv, rfl, hR⟩ := hMe; have hv := hcc 0 _ rfl; rw [Nat.add_zero, show ((Kd.slice 3 (Kd.int .i64))).sz = 1 from rfl, Nat.mul_one, add_plain, Int.toNat_natCast] at hv; have HRR := Aside0.mk hR; clear hR hcc hce))
    go_ret2
    exact ⟨vv, _, rfl, by rw [← E4.out]; exact HRR.out, HB.out⟩
  · unfold btV at hf
    rw [if_neg c] at hf
    simp only [Prod.mk.injEq] at hf
    obtain ⟨rfl, rfl⟩ := hf
    have E1 : Aside0 (impl_isOffered.f y a = some false) := ⟨by rw [impl_isOffered.eq, if_neg c]⟩
    clear c
    go_enter Try.func20, Try.ntmps20
    go_wp2_with (first | ((with_reducible refine gate_callee (f := 37) rfl ?_); refine goesL_ (some 8) rfl rfl Try.func37 (by kernel_rfl) rfl #[.slice A0 y.length c0, .int .i64 a] rfl (by (try simp only [List.map_toArray, List.map_cons, List.map_nil]); first | done | rfl) ?_; (with_reducible refine (impl_isOffered.calls _ _ y a false _ ?s1 HC0.out E1.out).mono ?_); (case s1 => exact HR0.out); rintro e w8 ⟨rfl, hb⟩; refine ⟨_, rfl, ?_⟩; clear HB; have HB := Aside0.mk hb; clear hb))
    go_ret2
    exact ⟨.slice none 0 0, fun _ => True, rfl, Kd.R_nil _ _ _ _ _, HB.out⟩

def laws_FnExactBestTable.f (l0 : List S54) (a1 : Int) : Option Bool := some true
set_option maxHeartbeats 8000000 in
set_option maxRecDepth 100000 in
theorem laws_FnExactBestTable.calls (A0 : Option Addr) (c0 : Nat) (l0 : List S54) (a1 : Int) (r : Bool) (w : World) (hr0 : Kd.C k54 w A0 l0.length l0) (hc0 : l0.length ≤ c0) (h : laws_FnExactBestTable.f l0 a1 = some r) :
    Calls Try.prog 5 #[.slice A0 l0.length c0, .int .i64 a1] w fun e w' => e = .returned (.bool r) ∧ Below w.heap.size w w' := by
  obtain rfl := Option.some.inj h
  clear h
  obtain ⟨r1, hs1, hcase⟩ := sz_case hr0
  have R0 : Aside0 (LRd w A0 c0 l0) := ⟨⟨hc0, hr0⟩⟩
  have HL0 := Aside0.mk (Live.start w)
  have S1 := Aside0.mk hs1
  clear hr0 hc0 hs1
  rcases hcase with hneg | ⟨hpos, y, hy, g1, g2, g3⟩
  · have d1 : decide (r1 < 0) = true := decide_eq_true hneg
    clear hneg
    go_enter Try.func5, Try.ntmps5
    go_wp2_with (first | ((with_reducible refine gate_callee (f := 14) rfl ?_); refine goesL_ (some 18) rfl rfl Try.func14 (by kernel_rfl) rfl #[.slice A0 l0.length c0, .int .i64 1048576] rfl (by (try simp only [List.map_toArray, List.map_cons, List.map_nil]); first | done | rfl) ?_; (with_reducible refine (szO_live HL0.out R0.out S1.out).mono ?_); rintro e w2_ ⟨rfl, HLn⟩; refine ⟨_, rfl, ?_⟩; have HL1_ := Aside0.mk HLn; clear HLn HL0))
    go_ret
    exact ⟨rfl, HL1_.out.below⟩
  have d1 : decide (r1 < 0) = false := decide_eq_false (by omega)
  obtain ⟨p, b, hbt⟩ : ∃ p b, btV y a1 = (p, b) := ⟨_, _, rfl⟩
  have KP : Aside0 (p.length ≤ 1048576) := ⟨by have h := btV_len y a1; rw [hbt] at h; exact h⟩
  have BT := Aside0.mk hbt
  have Y1 := Aside0.mk hy
  have G1 := Aside0.mk g1
  have G2 := Aside0.mk g2
  have G3 := Aside0.mk g3
  clear hpos hy g1 g2 g3 hbt
  obtain ⟨m1, em1⟩ : ∃ z : Int, 1 + (p.length : Int) = z := ⟨_, rfl⟩
  have b3 : decide (m1 < 0) = false := decide_eq_false (by omega)
  have E3 := Aside0.mk em1
  clear em1
  go_enter Try.func5, Try.ntmps5
  go_upto_region 14 with (first | ((with_reducible refine gate_callee (f := 14) rfl ?_); refine goesL_ (some 18) rfl rfl Try.func14 (by kernel_rfl) rfl #[.slice A0 l0.length c0, .int .i64 1048576] rfl (by (try simp only [List.map_toArray, List.map_cons, List.map_nil]); first | done | rfl) ?_; (with_reducible refine (szO_live HL0.out R0.out S1.out).mono ?_); rintro e w2_ ⟨rfl, HLn⟩; refine ⟨_, rfl, ?_⟩; have HL1_ := Aside0.mk HLn; clear HLn HL0) | ((with_reducible refine gate_callee (f := 16) rfl ?_); refine goesL_ (some 23) rfl rfl Try.func16 (by kernel_rfl) rfl #[.slice A0 l0.length c0] rfl (by (try simp only [List.map_toArray, List.map_cons, List.map_nil]); first | done | rfl) ?_; (with_reducible refine (toO_live HL1_.out R0.out Y1.out).mono ?_); rintro e w7_ ⟨B3_, c4_, ok5_, rfl, HLn⟩; refine ⟨_, rfl, ?_⟩; have HL6_ := Aside0.mk HLn; clear HLn HL1_) | ((with_reducible refine gate_callee (f := 19) rfl ?_); refine goesL_ (some 25) rfl rfl Try.func19 (by kernel_rfl) rfl #[.slice B3_ y.length c4_, .int .i64 a1] rfl (by (try simp only [List.map_toArray, List.map_cons, List.map_nil]); first | done | rfl) ?_; (with_reducible refine (spec_bt_live HL6_.out (ord_of HL6_.out 0 rfl) G1.out G2.out BT.out).mono ?_); rintro e w9_ ⟨Bw, cw, okw, rfl, HLn⟩; refine ⟨_, rfl, ?_⟩; have HL8_ := Aside0.mk HLn; clear HLn HL6_) | ((with_reducible refine gate_callee (f := 16) rfl ?_); refine goesL_ (some 29) rfl rfl Try.func16 (by kernel_rfl) rfl #[.slice A0 l0.length c0] rfl (by (try simp only [List.map_toArray, List.map_cons, List.map_nil]); first | done | rfl) ?_; (with_reducible refine (toO_live HL8_.out R0.out Y1.out).mono ?_); rintro e w14_ ⟨B10_, c11_, ok12_, rfl, HLn⟩; refine ⟨_, rfl, ?_⟩; have HL13_ := Aside0.mk HLn; clear HLn HL8_) | ((with_reducible refine gate_callee (f := 20) rfl ?_); refine goesL_ (some 33) rfl rfl Try.func20 (by kernel_rfl) rfl #[.slice B10_ y.length c11_, .int .i64 a1] rfl (by (try simp only [List.map_toArray, List.map_cons, List.map_nil]); first | done | rfl) ?_; (with_reducible refine (impl_bt_live HL13_.out (ord_of HL13_.out 0 rfl) BT.out).mono ?_); rintro e w16_ ⟨Bg, cg, rfl, HLn⟩; refine ⟨_, rfl, ?_⟩; have HL15_ := Aside0.mk HLn; clear HLn HL13_) | ((with_reducible refine gate_callee (f := 21) rfl ?_); refine goesL_ (some 38) rfl rfl Try.func21 (by kernel_rfl) rfl #[.slice Bg p.length cg, .slice Bw p.length cw] rfl (by (try simp only [List.map_toArray, List.map_cons, List.map_nil]); first | done | rfl) ?_; (with_reducible refine (eqI_live HL15_.out (HL15_.out.rd 0 rfl) (frd_of HL15_.out 2 rfl) KP.out).mono ?_); rintro e w18_ ⟨rfl, HLn⟩; refine ⟨_, rfl, ?_⟩; have HL17_ := Aside0.mk HLn; clear HLn HL15_) | ((with_reducible refine gate_callee (f := 16) rfl ?_); refine goesL_ (some 47) rfl rfl Try.func16 (by kernel_rfl) rfl #[.slice A0 l0.length c0] rfl (by (try simp only [List.map_toArray, List.map_cons, List.map_nil]); first | done | rfl) ?_; (with_reducible refine (toO_live HL17_.out R0.out Y1.out).mono ?_); rintro e w23_ ⟨B19_, c20_, ok21_, rfl, HLn⟩; refine ⟨_, rfl, ?_⟩; have HL22_ := Aside0.mk HLn; clear HLn HL17_) | ((with_reducible refine gate_callee (f := 18) rfl ?_); refine goesL_ (some 48) rfl rfl Try.func18 (by kernel_rfl) rfl #[.slice B10_ y.length c11_, .slice B19_ y.length c20_] rfl (by (try simp only [List.map_toArray, List.map_cons, List.map_nil]); first | done | rfl) ?_; (with_reducible refine (eqO_live HL22_.out (ord_of HL22_.out 2 rfl) (ord_of HL22_.out 0 rfl) G1.out G2.out).mono ?_); rintro e w25_ ⟨rfl, HLn⟩; refine ⟨_, rfl, ?_⟩; have HL24_ := Aside0.mk HLn; clear HLn HL22_) | ((with_reducible refine gate_callee (f := 22) rfl ?_); refine goesL_ (some 52) rfl rfl Try.func22 (by kernel_rfl) rfl #[.slice B10_ y.length c11_, .int .i64 1] rfl (by (try simp only [List.map_toArray, List.map_cons, List.map_nil]); first | done | rfl) ?_; (with_reducible refine (markO_live (HL24_.out.pick [2, 0, 1, 3, 4] (by decide) rfl) G1.out G3.out).mono ?_); rintro e w27_ ⟨k1, rfl, dk, HLn⟩; refine ⟨_, rfl, ?_⟩; have HL26_ := Aside0.mk HLn; clear HLn HL24_))
  go_upto_region 16 with (first | (go_at_call 21; (with_reducible refine (eqI_live HL26_.out (HL26_.out.rd 1 rfl) (frd_of HL26_.out 2 rfl) KP.out).mono ?_); rintro e w29_ ⟨rfl, HLn⟩; have HL28_ := Aside0.mk HLn; clear HLn HL26_))
  go_wp2_with (first | ((with_reducible refine gate_callee (f := 23) rfl ?_); refine goesL_ (some 68) rfl rfl Try.func23 (by kernel_rfl) rfl #[.slice Bg p.length cg, .int .i64 1] rfl (by (try simp only [List.map_toArray, List.map_cons, List.map_nil]); first | done | rfl) ?_; (with_reducible refine (markI_live (HL28_.out.pick [1, 0, 2, 3] (by decide) rfl) KP.out E3.out).mono ?_); rintro e w31_ ⟨rfl, HLn⟩; refine ⟨_, rfl, ?_⟩; have HL30_ := Aside0.mk HLn; clear HLn HL28_) | ((with_reducible refine gate_callee (f := 24) rfl ?_); refine goesL_ (some 71) rfl rfl Try.func24 (by kernel_rfl) rfl #[.slice Bg p.length cg, .int .i64 1] rfl (by (try simp only [List.map_toArray, List.map_cons, List.map_nil]); first | done | rfl) ?_; (with_reducible refine (heldI_live HL30_.out KP.out (HL30_.out.rd 0 rfl) E3.out).mono ?_); rintro e w33_ ⟨rfl, HLn⟩; refine ⟨_, rfl, ?_⟩; have HL32_ := Aside0.mk HLn; clear HLn HL30_) | ((with_reducible refine gate_callee (f := 16) rfl ?_); refine goesL_ (some 79) rfl rfl Try.func16 (by kernel_rfl) rfl #[.slice A0 l0.length c0] rfl (by (try simp only [List.map_toArray, List.map_cons, List.map_nil]); first | done | rfl) ?_; (with_reducible refine (toO_live HL32_.out R0.out Y1.out).mono ?_); rintro e w38_ ⟨B34_, c35_, ok36_, rfl, HLn⟩; refine ⟨_, rfl, ?_⟩; have HL37_ := Aside0.mk HLn; clear HLn HL32_) | ((with_reducible refine gate_callee (f := 20) rfl ?_); refine goesL_ (some 81) rfl rfl Try.func20 (by kernel_rfl) rfl #[.slice B34_ y.length c35_, .int .i64 a1] rfl (by (try simp only [List.map_toArray, List.map_cons, List.map_nil]); first | done | rfl) ?_; (with_reducible refine (impl_bt_live HL37_.out (ord_of HL37_.out 0 rfl) BT.out).mono ?_); rintro e w40_ ⟨Bh, ch, rfl, HLn⟩; refine ⟨_, rfl, ?_⟩; have HL39_ := Aside0.mk HLn; clear HLn HL37_) | ((with_reducible refine gate_callee (f := 21) rfl ?_); refine goesL_ (some 86) rfl rfl Try.func21 (by kernel_rfl) rfl #[.slice Bh p.length ch, .slice Bw p.length cw] rfl (by (try simp only [List.map_toArray, List.map_cons, List.map_nil]); first | done | rfl) ?_; (with_reducible refine (eqI_live HL39_.out (HL39_.out.rd 0 rfl) (frd_of HL39_.out 4 rfl) KP.out).mono ?_); rintro e w42_ ⟨rfl, HLn⟩; refine ⟨_, rfl, ?_⟩; have HL41_ := Aside0.mk HLn; clear HLn HL39_) | ((with_reducible refine gate_callee (f := 24) rfl ?_); refine goesL_ (some 95) rfl rfl Try.func24 (by kernel_rfl) rfl #[.slice Bg p.length cg, .int .i64 1] rfl (by (try simp only [List.map_toArray, List.map_cons, List.map_nil]); first | done | rfl) ?_; (with_reducible refine (heldI_live HL41_.out KP.out (HL41_.out.rd 2 rfl) E3.out).mono ?_); rintro e w44_ ⟨rfl, HLn⟩; refine ⟨_, rfl, ?_⟩; have HL43_ := Aside0.mk HLn; clear HLn HL41_))
  go_ret
  exact ⟨rfl, HL43_.out.below⟩

end Go.Proofs.Ytdgpplnfkifkgaa.PFnExactBestTable
