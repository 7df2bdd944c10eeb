/- Contracts of the Go functions that the law FnExactBestChoice reaches, printed by a program of this session over the kit's print: each call comes to what the Lean function beside it says. Conditions: those that each theorem names. -/
import Derived.Test.YtdgpplnfkifkgaaPFnExactBestChoicex0
import Derived.Test.YtdgpplnfkifkgaaPFnExactBestChoicex1
import Derived.Test.YtdgpplnfkifkgaaPFnExactBestChoicex2
import Derived.Test.YtdgpplnfkifkgaaPFnExactBestChoicex3
import Derived.Test.YtdgpplnfkifkgaaPFnExactBestChoicex4
import Derived.Test.YtdgpplnfkifkgaaPFnExactBestChoicex5
import Derived.Test.YtdgpplnfkifkgaaPFnExactBestChoicex6
namespace Go.Proofs.Ytdgpplnfkifkgaa.PFnExactBestChoice
open Go.RowKit Go.Proofs.YtdgpplnfkifkgaaW.PrintWords Go.Proofs.YtdgpplnfkifkgaaW.PrintLast Go.Proofs.YtdgpplnfkifkgaaW.PrintMore
attribute [local go_sem] max2_int min2_int max_two min_two max_three min_three max_four min_four   -- for this text's walks alone
set_option linter.unusedVariables false
set_option linter.unusedSimpArgs false

/-! ### laws_FnExactBestChoice: function 6 -/
open V
/-- The rows of offers that the call has made. -/
def orow (B : Nat) (ok : Nat → Prop) (v : Value) (xs : List S59) : Ob := ⟨ok, fun W => Kd.S k59 59 W B ok v xs⟩
def ORd (w : World) (A : Option Addr) (c : Nat) (l : List S59) : Prop := l.length ≤ c ∧ Kd.C k59 w A l.length l
def LRd (w : World) (A : Option Addr) (c : Nat) (l : List S54) : Prop := l.length ≤ c ∧ Kd.C k54 w A l.length l
/-- A row of numbers that is only read. -/
def frow (B : Nat) (ok : Nat → Prop) (v : Value) (xs : List Int) : Ob := ⟨ok, fun W => Kd.V (Kd.int .i64) 3 W B ok v xs⟩
section
variable {w0 w W : World} {L : List Ob} {A A0 A1 : Option Addr} {c c0 c1 n : Nat} {l : List S54} {y : List S59} {p q : List Int}
theorem orow_at {B b : Nat} {ok : Nat → Prop} {v : Value} (hr : Kd.S k59 59 w b ok v y) (hB : B ≤ b) : At (orow B (fun k => b ≤ k ∧ k < w.heap.size) v y) b w :=
  ⟨fun k hk => hk.1, fun k hk => hk.2, fun W hW => Kd.S_lower (Kd.S_step (Kd.S_mono (Kd.S_bound hr) (fun k hk => ⟨hk.2.1, hk.2.2.1⟩)) (fun k hk _ => hW k hk)) hB⟩
theorem frow_at {B b : Nat} {ok : Nat → Prop} {v : Value} (hr : Kd.V (Kd.int .i64) 3 w b ok v p) (hok : ∀ k, ok k → b ≤ k) (hB : B ≤ b) : At (frow B (fun k => b ≤ k ∧ k < w.heap.size) v p) b w := by
  refine ⟨fun k hk => hk.1, fun k hk => hk.2, fun W hW => ?_⟩
  obtain ⟨A, c, rfl, hl, hf⟩ := hr
  exact ⟨A, c, rfl, hl, Kd.F_step (Kd.F_mono (Kd.F_bound hf) (fun k hk => ⟨hok k hk.1, hk.2⟩)) (fun k hk _ => hW k hk)⟩
theorem ord_of (h : Live w0 w L) (i : Nat) {B : Nat} {ok : Nat → Prop} (hi : L[i]? = some (orow B ok (.slice A n c) y)) : ORd w A c y := by
  obtain ⟨h1, h2, h3⟩ := Kd.S_reads' (h.get i hi)
  exact ⟨h1 ▸ h2, h3⟩
theorem frd_of (h : Live w0 w L) (i : Nat) {B : Nat} {ok : Nat → Prop} (hi : L[i]? = some (frow B ok (.slice A p.length c) p)) : Rd w A c p := by
  obtain ⟨A', c', e, hl, hf⟩ := h.get i hi
  injection e with e1 e2 e3
  subst e1; subst e3
  exact ⟨hl, Kd.F_now hf⟩
theorem lrd_of (h : Live w0 w L) (hr : LRd w0 A c l) : LRd w A c l := ⟨hr.1, h.came hr.2⟩
theorem szO_live (HL : Live w0 w L) (h0 : LRd w0 A0 c0 l) {a r : Int} (hf : laws_szOfferS.f l a = some r) :
    Calls Try.prog 14 #[.slice A0 l.length c0, .int .i64 a] w fun e w' => e = .returned (.int .i64 r) ∧ Live w0 w' L :=
  (laws_szOfferS.calls _ _ l a r _ (lrd_of HL h0).2 h0.1 hf).mono fun e w' ⟨he, hb⟩ => ⟨he, HL.later hb⟩
theorem toO_live (HL : Live w0 w L) (h0 : LRd w0 A0 c0 l) (hf : laws_toOfferS.f l = some y) :
    Calls Try.prog 16 #[.slice A0 l.length c0] w fun e w' => ∃ B d ok, e = .returned (.slice B y.length d) ∧ Live w0 w' (orow w0.heap.size ok (.slice B y.length d) y :: L) := by
  refine (laws_toOfferS.calls _ _ l y _ (lrd_of HL h0).2 h0.1 hf).mono ?_
  rintro e w' ⟨v0, rfl, g0, hb⟩
  obtain ⟨B, d, rfl⟩ := Kd.S_slice g0
  exact ⟨B, d, _, rfl, HL.new hb (orow_at g0 HL.below.size)⟩
theorem eqO_live (HL : Live w0 w L) (h0 : ORd w A0 c0 y) (h1 : ORd w A1 c1 y) (l0 : y.length ≤ 1048576) (l1 : ∀ x ∈ y, x.f0.length ≤ 1048576) :
    Calls Try.prog 18 #[.slice A0 y.length c0, .slice A1 y.length c1] w fun e w' => e = .returned (.bool true) ∧ Live w0 w' L :=
  (laws_eqOfferS.calls _ _ y _ _ y true _ h0.2 h0.1 h1.2 h1.1 (laws_eqOfferS.self y l0 l1)).mono fun e w' ⟨he, hb⟩ => ⟨he, HL.later hb⟩
/-- A size that is not below zero: the lengths' sum is bounded. -/
theorem szL_sum : ∀ (ns : List Nat) (left : Int), 0 ≤ left → ¬ M.szL ns left < 0 → (ns.sum : Int) ≤ left
  | [], left, h, _ => by simpa using h
  | m :: ns, left, h0, h => by
    unfold M.szL at h
    by_cases c : left - m < 0
    · rw [if_pos c] at h; omega
    · rw [if_neg c] at h
      have := szL_sum ns (left - m) (by omega) h
      rw [List.sum_cons]; omega
theorem sz_sum {len : Nat} {ns : List Nat} {left : Int} (h : ¬ M.sz len ns left < 0) : (ns.sum : Int) ≤ left - len := by
  unfold M.sz at h
  by_cases c : left - len < 0
  · rw [if_pos c] at h; omega
  · rw [if_neg c] at h
    exact szL_sum ns _ (by omega) h
theorem sum_ge {ns : List Nat} {n : Nat} (h : n ∈ ns) : n ≤ ns.sum := by
  induction ns with
  | nil => cases h
  | cons m ns ih =>
    rw [List.sum_cons]
    rcases List.mem_cons.1 h with rfl | h
    · omega
    · have := ih h; omega
/-- What the law's guard tells of the offers that came in. -/
theorem came_sizes {w : World} (hr : Kd.C k54 w A l.length l) : (l.length ≤ 9223372036854775807 ∧ ∀ x ∈ l, x.f0.length ≤ 9223372036854775807) := by
  refine ⟨hr.2.1, fun x hx => ?_⟩
  obtain ⟨i, hi, rfl⟩ := List.mem_iff_getElem.1 hx
  obtain ⟨_, _, _, _, _, _, h4⟩ := at_T54 hr (i : Int) (by omega) (by omega)
  have e : rd_T54 l (i : Int) = l[i] := by unfold rd_T54; simp [hi]
  rw [e] at h4
  exact h4.2.1
theorem sz_case {w : World} (hr : Kd.C k54 w A l.length l) : ∃ r, laws_szOfferS.f l 1048576 = some r ∧ (r < 0 ∨ 0 ≤ r ∧ ∃ y, laws_toOfferS.f l = some y ∧ y.length ≤ 1048576 ∧ (∀ x ∈ y, x.f0.length ≤ 1048576) ∧ (y.map fun x => x.f0.length).sum ≤ 1048576) := by
  refine ⟨M.sz l.length (l.map fun x => x.f0.length) 1048576, ?_, ?_⟩
  · unfold laws_szOfferS.f
    rw [if_pos ⟨came_sizes hr, by omega, by omega⟩]
  · by_cases c : M.sz l.length (l.map fun x => x.f0.length) 1048576 < 0
    · exact Or.inl c
    · refine Or.inr ⟨by omega, ?_⟩
      have d := M.sz_ok c
      have e := sz_sum c
      have g1 : l.length ≤ 1048576 := by omega
      have g2 : ∀ x ∈ l, x.f0.length ≤ 1048576 := fun x hx => by
        have := d.2 x.f0.length (List.mem_map_of_mem (f := fun x : S54 => x.f0.length) hx)
        omega
      refine ⟨_, laws_toOfferS.eq l g1 g2, by rw [List.length_map]; exact g1, fun x hx => ?_, ?_⟩
      · obtain ⟨z, hz, rfl⟩ := List.mem_map.1 hx
        exact g2 z hz
      · rw [List.map_map]
        have : (fun x : S59 => x.f0.length) ∘ (fun x : S54 => (⟨x.f0⟩ : S59)) = fun x => x.f0.length := rfl
        rw [this]
        omega
end

/-- Marks over each offer's gains: nothing but the offers' own blocks is written. -/
theorem sum_set (y : List S59) (i : Nat) (r : List Int) (h : i < y.length) (hr : r.length = (y.getD i z59).f0.length) : ((y.set i ⟨r⟩).map fun x => x.f0.length) = (y.map fun x => x.f0.length) := by
  rw [List.map_set]
  have e : (y.map fun x => x.f0.length)[i]'(by simpa using h) = r.length := by rw [hr]; simp [h]
  rw [← e, List.set_getElem_self]
set_option maxHeartbeats 8000000 in
set_option maxRecDepth 100000 in
theorem markO_calls {w0 w : World} (B : Option Addr) (c0 : Nat) (ok : Nat → Prop) (y : List S59) (hB : Below w0.heap.size w0 w) (hok : ∀ k, ok k → k < w.heap.size) (hS : Kd.S k59 59 w w0.heap.size ok (.slice B y.length c0) y) (hl : y.length ≤ 1048576) (hs : (y.map fun x => x.f0.length).sum ≤ 1048576) :
    Calls Try.prog 22 #[.slice B y.length c0, .int .i64 1] w fun e w' => ∃ r : Int, e = .returned (.int .i64 r) ∧ 0 ≤ r ∧ Below w0.heap.size w0 w' ∧ Kept w w' ok := by
  have hu59 := Try.underlying59
  have HS := Aside0.mk hS
  have HB := Aside0.mk hB
  have HK := Aside0.mk (Kept.refl w ok)
  have HL := Aside0.mk hl
  have HM := Aside0.mk hs
  have OK_ := Aside0.mk hok
  clear hS hB hl hs hok
  obtain ⟨ns, hns⟩ : ∃ ns, (y.map fun x => x.f0.length) = ns := ⟨_, rfl⟩
  have HNS : Aside0 (ns.length = y.length ∧ ns.sum ≤ 1048576) := ⟨by rw [← hns]; exact ⟨by simp, HM.out⟩⟩
  have HN := Aside0.mk hns
  clear hns HM
  go_enter Try.func22, Try.ntmps22
  go_wp2
  go_loopg [1, 5] y.length (fun gg v1 v5 w' => ∃ (z : List S59) (a j : Int), v1 = .int .i64 a ∧ v5 = .int .i64 j ∧ Aside0 (0 ≤ j ∧ j ≤ (y.length : Int) ∧ y.length - j.toNat ≤ gg) ∧ Aside0 (0 ≤ a ∧ a ≤ 1 + ((ns.take j.toNat).sum : Int)) ∧ Aside0 (z.length = y.length ∧ (z.map fun x => x.f0.length) = ns) ∧ Aside0 (Kd.S k59 59 w' w0.heap.size ok (.slice B y.length c0) z) ∧ Aside0 (Kept w w' ok) ∧ Aside0 (Below w0.heap.size w0 w'))
  case atStart => exact ⟨y, 1, 0, rfl, rfl, ⟨by omega⟩, ⟨by simp⟩, ⟨rfl, HN.out⟩, ⟨by (with_reducible repeat (first | apply Kd.S_alloc | apply Kd.S_drewN | apply Kd.S_drew)); exact HS.out⟩, ⟨by repeat (first | (with_reducible first | exact HK.out | apply Kept.alloc | apply Kept.drewN | apply Kept.drew) | exact HK.out)⟩, ⟨by repeat (first | (with_reducible first | exact HB.out | apply below_alloc | apply pw_below_drewN | apply below_drew1) | exact HB.out)⟩⟩
  case round =>
    clear HS HK HB
    obtain ⟨z, a, j, rfl, rfl, HJ, HA, HZ, HS, HK, HB⟩ := hrel
    by_cases hlt : j < (y.length : Int)
    case neg =>
      have c11b0 : decide (j < (y.length : Int)) = false := decide_eq_false hlt
      clear hlt
      go_wp2
      go_ret
      exact ⟨a, rfl, HA.out.1, by repeat (first | (with_reducible first | exact HB.out | apply below_alloc | apply pw_below_drewN | apply below_drew1) | exact HB.out), by repeat (first | (with_reducible first | exact HK.out | apply Kept.alloc | apply Kept.drewN | apply Kept.drew) | exact HK.out)⟩
    have c11b0 : decide (j < (y.length : Int)) = true := decide_eq_true hlt
    have p1 : 0 ≤ j := HJ.out.1
    have hjl : j.toNat < z.length := by have := HZ.out.1; omega
    obtain ⟨gz, cz, ez, _, _, _⟩ := Kd.S_form HS.out (by omega)
    injection ez with ez1 ez2 ez3
    subst ez1
    clear ez2 ez3
    obtain ⟨oki, cs, hcl, hM, hcc, hfr, hoki, hH⟩ := Kd.S_elem HS.out z59 j p1 hlt
    obtain ⟨vi, rfl, hR⟩ := k59_openM hM
    have hxc := hcc 0 _ rfl
    rw [show k59.sz = 1 from rfl, Nat.mul_one, Nat.add_zero] at hxc
    obtain ⟨q, hq⟩ : ∃ q, (z.getD j.toNat z59).f0 = q := ⟨_, rfl⟩
    rw [hq] at hR
    have hqn : q.length = ns.getD j.toNat 0 := by rw [← hq, ← HZ.out.2]; simp [hjl]
    have hlast : (ns.take (j.toNat + 1)).sum = (ns.take j.toNat).sum + q.length := by
      have hn : j.toNat < ns.length := by have := HNS.out.1; omega
      rw [List.take_succ_eq_append_getElem hn, List.sum_append, hqn]
      simp [hn]
    have hall : (ns.take (j.toNat + 1)).sum ≤ ns.sum := by
      have h := List.take_append_drop (j.toNat + 1) ns
      have h2 : ((ns.take (j.toNat + 1)) ++ (ns.drop (j.toNat + 1))).sum = ns.sum := by rw [h]
      rw [List.sum_append] at h2; omega
    have HQ : Aside0 (q.length ≤ 1048576 ∧ 0 ≤ a ∧ a ≤ 2097152) := ⟨by have := HA.out; have := HNS.out; omega⟩
    have HR := Aside0.mk (Kd.R_tight rfl hR)
    have HO := Aside0.mk (hR.1)
    have HH := Aside0.mk hH
    have HI := Aside0.mk hoki
    have EQ := Aside0.mk hq
    have HT := Aside0.mk hlast
    have P1 := Aside0.mk p1
    have Q1 := Aside0.mk hlt
    have HJL := Aside0.mk hjl
    clear hcc hfr hoki hH hM hcl hR hq hqn hlast hall hjl
    replace p1 := eq_true p1
    replace hlt := eq_true hlt
    go_wp2_with (first | ((with_reducible refine gate_callee (f := 23) rfl ?_); refine goesL_ (some 18) rfl rfl Try.func23 (by kernel_rfl) rfl #[vi, .int .i64 a] rfl (by (try simp only [List.map_toArray, List.map_cons, List.map_nil]); first | done | rfl) ?_; (with_reducible refine (laws_markIntS.calls (fun k => some k = vi.ownBlock) vi q a (a + q.length) (M.upFrom a q.length) w0 _ ?s1 ?s2 ?s3).mono ?_); (case s1 => exact HB.out); (case s2 => exact HR.out); (case s3 => unfold laws_markIntS.f; rw [if_pos HQ.out]); rintro e w2 ⟨rfl, hr2, hb2, hk2⟩; refine ⟨_, rfl, ?_⟩; have n0_ : Aside0 (Kd.S k59 59 w2 w0.heap.size ok (.slice (some ⟨gz, 0, none⟩) y.length c0) (z.set j.toNat ⟨M.upFrom a q.length⟩)) := ⟨Kd.H_back (Kd.H_kept HH.out hk2 (fun k _ hn hk => hn (HO.out k hk.symm))) (k59_mkM w2 w0.heap.size (fun k => some k = vi.ownBlock) ⟨M.upFrom a q.length⟩ (Kd.R_tight rfl hr2)) (fun k hk => HO.out k hk.symm)⟩; have n1_ := Aside0.mk (HK.out.then_ hk2 (fun k hk => Or.inl ((HI.out k (HO.out k hk.symm)).1))); have n2_ := Aside0.mk hb2; clear HS HK HB hb2 hk2 hr2; have HS := n0_; have HK := n1_; have HB := n2_; clear n0_ n1_ n2_))
    have hwj : Aside0 (wrap64 (j + 1) = j + 1) := ⟨M.wrap_id (by have := P1.out; omega) (by have := Q1.out; have := HL.out; omega)⟩
    go_roundg (y.length - (j + 1).toNat)
    case measure => have := HJ.out; have := Q1.out; omega
    case rel =>
      exact ⟨z.set j.toNat ⟨M.upFrom a q.length⟩, a + q.length, wrap64 (j + 1), (by first | rfl | (simp; done)), (by first | rfl | (simp; done)), ⟨by rw [hwj.out]; have := HJ.out; have := Q1.out; omega⟩, ⟨by
        rw [hwj.out, show (j + 1).toNat = j.toNat + 1 by have := P1.out; omega, HT.out]; have := HA.out; omega⟩, ⟨by rw [List.length_set]; exact HZ.out.1, by rw [sum_set z j.toNat _ HJL.out (by rw [M.upFrom_length, EQ.out])]; exact HZ.out.2⟩, ⟨by (with_reducible repeat (first | apply Kd.S_alloc | apply Kd.S_drewN | apply Kd.S_drew)); exact HS.out⟩, ⟨by repeat (first | (with_reducible first | exact HK.out | apply Kept.alloc | apply Kept.drewN | apply Kept.drew) | exact HK.out)⟩, ⟨by repeat (first | (with_reducible first | exact HB.out | apply below_alloc | apply pw_below_drewN | apply below_drew1) | exact HB.out)⟩⟩

open V
section
variable {w0 w W : World} {L : List Ob} {A A0 A1 : Option Addr} {c c0 c1 n : Nat} {y : List S59} {p q : List Int}
theorem markO_live {ok : Nat → Prop} (HL : Live w0 w (orow w0.heap.size ok (.slice A y.length c) y :: L)) (hl : y.length ≤ 1048576) (hs : (y.map fun x => x.f0.length).sum ≤ 1048576) :
    Calls Try.prog 22 #[.slice A y.length c, .int .i64 1] w fun e w' => ∃ r : Int, e = .returned (.int .i64 r) ∧ decide (r < 0) = false ∧ Live w0 w' L := by
  have ho := HL.all _ (List.mem_cons_self ..)
  refine (markO_calls A c ok y HL.below ho.hi (HL.get 0 rfl) hl hs).mono ?_
  rintro e w' ⟨r, rfl, h0, hb, hk⟩
  exact ⟨r, rfl, decide_eq_false (by omega), (HL.wrote (p := ⟨fun _ => False, fun _ => True⟩) hb hk (fun _ h => h.elim) (fun _ _ => trivial)).tail⟩
theorem markI_live {u : Value} (HL : Live w0 w (row w0.heap.size u p :: L)) (l0 : p.length ≤ 1048576) {z : Int} (hz : 1 + (p.length : Int) = z) :
    Calls Try.prog 23 #[u, .int .i64 1] w fun e w' => e = .returned (.int .i64 z) ∧ Live w0 w' (row w0.heap.size u (M.upFrom 1 p.length) :: L) := by
  subst hz
  refine (laws_markIntS.calls (fun k => some k = u.ownBlock) u p 1 _ _ w0 _ HL.below (HL.get 0 rfl) (laws_markIntS.eq p l0)).mono ?_
  rintro e w' ⟨rfl, g0, hb, hk⟩
  exact ⟨rfl, HL.wrote hb hk (fun _ h => h) (fun W hW => Kd.R_step (Kd.R_tight rfl g0) (fun k hk _ => hW k hk))⟩
theorem heldI_live (HL : Live w0 w L) {m : Nat} (l0 : m ≤ 1048576) (h0 : Rd w A0 c0 (M.upFrom 1 m)) {z : Int} (hz : 1 + (m : Int) = z) :
    Calls Try.prog 24 #[.slice A0 m c0, .int .i64 1] w fun e w' => e = .returned (.int .i64 z) ∧ Live w0 w' L := by
  subst hz
  have h := laws_heldIntS.calls _ _ (M.upFrom 1 m) 1 (1 + (m : Int)) _ h0.2 h0.1 (laws_heldIntS.eq m l0)
  rw [M.upFrom_length] at h
  exact h.mono fun e w' ⟨he, hb⟩ => ⟨he, HL.later hb.below⟩
theorem eqI_live (HL : Live w0 w L) (h0 : Rd w A0 c0 p) (h1 : Rd w A1 c1 p) (l0 : p.length ≤ 1048576) :
    Calls Try.prog 21 #[.slice A0 p.length c0, .slice A1 p.length c1] w fun e w' => e = .returned (.bool true) ∧ Live w0 w' L :=
  (laws_eqIntS.calls _ _ p _ _ p true _ h0.2 h0.1 h1.2 h1.1 (laws_eqIntS.self p l0)).mono fun e w' ⟨he, hb⟩ => ⟨he, HL.later hb.below⟩
end

/-! ### the plain half: the search ends, and both searches are one -/
def inR (l : List Int) : Prop := ∀ x ∈ l, -9223372036854775808 ≤ x ∧ x ≤ 9223372036854775807
theorem wrap_in (x : Int) : -9223372036854775808 ≤ wrap64 x ∧ wrap64 x ≤ 9223372036854775807 := by unfold wrap64; omega
theorem rd_inR {l : List Int} (h : inR l) (i : Int) : -9223372036854775808 ≤ rd l i ∧ rd l i ≤ 9223372036854775807 := by
  unfold rd
  rw [List.getD_eq_getElem?_getD]
  rcases hx : l[i.toNat]? with _ | x
  · simp
  · exact h x (List.mem_of_getElem? hx)
theorem bestN_in (row g : List Int) (p : Nat) : ∀ (k n : Nat) (b : Int), (-9223372036854775808 ≤ b ∧ b ≤ 9223372036854775807) → (-9223372036854775808 ≤ M.bestN row g p k n b ∧ M.bestN row g p k n b ≤ 9223372036854775807)
  | 0, _, _, h => h
  | k + 1, n, b, h => by
    rw [M.bestN]
    refine bestN_in row g p k (n + 1) _ ?_
    split
    · exact wrap_in _
    · exact h
theorem nextRow_in {row : List Int} (h : inR row) (g : List Int) : inR (M.nextRow row g) := by
  intro x hx
  unfold M.nextRow at hx
  obtain ⟨p, _, rfl⟩ := List.mem_map.1 hx
  exact bestN_in row g p _ _ _ (rd_inR h _)
theorem rowsFrom_in {α : Type} (g : α → List Int) : ∀ (l : List α) (row : List Int), inR row → ∀ r ∈ M.rowsFrom g row l, inR r
  | [], row, h, r, hr => by rw [M.rowsFrom, List.mem_singleton] at hr; rw [hr]; exact h
  | o :: os, row, h, r, hr => by
    rw [M.rowsFrom, List.mem_cons] at hr
    rcases hr with rfl | hr
    · exact h
    · exact rowsFrom_in g os _ (nextRow_in h _) r hr
/-- The best is the start, or one of what was tried. -/
theorem bestN_ex (row g : List Int) (p : Nat) : ∀ (k n : Nat) (b : Int), M.bestN row g p k n b = b ∨ ∃ c, n ≤ c ∧ c < n + k ∧ M.bestN row g p k n b = wrap64 (rd row ((p - c : Nat) : Int) + M.gainAt g c)
  | 0, _, _ => Or.inl rfl
  | k + 1, n, b => by
    rw [M.bestN]
    rcases bestN_ex row g p k (n + 1) (if wrap64 (rd row ((p - n : Nat) : Int) + M.gainAt g n) > b then wrap64 (rd row ((p - n : Nat) : Int) + M.gainAt g n) else b) with h | ⟨c, h1, h2, h3⟩
    · rw [h]
      split
      · exact Or.inr ⟨n, Nat.le_refl _, by omega, rfl⟩
      · exact Or.inl rfl
    · exact Or.inr ⟨c, by omega, by omega, h3⟩
theorem bestAt_ex {row : List Int} (h : inR row) (g : List Int) (p : Nat) : ∃ c : Nat, c ≤ p ∧ c ≤ g.length ∧ wrap64 (rd row ((p : Int) - (c : Int)) + M.gainAt g c) = M.bestAt row g p := by
  unfold M.bestAt
  rcases bestN_ex row g p (min p g.length) 1 (rd row (p : Int)) with e | ⟨c, h1, h2, h3⟩
  · refine ⟨0, Nat.zero_le _, Nat.zero_le _, ?_⟩
    have := rd_inR h (p : Int)
    rw [e, Int.natCast_zero, Int.sub_zero]
    show wrap64 (rd row (p : Int) + 0) = _
    rw [Int.add_zero, M.wrap_id this.1 this.2]
  · refine ⟨c, by omega, by omega, ?_⟩
    rw [h3, show ((p - c : Nat) : Int) = (p : Int) - (c : Int) by omega]
/-- Table i + 1 out of table i. -/
theorem rowsFrom_next {α : Type} (g : α → List Int) (z : α) (l : List α) (row : List Int) {i : Nat} (h : i < l.length) : (M.rowsFrom g row l).getD (i + 1) [] = M.nextRow ((M.rowsFrom g row l).getD i []) (g (l.getD i z)) := by
  have h1 := M.rowsFrom_step g z l row i h
  have h2 := M.rowsFrom_got g row l (i := i + 1) (by omega)
  rw [show i + 1 + 1 = i + 2 from rfl, h1, List.getD_eq_getElem?_getD, List.getElem?_append_right (by rw [List.length_take, M.rowsFrom_length]; omega)] at h2
  rw [← h2, List.length_take, M.rowsFrom_length, show i + 1 - min (i + 1) (l.length + 1) = 0 by omega]; rfl
theorem sgain {g : List Int} {c : Nat} (h2 : c ≤ g.length) (hl : g.length ≤ 1048576) : spec_l6Gain.f g (c : Int) = some (M.gainAt g (c : Int)) := by
  rcases Nat.eq_zero_or_pos c with rfl | h1
  · unfold spec_l6Gain.f M.gainAt; simp
  · exact spec_gain_eq g h1 h2 hl
theorem gain_same (g : List Int) (c : Int) : impl_Offer_gain.f g c = spec_l6Gain.f g c := rfl
/-- The two searches are one. -/
theorem loops_same : ∀ (k : Nat), (∀ a b c d e f, impl_BestChoice.l0 k a b c d e f = spec_BestChoice.l0 k a b c d e f) ∧ (∀ a b c d e f g, impl_BestChoice.l1 k a b c d e f g = spec_BestChoice.l1 k a b c d e f g)
  | 0 => ⟨fun _ _ _ _ _ _ => rfl, fun _ _ _ _ _ _ _ => rfl⟩
  | k + 1 => by
    obtain ⟨h0, h1⟩ := loops_same k
    refine ⟨fun a b c d e f => ?_, fun a b c d e f g => ?_⟩
    · rw [impl_BestChoice.l0, spec_BestChoice.l0, h1]
    · rw [impl_BestChoice.l1, spec_BestChoice.l1]
      simp only [gain_same, h0, h1]
section
variable (y : List S59) (a : Int)
/-- What the search is given: the tables. -/
structure Tabs (RS : List (List Int)) (n : Nat) : Prop where
  len : RS.length = y.length + 1
  lens : ∀ i, i ≤ y.length → (RS.getD i []).length = n
  ins : ∀ i, i ≤ y.length → inR (RS.getD i [])
  next : ∀ i, i < y.length → RS.getD (i + 1) [] = M.nextRow (RS.getD i []) (y.getD i z59).f0
  gains : ∀ i, i < y.length → (y.getD i z59).f0.length ≤ 1048576
  few : y.length ≤ 1048576 ∧ n ≤ 1001
theorem l1_step {k : Nat} {x0 : List S59} {a0 : Int} {RS : List (List Int)} {cs : List Int} {left i c d j g : Int} (h0 : 0 ≤ i) (h1 : i < (RS.length : Int)) (hd : wrap64 (left - c) = d) (hd0 : 0 ≤ d) (hd1 : d < ((rd_L1 RS i).length : Int)) (hi : i < (x0.length : Int)) (hg : spec_l6Gain.f (rd_T59 x0 i).f0 c = some g) (hj : wrap64 (i + 1) = j) (hj0 : 0 ≤ j) (hj1 : j < (RS.length : Int)) (hl0 : 0 ≤ left) (hl1 : left < ((rd_L1 RS j).length : Int)) (hcs : i < (cs.length : Int)) :
    spec_BestChoice.l1 (k + 1) x0 a0 RS cs left i c = if wrap64 (rd (rd_L1 RS i) d + g) = rd (rd_L1 RS j) left then spec_BestChoice.l0 k x0 a0 RS (cs.set i.toNat c) d (wrap64 (i - 1)) else spec_BestChoice.l1 k x0 a0 RS cs left i (wrap64 (c + 1)) := by
  rw [spec_BestChoice.l1, if_pos h0, if_pos h1, hd, if_pos hd0, if_pos hd1, if_pos hi, hg]
  simp only [Option.bind_some]
  rw [hj, if_pos hj0, if_pos hj1, if_pos hl0, if_pos hl1, if_pos hcs]
theorem wrap_pred {i : Nat} (h : i ≤ 1048576) : wrap64 ((i : Int) - 1) = (i : Int) - 1 := M.wrap_id (by omega) (by omega)
theorem wrap_less {l c : Nat} (h : c ≤ l) (h2 : l ≤ 1048576) : wrap64 ((l : Int) - (c : Int)) = (l : Int) - (c : Int) := M.wrap_id (by omega) (by omega)
theorem wrap_more {c : Nat} (h : c ≤ 1048576) : wrap64 ((c : Int) + 1) = ((c + 1 : Nat) : Int) := M.wrap_succ (by omega)
theorem search_step {RS : List (List Int)} {n : Nat} (T : Tabs y RS n) {i : Nat} (hi : i < y.length) (left : Nat) (hl : left < n) (cs : List Int) (hcs : cs.length = y.length) (cS : Nat) (hS1 : cS ≤ left) (hS2 : cS ≤ (y.getD i z59).f0.length) (k c : Nat) (hc : c ≤ cS) :
    spec_BestChoice.l1 (k + 1) y a RS cs (left : Int) (i : Int) (c : Int) = if wrap64 (rd (RS.getD i []) ((left : Int) - (c : Int)) + M.gainAt (y.getD i z59).f0 c) = M.bestAt (RS.getD i []) (y.getD i z59).f0 left then spec_BestChoice.l0 k y a RS (cs.set i (c : Int)) ((left : Int) - (c : Int)) ((i : Int) - 1) else spec_BestChoice.l1 k y a RS cs (left : Int) (i : Int) ((c + 1 : Nat) : Int) := by
  have l1 : (rd_L1 RS (i : Int)).length = n := T.lens i (by omega)
  have hlen := T.len
  have hfew := T.few
  have hgn := T.gains i hi
  have b1 : (0 : Int) ≤ (i : Int) := by omega
  have b2 : (i : Int) < (RS.length : Int) := by omega
  have b3 : (0 : Int) ≤ (left : Int) - (c : Int) := by omega
  have b4 : (left : Int) - (c : Int) < ((rd_L1 RS (i : Int)).length : Int) := by omega
  have b5 : (i : Int) < (y.length : Int) := by omega
  have b6 : (0 : Int) ≤ ((i + 1 : Nat) : Int) := by omega
  have b7 : ((i + 1 : Nat) : Int) < (RS.length : Int) := by omega
  have b8 : (0 : Int) ≤ (left : Int) := by omega
  have b9 : (i : Int) < (cs.length : Int) := by omega
  have b10 : c ≤ (y.getD i z59).f0.length := by omega
  have b11 : i ≤ 1048576 := by omega
  have b12 : c ≤ 1048576 := by omega
  have b13 : c ≤ left := by omega
  have b14 : left ≤ 1048576 := by omega
  have b15 : left < (RS.getD i []).length := by rw [T.lens i (by omega)]; exact hl
  have e4 : rd_L1 RS ((i + 1 : Nat) : Int) = M.nextRow (RS.getD i []) (y.getD i z59).f0 := T.next i hi
  have b16 : (left : Int) < ((rd_L1 RS ((i + 1 : Nat) : Int)).length : Int) := by rw [e4, M.nextRow_length]; exact Int.ofNat_lt.2 b15
  have e8 : rd (rd_L1 RS ((i + 1 : Nat) : Int)) (left : Int) = M.bestAt (RS.getD i []) (y.getD i z59).f0 left := by rw [e4, M.nextRow_rd _ _ b15]
  have h := l1_step (k := k) (x0 := y) (a0 := a) (RS := RS) (cs := cs) (left := (left : Int)) (i := (i : Int)) (c := (c : Int)) b1 b2 (wrap_less b13 b14) b3 b4 b5 (sgain (g := (y.getD i z59).f0) (c := c) b10 hgn) (wrap_more b11) b6 b7 b8 b16 b9
  rw [e8, wrap_pred b11, wrap_more b12] at h
  exact h
theorem search_in {RS : List (List Int)} {n : Nat} (T : Tabs y RS n) {i : Nat} (hi : i < y.length) (left : Nat) (hl : left < n) (cs : List Int) (hcs : cs.length = y.length) (cS : Nat) (hS1 : cS ≤ left) (hS2 : cS ≤ (y.getD i z59).f0.length) (hS3 : wrap64 (rd (RS.getD i []) ((left : Int) - (cS : Int)) + M.gainAt (y.getD i z59).f0 cS) = M.bestAt (RS.getD i []) (y.getD i z59).f0 left)
    (hnext : ∀ (left' : Nat) (cs' : List Int), left' < n → cs'.length = y.length → ∃ k r, spec_BestChoice.l0 k y a RS cs' (left' : Int) ((i : Int) - 1) = some r ∧ r.1.length = y.length) :
    ∀ (d c : Nat), c + d = cS → ∃ k r, spec_BestChoice.l1 k y a RS cs (left : Int) (i : Int) (c : Int) = some r ∧ r.1.length = y.length := by
  have HS3 := Aside0.mk hS3
  clear hS3
  have found : ∀ c, c ≤ cS → wrap64 (rd (RS.getD i []) ((left : Int) - (c : Int)) + M.gainAt (y.getD i z59).f0 c) = M.bestAt (RS.getD i []) (y.getD i z59).f0 left → ∃ k r, spec_BestChoice.l1 k y a RS cs (left : Int) (i : Int) (c : Int) = some r ∧ r.1.length = y.length := by
    intro c hc he
    have e : (left : Int) - (c : Int) = ((left - c : Nat) : Int) := (Int.ofNat_sub (Nat.le_trans hc hS1)).symm
    obtain ⟨k, r, hk, hr⟩ := hnext (left - c) (cs.set i (c : Int)) (Nat.lt_of_le_of_lt (Nat.sub_le _ _) hl) (by rw [List.length_set]; exact hcs)
    refine ⟨k + 1, r, ?_, hr⟩
    rw [search_step y a T hi left hl cs hcs cS hS1 hS2 k c hc, if_pos he, e]
    exact hk
  intro d
  induction d with
  | zero =>
    intro c hc
    have hcS : c = cS := by omega
    subst hcS
    exact found c (Nat.le_refl _) HS3.out
  | succ d ih =>
    intro c hc
    have hc1 : c ≤ cS := by omega
    have hc2 : c + 1 + d = cS := by omega
    by_cases he : wrap64 (rd (RS.getD i []) ((left : Int) - (c : Int)) + M.gainAt (y.getD i z59).f0 c) = M.bestAt (RS.getD i []) (y.getD i z59).f0 left
    · exact found c hc1 he
    · obtain ⟨k, r, hk, hr⟩ := ih (c + 1) hc2
      refine ⟨k + 1, r, ?_, hr⟩
      rw [search_step y a T hi left hl cs hcs cS hS1 hS2 k c hc1, if_neg he]
      exact hk
theorem search {RS : List (List Int)} {n : Nat} (T : Tabs y RS n) (ha : 0 ≤ a ∧ a < (n : Int)) : ∀ (i : Nat), i ≤ y.length → ∀ (left : Nat) (cs : List Int), left < n → cs.length = y.length → ∃ k r, spec_BestChoice.l0 k y a RS cs (left : Int) ((i : Int) - 1) = some r ∧ r.1.length = y.length
  | 0, _, left, cs, _, hcs => by
    refine ⟨1, (cs, rd (rd_L1 RS (y.length : Int)) a, true), ?_, hcs⟩
    have e : (rd_L1 RS (y.length : Int)).length = n := T.lens y.length (Nat.le_refl _)
    rw [spec_BestChoice.l0, if_neg (by omega), if_pos (by omega), if_pos (by have := T.len; omega), if_pos ha.1, if_pos (by omega)]
  | i + 1, hi, left, cs, hl, hcs => by
    obtain ⟨c, h1, h2, h3⟩ := bestAt_ex (T.ins i (by omega)) (y.getD i z59).f0 left
    obtain ⟨k, r, hk, hr⟩ := search_in y a T (i := i) (by omega) left hl cs hcs c h1 h2 h3 (fun left' cs' g1 g2 => search T ha i (by omega) left' cs' g1 g2) c 0 (by omega)
    refine ⟨k + 1, r, ?_, hr⟩
    rw [spec_BestChoice.l0, show ((i + 1 : Nat) : Int) - 1 = (i : Int) by omega, if_pos (by omega)]
    exact hk
end
/-- What the tables are for good offers. -/
theorem tabs_of {y : List S59} {a : Int} (hc : M.offersOk (fun x : S59 => x.f0) y = true ∧ (0 ≤ a ∧ a ≤ 40)) : Tabs y (M.rowsFrom (fun x : S59 => x.f0) (List.replicate (a + 1).toNat 0) y) (a + 1).toNat := by
  obtain ⟨h1, h2⟩ := M.offersOk_iff.1 hc.1
  have hz : inR (List.replicate (a + 1).toNat 0) := fun x hx => by rw [(List.mem_replicate.1 hx).2]; omega
  refine ⟨M.rowsFrom_length _ _ _, fun i hi => M.rowsFrom_at _ _ _ (by simp) hi, fun i hi => ?_, fun i hi => rowsFrom_next _ _ _ _ hi, fun i hi => ?_, by omega, by omega⟩
  · have hlt : i < (M.rowsFrom (fun x : S59 => x.f0) (List.replicate (a + 1).toNat 0) y).length := by rw [M.rowsFrom_length]; omega
    rw [List.getD_eq_getElem?_getD, List.getElem?_eq_getElem hlt]
    exact rowsFrom_in _ _ _ hz _ (List.getElem_mem hlt)
  · rw [List.getD_eq_getElem?_getD, List.getElem?_eq_getElem hi]
    have := (M.offOk_iff.1 (h2 _ (List.getElem_mem hi))).1
    simp only [Option.getD_some]; omega
theorem tabF {l : List S59} {a : Int} (h : M.offersOk (fun x : S59 => x.f0) l = true ∧ (0 ≤ a ∧ a ≤ 40)) : (0 ≤ a ∧ a ≤ 1000) ∧ l.length ≤ 1048576 ∧ ∀ x ∈ l, x.f0.length ≤ 1048576 := by
  obtain ⟨h1, h2⟩ := M.offersOk_iff.1 h.1
  exact ⟨by omega, by omega, fun x hx => by have := (M.offOk_iff.1 (h2 x hx)).1; omega⟩
/-- What both answer. -/
theorem both (y : List S59) (a : Int) (h1 : y.length ≤ 1048576) (h2 : ∀ x ∈ y, x.f0.length ≤ 1048576) : ∃ k k' p m b, spec_BestChoice.f k y a = some (p, m, b) ∧ impl_BestChoice.f k' y a = some (p, m, b) ∧ p.length ≤ 1048576 := by
  by_cases hc : M.offersOk (fun x : S59 => x.f0) y = true ∧ (0 ≤ a ∧ a ≤ 40)
  · obtain ⟨k, ⟨p, m, b⟩, hk, hr⟩ := search y a (tabs_of hc) (by omega) y.length (Nat.le_refl _) a.toNat (List.replicate y.length 0) (by omega) (by simp)
    rw [show ((a.toNat : Nat) : Int) = a by omega] at hk
    have hp : p.length ≤ 1048576 := by have : p.length = y.length := hr
                                       omega
    have ew : wrap64 ((y.length : Int) - 1) = (y.length : Int) - 1 := M.wrap_id (by omega) (by omega)
    refine ⟨k + 1, k, p, m, b, ?_, ?_, hp⟩
    · unfold spec_BestChoice.f spec_GoodOffers.f
      rw [if_pos ⟨h1, h2⟩]
      simp only [Option.bind_some, spec_l6Places.eq]
      have e : (decide (0 ≤ a) && decide (a ≤ 40)) = true := by simp [hc.2]
      rw [if_pos hc.1, e]
      show spec_BestChoice.j0 (k + 1) y a false = _
      rw [spec_BestChoice.j0, if_neg (by simp)]
      unfold spec_l6Rows.f
      rw [if_pos (tabF hc)]
      simp only [Option.bind_some]
      rw [if_pos (by omega), if_pos (by omega), ew, Int.toNat_natCast]
      exact hk
    · unfold impl_BestChoice.f
      rw [impl_isOffered.eq, if_pos hc]
      simp only [Option.bind_some, if_true]
      unfold impl_tables.f
      rw [if_pos (tabF hc)]
      simp only [Option.bind_some]
      rw [if_pos (by omega), if_pos (by omega), ew, Int.toNat_natCast, (loops_same k).1]
      exact hk
  · refine ⟨1, 1, [], 0, false, ?_, ?_, by simp⟩
    · unfold spec_BestChoice.f spec_GoodOffers.f
      rw [if_pos ⟨h1, h2⟩]
      simp only [Option.bind_some, spec_l6Places.eq]
      by_cases c1 : M.offersOk (fun x : S59 => x.f0) y = true
      · have e : (decide (0 ≤ a) && decide (a ≤ 40)) = false := by
          rw [Bool.and_eq_false_iff, decide_eq_false_iff_not, decide_eq_false_iff_not]
          have : ¬ (0 ≤ a ∧ a ≤ 40) := fun h => hc ⟨c1, h⟩
          omega
        rw [if_pos c1, e]; rfl
      · rw [if_neg c1]; rfl
    · unfold impl_BestChoice.f
      rw [impl_isOffered.eq, if_neg hc]; rfl

theorem spec_bc_live {w0 w : World} {L : List Ob} {A0 : Option Addr} {c0 : Nat} {y : List S59} (HL : Live w0 w L) (h0 : ORd w A0 c0 y) {k : Nat} {a m : Int} {p : List Int} {b : Bool} (hf : spec_BestChoice.f k y a = some (p, m, b)) :
    Calls Try.prog 25 #[.slice A0 y.length c0, .int .i64 a] w fun e w' => ∃ B d, e = .returned (.tuple #[.slice B p.length d, .int .i64 m, .bool b]) ∧ Live w0 w' (row w0.heap.size (.slice B p.length d) p :: L) := by
  refine (spec_BestChoice.calls k _ _ y a p m b _ h0.2 h0.1 hf).mono ?_
  rintro e w' ⟨v0, rfl, g0, hb⟩
  obtain ⟨B, d, rfl⟩ := Kd.R_slice g0
  exact ⟨B, d, rfl, HL.row hb g0⟩
theorem impl_bc_live {w0 w : World} {L : List Ob} {A0 : Option Addr} {c0 : Nat} {y : List S59} (HL : Live w0 w L) (h0 : ORd w A0 c0 y) {k : Nat} {a m : Int} {p : List Int} {b : Bool} (hf : impl_BestChoice.f k y a = some (p, m, b)) :
    Calls Try.prog 26 #[.slice A0 y.length c0, .int .i64 a] w fun e w' => ∃ B d, e = .returned (.tuple #[.slice B p.length d, .int .i64 m, .bool b]) ∧ Live w0 w' (row w0.heap.size (.slice B p.length d) p :: L) := by
  refine (impl_BestChoice.calls k _ _ y a p m b _ h0.2 h0.1 hf).mono ?_
  rintro e w' ⟨v0, rfl, g0, hb⟩
  obtain ⟨B, d, rfl⟩ := Kd.R_slice g0
  exact ⟨B, d, rfl, HL.row hb g0⟩

def laws_FnExactBestChoice.f (l0 : List S54) (a1 : Int) : Option Bool := some true
set_option maxHeartbeats 8000000 in
set_option maxRecDepth 100000 in
theorem laws_FnExactBestChoice.calls (A0 : Option Addr) (c0 : Nat) (l0 : List S54) (a1 : Int) (r : Bool) (w : World) (hr0 : Kd.C k54 w A0 l0.length l0) (hc0 : l0.length ≤ c0) (h : laws_FnExactBestChoice.f l0 a1 = some r) :
    Calls Try.prog 6 #[.slice A0 l0.length c0, .int .i64 a1] w fun e w' => e = .returned (.bool r) ∧ Below w.heap.size w w' := by
  obtain rfl := Option.some.inj h
  clear h
  obtain ⟨r1, hs1, hcase⟩ := sz_case hr0
  have R0 : Aside0 (LRd w A0 c0 l0) := ⟨⟨hc0, hr0⟩⟩
  have HL0 := Aside0.mk (Live.start w)
  have S1 := Aside0.mk hs1
  clear hr0 hc0 hs1
  rcases hcase with hneg | ⟨hpos, y, hy, g1, g2, g3⟩
  · have d1 : decide (r1 < 0) = true := decide_eq_true hneg
    clear hneg
    go_enter Try.func6, Try.ntmps6
    go_wp2_with (first | ((with_reducible refine gate_callee (f := 14) rfl ?_); refine goesL_ (some 21) rfl rfl Try.func14 (by kernel_rfl) rfl #[.slice A0 l0.length c0, .int .i64 1048576] rfl (by (try simp only [List.map_toArray, List.map_cons, List.map_nil]); first | done | rfl) ?_; (with_reducible refine (szO_live HL0.out R0.out S1.out).mono ?_); rintro e w2_ ⟨rfl, HLn⟩; refine ⟨_, rfl, ?_⟩; have HL1_ := Aside0.mk HLn; clear HLn HL0))
    go_ret
    exact ⟨rfl, HL1_.out.below⟩
  have d1 : decide (r1 < 0) = false := decide_eq_false (by omega)
  obtain ⟨k1_, k2_, p, m, b, hb1, hb2, hpl⟩ := both y a1 g1 g2
  have KP := Aside0.mk hpl
  have BS := Aside0.mk hb1
  have BI := Aside0.mk hb2
  have Y1 := Aside0.mk hy
  have G1 := Aside0.mk g1
  have G2 := Aside0.mk g2
  have G3 := Aside0.mk g3
  clear hpos hy g1 g2 g3 hb1 hb2 hpl
  obtain ⟨m1, em1⟩ : ∃ z : Int, 1 + (p.length : Int) = z := ⟨_, rfl⟩
  have b3 : decide (m1 < 0) = false := decide_eq_false (by omega)
  have E3 := Aside0.mk em1
  clear em1
  go_enter Try.func6, Try.ntmps6
  go_upto_region 14 with (first | ((with_reducible refine gate_callee (f := 14) rfl ?_); refine goesL_ (some 21) rfl rfl Try.func14 (by kernel_rfl) rfl #[.slice A0 l0.length c0, .int .i64 1048576] rfl (by (try simp only [List.map_toArray, List.map_cons, List.map_nil]); first | done | rfl) ?_; (with_reducible refine (szO_live HL0.out R0.out S1.out).mono ?_); rintro e w2_ ⟨rfl, HLn⟩; refine ⟨_, rfl, ?_⟩; have HL1_ := Aside0.mk HLn; clear HLn HL0) | ((with_reducible refine gate_callee (f := 16) rfl ?_); refine goesL_ (some 26) rfl rfl Try.func16 (by kernel_rfl) rfl #[.slice A0 l0.length c0] rfl (by (try simp only [List.map_toArray, List.map_cons, List.map_nil]); first | done | rfl) ?_; (with_reducible refine (toO_live HL1_.out R0.out Y1.out).mono ?_); rintro e w7_ ⟨B3_, c4_, ok5_, rfl, HLn⟩; refine ⟨_, rfl, ?_⟩; have HL6_ := Aside0.mk HLn; clear HLn HL1_) | ((with_reducible refine gate_callee (f := 25) rfl ?_); refine goesL_ (some 28) rfl rfl Try.func25 (by kernel_rfl) rfl #[.slice B3_ y.length c4_, .int .i64 a1] rfl (by (try simp only [List.map_toArray, List.map_cons, List.map_nil]); first | done | rfl) ?_; (with_reducible refine (spec_bc_live HL6_.out (ord_of HL6_.out 0 rfl) BS.out).mono ?_); rintro e w9_ ⟨Bw, cw, rfl, HLn⟩; refine ⟨_, rfl, ?_⟩; have HL8_ := Aside0.mk HLn; clear HLn HL6_) | ((with_reducible refine gate_callee (f := 16) rfl ?_); refine goesL_ (some 33) rfl rfl Try.func16 (by kernel_rfl) rfl #[.slice A0 l0.length c0] rfl (by (try simp only [List.map_toArray, List.map_cons, List.map_nil]); first | done | rfl) ?_; (with_reducible refine (toO_live HL8_.out R0.out Y1.out).mono ?_); rintro e w14_ ⟨B10_, c11_, ok12_, rfl, HLn⟩; refine ⟨_, rfl, ?_⟩; have HL13_ := Aside0.mk HLn; clear HLn HL8_) | ((with_reducible refine gate_callee (f := 26) rfl ?_); refine goesL_ (some 37) rfl rfl Try.func26 (by kernel_rfl) rfl #[.slice B10_ y.length c11_, .int .i64 a1] rfl (by (try simp only [List.map_toArray, List.map_cons, List.map_nil]); first | done | rfl) ?_; (with_reducible refine (impl_bc_live HL13_.out (ord_of HL13_.out 0 rfl) BI.out).mono ?_); rintro e w16_ ⟨Bg, cg, rfl, HLn⟩; refine ⟨_, rfl, ?_⟩; have HL15_ := Aside0.mk HLn; clear HLn HL13_) | ((with_reducible refine gate_callee (f := 21) rfl ?_); refine goesL_ (some 43) rfl rfl Try.func21 (by kernel_rfl) rfl #[.slice Bg p.length cg, .slice Bw p.length cw] rfl (by (try simp only [List.map_toArray, List.map_cons, List.map_nil]); first | done | rfl) ?_; (with_reducible refine (eqI_live HL15_.out (HL15_.out.rd 0 rfl) (HL15_.out.rd 2 rfl) KP.out).mono ?_); rintro e w18_ ⟨rfl, HLn⟩; refine ⟨_, rfl, ?_⟩; have HL17_ := Aside0.mk HLn; clear HLn HL15_) | ((with_reducible refine gate_callee (f := 16) rfl ?_); refine goesL_ (some 57) rfl rfl Try.func16 (by kernel_rfl) rfl #[.slice A0 l0.length c0] rfl (by (try simp only [List.map_toArray, List.map_cons, List.map_nil]); first | done | rfl) ?_; (with_reducible refine (toO_live HL17_.out R0.out Y1.out).mono ?_); rintro e w23_ ⟨B19_, c20_, ok21_, rfl, HLn⟩; refine ⟨_, rfl, ?_⟩; have HL22_ := Aside0.mk HLn; clear HLn HL17_) | ((with_reducible refine gate_callee (f := 18) rfl ?_); refine goesL_ (some 58) rfl rfl Try.func18 (by kernel_rfl) rfl #[.slice B10_ y.length c11_, .slice B19_ y.length c20_] rfl (by (try simp only [List.map_toArray, List.map_cons, List.map_nil]); first | done | rfl) ?_; (with_reducible refine (eqO_live HL22_.out (ord_of HL22_.out 2 rfl) (ord_of HL22_.out 0 rfl) G1.out G2.out).mono ?_); rintro e w25_ ⟨rfl, HLn⟩; refine ⟨_, rfl, ?_⟩; have HL24_ := Aside0.mk HLn; clear HLn HL22_) | ((with_reducible refine gate_callee (f := 22) rfl ?_); refine goesL_ (some 62) rfl rfl Try.func22 (by kernel_rfl) rfl #[.slice B10_ y.length c11_, .int .i64 1] rfl (by (try simp only [List.map_toArray, List.map_cons, List.map_nil]); first | done | rfl) ?_; (with_reducible refine (markO_live (HL24_.out.pick [2, 0, 1, 3, 4] (by decide) rfl) G1.out G3.out).mono ?_); rintro e w27_ ⟨k1, rfl, dk, HLn⟩; refine ⟨_, rfl, ?_⟩; have HL26_ := Aside0.mk HLn; clear HLn HL24_))
  go_upto_region 16 with (first | (go_at_call 21; (with_reducible refine (eqI_live HL26_.out (HL26_.out.rd 1 rfl) (HL26_.out.rd 2 rfl) KP.out).mono ?_); rintro e w29_ ⟨rfl, HLn⟩; have HL28_ := Aside0.mk HLn; clear HLn HL26_))
  go_wp2_with (first | ((with_reducible refine gate_callee (f := 23) rfl ?_); refine goesL_ (some 83) rfl rfl Try.func23 (by kernel_rfl) rfl #[.slice Bg p.length cg, .int .i64 1] rfl (by (try simp only [List.map_toArray, List.map_cons, List.map_nil]); first | done | rfl) ?_; (with_reducible refine (markI_live (HL28_.out.pick [1, 0, 2, 3] (by decide) rfl) KP.out E3.out).mono ?_); rintro e w31_ ⟨rfl, HLn⟩; refine ⟨_, rfl, ?_⟩; have HL30_ := Aside0.mk HLn; clear HLn HL28_) | ((with_reducible refine gate_callee (f := 24) rfl ?_); refine goesL_ (some 86) rfl rfl Try.func24 (by kernel_rfl) rfl #[.slice Bg p.length cg, .int .i64 1] rfl (by (try simp only [List.map_toArray, List.map_cons, List.map_nil]); first | done | rfl) ?_; (with_reducible refine (heldI_live HL30_.out KP.out (HL30_.out.rd 0 rfl) E3.out).mono ?_); rintro e w33_ ⟨rfl, HLn⟩; refine ⟨_, rfl, ?_⟩; have HL32_ := Aside0.mk HLn; clear HLn HL30_) | ((with_reducible refine gate_callee (f := 16) rfl ?_); refine goesL_ (some 94) rfl rfl Try.func16 (by kernel_rfl) rfl #[.slice A0 l0.length c0] rfl (by (try simp only [List.map_toArray, List.map_cons, List.map_nil]); first | done | rfl) ?_; (with_reducible refine (toO_live HL32_.out R0.out Y1.out).mono ?_); rintro e w38_ ⟨B34_, c35_, ok36_, rfl, HLn⟩; refine ⟨_, rfl, ?_⟩; have HL37_ := Aside0.mk HLn; clear HLn HL32_) | ((with_reducible refine gate_callee (f := 26) rfl ?_); refine goesL_ (some 96) rfl rfl Try.func26 (by kernel_rfl) rfl #[.slice B34_ y.length c35_, .int .i64 a1] rfl (by (try simp only [List.map_toArray, List.map_cons, List.map_nil]); first | done | rfl) ?_; (with_reducible refine (impl_bc_live HL37_.out (ord_of HL37_.out 0 rfl) BI.out).mono ?_); rintro e w40_ ⟨Bh, ch, rfl, HLn⟩; refine ⟨_, rfl, ?_⟩; have HL39_ := Aside0.mk HLn; clear HLn HL37_) | ((with_reducible refine gate_callee (f := 21) rfl ?_); refine goesL_ (some 102) rfl rfl Try.func21 (by kernel_rfl) rfl #[.slice Bh p.length ch, .slice Bw p.length cw] rfl (by (try simp only [List.map_toArray, List.map_cons, List.map_nil]); first | done | rfl) ?_; (with_reducible refine (eqI_live HL39_.out (HL39_.out.rd 0 rfl) (HL39_.out.rd 4 rfl) KP.out).mono ?_); rintro e w42_ ⟨rfl, HLn⟩; refine ⟨_, rfl, ?_⟩; have HL41_ := Aside0.mk HLn; clear HLn HL39_) | ((with_reducible refine gate_callee (f := 24) rfl ?_); refine goesL_ (some 116) rfl rfl Try.func24 (by kernel_rfl) rfl #[.slice Bg p.length cg, .int .i64 1] rfl (by (try simp only [List.map_toArray, List.map_cons, List.map_nil]); first | done | rfl) ?_; (with_reducible refine (heldI_live HL41_.out KP.out (HL41_.out.rd 2 rfl) E3.out).mono ?_); rintro e w44_ ⟨rfl, HLn⟩; refine ⟨_, rfl, ?_⟩; have HL43_ := Aside0.mk HLn; clear HLn HL41_))
  go_ret
  exact ⟨rfl, HL43_.out.below⟩

end Go.Proofs.Ytdgpplnfkifkgaa.PFnExactBestChoice
