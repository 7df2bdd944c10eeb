/- The row of the law FnExactProfileOf: for every input the call returns true and its arguments read afterwards as before, out of the pure statement and the printed contracts. Conditions: none. -/
import Derived.Test.YtnaknegnpgodkaaDoorRows
import Derived.Test.YtnaknegnpgodkaaDoorPFnExactProfileOfx8
import Derived.Test.YtnaknegnpgodkaaDoorPureFnExactProfileOf
import Derived.Test.YtnaknegnpgodkaaDoorOpens
import Derived.WalkKit
import Derived.ProofKit
import Derived.OpenShut
import Derived.ShutString
import Derived.ChangeOld
import Derived.Below
import Derived.SizedLaws
import Derived.Carry
import Derived.LaidMore
import Derived.Lay
import Derived.SevenTiedAt
import Derived.Stop.Joined
import Derived.Test.YtnaknegnpgodkaaDoorTie
import Derived.Test.YtnaknegnpgodkaaDoorCards
namespace Go.Proofs.YtnaknegnpgodkaaDoor.fnExactProfileOf
open Go.ChangeShapes Go.WideShapes Go.ChangeAt Go.RowKit Go.Proofs.YtnaknegnpgodkaaDoorW.PrintWords Go.Proofs.YtnaknegnpgodkaaDoor.PFnExactProfileOf
open Go.ChangeMaps (open_string shut_string)
set_option linter.unusedVariables false
theorem own : ownKnob Tryd.prog.godebug = none := by kernel_rfl
theorem laidOut : laidOutB Tryd.prog = true := by kernel_rfl
theorem opens29 (W : World) : Go.Proofs.YtnaknegnpgodkaaDoor.Opens.Opens Tryd.prog W 29 (Kd.slice 55 k55) B29 := (Go.Proofs.YtnaknegnpgodkaaDoor.Opens.opens_slice (d := k55) Tryd.underlying29 (by kernel_rfl) (Go.Proofs.YtnaknegnpgodkaaDoor.Opens.opens_struct2 (fun x : S55 => (x.f0, x.f1)) (fun a b => ⟨a, b⟩) (fun _ _ => rfl) Tryd.underlying55 rfl (by kernel_rfl) (by kernel_rfl) (Go.Proofs.YtnaknegnpgodkaaDoor.Opens.opens_string Tryd.underlying9) (Go.Proofs.YtnaknegnpgodkaaDoor.Opens.opens_int Tryd.underlying3)))
theorem opens36 (W : World) : Go.Proofs.YtnaknegnpgodkaaDoor.Opens.Opens Tryd.prog W 36 (Kd.slice 66 k66) B36 := (Go.Proofs.YtnaknegnpgodkaaDoor.Opens.opens_slice (d := k66) Tryd.underlying36 (by kernel_rfl) (Go.Proofs.YtnaknegnpgodkaaDoor.Opens.opens_struct2 (fun x : S66 => (x.f0, x.f1)) (fun a b => ⟨a, b⟩) (fun _ _ => rfl) Tryd.underlying66 rfl (by kernel_rfl) (by kernel_rfl) (Go.Proofs.YtnaknegnpgodkaaDoor.Opens.opens_int Tryd.underlying3) (Go.Proofs.YtnaknegnpgodkaaDoor.Opens.opens_int Tryd.underlying3)))
set_option maxRecDepth 100000 in
theorem lifted (os : Os) (started : os.Started) (H : Type) (enc : TypeId × Value → H) :
    ReturnsInHanded {} Tryd.checked os 5 .any (fun w args => (Rows.fnExactProfileOfSpec.pre enc Tryd.prog Tryd.f5 Rows.fnExactProfileOfRow.domain false w args ∧ laidMetH Tryd.prog Rows.fnExactProfileOfRow.laid w) ∧ sizedMet enc Tryd.prog Tryd.f5 (OpenSpec.ofChange Rows.fnExactProfileOfSpec) false w args) (Rows.fnExactProfileOfSpec.post enc Tryd.prog Tryd.f5 false true false false) := by
  refine returnsInHanded_of_change_and (C := Tryd.checked) (X := fun w _ => laidMetH Tryd.prog Rows.fnExactProfileOfRow.laid w) (fun _ _ _ hh h => h.of_heap hh) own started (by kernel_rfl) Tryd.func5
    (ChangeSpec.witness_shaped (enc := enc) (C := Tryd.checked) (os := os) (X := fun w _ => laidMetH Tryd.prog Rows.fnExactProfileOfRow.laid w) false (World.laidAll Tryd.prog os Rows.fnExactProfileOfRow.laid) #[.slice none 0 0, .slice none 0 0] 8 (World.laidAll_os _ _ _) (World.shaped_of_ZipB (by kernel_rfl) (by kernel_rfl)) (by kernel_rfl) (by kernel_rfl) (by kernel_rfl) (by rw [MakeChecks.laidMetH_plain _ _ _ (by kernel_rfl)]; exact laidMet_laidAll _ (by kernel_rfl) (by kernel_rfl))) ?_
  intro W base args ds gs before hval0 hW hcnd hsz0 hL _
  have hval : ∀ (j : Nat) t v, Tryd.f5.params[j]? = some t → args[j]? = some v → Value.okWide Tryd.prog W .any base t v := hval0
  have hW' := hW
  obtain ⟨p, q, hA0, hV, rfl, hfz, hnd⟩ := hW
  have hA : DataW.TrodAll enc Tryd.prog W 0 (fun _ => true) true Tryd.f5.params.toList args.toList ds p := hA0
  rw [Tryd.params5] at hA hval
  obtain ⟨v0, vs0, d0, ds0, p0, q0, hargs, rfl, rfl, h0, r0⟩ := trodAll_cons hA
  obtain ⟨v1, vs1, d1, ds1, p1, q1, rfl, rfl, rfl, h1, r1⟩ := trodAll_cons r0
  obtain ⟨rfl, rfl, rfl⟩ := trodAll_nil r1
  obtain rfl : args = #[v0, v1] := by cases args; simp_all
  obtain ⟨rfl, rfl⟩ := trodVars_none hV
  obtain ⟨A0, len0, c0, rfl⟩ := okWide_slice Tryd.underlying29 (hval 0 29 v0 rfl rfl)
  have k0 := h0
  have lt0 : ∀ x ∈ p0, x.block < W.heap.size := by obtain ⟨m, hm⟩ := k0; exact DataW.trod_lt m _ _ _ hm
  obtain ⟨l0, rfl, hc0, hr0, hb0⟩ := Go.Proofs.YtnaknegnpgodkaaDoor.Opens.Opens.slice_ (opens29 W) h0
  obtain ⟨A1, len1, c1, rfl⟩ := okWide_slice Tryd.underlying36 (hval 1 36 v1 rfl rfl)
  have k1 := h1
  have lt1 : ∀ x ∈ p1, x.block < W.heap.size := by obtain ⟨m, hm⟩ := k1; exact DataW.trod_lt m _ _ _ hm
  obtain ⟨l1, rfl, hc1, hr1, hb1⟩ := Go.Proofs.YtnaknegnpgodkaaDoor.Opens.Opens.slice_ (opens36 W) h1
  obtain ⟨k, hk⟩ := Pure.FnExactProfileOf l0 l1 hb0 hb1
  refine (laws_FnExactProfileOf.calls k A0 c0 l0 A1 c1 l1 true W hr0 hc0 hr1 hc1 hk).mono fun e W' ⟨he, bel⟩ => ?_
  subst he
  exact ⟨_, rfl, _, _, _, [], _, [], hW', trodAll_mk1 (shut_bool Tryd.underlying4 _), (trodAll_cons_mk (Below.trod laidOut (by kernel_rfl) (of_decide_eq_true (by kernel_rfl)) k0 bel lt0) (trodAll_cons_mk (Below.trod laidOut (by kernel_rfl) (of_decide_eq_true (by kernel_rfl)) k1 bel lt1) trodAll_mk0)), rfl, bel.frame _, fun h => by cases h⟩
theorem over : Rows.fnExactProfileOfRow.holds Tryd.pinned (OpenSpec.ofChange Rows.fnExactProfileOfSpec) :=
  OpenClaim.holds_of_wide 5 Tryd.f5 rfl rfl rfl rfl rfl rfl rfl ⟨rfl, rfl, rfl, rfl, rfl⟩ rfl rfl rfl rfl rfl (by kernel_rfl) Tryd.func5 (by kernel_rfl)
    (of_decide_eq_true (by kernel_rfl)) (by unfold Func.isWrapper; first | (rw [if_pos (by decide +kernel)]; kernel_rfl) | (rw [if_neg (by decide +kernel)]; exact ⟨rfl, rfl⟩))
    (fun os started H enc _ => lifted os started H enc)
theorem proved : Rows.FnExactProfileOfSaid := over
/-- The card: the row, its listed variables tied to the program's text. -/
theorem carded : Rows.FnExactProfileOfCardSaid :=
  Claim7.holds_tied_plain_at .later [] [.data, .pinned] true Rows.fnExactProfileOfCard.stood.harness false proved (fun _ h => by cases h) (by kernel_rfl) (fun _ h => by cases h) fnExactProfileOf_row_tie rfl ⟨rfl, rfl⟩ (by kernel_rfl) rfl
    (fun f fn hf hfn => by
      obtain rfl : f = 5 := Option.some.inj ((show Tryd.prog.funcNamed Rows.fnExactProfileOfRow.func = some 5 by kernel_rfl).symm.trans hf) |>.symm
      obtain rfl : fn = Tryd.f5 := (Option.some.inj (Tryd.func5.symm.trans hfn)).symm
      exact ⟨by kernel_rfl, fun j t ht => by
        rw [Tryd.params5] at ht
        have hm : t ∈ [29, 36] := by simpa using Array.mem_of_getElem? ht
        have hall : ([29, 36].all fun u => !Tryd.prog.wantsStandIn u) = true := by kernel_rfl
        exact (show Tryd.prog.wantsStandIn t = false by simpa using List.all_eq_true.1 hall t hm)⟩)
    (by kernel_rfl)
#print axioms carded
end Go.Proofs.YtnaknegnpgodkaaDoor.fnExactProfileOf
namespace Go.Proofs.YtnaknegnpgodkaaDoor
/-- The row, under a short name, for the claim. -/
theorem fnExactProfileOf_holds : Rows.FnExactProfileOfCardSaid := fnExactProfileOf.carded
end Go.Proofs.YtnaknegnpgodkaaDoor
