/- The row of the law FnExactOrderFor: for every input the call returns true and its arguments read afterwards as before, out of the pure statement and the printed contracts. Conditions: none. -/
import Derived.Test.YtckjoadfkalnoaaRows
import Derived.Test.YtckjoadfkalnoaaPFnExactOrderForx5
import Derived.Test.YtckjoadfkalnoaaPureFnExactOrderFor
import Derived.Test.YtckjoadfkalnoaaOpens
import Derived.WalkKit
import Derived.ProofKit
import Derived.OpenShut
import Derived.ShutString
import Derived.ChangeOld
import Derived.Below
import Derived.SizedLaws
import Derived.Carry
namespace Go.Proofs.Ytckjoadfkalnoaa.fnExactOrderFor
open Go.ChangeShapes Go.WideShapes Go.ChangeAt Go.RowKit Go.Proofs.YtckjoadfkalnoaaW.PrintWords Go.Proofs.Ytckjoadfkalnoaa.PFnExactOrderFor
open Go.ChangeMaps (open_string shut_string)
set_option linter.unusedVariables false
theorem own : ownKnob Try.prog.godebug = none := by kernel_rfl
theorem laidOut : laidOutB Try.prog = true := by kernel_rfl
theorem opens35 (W : World) : Go.Proofs.Ytckjoadfkalnoaa.Opens.Opens Try.prog W 35 (Kd.slice 3 (Kd.int .i64)) B35 := (Go.Proofs.Ytckjoadfkalnoaa.Opens.opens_slice (d := (Kd.int .i64)) Try.underlying35 (by kernel_rfl) (Go.Proofs.Ytckjoadfkalnoaa.Opens.opens_int Try.underlying3))
set_option maxRecDepth 100000 in
theorem lifted (os : Os) (started : os.Started) (H : Type) (enc : TypeId × Value → H) :
    ReturnsInHanded {} Try.checked os 9 .any (Rows.fnExactOrderForSpec.pre6 enc Try.prog Try.f9 Rows.fnExactOrderForRow.domain false) (Rows.fnExactOrderForSpec.post enc Try.prog Try.f9 false true false false) := by
  refine returnsInHanded_of_change_sized (C := Try.checked) own started (by kernel_rfl) Try.func9
    (ChangeSpec.witness6 (enc := enc) (C := Try.checked) false ⟨#[], #[.slice none 0 0, .slice none 0 0], []⟩ 8 (by kernel_rfl) (by kernel_rfl) (by kernel_rfl) (by kernel_rfl)) ?_
  intro W base args ds gs before hval0 hW hcnd hsz0 _
  have hval : ∀ (j : Nat) t v, Try.f9.params[j]? = some t → args[j]? = some v → Value.okWide Try.prog W .any base t v := hval0
  have hW' := hW
  obtain ⟨p, q, hA0, hV, rfl, hfz, hnd⟩ := hW
  have hA : DataW.TrodAll enc Try.prog W 0 (fun _ => true) true Try.f9.params.toList args.toList ds p := hA0
  rw [Try.params9] at hA hval
  obtain ⟨v0, vs0, d0, ds0, p0, q0, hargs, rfl, rfl, h0, r0⟩ := trodAll_cons hA
  obtain ⟨v1, vs1, d1, ds1, p1, q1, rfl, rfl, rfl, h1, r1⟩ := trodAll_cons r0
  obtain ⟨rfl, rfl, rfl⟩ := trodAll_nil r1
  obtain rfl : args = #[v0, v1] := by cases args; simp_all
  obtain ⟨rfl, rfl⟩ := trodVars_none hV
  obtain ⟨A0, len0, c0, rfl⟩ := okWide_slice Try.underlying35 (hval 0 35 v0 rfl rfl)
  have k0 := h0
  have lt0 : ∀ x ∈ p0, x.block < W.heap.size := by obtain ⟨m, hm⟩ := k0; exact DataW.trod_lt m _ _ _ hm
  obtain ⟨l0, rfl, hc0, hr0, hb0⟩ := Go.Proofs.Ytckjoadfkalnoaa.Opens.Opens.slice_ (opens35 W) h0
  obtain ⟨A1, len1, c1, rfl⟩ := okWide_slice Try.underlying35 (hval 1 35 v1 rfl rfl)
  have k1 := h1
  have lt1 : ∀ x ∈ p1, x.block < W.heap.size := by obtain ⟨m, hm⟩ := k1; exact DataW.trod_lt m _ _ _ hm
  obtain ⟨l1, rfl, hc1, hr1, hb1⟩ := Go.Proofs.Ytckjoadfkalnoaa.Opens.Opens.slice_ (opens35 W) h1
  obtain ⟨k, hk⟩ := Pure.FnExactOrderFor l0 l1 hb0 hb1
  refine (laws_FnExactOrderFor.calls k A0 c0 l0 A1 c1 l1 true W hr0 hc0 hr1 hc1 hk).mono fun e W' ⟨he, bel⟩ => ?_
  subst he
  exact ⟨_, rfl, _, _, _, [], _, [], hW', trodAll_mk1 (shut_bool Try.underlying4 _), (trodAll_cons_mk (Below.trod laidOut (by kernel_rfl) (of_decide_eq_true (by kernel_rfl)) k0 bel lt0) (trodAll_cons_mk (Below.trod laidOut (by kernel_rfl) (of_decide_eq_true (by kernel_rfl)) k1 bel lt1) trodAll_mk0)), rfl, bel.frame _, fun h => by cases h⟩
theorem over : Rows.fnExactOrderForRow.holds Try.pinned (OpenSpec.ofChange Rows.fnExactOrderForSpec) :=
  OpenClaim.holds_of_wide 9 Try.f9 rfl rfl rfl rfl rfl rfl rfl ⟨rfl, rfl, rfl, rfl, rfl⟩ rfl rfl rfl rfl rfl (by kernel_rfl) Try.func9 (by kernel_rfl)
    (of_decide_eq_true (by kernel_rfl)) (by unfold Func.isWrapper; first | (rw [if_pos (by decide +kernel)]; kernel_rfl) | (rw [if_neg (by decide +kernel)]; exact ⟨rfl, rfl⟩))
    (fun os started H enc _ => lifted os started H enc)
theorem proved : Rows.FnExactOrderForSaid := over
#print axioms proved
end Go.Proofs.Ytckjoadfkalnoaa.fnExactOrderFor
namespace Go.Proofs.Ytckjoadfkalnoaa
/-- The row, under a short name, for the claim. -/
theorem fnExactOrderFor_holds : Rows.FnExactOrderForSaid := fnExactOrderFor.proved
end Go.Proofs.Ytckjoadfkalnoaa
