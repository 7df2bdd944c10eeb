/- The row of the law FnExactSmithOrder: for every input the call returns true and its arguments read afterwards as before, out of the pure statement and the printed contracts. Conditions: none. -/
import Derived.Test.YtckjoadfkalnoaaRows
import Derived.Test.YtckjoadfkalnoaaPFnExactSmithOrderx4
import Derived.Test.YtckjoadfkalnoaaPureFnExactSmithOrder
import Derived.Test.YtckjoadfkalnoaaOpens
import Derived.WalkKit
import Derived.ProofKit
import Derived.OpenShut
import Derived.ShutString
import Derived.ChangeOld
import Derived.Below
import Derived.SizedLaws
import Derived.Carry
namespace Go.Proofs.Ytckjoadfkalnoaa.fnExactSmithOrder
open Go.ChangeShapes Go.WideShapes Go.ChangeAt Go.RowKit Go.Proofs.YtckjoadfkalnoaaW.PrintWords Go.Proofs.Ytckjoadfkalnoaa.PFnExactSmithOrder
open Go.ChangeMaps (open_string shut_string)
set_option linter.unusedVariables false
theorem own : ownKnob Try.prog.godebug = none := by kernel_rfl
theorem laidOut : laidOutB Try.prog = true := by kernel_rfl
theorem opens57 (W : World) : Go.Proofs.Ytckjoadfkalnoaa.Opens.Opens Try.prog W 57 (Kd.slice 97 k97) B57 := (Go.Proofs.Ytckjoadfkalnoaa.Opens.opens_slice (d := k97) Try.underlying57 (by kernel_rfl) (Go.Proofs.Ytckjoadfkalnoaa.Opens.opens_struct2 (fun x : S97 => (x.f0, x.f1)) (fun a b => ⟨a, b⟩) (fun _ _ => rfl) Try.underlying97 rfl (by kernel_rfl) (by kernel_rfl) (Go.Proofs.Ytckjoadfkalnoaa.Opens.opens_int Try.underlying3) (Go.Proofs.Ytckjoadfkalnoaa.Opens.opens_int Try.underlying3)))
set_option maxRecDepth 100000 in
theorem lifted (os : Os) (started : os.Started) (H : Type) (enc : TypeId × Value → H) :
    ReturnsInHanded {} Try.checked os 8 .any (Rows.fnExactSmithOrderSpec.pre6 enc Try.prog Try.f8 Rows.fnExactSmithOrderRow.domain false) (Rows.fnExactSmithOrderSpec.post enc Try.prog Try.f8 false true false false) := by
  refine returnsInHanded_of_change_sized (C := Try.checked) own started (by kernel_rfl) Try.func8
    (ChangeSpec.witness6 (enc := enc) (C := Try.checked) false ⟨#[], #[.slice none 0 0], []⟩ 8 (by kernel_rfl) (by kernel_rfl) (by kernel_rfl) (by kernel_rfl)) ?_
  intro W base args ds gs before hval0 hW hcnd hsz0 _
  have hval : ∀ (j : Nat) t v, Try.f8.params[j]? = some t → args[j]? = some v → Value.okWide Try.prog W .any base t v := hval0
  have hW' := hW
  obtain ⟨p, q, hA0, hV, rfl, hfz, hnd⟩ := hW
  have hA : DataW.TrodAll enc Try.prog W 0 (fun _ => true) true Try.f8.params.toList args.toList ds p := hA0
  rw [Try.params8] at hA hval
  obtain ⟨v0, vs0, d0, ds0, p0, q0, hargs, rfl, rfl, h0, r0⟩ := trodAll_cons hA
  obtain ⟨rfl, rfl, rfl⟩ := trodAll_nil r0
  obtain rfl : args = #[v0] := by cases args; simp_all
  obtain ⟨rfl, rfl⟩ := trodVars_none hV
  obtain ⟨A0, len0, c0, rfl⟩ := okWide_slice Try.underlying57 (hval 0 57 v0 rfl rfl)
  have k0 := h0
  have lt0 : ∀ x ∈ p0, x.block < W.heap.size := by obtain ⟨m, hm⟩ := k0; exact DataW.trod_lt m _ _ _ hm
  obtain ⟨l0, rfl, hc0, hr0, hb0⟩ := Go.Proofs.Ytckjoadfkalnoaa.Opens.Opens.slice_ (opens57 W) h0
  obtain ⟨k, hk⟩ := Pure.FnExactSmithOrder l0 hb0
  refine (laws_FnExactSmithOrder.calls k A0 c0 l0 true W hr0 hc0 hk).mono fun e W' ⟨he, bel⟩ => ?_
  subst he
  exact ⟨_, rfl, _, _, _, [], _, [], hW', trodAll_mk1 (shut_bool Try.underlying4 _), (trodAll_cons_mk (Below.trod laidOut (by kernel_rfl) (of_decide_eq_true (by kernel_rfl)) k0 bel lt0) trodAll_mk0), rfl, bel.frame _, fun h => by cases h⟩
theorem over : Rows.fnExactSmithOrderRow.holds Try.pinned (OpenSpec.ofChange Rows.fnExactSmithOrderSpec) :=
  OpenClaim.holds_of_wide 8 Try.f8 rfl rfl rfl rfl rfl rfl rfl ⟨rfl, rfl, rfl, rfl, rfl⟩ rfl rfl rfl rfl rfl (by kernel_rfl) Try.func8 (by kernel_rfl)
    (of_decide_eq_true (by kernel_rfl)) (by unfold Func.isWrapper; first | (rw [if_pos (by decide +kernel)]; kernel_rfl) | (rw [if_neg (by decide +kernel)]; exact ⟨rfl, rfl⟩))
    (fun os started H enc _ => lifted os started H enc)
theorem proved : Rows.FnExactSmithOrderSaid := over
#print axioms proved
end Go.Proofs.Ytckjoadfkalnoaa.fnExactSmithOrder
namespace Go.Proofs.Ytckjoadfkalnoaa
/-- The row, under a short name, for the claim. -/
theorem fnExactSmithOrder_holds : Rows.FnExactSmithOrderSaid := fnExactSmithOrder.proved
end Go.Proofs.Ytckjoadfkalnoaa
