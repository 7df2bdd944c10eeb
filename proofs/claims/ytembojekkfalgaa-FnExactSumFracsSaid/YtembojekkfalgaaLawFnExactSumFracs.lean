/- The row of the law FnExactSumFracs: for every input the call returns true and its arguments read afterwards as before, out of the pure statement and the printed contracts. Conditions: none. -/
import Derived.Test.YtembojekkfalgaaRows
import Derived.Test.YtembojekkfalgaaPFnExactSumFracsx4
import Derived.Test.YtembojekkfalgaaPureFnExactSumFracs
import Derived.Test.YtembojekkfalgaaOpens
import Derived.WalkKit
import Derived.ProofKit
import Derived.OpenShut
import Derived.ShutString
import Derived.ChangeOld
import Derived.Below
import Derived.SizedLaws
import Derived.Carry
namespace Go.Proofs.Ytembojekkfalgaa.fnExactSumFracs
open Go.ChangeShapes Go.WideShapes Go.ChangeAt Go.RowKit Go.Proofs.YtembojekkfalgaaW.PrintWords Go.Proofs.Ytembojekkfalgaa.PFnExactSumFracs
open Go.ChangeMaps (open_string shut_string)
set_option linter.unusedVariables false
theorem own : ownKnob Try.prog.godebug = none := by kernel_rfl
theorem laidOut : laidOutB Try.prog = true := by kernel_rfl
theorem opens48 (W : World) : Go.Proofs.Ytembojekkfalgaa.Opens.Opens Try.prog W 48 (Kd.slice 101 k101) B48 := (Go.Proofs.Ytembojekkfalgaa.Opens.opens_slice (d := k101) Try.underlying48 (by kernel_rfl) (Go.Proofs.Ytembojekkfalgaa.Opens.opens_struct2 (fun x : S101 => (x.f0, x.f1)) (fun a b => ⟨a, b⟩) (fun _ _ => rfl) Try.underlying101 rfl (by kernel_rfl) (by kernel_rfl) (Go.Proofs.Ytembojekkfalgaa.Opens.opens_int Try.underlying3) (Go.Proofs.Ytembojekkfalgaa.Opens.opens_int Try.underlying3)))
set_option maxRecDepth 100000 in
theorem lifted (os : Os) (started : os.Started) (H : Type) (enc : TypeId × Value → H) :
    ReturnsInHanded {} Try.checked os 9 .any (Rows.fnExactSumFracsSpec.pre6 enc Try.prog Try.f9 Rows.fnExactSumFracsRow.domain false) (Rows.fnExactSumFracsSpec.post enc Try.prog Try.f9 false true false false) := by
  refine returnsInHanded_of_change_sized (C := Try.checked) own started (by kernel_rfl) Try.func9
    (ChangeSpec.witness6 (enc := enc) (C := Try.checked) false ⟨#[], #[.slice none 0 0], []⟩ 8 (by kernel_rfl) (by kernel_rfl) (by kernel_rfl) (by kernel_rfl)) ?_
  intro W base args ds gs before hval0 hW hcnd hsz0 _
  have hval : ∀ (j : Nat) t v, Try.f9.params[j]? = some t → args[j]? = some v → Value.okWide Try.prog W .any base t v := hval0
  have hW' := hW
  obtain ⟨p, q, hA0, hV, rfl, hfz, hnd⟩ := hW
  have hA : DataW.TrodAll enc Try.prog W 0 (fun _ => true) true Try.f9.params.toList args.toList ds p := hA0
  rw [Try.params9] at hA hval
  obtain ⟨v0, vs0, d0, ds0, p0, q0, hargs, rfl, rfl, h0, r0⟩ := trodAll_cons hA
  obtain ⟨rfl, rfl, rfl⟩ := trodAll_nil r0
  obtain rfl : args = #[v0] := by cases args; simp_all
  obtain ⟨rfl, rfl⟩ := trodVars_none hV
  obtain ⟨A0, len0, c0, rfl⟩ := okWide_slice Try.underlying48 (hval 0 48 v0 rfl rfl)
  have k0 := h0
  have lt0 : ∀ x ∈ p0, x.block < W.heap.size := by obtain ⟨m, hm⟩ := k0; exact DataW.trod_lt m _ _ _ hm
  obtain ⟨l0, rfl, hc0, hr0, hb0⟩ := Go.Proofs.Ytembojekkfalgaa.Opens.Opens.slice_ (opens48 W) h0
  obtain ⟨k, hk⟩ := Pure.FnExactSumFracs l0 hb0
  refine (laws_FnExactSumFracs.calls k A0 c0 l0 true W hr0 hc0 hk).mono fun e W' ⟨he, bel⟩ => ?_
  subst he
  exact ⟨_, rfl, _, _, _, [], _, [], hW', trodAll_mk1 (shut_bool Try.underlying4 _), (trodAll_cons_mk (Below.trod laidOut (by kernel_rfl) (of_decide_eq_true (by kernel_rfl)) k0 bel lt0) trodAll_mk0), rfl, bel.frame _, fun h => by cases h⟩
theorem over : Rows.fnExactSumFracsRow.holds Try.pinned (OpenSpec.ofChange Rows.fnExactSumFracsSpec) :=
  OpenClaim.holds_of_wide 9 Try.f9 rfl rfl rfl rfl rfl rfl rfl ⟨rfl, rfl, rfl, rfl, rfl⟩ rfl rfl rfl rfl rfl (by kernel_rfl) Try.func9 (by kernel_rfl)
    (of_decide_eq_true (by kernel_rfl)) (by unfold Func.isWrapper; first | (rw [if_pos (by decide +kernel)]; kernel_rfl) | (rw [if_neg (by decide +kernel)]; exact ⟨rfl, rfl⟩))
    (fun os started H enc _ => lifted os started H enc)
theorem proved : Rows.FnExactSumFracsSaid := over
#print axioms proved
end Go.Proofs.Ytembojekkfalgaa.fnExactSumFracs
namespace Go.Proofs.Ytembojekkfalgaa
/-- The row, under a short name, for the claim. -/
theorem fnExactSumFracs_holds : Rows.FnExactSumFracsSaid := fnExactSumFracs.proved
end Go.Proofs.Ytembojekkfalgaa
