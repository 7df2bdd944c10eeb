/- The row of the law FnExactGoodBounds: for every input the call returns true and its arguments read afterwards as before, out of the pure statement and the printed contracts. Conditions: none. -/
import Derived.Test.YtpoggaflianeiaaRows
import Derived.Test.YtpoggaflianeiaaPFnExactGoodBoundsx2
import Derived.Test.YtpoggaflianeiaaPureFnExactGoodBounds
import Derived.Test.YtpoggaflianeiaaOpens
import Derived.WalkKit
import Derived.ProofKit
import Derived.OpenShut
import Derived.ShutString
import Derived.ChangeOld
import Derived.Below
import Derived.SizedLaws
import Derived.Carry
namespace Go.Proofs.Ytpoggaflianeiaa.fnExactGoodBounds
open Go.ChangeShapes Go.WideShapes Go.ChangeAt Go.RowKit Go.Proofs.YtpoggaflianeiaaW.PrintWords Go.Proofs.Ytpoggaflianeiaa.PFnExactGoodBounds
open Go.ChangeMaps (open_string shut_string)
set_option linter.unusedVariables false
theorem own : ownKnob Try.prog.godebug = none := by kernel_rfl
theorem laidOut : laidOutB Try.prog = true := by kernel_rfl
theorem opens56 (W : World) : Go.Proofs.Ytpoggaflianeiaa.Opens.Opens Try.prog W 56 k56 B56 := (Go.Proofs.Ytpoggaflianeiaa.Opens.opens_struct2 (fun x : S56 => (x.f0, x.f1)) (fun a b => ⟨a, b⟩) (fun _ _ => rfl) Try.underlying56 rfl (by kernel_rfl) (by kernel_rfl) (Go.Proofs.Ytpoggaflianeiaa.Opens.opens_struct2 (fun x : S24 => (x.f0, x.f1)) (fun a b => ⟨a, b⟩) (fun _ _ => rfl) Try.underlying24 rfl (by kernel_rfl) (by kernel_rfl) (Go.Proofs.Ytpoggaflianeiaa.Opens.opens_int Try.underlying3) (Go.Proofs.Ytpoggaflianeiaa.Opens.opens_int Try.underlying3)) (Go.Proofs.Ytpoggaflianeiaa.Opens.opens_struct2 (fun x : S24 => (x.f0, x.f1)) (fun a b => ⟨a, b⟩) (fun _ _ => rfl) Try.underlying24 rfl (by kernel_rfl) (by kernel_rfl) (Go.Proofs.Ytpoggaflianeiaa.Opens.opens_int Try.underlying3) (Go.Proofs.Ytpoggaflianeiaa.Opens.opens_int Try.underlying3)))
set_option maxRecDepth 100000 in
theorem lifted (os : Os) (started : os.Started) (H : Type) (enc : TypeId × Value → H) :
    ReturnsInHanded {} Try.checked os 14 .any (Rows.fnExactGoodBoundsSpec.pre6 enc Try.prog Try.f14 Rows.fnExactGoodBoundsRow.domain false) (Rows.fnExactGoodBoundsSpec.post enc Try.prog Try.f14 false true false false) := by
  refine returnsInHanded_of_change_sized (C := Try.checked) own started (by kernel_rfl) Try.func14
    (ChangeSpec.witness6 (enc := enc) (C := Try.checked) false ⟨#[], #[.agg #[.int .i64 0, .int .i64 0, .int .i64 0, .int .i64 0]], []⟩ 8 (by kernel_rfl) (by kernel_rfl) (by kernel_rfl) (by kernel_rfl)) ?_
  intro W base args ds gs before hval0 hW hcnd hsz0 _
  have hval : ∀ (j : Nat) t v, Try.f14.params[j]? = some t → args[j]? = some v → Value.okWide Try.prog W .any base t v := hval0
  have hW' := hW
  obtain ⟨p, q, hA0, hV, rfl, hfz, hnd⟩ := hW
  have hA : DataW.TrodAll enc Try.prog W 0 (fun _ => true) true Try.f14.params.toList args.toList ds p := hA0
  rw [Try.params14] at hA hval
  obtain ⟨v0, vs0, d0, ds0, p0, q0, hargs, rfl, rfl, h0, r0⟩ := trodAll_cons hA
  obtain ⟨rfl, rfl, rfl⟩ := trodAll_nil r0
  obtain rfl : args = #[v0] := by cases args; simp_all
  obtain ⟨rfl, rfl⟩ := trodVars_none hV
  obtain ⟨cs0, rfl, _⟩ := okWide_struct Try.underlying56 (hval 0 56 v0 rfl rfl)
  have k0 := h0
  have lt0 : ∀ x ∈ p0, x.block < W.heap.size := by obtain ⟨m, hm⟩ := k0; exact DataW.trod_lt m _ _ _ hm
  obtain ⟨x0, hk0, hb0⟩ := Go.Proofs.Ytpoggaflianeiaa.Opens.Opens.agg_ (opens56 W) h0
  have he0 := k56_open hk0
  obtain rfl : cs0 = #[.int .i64 x0.f0.f0, .int .i64 x0.f0.f1, .int .i64 x0.f1.f0, .int .i64 x0.f1.f1] := Array.ext' (by simpa using he0)
  have hk := Pure.FnExactGoodBounds x0 hb0
  refine (laws_FnExactGoodBounds.calls x0.f0.f0 x0.f0.f1 x0.f1.f0 x0.f1.f1 true W  hk).mono fun e W' ⟨he, bel⟩ => ?_
  subst he
  exact ⟨_, rfl, _, _, _, [], _, [], hW', trodAll_mk1 (shut_bool Try.underlying4 _), (trodAll_cons_mk (Below.trod laidOut (by kernel_rfl) (of_decide_eq_true (by kernel_rfl)) k0 bel lt0) trodAll_mk0), rfl, bel.frame _, fun h => by cases h⟩
theorem over : Rows.fnExactGoodBoundsRow.holds Try.pinned (OpenSpec.ofChange Rows.fnExactGoodBoundsSpec) :=
  OpenClaim.holds_of_wide 14 Try.f14 rfl rfl rfl rfl rfl rfl rfl ⟨rfl, rfl, rfl, rfl, rfl⟩ rfl rfl rfl rfl rfl (by kernel_rfl) Try.func14 (by kernel_rfl)
    (of_decide_eq_true (by kernel_rfl)) (by unfold Func.isWrapper; first | (rw [if_pos (by decide +kernel)]; kernel_rfl) | (rw [if_neg (by decide +kernel)]; exact ⟨rfl, rfl⟩))
    (fun os started H enc _ => lifted os started H enc)
theorem proved : Rows.FnExactGoodBoundsSaid := over
#print axioms proved
end Go.Proofs.Ytpoggaflianeiaa.fnExactGoodBounds
namespace Go.Proofs.Ytpoggaflianeiaa
/-- The row, under a short name, for the claim. -/
theorem fnExactGoodBounds_holds : Rows.FnExactGoodBoundsSaid := fnExactGoodBounds.proved
end Go.Proofs.Ytpoggaflianeiaa
