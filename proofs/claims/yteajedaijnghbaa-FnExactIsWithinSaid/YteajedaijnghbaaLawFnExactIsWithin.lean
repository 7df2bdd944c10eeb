/- The row of the law FnExactIsWithin: for every input the call returns true and its arguments read afterwards as before, out of the pure statement and the printed contracts. Conditions: none. -/
import Derived.Test.YteajedaijnghbaaRows
import Derived.Test.YteajedaijnghbaaPFnExactIsWithinx2
import Derived.Test.YteajedaijnghbaaPureFnExactIsWithin
import Derived.Test.YteajedaijnghbaaOpens
import Derived.WalkKit
import Derived.ProofKit
import Derived.OpenShut
import Derived.ShutString
import Derived.ChangeOld
import Derived.Below
import Derived.SizedLaws
import Derived.Carry
namespace Go.Proofs.Yteajedaijnghbaa.fnExactIsWithin
open Go.ChangeShapes Go.WideShapes Go.ChangeAt Go.RowKit Go.Proofs.YteajedaijnghbaaW.PrintWords Go.Proofs.Yteajedaijnghbaa.PFnExactIsWithin
open Go.ChangeMaps (open_string shut_string)
set_option linter.unusedVariables false
theorem own : ownKnob Try.prog.godebug = none := by kernel_rfl
theorem laidOut : laidOutB Try.prog = true := by kernel_rfl
theorem opens35 (W : World) : Go.Proofs.Yteajedaijnghbaa.Opens.Opens Try.prog W 35 k35 B35 := (Go.Proofs.Yteajedaijnghbaa.Opens.opens_struct2 (fun x : S35 => (x.f0, x.f1)) (fun a b => ⟨a, b⟩) (fun _ _ => rfl) Try.underlying35 rfl (by kernel_rfl) (by kernel_rfl) (Go.Proofs.Yteajedaijnghbaa.Opens.opens_int Try.underlying3) (Go.Proofs.Yteajedaijnghbaa.Opens.opens_int Try.underlying3))
theorem opens37 (W : World) : Go.Proofs.Yteajedaijnghbaa.Opens.Opens Try.prog W 37 k37 B37 := (Go.Proofs.Yteajedaijnghbaa.Opens.opens_struct2 (fun x : S37 => (x.f0, x.f1)) (fun a b => ⟨a, b⟩) (fun _ _ => rfl) Try.underlying37 rfl (by kernel_rfl) (by kernel_rfl) (Go.Proofs.Yteajedaijnghbaa.Opens.opens_struct2 (fun x : S35 => (x.f0, x.f1)) (fun a b => ⟨a, b⟩) (fun _ _ => rfl) Try.underlying35 rfl (by kernel_rfl) (by kernel_rfl) (Go.Proofs.Yteajedaijnghbaa.Opens.opens_int Try.underlying3) (Go.Proofs.Yteajedaijnghbaa.Opens.opens_int Try.underlying3)) (Go.Proofs.Yteajedaijnghbaa.Opens.opens_struct2 (fun x : S35 => (x.f0, x.f1)) (fun a b => ⟨a, b⟩) (fun _ _ => rfl) Try.underlying35 rfl (by kernel_rfl) (by kernel_rfl) (Go.Proofs.Yteajedaijnghbaa.Opens.opens_int Try.underlying3) (Go.Proofs.Yteajedaijnghbaa.Opens.opens_int Try.underlying3)))
set_option maxRecDepth 100000 in
theorem lifted (os : Os) (started : os.Started) (H : Type) (enc : TypeId × Value → H) :
    ReturnsInHanded {} Try.checked os 5 .any (Rows.fnExactIsWithinSpec.pre6 enc Try.prog Try.f5 Rows.fnExactIsWithinRow.domain false) (Rows.fnExactIsWithinSpec.post enc Try.prog Try.f5 false true false false) := by
  refine returnsInHanded_of_change_sized (C := Try.checked) own started (by kernel_rfl) Try.func5
    (ChangeSpec.witness6 (enc := enc) (C := Try.checked) false ⟨#[], #[.agg #[.int .i64 0, .int .i64 0], .agg #[.int .i64 0, .int .i64 0, .int .i64 0, .int .i64 0]], []⟩ 8 (by kernel_rfl) (by kernel_rfl) (by kernel_rfl) (by kernel_rfl)) ?_
  intro W base args ds gs before hval0 hW hcnd hsz0 _
  have hval : ∀ (j : Nat) t v, Try.f5.params[j]? = some t → args[j]? = some v → Value.okWide Try.prog W .any base t v := hval0
  have hW' := hW
  obtain ⟨p, q, hA0, hV, rfl, hfz, hnd⟩ := hW
  have hA : DataW.TrodAll enc Try.prog W 0 (fun _ => true) true Try.f5.params.toList args.toList ds p := hA0
  rw [Try.params5] at hA hval
  obtain ⟨v0, vs0, d0, ds0, p0, q0, hargs, rfl, rfl, h0, r0⟩ := trodAll_cons hA
  obtain ⟨v1, vs1, d1, ds1, p1, q1, rfl, rfl, rfl, h1, r1⟩ := trodAll_cons r0
  obtain ⟨rfl, rfl, rfl⟩ := trodAll_nil r1
  obtain rfl : args = #[v0, v1] := by cases args; simp_all
  obtain ⟨rfl, rfl⟩ := trodVars_none hV
  obtain ⟨cs0, rfl, _⟩ := okWide_struct Try.underlying35 (hval 0 35 v0 rfl rfl)
  have k0 := h0
  have lt0 : ∀ x ∈ p0, x.block < W.heap.size := by obtain ⟨m, hm⟩ := k0; exact DataW.trod_lt m _ _ _ hm
  obtain ⟨x0, hk0, hb0⟩ := Go.Proofs.Yteajedaijnghbaa.Opens.Opens.agg_ (opens35 W) h0
  have he0 := k35_open hk0
  obtain rfl : cs0 = #[.int .i64 x0.f0, .int .i64 x0.f1] := Array.ext' (by simpa using he0)
  obtain ⟨cs1, rfl, _⟩ := okWide_struct Try.underlying37 (hval 1 37 v1 rfl rfl)
  have k1 := h1
  have lt1 : ∀ x ∈ p1, x.block < W.heap.size := by obtain ⟨m, hm⟩ := k1; exact DataW.trod_lt m _ _ _ hm
  obtain ⟨x1, hk1, hb1⟩ := Go.Proofs.Yteajedaijnghbaa.Opens.Opens.agg_ (opens37 W) h1
  have he1 := k37_open hk1
  obtain rfl : cs1 = #[.int .i64 x1.f0.f0, .int .i64 x1.f0.f1, .int .i64 x1.f1.f0, .int .i64 x1.f1.f1] := Array.ext' (by simpa using he1)
  obtain ⟨k, hk⟩ := Pure.FnExactIsWithin x0 x1 hb0 hb1
  refine (laws_FnExactIsWithin.calls k x0.f0 x0.f1 x1.f0.f0 x1.f0.f1 x1.f1.f0 x1.f1.f1 true W  hk).mono fun e W' ⟨he, bel⟩ => ?_
  subst he
  exact ⟨_, rfl, _, _, _, [], _, [], hW', trodAll_mk1 (shut_bool Try.underlying4 _), (trodAll_cons_mk (Below.trod laidOut (by kernel_rfl) (of_decide_eq_true (by kernel_rfl)) k0 bel lt0) (trodAll_cons_mk (Below.trod laidOut (by kernel_rfl) (of_decide_eq_true (by kernel_rfl)) k1 bel lt1) trodAll_mk0)), rfl, bel.frame _, fun h => by cases h⟩
theorem over : Rows.fnExactIsWithinRow.holds Try.pinned (OpenSpec.ofChange Rows.fnExactIsWithinSpec) :=
  OpenClaim.holds_of_wide 5 Try.f5 rfl rfl rfl rfl rfl rfl rfl ⟨rfl, rfl, rfl, rfl, rfl⟩ rfl rfl rfl rfl rfl (by kernel_rfl) Try.func5 (by kernel_rfl)
    (of_decide_eq_true (by kernel_rfl)) (by unfold Func.isWrapper; first | (rw [if_pos (by decide +kernel)]; kernel_rfl) | (rw [if_neg (by decide +kernel)]; exact ⟨rfl, rfl⟩))
    (fun os started H enc _ => lifted os started H enc)
theorem proved : Rows.FnExactIsWithinSaid := over
#print axioms proved
end Go.Proofs.Yteajedaijnghbaa.fnExactIsWithin
namespace Go.Proofs.Yteajedaijnghbaa
/-- The row, under a short name, for the claim. -/
theorem fnExactIsWithin_holds : Rows.FnExactIsWithinSaid := fnExactIsWithin.proved
end Go.Proofs.Yteajedaijnghbaa
