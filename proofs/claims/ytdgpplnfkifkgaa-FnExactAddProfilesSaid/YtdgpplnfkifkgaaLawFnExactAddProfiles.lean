/- The row of the law FnExactAddProfiles: for every input the call returns true and its arguments read afterwards as before, out of the pure statement and the printed contracts. Conditions: none. -/
import Derived.Test.YtdgpplnfkifkgaaRows
import Derived.Test.YtdgpplnfkifkgaaPFnExactAddProfilesx7
import Derived.Test.YtdgpplnfkifkgaaPureFnExactAddProfiles
import Derived.Test.YtdgpplnfkifkgaaOpens
import Derived.WalkKit
import Derived.ProofKit
import Derived.OpenShut
import Derived.ShutString
import Derived.ChangeOld
import Derived.Below
import Derived.SizedLaws
import Derived.Carry
namespace Go.Proofs.Ytdgpplnfkifkgaa.fnExactAddProfiles
open Go.ChangeShapes Go.WideShapes Go.ChangeAt Go.RowKit Go.Proofs.YtdgpplnfkifkgaaW.PrintWords Go.Proofs.Ytdgpplnfkifkgaa.PFnExactAddProfiles
open Go.ChangeMaps (open_string shut_string)
set_option linter.unusedVariables false
theorem own : ownKnob Try.prog.godebug = none := by kernel_rfl
theorem laidOut : laidOutB Try.prog = true := by kernel_rfl
theorem opens24 (W : World) : Go.Proofs.Ytdgpplnfkifkgaa.Opens.Opens Try.prog W 24 k24 B24 := (Go.Proofs.Ytdgpplnfkifkgaa.Opens.opens_struct2 (fun x : S24 => (x.f0, x.f1)) (fun a b => ⟨a, b⟩) (fun _ _ => rfl) Try.underlying24 rfl (by kernel_rfl) (by kernel_rfl) (Go.Proofs.Ytdgpplnfkifkgaa.Opens.opens_slice (d := (Kd.int .i64)) Try.underlying22 (by kernel_rfl) (Go.Proofs.Ytdgpplnfkifkgaa.Opens.opens_int Try.underlying3)) (Go.Proofs.Ytdgpplnfkifkgaa.Opens.opens_slice (d := (Kd.int .i64)) Try.underlying22 (by kernel_rfl) (Go.Proofs.Ytdgpplnfkifkgaa.Opens.opens_int Try.underlying3)))
set_option maxRecDepth 100000 in
theorem lifted (os : Os) (started : os.Started) (H : Type) (enc : TypeId × Value → H) :
    ReturnsInHanded {} Try.checked os 3 .any (Rows.fnExactAddProfilesSpec.pre6 enc Try.prog Try.f3 Rows.fnExactAddProfilesRow.domain false) (Rows.fnExactAddProfilesSpec.post enc Try.prog Try.f3 false true false false) := by
  refine returnsInHanded_of_change_sized (C := Try.checked) own started (by kernel_rfl) Try.func3
    (ChangeSpec.witness6 (enc := enc) (C := Try.checked) false ⟨#[], #[.agg #[.slice none 0 0, .slice none 0 0], .agg #[.slice none 0 0, .slice none 0 0]], []⟩ 8 (by kernel_rfl) (by kernel_rfl) (by kernel_rfl) (by kernel_rfl)) ?_
  intro W base args ds gs before hval0 hW hcnd hsz0 _
  have hval : ∀ (j : Nat) t v, Try.f3.params[j]? = some t → args[j]? = some v → Value.okWide Try.prog W .any base t v := hval0
  have hW' := hW
  obtain ⟨p, q, hA0, hV, rfl, hfz, hnd⟩ := hW
  have hA : DataW.TrodAll enc Try.prog W 0 (fun _ => true) true Try.f3.params.toList args.toList ds p := hA0
  rw [Try.params3] at hA hval
  obtain ⟨v0, vs0, d0, ds0, p0, q0, hargs, rfl, rfl, h0, r0⟩ := trodAll_cons hA
  obtain ⟨v1, vs1, d1, ds1, p1, q1, rfl, rfl, rfl, h1, r1⟩ := trodAll_cons r0
  obtain ⟨rfl, rfl, rfl⟩ := trodAll_nil r1
  obtain rfl : args = #[v0, v1] := by cases args; simp_all
  obtain ⟨rfl, rfl⟩ := trodVars_none hV
  obtain ⟨cs0, rfl, _⟩ := okWide_struct Try.underlying24 (hval 0 24 v0 rfl rfl)
  have k0 := h0
  have lt0 : ∀ x ∈ p0, x.block < W.heap.size := by obtain ⟨m, hm⟩ := k0; exact DataW.trod_lt m _ _ _ hm
  obtain ⟨x0, hk0, hb0⟩ := Go.Proofs.Ytdgpplnfkifkgaa.Opens.Opens.agg_ (opens24 W) h0
  obtain ⟨A0_0, c0_0, A0_1, c0_1, he0, hc0_0, hr0_0, hc0_1, hr0_1⟩ := k24_open hk0
  obtain rfl : cs0 = #[.slice A0_0 x0.f0.length c0_0, .slice A0_1 x0.f1.length c0_1] := Array.ext' (by simpa using he0)
  obtain ⟨cs1, rfl, _⟩ := okWide_struct Try.underlying24 (hval 1 24 v1 rfl rfl)
  have k1 := h1
  have lt1 : ∀ x ∈ p1, x.block < W.heap.size := by obtain ⟨m, hm⟩ := k1; exact DataW.trod_lt m _ _ _ hm
  obtain ⟨x1, hk1, hb1⟩ := Go.Proofs.Ytdgpplnfkifkgaa.Opens.Opens.agg_ (opens24 W) h1
  obtain ⟨A1_0, c1_0, A1_1, c1_1, he1, hc1_0, hr1_0, hc1_1, hr1_1⟩ := k24_open hk1
  obtain rfl : cs1 = #[.slice A1_0 x1.f0.length c1_0, .slice A1_1 x1.f1.length c1_1] := Array.ext' (by simpa using he1)
  have hk := Pure.FnExactAddProfiles x0 x1 hb0 hb1
  refine (laws_FnExactAddProfiles.calls A0_0 c0_0 x0.f0 A0_1 c0_1 x0.f1 A1_0 c1_0 x1.f0 A1_1 c1_1 x1.f1 true W hr0_0 hc0_0 hr0_1 hc0_1 hr1_0 hc1_0 hr1_1 hc1_1 hk).mono fun e W' ⟨he, bel⟩ => ?_
  subst he
  exact ⟨_, rfl, _, _, _, [], _, [], hW', trodAll_mk1 (shut_bool Try.underlying4 _), (trodAll_cons_mk (Below.trod laidOut (by kernel_rfl) (of_decide_eq_true (by kernel_rfl)) k0 bel lt0) (trodAll_cons_mk (Below.trod laidOut (by kernel_rfl) (of_decide_eq_true (by kernel_rfl)) k1 bel lt1) trodAll_mk0)), rfl, bel.frame _, fun h => by cases h⟩
theorem over : Rows.fnExactAddProfilesRow.holds Try.pinned (OpenSpec.ofChange Rows.fnExactAddProfilesSpec) :=
  OpenClaim.holds_of_wide 3 Try.f3 rfl rfl rfl rfl rfl rfl rfl ⟨rfl, rfl, rfl, rfl, rfl⟩ rfl rfl rfl rfl rfl (by kernel_rfl) Try.func3 (by kernel_rfl)
    (of_decide_eq_true (by kernel_rfl)) (by unfold Func.isWrapper; first | (rw [if_pos (by decide +kernel)]; kernel_rfl) | (rw [if_neg (by decide +kernel)]; exact ⟨rfl, rfl⟩))
    (fun os started H enc _ => lifted os started H enc)
theorem proved : Rows.FnExactAddProfilesSaid := over
#print axioms proved
end Go.Proofs.Ytdgpplnfkifkgaa.fnExactAddProfiles
namespace Go.Proofs.Ytdgpplnfkifkgaa
/-- The row, under a short name, for the claim. -/
theorem fnExactAddProfiles_holds : Rows.FnExactAddProfilesSaid := fnExactAddProfiles.proved
end Go.Proofs.Ytdgpplnfkifkgaa
