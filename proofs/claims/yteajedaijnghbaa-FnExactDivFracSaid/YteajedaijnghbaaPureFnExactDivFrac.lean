/- The pure statement of the law FnExactDivFrac: whatever came in, the law's Lean function brings true. Conditions: those that it names. -/
import Derived.Test.YteajedaijnghbaaPFnExactDivFracxB
set_option linter.unusedVariables false
namespace Go.Proofs.Yteajedaijnghbaa.Pure
open Go.RowKit Go.Proofs.Yteajedaijnghbaa.PFnExactDivFrac Go.Proofs.YteajedaijnghbaaW.PrintWords Go.Proofs.YteajedaijnghbaaW.PrintLast Go.Proofs.YteajedaijnghbaaW.PrintMore
theorem div_spec (a b c d : Int) : spec_DivFrac.f 1 a b c d = some (M.divF a b c d) := by
  unfold spec_DivFrac.f M.divF
  rw [spec_l1Both.eq]
  simp only [Option.bind_some]
  cases h : (M.good a b && M.good c d) with
  | false => simp [spec_DivFrac.j0]
  | true =>
    rw [Bool.and_eq_true] at h
    obtain ⟨p, q⟩ := M.good_cross h.1 h.2
    have r := M.good_nums h.2 h.1
    have g := M.good_iff.1 h.1
    have s := M.good_cross h.2 h.1
    rw [if_pos rfl, spec_DivFrac.j0]
    by_cases e : c = 0
    · simp [e]
    · have nz : b * c ≠ 0 := fun z => by rcases Int.mul_eq_zero.1 z with z | z <;> omega
      have sw : b * c = c * b := Int.mul_comm b c
      rw [if_neg (by simpa using e), if_pos ⟨rfl, e⟩, M.wrap_id (x := a * d) (by omega) (by omega), M.wrap_id (x := b * c) (by omega) (by omega), spec_l1Make.eq _ _ nz (by omega) (by omega)]
      simp only [Option.bind_some, spec_l1Fits.eq]
      rfl
theorem div_impl (a b c d : Int) : impl_DivFrac.f a b c d = some (M.divF a b c d) := by
  unfold impl_DivFrac.f M.divF impl_areFracs.f
  simp only [List.all_cons, List.all_nil, Bool.and_true, Option.bind_some]
  cases h : (M.good a b && M.good c d) with
  | false => simp
  | true =>
    rw [Bool.and_eq_true] at h
    obtain ⟨p, q⟩ := M.good_cross h.1 h.2
    have g := M.good_iff.1 h.1
    rw [if_pos rfl]
    by_cases e : c = 0
    · simp [e]
    · have nz : b * c ≠ 0 := fun z => by rcases Int.mul_eq_zero.1 z with z | z <;> omega
      have sw : b * c = c * b := Int.mul_comm b c
      rw [if_neg e, if_pos ⟨rfl, e⟩, M.wrap_id (x := a * d) (by omega) (by omega), M.wrap_id (x := b * c) (by omega) (by omega), impl_lowest.eq _ _ nz (by omega) (by omega)]
      rfl
theorem FnExactDivFrac : laws_FnExactDivFrac.Pure := by
  intro x y _ _
  have key : ∀ x y : Int, laws_eqFrac.f x y x y = some true := by intro x y; unfold laws_eqFrac.f; rw [if_pos rfl, if_pos rfl]
  refine ⟨1, ?_⟩
  unfold laws_FnExactDivFrac.f laws_toFrac.f
  simp only [Option.bind_some, div_spec, div_impl, key, if_true]
  simp
end Go.Proofs.Yteajedaijnghbaa.Pure
