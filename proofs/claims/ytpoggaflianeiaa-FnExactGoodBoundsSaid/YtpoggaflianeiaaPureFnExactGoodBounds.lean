/- The pure statement of the law FnExactGoodBounds: whatever came in, the law's Lean function brings true. Conditions: those that it names. -/
import Derived.Test.YtpoggaflianeiaaPFnExactGoodBoundsxB
set_option linter.unusedVariables false
namespace Go.Proofs.Ytpoggaflianeiaa.Pure
open Go.RowKit Go.Proofs.Ytpoggaflianeiaa.PFnExactGoodBounds Go.Proofs.YtpoggaflianeiaaW.PrintWords Go.Proofs.YtpoggaflianeiaaW.PrintLast Go.Proofs.YtpoggaflianeiaaW.PrintMore
theorem FnExactGoodBounds : laws_FnExactGoodBounds.Pure := by
  intro x _
  have h : spec_GoodBounds.f x.f0.f0 x.f0.f1 x.f1.f0 x.f1.f1 = impl_GoodBounds.f x.f0.f0 x.f0.f1 x.f1.f0 x.f1.f1 ∧ ∃ r, impl_GoodBounds.f x.f0.f0 x.f0.f1 x.f1.f0 x.f1.f1 = some r := by
    unfold spec_GoodBounds.f impl_GoodBounds.f spec_l1Both.f impl_areFracs.f
    simp only [spec_GoodFrac.eq, Option.bind_some]
    cases h1 : M.good x.f0.f0 x.f0.f1 with
    | false => simp [h1]
    | true =>
      cases h2 : M.good x.f1.f0 x.f1.f1 with
      | false => simp [h1, h2]
      | true =>
        obtain ⟨p, q⟩ := M.good_cross h1 h2
        simp only [List.all_cons, h1, h2, List.all_nil, Bool.and_true, if_true, Option.bind_some]
        by_cases c : x.f0.f0 ≥ 0
        · simp only [if_pos c]
          unfold spec_l1Less.f impl_compareFracs.f
          rw [M.wrap_id (x := x.f0.f0 * x.f1.f1) (by omega) (by omega), M.wrap_id (x := x.f1.f0 * x.f0.f1) (by omega) (by omega), M.wrap_id (x := x.f0.f0 * x.f1.f1 - x.f1.f0 * x.f0.f1) (by omega) (by omega)]
          simp only [Option.bind_some]
          by_cases d : x.f0.f0 * x.f1.f1 < x.f1.f0 * x.f0.f1
          · rw [if_pos (by omega)]
            simp; omega
          · rw [if_neg (by omega)]
            by_cases e : x.f0.f0 * x.f1.f1 - x.f1.f0 * x.f0.f1 > 0
            · rw [if_pos e]; simp; omega
            · rw [if_neg e]; simp; omega
        · simp only [if_neg c]
          simp
  obtain ⟨h, r, k⟩ := h
  unfold laws_FnExactGoodBounds.f laws_toBounds.f laws_toFrac.f
  simp only [Option.bind_some, h, k]
  simp
end Go.Proofs.Ytpoggaflianeiaa.Pure
