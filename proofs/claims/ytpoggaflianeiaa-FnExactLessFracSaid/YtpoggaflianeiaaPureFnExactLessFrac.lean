/- The pure statement of the law FnExactLessFrac: whatever came in, the law's Lean function brings true. Conditions: those that it names. -/
import Derived.Test.YtpoggaflianeiaaPFnExactLessFracxB
set_option linter.unusedVariables false
namespace Go.Proofs.Ytpoggaflianeiaa.Pure
open Go.RowKit Go.Proofs.Ytpoggaflianeiaa.PFnExactLessFrac Go.Proofs.YtpoggaflianeiaaW.PrintWords Go.Proofs.YtpoggaflianeiaaW.PrintLast Go.Proofs.YtpoggaflianeiaaW.PrintMore
theorem FnExactLessFrac : laws_FnExactLessFrac.Pure := by
  intro x y _ _
  have h : spec_LessFrac.f x.f0 x.f1 y.f0 y.f1 = some (if (M.good x.f0 x.f1 && M.good y.f0 y.f1) = true then (decide (x.f0 * y.f1 < y.f0 * x.f1), true) else (false, false)) := by
    unfold spec_LessFrac.f spec_l1Both.f spec_l1Less.f
    simp only [spec_GoodFrac.eq, Option.bind_some]
    cases h1 : M.good x.f0 x.f1 with
    | false => simp
    | true =>
      cases h2 : M.good y.f0 y.f1 with
      | false => simp
      | true =>
        obtain ⟨p, q⟩ := M.good_cross h1 h2
        simp [M.wrap_id (x := x.f0 * y.f1) (by omega) (by omega), M.wrap_id (x := y.f0 * x.f1) (by omega) (by omega)]
  have k : impl_LessFrac.f x.f0 x.f1 y.f0 y.f1 = some (if (M.good x.f0 x.f1 && M.good y.f0 y.f1) = true then (decide (x.f0 * y.f1 < y.f0 * x.f1), true) else (false, false)) := by
    unfold impl_LessFrac.f impl_areFracs.f impl_compareFracs.f
    cases h1 : M.good x.f0 x.f1 with
    | false => simp [h1]
    | true =>
      cases h2 : M.good y.f0 y.f1 with
      | false => simp [h1, h2]
      | true =>
        obtain ⟨p, q⟩ := M.good_cross h1 h2
        simp only [List.all_cons, h1, h2, List.all_nil, Bool.and_true, Option.bind_some, if_true]
        rw [M.wrap_id (x := x.f0 * y.f1) (by omega) (by omega), M.wrap_id (x := y.f0 * x.f1) (by omega) (by omega), M.wrap_id (x := x.f0 * y.f1 - y.f0 * x.f1) (by omega) (by omega)]
        by_cases c : x.f0 * y.f1 < y.f0 * x.f1
        · rw [if_pos (by omega)]
          simp [c]
        · rw [if_neg (by omega)]
          split <;> simp [c]
  unfold laws_FnExactLessFrac.f laws_toFrac.f
  simp only [Option.bind_some, h, k]
  simp
end Go.Proofs.Ytpoggaflianeiaa.Pure
