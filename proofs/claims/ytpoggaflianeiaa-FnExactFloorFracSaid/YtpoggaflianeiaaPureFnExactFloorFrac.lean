/- The pure statement of the law FnExactFloorFrac: whatever came in, the law's Lean function brings true. Conditions: those that it names. -/
import Derived.Test.YtpoggaflianeiaaPFnExactFloorFracxB
set_option linter.unusedVariables false
namespace Go.Proofs.Ytpoggaflianeiaa.Pure
open Go.RowKit Go.Proofs.Ytpoggaflianeiaa.PFnExactFloorFrac Go.Proofs.YtpoggaflianeiaaW.PrintWords Go.Proofs.YtpoggaflianeiaaW.PrintLast Go.Proofs.YtpoggaflianeiaaW.PrintMore
theorem FnExactFloorFrac : laws_FnExactFloorFrac.Pure := by
  intro x _
  unfold laws_FnExactFloorFrac.f laws_toFrac.f spec_FloorFrac.f impl_FloorFrac.f
  simp only [Option.bind_some, spec_GoodFrac.eq, impl_GoodFrac.eq]
  cases h : M.good x.f0 x.f1 with
  | false => simp
  | true =>
    rw [M.good_iff] at h
    have hb : ¬ x.f1 = 0 := by omega
    have e1 := Int.tmod_add_mul_tdiv x.f0 x.f1
    simp only [if_true, if_neg hb]
    by_cases c : x.f0 < 0
    · have s := Int.tmod_nonneg x.f1 (show 0 ≤ -x.f0 by omega)
      rw [Int.neg_tmod] at s
      by_cases d : Int.tmod x.f0 x.f1 = 0
      · simp [c, d]
      · have : Int.tmod x.f0 x.f1 < 0 := by omega
        simp [c, d, this]
    · have s := Int.tmod_nonneg x.f1 (show 0 ≤ x.f0 by omega)
      have : ¬ Int.tmod x.f0 x.f1 < 0 := by omega
      simp [c, this]
end Go.Proofs.Ytpoggaflianeiaa.Pure
