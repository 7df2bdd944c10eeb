/- The pure statement of the law FnExactIsSquare: whatever came in, the law's Lean function brings true. Conditions: those that it names. -/
import Derived.Test.YtpoggaflianeiaaPFnExactIsSquarexB
set_option linter.unusedVariables false
namespace Go.Proofs.Ytpoggaflianeiaa.Pure
open Go.RowKit Go.Proofs.Ytpoggaflianeiaa.PFnExactIsSquare Go.Proofs.YtpoggaflianeiaaW.PrintWords Go.Proofs.YtpoggaflianeiaaW.PrintLast Go.Proofs.YtpoggaflianeiaaW.PrintMore
theorem FnExactIsSquare : laws_FnExactIsSquare.Pure := by
  intro a _
  unfold laws_FnExactIsSquare.f spec_IsSquare.f impl_IsSquare.f spec_l2Square.f impl_isSquared.f
  simp only [spec_l1In.eq, impl_within.eq, Option.bind_some]
  by_cases h : (decide (0 ≤ a) && decide (a ≤ 1000000000000)) = true
  · have h' := h
    simp at h'
    rw [if_pos h, if_pos h]
    unfold spec_l2Root.f impl_root.f
    simp only [if_pos h']
    simp
  · rw [if_neg h, if_neg h]
    simp
end Go.Proofs.Ytpoggaflianeiaa.Pure
