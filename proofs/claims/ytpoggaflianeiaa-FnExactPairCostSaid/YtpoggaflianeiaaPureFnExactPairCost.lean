/- The pure statement of the law FnExactPairCost: whatever came in, the law's Lean function brings true. Conditions: those that it names. -/
import Derived.Test.YtpoggaflianeiaaPFnExactPairCostxB
set_option linter.unusedVariables false
namespace Go.Proofs.Ytpoggaflianeiaa.Pure
open Go.RowKit Go.Proofs.Ytpoggaflianeiaa.PFnExactPairCost Go.Proofs.YtpoggaflianeiaaW.PrintWords Go.Proofs.YtpoggaflianeiaaW.PrintLast Go.Proofs.YtpoggaflianeiaaW.PrintMore
theorem FnExactPairCost : laws_FnExactPairCost.Pure := by
  intro l m _ _
  refine ⟨1, ?_⟩
  unfold laws_FnExactPairCost.f
  by_cases c : (l.length : Int) > 1048576
  · simp [c]
  · by_cases d : (m.length : Int) > 1048576
    · simp [c, d]
    · rw [if_neg c, if_neg d]
      unfold laws_toIntS.f
      simp only [if_pos (show l.length ≤ 1048576 by omega), if_pos (show m.length ≤ 1048576 by omega), Option.bind_some, laws_FnExactPairCost.j0]
      unfold spec_PairCost.f impl_PairCost.f laws_toIntS.f laws_eqIntS.f
      simp only [if_pos (show l.length ≤ 1048576 by omega), if_pos (show m.length ≤ 1048576 by omega), Option.bind_some]
      simp
end Go.Proofs.Ytpoggaflianeiaa.Pure
