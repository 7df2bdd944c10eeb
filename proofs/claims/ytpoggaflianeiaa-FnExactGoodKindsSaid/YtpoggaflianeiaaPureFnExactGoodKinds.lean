/- The pure statement of the law FnExactGoodKinds: whatever came in, the law's Lean function brings true. Conditions: those that it names. -/
import Derived.Test.YtpoggaflianeiaaPFnExactGoodKindsxB
set_option linter.unusedVariables false
namespace Go.Proofs.Ytpoggaflianeiaa.Pure
open Go.RowKit Go.Proofs.Ytpoggaflianeiaa.PFnExactGoodKinds Go.Proofs.YtpoggaflianeiaaW.PrintWords Go.Proofs.YtpoggaflianeiaaW.PrintLast Go.Proofs.YtpoggaflianeiaaW.PrintMore
theorem FnExactGoodKinds : laws_FnExactGoodKinds.Pure := by
  intro l a h1 _
  unfold laws_FnExactGoodKinds.f
  by_cases c : (l.length : Int) > 1048576
  · simp [c]
  · have hl : l.length ≤ 1048576 := by omega
    rw [if_neg c]
    unfold laws_toIntS.f laws_eqIntS.f spec_GoodKinds.f impl_GoodKinds.f spec_l4Flow.f impl_isFlow.f spec_l1All.f impl_allWithin.f
    simp only [if_pos hl, Option.bind_some, spec_l1In.eq, impl_within.eq]
    split <;> simp <;> split <;> simp
end Go.Proofs.Ytpoggaflianeiaa.Pure
