/- The pure statement of the law FnExactCountIn: whatever came in, the law's Lean function brings true. Conditions: those that it names. -/
import Derived.Test.YtpoggaflianeiaaPFnExactCountInxB
set_option linter.unusedVariables false
namespace Go.Proofs.Ytpoggaflianeiaa.Pure
open Go.RowKit Go.Proofs.Ytpoggaflianeiaa.PFnExactCountIn Go.Proofs.YtpoggaflianeiaaW.PrintWords Go.Proofs.YtpoggaflianeiaaW.PrintLast Go.Proofs.YtpoggaflianeiaaW.PrintMore
theorem FnExactCountIn : laws_FnExactCountIn.Pure := by
  intro l _
  refine ⟨1, ?_⟩
  unfold laws_FnExactCountIn.f
  by_cases c : (l.length : Int) > 1048576
  · simp [c]
  · rw [if_neg c]
    have hl : l.length ≤ 1048576 := by omega
    unfold laws_toIntS.f
    simp only [if_pos hl, Option.bind_some, laws_FnExactCountIn.j0]
    have h : spec_CountIn.f l = impl_CountIn.f l := by
      unfold spec_CountIn.f impl_CountIn.f spec_l1All.f spec_l8Count.f
      simp only [if_pos hl, Option.bind_some]
      by_cases c1 : l.length ≤ 8
      · rw [if_neg (by omega)]
        by_cases c2 : M.inAll l (-1) 7 = true
        · simp [c1, c2]
        · simp [c2]
      · rw [if_pos (by omega), if_neg (fun z => c1 z.1)]
    rw [h]
    unfold impl_CountIn.f laws_toIntS.f laws_eqIntS.f
    simp only [if_pos hl, Option.bind_some]
    simp
end Go.Proofs.Ytpoggaflianeiaa.Pure
