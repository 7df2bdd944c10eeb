/- The pure statement of the law FnExactFracOf: whatever came in, the law's Lean function brings true. Conditions: those that it names. -/
import Derived.Test.YtpoggaflianeiaaPFnExactFracOfxB
set_option linter.unusedVariables false
namespace Go.Proofs.Ytpoggaflianeiaa.Pure
open Go.RowKit Go.Proofs.Ytpoggaflianeiaa.PFnExactFracOf Go.Proofs.YtpoggaflianeiaaW.PrintWords Go.Proofs.YtpoggaflianeiaaW.PrintLast Go.Proofs.YtpoggaflianeiaaW.PrintMore
theorem FnExactFracOf : laws_FnExactFracOf.Pure := by
  intro a b _ _
  have key : ∀ x y : Int, laws_eqFrac.f x y x y = some true := by intro x y; unfold laws_eqFrac.f; rw [if_pos rfl, if_pos rfl]
  have h : spec_FracOf.f a b = impl_FracOf.f a b := by
    unfold spec_FracOf.f impl_FracOf.f
    simp only [spec_l1In.eq, impl_within.eq, Option.bind_some]
    by_cases h1 : (decide (-1000000000 ≤ a) && decide (a ≤ 1000000000)) = true
    · by_cases h2 : (decide (-1000000000 ≤ b) && decide (b ≤ 1000000000)) = true
      · rw [if_pos h1, if_pos h2, if_pos h1, if_pos h2]
        simp at h1 h2
        by_cases h3 : b = 0
        · rw [if_pos h3, if_pos h3]
        · rw [if_neg h3, if_neg h3, spec_l1Make.eq _ _ h3 (by omega) (by omega), impl_lowest.eq _ _ h3 (by omega) (by omega), if_pos (M.good_lowest h3 (by omega) (by omega))]
          rfl
      · rw [if_pos h1, if_neg h2, if_pos h1, if_neg h2]
    · rw [if_neg h1, if_neg h1]
  have tot : ∃ r, impl_FracOf.f a b = some r := by
    unfold impl_FracOf.f
    simp only [impl_within.eq, Option.bind_some]
    split
    · split
      · rename_i h1 h2
        simp at h1 h2
        split
        · exact ⟨_, rfl⟩
        · rename_i h3
          rw [impl_lowest.eq _ _ h3 (by omega) (by omega)]
          exact ⟨_, rfl⟩
      · exact ⟨_, rfl⟩
    · exact ⟨_, rfl⟩
  obtain ⟨r, hr⟩ := tot
  unfold laws_FnExactFracOf.f
  rw [h, hr]
  simp only [Option.bind_some, key, if_true]
  simp
end Go.Proofs.Ytpoggaflianeiaa.Pure
