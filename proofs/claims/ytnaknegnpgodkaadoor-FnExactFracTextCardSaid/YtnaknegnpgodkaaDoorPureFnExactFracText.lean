/- The pure statement of the law FnExactFracText: whatever came in, the law's Lean function brings true. Conditions: those that it names. -/
import Derived.Test.YtnaknegnpgodkaaDoorPFnExactFracTextxB
set_option linter.unusedVariables false
namespace Go.Proofs.YtnaknegnpgodkaaDoor.Pure
open Go.RowKit Go.Proofs.YtnaknegnpgodkaaDoor.PFnExactFracText Go.Proofs.YtnaknegnpgodkaaDoorW.PrintWords Go.Proofs.YtnaknegnpgodkaaDoorW.PrintLast Go.Proofs.YtnaknegnpgodkaaDoorW.PrintMore
theorem FnExactFracText : laws_FnExactFracText.Pure := by
  intro x hx
  obtain ⟨r, b, hs, hi⟩ : ∃ r b, spec_FracText.f x.f0 x.f1 = some (r, b) ∧ impl_FracText.f x.f0 x.f1 = some (r, b) := by
    unfold spec_FracText.f impl_FracText.f
    rw [spec_GoodFrac.eq, impl_GoodFrac.eq]
    simp only [Option.bind_some]
    by_cases g : M.good x.f0 x.f1 = true
    · have gb := M.good_iff.1 g
      have h1 : strconv_Itoa.f x.f0 = some (⟨(Go.Lib.itoa x.f0).toArray⟩ : ByteArray) := by unfold strconv_Itoa.f; rw [if_pos ⟨by omega, by omega⟩]
      have h2 : strconv_Itoa.f x.f1 = some (⟨(Go.Lib.itoa x.f1).toArray⟩ : ByteArray) := by unfold strconv_Itoa.f; rw [if_pos ⟨by omega, by omega⟩]
      have h3 : spec_l1Num.f x.f1 = some (⟨(Go.Lib.itoa x.f1).toArray⟩ : ByteArray) := by
        unfold spec_l1Num.f Go.Lib.itoa
        rw [if_pos ⟨by omega, by omega⟩, if_neg (by omega)]
      have l2 := spec_l1Num_len x.f1.toNat x.f1.toNat (Nat.le_refl _)
      have l1 := spec_l1Num_len x.f0.natAbs x.f0.natAbs (Nat.le_refl _)
      have l3 := spec_l1Num_len x.f0.toNat x.f0.toNat (Nat.le_refl _)
      have s1 : (⟨(Go.Lib.itoa x.f0).toArray⟩ : ByteArray).size ≤ 1000000002 := by
        show (Go.Lib.itoa x.f0).toArray.size ≤ _
        rw [List.size_toArray]
        unfold Go.Lib.itoa
        split
        · rw [List.length_cons]; omega
        · omega
      have s2 : (⟨(Go.Lib.itoa x.f1).toArray⟩ : ByteArray).size ≤ 1000000002 := by
        show (Go.Lib.itoa x.f1).toArray.size ≤ _
        rw [List.size_toArray]
        unfold Go.Lib.itoa
        rw [if_neg (by omega)]
        omega
      have s3 : ((⟨(Go.Lib.itoa x.f0).toArray⟩ : ByteArray) ++ (⟨#[47]⟩ : ByteArray)).size = (⟨(Go.Lib.itoa x.f0).toArray⟩ : ByteArray).size + 1 := by
        rw [ByteArray.size_append]; rfl
      rw [spec_l1Text.eq _ ⟨by omega, by omega⟩, h1, h2, h3]
      by_cases e : x.f1 = 1
      · simp only [if_pos g, if_pos e, Option.bind_some]
        exact ⟨_, _, rfl, rfl⟩
      · have q1 : (⟨(Go.Lib.itoa x.f0).toArray⟩ : ByteArray).size + 1 ≤ 9223372036854775807 := by omega
        have q2 : ((⟨(Go.Lib.itoa x.f0).toArray⟩ : ByteArray) ++ (⟨#[47]⟩ : ByteArray)).size + (⟨(Go.Lib.itoa x.f1).toArray⟩ : ByteArray).size ≤ 9223372036854775807 := by rw [s3]; omega
        simp only [if_pos g, if_neg e, Option.bind_some, if_pos q1, if_pos q2]
        exact ⟨_, _, rfl, rfl⟩
    · simp only [if_neg g]
      exact ⟨_, _, rfl, rfl⟩
  unfold laws_FnExactFracText.f laws_toFrac.f
  simp only [Option.bind_some, hs, hi, if_true, bne_self_eq_false, Bool.false_eq_true, if_false]
end Go.Proofs.YtnaknegnpgodkaaDoor.Pure
