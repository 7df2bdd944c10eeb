/- Plain facts on profiles of lines; no program stands here. Conditions: those that each lemma names. -/
import Derived.Test.YtnaknegnpgodkaaDoorM10
import Derived.Test.YtnaknegnpgodkaaDoorM2
set_option linter.unusedVariables false
namespace Go.Proofs.YtnaknegnpgodkaaDoor.M
open Go.RowKit Go.Proofs.YtnaknegnpgodkaaDoorW.PrintWords Go.Proofs.YtnaknegnpgodkaaDoorW.PrintLast Go.Proofs.YtnaknegnpgodkaaDoorW.PrintMore

/-- How often each good is asked for, and how much of it, by the lines from here on. -/
def profFrom {L : Type} (gd mn : L → Int) (sz : Int → Int) (n : Nat) : List L → List Int → List Int → List Int × List Int × Bool
  | [], p, q => (p, q, true)
  | x :: s, p, q => if (0 ≤ gd x ∧ gd x < (n : Int)) ∧ (1 ≤ mn x ∧ mn x ≤ 99) then profFrom gd mn sz n s (p.set (gd x).toNat (wrap64 (rd p (gd x) + 1))) (q.set (gd x).toNat (wrap64 (rd q (gd x) + wrap64 (sz (gd x) * mn x)))) else ([], [], false)
theorem profFrom_length {L : Type} (gd mn : L → Int) (sz : Int → Int) (n : Nat) : ∀ (s : List L) (p q : List Int), p.length ≤ n → q.length ≤ n → (profFrom gd mn sz n s p q).1.length ≤ n ∧ (profFrom gd mn sz n s p q).2.1.length ≤ n
  | [], p, q, hp, hq => ⟨hp, hq⟩
  | x :: s, p, q, hp, hq => by
    rw [profFrom]
    split
    · exact profFrom_length gd mn sz n s _ _ (by rw [List.length_set]; exact hp) (by rw [List.length_set]; exact hq)
    · exact ⟨Nat.zero_le _, Nat.zero_le _⟩
theorem szL_le : ∀ (ns : List Nat) (left : Int), 0 ≤ left → szL ns left ≤ left
  | [], _, _ => by unfold szL; omega
  | n :: ns, left, h => by
    unfold szL
    split
    · omega
    · have := szL_le ns (left - n) (by omega)
      omega
theorem sz_le (len : Nat) (ns : List Nat) (left : Int) (h : 0 ≤ left) : sz len ns left ≤ left := by
  unfold sz
  split
  · omega
  · have := szL_le ns (left - len) (by omega)
    omega
end Go.Proofs.YtnaknegnpgodkaaDoor.M
