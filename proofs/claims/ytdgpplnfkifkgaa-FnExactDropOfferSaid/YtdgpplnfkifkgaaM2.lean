/- More plain facts on numbers and lists that the contracts of this session lean on; no program stands here. Conditions: those that each lemma names. -/
import Derived.Test.YtdgpplnfkifkgaaM
set_option linter.unusedVariables false
namespace Go.Proofs.Ytdgpplnfkifkgaa.M
open Go.RowKit Go.Proofs.YtdgpplnfkifkgaaW.PrintWords Go.Proofs.YtdgpplnfkifkgaaW.PrintLast Go.Proofs.YtdgpplnfkifkgaaW.PrintMore

/-! ### fits -/
def goodFits (l : List (List Bool)) : Bool := decide (l.length ≤ 8) && l.all fun r => decide (r.length ≤ 8) && decide (r.length = (l.getD 0 []).length)
/-! ### how much comes in -/
/-- What is left of a number when rows are taken off it, one after the other; -1 where it does not do. -/
def szL : List Nat → Int → Int
  | [], left => left
  | n :: ns, left => if left - n < 0 then -1 else szL ns (left - n)
def sz (len : Nat) (ns : List Nat) (left : Int) : Int := if left - len < 0 then -1 else szL ns (left - len)
theorem szL_ok : ∀ (ns : List Nat) (left : Int), 0 ≤ left → ¬ szL ns left < 0 → ∀ n ∈ ns, (n : Int) ≤ left
  | [], _, _, _, n, hn => by simp at hn
  | m :: ns, left, h0, h, n, hn => by
    unfold szL at h
    by_cases c : left - m < 0
    · rw [if_pos c] at h; omega
    · rw [if_neg c] at h
      rcases List.mem_cons.1 hn with rfl | hn
      · omega
      · have := szL_ok ns (left - m) (by omega) h n hn
        omega
theorem sz_ok {len : Nat} {ns : List Nat} {left : Int} (h : ¬ sz len ns left < 0) : (len : Int) ≤ left ∧ ∀ n ∈ ns, (n : Int) ≤ left := by
  unfold sz at h
  by_cases c : left - len < 0
  · rw [if_pos c] at h; omega
  · rw [if_neg c] at h
    refine ⟨by omega, fun n hn => ?_⟩
    have := szL_ok ns (left - len) (by omega) h n hn
    omega
def rowsOk {α : Type} (l : List (List α)) : Bool := l.all fun r => decide (r.length ≤ 1048576)
theorem rowsOk_cons {α : Type} {r : List α} {l : List (List α)} : rowsOk (r :: l) = true ↔ r.length ≤ 1048576 ∧ rowsOk l = true := by unfold rowsOk; simp
theorem rowsOk_iff {α : Type} {l : List (List α)} : rowsOk l = true ↔ ∀ r ∈ l, r.length ≤ 1048576 := by unfold rowsOk; simp
end Go.Proofs.Ytdgpplnfkifkgaa.M
