/- Plain facts on the tables of the most that counts gain, as two loops fill them. Conditions: those that each lemma names. -/
import Derived.Test.YtdgpplnfkifkgaaM3
set_option linter.unusedVariables false
namespace Go.Proofs.Ytdgpplnfkifkgaa.M
open Go.RowKit Go.Proofs.YtdgpplnfkifkgaaW.PrintWords Go.Proofs.YtdgpplnfkifkgaaW.PrintLast Go.Proofs.YtdgpplnfkifkgaaW.PrintMore

theorem rowsFrom_zero {α : Type} (g : α → List Int) (row : List Int) (l : List α) : (rowsFrom g row l).take 1 = [row] := by
  cases l <;> simp [rowsFrom]
theorem rowsFrom_head {α : Type} (g : α → List Int) (row : List Int) (l : List α) : (rowsFrom g row l).getD 0 [] = row := by cases l <;> rfl
/-- One table more. -/
theorem rowsFrom_step {α : Type} (g : α → List Int) (z : α) : ∀ (l : List α) (row : List Int) (i : Nat), i < l.length →
    (rowsFrom g row l).take (i + 2) = (rowsFrom g row l).take (i + 1) ++ [nextRow ((rowsFrom g row l).getD i []) (g (l.getD i z))]
  | [], _, _, h => by simp at h
  | o :: os, row, 0, h => by
    rw [rowsFrom]
    show row :: (rowsFrom g (nextRow row (g o)) os).take 1 = _
    rw [rowsFrom_zero]; rfl
  | o :: os, row, i + 1, h => by
    rw [rowsFrom]
    show row :: (rowsFrom g (nextRow row (g o)) os).take (i + 2) = row :: ((rowsFrom g (nextRow row (g o)) os).take (i + 1) ++ _)
    rw [rowsFrom_step g z os _ i (by simpa using h)]
    rfl
theorem rowsFrom_whole {α : Type} (g : α → List Int) (row : List Int) (l : List α) : (rowsFrom g row l).take (l.length + 1) = rowsFrom g row l := by
  rw [List.take_of_length_le]; rw [rowsFrom_length]; exact Nat.le_refl _
theorem rowsFrom_got {α : Type} (g : α → List Int) (row : List Int) (l : List α) {i : Nat} (h : i ≤ l.length) : ((rowsFrom g row l).take (i + 1)).getD i [] = (rowsFrom g row l).getD i [] := by
  rw [List.getD_eq_getElem?_getD, List.getD_eq_getElem?_getD, List.getElem?_take]; simp
theorem rowsFrom_at {α : Type} (g : α → List Int) {n : Nat} (l : List α) (row : List Int) (h : row.length = n) {i : Nat} (hi : i ≤ l.length) : ((rowsFrom g row l).getD i []).length = n := by
  have hlt : i < (rowsFrom g row l).length := by rw [rowsFrom_length]; omega
  rw [List.getD_eq_getElem?_getD, List.getElem?_eq_getElem hlt]
  exact rowsFrom_all g n l row h _ (List.getElem_mem hlt)
/-- The first p numbers of the new table, the others as they were. -/
def part (nr old : List Int) (p : Nat) : List Int := nr.take p ++ old.drop p
theorem part_zero (nr old : List Int) : part nr old 0 = old := by simp [part]
theorem part_len {nr old : List Int} (h : nr.length = old.length) {p : Nat} : (part nr old p).length = old.length := by
  unfold part; rw [List.length_append, List.length_take, List.length_drop]; omega
theorem part_all {nr old : List Int} (h : nr.length = old.length) : part nr old old.length = nr := by
  unfold part; rw [List.drop_length, List.append_nil, List.take_of_length_le (by omega)]
theorem rd_set {l : List Int} {p : Nat} (hp : p < l.length) (b : Int) : rd (l.set p b) (p : Int) = b := by unfold rd; simp [hp]
theorem part_rd {nr old : List Int} (h : nr.length = old.length) {p : Nat} (hp : p < old.length) : rd (part nr old p) (p : Int) = rd old (p : Int) := by
  unfold part rd
  rw [Int.toNat_natCast, List.getD_eq_getElem?_getD, List.getD_eq_getElem?_getD, List.getElem?_append_right (by rw [List.length_take]; omega), List.getElem?_drop]
  congr 2; rw [List.length_take]; omega
theorem set_rd {l : List Int} {p : Nat} (hp : p < l.length) : l.set p (rd l (p : Int)) = l := by
  have : rd l (p : Int) = l[p] := by unfold rd; simp [hp]
  rw [this, List.set_getElem_self]
theorem part_step {nr old : List Int} (h : nr.length = old.length) {p : Nat} (hp : p < old.length) : (part nr old p).set p (rd nr (p : Int)) = part nr old (p + 1) := by
  have hn : p < nr.length := by omega
  have e : rd nr (p : Int) = nr[p] := by unfold rd; simp [hn]
  have l1 : (nr.take p).length = p := by rw [List.length_take]; omega
  have e2 : old.drop p = old[p] :: old.drop (p + 1) := List.drop_eq_getElem_cons hp
  have e3 : nr.take (p + 1) = nr.take p ++ [nr[p]] := by rw [List.take_succ_eq_append_getElem hn]
  unfold part
  rw [e, e2, e3, List.set_append_right _ _ (by omega), l1, Nat.sub_self, List.set_cons_zero, List.append_assoc]
  rfl
theorem nextRow_rd (row g : List Int) {p : Nat} (hp : p < row.length) : rd (nextRow row g) (p : Int) = bestAt row g p := by
  unfold rd nextRow; simp [hp]
theorem bestN_zero (row g : List Int) (p n : Nat) (b : Int) : bestN row g p 0 n b = b := rfl
theorem bestN_step (row g : List Int) {p k n : Nat} (b : Int) (hn : n ≤ p) : bestN row g p (k + 1) n b = bestN row g p k (n + 1) (if b < wrap64 (rd row ((p : Int) - (n : Int)) + gainAt g n) then wrap64 (rd row ((p : Int) - (n : Int)) + gainAt g n) else b) := by
  rw [bestN, show ((p - n : Nat) : Int) = (p : Int) - (n : Int) by omega]
theorem min_int (a b : Nat) : (if (b : Int) < (a : Int) then (b : Int) else (a : Int)) = ((min a b : Nat) : Int) := by
  split <;> omega
end Go.Proofs.Ytdgpplnfkifkgaa.M
