/- Plain facts on classes and shares of goods by their ranks, and on families; no program stands here. Conditions: those that each lemma names. -/
import Derived.Test.YtckjoadfkalnoaaM4
set_option linter.unusedVariables false
namespace Go.Proofs.Ytckjoadfkalnoaa.M
open Go.RowKit Go.Proofs.YtckjoadfkalnoaaW.PrintWords Go.Proofs.YtckjoadfkalnoaaW.PrintLast Go.Proofs.YtckjoadfkalnoaaW.PrintMore

theorem rank_in (v : List Int) : ∀ z ∈ rank v, 0 ≤ z ∧ z < (v.length : Int) := by
  intro z hz
  rcases rankK_mem _ _ _ z hz with h | h
  · unfold nums at h
    rw [List.mem_map] at h
    obtain ⟨i, hi, rfl⟩ := h
    rw [List.mem_range] at hi
    omega
  · cases h
/-- The class of a good, by what lies ahead of it. -/
def cls (ahead all : Int) : Int := if wrap64 (2 * ahead) < all then 1 else if wrap64 (10 * ahead) < wrap64 (9 * all) then 2 else 3
def clsFrom (all : Int) (p : List Int) : List Int → Int → List Int → List Int
  | [], _, y => y
  | i :: s, b, y => clsFrom all p s (wrap64 (b + rd p i)) (y.set i.toNat (cls b all))
theorem clsFrom_length (all : Int) (p : List Int) : ∀ (s : List Int) (b : Int) (y : List Int), (clsFrom all p s b y).length = y.length
  | [], _, _ => rfl
  | i :: s, b, y => by rw [clsFrom, clsFrom_length all p s, List.length_set]
def classes (p : List Int) : List Int := clsFrom (sumZ p) p (rank p) 0 (List.replicate p.length 0)
theorem classes_length (p : List Int) : (classes p).length = p.length := by unfold classes; rw [clsFrom_length, List.length_replicate]
def ownFrom (p : List Int) : List Int → Int → Int
  | [], b => b
  | i :: s, b => ownFrom p s (wrap64 (b + rd p i))
theorem ownFrom_bd {p : List Int} (hp : inAll p 0 10000 = true) : ∀ (s : List Int) (b : Int), (∀ z ∈ s, 0 ≤ z ∧ z < (p.length : Int)) → 0 ≤ b → b + 10000 * (s.length : Int) ≤ 1000000 → 0 ≤ ownFrom p s b ∧ ownFrom p s b ≤ b + 10000 * (s.length : Int)
  | [], b, _, h0, h1 => by
    rw [ownFrom]
    simp
    exact h0
  | i :: s, b, hs, h0, h1 => by
    have hi := hs i (by simp)
    have hr := rd_in hp hi.1 hi.2
    rw [List.length_cons] at h1
    rw [ownFrom, wrap_id (by omega) (by omega), List.length_cons]
    have := ownFrom_bd hp s (b + rd p i) (fun z hz => hs z (by simp [hz])) (by omega) (by omega)
    omega
/-! ### families by their weight divided by how many they are -/
theorem fam_iff {a b : Int} : fam a b = true ↔ (0 ≤ a ∧ a ≤ 1000) ∧ (1 ≤ b ∧ b ≤ 9) := by unfold fam; simp
def famKey (f g : Int → Int) (k : Int) : Int := f k * (2520 / g k)
def smith (f g : Int → Int) (n : Nat) : List Int := rankK (famKey f g) (nums n) []
theorem smith_length (f g : Int → Int) (n : Nat) : (smith f g n).length = n := by unfold smith; rw [rankK_length, nums_length, List.length_nil, Nat.zero_add]
theorem nine {b : Int} (h : 1 ≤ b ∧ b ≤ 9) : b * (2520 / b) = 2520 := by
  have : b = 1 ∨ b = 2 ∨ b = 3 ∨ b = 4 ∨ b = 5 ∨ b = 6 ∨ b = 7 ∨ b = 8 ∨ b = 9 := by omega
  rcases this with rfl | rfl | rfl | rfl | rfl | rfl | rfl | rfl | rfl <;> rfl
theorem fam_less {a b c d : Int} (h : fam a b = true) (k : fam c d = true) : a * d < c * b ↔ a * (2520 / b) < c * (2520 / d) := by
  have hb := (fam_iff.1 h).2
  have hd := (fam_iff.1 k).2
  have eb := nine hb
  have ed := nine hd
  generalize 2520 / b = p at *
  generalize 2520 / d = q at *
  have hbd : 0 < b * d := Int.mul_pos (by omega) (by omega)
  have e1 : a * p * (b * d) = (a * d) * (b * p) := by grind
  have e2 : c * q * (b * d) = (c * b) * (d * q) := by grind
  have key : a * p * (b * d) < c * q * (b * d) ↔ a * d < c * b := by
    rw [e1, e2, eb, ed]
    omega
  rw [← key]
  exact ⟨fun x => Int.lt_of_mul_lt_mul_right x (by omega), fun x => Int.mul_lt_mul_of_pos_right x hbd⟩
theorem fam_mul {a b c d : Int} (h : fam a b = true) (k : fam c d = true) : 0 ≤ a * d ∧ a * d ≤ 9000 := by
  have h1 := (fam_iff.1 h).1
  have h2 := (fam_iff.1 k).2
  have := Int.mul_le_mul h1.2 h2.2 (by omega) (by omega)
  exact ⟨Int.mul_nonneg (by omega) (by omega), by omega⟩
theorem smith_fin (f g : Int → Int) (n : Nat) (lt : Fin n → Fin n → Bool) [Inhabited (Fin n)] (hlt : ∀ x y, lt x y = decide (famKey f g ((y : Nat) : Int) < famKey f g ((x : Nat) : Int))) : (Go.Sort.insertionSort lt (List.finRange n).toArray 0 n).toList.map (fun (x : Fin n) => ((x : Nat) : Int)) = smith f g n := by
  have h := insertionSort_rank (fun x : Fin n => famKey f g ((x : Nat) : Int)) lt hlt (List.finRange n)
  rw [List.length_finRange] at h
  rw [h, List.toList_toArray, rankK_map (fun x : Fin n => ((x : Nat) : Int)) _ (fun i => famKey f g i) (fun _ => rfl), finRange_nums]
  rfl
end Go.Proofs.Ytckjoadfkalnoaa.M
