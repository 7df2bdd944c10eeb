/- Plain facts on classes and shares of goods by their ranks, and on families; no program stands here. Conditions: those that each lemma names. -/
import Derived.Test.YtckjoadfkalnoaaM4
set_option linter.unusedVariables false
namespace Go.Proofs.Ytckjoadfkalnoaa.M
open Go.RowKit Go.Proofs.YtckjoadfkalnoaaW.PrintWords Go.Proofs.YtckjoadfkalnoaaW.PrintLast Go.Proofs.YtckjoadfkalnoaaW.PrintMore

theorem rank_in (v : List Int) : ∀ z ∈ rank v, 0 ≤ z ∧ z < (v.length : Int) := by
  intro z hz
  rcases rankK_mem _ _ _ z hz with h | h
  · unfold nums at h
    rw [List.mem_map] at h
    obtain ⟨i, hi, rfl⟩ := h
    rw [List.mem_range] at hi
    omega
  · cases h
/-- The class of a good, by what lies ahead of it. -/
def cls (ahead all : Int) : Int := if wrap64 (2 * ahead) < all then 1 else if wrap64 (10 * ahead) < wrap64 (9 * all) then 2 else 3
def clsFrom (all : Int) (p : List Int) : List Int → Int → List Int → List Int
  | [], _, y => y
  | i :: s, b, y => clsFrom all p s (wrap64 (b + rd p i)) (y.set i.toNat (cls b all))
theorem clsFrom_length (all : Int) (p : List Int) : ∀ (s : List Int) (b : Int) (y : List Int), (clsFrom all p s b y).length = y.length
  | [], _, _ => rfl
  | i :: s, b, y => by rw [clsFrom, clsFrom_length all p s, List.length_set]
def classes (p : List Int) : List Int := clsFrom (sumZ p) p (rank p) 0 (List.replicate p.length 0)
theorem classes_length (p : List Int) : (classes p).length = p.length := by unfold classes; rw [clsFrom_length, List.length_replicate]
def ownFrom (p : List Int) : List Int → Int → Int
  | [], b => b
  | i :: s, b => ownFrom p s (wrap64 (b + rd p i))
theorem ownFrom_bd {p : List Int} (hp : inAll p 0 10000 = true) : ∀ (s : List Int) (b : Int), (∀ z ∈ s, 0 ≤ z ∧ z < (p.length : Int)) → 0 ≤ b → b + 10000 * (s.length : Int) ≤ 1000000 → 0 ≤ ownFrom p s b ∧ ownFrom p s b ≤ b + 10000 * (s.length : Int)
  | [], b, _, h0, h1 => by
    rw [ownFrom]
    simp
    exact h0
  | i :: s, b, hs, h0, h1 => by
    have hi := hs i (by simp)
    have hr := rd_in hp hi.1 hi.2
    rw [List.length_cons] at h1
    rw [ownFrom, wrap_id (by omega) (by omega), List.length_cons]
    have := ownFrom_bd hp s (b + rd p i) (fun z hz => hs z (by simp [hz])) (by omega) (by omega)
    omega
end Go.Proofs.Ytckjoadfkalnoaa.M
