/- Plain facts on goods laid at places: what is laid at each place, and the sorted numbers of an order; no program stands here. Conditions: those that each lemma names. -/
import Derived.Test.YtckjoadfkalnoaaM6
import Derived.Test.YtckjoadfkalnoaaM7
set_option linter.unusedVariables false
namespace Go.Proofs.Ytckjoadfkalnoaa.M
open Go.RowKit Go.Proofs.YtckjoadfkalnoaaW.PrintWords Go.Proofs.YtckjoadfkalnoaaW.PrintLast Go.Proofs.YtckjoadfkalnoaaW.PrintMore

/-- At the places of s, in their order, what g gives for the numbers from i on. -/
def putAll (g : Int → Int) : List Int → Nat → List Int → List Int
  | [], _, y => y
  | p :: s, i, y => putAll g s (i + 1) (y.set p.toNat (g (i : Int)))
theorem putAll_length (g : Int → Int) : ∀ (s : List Int) (i : Nat) (y : List Int), (putAll g s i y).length = y.length
  | [], _, _ => rfl
  | p :: s, i, y => by rw [putAll, putAll_length g s, List.length_set]
theorem insK_perm {α : Type} (key : α → Int) (x : α) : ∀ P : List α, (insK key x P).Perm (x :: P)
  | [] => List.Perm.refl _
  | y :: s => by
    rw [insK]
    split
    · exact List.Perm.refl _
    · exact (List.Perm.cons y (insK_perm key x s)).trans (List.Perm.swap x y s)
theorem rankK_perm {α : Type} (key : α → Int) : ∀ Q P : List α, (rankK key Q P).Perm (Q ++ P)
  | [], P => List.Perm.refl _
  | x :: Q, P => (rankK_perm key Q (insK key x P)).trans ((List.Perm.append_left Q (insK_perm key x P)).trans List.perm_middle)
theorem rank_perm (v : List Int) : (rank v).Perm (nums v.length) := by
  have := rankK_perm (fun i => rd v i) (nums v.length) []
  rw [List.append_nil] at this
  exact this
theorem srt_rank (v : List Int) : srt (rank v) = nums v.length := by
  have h := rank_length v
  have := (srt_nums (rank v)).2 ⟨fun k hk => by rw [h]; exact rank_in v k hk, (rank_perm v).nodup_iff.2 (nums_nodup _)⟩
  rw [h] at this
  exact this
end Go.Proofs.Ytckjoadfkalnoaa.M
