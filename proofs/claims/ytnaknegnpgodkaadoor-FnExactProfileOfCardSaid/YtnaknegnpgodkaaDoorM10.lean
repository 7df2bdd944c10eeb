/- Plain facts on names and goods; no program stands here. Conditions: those that each lemma names. -/
import Derived.Test.YtnaknegnpgodkaaDoorM3
set_option linter.unusedVariables false
namespace Go.Proofs.YtnaknegnpgodkaaDoor.M
open Go.RowKit Go.Proofs.YtnaknegnpgodkaaDoorW.PrintWords Go.Proofs.YtnaknegnpgodkaaDoorW.PrintLast Go.Proofs.YtnaknegnpgodkaaDoorW.PrintMore

/-- Small letters alone. -/
def letters (s : ByteArray) : Bool := s.data.toList.all fun b => decide (97 ≤ b.toNat) && decide (b.toNat ≤ 122)
def nameOk (s : ByteArray) : Bool := (decide (1 ≤ s.size) && decide (s.size ≤ 8)) && letters s
def sizeOk (n : Int) : Bool := decide (1 ≤ n) && decide (n ≤ 100)
def goodsFrom {α : Type} (f : α → ByteArray) (g : α → Int) (l : List α) : Nat → List α → Bool
  | _, [] => true
  | i, x :: s => ((nameOk (f x) && sizeOk (g x)) && !((l.take i).any fun y => decide ((f y).toList = (f x).toList))) && goodsFrom f g l (i + 1) s
def goodGoods {α : Type} (f : α → ByteArray) (g : α → Int) (l : List α) : Bool := goodsFrom f g l 0 l && decide (l.length ≤ 12)
end Go.Proofs.YtnaknegnpgodkaaDoor.M
