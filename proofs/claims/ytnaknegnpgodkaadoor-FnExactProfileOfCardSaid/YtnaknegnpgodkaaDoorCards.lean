/-
  DERIVED. GIVEN WITH THE SEED: THE CARDS: each row of YtnaknegnpgodkaaDoorRows.lean that lists a variable, with what it lists TIED to the program's text (the seventh form; the later family's looks); each row that meets fmt, with fmt's text TOLD by the authors' own Lean function (tested against real Go, not proved from fmt's source: count such statements apart). THE CARD IS WHAT COUNTS. Prove the row's statement (the work); the ties are given (YtnaknegnpgodkaaDoorTie.lean); close each card by the builder's one call (the guide's Derived/Test/ToyasCard.lean, 'card_holds'). Laid BY PROGRAM, IN A SANDBOX (cutbox-door.mjs). By AI agents, Wed Nov 11 2026. No macro, syntax, notation, axiom, sorry.
-/
import Derived.Test.YtnaknegnpgodkaaDoorRows
import GoSem.ClaimSeven
namespace Go.Proofs.YtnaknegnpgodkaaDoor
namespace Rows

/-- THE TIED CARD OF 'laws.FnExactFracText'. -/
def fnExactFracTextCard : Claim7 := { stood := { row := fnExactFracTextRow, standIns := [], harness := (true, "069bbae53d7f7e028118fed0c8cb3ae72658c65312fe2c8f5637089233c55e45"), looks := false }, kinds := [], alts := [], laidByText := true, laidKinds := [.data, .data, .data], laidTests := true, laidLooks := .later }
def FnExactFracTextCardSaid : Prop := Claim7.holds Tryd.pinned (.plain (OpenSpec.ofChange fnExactFracTextSpec)) fnExactFracTextCard

/-- THE TIED CARD OF 'laws.FnExactGoodGoods'. -/
def fnExactGoodGoodsCard : Claim7 := { stood := { row := fnExactGoodGoodsRow, standIns := [], harness := (true, "069bbae53d7f7e028118fed0c8cb3ae72658c65312fe2c8f5637089233c55e45"), looks := false }, kinds := [], alts := [], laidByText := true, laidKinds := [.data, .pinned], laidTests := true, laidLooks := .later }
def FnExactGoodGoodsCardSaid : Prop := Claim7.holds Tryd.pinned (.plain (OpenSpec.ofChange fnExactGoodGoodsSpec)) fnExactGoodGoodsCard

/-- THE TIED CARD OF 'laws.FnExactProfileOf'. -/
def fnExactProfileOfCard : Claim7 := { stood := { row := fnExactProfileOfRow, standIns := [], harness := (true, "069bbae53d7f7e028118fed0c8cb3ae72658c65312fe2c8f5637089233c55e45"), looks := false }, kinds := [], alts := [], laidByText := true, laidKinds := [.data, .pinned], laidTests := true, laidLooks := .later }
def FnExactProfileOfCardSaid : Prop := Claim7.holds Tryd.pinned (.plain (OpenSpec.ofChange fnExactProfileOfSpec)) fnExactProfileOfCard

/-- THE SECOND FORM's CARD OF 'laws.FnExactFracText'. -/
def fnExactFracTextUptoCard : Claim7 := { stood := { row := fnExactFracTextUptoRow, standIns := [], harness := (true, "069bbae53d7f7e028118fed0c8cb3ae72658c65312fe2c8f5637089233c55e45"), looks := false }, kinds := [], alts := [], laidByText := true, laidKinds := [.data, .data, .data], laidTests := true, laidLooks := .later }
def FnExactFracTextUptoCardSaid : Prop := Claim7.holds Tryd.pinned (.plain (OpenSpec.upto fnExactFracTextSpec)) fnExactFracTextUptoCard

/-- THE SECOND FORM's CARD OF 'laws.FnExactGoodGoods'. -/
def fnExactGoodGoodsUptoCard : Claim7 := { stood := { row := fnExactGoodGoodsUptoRow, standIns := [], harness := (true, "069bbae53d7f7e028118fed0c8cb3ae72658c65312fe2c8f5637089233c55e45"), looks := false }, kinds := [], alts := [], laidByText := true, laidKinds := [.data, .pinned], laidTests := true, laidLooks := .later }
def FnExactGoodGoodsUptoCardSaid : Prop := Claim7.holds Tryd.pinned (.plain (OpenSpec.upto fnExactGoodGoodsSpec)) fnExactGoodGoodsUptoCard

/-- THE SECOND FORM's CARD OF 'laws.FnExactProfileOf'. -/
def fnExactProfileOfUptoCard : Claim7 := { stood := { row := fnExactProfileOfUptoRow, standIns := [], harness := (true, "069bbae53d7f7e028118fed0c8cb3ae72658c65312fe2c8f5637089233c55e45"), looks := false }, kinds := [], alts := [], laidByText := true, laidKinds := [.data, .pinned], laidTests := true, laidLooks := .later }
def FnExactProfileOfUptoCardSaid : Prop := Claim7.holds Tryd.pinned (.plain (OpenSpec.upto fnExactProfileOfSpec)) fnExactProfileOfUptoCard
end Rows
end Go.Proofs.YtnaknegnpgodkaaDoor
