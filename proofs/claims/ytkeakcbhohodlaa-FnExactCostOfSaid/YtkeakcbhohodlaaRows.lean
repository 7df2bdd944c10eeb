/-
  No cell of these rows narrows 'for every input' (looked for: loops, veiled, ifaces, maps, wideKeys, modest, calm, conditions, laid).
  DERIVED. THE GIVEN ROWS OF THIS SEAT. 10 by the template 'for every input the law returns true; each argument reads behind the call as it read before'; 0 by the template 'total and deterministic' (their statements: YtkeakcbhohodlaaTotals.lean).
  GIVEN WITH THE SEED: the statements are not yours to turn. If you find one false, say at which input.
  Laid BY PROGRAM, IN A SANDBOX (cutbox-rows.mjs): the forced cells as the released guide's own fill.sh prints them over the translation 1c55c46fb59bcd28… (all of the seat's roots in one cut). By AI agents, Wed Nov 11 2026. No macro, syntax, notation, axiom, sorry.
-/
import Derived.Test.YtkeakcbhohodlaaChecked
import GoSem.Claim
import GoSem.ClaimJoined
import GoSem.ClaimMapViews
import Derived.JoinedTies
import Derived.KernelRfl
namespace Go.Proofs.Ytkeakcbhohodlaa
/- THE CELL 'sum', in the pinned program and in every row, IS THE sha256 OF THE DUMP (.gsa) THAT YtkeakcbhohodlaaProg.lean LOADS. Nothing in Lean hashes anything: it is a label: what it is worth is what the hold of that sum in a sandbox is worth. -/
noncomputable def Try.pinned : Pinned := { name := "ytkeakcbhohodlaa", sum := "1c55c46fb59bcd2852eac193a23813a24dd0708f98037a34043d0c35756131cc", checked := Try.checked }
namespace Rows
def none {H : Type} : Left H := { results := [], args := [] }

/-- 'laws.FnExactCostOf': WHATEVER THE INPUT: true; the input reads as it did. -/
def fnExactCostOfSpec : ChangeSpec := { name := "fnExactCostOf", fn := fun _ => fun
  | [d1, d2] => { results := [.lit (.bool true)], args := [d1, d2] }
  | _ => none }
def fnExactCostOfRow : OpenClaim := { program := "ytkeakcbhohodlaa", sum := "1c55c46fb59bcd2852eac193a23813a24dd0708f98037a34043d0c35756131cc", func := "loop.example/g00451/laws.FnExactCostOf", spec := "fnExactCostOf", unfollowed := true, recurses := true, apart := false }
def FnExactCostOfSaid : Prop := fnExactCostOfRow.holds Try.pinned (OpenSpec.ofChange fnExactCostOfSpec)

/-- ITS FALSE NEIGHBOUR: 'it returns false'. Refute it at one input. -/
def fnExactCostOfWrong : ChangeSpec := { name := "fnExactCostOf", fn := fun _ => fun
  | [d1, d2] => { results := [.lit (.bool false)], args := [d1, d2] }
  | _ => none }
def FnExactCostOfWrongFalsely : Prop := fnExactCostOfRow.holds Try.pinned (OpenSpec.ofChange fnExactCostOfWrong)

/-- 'laws.FnExactDropOffer': WHATEVER THE INPUT: true; the input reads as it did. -/
def fnExactDropOfferSpec : ChangeSpec := { name := "fnExactDropOffer", fn := fun _ => fun
  | [d1, d2, d3] => { results := [.lit (.bool true)], args := [d1, d2, d3] }
  | _ => none }
def fnExactDropOfferRow : OpenClaim := { program := "ytkeakcbhohodlaa", sum := "1c55c46fb59bcd2852eac193a23813a24dd0708f98037a34043d0c35756131cc", func := "loop.example/g00451/laws.FnExactDropOffer", spec := "fnExactDropOffer", unfollowed := true, recurses := true, apart := false }
def FnExactDropOfferSaid : Prop := fnExactDropOfferRow.holds Try.pinned (OpenSpec.ofChange fnExactDropOfferSpec)

/-- ITS FALSE NEIGHBOUR: 'it returns false'. Refute it at one input. -/
def fnExactDropOfferWrong : ChangeSpec := { name := "fnExactDropOffer", fn := fun _ => fun
  | [d1, d2, d3] => { results := [.lit (.bool false)], args := [d1, d2, d3] }
  | _ => none }
def FnExactDropOfferWrongFalsely : Prop := fnExactDropOfferRow.holds Try.pinned (OpenSpec.ofChange fnExactDropOfferWrong)

/-- 'laws.FnExactSumBounds': WHATEVER THE INPUT: true; the input reads as it did. -/
def fnExactSumBoundsSpec : ChangeSpec := { name := "fnExactSumBounds", fn := fun _ => fun
  | [d] => { results := [.lit (.bool true)], args := [d] }
  | _ => none }
def fnExactSumBoundsRow : OpenClaim := { program := "ytkeakcbhohodlaa", sum := "1c55c46fb59bcd2852eac193a23813a24dd0708f98037a34043d0c35756131cc", func := "loop.example/g00451/laws.FnExactSumBounds", spec := "fnExactSumBounds", unfollowed := true, recurses := true, apart := false }
def FnExactSumBoundsSaid : Prop := fnExactSumBoundsRow.holds Try.pinned (OpenSpec.ofChange fnExactSumBoundsSpec)

/-- ITS FALSE NEIGHBOUR: 'it returns false'. Refute it at one input. -/
def fnExactSumBoundsWrong : ChangeSpec := { name := "fnExactSumBounds", fn := fun _ => fun
  | [d] => { results := [.lit (.bool false)], args := [d] }
  | _ => none }
def FnExactSumBoundsWrongFalsely : Prop := fnExactSumBoundsRow.holds Try.pinned (OpenSpec.ofChange fnExactSumBoundsWrong)

/-- 'laws.FnExactBestTable': WHATEVER THE INPUT: true; the input reads as it did. -/
def fnExactBestTableSpec : ChangeSpec := { name := "fnExactBestTable", fn := fun _ => fun
  | [d1, d2] => { results := [.lit (.bool true)], args := [d1, d2] }
  | _ => none }
def fnExactBestTableRow : OpenClaim := { program := "ytkeakcbhohodlaa", sum := "1c55c46fb59bcd2852eac193a23813a24dd0708f98037a34043d0c35756131cc", func := "loop.example/g00451/laws.FnExactBestTable", spec := "fnExactBestTable", unfollowed := true, recurses := true, apart := false }
def FnExactBestTableSaid : Prop := fnExactBestTableRow.holds Try.pinned (OpenSpec.ofChange fnExactBestTableSpec)

/-- ITS FALSE NEIGHBOUR: 'it returns false'. Refute it at one input. -/
def fnExactBestTableWrong : ChangeSpec := { name := "fnExactBestTable", fn := fun _ => fun
  | [d1, d2] => { results := [.lit (.bool false)], args := [d1, d2] }
  | _ => none }
def FnExactBestTableWrongFalsely : Prop := fnExactBestTableRow.holds Try.pinned (OpenSpec.ofChange fnExactBestTableWrong)

/-- 'laws.FnExactBestChoice': WHATEVER THE INPUT: true; the input reads as it did. -/
def fnExactBestChoiceSpec : ChangeSpec := { name := "fnExactBestChoice", fn := fun _ => fun
  | [d1, d2] => { results := [.lit (.bool true)], args := [d1, d2] }
  | _ => none }
def fnExactBestChoiceRow : OpenClaim := { program := "ytkeakcbhohodlaa", sum := "1c55c46fb59bcd2852eac193a23813a24dd0708f98037a34043d0c35756131cc", func := "loop.example/g00451/laws.FnExactBestChoice", spec := "fnExactBestChoice", unfollowed := true, recurses := true, apart := false }
def FnExactBestChoiceSaid : Prop := fnExactBestChoiceRow.holds Try.pinned (OpenSpec.ofChange fnExactBestChoiceSpec)

/-- ITS FALSE NEIGHBOUR: 'it returns false'. Refute it at one input. -/
def fnExactBestChoiceWrong : ChangeSpec := { name := "fnExactBestChoice", fn := fun _ => fun
  | [d1, d2] => { results := [.lit (.bool false)], args := [d1, d2] }
  | _ => none }
def FnExactBestChoiceWrongFalsely : Prop := fnExactBestChoiceRow.holds Try.pinned (OpenSpec.ofChange fnExactBestChoiceWrong)

/-- 'laws.FnExactRankBy': WHATEVER THE INPUT: true; the input reads as it did. -/
def fnExactRankBySpec : ChangeSpec := { name := "fnExactRankBy", fn := fun _ => fun
  | [d] => { results := [.lit (.bool true)], args := [d] }
  | _ => none }
def fnExactRankByRow : OpenClaim := { program := "ytkeakcbhohodlaa", sum := "1c55c46fb59bcd2852eac193a23813a24dd0708f98037a34043d0c35756131cc", func := "loop.example/g00451/laws.FnExactRankBy", spec := "fnExactRankBy", unfollowed := true, recurses := true, apart := false }
def FnExactRankBySaid : Prop := fnExactRankByRow.holds Try.pinned (OpenSpec.ofChange fnExactRankBySpec)

/-- ITS FALSE NEIGHBOUR: 'it returns false'. Refute it at one input. -/
def fnExactRankByWrong : ChangeSpec := { name := "fnExactRankBy", fn := fun _ => fun
  | [d] => { results := [.lit (.bool false)], args := [d] }
  | _ => none }
def FnExactRankByWrongFalsely : Prop := fnExactRankByRow.holds Try.pinned (OpenSpec.ofChange fnExactRankByWrong)

/-- 'laws.FnExactSmithOrder': WHATEVER THE INPUT: true; the input reads as it did. -/
def fnExactSmithOrderSpec : ChangeSpec := { name := "fnExactSmithOrder", fn := fun _ => fun
  | [d] => { results := [.lit (.bool true)], args := [d] }
  | _ => none }
def fnExactSmithOrderRow : OpenClaim := { program := "ytkeakcbhohodlaa", sum := "1c55c46fb59bcd2852eac193a23813a24dd0708f98037a34043d0c35756131cc", func := "loop.example/g00451/laws.FnExactSmithOrder", spec := "fnExactSmithOrder", unfollowed := true, recurses := true, apart := false }
def FnExactSmithOrderSaid : Prop := fnExactSmithOrderRow.holds Try.pinned (OpenSpec.ofChange fnExactSmithOrderSpec)

/-- ITS FALSE NEIGHBOUR: 'it returns false'. Refute it at one input. -/
def fnExactSmithOrderWrong : ChangeSpec := { name := "fnExactSmithOrder", fn := fun _ => fun
  | [d] => { results := [.lit (.bool false)], args := [d] }
  | _ => none }
def FnExactSmithOrderWrongFalsely : Prop := fnExactSmithOrderRow.holds Try.pinned (OpenSpec.ofChange fnExactSmithOrderWrong)

/-- 'laws.FnExactLeastCost': WHATEVER THE INPUT: true; the input reads as it did. -/
def fnExactLeastCostSpec : ChangeSpec := { name := "fnExactLeastCost", fn := fun _ => fun
  | [d1, d2, d3] => { results := [.lit (.bool true)], args := [d1, d2, d3] }
  | _ => none }
def fnExactLeastCostRow : OpenClaim := { program := "ytkeakcbhohodlaa", sum := "1c55c46fb59bcd2852eac193a23813a24dd0708f98037a34043d0c35756131cc", func := "loop.example/g00451/laws.FnExactLeastCost", spec := "fnExactLeastCost", unfollowed := true, recurses := true, apart := false }
def FnExactLeastCostSaid : Prop := fnExactLeastCostRow.holds Try.pinned (OpenSpec.ofChange fnExactLeastCostSpec)

/-- ITS FALSE NEIGHBOUR: 'it returns false'. Refute it at one input. -/
def fnExactLeastCostWrong : ChangeSpec := { name := "fnExactLeastCost", fn := fun _ => fun
  | [d1, d2, d3] => { results := [.lit (.bool false)], args := [d1, d2, d3] }
  | _ => none }
def FnExactLeastCostWrongFalsely : Prop := fnExactLeastCostRow.holds Try.pinned (OpenSpec.ofChange fnExactLeastCostWrong)

/-- 'laws.FnExactClassesOf': WHATEVER THE INPUT: true; the input reads as it did. -/
def fnExactClassesOfSpec : ChangeSpec := { name := "fnExactClassesOf", fn := fun _ => fun
  | [d] => { results := [.lit (.bool true)], args := [d] }
  | _ => none }
def fnExactClassesOfRow : OpenClaim := { program := "ytkeakcbhohodlaa", sum := "1c55c46fb59bcd2852eac193a23813a24dd0708f98037a34043d0c35756131cc", func := "loop.example/g00451/laws.FnExactClassesOf", spec := "fnExactClassesOf", unfollowed := true, recurses := true, apart := false }
def FnExactClassesOfSaid : Prop := fnExactClassesOfRow.holds Try.pinned (OpenSpec.ofChange fnExactClassesOfSpec)

/-- ITS FALSE NEIGHBOUR: 'it returns false'. Refute it at one input. -/
def fnExactClassesOfWrong : ChangeSpec := { name := "fnExactClassesOf", fn := fun _ => fun
  | [d] => { results := [.lit (.bool false)], args := [d] }
  | _ => none }
def FnExactClassesOfWrongFalsely : Prop := fnExactClassesOfRow.holds Try.pinned (OpenSpec.ofChange fnExactClassesOfWrong)

/-- 'laws.FnExactShareOf': WHATEVER THE INPUT: true; the input reads as it did. -/
def fnExactShareOfSpec : ChangeSpec := { name := "fnExactShareOf", fn := fun _ => fun
  | [d1, d2] => { results := [.lit (.bool true)], args := [d1, d2] }
  | _ => none }
def fnExactShareOfRow : OpenClaim := { program := "ytkeakcbhohodlaa", sum := "1c55c46fb59bcd2852eac193a23813a24dd0708f98037a34043d0c35756131cc", func := "loop.example/g00451/laws.FnExactShareOf", spec := "fnExactShareOf", unfollowed := true, recurses := true, apart := false }
def FnExactShareOfSaid : Prop := fnExactShareOfRow.holds Try.pinned (OpenSpec.ofChange fnExactShareOfSpec)

/-- ITS FALSE NEIGHBOUR: 'it returns false'. Refute it at one input. -/
def fnExactShareOfWrong : ChangeSpec := { name := "fnExactShareOf", fn := fun _ => fun
  | [d1, d2] => { results := [.lit (.bool false)], args := [d1, d2] }
  | _ => none }
def FnExactShareOfWrongFalsely : Prop := fnExactShareOfRow.holds Try.pinned (OpenSpec.ofChange fnExactShareOfWrong)

/- THE SECOND FORM. 'bulk': how many values and letters a reading holds, each counted each time it is reached (what is shared counts as often as it is met; a slice's spare places count too). A statement '..UptoSaid' is the law's where the arguments, and the package variables that the reading takes, are together of bulk at most 1048576: NARROWER than '..Said'. Prove '..Said' where nothing that the law and all that it calls make is longer than what came in: it says more and counts as full. Else prove '..UptoSaid'. A law counts once. -/
mutual
def uptoBulk {H : Type} : DataW H → Nat
  | .lit (.string bytes) => bytes.length + 1
  | .lit _ => 1
  | .nil => 1
  | .ptr d => uptoBulk d + 1
  | .slice elems spare => uptoBulkAll elems + uptoBulkAll spare + 1
  | .agg parts => uptoBulkAll parts + 1
  | .iface _ d => uptoBulk d + 1
  | .map entries => uptoBulkEntries entries + 1
  | .held _ => 1
def uptoBulkAll {H : Type} : List (DataW H) → Nat
  | [] => 0
  | d :: r => uptoBulk d + uptoBulkAll r
def uptoBulkEntries {H : Type} : List (Lit × DataW H) → Nat
  | [] => 0
  | x :: r => uptoBulkEntry x + uptoBulkEntries r
def uptoBulkEntry {H : Type} : Lit × DataW H → Nat
  | (.string bytes, d) => bytes.length + uptoBulk d + 1
  | (_, d) => uptoBulk d + 1
 end
def uptoSmall : (H : Type) → List (DataW H) → Bool := fun _ ds => decide (uptoBulkAll ds ≤ 1048576)
def OpenSpec.upto (s : _root_.Go.ChangeSpec) : _root_.Go.OpenSpec := { _root_.Go.OpenSpec.ofChange s with cond := some uptoSmall }

/-- 'laws.FnExactCostOf', WHERE WHAT IT READS IS OF BULK AT MOST 1048576: true; the input reads as it did. -/
def fnExactCostOfUptoRow : OpenClaim := { program := "ytkeakcbhohodlaa", sum := "1c55c46fb59bcd2852eac193a23813a24dd0708f98037a34043d0c35756131cc", func := "loop.example/g00451/laws.FnExactCostOf", spec := "fnExactCostOf", unfollowed := true, recurses := true, apart := false, narrowed := true }
def FnExactCostOfUptoSaid : Prop := fnExactCostOfUptoRow.holds Try.pinned (OpenSpec.upto fnExactCostOfSpec)

/-- 'laws.FnExactDropOffer', WHERE WHAT IT READS IS OF BULK AT MOST 1048576: true; the input reads as it did. -/
def fnExactDropOfferUptoRow : OpenClaim := { program := "ytkeakcbhohodlaa", sum := "1c55c46fb59bcd2852eac193a23813a24dd0708f98037a34043d0c35756131cc", func := "loop.example/g00451/laws.FnExactDropOffer", spec := "fnExactDropOffer", unfollowed := true, recurses := true, apart := false, narrowed := true }
def FnExactDropOfferUptoSaid : Prop := fnExactDropOfferUptoRow.holds Try.pinned (OpenSpec.upto fnExactDropOfferSpec)

/-- 'laws.FnExactSumBounds', WHERE WHAT IT READS IS OF BULK AT MOST 1048576: true; the input reads as it did. -/
def fnExactSumBoundsUptoRow : OpenClaim := { program := "ytkeakcbhohodlaa", sum := "1c55c46fb59bcd2852eac193a23813a24dd0708f98037a34043d0c35756131cc", func := "loop.example/g00451/laws.FnExactSumBounds", spec := "fnExactSumBounds", unfollowed := true, recurses := true, apart := false, narrowed := true }
def FnExactSumBoundsUptoSaid : Prop := fnExactSumBoundsUptoRow.holds Try.pinned (OpenSpec.upto fnExactSumBoundsSpec)

/-- 'laws.FnExactBestTable', WHERE WHAT IT READS IS OF BULK AT MOST 1048576: true; the input reads as it did. -/
def fnExactBestTableUptoRow : OpenClaim := { program := "ytkeakcbhohodlaa", sum := "1c55c46fb59bcd2852eac193a23813a24dd0708f98037a34043d0c35756131cc", func := "loop.example/g00451/laws.FnExactBestTable", spec := "fnExactBestTable", unfollowed := true, recurses := true, apart := false, narrowed := true }
def FnExactBestTableUptoSaid : Prop := fnExactBestTableUptoRow.holds Try.pinned (OpenSpec.upto fnExactBestTableSpec)

/-- 'laws.FnExactBestChoice', WHERE WHAT IT READS IS OF BULK AT MOST 1048576: true; the input reads as it did. -/
def fnExactBestChoiceUptoRow : OpenClaim := { program := "ytkeakcbhohodlaa", sum := "1c55c46fb59bcd2852eac193a23813a24dd0708f98037a34043d0c35756131cc", func := "loop.example/g00451/laws.FnExactBestChoice", spec := "fnExactBestChoice", unfollowed := true, recurses := true, apart := false, narrowed := true }
def FnExactBestChoiceUptoSaid : Prop := fnExactBestChoiceUptoRow.holds Try.pinned (OpenSpec.upto fnExactBestChoiceSpec)

/-- 'laws.FnExactRankBy', WHERE WHAT IT READS IS OF BULK AT MOST 1048576: true; the input reads as it did. -/
def fnExactRankByUptoRow : OpenClaim := { program := "ytkeakcbhohodlaa", sum := "1c55c46fb59bcd2852eac193a23813a24dd0708f98037a34043d0c35756131cc", func := "loop.example/g00451/laws.FnExactRankBy", spec := "fnExactRankBy", unfollowed := true, recurses := true, apart := false, narrowed := true }
def FnExactRankByUptoSaid : Prop := fnExactRankByUptoRow.holds Try.pinned (OpenSpec.upto fnExactRankBySpec)

/-- 'laws.FnExactSmithOrder', WHERE WHAT IT READS IS OF BULK AT MOST 1048576: true; the input reads as it did. -/
def fnExactSmithOrderUptoRow : OpenClaim := { program := "ytkeakcbhohodlaa", sum := "1c55c46fb59bcd2852eac193a23813a24dd0708f98037a34043d0c35756131cc", func := "loop.example/g00451/laws.FnExactSmithOrder", spec := "fnExactSmithOrder", unfollowed := true, recurses := true, apart := false, narrowed := true }
def FnExactSmithOrderUptoSaid : Prop := fnExactSmithOrderUptoRow.holds Try.pinned (OpenSpec.upto fnExactSmithOrderSpec)

/-- 'laws.FnExactLeastCost', WHERE WHAT IT READS IS OF BULK AT MOST 1048576: true; the input reads as it did. -/
def fnExactLeastCostUptoRow : OpenClaim := { program := "ytkeakcbhohodlaa", sum := "1c55c46fb59bcd2852eac193a23813a24dd0708f98037a34043d0c35756131cc", func := "loop.example/g00451/laws.FnExactLeastCost", spec := "fnExactLeastCost", unfollowed := true, recurses := true, apart := false, narrowed := true }
def FnExactLeastCostUptoSaid : Prop := fnExactLeastCostUptoRow.holds Try.pinned (OpenSpec.upto fnExactLeastCostSpec)

/-- 'laws.FnExactClassesOf', WHERE WHAT IT READS IS OF BULK AT MOST 1048576: true; the input reads as it did. -/
def fnExactClassesOfUptoRow : OpenClaim := { program := "ytkeakcbhohodlaa", sum := "1c55c46fb59bcd2852eac193a23813a24dd0708f98037a34043d0c35756131cc", func := "loop.example/g00451/laws.FnExactClassesOf", spec := "fnExactClassesOf", unfollowed := true, recurses := true, apart := false, narrowed := true }
def FnExactClassesOfUptoSaid : Prop := fnExactClassesOfUptoRow.holds Try.pinned (OpenSpec.upto fnExactClassesOfSpec)

/-- 'laws.FnExactShareOf', WHERE WHAT IT READS IS OF BULK AT MOST 1048576: true; the input reads as it did. -/
def fnExactShareOfUptoRow : OpenClaim := { program := "ytkeakcbhohodlaa", sum := "1c55c46fb59bcd2852eac193a23813a24dd0708f98037a34043d0c35756131cc", func := "loop.example/g00451/laws.FnExactShareOf", spec := "fnExactShareOf", unfollowed := true, recurses := true, apart := false, narrowed := true }
def FnExactShareOfUptoSaid : Prop := fnExactShareOfUptoRow.holds Try.pinned (OpenSpec.upto fnExactShareOfSpec)

end Rows
end Go.Proofs.Ytkeakcbhohodlaa
