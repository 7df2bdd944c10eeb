/-
  No cell of these rows narrows 'for every input' (looked for: loops, veiled, ifaces, maps, wideKeys, modest, calm, conditions, laid).
  DERIVED. THE GIVEN ROWS OF THIS SEAT. 12 by the template 'for every input the law returns true; each argument reads behind the call as it read before'; 0 by the template 'total and deterministic' (their statements: YtckjoadfkalnoaaTotals.lean).
  GIVEN WITH THE SEED: the statements are not yours to turn. If you find one false, say at which input.
  Laid BY PROGRAM, IN A SANDBOX (cutbox-rows.mjs): the forced cells as the released guide's own fill.sh prints them over the translation 85c26602d55f4694… (all of the seat's roots in one cut). By AI agents, Wed Nov 11 2026. No macro, syntax, notation, axiom, sorry.
-/
import Derived.Test.YtckjoadfkalnoaaChecked
import GoSem.Claim
import GoSem.ClaimJoined
import GoSem.ClaimMapViews
import Derived.JoinedTies
import Derived.KernelRfl
namespace Go.Proofs.Ytckjoadfkalnoaa
/- THE CELL 'sum', in the pinned program and in every row, IS THE sha256 OF THE DUMP (.gsa) THAT YtckjoadfkalnoaaProg.lean LOADS. Nothing in Lean hashes anything: it is a label: what it is worth is what the hold of that sum in a sandbox is worth. -/
noncomputable def Try.pinned : Pinned := { name := "ytckjoadfkalnoaa", sum := "85c26602d55f4694c07fb8bdf20cab2191332e31de22ecfee118e26818e9dd0d", checked := Try.checked }
namespace Rows
def none {H : Type} : Left H := { results := [], args := [] }

/-- 'laws.FnExactSumBounds': WHATEVER THE INPUT: true; the input reads as it did. -/
def fnExactSumBoundsSpec : ChangeSpec := { name := "fnExactSumBounds", fn := fun _ => fun
  | [d] => { results := [.lit (.bool true)], args := [d] }
  | _ => none }
def fnExactSumBoundsRow : OpenClaim := { program := "ytckjoadfkalnoaa", sum := "85c26602d55f4694c07fb8bdf20cab2191332e31de22ecfee118e26818e9dd0d", func := "loop.example/g00451/laws.FnExactSumBounds", spec := "fnExactSumBounds", unfollowed := true, recurses := true, apart := false }
def FnExactSumBoundsSaid : Prop := fnExactSumBoundsRow.holds Try.pinned (OpenSpec.ofChange fnExactSumBoundsSpec)

/-- ITS FALSE NEIGHBOUR: 'it returns false'. Refute it at one input. -/
def fnExactSumBoundsWrong : ChangeSpec := { name := "fnExactSumBounds", fn := fun _ => fun
  | [d] => { results := [.lit (.bool false)], args := [d] }
  | _ => none }
def FnExactSumBoundsWrongFalsely : Prop := fnExactSumBoundsRow.holds Try.pinned (OpenSpec.ofChange fnExactSumBoundsWrong)

/-- 'laws.FnExactLeastCost': WHATEVER THE INPUT: true; the input reads as it did. -/
def fnExactLeastCostSpec : ChangeSpec := { name := "fnExactLeastCost", fn := fun _ => fun
  | [d1, d2, d3] => { results := [.lit (.bool true)], args := [d1, d2, d3] }
  | _ => none }
def fnExactLeastCostRow : OpenClaim := { program := "ytckjoadfkalnoaa", sum := "85c26602d55f4694c07fb8bdf20cab2191332e31de22ecfee118e26818e9dd0d", func := "loop.example/g00451/laws.FnExactLeastCost", spec := "fnExactLeastCost", unfollowed := true, recurses := true, apart := false }
def FnExactLeastCostSaid : Prop := fnExactLeastCostRow.holds Try.pinned (OpenSpec.ofChange fnExactLeastCostSpec)

/-- ITS FALSE NEIGHBOUR: 'it returns false'. Refute it at one input. -/
def fnExactLeastCostWrong : ChangeSpec := { name := "fnExactLeastCost", fn := fun _ => fun
  | [d1, d2, d3] => { results := [.lit (.bool false)], args := [d1, d2, d3] }
  | _ => none }
def FnExactLeastCostWrongFalsely : Prop := fnExactLeastCostRow.holds Try.pinned (OpenSpec.ofChange fnExactLeastCostWrong)

/-- 'laws.FnExactRankBy': WHATEVER THE INPUT: true; the input reads as it did. -/
def fnExactRankBySpec : ChangeSpec := { name := "fnExactRankBy", fn := fun _ => fun
  | [d] => { results := [.lit (.bool true)], args := [d] }
  | _ => none }
def fnExactRankByRow : OpenClaim := { program := "ytckjoadfkalnoaa", sum := "85c26602d55f4694c07fb8bdf20cab2191332e31de22ecfee118e26818e9dd0d", func := "loop.example/g00451/laws.FnExactRankBy", spec := "fnExactRankBy", unfollowed := true, recurses := true, apart := false }
def FnExactRankBySaid : Prop := fnExactRankByRow.holds Try.pinned (OpenSpec.ofChange fnExactRankBySpec)

/-- ITS FALSE NEIGHBOUR: 'it returns false'. Refute it at one input. -/
def fnExactRankByWrong : ChangeSpec := { name := "fnExactRankBy", fn := fun _ => fun
  | [d] => { results := [.lit (.bool false)], args := [d] }
  | _ => none }
def FnExactRankByWrongFalsely : Prop := fnExactRankByRow.holds Try.pinned (OpenSpec.ofChange fnExactRankByWrong)

/-- 'laws.FnExactClassesOf': WHATEVER THE INPUT: true; the input reads as it did. -/
def fnExactClassesOfSpec : ChangeSpec := { name := "fnExactClassesOf", fn := fun _ => fun
  | [d] => { results := [.lit (.bool true)], args := [d] }
  | _ => none }
def fnExactClassesOfRow : OpenClaim := { program := "ytckjoadfkalnoaa", sum := "85c26602d55f4694c07fb8bdf20cab2191332e31de22ecfee118e26818e9dd0d", func := "loop.example/g00451/laws.FnExactClassesOf", spec := "fnExactClassesOf", unfollowed := true, recurses := true, apart := false }
def FnExactClassesOfSaid : Prop := fnExactClassesOfRow.holds Try.pinned (OpenSpec.ofChange fnExactClassesOfSpec)

/-- ITS FALSE NEIGHBOUR: 'it returns false'. Refute it at one input. -/
def fnExactClassesOfWrong : ChangeSpec := { name := "fnExactClassesOf", fn := fun _ => fun
  | [d] => { results := [.lit (.bool false)], args := [d] }
  | _ => none }
def FnExactClassesOfWrongFalsely : Prop := fnExactClassesOfRow.holds Try.pinned (OpenSpec.ofChange fnExactClassesOfWrong)

/-- 'laws.FnExactShareOf': WHATEVER THE INPUT: true; the input reads as it did. -/
def fnExactShareOfSpec : ChangeSpec := { name := "fnExactShareOf", fn := fun _ => fun
  | [d1, d2] => { results := [.lit (.bool true)], args := [d1, d2] }
  | _ => none }
def fnExactShareOfRow : OpenClaim := { program := "ytckjoadfkalnoaa", sum := "85c26602d55f4694c07fb8bdf20cab2191332e31de22ecfee118e26818e9dd0d", func := "loop.example/g00451/laws.FnExactShareOf", spec := "fnExactShareOf", unfollowed := true, recurses := true, apart := false }
def FnExactShareOfSaid : Prop := fnExactShareOfRow.holds Try.pinned (OpenSpec.ofChange fnExactShareOfSpec)

/-- ITS FALSE NEIGHBOUR: 'it returns false'. Refute it at one input. -/
def fnExactShareOfWrong : ChangeSpec := { name := "fnExactShareOf", fn := fun _ => fun
  | [d1, d2] => { results := [.lit (.bool false)], args := [d1, d2] }
  | _ => none }
def FnExactShareOfWrongFalsely : Prop := fnExactShareOfRow.holds Try.pinned (OpenSpec.ofChange fnExactShareOfWrong)

/-- 'laws.FnExactSmithOrder': WHATEVER THE INPUT: true; the input reads as it did. -/
def fnExactSmithOrderSpec : ChangeSpec := { name := "fnExactSmithOrder", fn := fun _ => fun
  | [d] => { results := [.lit (.bool true)], args := [d] }
  | _ => none }
def fnExactSmithOrderRow : OpenClaim := { program := "ytckjoadfkalnoaa", sum := "85c26602d55f4694c07fb8bdf20cab2191332e31de22ecfee118e26818e9dd0d", func := "loop.example/g00451/laws.FnExactSmithOrder", spec := "fnExactSmithOrder", unfollowed := true, recurses := true, apart := false }
def FnExactSmithOrderSaid : Prop := fnExactSmithOrderRow.holds Try.pinned (OpenSpec.ofChange fnExactSmithOrderSpec)

/-- ITS FALSE NEIGHBOUR: 'it returns false'. Refute it at one input. -/
def fnExactSmithOrderWrong : ChangeSpec := { name := "fnExactSmithOrder", fn := fun _ => fun
  | [d] => { results := [.lit (.bool false)], args := [d] }
  | _ => none }
def FnExactSmithOrderWrongFalsely : Prop := fnExactSmithOrderRow.holds Try.pinned (OpenSpec.ofChange fnExactSmithOrderWrong)

/-- 'laws.FnExactOrderFor': WHATEVER THE INPUT: true; the input reads as it did. -/
def fnExactOrderForSpec : ChangeSpec := { name := "fnExactOrderFor", fn := fun _ => fun
  | [d1, d2] => { results := [.lit (.bool true)], args := [d1, d2] }
  | _ => none }
def fnExactOrderForRow : OpenClaim := { program := "ytckjoadfkalnoaa", sum := "85c26602d55f4694c07fb8bdf20cab2191332e31de22ecfee118e26818e9dd0d", func := "loop.example/g00451/laws.FnExactOrderFor", spec := "fnExactOrderFor", unfollowed := true, recurses := true, apart := false }
def FnExactOrderForSaid : Prop := fnExactOrderForRow.holds Try.pinned (OpenSpec.ofChange fnExactOrderForSpec)

/-- ITS FALSE NEIGHBOUR: 'it returns false'. Refute it at one input. -/
def fnExactOrderForWrong : ChangeSpec := { name := "fnExactOrderFor", fn := fun _ => fun
  | [d1, d2] => { results := [.lit (.bool false)], args := [d1, d2] }
  | _ => none }
def FnExactOrderForWrongFalsely : Prop := fnExactOrderForRow.holds Try.pinned (OpenSpec.ofChange fnExactOrderForWrong)

/-- 'laws.FnExactSmithCost': WHATEVER THE INPUT: true; the input reads as it did. -/
def fnExactSmithCostSpec : ChangeSpec := { name := "fnExactSmithCost", fn := fun _ => fun
  | [d1, d2] => { results := [.lit (.bool true)], args := [d1, d2] }
  | _ => none }
def fnExactSmithCostRow : OpenClaim := { program := "ytckjoadfkalnoaa", sum := "85c26602d55f4694c07fb8bdf20cab2191332e31de22ecfee118e26818e9dd0d", func := "loop.example/g00451/laws.FnExactSmithCost", spec := "fnExactSmithCost", unfollowed := true, recurses := true, apart := false }
def FnExactSmithCostSaid : Prop := fnExactSmithCostRow.holds Try.pinned (OpenSpec.ofChange fnExactSmithCostSpec)

/-- ITS FALSE NEIGHBOUR: 'it returns false'. Refute it at one input. -/
def fnExactSmithCostWrong : ChangeSpec := { name := "fnExactSmithCost", fn := fun _ => fun
  | [d1, d2] => { results := [.lit (.bool false)], args := [d1, d2] }
  | _ => none }
def FnExactSmithCostWrongFalsely : Prop := fnExactSmithCostRow.holds Try.pinned (OpenSpec.ofChange fnExactSmithCostWrong)

/-- 'laws.FnExactIsOrder': WHATEVER THE INPUT: true; the input reads as it did. -/
def fnExactIsOrderSpec : ChangeSpec := { name := "fnExactIsOrder", fn := fun _ => fun
  | [d1, d2] => { results := [.lit (.bool true)], args := [d1, d2] }
  | _ => none }
def fnExactIsOrderRow : OpenClaim := { program := "ytckjoadfkalnoaa", sum := "85c26602d55f4694c07fb8bdf20cab2191332e31de22ecfee118e26818e9dd0d", func := "loop.example/g00451/laws.FnExactIsOrder", spec := "fnExactIsOrder", unfollowed := true, recurses := true, apart := false }
def FnExactIsOrderSaid : Prop := fnExactIsOrderRow.holds Try.pinned (OpenSpec.ofChange fnExactIsOrderSpec)

/-- ITS FALSE NEIGHBOUR: 'it returns false'. Refute it at one input. -/
def fnExactIsOrderWrong : ChangeSpec := { name := "fnExactIsOrder", fn := fun _ => fun
  | [d1, d2] => { results := [.lit (.bool false)], args := [d1, d2] }
  | _ => none }
def FnExactIsOrderWrongFalsely : Prop := fnExactIsOrderRow.holds Try.pinned (OpenSpec.ofChange fnExactIsOrderWrong)

/-- 'laws.FnExactCyclesIn': WHATEVER THE INPUT: true; the input reads as it did. -/
def fnExactCyclesInSpec : ChangeSpec := { name := "fnExactCyclesIn", fn := fun _ => fun
  | [d] => { results := [.lit (.bool true)], args := [d] }
  | _ => none }
def fnExactCyclesInRow : OpenClaim := { program := "ytckjoadfkalnoaa", sum := "85c26602d55f4694c07fb8bdf20cab2191332e31de22ecfee118e26818e9dd0d", func := "loop.example/g00451/laws.FnExactCyclesIn", spec := "fnExactCyclesIn", unfollowed := true, recurses := true, apart := false }
def FnExactCyclesInSaid : Prop := fnExactCyclesInRow.holds Try.pinned (OpenSpec.ofChange fnExactCyclesInSpec)

/-- ITS FALSE NEIGHBOUR: 'it returns false'. Refute it at one input. -/
def fnExactCyclesInWrong : ChangeSpec := { name := "fnExactCyclesIn", fn := fun _ => fun
  | [d] => { results := [.lit (.bool false)], args := [d] }
  | _ => none }
def FnExactCyclesInWrongFalsely : Prop := fnExactCyclesInRow.holds Try.pinned (OpenSpec.ofChange fnExactCyclesInWrong)

/-- 'laws.FnExactOrderCost': WHATEVER THE INPUT: true; the input reads as it did. -/
def fnExactOrderCostSpec : ChangeSpec := { name := "fnExactOrderCost", fn := fun _ => fun
  | [d1, d2, d3] => { results := [.lit (.bool true)], args := [d1, d2, d3] }
  | _ => none }
def fnExactOrderCostRow : OpenClaim := { program := "ytckjoadfkalnoaa", sum := "85c26602d55f4694c07fb8bdf20cab2191332e31de22ecfee118e26818e9dd0d", func := "loop.example/g00451/laws.FnExactOrderCost", spec := "fnExactOrderCost", unfollowed := true, recurses := true, apart := false }
def FnExactOrderCostSaid : Prop := fnExactOrderCostRow.holds Try.pinned (OpenSpec.ofChange fnExactOrderCostSpec)

/-- ITS FALSE NEIGHBOUR: 'it returns false'. Refute it at one input. -/
def fnExactOrderCostWrong : ChangeSpec := { name := "fnExactOrderCost", fn := fun _ => fun
  | [d1, d2, d3] => { results := [.lit (.bool false)], args := [d1, d2, d3] }
  | _ => none }
def FnExactOrderCostWrongFalsely : Prop := fnExactOrderCostRow.holds Try.pinned (OpenSpec.ofChange fnExactOrderCostWrong)

/-- 'laws.FnExactSwapGain': WHATEVER THE INPUT: true; the input reads as it did. -/
def fnExactSwapGainSpec : ChangeSpec := { name := "fnExactSwapGain", fn := fun _ => fun
  | [d1, d2, d3, d4, d5] => { results := [.lit (.bool true)], args := [d1, d2, d3, d4, d5] }
  | _ => none }
def fnExactSwapGainRow : OpenClaim := { program := "ytckjoadfkalnoaa", sum := "85c26602d55f4694c07fb8bdf20cab2191332e31de22ecfee118e26818e9dd0d", func := "loop.example/g00451/laws.FnExactSwapGain", spec := "fnExactSwapGain", unfollowed := true, recurses := true, apart := false }
def FnExactSwapGainSaid : Prop := fnExactSwapGainRow.holds Try.pinned (OpenSpec.ofChange fnExactSwapGainSpec)

/-- ITS FALSE NEIGHBOUR: 'it returns false'. Refute it at one input. -/
def fnExactSwapGainWrong : ChangeSpec := { name := "fnExactSwapGain", fn := fun _ => fun
  | [d1, d2, d3, d4, d5] => { results := [.lit (.bool false)], args := [d1, d2, d3, d4, d5] }
  | _ => none }
def FnExactSwapGainWrongFalsely : Prop := fnExactSwapGainRow.holds Try.pinned (OpenSpec.ofChange fnExactSwapGainWrong)

/- THE SECOND FORM. 'bulk': how many values and letters a reading holds, each counted each time it is reached (what is shared counts as often as it is met; a slice's spare places count too). A statement '..UptoSaid' is the law's where the arguments, and the package variables that the reading takes, are together of bulk at most 1048576: NARROWER than '..Said'. Prove '..Said' where nothing that the law and all that it calls make is longer than what came in: it says more and counts as full. Else prove '..UptoSaid'. A law counts once. -/
mutual
def uptoBulk {H : Type} : DataW H → Nat
  | .lit (.string bytes) => bytes.length + 1
  | .lit _ => 1
  | .nil => 1
  | .ptr d => uptoBulk d + 1
  | .slice elems spare => uptoBulkAll elems + uptoBulkAll spare + 1
  | .agg parts => uptoBulkAll parts + 1
  | .iface _ d => uptoBulk d + 1
  | .map entries => uptoBulkEntries entries + 1
  | .held _ => 1
def uptoBulkAll {H : Type} : List (DataW H) → Nat
  | [] => 0
  | d :: r => uptoBulk d + uptoBulkAll r
def uptoBulkEntries {H : Type} : List (Lit × DataW H) → Nat
  | [] => 0
  | x :: r => uptoBulkEntry x + uptoBulkEntries r
def uptoBulkEntry {H : Type} : Lit × DataW H → Nat
  | (.string bytes, d) => bytes.length + uptoBulk d + 1
  | (_, d) => uptoBulk d + 1
 end
def uptoSmall : (H : Type) → List (DataW H) → Bool := fun _ ds => decide (uptoBulkAll ds ≤ 1048576)
def OpenSpec.upto (s : _root_.Go.ChangeSpec) : _root_.Go.OpenSpec := { _root_.Go.OpenSpec.ofChange s with cond := some uptoSmall }

/-- 'laws.FnExactSumBounds', WHERE WHAT IT READS IS OF BULK AT MOST 1048576: true; the input reads as it did. -/
def fnExactSumBoundsUptoRow : OpenClaim := { program := "ytckjoadfkalnoaa", sum := "85c26602d55f4694c07fb8bdf20cab2191332e31de22ecfee118e26818e9dd0d", func := "loop.example/g00451/laws.FnExactSumBounds", spec := "fnExactSumBounds", unfollowed := true, recurses := true, apart := false, narrowed := true }
def FnExactSumBoundsUptoSaid : Prop := fnExactSumBoundsUptoRow.holds Try.pinned (OpenSpec.upto fnExactSumBoundsSpec)

/-- 'laws.FnExactLeastCost', WHERE WHAT IT READS IS OF BULK AT MOST 1048576: true; the input reads as it did. -/
def fnExactLeastCostUptoRow : OpenClaim := { program := "ytckjoadfkalnoaa", sum := "85c26602d55f4694c07fb8bdf20cab2191332e31de22ecfee118e26818e9dd0d", func := "loop.example/g00451/laws.FnExactLeastCost", spec := "fnExactLeastCost", unfollowed := true, recurses := true, apart := false, narrowed := true }
def FnExactLeastCostUptoSaid : Prop := fnExactLeastCostUptoRow.holds Try.pinned (OpenSpec.upto fnExactLeastCostSpec)

/-- 'laws.FnExactRankBy', WHERE WHAT IT READS IS OF BULK AT MOST 1048576: true; the input reads as it did. -/
def fnExactRankByUptoRow : OpenClaim := { program := "ytckjoadfkalnoaa", sum := "85c26602d55f4694c07fb8bdf20cab2191332e31de22ecfee118e26818e9dd0d", func := "loop.example/g00451/laws.FnExactRankBy", spec := "fnExactRankBy", unfollowed := true, recurses := true, apart := false, narrowed := true }
def FnExactRankByUptoSaid : Prop := fnExactRankByUptoRow.holds Try.pinned (OpenSpec.upto fnExactRankBySpec)

/-- 'laws.FnExactClassesOf', WHERE WHAT IT READS IS OF BULK AT MOST 1048576: true; the input reads as it did. -/
def fnExactClassesOfUptoRow : OpenClaim := { program := "ytckjoadfkalnoaa", sum := "85c26602d55f4694c07fb8bdf20cab2191332e31de22ecfee118e26818e9dd0d", func := "loop.example/g00451/laws.FnExactClassesOf", spec := "fnExactClassesOf", unfollowed := true, recurses := true, apart := false, narrowed := true }
def FnExactClassesOfUptoSaid : Prop := fnExactClassesOfUptoRow.holds Try.pinned (OpenSpec.upto fnExactClassesOfSpec)

/-- 'laws.FnExactShareOf', WHERE WHAT IT READS IS OF BULK AT MOST 1048576: true; the input reads as it did. -/
def fnExactShareOfUptoRow : OpenClaim := { program := "ytckjoadfkalnoaa", sum := "85c26602d55f4694c07fb8bdf20cab2191332e31de22ecfee118e26818e9dd0d", func := "loop.example/g00451/laws.FnExactShareOf", spec := "fnExactShareOf", unfollowed := true, recurses := true, apart := false, narrowed := true }
def FnExactShareOfUptoSaid : Prop := fnExactShareOfUptoRow.holds Try.pinned (OpenSpec.upto fnExactShareOfSpec)

/-- 'laws.FnExactSmithOrder', WHERE WHAT IT READS IS OF BULK AT MOST 1048576: true; the input reads as it did. -/
def fnExactSmithOrderUptoRow : OpenClaim := { program := "ytckjoadfkalnoaa", sum := "85c26602d55f4694c07fb8bdf20cab2191332e31de22ecfee118e26818e9dd0d", func := "loop.example/g00451/laws.FnExactSmithOrder", spec := "fnExactSmithOrder", unfollowed := true, recurses := true, apart := false, narrowed := true }
def FnExactSmithOrderUptoSaid : Prop := fnExactSmithOrderUptoRow.holds Try.pinned (OpenSpec.upto fnExactSmithOrderSpec)

/-- 'laws.FnExactOrderFor', WHERE WHAT IT READS IS OF BULK AT MOST 1048576: true; the input reads as it did. -/
def fnExactOrderForUptoRow : OpenClaim := { program := "ytckjoadfkalnoaa", sum := "85c26602d55f4694c07fb8bdf20cab2191332e31de22ecfee118e26818e9dd0d", func := "loop.example/g00451/laws.FnExactOrderFor", spec := "fnExactOrderFor", unfollowed := true, recurses := true, apart := false, narrowed := true }
def FnExactOrderForUptoSaid : Prop := fnExactOrderForUptoRow.holds Try.pinned (OpenSpec.upto fnExactOrderForSpec)

/-- 'laws.FnExactSmithCost', WHERE WHAT IT READS IS OF BULK AT MOST 1048576: true; the input reads as it did. -/
def fnExactSmithCostUptoRow : OpenClaim := { program := "ytckjoadfkalnoaa", sum := "85c26602d55f4694c07fb8bdf20cab2191332e31de22ecfee118e26818e9dd0d", func := "loop.example/g00451/laws.FnExactSmithCost", spec := "fnExactSmithCost", unfollowed := true, recurses := true, apart := false, narrowed := true }
def FnExactSmithCostUptoSaid : Prop := fnExactSmithCostUptoRow.holds Try.pinned (OpenSpec.upto fnExactSmithCostSpec)

/-- 'laws.FnExactIsOrder', WHERE WHAT IT READS IS OF BULK AT MOST 1048576: true; the input reads as it did. -/
def fnExactIsOrderUptoRow : OpenClaim := { program := "ytckjoadfkalnoaa", sum := "85c26602d55f4694c07fb8bdf20cab2191332e31de22ecfee118e26818e9dd0d", func := "loop.example/g00451/laws.FnExactIsOrder", spec := "fnExactIsOrder", unfollowed := true, recurses := true, apart := false, narrowed := true }
def FnExactIsOrderUptoSaid : Prop := fnExactIsOrderUptoRow.holds Try.pinned (OpenSpec.upto fnExactIsOrderSpec)

/-- 'laws.FnExactCyclesIn', WHERE WHAT IT READS IS OF BULK AT MOST 1048576: true; the input reads as it did. -/
def fnExactCyclesInUptoRow : OpenClaim := { program := "ytckjoadfkalnoaa", sum := "85c26602d55f4694c07fb8bdf20cab2191332e31de22ecfee118e26818e9dd0d", func := "loop.example/g00451/laws.FnExactCyclesIn", spec := "fnExactCyclesIn", unfollowed := true, recurses := true, apart := false, narrowed := true }
def FnExactCyclesInUptoSaid : Prop := fnExactCyclesInUptoRow.holds Try.pinned (OpenSpec.upto fnExactCyclesInSpec)

/-- 'laws.FnExactOrderCost', WHERE WHAT IT READS IS OF BULK AT MOST 1048576: true; the input reads as it did. -/
def fnExactOrderCostUptoRow : OpenClaim := { program := "ytckjoadfkalnoaa", sum := "85c26602d55f4694c07fb8bdf20cab2191332e31de22ecfee118e26818e9dd0d", func := "loop.example/g00451/laws.FnExactOrderCost", spec := "fnExactOrderCost", unfollowed := true, recurses := true, apart := false, narrowed := true }
def FnExactOrderCostUptoSaid : Prop := fnExactOrderCostUptoRow.holds Try.pinned (OpenSpec.upto fnExactOrderCostSpec)

/-- 'laws.FnExactSwapGain', WHERE WHAT IT READS IS OF BULK AT MOST 1048576: true; the input reads as it did. -/
def fnExactSwapGainUptoRow : OpenClaim := { program := "ytckjoadfkalnoaa", sum := "85c26602d55f4694c07fb8bdf20cab2191332e31de22ecfee118e26818e9dd0d", func := "loop.example/g00451/laws.FnExactSwapGain", spec := "fnExactSwapGain", unfollowed := true, recurses := true, apart := false, narrowed := true }
def FnExactSwapGainUptoSaid : Prop := fnExactSwapGainUptoRow.holds Try.pinned (OpenSpec.upto fnExactSwapGainSpec)

end Rows
end Go.Proofs.Ytckjoadfkalnoaa
