/-
  No cell of these rows narrows 'for every input' (looked for: loops, veiled, ifaces, maps, wideKeys, modest, calm, conditions, laid).
  DERIVED. THE GIVEN ROWS OF THIS SEAT. 12 by the template 'for every input the law returns true; each argument reads behind the call as it read before'; 0 by the template 'total and deterministic' (their statements: YtpoggaflianeiaaTotals.lean).
  GIVEN WITH THE SEED: the statements are not yours to turn. If you find one false, say at which input.
  Laid BY PROGRAM, IN A SANDBOX (cutbox-rows.mjs): the forced cells as the released guide's own fill.sh prints them over the translation bda4ff275e318625… (all of the seat's roots in one cut). By AI agents, Wed Nov 11 2026. No macro, syntax, notation, axiom, sorry.
-/
import Derived.Test.YtpoggaflianeiaaChecked
import GoSem.Claim
import GoSem.ClaimJoined
import GoSem.ClaimMapViews
import Derived.JoinedTies
import Derived.KernelRfl
namespace Go.Proofs.Ytpoggaflianeiaa
/- THE CELL 'sum', in the pinned program and in every row, IS THE sha256 OF THE DUMP (.gsa) THAT YtpoggaflianeiaaProg.lean LOADS. Nothing in Lean hashes anything: it is a label: what it is worth is what the hold of that sum in a sandbox is worth. -/
noncomputable def Try.pinned : Pinned := { name := "ytpoggaflianeiaa", sum := "bda4ff275e31862567d907b83ac393680ea7380e863430d49c1da41403c6dd4f", checked := Try.checked }
namespace Rows
def none {H : Type} : Left H := { results := [], args := [] }

/-- 'laws.FnExactConstants': WHATEVER THE INPUT: true; the input reads as it did. -/
def fnExactConstantsSpec : ChangeSpec := { name := "fnExactConstants", fn := fun _ => fun
  | [] => { results := [.lit (.bool true)], args := [] }
  | _ => none }
def fnExactConstantsRow : OpenClaim := { program := "ytpoggaflianeiaa", sum := "bda4ff275e31862567d907b83ac393680ea7380e863430d49c1da41403c6dd4f", func := "loop.example/g00451/laws.FnExactConstants", spec := "fnExactConstants", apart := false }
def FnExactConstantsSaid : Prop := fnExactConstantsRow.holds Try.pinned (OpenSpec.ofChange fnExactConstantsSpec)

/-- ITS FALSE NEIGHBOUR: 'it returns false'. Refute it at one input. -/
def fnExactConstantsWrong : ChangeSpec := { name := "fnExactConstants", fn := fun _ => fun
  | [] => { results := [.lit (.bool false)], args := [] }
  | _ => none }
def FnExactConstantsWrongFalsely : Prop := fnExactConstantsRow.holds Try.pinned (OpenSpec.ofChange fnExactConstantsWrong)

/-- 'laws.FnExactGoodFrac': WHATEVER THE INPUT: true; the input reads as it did. -/
def fnExactGoodFracSpec : ChangeSpec := { name := "fnExactGoodFrac", fn := fun _ => fun
  | [d] => { results := [.lit (.bool true)], args := [d] }
  | _ => none }
def fnExactGoodFracRow : OpenClaim := { program := "ytpoggaflianeiaa", sum := "bda4ff275e31862567d907b83ac393680ea7380e863430d49c1da41403c6dd4f", func := "loop.example/g00451/laws.FnExactGoodFrac", spec := "fnExactGoodFrac", apart := false }
def FnExactGoodFracSaid : Prop := fnExactGoodFracRow.holds Try.pinned (OpenSpec.ofChange fnExactGoodFracSpec)

/-- ITS FALSE NEIGHBOUR: 'it returns false'. Refute it at one input. -/
def fnExactGoodFracWrong : ChangeSpec := { name := "fnExactGoodFrac", fn := fun _ => fun
  | [d] => { results := [.lit (.bool false)], args := [d] }
  | _ => none }
def FnExactGoodFracWrongFalsely : Prop := fnExactGoodFracRow.holds Try.pinned (OpenSpec.ofChange fnExactGoodFracWrong)

/-- 'laws.FnExactRootOf': WHATEVER THE INPUT: true; the input reads as it did. -/
def fnExactRootOfSpec : ChangeSpec := { name := "fnExactRootOf", fn := fun _ => fun
  | [d] => { results := [.lit (.bool true)], args := [d] }
  | _ => none }
def fnExactRootOfRow : OpenClaim := { program := "ytpoggaflianeiaa", sum := "bda4ff275e31862567d907b83ac393680ea7380e863430d49c1da41403c6dd4f", func := "loop.example/g00451/laws.FnExactRootOf", spec := "fnExactRootOf", apart := false }
def FnExactRootOfSaid : Prop := fnExactRootOfRow.holds Try.pinned (OpenSpec.ofChange fnExactRootOfSpec)

/-- ITS FALSE NEIGHBOUR: 'it returns false'. Refute it at one input. -/
def fnExactRootOfWrong : ChangeSpec := { name := "fnExactRootOf", fn := fun _ => fun
  | [d] => { results := [.lit (.bool false)], args := [d] }
  | _ => none }
def FnExactRootOfWrongFalsely : Prop := fnExactRootOfRow.holds Try.pinned (OpenSpec.ofChange fnExactRootOfWrong)

/-- 'laws.FnExactIsSquare': WHATEVER THE INPUT: true; the input reads as it did. -/
def fnExactIsSquareSpec : ChangeSpec := { name := "fnExactIsSquare", fn := fun _ => fun
  | [d] => { results := [.lit (.bool true)], args := [d] }
  | _ => none }
def fnExactIsSquareRow : OpenClaim := { program := "ytpoggaflianeiaa", sum := "bda4ff275e31862567d907b83ac393680ea7380e863430d49c1da41403c6dd4f", func := "loop.example/g00451/laws.FnExactIsSquare", spec := "fnExactIsSquare", apart := false }
def FnExactIsSquareSaid : Prop := fnExactIsSquareRow.holds Try.pinned (OpenSpec.ofChange fnExactIsSquareSpec)

/-- ITS FALSE NEIGHBOUR: 'it returns false'. Refute it at one input. -/
def fnExactIsSquareWrong : ChangeSpec := { name := "fnExactIsSquare", fn := fun _ => fun
  | [d] => { results := [.lit (.bool false)], args := [d] }
  | _ => none }
def FnExactIsSquareWrongFalsely : Prop := fnExactIsSquareRow.holds Try.pinned (OpenSpec.ofChange fnExactIsSquareWrong)

/-- 'laws.FnExactGoodKinds': WHATEVER THE INPUT: true; the input reads as it did. -/
def fnExactGoodKindsSpec : ChangeSpec := { name := "fnExactGoodKinds", fn := fun _ => fun
  | [d1, d2] => { results := [.lit (.bool true)], args := [d1, d2] }
  | _ => none }
def fnExactGoodKindsRow : OpenClaim := { program := "ytpoggaflianeiaa", sum := "bda4ff275e31862567d907b83ac393680ea7380e863430d49c1da41403c6dd4f", func := "loop.example/g00451/laws.FnExactGoodKinds", spec := "fnExactGoodKinds", unfollowed := true, recurses := true, apart := false }
def FnExactGoodKindsSaid : Prop := fnExactGoodKindsRow.holds Try.pinned (OpenSpec.ofChange fnExactGoodKindsSpec)

/-- ITS FALSE NEIGHBOUR: 'it returns false'. Refute it at one input. -/
def fnExactGoodKindsWrong : ChangeSpec := { name := "fnExactGoodKinds", fn := fun _ => fun
  | [d1, d2] => { results := [.lit (.bool false)], args := [d1, d2] }
  | _ => none }
def FnExactGoodKindsWrongFalsely : Prop := fnExactGoodKindsRow.holds Try.pinned (OpenSpec.ofChange fnExactGoodKindsWrong)

/-- 'laws.FnExactFloorFrac': WHATEVER THE INPUT: true; the input reads as it did. -/
def fnExactFloorFracSpec : ChangeSpec := { name := "fnExactFloorFrac", fn := fun _ => fun
  | [d] => { results := [.lit (.bool true)], args := [d] }
  | _ => none }
def fnExactFloorFracRow : OpenClaim := { program := "ytpoggaflianeiaa", sum := "bda4ff275e31862567d907b83ac393680ea7380e863430d49c1da41403c6dd4f", func := "loop.example/g00451/laws.FnExactFloorFrac", spec := "fnExactFloorFrac", apart := false }
def FnExactFloorFracSaid : Prop := fnExactFloorFracRow.holds Try.pinned (OpenSpec.ofChange fnExactFloorFracSpec)

/-- ITS FALSE NEIGHBOUR: 'it returns false'. Refute it at one input. -/
def fnExactFloorFracWrong : ChangeSpec := { name := "fnExactFloorFrac", fn := fun _ => fun
  | [d] => { results := [.lit (.bool false)], args := [d] }
  | _ => none }
def FnExactFloorFracWrongFalsely : Prop := fnExactFloorFracRow.holds Try.pinned (OpenSpec.ofChange fnExactFloorFracWrong)

/-- 'laws.FnExactSmithCost': WHATEVER THE INPUT: true; the input reads as it did. -/
def fnExactSmithCostSpec : ChangeSpec := { name := "fnExactSmithCost", fn := fun _ => fun
  | [d1, d2] => { results := [.lit (.bool true)], args := [d1, d2] }
  | _ => none }
def fnExactSmithCostRow : OpenClaim := { program := "ytpoggaflianeiaa", sum := "bda4ff275e31862567d907b83ac393680ea7380e863430d49c1da41403c6dd4f", func := "loop.example/g00451/laws.FnExactSmithCost", spec := "fnExactSmithCost", unfollowed := true, recurses := true, apart := false }
def FnExactSmithCostSaid : Prop := fnExactSmithCostRow.holds Try.pinned (OpenSpec.ofChange fnExactSmithCostSpec)

/-- ITS FALSE NEIGHBOUR: 'it returns false'. Refute it at one input. -/
def fnExactSmithCostWrong : ChangeSpec := { name := "fnExactSmithCost", fn := fun _ => fun
  | [d1, d2] => { results := [.lit (.bool false)], args := [d1, d2] }
  | _ => none }
def FnExactSmithCostWrongFalsely : Prop := fnExactSmithCostRow.holds Try.pinned (OpenSpec.ofChange fnExactSmithCostWrong)

/-- 'laws.FnExactFracOf': WHATEVER THE INPUT: true; the input reads as it did. -/
def fnExactFracOfSpec : ChangeSpec := { name := "fnExactFracOf", fn := fun _ => fun
  | [d1, d2] => { results := [.lit (.bool true)], args := [d1, d2] }
  | _ => none }
def fnExactFracOfRow : OpenClaim := { program := "ytpoggaflianeiaa", sum := "bda4ff275e31862567d907b83ac393680ea7380e863430d49c1da41403c6dd4f", func := "loop.example/g00451/laws.FnExactFracOf", spec := "fnExactFracOf", apart := false }
def FnExactFracOfSaid : Prop := fnExactFracOfRow.holds Try.pinned (OpenSpec.ofChange fnExactFracOfSpec)

/-- ITS FALSE NEIGHBOUR: 'it returns false'. Refute it at one input. -/
def fnExactFracOfWrong : ChangeSpec := { name := "fnExactFracOf", fn := fun _ => fun
  | [d1, d2] => { results := [.lit (.bool false)], args := [d1, d2] }
  | _ => none }
def FnExactFracOfWrongFalsely : Prop := fnExactFracOfRow.holds Try.pinned (OpenSpec.ofChange fnExactFracOfWrong)

/-- 'laws.FnExactPairCost': WHATEVER THE INPUT: true; the input reads as it did. -/
def fnExactPairCostSpec : ChangeSpec := { name := "fnExactPairCost", fn := fun _ => fun
  | [d1, d2] => { results := [.lit (.bool true)], args := [d1, d2] }
  | _ => none }
def fnExactPairCostRow : OpenClaim := { program := "ytpoggaflianeiaa", sum := "bda4ff275e31862567d907b83ac393680ea7380e863430d49c1da41403c6dd4f", func := "loop.example/g00451/laws.FnExactPairCost", spec := "fnExactPairCost", unfollowed := true, recurses := true, apart := false }
def FnExactPairCostSaid : Prop := fnExactPairCostRow.holds Try.pinned (OpenSpec.ofChange fnExactPairCostSpec)

/-- ITS FALSE NEIGHBOUR: 'it returns false'. Refute it at one input. -/
def fnExactPairCostWrong : ChangeSpec := { name := "fnExactPairCost", fn := fun _ => fun
  | [d1, d2] => { results := [.lit (.bool false)], args := [d1, d2] }
  | _ => none }
def FnExactPairCostWrongFalsely : Prop := fnExactPairCostRow.holds Try.pinned (OpenSpec.ofChange fnExactPairCostWrong)

/-- 'laws.FnExactCountIn': WHATEVER THE INPUT: true; the input reads as it did. -/
def fnExactCountInSpec : ChangeSpec := { name := "fnExactCountIn", fn := fun _ => fun
  | [d] => { results := [.lit (.bool true)], args := [d] }
  | _ => none }
def fnExactCountInRow : OpenClaim := { program := "ytpoggaflianeiaa", sum := "bda4ff275e31862567d907b83ac393680ea7380e863430d49c1da41403c6dd4f", func := "loop.example/g00451/laws.FnExactCountIn", spec := "fnExactCountIn", unfollowed := true, recurses := true, apart := false }
def FnExactCountInSaid : Prop := fnExactCountInRow.holds Try.pinned (OpenSpec.ofChange fnExactCountInSpec)

/-- ITS FALSE NEIGHBOUR: 'it returns false'. Refute it at one input. -/
def fnExactCountInWrong : ChangeSpec := { name := "fnExactCountIn", fn := fun _ => fun
  | [d] => { results := [.lit (.bool false)], args := [d] }
  | _ => none }
def FnExactCountInWrongFalsely : Prop := fnExactCountInRow.holds Try.pinned (OpenSpec.ofChange fnExactCountInWrong)

/-- 'laws.FnExactLessFrac': WHATEVER THE INPUT: true; the input reads as it did. -/
def fnExactLessFracSpec : ChangeSpec := { name := "fnExactLessFrac", fn := fun _ => fun
  | [d1, d2] => { results := [.lit (.bool true)], args := [d1, d2] }
  | _ => none }
def fnExactLessFracRow : OpenClaim := { program := "ytpoggaflianeiaa", sum := "bda4ff275e31862567d907b83ac393680ea7380e863430d49c1da41403c6dd4f", func := "loop.example/g00451/laws.FnExactLessFrac", spec := "fnExactLessFrac", unfollowed := true, recurses := true, apart := false }
def FnExactLessFracSaid : Prop := fnExactLessFracRow.holds Try.pinned (OpenSpec.ofChange fnExactLessFracSpec)

/-- ITS FALSE NEIGHBOUR: 'it returns false'. Refute it at one input. -/
def fnExactLessFracWrong : ChangeSpec := { name := "fnExactLessFrac", fn := fun _ => fun
  | [d1, d2] => { results := [.lit (.bool false)], args := [d1, d2] }
  | _ => none }
def FnExactLessFracWrongFalsely : Prop := fnExactLessFracRow.holds Try.pinned (OpenSpec.ofChange fnExactLessFracWrong)

/-- 'laws.FnExactGoodBounds': WHATEVER THE INPUT: true; the input reads as it did. -/
def fnExactGoodBoundsSpec : ChangeSpec := { name := "fnExactGoodBounds", fn := fun _ => fun
  | [d] => { results := [.lit (.bool true)], args := [d] }
  | _ => none }
def fnExactGoodBoundsRow : OpenClaim := { program := "ytpoggaflianeiaa", sum := "bda4ff275e31862567d907b83ac393680ea7380e863430d49c1da41403c6dd4f", func := "loop.example/g00451/laws.FnExactGoodBounds", spec := "fnExactGoodBounds", unfollowed := true, recurses := true, apart := false }
def FnExactGoodBoundsSaid : Prop := fnExactGoodBoundsRow.holds Try.pinned (OpenSpec.ofChange fnExactGoodBoundsSpec)

/-- ITS FALSE NEIGHBOUR: 'it returns false'. Refute it at one input. -/
def fnExactGoodBoundsWrong : ChangeSpec := { name := "fnExactGoodBounds", fn := fun _ => fun
  | [d] => { results := [.lit (.bool false)], args := [d] }
  | _ => none }
def FnExactGoodBoundsWrongFalsely : Prop := fnExactGoodBoundsRow.holds Try.pinned (OpenSpec.ofChange fnExactGoodBoundsWrong)

/- THE SECOND FORM. 'bulk': how many values and letters a reading holds, each counted each time it is reached (what is shared counts as often as it is met; a slice's spare places count too). A statement '..UptoSaid' is the law's where the arguments, and the package variables that the reading takes, are together of bulk at most 1048576: NARROWER than '..Said'. Prove '..Said' where nothing that the law and all that it calls make is longer than what came in: it says more and counts as full. Else prove '..UptoSaid'. A law counts once. -/
mutual
def uptoBulk {H : Type} : DataW H → Nat
  | .lit (.string bytes) => bytes.length + 1
  | .lit _ => 1
  | .nil => 1
  | .ptr d => uptoBulk d + 1
  | .slice elems spare => uptoBulkAll elems + uptoBulkAll spare + 1
  | .agg parts => uptoBulkAll parts + 1
  | .iface _ d => uptoBulk d + 1
  | .map entries => uptoBulkEntries entries + 1
  | .held _ => 1
def uptoBulkAll {H : Type} : List (DataW H) → Nat
  | [] => 0
  | d :: r => uptoBulk d + uptoBulkAll r
def uptoBulkEntries {H : Type} : List (Lit × DataW H) → Nat
  | [] => 0
  | x :: r => uptoBulkEntry x + uptoBulkEntries r
def uptoBulkEntry {H : Type} : Lit × DataW H → Nat
  | (.string bytes, d) => bytes.length + uptoBulk d + 1
  | (_, d) => uptoBulk d + 1
 end
def uptoSmall : (H : Type) → List (DataW H) → Bool := fun _ ds => decide (uptoBulkAll ds ≤ 1048576)
def OpenSpec.upto (s : _root_.Go.ChangeSpec) : _root_.Go.OpenSpec := { _root_.Go.OpenSpec.ofChange s with cond := some uptoSmall }

/-- 'laws.FnExactConstants', WHERE WHAT IT READS IS OF BULK AT MOST 1048576: true; the input reads as it did. -/
def fnExactConstantsUptoRow : OpenClaim := { program := "ytpoggaflianeiaa", sum := "bda4ff275e31862567d907b83ac393680ea7380e863430d49c1da41403c6dd4f", func := "loop.example/g00451/laws.FnExactConstants", spec := "fnExactConstants", apart := false, narrowed := true }
def FnExactConstantsUptoSaid : Prop := fnExactConstantsUptoRow.holds Try.pinned (OpenSpec.upto fnExactConstantsSpec)

/-- 'laws.FnExactGoodFrac', WHERE WHAT IT READS IS OF BULK AT MOST 1048576: true; the input reads as it did. -/
def fnExactGoodFracUptoRow : OpenClaim := { program := "ytpoggaflianeiaa", sum := "bda4ff275e31862567d907b83ac393680ea7380e863430d49c1da41403c6dd4f", func := "loop.example/g00451/laws.FnExactGoodFrac", spec := "fnExactGoodFrac", apart := false, narrowed := true }
def FnExactGoodFracUptoSaid : Prop := fnExactGoodFracUptoRow.holds Try.pinned (OpenSpec.upto fnExactGoodFracSpec)

/-- 'laws.FnExactRootOf', WHERE WHAT IT READS IS OF BULK AT MOST 1048576: true; the input reads as it did. -/
def fnExactRootOfUptoRow : OpenClaim := { program := "ytpoggaflianeiaa", sum := "bda4ff275e31862567d907b83ac393680ea7380e863430d49c1da41403c6dd4f", func := "loop.example/g00451/laws.FnExactRootOf", spec := "fnExactRootOf", apart := false, narrowed := true }
def FnExactRootOfUptoSaid : Prop := fnExactRootOfUptoRow.holds Try.pinned (OpenSpec.upto fnExactRootOfSpec)

/-- 'laws.FnExactIsSquare', WHERE WHAT IT READS IS OF BULK AT MOST 1048576: true; the input reads as it did. -/
def fnExactIsSquareUptoRow : OpenClaim := { program := "ytpoggaflianeiaa", sum := "bda4ff275e31862567d907b83ac393680ea7380e863430d49c1da41403c6dd4f", func := "loop.example/g00451/laws.FnExactIsSquare", spec := "fnExactIsSquare", apart := false, narrowed := true }
def FnExactIsSquareUptoSaid : Prop := fnExactIsSquareUptoRow.holds Try.pinned (OpenSpec.upto fnExactIsSquareSpec)

/-- 'laws.FnExactGoodKinds', WHERE WHAT IT READS IS OF BULK AT MOST 1048576: true; the input reads as it did. -/
def fnExactGoodKindsUptoRow : OpenClaim := { program := "ytpoggaflianeiaa", sum := "bda4ff275e31862567d907b83ac393680ea7380e863430d49c1da41403c6dd4f", func := "loop.example/g00451/laws.FnExactGoodKinds", spec := "fnExactGoodKinds", unfollowed := true, recurses := true, apart := false, narrowed := true }
def FnExactGoodKindsUptoSaid : Prop := fnExactGoodKindsUptoRow.holds Try.pinned (OpenSpec.upto fnExactGoodKindsSpec)

/-- 'laws.FnExactFloorFrac', WHERE WHAT IT READS IS OF BULK AT MOST 1048576: true; the input reads as it did. -/
def fnExactFloorFracUptoRow : OpenClaim := { program := "ytpoggaflianeiaa", sum := "bda4ff275e31862567d907b83ac393680ea7380e863430d49c1da41403c6dd4f", func := "loop.example/g00451/laws.FnExactFloorFrac", spec := "fnExactFloorFrac", apart := false, narrowed := true }
def FnExactFloorFracUptoSaid : Prop := fnExactFloorFracUptoRow.holds Try.pinned (OpenSpec.upto fnExactFloorFracSpec)

/-- 'laws.FnExactSmithCost', WHERE WHAT IT READS IS OF BULK AT MOST 1048576: true; the input reads as it did. -/
def fnExactSmithCostUptoRow : OpenClaim := { program := "ytpoggaflianeiaa", sum := "bda4ff275e31862567d907b83ac393680ea7380e863430d49c1da41403c6dd4f", func := "loop.example/g00451/laws.FnExactSmithCost", spec := "fnExactSmithCost", unfollowed := true, recurses := true, apart := false, narrowed := true }
def FnExactSmithCostUptoSaid : Prop := fnExactSmithCostUptoRow.holds Try.pinned (OpenSpec.upto fnExactSmithCostSpec)

/-- 'laws.FnExactFracOf', WHERE WHAT IT READS IS OF BULK AT MOST 1048576: true; the input reads as it did. -/
def fnExactFracOfUptoRow : OpenClaim := { program := "ytpoggaflianeiaa", sum := "bda4ff275e31862567d907b83ac393680ea7380e863430d49c1da41403c6dd4f", func := "loop.example/g00451/laws.FnExactFracOf", spec := "fnExactFracOf", apart := false, narrowed := true }
def FnExactFracOfUptoSaid : Prop := fnExactFracOfUptoRow.holds Try.pinned (OpenSpec.upto fnExactFracOfSpec)

/-- 'laws.FnExactPairCost', WHERE WHAT IT READS IS OF BULK AT MOST 1048576: true; the input reads as it did. -/
def fnExactPairCostUptoRow : OpenClaim := { program := "ytpoggaflianeiaa", sum := "bda4ff275e31862567d907b83ac393680ea7380e863430d49c1da41403c6dd4f", func := "loop.example/g00451/laws.FnExactPairCost", spec := "fnExactPairCost", unfollowed := true, recurses := true, apart := false, narrowed := true }
def FnExactPairCostUptoSaid : Prop := fnExactPairCostUptoRow.holds Try.pinned (OpenSpec.upto fnExactPairCostSpec)

/-- 'laws.FnExactCountIn', WHERE WHAT IT READS IS OF BULK AT MOST 1048576: true; the input reads as it did. -/
def fnExactCountInUptoRow : OpenClaim := { program := "ytpoggaflianeiaa", sum := "bda4ff275e31862567d907b83ac393680ea7380e863430d49c1da41403c6dd4f", func := "loop.example/g00451/laws.FnExactCountIn", spec := "fnExactCountIn", unfollowed := true, recurses := true, apart := false, narrowed := true }
def FnExactCountInUptoSaid : Prop := fnExactCountInUptoRow.holds Try.pinned (OpenSpec.upto fnExactCountInSpec)

/-- 'laws.FnExactLessFrac', WHERE WHAT IT READS IS OF BULK AT MOST 1048576: true; the input reads as it did. -/
def fnExactLessFracUptoRow : OpenClaim := { program := "ytpoggaflianeiaa", sum := "bda4ff275e31862567d907b83ac393680ea7380e863430d49c1da41403c6dd4f", func := "loop.example/g00451/laws.FnExactLessFrac", spec := "fnExactLessFrac", unfollowed := true, recurses := true, apart := false, narrowed := true }
def FnExactLessFracUptoSaid : Prop := fnExactLessFracUptoRow.holds Try.pinned (OpenSpec.upto fnExactLessFracSpec)

/-- 'laws.FnExactGoodBounds', WHERE WHAT IT READS IS OF BULK AT MOST 1048576: true; the input reads as it did. -/
def fnExactGoodBoundsUptoRow : OpenClaim := { program := "ytpoggaflianeiaa", sum := "bda4ff275e31862567d907b83ac393680ea7380e863430d49c1da41403c6dd4f", func := "loop.example/g00451/laws.FnExactGoodBounds", spec := "fnExactGoodBounds", unfollowed := true, recurses := true, apart := false, narrowed := true }
def FnExactGoodBoundsUptoSaid : Prop := fnExactGoodBoundsUptoRow.holds Try.pinned (OpenSpec.upto fnExactGoodBoundsSpec)

end Rows
end Go.Proofs.Ytpoggaflianeiaa
