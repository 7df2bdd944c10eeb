/-
  No cell of these rows narrows 'for every input' (looked for: loops, veiled, ifaces, maps, wideKeys, modest, calm, conditions, laid).
  DERIVED. THE GIVEN ROWS OF THIS SEAT. 11 by the template 'for every input the law returns true; each argument reads behind the call as it read before'; 0 by the template 'total and deterministic' (their statements: YteajedaijnghbaaTotals.lean).
  GIVEN WITH THE SEED: the statements are not yours to turn. If you find one false, say at which input.
  Laid BY PROGRAM, IN A SANDBOX (cutbox-rows.mjs): the forced cells as the released guide's own fill.sh prints them over the translation 3af8aea6cc2f62b3… (all of the seat's roots in one cut). By AI agents, Wed Nov 11 2026. No macro, syntax, notation, axiom, sorry.
-/
import Derived.Test.YteajedaijnghbaaChecked
import GoSem.Claim
import GoSem.ClaimJoined
import GoSem.ClaimMapViews
import Derived.JoinedTies
import Derived.KernelRfl
namespace Go.Proofs.Yteajedaijnghbaa
/- THE CELL 'sum', in the pinned program and in every row, IS THE sha256 OF THE DUMP (.gsa) THAT YteajedaijnghbaaProg.lean LOADS. Nothing in Lean hashes anything: it is a label: what it is worth is what the hold of that sum in a sandbox is worth. -/
noncomputable def Try.pinned : Pinned := { name := "yteajedaijnghbaa", sum := "3af8aea6cc2f62b35f4647653592b384fbd47d518a07733a6cb1c12db808a793", checked := Try.checked }
namespace Rows
def none {H : Type} : Left H := { results := [], args := [] }

/-- 'laws.FnExactGoodFits': WHATEVER THE INPUT: true; the input reads as it did. -/
def fnExactGoodFitsSpec : ChangeSpec := { name := "fnExactGoodFits", fn := fun _ => fun
  | [d] => { results := [.lit (.bool true)], args := [d] }
  | _ => none }
def fnExactGoodFitsRow : OpenClaim := { program := "yteajedaijnghbaa", sum := "3af8aea6cc2f62b35f4647653592b384fbd47d518a07733a6cb1c12db808a793", func := "loop.example/g00451/laws.FnExactGoodFits", spec := "fnExactGoodFits", unfollowed := true, recurses := true, apart := false }
def FnExactGoodFitsSaid : Prop := fnExactGoodFitsRow.holds Try.pinned (OpenSpec.ofChange fnExactGoodFitsSpec)

/-- ITS FALSE NEIGHBOUR: 'it returns false'. Refute it at one input. -/
def fnExactGoodFitsWrong : ChangeSpec := { name := "fnExactGoodFits", fn := fun _ => fun
  | [d] => { results := [.lit (.bool false)], args := [d] }
  | _ => none }
def FnExactGoodFitsWrongFalsely : Prop := fnExactGoodFitsRow.holds Try.pinned (OpenSpec.ofChange fnExactGoodFitsWrong)

/-- 'laws.FnExactEqualParts': WHATEVER THE INPUT: true; the input reads as it did. -/
def fnExactEqualPartsSpec : ChangeSpec := { name := "fnExactEqualParts", fn := fun _ => fun
  | [d1, d2] => { results := [.lit (.bool true)], args := [d1, d2] }
  | _ => none }
def fnExactEqualPartsRow : OpenClaim := { program := "yteajedaijnghbaa", sum := "3af8aea6cc2f62b35f4647653592b384fbd47d518a07733a6cb1c12db808a793", func := "loop.example/g00451/laws.FnExactEqualParts", spec := "fnExactEqualParts", unfollowed := true, recurses := true, apart := false }
def FnExactEqualPartsSaid : Prop := fnExactEqualPartsRow.holds Try.pinned (OpenSpec.ofChange fnExactEqualPartsSpec)

/-- ITS FALSE NEIGHBOUR: 'it returns false'. Refute it at one input. -/
def fnExactEqualPartsWrong : ChangeSpec := { name := "fnExactEqualParts", fn := fun _ => fun
  | [d1, d2] => { results := [.lit (.bool false)], args := [d1, d2] }
  | _ => none }
def FnExactEqualPartsWrongFalsely : Prop := fnExactEqualPartsRow.holds Try.pinned (OpenSpec.ofChange fnExactEqualPartsWrong)

/-- 'laws.FnExactIsWithin': WHATEVER THE INPUT: true; the input reads as it did. -/
def fnExactIsWithinSpec : ChangeSpec := { name := "fnExactIsWithin", fn := fun _ => fun
  | [d1, d2] => { results := [.lit (.bool true)], args := [d1, d2] }
  | _ => none }
def fnExactIsWithinRow : OpenClaim := { program := "yteajedaijnghbaa", sum := "3af8aea6cc2f62b35f4647653592b384fbd47d518a07733a6cb1c12db808a793", func := "loop.example/g00451/laws.FnExactIsWithin", spec := "fnExactIsWithin", unfollowed := true, recurses := true, apart := false }
def FnExactIsWithinSaid : Prop := fnExactIsWithinRow.holds Try.pinned (OpenSpec.ofChange fnExactIsWithinSpec)

/-- ITS FALSE NEIGHBOUR: 'it returns false'. Refute it at one input. -/
def fnExactIsWithinWrong : ChangeSpec := { name := "fnExactIsWithin", fn := fun _ => fun
  | [d1, d2] => { results := [.lit (.bool false)], args := [d1, d2] }
  | _ => none }
def FnExactIsWithinWrongFalsely : Prop := fnExactIsWithinRow.holds Try.pinned (OpenSpec.ofChange fnExactIsWithinWrong)

/-- 'laws.FnExactGoodProfile': WHATEVER THE INPUT: true; the input reads as it did. -/
def fnExactGoodProfileSpec : ChangeSpec := { name := "fnExactGoodProfile", fn := fun _ => fun
  | [d] => { results := [.lit (.bool true)], args := [d] }
  | _ => none }
def fnExactGoodProfileRow : OpenClaim := { program := "yteajedaijnghbaa", sum := "3af8aea6cc2f62b35f4647653592b384fbd47d518a07733a6cb1c12db808a793", func := "loop.example/g00451/laws.FnExactGoodProfile", spec := "fnExactGoodProfile", unfollowed := true, recurses := true, apart := false }
def FnExactGoodProfileSaid : Prop := fnExactGoodProfileRow.holds Try.pinned (OpenSpec.ofChange fnExactGoodProfileSpec)

/-- ITS FALSE NEIGHBOUR: 'it returns false'. Refute it at one input. -/
def fnExactGoodProfileWrong : ChangeSpec := { name := "fnExactGoodProfile", fn := fun _ => fun
  | [d] => { results := [.lit (.bool false)], args := [d] }
  | _ => none }
def FnExactGoodProfileWrongFalsely : Prop := fnExactGoodProfileRow.holds Try.pinned (OpenSpec.ofChange fnExactGoodProfileWrong)

/-- 'laws.FnExactDivFrac': WHATEVER THE INPUT: true; the input reads as it did. -/
def fnExactDivFracSpec : ChangeSpec := { name := "fnExactDivFrac", fn := fun _ => fun
  | [d1, d2] => { results := [.lit (.bool true)], args := [d1, d2] }
  | _ => none }
def fnExactDivFracRow : OpenClaim := { program := "yteajedaijnghbaa", sum := "3af8aea6cc2f62b35f4647653592b384fbd47d518a07733a6cb1c12db808a793", func := "loop.example/g00451/laws.FnExactDivFrac", spec := "fnExactDivFrac", unfollowed := true, recurses := true, apart := false }
def FnExactDivFracSaid : Prop := fnExactDivFracRow.holds Try.pinned (OpenSpec.ofChange fnExactDivFracSpec)

/-- ITS FALSE NEIGHBOUR: 'it returns false'. Refute it at one input. -/
def fnExactDivFracWrong : ChangeSpec := { name := "fnExactDivFrac", fn := fun _ => fun
  | [d1, d2] => { results := [.lit (.bool false)], args := [d1, d2] }
  | _ => none }
def FnExactDivFracWrongFalsely : Prop := fnExactDivFracRow.holds Try.pinned (OpenSpec.ofChange fnExactDivFracWrong)

/-- 'laws.FnExactOrderFor': WHATEVER THE INPUT: true; the input reads as it did. -/
def fnExactOrderForSpec : ChangeSpec := { name := "fnExactOrderFor", fn := fun _ => fun
  | [d1, d2] => { results := [.lit (.bool true)], args := [d1, d2] }
  | _ => none }
def fnExactOrderForRow : OpenClaim := { program := "yteajedaijnghbaa", sum := "3af8aea6cc2f62b35f4647653592b384fbd47d518a07733a6cb1c12db808a793", func := "loop.example/g00451/laws.FnExactOrderFor", spec := "fnExactOrderFor", unfollowed := true, recurses := true, apart := false }
def FnExactOrderForSaid : Prop := fnExactOrderForRow.holds Try.pinned (OpenSpec.ofChange fnExactOrderForSpec)

/-- ITS FALSE NEIGHBOUR: 'it returns false'. Refute it at one input. -/
def fnExactOrderForWrong : ChangeSpec := { name := "fnExactOrderFor", fn := fun _ => fun
  | [d1, d2] => { results := [.lit (.bool false)], args := [d1, d2] }
  | _ => none }
def FnExactOrderForWrongFalsely : Prop := fnExactOrderForRow.holds Try.pinned (OpenSpec.ofChange fnExactOrderForWrong)

/-- 'laws.FnExactMulFrac': WHATEVER THE INPUT: true; the input reads as it did. -/
def fnExactMulFracSpec : ChangeSpec := { name := "fnExactMulFrac", fn := fun _ => fun
  | [d1, d2] => { results := [.lit (.bool true)], args := [d1, d2] }
  | _ => none }
def fnExactMulFracRow : OpenClaim := { program := "yteajedaijnghbaa", sum := "3af8aea6cc2f62b35f4647653592b384fbd47d518a07733a6cb1c12db808a793", func := "loop.example/g00451/laws.FnExactMulFrac", spec := "fnExactMulFrac", unfollowed := true, recurses := true, apart := false }
def FnExactMulFracSaid : Prop := fnExactMulFracRow.holds Try.pinned (OpenSpec.ofChange fnExactMulFracSpec)

/-- ITS FALSE NEIGHBOUR: 'it returns false'. Refute it at one input. -/
def fnExactMulFracWrong : ChangeSpec := { name := "fnExactMulFrac", fn := fun _ => fun
  | [d1, d2] => { results := [.lit (.bool false)], args := [d1, d2] }
  | _ => none }
def FnExactMulFracWrongFalsely : Prop := fnExactMulFracRow.holds Try.pinned (OpenSpec.ofChange fnExactMulFracWrong)

/-- 'laws.FnExactAddFrac': WHATEVER THE INPUT: true; the input reads as it did. -/
def fnExactAddFracSpec : ChangeSpec := { name := "fnExactAddFrac", fn := fun _ => fun
  | [d1, d2] => { results := [.lit (.bool true)], args := [d1, d2] }
  | _ => none }
def fnExactAddFracRow : OpenClaim := { program := "yteajedaijnghbaa", sum := "3af8aea6cc2f62b35f4647653592b384fbd47d518a07733a6cb1c12db808a793", func := "loop.example/g00451/laws.FnExactAddFrac", spec := "fnExactAddFrac", unfollowed := true, recurses := true, apart := false }
def FnExactAddFracSaid : Prop := fnExactAddFracRow.holds Try.pinned (OpenSpec.ofChange fnExactAddFracSpec)

/-- ITS FALSE NEIGHBOUR: 'it returns false'. Refute it at one input. -/
def fnExactAddFracWrong : ChangeSpec := { name := "fnExactAddFrac", fn := fun _ => fun
  | [d1, d2] => { results := [.lit (.bool false)], args := [d1, d2] }
  | _ => none }
def FnExactAddFracWrongFalsely : Prop := fnExactAddFracRow.holds Try.pinned (OpenSpec.ofChange fnExactAddFracWrong)

/-- 'laws.FnExactSubFrac': WHATEVER THE INPUT: true; the input reads as it did. -/
def fnExactSubFracSpec : ChangeSpec := { name := "fnExactSubFrac", fn := fun _ => fun
  | [d1, d2] => { results := [.lit (.bool true)], args := [d1, d2] }
  | _ => none }
def fnExactSubFracRow : OpenClaim := { program := "yteajedaijnghbaa", sum := "3af8aea6cc2f62b35f4647653592b384fbd47d518a07733a6cb1c12db808a793", func := "loop.example/g00451/laws.FnExactSubFrac", spec := "fnExactSubFrac", unfollowed := true, recurses := true, apart := false }
def FnExactSubFracSaid : Prop := fnExactSubFracRow.holds Try.pinned (OpenSpec.ofChange fnExactSubFracSpec)

/-- ITS FALSE NEIGHBOUR: 'it returns false'. Refute it at one input. -/
def fnExactSubFracWrong : ChangeSpec := { name := "fnExactSubFrac", fn := fun _ => fun
  | [d1, d2] => { results := [.lit (.bool false)], args := [d1, d2] }
  | _ => none }
def FnExactSubFracWrongFalsely : Prop := fnExactSubFracRow.holds Try.pinned (OpenSpec.ofChange fnExactSubFracWrong)

/-- 'laws.FnExactGainsOf': WHATEVER THE INPUT: true; the input reads as it did. -/
def fnExactGainsOfSpec : ChangeSpec := { name := "fnExactGainsOf", fn := fun _ => fun
  | [d1, d2, d3, d4] => { results := [.lit (.bool true)], args := [d1, d2, d3, d4] }
  | _ => none }
def fnExactGainsOfRow : OpenClaim := { program := "yteajedaijnghbaa", sum := "3af8aea6cc2f62b35f4647653592b384fbd47d518a07733a6cb1c12db808a793", func := "loop.example/g00451/laws.FnExactGainsOf", spec := "fnExactGainsOf", unfollowed := true, recurses := true, apart := false }
def FnExactGainsOfSaid : Prop := fnExactGainsOfRow.holds Try.pinned (OpenSpec.ofChange fnExactGainsOfSpec)

/-- ITS FALSE NEIGHBOUR: 'it returns false'. Refute it at one input. -/
def fnExactGainsOfWrong : ChangeSpec := { name := "fnExactGainsOf", fn := fun _ => fun
  | [d1, d2, d3, d4] => { results := [.lit (.bool false)], args := [d1, d2, d3, d4] }
  | _ => none }
def FnExactGainsOfWrongFalsely : Prop := fnExactGainsOfRow.holds Try.pinned (OpenSpec.ofChange fnExactGainsOfWrong)

/-- 'laws.FnExactTimeParts': WHATEVER THE INPUT: true; the input reads as it did. -/
def fnExactTimePartsSpec : ChangeSpec := { name := "fnExactTimeParts", fn := fun _ => fun
  | [d1, d2] => { results := [.lit (.bool true)], args := [d1, d2] }
  | _ => none }
def fnExactTimePartsRow : OpenClaim := { program := "yteajedaijnghbaa", sum := "3af8aea6cc2f62b35f4647653592b384fbd47d518a07733a6cb1c12db808a793", func := "loop.example/g00451/laws.FnExactTimeParts", spec := "fnExactTimeParts", unfollowed := true, recurses := true, apart := false }
def FnExactTimePartsSaid : Prop := fnExactTimePartsRow.holds Try.pinned (OpenSpec.ofChange fnExactTimePartsSpec)

/-- ITS FALSE NEIGHBOUR: 'it returns false'. Refute it at one input. -/
def fnExactTimePartsWrong : ChangeSpec := { name := "fnExactTimeParts", fn := fun _ => fun
  | [d1, d2] => { results := [.lit (.bool false)], args := [d1, d2] }
  | _ => none }
def FnExactTimePartsWrongFalsely : Prop := fnExactTimePartsRow.holds Try.pinned (OpenSpec.ofChange fnExactTimePartsWrong)

/- THE SECOND FORM. 'bulk': how many values and letters a reading holds, each counted each time it is reached (what is shared counts as often as it is met; a slice's spare places count too). A statement '..UptoSaid' is the law's where the arguments, and the package variables that the reading takes, are together of bulk at most 1048576: NARROWER than '..Said'. Prove '..Said' where nothing that the law and all that it calls make is longer than what came in: it says more and counts as full. Else prove '..UptoSaid'. A law counts once. -/
mutual
def uptoBulk {H : Type} : DataW H → Nat
  | .lit (.string bytes) => bytes.length + 1
  | .lit _ => 1
  | .nil => 1
  | .ptr d => uptoBulk d + 1
  | .slice elems spare => uptoBulkAll elems + uptoBulkAll spare + 1
  | .agg parts => uptoBulkAll parts + 1
  | .iface _ d => uptoBulk d + 1
  | .map entries => uptoBulkEntries entries + 1
  | .held _ => 1
def uptoBulkAll {H : Type} : List (DataW H) → Nat
  | [] => 0
  | d :: r => uptoBulk d + uptoBulkAll r
def uptoBulkEntries {H : Type} : List (Lit × DataW H) → Nat
  | [] => 0
  | x :: r => uptoBulkEntry x + uptoBulkEntries r
def uptoBulkEntry {H : Type} : Lit × DataW H → Nat
  | (.string bytes, d) => bytes.length + uptoBulk d + 1
  | (_, d) => uptoBulk d + 1
 end
def uptoSmall : (H : Type) → List (DataW H) → Bool := fun _ ds => decide (uptoBulkAll ds ≤ 1048576)
def OpenSpec.upto (s : _root_.Go.ChangeSpec) : _root_.Go.OpenSpec := { _root_.Go.OpenSpec.ofChange s with cond := some uptoSmall }

/-- 'laws.FnExactGoodFits', WHERE WHAT IT READS IS OF BULK AT MOST 1048576: true; the input reads as it did. -/
def fnExactGoodFitsUptoRow : OpenClaim := { program := "yteajedaijnghbaa", sum := "3af8aea6cc2f62b35f4647653592b384fbd47d518a07733a6cb1c12db808a793", func := "loop.example/g00451/laws.FnExactGoodFits", spec := "fnExactGoodFits", unfollowed := true, recurses := true, apart := false, narrowed := true }
def FnExactGoodFitsUptoSaid : Prop := fnExactGoodFitsUptoRow.holds Try.pinned (OpenSpec.upto fnExactGoodFitsSpec)

/-- 'laws.FnExactEqualParts', WHERE WHAT IT READS IS OF BULK AT MOST 1048576: true; the input reads as it did. -/
def fnExactEqualPartsUptoRow : OpenClaim := { program := "yteajedaijnghbaa", sum := "3af8aea6cc2f62b35f4647653592b384fbd47d518a07733a6cb1c12db808a793", func := "loop.example/g00451/laws.FnExactEqualParts", spec := "fnExactEqualParts", unfollowed := true, recurses := true, apart := false, narrowed := true }
def FnExactEqualPartsUptoSaid : Prop := fnExactEqualPartsUptoRow.holds Try.pinned (OpenSpec.upto fnExactEqualPartsSpec)

/-- 'laws.FnExactIsWithin', WHERE WHAT IT READS IS OF BULK AT MOST 1048576: true; the input reads as it did. -/
def fnExactIsWithinUptoRow : OpenClaim := { program := "yteajedaijnghbaa", sum := "3af8aea6cc2f62b35f4647653592b384fbd47d518a07733a6cb1c12db808a793", func := "loop.example/g00451/laws.FnExactIsWithin", spec := "fnExactIsWithin", unfollowed := true, recurses := true, apart := false, narrowed := true }
def FnExactIsWithinUptoSaid : Prop := fnExactIsWithinUptoRow.holds Try.pinned (OpenSpec.upto fnExactIsWithinSpec)

/-- 'laws.FnExactGoodProfile', WHERE WHAT IT READS IS OF BULK AT MOST 1048576: true; the input reads as it did. -/
def fnExactGoodProfileUptoRow : OpenClaim := { program := "yteajedaijnghbaa", sum := "3af8aea6cc2f62b35f4647653592b384fbd47d518a07733a6cb1c12db808a793", func := "loop.example/g00451/laws.FnExactGoodProfile", spec := "fnExactGoodProfile", unfollowed := true, recurses := true, apart := false, narrowed := true }
def FnExactGoodProfileUptoSaid : Prop := fnExactGoodProfileUptoRow.holds Try.pinned (OpenSpec.upto fnExactGoodProfileSpec)

/-- 'laws.FnExactDivFrac', WHERE WHAT IT READS IS OF BULK AT MOST 1048576: true; the input reads as it did. -/
def fnExactDivFracUptoRow : OpenClaim := { program := "yteajedaijnghbaa", sum := "3af8aea6cc2f62b35f4647653592b384fbd47d518a07733a6cb1c12db808a793", func := "loop.example/g00451/laws.FnExactDivFrac", spec := "fnExactDivFrac", unfollowed := true, recurses := true, apart := false, narrowed := true }
def FnExactDivFracUptoSaid : Prop := fnExactDivFracUptoRow.holds Try.pinned (OpenSpec.upto fnExactDivFracSpec)

/-- 'laws.FnExactOrderFor', WHERE WHAT IT READS IS OF BULK AT MOST 1048576: true; the input reads as it did. -/
def fnExactOrderForUptoRow : OpenClaim := { program := "yteajedaijnghbaa", sum := "3af8aea6cc2f62b35f4647653592b384fbd47d518a07733a6cb1c12db808a793", func := "loop.example/g00451/laws.FnExactOrderFor", spec := "fnExactOrderFor", unfollowed := true, recurses := true, apart := false, narrowed := true }
def FnExactOrderForUptoSaid : Prop := fnExactOrderForUptoRow.holds Try.pinned (OpenSpec.upto fnExactOrderForSpec)

/-- 'laws.FnExactMulFrac', WHERE WHAT IT READS IS OF BULK AT MOST 1048576: true; the input reads as it did. -/
def fnExactMulFracUptoRow : OpenClaim := { program := "yteajedaijnghbaa", sum := "3af8aea6cc2f62b35f4647653592b384fbd47d518a07733a6cb1c12db808a793", func := "loop.example/g00451/laws.FnExactMulFrac", spec := "fnExactMulFrac", unfollowed := true, recurses := true, apart := false, narrowed := true }
def FnExactMulFracUptoSaid : Prop := fnExactMulFracUptoRow.holds Try.pinned (OpenSpec.upto fnExactMulFracSpec)

/-- 'laws.FnExactAddFrac', WHERE WHAT IT READS IS OF BULK AT MOST 1048576: true; the input reads as it did. -/
def fnExactAddFracUptoRow : OpenClaim := { program := "yteajedaijnghbaa", sum := "3af8aea6cc2f62b35f4647653592b384fbd47d518a07733a6cb1c12db808a793", func := "loop.example/g00451/laws.FnExactAddFrac", spec := "fnExactAddFrac", unfollowed := true, recurses := true, apart := false, narrowed := true }
def FnExactAddFracUptoSaid : Prop := fnExactAddFracUptoRow.holds Try.pinned (OpenSpec.upto fnExactAddFracSpec)

/-- 'laws.FnExactSubFrac', WHERE WHAT IT READS IS OF BULK AT MOST 1048576: true; the input reads as it did. -/
def fnExactSubFracUptoRow : OpenClaim := { program := "yteajedaijnghbaa", sum := "3af8aea6cc2f62b35f4647653592b384fbd47d518a07733a6cb1c12db808a793", func := "loop.example/g00451/laws.FnExactSubFrac", spec := "fnExactSubFrac", unfollowed := true, recurses := true, apart := false, narrowed := true }
def FnExactSubFracUptoSaid : Prop := fnExactSubFracUptoRow.holds Try.pinned (OpenSpec.upto fnExactSubFracSpec)

/-- 'laws.FnExactGainsOf', WHERE WHAT IT READS IS OF BULK AT MOST 1048576: true; the input reads as it did. -/
def fnExactGainsOfUptoRow : OpenClaim := { program := "yteajedaijnghbaa", sum := "3af8aea6cc2f62b35f4647653592b384fbd47d518a07733a6cb1c12db808a793", func := "loop.example/g00451/laws.FnExactGainsOf", spec := "fnExactGainsOf", unfollowed := true, recurses := true, apart := false, narrowed := true }
def FnExactGainsOfUptoSaid : Prop := fnExactGainsOfUptoRow.holds Try.pinned (OpenSpec.upto fnExactGainsOfSpec)

/-- 'laws.FnExactTimeParts', WHERE WHAT IT READS IS OF BULK AT MOST 1048576: true; the input reads as it did. -/
def fnExactTimePartsUptoRow : OpenClaim := { program := "yteajedaijnghbaa", sum := "3af8aea6cc2f62b35f4647653592b384fbd47d518a07733a6cb1c12db808a793", func := "loop.example/g00451/laws.FnExactTimeParts", spec := "fnExactTimeParts", unfollowed := true, recurses := true, apart := false, narrowed := true }
def FnExactTimePartsUptoSaid : Prop := fnExactTimePartsUptoRow.holds Try.pinned (OpenSpec.upto fnExactTimePartsSpec)

end Rows
end Go.Proofs.Yteajedaijnghbaa
