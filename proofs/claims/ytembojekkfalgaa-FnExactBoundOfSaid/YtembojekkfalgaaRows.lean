/-
  No cell of these rows narrows 'for every input' (looked for: loops, veiled, ifaces, maps, wideKeys, modest, calm, conditions, laid).
  DERIVED. THE GIVEN ROWS OF THIS SEAT. 12 by the template 'for every input the law returns true; each argument reads behind the call as it read before'; 0 by the template 'total and deterministic' (their statements: YtembojekkfalgaaTotals.lean).
  GIVEN WITH THE SEED: the statements are not yours to turn. If you find one false, say at which input.
  Laid BY PROGRAM, IN A SANDBOX (cutbox-rows.mjs): the forced cells as the released guide's own fill.sh prints them over the translation 88aec5bcca99aea2… (all of the seat's roots in one cut). By AI agents, Wed Nov 11 2026. No macro, syntax, notation, axiom, sorry.
-/
import Derived.Test.YtembojekkfalgaaChecked
import GoSem.Claim
import GoSem.ClaimJoined
import GoSem.ClaimMapViews
import Derived.JoinedTies
import Derived.KernelRfl
namespace Go.Proofs.Ytembojekkfalgaa
/- THE CELL 'sum', in the pinned program and in every row, IS THE sha256 OF THE DUMP (.gsa) THAT YtembojekkfalgaaProg.lean LOADS. Nothing in Lean hashes anything: it is a label: what it is worth is what the hold of that sum in a sandbox is worth. -/
noncomputable def Try.pinned : Pinned := { name := "ytembojekkfalgaa", sum := "88aec5bcca99aea24130314e86fb78fbc24f34b8b4d29a347e043994700083ae", checked := Try.checked }
namespace Rows
def none {H : Type} : Left H := { results := [], args := [] }

/-- 'laws.FnExactGoodOffers': WHATEVER THE INPUT: true; the input reads as it did. -/
def fnExactGoodOffersSpec : ChangeSpec := { name := "fnExactGoodOffers", fn := fun _ => fun
  | [d] => { results := [.lit (.bool true)], args := [d] }
  | _ => none }
def fnExactGoodOffersRow : OpenClaim := { program := "ytembojekkfalgaa", sum := "88aec5bcca99aea24130314e86fb78fbc24f34b8b4d29a347e043994700083ae", func := "loop.example/g00451/laws.FnExactGoodOffers", spec := "fnExactGoodOffers", unfollowed := true, recurses := true, apart := false }
def FnExactGoodOffersSaid : Prop := fnExactGoodOffersRow.holds Try.pinned (OpenSpec.ofChange fnExactGoodOffersSpec)

/-- ITS FALSE NEIGHBOUR: 'it returns false'. Refute it at one input. -/
def fnExactGoodOffersWrong : ChangeSpec := { name := "fnExactGoodOffers", fn := fun _ => fun
  | [d] => { results := [.lit (.bool false)], args := [d] }
  | _ => none }
def FnExactGoodOffersWrongFalsely : Prop := fnExactGoodOffersRow.holds Try.pinned (OpenSpec.ofChange fnExactGoodOffersWrong)

/-- 'laws.FnExactCompareRoots': WHATEVER THE INPUT: true; the input reads as it did. -/
def fnExactCompareRootsSpec : ChangeSpec := { name := "fnExactCompareRoots", fn := fun _ => fun
  | [d1, d2] => { results := [.lit (.bool true)], args := [d1, d2] }
  | _ => none }
def fnExactCompareRootsRow : OpenClaim := { program := "ytembojekkfalgaa", sum := "88aec5bcca99aea24130314e86fb78fbc24f34b8b4d29a347e043994700083ae", func := "loop.example/g00451/laws.FnExactCompareRoots", spec := "fnExactCompareRoots", unfollowed := true, recurses := true, apart := false }
def FnExactCompareRootsSaid : Prop := fnExactCompareRootsRow.holds Try.pinned (OpenSpec.ofChange fnExactCompareRootsSpec)

/-- ITS FALSE NEIGHBOUR: 'it returns false'. Refute it at one input. -/
def fnExactCompareRootsWrong : ChangeSpec := { name := "fnExactCompareRoots", fn := fun _ => fun
  | [d1, d2] => { results := [.lit (.bool false)], args := [d1, d2] }
  | _ => none }
def FnExactCompareRootsWrongFalsely : Prop := fnExactCompareRootsRow.holds Try.pinned (OpenSpec.ofChange fnExactCompareRootsWrong)

/-- 'laws.FnExactGainOf': WHATEVER THE INPUT: true; the input reads as it did. -/
def fnExactGainOfSpec : ChangeSpec := { name := "fnExactGainOf", fn := fun _ => fun
  | [d1, d2, d3] => { results := [.lit (.bool true)], args := [d1, d2, d3] }
  | _ => none }
def fnExactGainOfRow : OpenClaim := { program := "ytembojekkfalgaa", sum := "88aec5bcca99aea24130314e86fb78fbc24f34b8b4d29a347e043994700083ae", func := "loop.example/g00451/laws.FnExactGainOf", spec := "fnExactGainOf", unfollowed := true, recurses := true, apart := false }
def FnExactGainOfSaid : Prop := fnExactGainOfRow.holds Try.pinned (OpenSpec.ofChange fnExactGainOfSpec)

/-- ITS FALSE NEIGHBOUR: 'it returns false'. Refute it at one input. -/
def fnExactGainOfWrong : ChangeSpec := { name := "fnExactGainOf", fn := fun _ => fun
  | [d1, d2, d3] => { results := [.lit (.bool false)], args := [d1, d2, d3] }
  | _ => none }
def FnExactGainOfWrongFalsely : Prop := fnExactGainOfRow.holds Try.pinned (OpenSpec.ofChange fnExactGainOfWrong)

/-- 'laws.FnExactRootParts': WHATEVER THE INPUT: true; the input reads as it did. -/
def fnExactRootPartsSpec : ChangeSpec := { name := "fnExactRootParts", fn := fun _ => fun
  | [d1, d2] => { results := [.lit (.bool true)], args := [d1, d2] }
  | _ => none }
def fnExactRootPartsRow : OpenClaim := { program := "ytembojekkfalgaa", sum := "88aec5bcca99aea24130314e86fb78fbc24f34b8b4d29a347e043994700083ae", func := "loop.example/g00451/laws.FnExactRootParts", spec := "fnExactRootParts", unfollowed := true, recurses := true, apart := false }
def FnExactRootPartsSaid : Prop := fnExactRootPartsRow.holds Try.pinned (OpenSpec.ofChange fnExactRootPartsSpec)

/-- ITS FALSE NEIGHBOUR: 'it returns false'. Refute it at one input. -/
def fnExactRootPartsWrong : ChangeSpec := { name := "fnExactRootParts", fn := fun _ => fun
  | [d1, d2] => { results := [.lit (.bool false)], args := [d1, d2] }
  | _ => none }
def FnExactRootPartsWrongFalsely : Prop := fnExactRootPartsRow.holds Try.pinned (OpenSpec.ofChange fnExactRootPartsWrong)

/-- 'laws.FnExactValueOf': WHATEVER THE INPUT: true; the input reads as it did. -/
def fnExactValueOfSpec : ChangeSpec := { name := "fnExactValueOf", fn := fun _ => fun
  | [d1, d2] => { results := [.lit (.bool true)], args := [d1, d2] }
  | _ => none }
def fnExactValueOfRow : OpenClaim := { program := "ytembojekkfalgaa", sum := "88aec5bcca99aea24130314e86fb78fbc24f34b8b4d29a347e043994700083ae", func := "loop.example/g00451/laws.FnExactValueOf", spec := "fnExactValueOf", unfollowed := true, recurses := true, apart := false }
def FnExactValueOfSaid : Prop := fnExactValueOfRow.holds Try.pinned (OpenSpec.ofChange fnExactValueOfSpec)

/-- ITS FALSE NEIGHBOUR: 'it returns false'. Refute it at one input. -/
def fnExactValueOfWrong : ChangeSpec := { name := "fnExactValueOf", fn := fun _ => fun
  | [d1, d2] => { results := [.lit (.bool false)], args := [d1, d2] }
  | _ => none }
def FnExactValueOfWrongFalsely : Prop := fnExactValueOfRow.holds Try.pinned (OpenSpec.ofChange fnExactValueOfWrong)

/-- 'laws.FnExactBoundOf': WHATEVER THE INPUT: true; the input reads as it did. -/
def fnExactBoundOfSpec : ChangeSpec := { name := "fnExactBoundOf", fn := fun _ => fun
  | [d1, d2] => { results := [.lit (.bool true)], args := [d1, d2] }
  | _ => none }
def fnExactBoundOfRow : OpenClaim := { program := "ytembojekkfalgaa", sum := "88aec5bcca99aea24130314e86fb78fbc24f34b8b4d29a347e043994700083ae", func := "loop.example/g00451/laws.FnExactBoundOf", spec := "fnExactBoundOf", unfollowed := true, recurses := true, apart := false }
def FnExactBoundOfSaid : Prop := fnExactBoundOfRow.holds Try.pinned (OpenSpec.ofChange fnExactBoundOfSpec)

/-- ITS FALSE NEIGHBOUR: 'it returns false'. Refute it at one input. -/
def fnExactBoundOfWrong : ChangeSpec := { name := "fnExactBoundOf", fn := fun _ => fun
  | [d1, d2] => { results := [.lit (.bool false)], args := [d1, d2] }
  | _ => none }
def FnExactBoundOfWrongFalsely : Prop := fnExactBoundOfRow.holds Try.pinned (OpenSpec.ofChange fnExactBoundOfWrong)

/-- 'laws.FnExactSumFracs': WHATEVER THE INPUT: true; the input reads as it did. -/
def fnExactSumFracsSpec : ChangeSpec := { name := "fnExactSumFracs", fn := fun _ => fun
  | [d] => { results := [.lit (.bool true)], args := [d] }
  | _ => none }
def fnExactSumFracsRow : OpenClaim := { program := "ytembojekkfalgaa", sum := "88aec5bcca99aea24130314e86fb78fbc24f34b8b4d29a347e043994700083ae", func := "loop.example/g00451/laws.FnExactSumFracs", spec := "fnExactSumFracs", unfollowed := true, recurses := true, apart := false }
def FnExactSumFracsSaid : Prop := fnExactSumFracsRow.holds Try.pinned (OpenSpec.ofChange fnExactSumFracsSpec)

/-- ITS FALSE NEIGHBOUR: 'it returns false'. Refute it at one input. -/
def fnExactSumFracsWrong : ChangeSpec := { name := "fnExactSumFracs", fn := fun _ => fun
  | [d] => { results := [.lit (.bool false)], args := [d] }
  | _ => none }
def FnExactSumFracsWrongFalsely : Prop := fnExactSumFracsRow.holds Try.pinned (OpenSpec.ofChange fnExactSumFracsWrong)

/-- 'laws.FnExactIsMatching': WHATEVER THE INPUT: true; the input reads as it did. -/
def fnExactIsMatchingSpec : ChangeSpec := { name := "fnExactIsMatching", fn := fun _ => fun
  | [d1, d2] => { results := [.lit (.bool true)], args := [d1, d2] }
  | _ => none }
def fnExactIsMatchingRow : OpenClaim := { program := "ytembojekkfalgaa", sum := "88aec5bcca99aea24130314e86fb78fbc24f34b8b4d29a347e043994700083ae", func := "loop.example/g00451/laws.FnExactIsMatching", spec := "fnExactIsMatching", unfollowed := true, recurses := true, apart := false }
def FnExactIsMatchingSaid : Prop := fnExactIsMatchingRow.holds Try.pinned (OpenSpec.ofChange fnExactIsMatchingSpec)

/-- ITS FALSE NEIGHBOUR: 'it returns false'. Refute it at one input. -/
def fnExactIsMatchingWrong : ChangeSpec := { name := "fnExactIsMatching", fn := fun _ => fun
  | [d1, d2] => { results := [.lit (.bool false)], args := [d1, d2] }
  | _ => none }
def FnExactIsMatchingWrongFalsely : Prop := fnExactIsMatchingRow.holds Try.pinned (OpenSpec.ofChange fnExactIsMatchingWrong)

/-- 'laws.FnExactIsStable': WHATEVER THE INPUT: true; the input reads as it did. -/
def fnExactIsStableSpec : ChangeSpec := { name := "fnExactIsStable", fn := fun _ => fun
  | [d1, d2] => { results := [.lit (.bool true)], args := [d1, d2] }
  | _ => none }
def fnExactIsStableRow : OpenClaim := { program := "ytembojekkfalgaa", sum := "88aec5bcca99aea24130314e86fb78fbc24f34b8b4d29a347e043994700083ae", func := "loop.example/g00451/laws.FnExactIsStable", spec := "fnExactIsStable", unfollowed := true, recurses := true, apart := false }
def FnExactIsStableSaid : Prop := fnExactIsStableRow.holds Try.pinned (OpenSpec.ofChange fnExactIsStableSpec)

/-- ITS FALSE NEIGHBOUR: 'it returns false'. Refute it at one input. -/
def fnExactIsStableWrong : ChangeSpec := { name := "fnExactIsStable", fn := fun _ => fun
  | [d1, d2] => { results := [.lit (.bool false)], args := [d1, d2] }
  | _ => none }
def FnExactIsStableWrongFalsely : Prop := fnExactIsStableRow.holds Try.pinned (OpenSpec.ofChange fnExactIsStableWrong)

/-- 'laws.FnExactIndexOf': WHATEVER THE INPUT: true; the input reads as it did. -/
def fnExactIndexOfSpec : ChangeSpec := { name := "fnExactIndexOf", fn := fun _ => fun
  | [d1, d2] => { results := [.lit (.bool true)], args := [d1, d2] }
  | _ => none }
def fnExactIndexOfRow : OpenClaim := { program := "ytembojekkfalgaa", sum := "88aec5bcca99aea24130314e86fb78fbc24f34b8b4d29a347e043994700083ae", func := "loop.example/g00451/laws.FnExactIndexOf", spec := "fnExactIndexOf", unfollowed := true, recurses := true, apart := false }
def FnExactIndexOfSaid : Prop := fnExactIndexOfRow.holds Try.pinned (OpenSpec.ofChange fnExactIndexOfSpec)

/-- ITS FALSE NEIGHBOUR: 'it returns false'. Refute it at one input. -/
def fnExactIndexOfWrong : ChangeSpec := { name := "fnExactIndexOf", fn := fun _ => fun
  | [d1, d2] => { results := [.lit (.bool false)], args := [d1, d2] }
  | _ => none }
def FnExactIndexOfWrongFalsely : Prop := fnExactIndexOfRow.holds Try.pinned (OpenSpec.ofChange fnExactIndexOfWrong)

/-- 'laws.FnExactAddProfiles': WHATEVER THE INPUT: true; the input reads as it did. -/
def fnExactAddProfilesSpec : ChangeSpec := { name := "fnExactAddProfiles", fn := fun _ => fun
  | [d1, d2] => { results := [.lit (.bool true)], args := [d1, d2] }
  | _ => none }
def fnExactAddProfilesRow : OpenClaim := { program := "ytembojekkfalgaa", sum := "88aec5bcca99aea24130314e86fb78fbc24f34b8b4d29a347e043994700083ae", func := "loop.example/g00451/laws.FnExactAddProfiles", spec := "fnExactAddProfiles", unfollowed := true, recurses := true, apart := false }
def FnExactAddProfilesSaid : Prop := fnExactAddProfilesRow.holds Try.pinned (OpenSpec.ofChange fnExactAddProfilesSpec)

/-- ITS FALSE NEIGHBOUR: 'it returns false'. Refute it at one input. -/
def fnExactAddProfilesWrong : ChangeSpec := { name := "fnExactAddProfiles", fn := fun _ => fun
  | [d1, d2] => { results := [.lit (.bool false)], args := [d1, d2] }
  | _ => none }
def FnExactAddProfilesWrongFalsely : Prop := fnExactAddProfilesRow.holds Try.pinned (OpenSpec.ofChange fnExactAddProfilesWrong)

/-- 'laws.FnExactFluidCost': WHATEVER THE INPUT: true; the input reads as it did. -/
def fnExactFluidCostSpec : ChangeSpec := { name := "fnExactFluidCost", fn := fun _ => fun
  | [d1, d2] => { results := [.lit (.bool true)], args := [d1, d2] }
  | _ => none }
def fnExactFluidCostRow : OpenClaim := { program := "ytembojekkfalgaa", sum := "88aec5bcca99aea24130314e86fb78fbc24f34b8b4d29a347e043994700083ae", func := "loop.example/g00451/laws.FnExactFluidCost", spec := "fnExactFluidCost", unfollowed := true, recurses := true, apart := false }
def FnExactFluidCostSaid : Prop := fnExactFluidCostRow.holds Try.pinned (OpenSpec.ofChange fnExactFluidCostSpec)

/-- ITS FALSE NEIGHBOUR: 'it returns false'. Refute it at one input. -/
def fnExactFluidCostWrong : ChangeSpec := { name := "fnExactFluidCost", fn := fun _ => fun
  | [d1, d2] => { results := [.lit (.bool false)], args := [d1, d2] }
  | _ => none }
def FnExactFluidCostWrongFalsely : Prop := fnExactFluidCostRow.holds Try.pinned (OpenSpec.ofChange fnExactFluidCostWrong)

/- THE SECOND FORM. 'bulk': how many values and letters a reading holds, each counted each time it is reached (what is shared counts as often as it is met; a slice's spare places count too). A statement '..UptoSaid' is the law's where the arguments, and the package variables that the reading takes, are together of bulk at most 1048576: NARROWER than '..Said'. Prove '..Said' where nothing that the law and all that it calls make is longer than what came in: it says more and counts as full. Else prove '..UptoSaid'. A law counts once. -/
mutual
def uptoBulk {H : Type} : DataW H → Nat
  | .lit (.string bytes) => bytes.length + 1
  | .lit _ => 1
  | .nil => 1
  | .ptr d => uptoBulk d + 1
  | .slice elems spare => uptoBulkAll elems + uptoBulkAll spare + 1
  | .agg parts => uptoBulkAll parts + 1
  | .iface _ d => uptoBulk d + 1
  | .map entries => uptoBulkEntries entries + 1
  | .held _ => 1
def uptoBulkAll {H : Type} : List (DataW H) → Nat
  | [] => 0
  | d :: r => uptoBulk d + uptoBulkAll r
def uptoBulkEntries {H : Type} : List (Lit × DataW H) → Nat
  | [] => 0
  | x :: r => uptoBulkEntry x + uptoBulkEntries r
def uptoBulkEntry {H : Type} : Lit × DataW H → Nat
  | (.string bytes, d) => bytes.length + uptoBulk d + 1
  | (_, d) => uptoBulk d + 1
 end
def uptoSmall : (H : Type) → List (DataW H) → Bool := fun _ ds => decide (uptoBulkAll ds ≤ 1048576)
def OpenSpec.upto (s : _root_.Go.ChangeSpec) : _root_.Go.OpenSpec := { _root_.Go.OpenSpec.ofChange s with cond := some uptoSmall }

/-- 'laws.FnExactGoodOffers', WHERE WHAT IT READS IS OF BULK AT MOST 1048576: true; the input reads as it did. -/
def fnExactGoodOffersUptoRow : OpenClaim := { program := "ytembojekkfalgaa", sum := "88aec5bcca99aea24130314e86fb78fbc24f34b8b4d29a347e043994700083ae", func := "loop.example/g00451/laws.FnExactGoodOffers", spec := "fnExactGoodOffers", unfollowed := true, recurses := true, apart := false, narrowed := true }
def FnExactGoodOffersUptoSaid : Prop := fnExactGoodOffersUptoRow.holds Try.pinned (OpenSpec.upto fnExactGoodOffersSpec)

/-- 'laws.FnExactCompareRoots', WHERE WHAT IT READS IS OF BULK AT MOST 1048576: true; the input reads as it did. -/
def fnExactCompareRootsUptoRow : OpenClaim := { program := "ytembojekkfalgaa", sum := "88aec5bcca99aea24130314e86fb78fbc24f34b8b4d29a347e043994700083ae", func := "loop.example/g00451/laws.FnExactCompareRoots", spec := "fnExactCompareRoots", unfollowed := true, recurses := true, apart := false, narrowed := true }
def FnExactCompareRootsUptoSaid : Prop := fnExactCompareRootsUptoRow.holds Try.pinned (OpenSpec.upto fnExactCompareRootsSpec)

/-- 'laws.FnExactGainOf', WHERE WHAT IT READS IS OF BULK AT MOST 1048576: true; the input reads as it did. -/
def fnExactGainOfUptoRow : OpenClaim := { program := "ytembojekkfalgaa", sum := "88aec5bcca99aea24130314e86fb78fbc24f34b8b4d29a347e043994700083ae", func := "loop.example/g00451/laws.FnExactGainOf", spec := "fnExactGainOf", unfollowed := true, recurses := true, apart := false, narrowed := true }
def FnExactGainOfUptoSaid : Prop := fnExactGainOfUptoRow.holds Try.pinned (OpenSpec.upto fnExactGainOfSpec)

/-- 'laws.FnExactRootParts', WHERE WHAT IT READS IS OF BULK AT MOST 1048576: true; the input reads as it did. -/
def fnExactRootPartsUptoRow : OpenClaim := { program := "ytembojekkfalgaa", sum := "88aec5bcca99aea24130314e86fb78fbc24f34b8b4d29a347e043994700083ae", func := "loop.example/g00451/laws.FnExactRootParts", spec := "fnExactRootParts", unfollowed := true, recurses := true, apart := false, narrowed := true }
def FnExactRootPartsUptoSaid : Prop := fnExactRootPartsUptoRow.holds Try.pinned (OpenSpec.upto fnExactRootPartsSpec)

/-- 'laws.FnExactValueOf', WHERE WHAT IT READS IS OF BULK AT MOST 1048576: true; the input reads as it did. -/
def fnExactValueOfUptoRow : OpenClaim := { program := "ytembojekkfalgaa", sum := "88aec5bcca99aea24130314e86fb78fbc24f34b8b4d29a347e043994700083ae", func := "loop.example/g00451/laws.FnExactValueOf", spec := "fnExactValueOf", unfollowed := true, recurses := true, apart := false, narrowed := true }
def FnExactValueOfUptoSaid : Prop := fnExactValueOfUptoRow.holds Try.pinned (OpenSpec.upto fnExactValueOfSpec)

/-- 'laws.FnExactBoundOf', WHERE WHAT IT READS IS OF BULK AT MOST 1048576: true; the input reads as it did. -/
def fnExactBoundOfUptoRow : OpenClaim := { program := "ytembojekkfalgaa", sum := "88aec5bcca99aea24130314e86fb78fbc24f34b8b4d29a347e043994700083ae", func := "loop.example/g00451/laws.FnExactBoundOf", spec := "fnExactBoundOf", unfollowed := true, recurses := true, apart := false, narrowed := true }
def FnExactBoundOfUptoSaid : Prop := fnExactBoundOfUptoRow.holds Try.pinned (OpenSpec.upto fnExactBoundOfSpec)

/-- 'laws.FnExactSumFracs', WHERE WHAT IT READS IS OF BULK AT MOST 1048576: true; the input reads as it did. -/
def fnExactSumFracsUptoRow : OpenClaim := { program := "ytembojekkfalgaa", sum := "88aec5bcca99aea24130314e86fb78fbc24f34b8b4d29a347e043994700083ae", func := "loop.example/g00451/laws.FnExactSumFracs", spec := "fnExactSumFracs", unfollowed := true, recurses := true, apart := false, narrowed := true }
def FnExactSumFracsUptoSaid : Prop := fnExactSumFracsUptoRow.holds Try.pinned (OpenSpec.upto fnExactSumFracsSpec)

/-- 'laws.FnExactIsMatching', WHERE WHAT IT READS IS OF BULK AT MOST 1048576: true; the input reads as it did. -/
def fnExactIsMatchingUptoRow : OpenClaim := { program := "ytembojekkfalgaa", sum := "88aec5bcca99aea24130314e86fb78fbc24f34b8b4d29a347e043994700083ae", func := "loop.example/g00451/laws.FnExactIsMatching", spec := "fnExactIsMatching", unfollowed := true, recurses := true, apart := false, narrowed := true }
def FnExactIsMatchingUptoSaid : Prop := fnExactIsMatchingUptoRow.holds Try.pinned (OpenSpec.upto fnExactIsMatchingSpec)

/-- 'laws.FnExactIsStable', WHERE WHAT IT READS IS OF BULK AT MOST 1048576: true; the input reads as it did. -/
def fnExactIsStableUptoRow : OpenClaim := { program := "ytembojekkfalgaa", sum := "88aec5bcca99aea24130314e86fb78fbc24f34b8b4d29a347e043994700083ae", func := "loop.example/g00451/laws.FnExactIsStable", spec := "fnExactIsStable", unfollowed := true, recurses := true, apart := false, narrowed := true }
def FnExactIsStableUptoSaid : Prop := fnExactIsStableUptoRow.holds Try.pinned (OpenSpec.upto fnExactIsStableSpec)

/-- 'laws.FnExactIndexOf', WHERE WHAT IT READS IS OF BULK AT MOST 1048576: true; the input reads as it did. -/
def fnExactIndexOfUptoRow : OpenClaim := { program := "ytembojekkfalgaa", sum := "88aec5bcca99aea24130314e86fb78fbc24f34b8b4d29a347e043994700083ae", func := "loop.example/g00451/laws.FnExactIndexOf", spec := "fnExactIndexOf", unfollowed := true, recurses := true, apart := false, narrowed := true }
def FnExactIndexOfUptoSaid : Prop := fnExactIndexOfUptoRow.holds Try.pinned (OpenSpec.upto fnExactIndexOfSpec)

/-- 'laws.FnExactAddProfiles', WHERE WHAT IT READS IS OF BULK AT MOST 1048576: true; the input reads as it did. -/
def fnExactAddProfilesUptoRow : OpenClaim := { program := "ytembojekkfalgaa", sum := "88aec5bcca99aea24130314e86fb78fbc24f34b8b4d29a347e043994700083ae", func := "loop.example/g00451/laws.FnExactAddProfiles", spec := "fnExactAddProfiles", unfollowed := true, recurses := true, apart := false, narrowed := true }
def FnExactAddProfilesUptoSaid : Prop := fnExactAddProfilesUptoRow.holds Try.pinned (OpenSpec.upto fnExactAddProfilesSpec)

/-- 'laws.FnExactFluidCost', WHERE WHAT IT READS IS OF BULK AT MOST 1048576: true; the input reads as it did. -/
def fnExactFluidCostUptoRow : OpenClaim := { program := "ytembojekkfalgaa", sum := "88aec5bcca99aea24130314e86fb78fbc24f34b8b4d29a347e043994700083ae", func := "loop.example/g00451/laws.FnExactFluidCost", spec := "fnExactFluidCost", unfollowed := true, recurses := true, apart := false, narrowed := true }
def FnExactFluidCostUptoSaid : Prop := fnExactFluidCostUptoRow.holds Try.pinned (OpenSpec.upto fnExactFluidCostSpec)

end Rows
end Go.Proofs.Ytembojekkfalgaa
