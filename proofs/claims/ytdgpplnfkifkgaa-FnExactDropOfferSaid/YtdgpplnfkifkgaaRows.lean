/-
  No cell of these rows narrows 'for every input' (looked for: loops, veiled, ifaces, maps, wideKeys, modest, calm, conditions, laid).
  DERIVED. THE GIVEN ROWS OF THIS SEAT. 4 by the template 'for every input the law returns true; each argument reads behind the call as it read before'; 0 by the template 'total and deterministic' (their statements: YtdgpplnfkifkgaaTotals.lean).
  GIVEN WITH THE SEED: the statements are not yours to turn. If you find one false, say at which input.
  Laid BY PROGRAM, IN A SANDBOX (cutbox-rows.mjs): the forced cells as the released guide's own fill.sh prints them over the translation d0b03d0450b011ea… (all of the seat's roots in one cut). By AI agents, Wed Nov 11 2026. No macro, syntax, notation, axiom, sorry.
-/
import Derived.Test.YtdgpplnfkifkgaaChecked
import GoSem.Claim
import GoSem.ClaimJoined
import GoSem.ClaimMapViews
import Derived.JoinedTies
import Derived.KernelRfl
namespace Go.Proofs.Ytdgpplnfkifkgaa
/- THE CELL 'sum', in the pinned program and in every row, IS THE sha256 OF THE DUMP (.gsa) THAT YtdgpplnfkifkgaaProg.lean LOADS. Nothing in Lean hashes anything: it is a label: what it is worth is what the hold of that sum in a sandbox is worth. -/
noncomputable def Try.pinned : Pinned := { name := "ytdgpplnfkifkgaa", sum := "d0b03d0450b011eabeaceddbf97376f2fadee78fb7d0ee29c18ee1c9435b88ce", checked := Try.checked }
namespace Rows
def none {H : Type} : Left H := { results := [], args := [] }

/-- 'laws.FnExactAddProfiles': WHATEVER THE INPUT: true; the input reads as it did. -/
def fnExactAddProfilesSpec : ChangeSpec := { name := "fnExactAddProfiles", fn := fun _ => fun
  | [d1, d2] => { results := [.lit (.bool true)], args := [d1, d2] }
  | _ => none }
def fnExactAddProfilesRow : OpenClaim := { program := "ytdgpplnfkifkgaa", sum := "d0b03d0450b011eabeaceddbf97376f2fadee78fb7d0ee29c18ee1c9435b88ce", func := "loop.example/g00451/laws.FnExactAddProfiles", spec := "fnExactAddProfiles", unfollowed := true, recurses := true, apart := false }
def FnExactAddProfilesSaid : Prop := fnExactAddProfilesRow.holds Try.pinned (OpenSpec.ofChange fnExactAddProfilesSpec)

/-- ITS FALSE NEIGHBOUR: 'it returns false'. Refute it at one input. -/
def fnExactAddProfilesWrong : ChangeSpec := { name := "fnExactAddProfiles", fn := fun _ => fun
  | [d1, d2] => { results := [.lit (.bool false)], args := [d1, d2] }
  | _ => none }
def FnExactAddProfilesWrongFalsely : Prop := fnExactAddProfilesRow.holds Try.pinned (OpenSpec.ofChange fnExactAddProfilesWrong)

/-- 'laws.FnExactDropOffer': WHATEVER THE INPUT: true; the input reads as it did. -/
def fnExactDropOfferSpec : ChangeSpec := { name := "fnExactDropOffer", fn := fun _ => fun
  | [d1, d2, d3] => { results := [.lit (.bool true)], args := [d1, d2, d3] }
  | _ => none }
def fnExactDropOfferRow : OpenClaim := { program := "ytdgpplnfkifkgaa", sum := "d0b03d0450b011eabeaceddbf97376f2fadee78fb7d0ee29c18ee1c9435b88ce", func := "loop.example/g00451/laws.FnExactDropOffer", spec := "fnExactDropOffer", unfollowed := true, recurses := true, apart := false }
def FnExactDropOfferSaid : Prop := fnExactDropOfferRow.holds Try.pinned (OpenSpec.ofChange fnExactDropOfferSpec)

/-- ITS FALSE NEIGHBOUR: 'it returns false'. Refute it at one input. -/
def fnExactDropOfferWrong : ChangeSpec := { name := "fnExactDropOffer", fn := fun _ => fun
  | [d1, d2, d3] => { results := [.lit (.bool false)], args := [d1, d2, d3] }
  | _ => none }
def FnExactDropOfferWrongFalsely : Prop := fnExactDropOfferRow.holds Try.pinned (OpenSpec.ofChange fnExactDropOfferWrong)

/-- 'laws.FnExactBestTable': WHATEVER THE INPUT: true; the input reads as it did. -/
def fnExactBestTableSpec : ChangeSpec := { name := "fnExactBestTable", fn := fun _ => fun
  | [d1, d2] => { results := [.lit (.bool true)], args := [d1, d2] }
  | _ => none }
def fnExactBestTableRow : OpenClaim := { program := "ytdgpplnfkifkgaa", sum := "d0b03d0450b011eabeaceddbf97376f2fadee78fb7d0ee29c18ee1c9435b88ce", func := "loop.example/g00451/laws.FnExactBestTable", spec := "fnExactBestTable", unfollowed := true, recurses := true, apart := false }
def FnExactBestTableSaid : Prop := fnExactBestTableRow.holds Try.pinned (OpenSpec.ofChange fnExactBestTableSpec)

/-- ITS FALSE NEIGHBOUR: 'it returns false'. Refute it at one input. -/
def fnExactBestTableWrong : ChangeSpec := { name := "fnExactBestTable", fn := fun _ => fun
  | [d1, d2] => { results := [.lit (.bool false)], args := [d1, d2] }
  | _ => none }
def FnExactBestTableWrongFalsely : Prop := fnExactBestTableRow.holds Try.pinned (OpenSpec.ofChange fnExactBestTableWrong)

/-- 'laws.FnExactBestChoice': WHATEVER THE INPUT: true; the input reads as it did. -/
def fnExactBestChoiceSpec : ChangeSpec := { name := "fnExactBestChoice", fn := fun _ => fun
  | [d1, d2] => { results := [.lit (.bool true)], args := [d1, d2] }
  | _ => none }
def fnExactBestChoiceRow : OpenClaim := { program := "ytdgpplnfkifkgaa", sum := "d0b03d0450b011eabeaceddbf97376f2fadee78fb7d0ee29c18ee1c9435b88ce", func := "loop.example/g00451/laws.FnExactBestChoice", spec := "fnExactBestChoice", unfollowed := true, recurses := true, apart := false }
def FnExactBestChoiceSaid : Prop := fnExactBestChoiceRow.holds Try.pinned (OpenSpec.ofChange fnExactBestChoiceSpec)

/-- ITS FALSE NEIGHBOUR: 'it returns false'. Refute it at one input. -/
def fnExactBestChoiceWrong : ChangeSpec := { name := "fnExactBestChoice", fn := fun _ => fun
  | [d1, d2] => { results := [.lit (.bool false)], args := [d1, d2] }
  | _ => none }
def FnExactBestChoiceWrongFalsely : Prop := fnExactBestChoiceRow.holds Try.pinned (OpenSpec.ofChange fnExactBestChoiceWrong)

/- THE SECOND FORM. 'bulk': how many values and letters a reading holds, each counted each time it is reached (what is shared counts as often as it is met; a slice's spare places count too). A statement '..UptoSaid' is the law's where the arguments, and the package variables that the reading takes, are together of bulk at most 1048576: NARROWER than '..Said'. Prove '..Said' where nothing that the law and all that it calls make is longer than what came in: it says more and counts as full. Else prove '..UptoSaid'. A law counts once. -/
mutual
def uptoBulk {H : Type} : DataW H → Nat
  | .lit (.string bytes) => bytes.length + 1
  | .lit _ => 1
  | .nil => 1
  | .ptr d => uptoBulk d + 1
  | .slice elems spare => uptoBulkAll elems + uptoBulkAll spare + 1
  | .agg parts => uptoBulkAll parts + 1
  | .iface _ d => uptoBulk d + 1
  | .map entries => uptoBulkEntries entries + 1
  | .held _ => 1
def uptoBulkAll {H : Type} : List (DataW H) → Nat
  | [] => 0
  | d :: r => uptoBulk d + uptoBulkAll r
def uptoBulkEntries {H : Type} : List (Lit × DataW H) → Nat
  | [] => 0
  | x :: r => uptoBulkEntry x + uptoBulkEntries r
def uptoBulkEntry {H : Type} : Lit × DataW H → Nat
  | (.string bytes, d) => bytes.length + uptoBulk d + 1
  | (_, d) => uptoBulk d + 1
 end
def uptoSmall : (H : Type) → List (DataW H) → Bool := fun _ ds => decide (uptoBulkAll ds ≤ 1048576)
def OpenSpec.upto (s : _root_.Go.ChangeSpec) : _root_.Go.OpenSpec := { _root_.Go.OpenSpec.ofChange s with cond := some uptoSmall }

/-- 'laws.FnExactAddProfiles', WHERE WHAT IT READS IS OF BULK AT MOST 1048576: true; the input reads as it did. -/
def fnExactAddProfilesUptoRow : OpenClaim := { program := "ytdgpplnfkifkgaa", sum := "d0b03d0450b011eabeaceddbf97376f2fadee78fb7d0ee29c18ee1c9435b88ce", func := "loop.example/g00451/laws.FnExactAddProfiles", spec := "fnExactAddProfiles", unfollowed := true, recurses := true, apart := false, narrowed := true }
def FnExactAddProfilesUptoSaid : Prop := fnExactAddProfilesUptoRow.holds Try.pinned (OpenSpec.upto fnExactAddProfilesSpec)

/-- 'laws.FnExactDropOffer', WHERE WHAT IT READS IS OF BULK AT MOST 1048576: true; the input reads as it did. -/
def fnExactDropOfferUptoRow : OpenClaim := { program := "ytdgpplnfkifkgaa", sum := "d0b03d0450b011eabeaceddbf97376f2fadee78fb7d0ee29c18ee1c9435b88ce", func := "loop.example/g00451/laws.FnExactDropOffer", spec := "fnExactDropOffer", unfollowed := true, recurses := true, apart := false, narrowed := true }
def FnExactDropOfferUptoSaid : Prop := fnExactDropOfferUptoRow.holds Try.pinned (OpenSpec.upto fnExactDropOfferSpec)

/-- 'laws.FnExactBestTable', WHERE WHAT IT READS IS OF BULK AT MOST 1048576: true; the input reads as it did. -/
def fnExactBestTableUptoRow : OpenClaim := { program := "ytdgpplnfkifkgaa", sum := "d0b03d0450b011eabeaceddbf97376f2fadee78fb7d0ee29c18ee1c9435b88ce", func := "loop.example/g00451/laws.FnExactBestTable", spec := "fnExactBestTable", unfollowed := true, recurses := true, apart := false, narrowed := true }
def FnExactBestTableUptoSaid : Prop := fnExactBestTableUptoRow.holds Try.pinned (OpenSpec.upto fnExactBestTableSpec)

/-- 'laws.FnExactBestChoice', WHERE WHAT IT READS IS OF BULK AT MOST 1048576: true; the input reads as it did. -/
def fnExactBestChoiceUptoRow : OpenClaim := { program := "ytdgpplnfkifkgaa", sum := "d0b03d0450b011eabeaceddbf97376f2fadee78fb7d0ee29c18ee1c9435b88ce", func := "loop.example/g00451/laws.FnExactBestChoice", spec := "fnExactBestChoice", unfollowed := true, recurses := true, apart := false, narrowed := true }
def FnExactBestChoiceUptoSaid : Prop := fnExactBestChoiceUptoRow.holds Try.pinned (OpenSpec.upto fnExactBestChoiceSpec)

end Rows
end Go.Proofs.Ytdgpplnfkifkgaa
