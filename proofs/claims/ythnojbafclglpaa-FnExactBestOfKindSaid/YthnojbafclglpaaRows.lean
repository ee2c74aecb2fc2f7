/-
  No cell of these rows narrows 'for every input' (looked for: loops, veiled, ifaces, maps, wideKeys, modest, calm, conditions, laid).
  DERIVED. THE GIVEN ROWS OF THIS SEAT. 9 by the template 'for every input the law returns true; each argument reads behind the call as it read before'; 0 by the template 'total and deterministic' (their statements: YthnojbafclglpaaTotals.lean).
  GIVEN WITH THE SEED: the statements are not yours to turn. If you find one false, say at which input.
  Laid BY PROGRAM, IN A SANDBOX (cutbox-rows.mjs): the forced cells as the released guide's own fill.sh prints them over the translation fcec33cdf1f8dcc5… (all of the seat's roots in one cut). By AI agents, Wed Nov 11 2026. No macro, syntax, notation, axiom, sorry.
-/
import Derived.Test.YthnojbafclglpaaChecked
import GoSem.Claim
import GoSem.ClaimJoined
import GoSem.ClaimMapViews
import Derived.JoinedTies
import Derived.KernelRfl
namespace Go.Proofs.Ythnojbafclglpaa
/- THE CELL 'sum', in the pinned program and in every row, IS THE sha256 OF THE DUMP (.gsa) THAT YthnojbafclglpaaProg.lean LOADS. Nothing in Lean hashes anything: it is a label: what it is worth is what the hold of that sum in a sandbox is worth. -/
noncomputable def Try.pinned : Pinned := { name := "ythnojbafclglpaa", sum := "fcec33cdf1f8dcc5279376b7c5a3a7a420ad3934f4230e5ae4e5d59e35dd2021", checked := Try.checked }
namespace Rows
def none {H : Type} : Left H := { results := [], args := [] }

/-- 'laws.FnExactInducedSpace': WHATEVER THE INPUT: true; the input reads as it did. -/
def fnExactInducedSpaceSpec : ChangeSpec := { name := "fnExactInducedSpace", fn := fun _ => fun
  | [d1, d2] => { results := [.lit (.bool true)], args := [d1, d2] }
  | _ => none }
def fnExactInducedSpaceRow : OpenClaim := { program := "ythnojbafclglpaa", sum := "fcec33cdf1f8dcc5279376b7c5a3a7a420ad3934f4230e5ae4e5d59e35dd2021", func := "loop.example/g01128/laws.FnExactInducedSpace", spec := "fnExactInducedSpace", unfollowed := true, recurses := true, apart := false }
def FnExactInducedSpaceSaid : Prop := fnExactInducedSpaceRow.holds Try.pinned (OpenSpec.ofChange fnExactInducedSpaceSpec)

/-- ITS FALSE NEIGHBOUR: 'it returns false'. Refute it at one input. -/
def fnExactInducedSpaceWrong : ChangeSpec := { name := "fnExactInducedSpace", fn := fun _ => fun
  | [d1, d2] => { results := [.lit (.bool false)], args := [d1, d2] }
  | _ => none }
def FnExactInducedSpaceWrongFalsely : Prop := fnExactInducedSpaceRow.holds Try.pinned (OpenSpec.ofChange fnExactInducedSpaceWrong)

/-- 'laws.FnExactBestOfKind': WHATEVER THE INPUT: true; the input reads as it did. -/
def fnExactBestOfKindSpec : ChangeSpec := { name := "fnExactBestOfKind", fn := fun _ => fun
  | [d1, d2] => { results := [.lit (.bool true)], args := [d1, d2] }
  | _ => none }
def fnExactBestOfKindRow : OpenClaim := { program := "ythnojbafclglpaa", sum := "fcec33cdf1f8dcc5279376b7c5a3a7a420ad3934f4230e5ae4e5d59e35dd2021", func := "loop.example/g01128/laws.FnExactBestOfKind", spec := "fnExactBestOfKind", unfollowed := true, recurses := true, apart := false }
def FnExactBestOfKindSaid : Prop := fnExactBestOfKindRow.holds Try.pinned (OpenSpec.ofChange fnExactBestOfKindSpec)

/-- ITS FALSE NEIGHBOUR: 'it returns false'. Refute it at one input. -/
def fnExactBestOfKindWrong : ChangeSpec := { name := "fnExactBestOfKind", fn := fun _ => fun
  | [d1, d2] => { results := [.lit (.bool false)], args := [d1, d2] }
  | _ => none }
def FnExactBestOfKindWrongFalsely : Prop := fnExactBestOfKindRow.holds Try.pinned (OpenSpec.ofChange fnExactBestOfKindWrong)

/-- 'laws.FnExactCutPlaces': WHATEVER THE INPUT: true; the input reads as it did. -/
def fnExactCutPlacesSpec : ChangeSpec := { name := "fnExactCutPlaces", fn := fun _ => fun
  | [d] => { results := [.lit (.bool true)], args := [d] }
  | _ => none }
def fnExactCutPlacesRow : OpenClaim := { program := "ythnojbafclglpaa", sum := "fcec33cdf1f8dcc5279376b7c5a3a7a420ad3934f4230e5ae4e5d59e35dd2021", func := "loop.example/g01128/laws.FnExactCutPlaces", spec := "fnExactCutPlaces", unfollowed := true, recurses := true, apart := false }
def FnExactCutPlacesSaid : Prop := fnExactCutPlacesRow.holds Try.pinned (OpenSpec.ofChange fnExactCutPlacesSpec)

/-- ITS FALSE NEIGHBOUR: 'it returns false'. Refute it at one input. -/
def fnExactCutPlacesWrong : ChangeSpec := { name := "fnExactCutPlaces", fn := fun _ => fun
  | [d] => { results := [.lit (.bool false)], args := [d] }
  | _ => none }
def FnExactCutPlacesWrongFalsely : Prop := fnExactCutPlacesRow.holds Try.pinned (OpenSpec.ofChange fnExactCutPlacesWrong)

/-- 'laws.FnExactProductSpace': WHATEVER THE INPUT: true; the input reads as it did. -/
def fnExactProductSpaceSpec : ChangeSpec := { name := "fnExactProductSpace", fn := fun _ => fun
  | [d1, d2] => { results := [.lit (.bool true)], args := [d1, d2] }
  | _ => none }
def fnExactProductSpaceRow : OpenClaim := { program := "ythnojbafclglpaa", sum := "fcec33cdf1f8dcc5279376b7c5a3a7a420ad3934f4230e5ae4e5d59e35dd2021", func := "loop.example/g01128/laws.FnExactProductSpace", spec := "fnExactProductSpace", unfollowed := true, recurses := true, apart := false }
def FnExactProductSpaceSaid : Prop := fnExactProductSpaceRow.holds Try.pinned (OpenSpec.ofChange fnExactProductSpaceSpec)

/-- ITS FALSE NEIGHBOUR: 'it returns false'. Refute it at one input. -/
def fnExactProductSpaceWrong : ChangeSpec := { name := "fnExactProductSpace", fn := fun _ => fun
  | [d1, d2] => { results := [.lit (.bool false)], args := [d1, d2] }
  | _ => none }
def FnExactProductSpaceWrongFalsely : Prop := fnExactProductSpaceRow.holds Try.pinned (OpenSpec.ofChange fnExactProductSpaceWrong)

/-- 'laws.FnExactParityOf': WHATEVER THE INPUT: true; the input reads as it did. -/
def fnExactParityOfSpec : ChangeSpec := { name := "fnExactParityOf", fn := fun _ => fun
  | [d] => { results := [.lit (.bool true)], args := [d] }
  | _ => none }
def fnExactParityOfRow : OpenClaim := { program := "ythnojbafclglpaa", sum := "fcec33cdf1f8dcc5279376b7c5a3a7a420ad3934f4230e5ae4e5d59e35dd2021", func := "loop.example/g01128/laws.FnExactParityOf", spec := "fnExactParityOf", unfollowed := true, recurses := true, apart := false }
def FnExactParityOfSaid : Prop := fnExactParityOfRow.holds Try.pinned (OpenSpec.ofChange fnExactParityOfSpec)

/-- ITS FALSE NEIGHBOUR: 'it returns false'. Refute it at one input. -/
def fnExactParityOfWrong : ChangeSpec := { name := "fnExactParityOf", fn := fun _ => fun
  | [d] => { results := [.lit (.bool false)], args := [d] }
  | _ => none }
def FnExactParityOfWrongFalsely : Prop := fnExactParityOfRow.holds Try.pinned (OpenSpec.ofChange fnExactParityOfWrong)

/-- 'laws.FnExactJoinSpaces': WHATEVER THE INPUT: true; the input reads as it did. -/
def fnExactJoinSpacesSpec : ChangeSpec := { name := "fnExactJoinSpaces", fn := fun _ => fun
  | [d1, d2] => { results := [.lit (.bool true)], args := [d1, d2] }
  | _ => none }
def fnExactJoinSpacesRow : OpenClaim := { program := "ythnojbafclglpaa", sum := "fcec33cdf1f8dcc5279376b7c5a3a7a420ad3934f4230e5ae4e5d59e35dd2021", func := "loop.example/g01128/laws.FnExactJoinSpaces", spec := "fnExactJoinSpaces", unfollowed := true, recurses := true, apart := false }
def FnExactJoinSpacesSaid : Prop := fnExactJoinSpacesRow.holds Try.pinned (OpenSpec.ofChange fnExactJoinSpacesSpec)

/-- ITS FALSE NEIGHBOUR: 'it returns false'. Refute it at one input. -/
def fnExactJoinSpacesWrong : ChangeSpec := { name := "fnExactJoinSpaces", fn := fun _ => fun
  | [d1, d2] => { results := [.lit (.bool false)], args := [d1, d2] }
  | _ => none }
def FnExactJoinSpacesWrongFalsely : Prop := fnExactJoinSpacesRow.holds Try.pinned (OpenSpec.ofChange fnExactJoinSpacesWrong)

/-- 'laws.FnPotentials': WHATEVER THE INPUT: true; the input reads as it did. -/
def fnPotentialsSpec : ChangeSpec := { name := "fnPotentials", fn := fun _ => fun
  | [d] => { results := [.lit (.bool true)], args := [d] }
  | _ => none }
def fnPotentialsRow : OpenClaim := { program := "ythnojbafclglpaa", sum := "fcec33cdf1f8dcc5279376b7c5a3a7a420ad3934f4230e5ae4e5d59e35dd2021", func := "loop.example/g01128/laws.FnPotentials", spec := "fnPotentials", unfollowed := true, recurses := true, apart := false }
def FnPotentialsSaid : Prop := fnPotentialsRow.holds Try.pinned (OpenSpec.ofChange fnPotentialsSpec)

/-- ITS FALSE NEIGHBOUR: 'it returns false'. Refute it at one input. -/
def fnPotentialsWrong : ChangeSpec := { name := "fnPotentials", fn := fun _ => fun
  | [d] => { results := [.lit (.bool false)], args := [d] }
  | _ => none }
def FnPotentialsWrongFalsely : Prop := fnPotentialsRow.holds Try.pinned (OpenSpec.ofChange fnPotentialsWrong)

/-- 'laws.FnParts': WHATEVER THE INPUT: true; the input reads as it did. -/
def fnPartsSpec : ChangeSpec := { name := "fnParts", fn := fun _ => fun
  | [d] => { results := [.lit (.bool true)], args := [d] }
  | _ => none }
def fnPartsRow : OpenClaim := { program := "ythnojbafclglpaa", sum := "fcec33cdf1f8dcc5279376b7c5a3a7a420ad3934f4230e5ae4e5d59e35dd2021", func := "loop.example/g01128/laws.FnParts", spec := "fnParts", unfollowed := true, recurses := true, apart := false }
def FnPartsSaid : Prop := fnPartsRow.holds Try.pinned (OpenSpec.ofChange fnPartsSpec)

/-- ITS FALSE NEIGHBOUR: 'it returns false'. Refute it at one input. -/
def fnPartsWrong : ChangeSpec := { name := "fnParts", fn := fun _ => fun
  | [d] => { results := [.lit (.bool false)], args := [d] }
  | _ => none }
def FnPartsWrongFalsely : Prop := fnPartsRow.holds Try.pinned (OpenSpec.ofChange fnPartsWrong)

/-- 'laws.FnExactCountShortest': WHATEVER THE INPUT: true; the input reads as it did. -/
def fnExactCountShortestSpec : ChangeSpec := { name := "fnExactCountShortest", fn := fun _ => fun
  | [d1, d2, d3] => { results := [.lit (.bool true)], args := [d1, d2, d3] }
  | _ => none }
def fnExactCountShortestRow : OpenClaim := { program := "ythnojbafclglpaa", sum := "fcec33cdf1f8dcc5279376b7c5a3a7a420ad3934f4230e5ae4e5d59e35dd2021", func := "loop.example/g01128/laws.FnExactCountShortest", spec := "fnExactCountShortest", unfollowed := true, recurses := true, apart := false }
def FnExactCountShortestSaid : Prop := fnExactCountShortestRow.holds Try.pinned (OpenSpec.ofChange fnExactCountShortestSpec)

/-- ITS FALSE NEIGHBOUR: 'it returns false'. Refute it at one input. -/
def fnExactCountShortestWrong : ChangeSpec := { name := "fnExactCountShortest", fn := fun _ => fun
  | [d1, d2, d3] => { results := [.lit (.bool false)], args := [d1, d2, d3] }
  | _ => none }
def FnExactCountShortestWrongFalsely : Prop := fnExactCountShortestRow.holds Try.pinned (OpenSpec.ofChange fnExactCountShortestWrong)

/- THE SECOND FORM. 'bulk': how many values and letters a reading holds, each counted each time it is reached (what is shared counts as often as it is met; a slice's spare places count too). A statement '..UptoSaid' is the law's where the arguments, and the package variables that the reading takes, are together of bulk at most 1048576: NARROWER than '..Said'. Prove '..Said' where nothing that the law and all that it calls make is longer than what came in: it says more and counts as full. Else prove '..UptoSaid'. A law counts once. -/
mutual
def uptoBulk {H : Type} : DataW H → Nat
  | .lit (.string bytes) => bytes.length + 1
  | .lit _ => 1
  | .nil => 1
  | .ptr d => uptoBulk d + 1
  | .slice elems spare => uptoBulkAll elems + uptoBulkAll spare + 1
  | .agg parts => uptoBulkAll parts + 1
  | .iface _ d => uptoBulk d + 1
  | .map entries => uptoBulkEntries entries + 1
  | .held _ => 1
def uptoBulkAll {H : Type} : List (DataW H) → Nat
  | [] => 0
  | d :: r => uptoBulk d + uptoBulkAll r
def uptoBulkEntries {H : Type} : List (Lit × DataW H) → Nat
  | [] => 0
  | x :: r => uptoBulkEntry x + uptoBulkEntries r
def uptoBulkEntry {H : Type} : Lit × DataW H → Nat
  | (.string bytes, d) => bytes.length + uptoBulk d + 1
  | (_, d) => uptoBulk d + 1
 end
def uptoSmall : (H : Type) → List (DataW H) → Bool := fun _ ds => decide (uptoBulkAll ds ≤ 1048576)
def OpenSpec.upto (s : _root_.Go.ChangeSpec) : _root_.Go.OpenSpec := { _root_.Go.OpenSpec.ofChange s with cond := some uptoSmall }

/-- 'laws.FnExactInducedSpace', WHERE WHAT IT READS IS OF BULK AT MOST 1048576: true; the input reads as it did. -/
def fnExactInducedSpaceUptoRow : OpenClaim := { program := "ythnojbafclglpaa", sum := "fcec33cdf1f8dcc5279376b7c5a3a7a420ad3934f4230e5ae4e5d59e35dd2021", func := "loop.example/g01128/laws.FnExactInducedSpace", spec := "fnExactInducedSpace", unfollowed := true, recurses := true, apart := false, narrowed := true }
def FnExactInducedSpaceUptoSaid : Prop := fnExactInducedSpaceUptoRow.holds Try.pinned (OpenSpec.upto fnExactInducedSpaceSpec)

/-- 'laws.FnExactBestOfKind', WHERE WHAT IT READS IS OF BULK AT MOST 1048576: true; the input reads as it did. -/
def fnExactBestOfKindUptoRow : OpenClaim := { program := "ythnojbafclglpaa", sum := "fcec33cdf1f8dcc5279376b7c5a3a7a420ad3934f4230e5ae4e5d59e35dd2021", func := "loop.example/g01128/laws.FnExactBestOfKind", spec := "fnExactBestOfKind", unfollowed := true, recurses := true, apart := false, narrowed := true }
def FnExactBestOfKindUptoSaid : Prop := fnExactBestOfKindUptoRow.holds Try.pinned (OpenSpec.upto fnExactBestOfKindSpec)

/-- 'laws.FnExactCutPlaces', WHERE WHAT IT READS IS OF BULK AT MOST 1048576: true; the input reads as it did. -/
def fnExactCutPlacesUptoRow : OpenClaim := { program := "ythnojbafclglpaa", sum := "fcec33cdf1f8dcc5279376b7c5a3a7a420ad3934f4230e5ae4e5d59e35dd2021", func := "loop.example/g01128/laws.FnExactCutPlaces", spec := "fnExactCutPlaces", unfollowed := true, recurses := true, apart := false, narrowed := true }
def FnExactCutPlacesUptoSaid : Prop := fnExactCutPlacesUptoRow.holds Try.pinned (OpenSpec.upto fnExactCutPlacesSpec)

/-- 'laws.FnExactProductSpace', WHERE WHAT IT READS IS OF BULK AT MOST 1048576: true; the input reads as it did. -/
def fnExactProductSpaceUptoRow : OpenClaim := { program := "ythnojbafclglpaa", sum := "fcec33cdf1f8dcc5279376b7c5a3a7a420ad3934f4230e5ae4e5d59e35dd2021", func := "loop.example/g01128/laws.FnExactProductSpace", spec := "fnExactProductSpace", unfollowed := true, recurses := true, apart := false, narrowed := true }
def FnExactProductSpaceUptoSaid : Prop := fnExactProductSpaceUptoRow.holds Try.pinned (OpenSpec.upto fnExactProductSpaceSpec)

/-- 'laws.FnExactParityOf', WHERE WHAT IT READS IS OF BULK AT MOST 1048576: true; the input reads as it did. -/
def fnExactParityOfUptoRow : OpenClaim := { program := "ythnojbafclglpaa", sum := "fcec33cdf1f8dcc5279376b7c5a3a7a420ad3934f4230e5ae4e5d59e35dd2021", func := "loop.example/g01128/laws.FnExactParityOf", spec := "fnExactParityOf", unfollowed := true, recurses := true, apart := false, narrowed := true }
def FnExactParityOfUptoSaid : Prop := fnExactParityOfUptoRow.holds Try.pinned (OpenSpec.upto fnExactParityOfSpec)

/-- 'laws.FnExactJoinSpaces', WHERE WHAT IT READS IS OF BULK AT MOST 1048576: true; the input reads as it did. -/
def fnExactJoinSpacesUptoRow : OpenClaim := { program := "ythnojbafclglpaa", sum := "fcec33cdf1f8dcc5279376b7c5a3a7a420ad3934f4230e5ae4e5d59e35dd2021", func := "loop.example/g01128/laws.FnExactJoinSpaces", spec := "fnExactJoinSpaces", unfollowed := true, recurses := true, apart := false, narrowed := true }
def FnExactJoinSpacesUptoSaid : Prop := fnExactJoinSpacesUptoRow.holds Try.pinned (OpenSpec.upto fnExactJoinSpacesSpec)

/-- 'laws.FnPotentials', WHERE WHAT IT READS IS OF BULK AT MOST 1048576: true; the input reads as it did. -/
def fnPotentialsUptoRow : OpenClaim := { program := "ythnojbafclglpaa", sum := "fcec33cdf1f8dcc5279376b7c5a3a7a420ad3934f4230e5ae4e5d59e35dd2021", func := "loop.example/g01128/laws.FnPotentials", spec := "fnPotentials", unfollowed := true, recurses := true, apart := false, narrowed := true }
def FnPotentialsUptoSaid : Prop := fnPotentialsUptoRow.holds Try.pinned (OpenSpec.upto fnPotentialsSpec)

/-- 'laws.FnParts', WHERE WHAT IT READS IS OF BULK AT MOST 1048576: true; the input reads as it did. -/
def fnPartsUptoRow : OpenClaim := { program := "ythnojbafclglpaa", sum := "fcec33cdf1f8dcc5279376b7c5a3a7a420ad3934f4230e5ae4e5d59e35dd2021", func := "loop.example/g01128/laws.FnParts", spec := "fnParts", unfollowed := true, recurses := true, apart := false, narrowed := true }
def FnPartsUptoSaid : Prop := fnPartsUptoRow.holds Try.pinned (OpenSpec.upto fnPartsSpec)

/-- 'laws.FnExactCountShortest', WHERE WHAT IT READS IS OF BULK AT MOST 1048576: true; the input reads as it did. -/
def fnExactCountShortestUptoRow : OpenClaim := { program := "ythnojbafclglpaa", sum := "fcec33cdf1f8dcc5279376b7c5a3a7a420ad3934f4230e5ae4e5d59e35dd2021", func := "loop.example/g01128/laws.FnExactCountShortest", spec := "fnExactCountShortest", unfollowed := true, recurses := true, apart := false, narrowed := true }
def FnExactCountShortestUptoSaid : Prop := fnExactCountShortestUptoRow.holds Try.pinned (OpenSpec.upto fnExactCountShortestSpec)

end Rows
end Go.Proofs.Ythnojbafclglpaa
