/-
  No cell of these rows narrows 'for every input' (looked for: loops, veiled, ifaces, maps, wideKeys, modest, calm, conditions, laid).
  DERIVED. THE GIVEN ROWS OF THIS SEAT. 12 by the template 'for every input the law returns true; each argument reads behind the call as it read before'; 0 by the template 'total and deterministic' (their statements: YtmhoemdclnlgaaaTotals.lean).
  GIVEN WITH THE SEED: the statements are not yours to turn. If you find one false, say at which input.
  Laid BY PROGRAM, IN A SANDBOX (cutbox-rows.mjs): the forced cells as the released guide's own fill.sh prints them over the translation a81d7c4f51283801… (all of the seat's roots in one cut). By AI agents, Wed Nov 11 2026. No macro, syntax, notation, axiom, sorry.
-/
import Derived.Test.YtmhoemdclnlgaaaChecked
import GoSem.Claim
import GoSem.ClaimJoined
import GoSem.ClaimMapViews
import Derived.JoinedTies
import Derived.KernelRfl
namespace Go.Proofs.Ytmhoemdclnlgaaa
/- THE CELL 'sum', in the pinned program and in every row, IS THE sha256 OF THE DUMP (.gsa) THAT YtmhoemdclnlgaaaProg.lean LOADS. Nothing in Lean hashes anything: it is a label: what it is worth is what the hold of that sum in a sandbox is worth. -/
noncomputable def Try.pinned : Pinned := { name := "ytmhoemdclnlgaaa", sum := "a81d7c4f5128380112296e9a5240f0f96a277c5fbb202b773f63b09ca8a3549c", checked := Try.checked }
namespace Rows
def none {H : Type} : Left H := { results := [], args := [] }

/-- 'laws.FnExactDistancesFrom': WHATEVER THE INPUT: true; the input reads as it did. -/
def fnExactDistancesFromSpec : ChangeSpec := { name := "fnExactDistancesFrom", fn := fun _ => fun
  | [d1, d2] => { results := [.lit (.bool true)], args := [d1, d2] }
  | _ => none }
def fnExactDistancesFromRow : OpenClaim := { program := "ytmhoemdclnlgaaa", sum := "a81d7c4f5128380112296e9a5240f0f96a277c5fbb202b773f63b09ca8a3549c", func := "loop.example/g01128/laws.FnExactDistancesFrom", spec := "fnExactDistancesFrom", unfollowed := true, recurses := true, apart := false }
def FnExactDistancesFromSaid : Prop := fnExactDistancesFromRow.holds Try.pinned (OpenSpec.ofChange fnExactDistancesFromSpec)

/-- ITS FALSE NEIGHBOUR: 'it returns false'. Refute it at one input. -/
def fnExactDistancesFromWrong : ChangeSpec := { name := "fnExactDistancesFrom", fn := fun _ => fun
  | [d1, d2] => { results := [.lit (.bool false)], args := [d1, d2] }
  | _ => none }
def FnExactDistancesFromWrongFalsely : Prop := fnExactDistancesFromRow.holds Try.pinned (OpenSpec.ofChange fnExactDistancesFromWrong)

/-- 'laws.FnExactBestOfKind': WHATEVER THE INPUT: true; the input reads as it did. -/
def fnExactBestOfKindSpec : ChangeSpec := { name := "fnExactBestOfKind", fn := fun _ => fun
  | [d1, d2] => { results := [.lit (.bool true)], args := [d1, d2] }
  | _ => none }
def fnExactBestOfKindRow : OpenClaim := { program := "ytmhoemdclnlgaaa", sum := "a81d7c4f5128380112296e9a5240f0f96a277c5fbb202b773f63b09ca8a3549c", func := "loop.example/g01128/laws.FnExactBestOfKind", spec := "fnExactBestOfKind", unfollowed := true, recurses := true, apart := false }
def FnExactBestOfKindSaid : Prop := fnExactBestOfKindRow.holds Try.pinned (OpenSpec.ofChange fnExactBestOfKindSpec)

/-- ITS FALSE NEIGHBOUR: 'it returns false'. Refute it at one input. -/
def fnExactBestOfKindWrong : ChangeSpec := { name := "fnExactBestOfKind", fn := fun _ => fun
  | [d1, d2] => { results := [.lit (.bool false)], args := [d1, d2] }
  | _ => none }
def FnExactBestOfKindWrongFalsely : Prop := fnExactBestOfKindRow.holds Try.pinned (OpenSpec.ofChange fnExactBestOfKindWrong)

/-- 'laws.FnExactCutPlaces': WHATEVER THE INPUT: true; the input reads as it did. -/
def fnExactCutPlacesSpec : ChangeSpec := { name := "fnExactCutPlaces", fn := fun _ => fun
  | [d] => { results := [.lit (.bool true)], args := [d] }
  | _ => none }
def fnExactCutPlacesRow : OpenClaim := { program := "ytmhoemdclnlgaaa", sum := "a81d7c4f5128380112296e9a5240f0f96a277c5fbb202b773f63b09ca8a3549c", func := "loop.example/g01128/laws.FnExactCutPlaces", spec := "fnExactCutPlaces", unfollowed := true, recurses := true, apart := false }
def FnExactCutPlacesSaid : Prop := fnExactCutPlacesRow.holds Try.pinned (OpenSpec.ofChange fnExactCutPlacesSpec)

/-- ITS FALSE NEIGHBOUR: 'it returns false'. Refute it at one input. -/
def fnExactCutPlacesWrong : ChangeSpec := { name := "fnExactCutPlaces", fn := fun _ => fun
  | [d] => { results := [.lit (.bool false)], args := [d] }
  | _ => none }
def FnExactCutPlacesWrongFalsely : Prop := fnExactCutPlacesRow.holds Try.pinned (OpenSpec.ofChange fnExactCutPlacesWrong)

/-- 'laws.FnExactProductSpace': WHATEVER THE INPUT: true; the input reads as it did. -/
def fnExactProductSpaceSpec : ChangeSpec := { name := "fnExactProductSpace", fn := fun _ => fun
  | [d1, d2] => { results := [.lit (.bool true)], args := [d1, d2] }
  | _ => none }
def fnExactProductSpaceRow : OpenClaim := { program := "ytmhoemdclnlgaaa", sum := "a81d7c4f5128380112296e9a5240f0f96a277c5fbb202b773f63b09ca8a3549c", func := "loop.example/g01128/laws.FnExactProductSpace", spec := "fnExactProductSpace", unfollowed := true, recurses := true, apart := false }
def FnExactProductSpaceSaid : Prop := fnExactProductSpaceRow.holds Try.pinned (OpenSpec.ofChange fnExactProductSpaceSpec)

/-- ITS FALSE NEIGHBOUR: 'it returns false'. Refute it at one input. -/
def fnExactProductSpaceWrong : ChangeSpec := { name := "fnExactProductSpace", fn := fun _ => fun
  | [d1, d2] => { results := [.lit (.bool false)], args := [d1, d2] }
  | _ => none }
def FnExactProductSpaceWrongFalsely : Prop := fnExactProductSpaceRow.holds Try.pinned (OpenSpec.ofChange fnExactProductSpaceWrong)

/-- 'laws.FnExactFirstWay': WHATEVER THE INPUT: true; the input reads as it did. -/
def fnExactFirstWaySpec : ChangeSpec := { name := "fnExactFirstWay", fn := fun _ => fun
  | [d1, d2, d3] => { results := [.lit (.bool true)], args := [d1, d2, d3] }
  | _ => none }
def fnExactFirstWayRow : OpenClaim := { program := "ytmhoemdclnlgaaa", sum := "a81d7c4f5128380112296e9a5240f0f96a277c5fbb202b773f63b09ca8a3549c", func := "loop.example/g01128/laws.FnExactFirstWay", spec := "fnExactFirstWay", unfollowed := true, recurses := true, apart := false }
def FnExactFirstWaySaid : Prop := fnExactFirstWayRow.holds Try.pinned (OpenSpec.ofChange fnExactFirstWaySpec)

/-- ITS FALSE NEIGHBOUR: 'it returns false'. Refute it at one input. -/
def fnExactFirstWayWrong : ChangeSpec := { name := "fnExactFirstWay", fn := fun _ => fun
  | [d1, d2, d3] => { results := [.lit (.bool false)], args := [d1, d2, d3] }
  | _ => none }
def FnExactFirstWayWrongFalsely : Prop := fnExactFirstWayRow.holds Try.pinned (OpenSpec.ofChange fnExactFirstWayWrong)

/-- 'laws.FnExactParityOf': WHATEVER THE INPUT: true; the input reads as it did. -/
def fnExactParityOfSpec : ChangeSpec := { name := "fnExactParityOf", fn := fun _ => fun
  | [d] => { results := [.lit (.bool true)], args := [d] }
  | _ => none }
def fnExactParityOfRow : OpenClaim := { program := "ytmhoemdclnlgaaa", sum := "a81d7c4f5128380112296e9a5240f0f96a277c5fbb202b773f63b09ca8a3549c", func := "loop.example/g01128/laws.FnExactParityOf", spec := "fnExactParityOf", unfollowed := true, recurses := true, apart := false }
def FnExactParityOfSaid : Prop := fnExactParityOfRow.holds Try.pinned (OpenSpec.ofChange fnExactParityOfSpec)

/-- ITS FALSE NEIGHBOUR: 'it returns false'. Refute it at one input. -/
def fnExactParityOfWrong : ChangeSpec := { name := "fnExactParityOf", fn := fun _ => fun
  | [d] => { results := [.lit (.bool false)], args := [d] }
  | _ => none }
def FnExactParityOfWrongFalsely : Prop := fnExactParityOfRow.holds Try.pinned (OpenSpec.ofChange fnExactParityOfWrong)

/-- 'laws.FnExactWideNumber': WHATEVER THE INPUT: true; the input reads as it did. -/
def fnExactWideNumberSpec : ChangeSpec := { name := "fnExactWideNumber", fn := fun _ => fun
  | [d1, d2] => { results := [.lit (.bool true)], args := [d1, d2] }
  | _ => none }
def fnExactWideNumberRow : OpenClaim := { program := "ytmhoemdclnlgaaa", sum := "a81d7c4f5128380112296e9a5240f0f96a277c5fbb202b773f63b09ca8a3549c", func := "loop.example/g01128/laws.FnExactWideNumber", spec := "fnExactWideNumber", unfollowed := true, recurses := true, apart := false }
def FnExactWideNumberSaid : Prop := fnExactWideNumberRow.holds Try.pinned (OpenSpec.ofChange fnExactWideNumberSpec)

/-- ITS FALSE NEIGHBOUR: 'it returns false'. Refute it at one input. -/
def fnExactWideNumberWrong : ChangeSpec := { name := "fnExactWideNumber", fn := fun _ => fun
  | [d1, d2] => { results := [.lit (.bool false)], args := [d1, d2] }
  | _ => none }
def FnExactWideNumberWrongFalsely : Prop := fnExactWideNumberRow.holds Try.pinned (OpenSpec.ofChange fnExactWideNumberWrong)

/-- 'laws.FnExactAddSpace': WHATEVER THE INPUT: true; the input reads as it did. -/
def fnExactAddSpaceSpec : ChangeSpec := { name := "fnExactAddSpace", fn := fun _ => fun
  | [d1, d2] => { results := [.lit (.bool true)], args := [d1, d2] }
  | _ => none }
def fnExactAddSpaceRow : OpenClaim := { program := "ytmhoemdclnlgaaa", sum := "a81d7c4f5128380112296e9a5240f0f96a277c5fbb202b773f63b09ca8a3549c", func := "loop.example/g01128/laws.FnExactAddSpace", spec := "fnExactAddSpace", unfollowed := true, recurses := true, apart := false }
def FnExactAddSpaceSaid : Prop := fnExactAddSpaceRow.holds Try.pinned (OpenSpec.ofChange fnExactAddSpaceSpec)

/-- ITS FALSE NEIGHBOUR: 'it returns false'. Refute it at one input. -/
def fnExactAddSpaceWrong : ChangeSpec := { name := "fnExactAddSpace", fn := fun _ => fun
  | [d1, d2] => { results := [.lit (.bool false)], args := [d1, d2] }
  | _ => none }
def FnExactAddSpaceWrongFalsely : Prop := fnExactAddSpaceRow.holds Try.pinned (OpenSpec.ofChange fnExactAddSpaceWrong)

/-- 'laws.FnExactJumpSpace': WHATEVER THE INPUT: true; the input reads as it did. -/
def fnExactJumpSpaceSpec : ChangeSpec := { name := "fnExactJumpSpace", fn := fun _ => fun
  | [d1, d2] => { results := [.lit (.bool true)], args := [d1, d2] }
  | _ => none }
def fnExactJumpSpaceRow : OpenClaim := { program := "ytmhoemdclnlgaaa", sum := "a81d7c4f5128380112296e9a5240f0f96a277c5fbb202b773f63b09ca8a3549c", func := "loop.example/g01128/laws.FnExactJumpSpace", spec := "fnExactJumpSpace", unfollowed := true, recurses := true, apart := false }
def FnExactJumpSpaceSaid : Prop := fnExactJumpSpaceRow.holds Try.pinned (OpenSpec.ofChange fnExactJumpSpaceSpec)

/-- ITS FALSE NEIGHBOUR: 'it returns false'. Refute it at one input. -/
def fnExactJumpSpaceWrong : ChangeSpec := { name := "fnExactJumpSpace", fn := fun _ => fun
  | [d1, d2] => { results := [.lit (.bool false)], args := [d1, d2] }
  | _ => none }
def FnExactJumpSpaceWrongFalsely : Prop := fnExactJumpSpaceRow.holds Try.pinned (OpenSpec.ofChange fnExactJumpSpaceWrong)

/-- 'laws.FnExactJoinSpaces': WHATEVER THE INPUT: true; the input reads as it did. -/
def fnExactJoinSpacesSpec : ChangeSpec := { name := "fnExactJoinSpaces", fn := fun _ => fun
  | [d1, d2] => { results := [.lit (.bool true)], args := [d1, d2] }
  | _ => none }
def fnExactJoinSpacesRow : OpenClaim := { program := "ytmhoemdclnlgaaa", sum := "a81d7c4f5128380112296e9a5240f0f96a277c5fbb202b773f63b09ca8a3549c", func := "loop.example/g01128/laws.FnExactJoinSpaces", spec := "fnExactJoinSpaces", unfollowed := true, recurses := true, apart := false }
def FnExactJoinSpacesSaid : Prop := fnExactJoinSpacesRow.holds Try.pinned (OpenSpec.ofChange fnExactJoinSpacesSpec)

/-- ITS FALSE NEIGHBOUR: 'it returns false'. Refute it at one input. -/
def fnExactJoinSpacesWrong : ChangeSpec := { name := "fnExactJoinSpaces", fn := fun _ => fun
  | [d1, d2] => { results := [.lit (.bool false)], args := [d1, d2] }
  | _ => none }
def FnExactJoinSpacesWrongFalsely : Prop := fnExactJoinSpacesRow.holds Try.pinned (OpenSpec.ofChange fnExactJoinSpacesWrong)

/-- 'laws.FnExactSlideSpace': WHATEVER THE INPUT: true; the input reads as it did. -/
def fnExactSlideSpaceSpec : ChangeSpec := { name := "fnExactSlideSpace", fn := fun _ => fun
  | [d1, d2] => { results := [.lit (.bool true)], args := [d1, d2] }
  | _ => none }
def fnExactSlideSpaceRow : OpenClaim := { program := "ytmhoemdclnlgaaa", sum := "a81d7c4f5128380112296e9a5240f0f96a277c5fbb202b773f63b09ca8a3549c", func := "loop.example/g01128/laws.FnExactSlideSpace", spec := "fnExactSlideSpace", unfollowed := true, recurses := true, apart := false }
def FnExactSlideSpaceSaid : Prop := fnExactSlideSpaceRow.holds Try.pinned (OpenSpec.ofChange fnExactSlideSpaceSpec)

/-- ITS FALSE NEIGHBOUR: 'it returns false'. Refute it at one input. -/
def fnExactSlideSpaceWrong : ChangeSpec := { name := "fnExactSlideSpace", fn := fun _ => fun
  | [d1, d2] => { results := [.lit (.bool false)], args := [d1, d2] }
  | _ => none }
def FnExactSlideSpaceWrongFalsely : Prop := fnExactSlideSpaceRow.holds Try.pinned (OpenSpec.ofChange fnExactSlideSpaceWrong)

/-- 'laws.FnExactCountShortest': WHATEVER THE INPUT: true; the input reads as it did. -/
def fnExactCountShortestSpec : ChangeSpec := { name := "fnExactCountShortest", fn := fun _ => fun
  | [d1, d2, d3] => { results := [.lit (.bool true)], args := [d1, d2, d3] }
  | _ => none }
def fnExactCountShortestRow : OpenClaim := { program := "ytmhoemdclnlgaaa", sum := "a81d7c4f5128380112296e9a5240f0f96a277c5fbb202b773f63b09ca8a3549c", func := "loop.example/g01128/laws.FnExactCountShortest", spec := "fnExactCountShortest", unfollowed := true, recurses := true, apart := false }
def FnExactCountShortestSaid : Prop := fnExactCountShortestRow.holds Try.pinned (OpenSpec.ofChange fnExactCountShortestSpec)

/-- ITS FALSE NEIGHBOUR: 'it returns false'. Refute it at one input. -/
def fnExactCountShortestWrong : ChangeSpec := { name := "fnExactCountShortest", fn := fun _ => fun
  | [d1, d2, d3] => { results := [.lit (.bool false)], args := [d1, d2, d3] }
  | _ => none }
def FnExactCountShortestWrongFalsely : Prop := fnExactCountShortestRow.holds Try.pinned (OpenSpec.ofChange fnExactCountShortestWrong)

/- THE SECOND FORM. 'bulk': how many values and letters a reading holds, each counted each time it is reached (what is shared counts as often as it is met; a slice's spare places count too). A statement '..UptoSaid' is the law's where the arguments, and the package variables that the reading takes, are together of bulk at most 1048576: NARROWER than '..Said'. Prove '..Said' where nothing that the law and all that it calls make is longer than what came in: it says more and counts as full. Else prove '..UptoSaid'. A law counts once. -/
mutual
def uptoBulk {H : Type} : DataW H → Nat
  | .lit (.string bytes) => bytes.length + 1
  | .lit _ => 1
  | .nil => 1
  | .ptr d => uptoBulk d + 1
  | .slice elems spare => uptoBulkAll elems + uptoBulkAll spare + 1
  | .agg parts => uptoBulkAll parts + 1
  | .iface _ d => uptoBulk d + 1
  | .map entries => uptoBulkEntries entries + 1
  | .held _ => 1
def uptoBulkAll {H : Type} : List (DataW H) → Nat
  | [] => 0
  | d :: r => uptoBulk d + uptoBulkAll r
def uptoBulkEntries {H : Type} : List (Lit × DataW H) → Nat
  | [] => 0
  | x :: r => uptoBulkEntry x + uptoBulkEntries r
def uptoBulkEntry {H : Type} : Lit × DataW H → Nat
  | (.string bytes, d) => bytes.length + uptoBulk d + 1
  | (_, d) => uptoBulk d + 1
 end
def uptoSmall : (H : Type) → List (DataW H) → Bool := fun _ ds => decide (uptoBulkAll ds ≤ 1048576)
def OpenSpec.upto (s : _root_.Go.ChangeSpec) : _root_.Go.OpenSpec := { _root_.Go.OpenSpec.ofChange s with cond := some uptoSmall }

/-- 'laws.FnExactDistancesFrom', WHERE WHAT IT READS IS OF BULK AT MOST 1048576: true; the input reads as it did. -/
def fnExactDistancesFromUptoRow : OpenClaim := { program := "ytmhoemdclnlgaaa", sum := "a81d7c4f5128380112296e9a5240f0f96a277c5fbb202b773f63b09ca8a3549c", func := "loop.example/g01128/laws.FnExactDistancesFrom", spec := "fnExactDistancesFrom", unfollowed := true, recurses := true, apart := false, narrowed := true }
def FnExactDistancesFromUptoSaid : Prop := fnExactDistancesFromUptoRow.holds Try.pinned (OpenSpec.upto fnExactDistancesFromSpec)

/-- 'laws.FnExactBestOfKind', WHERE WHAT IT READS IS OF BULK AT MOST 1048576: true; the input reads as it did. -/
def fnExactBestOfKindUptoRow : OpenClaim := { program := "ytmhoemdclnlgaaa", sum := "a81d7c4f5128380112296e9a5240f0f96a277c5fbb202b773f63b09ca8a3549c", func := "loop.example/g01128/laws.FnExactBestOfKind", spec := "fnExactBestOfKind", unfollowed := true, recurses := true, apart := false, narrowed := true }
def FnExactBestOfKindUptoSaid : Prop := fnExactBestOfKindUptoRow.holds Try.pinned (OpenSpec.upto fnExactBestOfKindSpec)

/-- 'laws.FnExactCutPlaces', WHERE WHAT IT READS IS OF BULK AT MOST 1048576: true; the input reads as it did. -/
def fnExactCutPlacesUptoRow : OpenClaim := { program := "ytmhoemdclnlgaaa", sum := "a81d7c4f5128380112296e9a5240f0f96a277c5fbb202b773f63b09ca8a3549c", func := "loop.example/g01128/laws.FnExactCutPlaces", spec := "fnExactCutPlaces", unfollowed := true, recurses := true, apart := false, narrowed := true }
def FnExactCutPlacesUptoSaid : Prop := fnExactCutPlacesUptoRow.holds Try.pinned (OpenSpec.upto fnExactCutPlacesSpec)

/-- 'laws.FnExactProductSpace', WHERE WHAT IT READS IS OF BULK AT MOST 1048576: true; the input reads as it did. -/
def fnExactProductSpaceUptoRow : OpenClaim := { program := "ytmhoemdclnlgaaa", sum := "a81d7c4f5128380112296e9a5240f0f96a277c5fbb202b773f63b09ca8a3549c", func := "loop.example/g01128/laws.FnExactProductSpace", spec := "fnExactProductSpace", unfollowed := true, recurses := true, apart := false, narrowed := true }
def FnExactProductSpaceUptoSaid : Prop := fnExactProductSpaceUptoRow.holds Try.pinned (OpenSpec.upto fnExactProductSpaceSpec)

/-- 'laws.FnExactFirstWay', WHERE WHAT IT READS IS OF BULK AT MOST 1048576: true; the input reads as it did. -/
def fnExactFirstWayUptoRow : OpenClaim := { program := "ytmhoemdclnlgaaa", sum := "a81d7c4f5128380112296e9a5240f0f96a277c5fbb202b773f63b09ca8a3549c", func := "loop.example/g01128/laws.FnExactFirstWay", spec := "fnExactFirstWay", unfollowed := true, recurses := true, apart := false, narrowed := true }
def FnExactFirstWayUptoSaid : Prop := fnExactFirstWayUptoRow.holds Try.pinned (OpenSpec.upto fnExactFirstWaySpec)

/-- 'laws.FnExactParityOf', WHERE WHAT IT READS IS OF BULK AT MOST 1048576: true; the input reads as it did. -/
def fnExactParityOfUptoRow : OpenClaim := { program := "ytmhoemdclnlgaaa", sum := "a81d7c4f5128380112296e9a5240f0f96a277c5fbb202b773f63b09ca8a3549c", func := "loop.example/g01128/laws.FnExactParityOf", spec := "fnExactParityOf", unfollowed := true, recurses := true, apart := false, narrowed := true }
def FnExactParityOfUptoSaid : Prop := fnExactParityOfUptoRow.holds Try.pinned (OpenSpec.upto fnExactParityOfSpec)

/-- 'laws.FnExactWideNumber', WHERE WHAT IT READS IS OF BULK AT MOST 1048576: true; the input reads as it did. -/
def fnExactWideNumberUptoRow : OpenClaim := { program := "ytmhoemdclnlgaaa", sum := "a81d7c4f5128380112296e9a5240f0f96a277c5fbb202b773f63b09ca8a3549c", func := "loop.example/g01128/laws.FnExactWideNumber", spec := "fnExactWideNumber", unfollowed := true, recurses := true, apart := false, narrowed := true }
def FnExactWideNumberUptoSaid : Prop := fnExactWideNumberUptoRow.holds Try.pinned (OpenSpec.upto fnExactWideNumberSpec)

/-- 'laws.FnExactAddSpace', WHERE WHAT IT READS IS OF BULK AT MOST 1048576: true; the input reads as it did. -/
def fnExactAddSpaceUptoRow : OpenClaim := { program := "ytmhoemdclnlgaaa", sum := "a81d7c4f5128380112296e9a5240f0f96a277c5fbb202b773f63b09ca8a3549c", func := "loop.example/g01128/laws.FnExactAddSpace", spec := "fnExactAddSpace", unfollowed := true, recurses := true, apart := false, narrowed := true }
def FnExactAddSpaceUptoSaid : Prop := fnExactAddSpaceUptoRow.holds Try.pinned (OpenSpec.upto fnExactAddSpaceSpec)

/-- 'laws.FnExactJumpSpace', WHERE WHAT IT READS IS OF BULK AT MOST 1048576: true; the input reads as it did. -/
def fnExactJumpSpaceUptoRow : OpenClaim := { program := "ytmhoemdclnlgaaa", sum := "a81d7c4f5128380112296e9a5240f0f96a277c5fbb202b773f63b09ca8a3549c", func := "loop.example/g01128/laws.FnExactJumpSpace", spec := "fnExactJumpSpace", unfollowed := true, recurses := true, apart := false, narrowed := true }
def FnExactJumpSpaceUptoSaid : Prop := fnExactJumpSpaceUptoRow.holds Try.pinned (OpenSpec.upto fnExactJumpSpaceSpec)

/-- 'laws.FnExactJoinSpaces', WHERE WHAT IT READS IS OF BULK AT MOST 1048576: true; the input reads as it did. -/
def fnExactJoinSpacesUptoRow : OpenClaim := { program := "ytmhoemdclnlgaaa", sum := "a81d7c4f5128380112296e9a5240f0f96a277c5fbb202b773f63b09ca8a3549c", func := "loop.example/g01128/laws.FnExactJoinSpaces", spec := "fnExactJoinSpaces", unfollowed := true, recurses := true, apart := false, narrowed := true }
def FnExactJoinSpacesUptoSaid : Prop := fnExactJoinSpacesUptoRow.holds Try.pinned (OpenSpec.upto fnExactJoinSpacesSpec)

/-- 'laws.FnExactSlideSpace', WHERE WHAT IT READS IS OF BULK AT MOST 1048576: true; the input reads as it did. -/
def fnExactSlideSpaceUptoRow : OpenClaim := { program := "ytmhoemdclnlgaaa", sum := "a81d7c4f5128380112296e9a5240f0f96a277c5fbb202b773f63b09ca8a3549c", func := "loop.example/g01128/laws.FnExactSlideSpace", spec := "fnExactSlideSpace", unfollowed := true, recurses := true, apart := false, narrowed := true }
def FnExactSlideSpaceUptoSaid : Prop := fnExactSlideSpaceUptoRow.holds Try.pinned (OpenSpec.upto fnExactSlideSpaceSpec)

/-- 'laws.FnExactCountShortest', WHERE WHAT IT READS IS OF BULK AT MOST 1048576: true; the input reads as it did. -/
def fnExactCountShortestUptoRow : OpenClaim := { program := "ytmhoemdclnlgaaa", sum := "a81d7c4f5128380112296e9a5240f0f96a277c5fbb202b773f63b09ca8a3549c", func := "loop.example/g01128/laws.FnExactCountShortest", spec := "fnExactCountShortest", unfollowed := true, recurses := true, apart := false, narrowed := true }
def FnExactCountShortestUptoSaid : Prop := fnExactCountShortestUptoRow.holds Try.pinned (OpenSpec.upto fnExactCountShortestSpec)

end Rows
end Go.Proofs.Ytmhoemdclnlgaaa
