/-
  No cell of these rows narrows 'for every input' (looked for: loops, veiled, ifaces, maps, wideKeys, modest, calm, conditions, laid).
  DERIVED. THE GIVEN ROWS OF THIS SEAT. 7 by the template 'for every input the law returns true; each argument reads behind the call as it read before'; 0 by the template 'total and deterministic' (their statements: YtadjbmcfgjmhkaaTotals.lean).
  GIVEN WITH THE SEED: the statements are not yours to turn. If you find one false, say at which input.
  Laid BY PROGRAM, IN A SANDBOX (cutbox-rows.mjs): the forced cells as the released guide's own fill.sh prints them over the translation 1026ec30a4073593… (all of the seat's roots in one cut). By AI agents, Wed Nov 11 2026. No macro, syntax, notation, axiom, sorry.
-/
import Derived.Test.YtadjbmcfgjmhkaaChecked
import GoSem.Claim
import GoSem.ClaimJoined
import GoSem.ClaimMapViews
import Derived.JoinedTies
import Derived.KernelRfl
namespace Go.Proofs.Ytadjbmcfgjmhkaa
/- THE CELL 'sum', in the pinned program and in every row, IS THE sha256 OF THE DUMP (.gsa) THAT YtadjbmcfgjmhkaaProg.lean LOADS. Nothing in Lean hashes anything: it is a label: what it is worth is what the hold of that sum in a sandbox is worth. -/
noncomputable def Try.pinned : Pinned := { name := "ytadjbmcfgjmhkaa", sum := "1026ec30a4073593649e033d5b575db873cb4c83f51b5c3f625160e4ec22293a", checked := Try.checked }
namespace Rows
def none {H : Type} : Left H := { results := [], args := [] }

/-- 'laws.FnExactIndependenceNumber': WHATEVER THE INPUT: true; the input reads as it did. -/
def fnExactIndependenceNumberSpec : ChangeSpec := { name := "fnExactIndependenceNumber", fn := fun _ => fun
  | [d] => { results := [.lit (.bool true)], args := [d] }
  | _ => none }
def fnExactIndependenceNumberRow : OpenClaim := { program := "ytadjbmcfgjmhkaa", sum := "1026ec30a4073593649e033d5b575db873cb4c83f51b5c3f625160e4ec22293a", func := "loop.example/g01128/laws.FnExactIndependenceNumber", spec := "fnExactIndependenceNumber", unfollowed := true, recurses := true, apart := false }
def FnExactIndependenceNumberSaid : Prop := fnExactIndependenceNumberRow.holds Try.pinned (OpenSpec.ofChange fnExactIndependenceNumberSpec)

/-- ITS FALSE NEIGHBOUR: 'it returns false'. Refute it at one input. -/
def fnExactIndependenceNumberWrong : ChangeSpec := { name := "fnExactIndependenceNumber", fn := fun _ => fun
  | [d] => { results := [.lit (.bool false)], args := [d] }
  | _ => none }
def FnExactIndependenceNumberWrongFalsely : Prop := fnExactIndependenceNumberRow.holds Try.pinned (OpenSpec.ofChange fnExactIndependenceNumberWrong)

/-- 'laws.FnExactIndependentSets': WHATEVER THE INPUT: true; the input reads as it did. -/
def fnExactIndependentSetsSpec : ChangeSpec := { name := "fnExactIndependentSets", fn := fun _ => fun
  | [d1, d2] => { results := [.lit (.bool true)], args := [d1, d2] }
  | _ => none }
def fnExactIndependentSetsRow : OpenClaim := { program := "ytadjbmcfgjmhkaa", sum := "1026ec30a4073593649e033d5b575db873cb4c83f51b5c3f625160e4ec22293a", func := "loop.example/g01128/laws.FnExactIndependentSets", spec := "fnExactIndependentSets", unfollowed := true, recurses := true, apart := false }
def FnExactIndependentSetsSaid : Prop := fnExactIndependentSetsRow.holds Try.pinned (OpenSpec.ofChange fnExactIndependentSetsSpec)

/-- ITS FALSE NEIGHBOUR: 'it returns false'. Refute it at one input. -/
def fnExactIndependentSetsWrong : ChangeSpec := { name := "fnExactIndependentSets", fn := fun _ => fun
  | [d1, d2] => { results := [.lit (.bool false)], args := [d1, d2] }
  | _ => none }
def FnExactIndependentSetsWrongFalsely : Prop := fnExactIndependentSetsRow.holds Try.pinned (OpenSpec.ofChange fnExactIndependentSetsWrong)

/-- 'laws.FnExactBestOfKind': WHATEVER THE INPUT: true; the input reads as it did. -/
def fnExactBestOfKindSpec : ChangeSpec := { name := "fnExactBestOfKind", fn := fun _ => fun
  | [d1, d2] => { results := [.lit (.bool true)], args := [d1, d2] }
  | _ => none }
def fnExactBestOfKindRow : OpenClaim := { program := "ytadjbmcfgjmhkaa", sum := "1026ec30a4073593649e033d5b575db873cb4c83f51b5c3f625160e4ec22293a", func := "loop.example/g01128/laws.FnExactBestOfKind", spec := "fnExactBestOfKind", unfollowed := true, recurses := true, apart := false }
def FnExactBestOfKindSaid : Prop := fnExactBestOfKindRow.holds Try.pinned (OpenSpec.ofChange fnExactBestOfKindSpec)

/-- ITS FALSE NEIGHBOUR: 'it returns false'. Refute it at one input. -/
def fnExactBestOfKindWrong : ChangeSpec := { name := "fnExactBestOfKind", fn := fun _ => fun
  | [d1, d2] => { results := [.lit (.bool false)], args := [d1, d2] }
  | _ => none }
def FnExactBestOfKindWrongFalsely : Prop := fnExactBestOfKindRow.holds Try.pinned (OpenSpec.ofChange fnExactBestOfKindWrong)

/-- 'laws.FnExactWideNumber': WHATEVER THE INPUT: true; the input reads as it did. -/
def fnExactWideNumberSpec : ChangeSpec := { name := "fnExactWideNumber", fn := fun _ => fun
  | [d1, d2] => { results := [.lit (.bool true)], args := [d1, d2] }
  | _ => none }
def fnExactWideNumberRow : OpenClaim := { program := "ytadjbmcfgjmhkaa", sum := "1026ec30a4073593649e033d5b575db873cb4c83f51b5c3f625160e4ec22293a", func := "loop.example/g01128/laws.FnExactWideNumber", spec := "fnExactWideNumber", unfollowed := true, recurses := true, apart := false }
def FnExactWideNumberSaid : Prop := fnExactWideNumberRow.holds Try.pinned (OpenSpec.ofChange fnExactWideNumberSpec)

/-- ITS FALSE NEIGHBOUR: 'it returns false'. Refute it at one input. -/
def fnExactWideNumberWrong : ChangeSpec := { name := "fnExactWideNumber", fn := fun _ => fun
  | [d1, d2] => { results := [.lit (.bool false)], args := [d1, d2] }
  | _ => none }
def FnExactWideNumberWrongFalsely : Prop := fnExactWideNumberRow.holds Try.pinned (OpenSpec.ofChange fnExactWideNumberWrong)

/-- 'laws.FnExactAddSpace': WHATEVER THE INPUT: true; the input reads as it did. -/
def fnExactAddSpaceSpec : ChangeSpec := { name := "fnExactAddSpace", fn := fun _ => fun
  | [d1, d2] => { results := [.lit (.bool true)], args := [d1, d2] }
  | _ => none }
def fnExactAddSpaceRow : OpenClaim := { program := "ytadjbmcfgjmhkaa", sum := "1026ec30a4073593649e033d5b575db873cb4c83f51b5c3f625160e4ec22293a", func := "loop.example/g01128/laws.FnExactAddSpace", spec := "fnExactAddSpace", unfollowed := true, recurses := true, apart := false }
def FnExactAddSpaceSaid : Prop := fnExactAddSpaceRow.holds Try.pinned (OpenSpec.ofChange fnExactAddSpaceSpec)

/-- ITS FALSE NEIGHBOUR: 'it returns false'. Refute it at one input. -/
def fnExactAddSpaceWrong : ChangeSpec := { name := "fnExactAddSpace", fn := fun _ => fun
  | [d1, d2] => { results := [.lit (.bool false)], args := [d1, d2] }
  | _ => none }
def FnExactAddSpaceWrongFalsely : Prop := fnExactAddSpaceRow.holds Try.pinned (OpenSpec.ofChange fnExactAddSpaceWrong)

/-- 'laws.FnExactJumpSpace': WHATEVER THE INPUT: true; the input reads as it did. -/
def fnExactJumpSpaceSpec : ChangeSpec := { name := "fnExactJumpSpace", fn := fun _ => fun
  | [d1, d2] => { results := [.lit (.bool true)], args := [d1, d2] }
  | _ => none }
def fnExactJumpSpaceRow : OpenClaim := { program := "ytadjbmcfgjmhkaa", sum := "1026ec30a4073593649e033d5b575db873cb4c83f51b5c3f625160e4ec22293a", func := "loop.example/g01128/laws.FnExactJumpSpace", spec := "fnExactJumpSpace", unfollowed := true, recurses := true, apart := false }
def FnExactJumpSpaceSaid : Prop := fnExactJumpSpaceRow.holds Try.pinned (OpenSpec.ofChange fnExactJumpSpaceSpec)

/-- ITS FALSE NEIGHBOUR: 'it returns false'. Refute it at one input. -/
def fnExactJumpSpaceWrong : ChangeSpec := { name := "fnExactJumpSpace", fn := fun _ => fun
  | [d1, d2] => { results := [.lit (.bool false)], args := [d1, d2] }
  | _ => none }
def FnExactJumpSpaceWrongFalsely : Prop := fnExactJumpSpaceRow.holds Try.pinned (OpenSpec.ofChange fnExactJumpSpaceWrong)

/-- 'laws.FnExactSlideSpace': WHATEVER THE INPUT: true; the input reads as it did. -/
def fnExactSlideSpaceSpec : ChangeSpec := { name := "fnExactSlideSpace", fn := fun _ => fun
  | [d1, d2] => { results := [.lit (.bool true)], args := [d1, d2] }
  | _ => none }
def fnExactSlideSpaceRow : OpenClaim := { program := "ytadjbmcfgjmhkaa", sum := "1026ec30a4073593649e033d5b575db873cb4c83f51b5c3f625160e4ec22293a", func := "loop.example/g01128/laws.FnExactSlideSpace", spec := "fnExactSlideSpace", unfollowed := true, recurses := true, apart := false }
def FnExactSlideSpaceSaid : Prop := fnExactSlideSpaceRow.holds Try.pinned (OpenSpec.ofChange fnExactSlideSpaceSpec)

/-- ITS FALSE NEIGHBOUR: 'it returns false'. Refute it at one input. -/
def fnExactSlideSpaceWrong : ChangeSpec := { name := "fnExactSlideSpace", fn := fun _ => fun
  | [d1, d2] => { results := [.lit (.bool false)], args := [d1, d2] }
  | _ => none }
def FnExactSlideSpaceWrongFalsely : Prop := fnExactSlideSpaceRow.holds Try.pinned (OpenSpec.ofChange fnExactSlideSpaceWrong)

/- THE SECOND FORM. 'bulk': how many values and letters a reading holds, each counted each time it is reached (what is shared counts as often as it is met; a slice's spare places count too). A statement '..UptoSaid' is the law's where the arguments, and the package variables that the reading takes, are together of bulk at most 1048576: NARROWER than '..Said'. Prove '..Said' where nothing that the law and all that it calls make is longer than what came in: it says more and counts as full. Else prove '..UptoSaid'. A law counts once. -/
mutual
def uptoBulk {H : Type} : DataW H → Nat
  | .lit (.string bytes) => bytes.length + 1
  | .lit _ => 1
  | .nil => 1
  | .ptr d => uptoBulk d + 1
  | .slice elems spare => uptoBulkAll elems + uptoBulkAll spare + 1
  | .agg parts => uptoBulkAll parts + 1
  | .iface _ d => uptoBulk d + 1
  | .map entries => uptoBulkEntries entries + 1
  | .held _ => 1
def uptoBulkAll {H : Type} : List (DataW H) → Nat
  | [] => 0
  | d :: r => uptoBulk d + uptoBulkAll r
def uptoBulkEntries {H : Type} : List (Lit × DataW H) → Nat
  | [] => 0
  | x :: r => uptoBulkEntry x + uptoBulkEntries r
def uptoBulkEntry {H : Type} : Lit × DataW H → Nat
  | (.string bytes, d) => bytes.length + uptoBulk d + 1
  | (_, d) => uptoBulk d + 1
 end
def uptoSmall : (H : Type) → List (DataW H) → Bool := fun _ ds => decide (uptoBulkAll ds ≤ 1048576)
def OpenSpec.upto (s : _root_.Go.ChangeSpec) : _root_.Go.OpenSpec := { _root_.Go.OpenSpec.ofChange s with cond := some uptoSmall }

/-- 'laws.FnExactIndependenceNumber', WHERE WHAT IT READS IS OF BULK AT MOST 1048576: true; the input reads as it did. -/
def fnExactIndependenceNumberUptoRow : OpenClaim := { program := "ytadjbmcfgjmhkaa", sum := "1026ec30a4073593649e033d5b575db873cb4c83f51b5c3f625160e4ec22293a", func := "loop.example/g01128/laws.FnExactIndependenceNumber", spec := "fnExactIndependenceNumber", unfollowed := true, recurses := true, apart := false, narrowed := true }
def FnExactIndependenceNumberUptoSaid : Prop := fnExactIndependenceNumberUptoRow.holds Try.pinned (OpenSpec.upto fnExactIndependenceNumberSpec)

/-- 'laws.FnExactIndependentSets', WHERE WHAT IT READS IS OF BULK AT MOST 1048576: true; the input reads as it did. -/
def fnExactIndependentSetsUptoRow : OpenClaim := { program := "ytadjbmcfgjmhkaa", sum := "1026ec30a4073593649e033d5b575db873cb4c83f51b5c3f625160e4ec22293a", func := "loop.example/g01128/laws.FnExactIndependentSets", spec := "fnExactIndependentSets", unfollowed := true, recurses := true, apart := false, narrowed := true }
def FnExactIndependentSetsUptoSaid : Prop := fnExactIndependentSetsUptoRow.holds Try.pinned (OpenSpec.upto fnExactIndependentSetsSpec)

/-- 'laws.FnExactBestOfKind', WHERE WHAT IT READS IS OF BULK AT MOST 1048576: true; the input reads as it did. -/
def fnExactBestOfKindUptoRow : OpenClaim := { program := "ytadjbmcfgjmhkaa", sum := "1026ec30a4073593649e033d5b575db873cb4c83f51b5c3f625160e4ec22293a", func := "loop.example/g01128/laws.FnExactBestOfKind", spec := "fnExactBestOfKind", unfollowed := true, recurses := true, apart := false, narrowed := true }
def FnExactBestOfKindUptoSaid : Prop := fnExactBestOfKindUptoRow.holds Try.pinned (OpenSpec.upto fnExactBestOfKindSpec)

/-- 'laws.FnExactWideNumber', WHERE WHAT IT READS IS OF BULK AT MOST 1048576: true; the input reads as it did. -/
def fnExactWideNumberUptoRow : OpenClaim := { program := "ytadjbmcfgjmhkaa", sum := "1026ec30a4073593649e033d5b575db873cb4c83f51b5c3f625160e4ec22293a", func := "loop.example/g01128/laws.FnExactWideNumber", spec := "fnExactWideNumber", unfollowed := true, recurses := true, apart := false, narrowed := true }
def FnExactWideNumberUptoSaid : Prop := fnExactWideNumberUptoRow.holds Try.pinned (OpenSpec.upto fnExactWideNumberSpec)

/-- 'laws.FnExactAddSpace', WHERE WHAT IT READS IS OF BULK AT MOST 1048576: true; the input reads as it did. -/
def fnExactAddSpaceUptoRow : OpenClaim := { program := "ytadjbmcfgjmhkaa", sum := "1026ec30a4073593649e033d5b575db873cb4c83f51b5c3f625160e4ec22293a", func := "loop.example/g01128/laws.FnExactAddSpace", spec := "fnExactAddSpace", unfollowed := true, recurses := true, apart := false, narrowed := true }
def FnExactAddSpaceUptoSaid : Prop := fnExactAddSpaceUptoRow.holds Try.pinned (OpenSpec.upto fnExactAddSpaceSpec)

/-- 'laws.FnExactJumpSpace', WHERE WHAT IT READS IS OF BULK AT MOST 1048576: true; the input reads as it did. -/
def fnExactJumpSpaceUptoRow : OpenClaim := { program := "ytadjbmcfgjmhkaa", sum := "1026ec30a4073593649e033d5b575db873cb4c83f51b5c3f625160e4ec22293a", func := "loop.example/g01128/laws.FnExactJumpSpace", spec := "fnExactJumpSpace", unfollowed := true, recurses := true, apart := false, narrowed := true }
def FnExactJumpSpaceUptoSaid : Prop := fnExactJumpSpaceUptoRow.holds Try.pinned (OpenSpec.upto fnExactJumpSpaceSpec)

/-- 'laws.FnExactSlideSpace', WHERE WHAT IT READS IS OF BULK AT MOST 1048576: true; the input reads as it did. -/
def fnExactSlideSpaceUptoRow : OpenClaim := { program := "ytadjbmcfgjmhkaa", sum := "1026ec30a4073593649e033d5b575db873cb4c83f51b5c3f625160e4ec22293a", func := "loop.example/g01128/laws.FnExactSlideSpace", spec := "fnExactSlideSpace", unfollowed := true, recurses := true, apart := false, narrowed := true }
def FnExactSlideSpaceUptoSaid : Prop := fnExactSlideSpaceUptoRow.holds Try.pinned (OpenSpec.upto fnExactSlideSpaceSpec)

end Rows
end Go.Proofs.Ytadjbmcfgjmhkaa
