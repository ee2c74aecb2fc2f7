/-
  No cell of these rows narrows 'for every input' (looked for: loops, veiled, ifaces, maps, wideKeys, modest, calm, conditions, laid).
  DERIVED. THE GIVEN ROWS OF THIS SEAT. 12 by the template 'for every input the law returns true; each argument reads behind the call as it read before'; 0 by the template 'total and deterministic' (their statements: YtnlmijnbfdhdkaaTotals.lean).
  GIVEN WITH THE SEED: the statements are not yours to turn. If you find one false, say at which input.
  Laid BY PROGRAM, IN A SANDBOX (cutbox-rows.mjs): the forced cells as the released guide's own fill.sh prints them over the translation 02200fdc531e9dd4… (all of the seat's roots in one cut). By AI agents, Wed Nov 11 2026. No macro, syntax, notation, axiom, sorry.
-/
import Derived.Test.YtnlmijnbfdhdkaaChecked
import GoSem.Claim
import GoSem.ClaimJoined
import GoSem.ClaimMapViews
import Derived.JoinedTies
import Derived.KernelRfl
namespace Go.Proofs.Ytnlmijnbfdhdkaa
/- THE CELL 'sum', in the pinned program and in every row, IS THE sha256 OF THE DUMP (.gsa) THAT YtnlmijnbfdhdkaaProg.lean LOADS. Nothing in Lean hashes anything: it is a label: what it is worth is what the hold of that sum in a sandbox is worth. -/
noncomputable def Try.pinned : Pinned := { name := "ytnlmijnbfdhdkaa", sum := "02200fdc531e9dd4e58b5864e15517774b21bbaab1da1a2238de0c9f48d6f316", checked := Try.checked }
namespace Rows
def none {H : Type} : Left H := { results := [], args := [] }

/-- 'laws.FnExactIsTightSet': WHATEVER THE INPUT: true; the input reads as it did. -/
def fnExactIsTightSetSpec : ChangeSpec := { name := "fnExactIsTightSet", fn := fun _ => fun
  | [d1, d2, d3] => { results := [.lit (.bool true)], args := [d1, d2, d3] }
  | _ => none }
def fnExactIsTightSetRow : OpenClaim := { program := "ytnlmijnbfdhdkaa", sum := "02200fdc531e9dd4e58b5864e15517774b21bbaab1da1a2238de0c9f48d6f316", func := "loop.example/g01128/laws.FnExactIsTightSet", spec := "fnExactIsTightSet", unfollowed := true, recurses := true, apart := false }
def FnExactIsTightSetSaid : Prop := fnExactIsTightSetRow.holds Try.pinned (OpenSpec.ofChange fnExactIsTightSetSpec)

/-- ITS FALSE NEIGHBOUR: 'it returns false'. Refute it at one input. -/
def fnExactIsTightSetWrong : ChangeSpec := { name := "fnExactIsTightSet", fn := fun _ => fun
  | [d1, d2, d3] => { results := [.lit (.bool false)], args := [d1, d2, d3] }
  | _ => none }
def FnExactIsTightSetWrongFalsely : Prop := fnExactIsTightSetRow.holds Try.pinned (OpenSpec.ofChange fnExactIsTightSetWrong)

/-- 'laws.FnExactKindWays': WHATEVER THE INPUT: true; the input reads as it did. -/
def fnExactKindWaysSpec : ChangeSpec := { name := "fnExactKindWays", fn := fun _ => fun
  | [d1, d2, d3] => { results := [.lit (.bool true)], args := [d1, d2, d3] }
  | _ => none }
def fnExactKindWaysRow : OpenClaim := { program := "ytnlmijnbfdhdkaa", sum := "02200fdc531e9dd4e58b5864e15517774b21bbaab1da1a2238de0c9f48d6f316", func := "loop.example/g01128/laws.FnExactKindWays", spec := "fnExactKindWays", unfollowed := true, recurses := true, apart := false }
def FnExactKindWaysSaid : Prop := fnExactKindWaysRow.holds Try.pinned (OpenSpec.ofChange fnExactKindWaysSpec)

/-- ITS FALSE NEIGHBOUR: 'it returns false'. Refute it at one input. -/
def fnExactKindWaysWrong : ChangeSpec := { name := "fnExactKindWays", fn := fun _ => fun
  | [d1, d2, d3] => { results := [.lit (.bool false)], args := [d1, d2, d3] }
  | _ => none }
def FnExactKindWaysWrongFalsely : Prop := fnExactKindWaysRow.holds Try.pinned (OpenSpec.ofChange fnExactKindWaysWrong)

/-- 'laws.FnExactGreedyTight': WHATEVER THE INPUT: true; the input reads as it did. -/
def fnExactGreedyTightSpec : ChangeSpec := { name := "fnExactGreedyTight", fn := fun _ => fun
  | [d1, d2, d3] => { results := [.lit (.bool true)], args := [d1, d2, d3] }
  | _ => none }
def fnExactGreedyTightRow : OpenClaim := { program := "ytnlmijnbfdhdkaa", sum := "02200fdc531e9dd4e58b5864e15517774b21bbaab1da1a2238de0c9f48d6f316", func := "loop.example/g01128/laws.FnExactGreedyTight", spec := "fnExactGreedyTight", unfollowed := true, recurses := true, apart := false }
def FnExactGreedyTightSaid : Prop := fnExactGreedyTightRow.holds Try.pinned (OpenSpec.ofChange fnExactGreedyTightSpec)

/-- ITS FALSE NEIGHBOUR: 'it returns false'. Refute it at one input. -/
def fnExactGreedyTightWrong : ChangeSpec := { name := "fnExactGreedyTight", fn := fun _ => fun
  | [d1, d2, d3] => { results := [.lit (.bool false)], args := [d1, d2, d3] }
  | _ => none }
def FnExactGreedyTightWrongFalsely : Prop := fnExactGreedyTightRow.holds Try.pinned (OpenSpec.ofChange fnExactGreedyTightWrong)

/-- 'laws.FnExactTokenBound': WHATEVER THE INPUT: true; the input reads as it did. -/
def fnExactTokenBoundSpec : ChangeSpec := { name := "fnExactTokenBound", fn := fun _ => fun
  | [d1, d2, d3] => { results := [.lit (.bool true)], args := [d1, d2, d3] }
  | _ => none }
def fnExactTokenBoundRow : OpenClaim := { program := "ytnlmijnbfdhdkaa", sum := "02200fdc531e9dd4e58b5864e15517774b21bbaab1da1a2238de0c9f48d6f316", func := "loop.example/g01128/laws.FnExactTokenBound", spec := "fnExactTokenBound", unfollowed := true, recurses := true, apart := false }
def FnExactTokenBoundSaid : Prop := fnExactTokenBoundRow.holds Try.pinned (OpenSpec.ofChange fnExactTokenBoundSpec)

/-- ITS FALSE NEIGHBOUR: 'it returns false'. Refute it at one input. -/
def fnExactTokenBoundWrong : ChangeSpec := { name := "fnExactTokenBound", fn := fun _ => fun
  | [d1, d2, d3] => { results := [.lit (.bool false)], args := [d1, d2, d3] }
  | _ => none }
def FnExactTokenBoundWrongFalsely : Prop := fnExactTokenBoundRow.holds Try.pinned (OpenSpec.ofChange fnExactTokenBoundWrong)

/-- 'laws.FnExactInducedSpace': WHATEVER THE INPUT: true; the input reads as it did. -/
def fnExactInducedSpaceSpec : ChangeSpec := { name := "fnExactInducedSpace", fn := fun _ => fun
  | [d1, d2] => { results := [.lit (.bool true)], args := [d1, d2] }
  | _ => none }
def fnExactInducedSpaceRow : OpenClaim := { program := "ytnlmijnbfdhdkaa", sum := "02200fdc531e9dd4e58b5864e15517774b21bbaab1da1a2238de0c9f48d6f316", func := "loop.example/g01128/laws.FnExactInducedSpace", spec := "fnExactInducedSpace", unfollowed := true, recurses := true, apart := false }
def FnExactInducedSpaceSaid : Prop := fnExactInducedSpaceRow.holds Try.pinned (OpenSpec.ofChange fnExactInducedSpaceSpec)

/-- ITS FALSE NEIGHBOUR: 'it returns false'. Refute it at one input. -/
def fnExactInducedSpaceWrong : ChangeSpec := { name := "fnExactInducedSpace", fn := fun _ => fun
  | [d1, d2] => { results := [.lit (.bool false)], args := [d1, d2] }
  | _ => none }
def FnExactInducedSpaceWrongFalsely : Prop := fnExactInducedSpaceRow.holds Try.pinned (OpenSpec.ofChange fnExactInducedSpaceWrong)

/-- 'laws.FnExactStepsFrom': WHATEVER THE INPUT: true; the input reads as it did. -/
def fnExactStepsFromSpec : ChangeSpec := { name := "fnExactStepsFrom", fn := fun _ => fun
  | [d1, d2] => { results := [.lit (.bool true)], args := [d1, d2] }
  | _ => none }
def fnExactStepsFromRow : OpenClaim := { program := "ytnlmijnbfdhdkaa", sum := "02200fdc531e9dd4e58b5864e15517774b21bbaab1da1a2238de0c9f48d6f316", func := "loop.example/g01128/laws.FnExactStepsFrom", spec := "fnExactStepsFrom", unfollowed := true, recurses := true, apart := false }
def FnExactStepsFromSaid : Prop := fnExactStepsFromRow.holds Try.pinned (OpenSpec.ofChange fnExactStepsFromSpec)

/-- ITS FALSE NEIGHBOUR: 'it returns false'. Refute it at one input. -/
def fnExactStepsFromWrong : ChangeSpec := { name := "fnExactStepsFrom", fn := fun _ => fun
  | [d1, d2] => { results := [.lit (.bool false)], args := [d1, d2] }
  | _ => none }
def FnExactStepsFromWrongFalsely : Prop := fnExactStepsFromRow.holds Try.pinned (OpenSpec.ofChange fnExactStepsFromWrong)

/-- 'laws.FnExactIndependenceNumber': WHATEVER THE INPUT: true; the input reads as it did. -/
def fnExactIndependenceNumberSpec : ChangeSpec := { name := "fnExactIndependenceNumber", fn := fun _ => fun
  | [d] => { results := [.lit (.bool true)], args := [d] }
  | _ => none }
def fnExactIndependenceNumberRow : OpenClaim := { program := "ytnlmijnbfdhdkaa", sum := "02200fdc531e9dd4e58b5864e15517774b21bbaab1da1a2238de0c9f48d6f316", func := "loop.example/g01128/laws.FnExactIndependenceNumber", spec := "fnExactIndependenceNumber", unfollowed := true, recurses := true, apart := false }
def FnExactIndependenceNumberSaid : Prop := fnExactIndependenceNumberRow.holds Try.pinned (OpenSpec.ofChange fnExactIndependenceNumberSpec)

/-- ITS FALSE NEIGHBOUR: 'it returns false'. Refute it at one input. -/
def fnExactIndependenceNumberWrong : ChangeSpec := { name := "fnExactIndependenceNumber", fn := fun _ => fun
  | [d] => { results := [.lit (.bool false)], args := [d] }
  | _ => none }
def FnExactIndependenceNumberWrongFalsely : Prop := fnExactIndependenceNumberRow.holds Try.pinned (OpenSpec.ofChange fnExactIndependenceNumberWrong)

/-- 'laws.FnExactFrozenPlaces': WHATEVER THE INPUT: true; the input reads as it did. -/
def fnExactFrozenPlacesSpec : ChangeSpec := { name := "fnExactFrozenPlaces", fn := fun _ => fun
  | [d] => { results := [.lit (.bool true)], args := [d] }
  | _ => none }
def fnExactFrozenPlacesRow : OpenClaim := { program := "ytnlmijnbfdhdkaa", sum := "02200fdc531e9dd4e58b5864e15517774b21bbaab1da1a2238de0c9f48d6f316", func := "loop.example/g01128/laws.FnExactFrozenPlaces", spec := "fnExactFrozenPlaces", unfollowed := true, recurses := true, apart := false }
def FnExactFrozenPlacesSaid : Prop := fnExactFrozenPlacesRow.holds Try.pinned (OpenSpec.ofChange fnExactFrozenPlacesSpec)

/-- ITS FALSE NEIGHBOUR: 'it returns false'. Refute it at one input. -/
def fnExactFrozenPlacesWrong : ChangeSpec := { name := "fnExactFrozenPlaces", fn := fun _ => fun
  | [d] => { results := [.lit (.bool false)], args := [d] }
  | _ => none }
def FnExactFrozenPlacesWrongFalsely : Prop := fnExactFrozenPlacesRow.holds Try.pinned (OpenSpec.ofChange fnExactFrozenPlacesWrong)

/-- 'laws.FnExactIndependentSets': WHATEVER THE INPUT: true; the input reads as it did. -/
def fnExactIndependentSetsSpec : ChangeSpec := { name := "fnExactIndependentSets", fn := fun _ => fun
  | [d1, d2] => { results := [.lit (.bool true)], args := [d1, d2] }
  | _ => none }
def fnExactIndependentSetsRow : OpenClaim := { program := "ytnlmijnbfdhdkaa", sum := "02200fdc531e9dd4e58b5864e15517774b21bbaab1da1a2238de0c9f48d6f316", func := "loop.example/g01128/laws.FnExactIndependentSets", spec := "fnExactIndependentSets", unfollowed := true, recurses := true, apart := false }
def FnExactIndependentSetsSaid : Prop := fnExactIndependentSetsRow.holds Try.pinned (OpenSpec.ofChange fnExactIndependentSetsSpec)

/-- ITS FALSE NEIGHBOUR: 'it returns false'. Refute it at one input. -/
def fnExactIndependentSetsWrong : ChangeSpec := { name := "fnExactIndependentSets", fn := fun _ => fun
  | [d1, d2] => { results := [.lit (.bool false)], args := [d1, d2] }
  | _ => none }
def FnExactIndependentSetsWrongFalsely : Prop := fnExactIndependentSetsRow.holds Try.pinned (OpenSpec.ofChange fnExactIndependentSetsWrong)

/-- 'laws.FnExactPartsOf': WHATEVER THE INPUT: true; the input reads as it did. -/
def fnExactPartsOfSpec : ChangeSpec := { name := "fnExactPartsOf", fn := fun _ => fun
  | [d] => { results := [.lit (.bool true)], args := [d] }
  | _ => none }
def fnExactPartsOfRow : OpenClaim := { program := "ytnlmijnbfdhdkaa", sum := "02200fdc531e9dd4e58b5864e15517774b21bbaab1da1a2238de0c9f48d6f316", func := "loop.example/g01128/laws.FnExactPartsOf", spec := "fnExactPartsOf", unfollowed := true, recurses := true, apart := false }
def FnExactPartsOfSaid : Prop := fnExactPartsOfRow.holds Try.pinned (OpenSpec.ofChange fnExactPartsOfSpec)

/-- ITS FALSE NEIGHBOUR: 'it returns false'. Refute it at one input. -/
def fnExactPartsOfWrong : ChangeSpec := { name := "fnExactPartsOf", fn := fun _ => fun
  | [d] => { results := [.lit (.bool false)], args := [d] }
  | _ => none }
def FnExactPartsOfWrongFalsely : Prop := fnExactPartsOfRow.holds Try.pinned (OpenSpec.ofChange fnExactPartsOfWrong)

/-- 'laws.FnExactDiameterOf': WHATEVER THE INPUT: true; the input reads as it did. -/
def fnExactDiameterOfSpec : ChangeSpec := { name := "fnExactDiameterOf", fn := fun _ => fun
  | [d] => { results := [.lit (.bool true)], args := [d] }
  | _ => none }
def fnExactDiameterOfRow : OpenClaim := { program := "ytnlmijnbfdhdkaa", sum := "02200fdc531e9dd4e58b5864e15517774b21bbaab1da1a2238de0c9f48d6f316", func := "loop.example/g01128/laws.FnExactDiameterOf", spec := "fnExactDiameterOf", unfollowed := true, recurses := true, apart := false }
def FnExactDiameterOfSaid : Prop := fnExactDiameterOfRow.holds Try.pinned (OpenSpec.ofChange fnExactDiameterOfSpec)

/-- ITS FALSE NEIGHBOUR: 'it returns false'. Refute it at one input. -/
def fnExactDiameterOfWrong : ChangeSpec := { name := "fnExactDiameterOf", fn := fun _ => fun
  | [d] => { results := [.lit (.bool false)], args := [d] }
  | _ => none }
def FnExactDiameterOfWrongFalsely : Prop := fnExactDiameterOfRow.holds Try.pinned (OpenSpec.ofChange fnExactDiameterOfWrong)

/-- 'laws.FnExactPartLabels': WHATEVER THE INPUT: true; the input reads as it did. -/
def fnExactPartLabelsSpec : ChangeSpec := { name := "fnExactPartLabels", fn := fun _ => fun
  | [d] => { results := [.lit (.bool true)], args := [d] }
  | _ => none }
def fnExactPartLabelsRow : OpenClaim := { program := "ytnlmijnbfdhdkaa", sum := "02200fdc531e9dd4e58b5864e15517774b21bbaab1da1a2238de0c9f48d6f316", func := "loop.example/g01128/laws.FnExactPartLabels", spec := "fnExactPartLabels", unfollowed := true, recurses := true, apart := false }
def FnExactPartLabelsSaid : Prop := fnExactPartLabelsRow.holds Try.pinned (OpenSpec.ofChange fnExactPartLabelsSpec)

/-- ITS FALSE NEIGHBOUR: 'it returns false'. Refute it at one input. -/
def fnExactPartLabelsWrong : ChangeSpec := { name := "fnExactPartLabels", fn := fun _ => fun
  | [d] => { results := [.lit (.bool false)], args := [d] }
  | _ => none }
def FnExactPartLabelsWrongFalsely : Prop := fnExactPartLabelsRow.holds Try.pinned (OpenSpec.ofChange fnExactPartLabelsWrong)

/- THE SECOND FORM. 'bulk': how many values and letters a reading holds, each counted each time it is reached (what is shared counts as often as it is met; a slice's spare places count too). A statement '..UptoSaid' is the law's where the arguments, and the package variables that the reading takes, are together of bulk at most 1048576: NARROWER than '..Said'. Prove '..Said' where nothing that the law and all that it calls make is longer than what came in: it says more and counts as full. Else prove '..UptoSaid'. A law counts once. -/
mutual
def uptoBulk {H : Type} : DataW H → Nat
  | .lit (.string bytes) => bytes.length + 1
  | .lit _ => 1
  | .nil => 1
  | .ptr d => uptoBulk d + 1
  | .slice elems spare => uptoBulkAll elems + uptoBulkAll spare + 1
  | .agg parts => uptoBulkAll parts + 1
  | .iface _ d => uptoBulk d + 1
  | .map entries => uptoBulkEntries entries + 1
  | .held _ => 1
def uptoBulkAll {H : Type} : List (DataW H) → Nat
  | [] => 0
  | d :: r => uptoBulk d + uptoBulkAll r
def uptoBulkEntries {H : Type} : List (Lit × DataW H) → Nat
  | [] => 0
  | x :: r => uptoBulkEntry x + uptoBulkEntries r
def uptoBulkEntry {H : Type} : Lit × DataW H → Nat
  | (.string bytes, d) => bytes.length + uptoBulk d + 1
  | (_, d) => uptoBulk d + 1
 end
def uptoSmall : (H : Type) → List (DataW H) → Bool := fun _ ds => decide (uptoBulkAll ds ≤ 1048576)
def OpenSpec.upto (s : _root_.Go.ChangeSpec) : _root_.Go.OpenSpec := { _root_.Go.OpenSpec.ofChange s with cond := some uptoSmall }

/-- 'laws.FnExactIsTightSet', WHERE WHAT IT READS IS OF BULK AT MOST 1048576: true; the input reads as it did. -/
def fnExactIsTightSetUptoRow : OpenClaim := { program := "ytnlmijnbfdhdkaa", sum := "02200fdc531e9dd4e58b5864e15517774b21bbaab1da1a2238de0c9f48d6f316", func := "loop.example/g01128/laws.FnExactIsTightSet", spec := "fnExactIsTightSet", unfollowed := true, recurses := true, apart := false, narrowed := true }
def FnExactIsTightSetUptoSaid : Prop := fnExactIsTightSetUptoRow.holds Try.pinned (OpenSpec.upto fnExactIsTightSetSpec)

/-- 'laws.FnExactKindWays', WHERE WHAT IT READS IS OF BULK AT MOST 1048576: true; the input reads as it did. -/
def fnExactKindWaysUptoRow : OpenClaim := { program := "ytnlmijnbfdhdkaa", sum := "02200fdc531e9dd4e58b5864e15517774b21bbaab1da1a2238de0c9f48d6f316", func := "loop.example/g01128/laws.FnExactKindWays", spec := "fnExactKindWays", unfollowed := true, recurses := true, apart := false, narrowed := true }
def FnExactKindWaysUptoSaid : Prop := fnExactKindWaysUptoRow.holds Try.pinned (OpenSpec.upto fnExactKindWaysSpec)

/-- 'laws.FnExactGreedyTight', WHERE WHAT IT READS IS OF BULK AT MOST 1048576: true; the input reads as it did. -/
def fnExactGreedyTightUptoRow : OpenClaim := { program := "ytnlmijnbfdhdkaa", sum := "02200fdc531e9dd4e58b5864e15517774b21bbaab1da1a2238de0c9f48d6f316", func := "loop.example/g01128/laws.FnExactGreedyTight", spec := "fnExactGreedyTight", unfollowed := true, recurses := true, apart := false, narrowed := true }
def FnExactGreedyTightUptoSaid : Prop := fnExactGreedyTightUptoRow.holds Try.pinned (OpenSpec.upto fnExactGreedyTightSpec)

/-- 'laws.FnExactTokenBound', WHERE WHAT IT READS IS OF BULK AT MOST 1048576: true; the input reads as it did. -/
def fnExactTokenBoundUptoRow : OpenClaim := { program := "ytnlmijnbfdhdkaa", sum := "02200fdc531e9dd4e58b5864e15517774b21bbaab1da1a2238de0c9f48d6f316", func := "loop.example/g01128/laws.FnExactTokenBound", spec := "fnExactTokenBound", unfollowed := true, recurses := true, apart := false, narrowed := true }
def FnExactTokenBoundUptoSaid : Prop := fnExactTokenBoundUptoRow.holds Try.pinned (OpenSpec.upto fnExactTokenBoundSpec)

/-- 'laws.FnExactInducedSpace', WHERE WHAT IT READS IS OF BULK AT MOST 1048576: true; the input reads as it did. -/
def fnExactInducedSpaceUptoRow : OpenClaim := { program := "ytnlmijnbfdhdkaa", sum := "02200fdc531e9dd4e58b5864e15517774b21bbaab1da1a2238de0c9f48d6f316", func := "loop.example/g01128/laws.FnExactInducedSpace", spec := "fnExactInducedSpace", unfollowed := true, recurses := true, apart := false, narrowed := true }
def FnExactInducedSpaceUptoSaid : Prop := fnExactInducedSpaceUptoRow.holds Try.pinned (OpenSpec.upto fnExactInducedSpaceSpec)

/-- 'laws.FnExactStepsFrom', WHERE WHAT IT READS IS OF BULK AT MOST 1048576: true; the input reads as it did. -/
def fnExactStepsFromUptoRow : OpenClaim := { program := "ytnlmijnbfdhdkaa", sum := "02200fdc531e9dd4e58b5864e15517774b21bbaab1da1a2238de0c9f48d6f316", func := "loop.example/g01128/laws.FnExactStepsFrom", spec := "fnExactStepsFrom", unfollowed := true, recurses := true, apart := false, narrowed := true }
def FnExactStepsFromUptoSaid : Prop := fnExactStepsFromUptoRow.holds Try.pinned (OpenSpec.upto fnExactStepsFromSpec)

/-- 'laws.FnExactIndependenceNumber', WHERE WHAT IT READS IS OF BULK AT MOST 1048576: true; the input reads as it did. -/
def fnExactIndependenceNumberUptoRow : OpenClaim := { program := "ytnlmijnbfdhdkaa", sum := "02200fdc531e9dd4e58b5864e15517774b21bbaab1da1a2238de0c9f48d6f316", func := "loop.example/g01128/laws.FnExactIndependenceNumber", spec := "fnExactIndependenceNumber", unfollowed := true, recurses := true, apart := false, narrowed := true }
def FnExactIndependenceNumberUptoSaid : Prop := fnExactIndependenceNumberUptoRow.holds Try.pinned (OpenSpec.upto fnExactIndependenceNumberSpec)

/-- 'laws.FnExactFrozenPlaces', WHERE WHAT IT READS IS OF BULK AT MOST 1048576: true; the input reads as it did. -/
def fnExactFrozenPlacesUptoRow : OpenClaim := { program := "ytnlmijnbfdhdkaa", sum := "02200fdc531e9dd4e58b5864e15517774b21bbaab1da1a2238de0c9f48d6f316", func := "loop.example/g01128/laws.FnExactFrozenPlaces", spec := "fnExactFrozenPlaces", unfollowed := true, recurses := true, apart := false, narrowed := true }
def FnExactFrozenPlacesUptoSaid : Prop := fnExactFrozenPlacesUptoRow.holds Try.pinned (OpenSpec.upto fnExactFrozenPlacesSpec)

/-- 'laws.FnExactIndependentSets', WHERE WHAT IT READS IS OF BULK AT MOST 1048576: true; the input reads as it did. -/
def fnExactIndependentSetsUptoRow : OpenClaim := { program := "ytnlmijnbfdhdkaa", sum := "02200fdc531e9dd4e58b5864e15517774b21bbaab1da1a2238de0c9f48d6f316", func := "loop.example/g01128/laws.FnExactIndependentSets", spec := "fnExactIndependentSets", unfollowed := true, recurses := true, apart := false, narrowed := true }
def FnExactIndependentSetsUptoSaid : Prop := fnExactIndependentSetsUptoRow.holds Try.pinned (OpenSpec.upto fnExactIndependentSetsSpec)

/-- 'laws.FnExactPartsOf', WHERE WHAT IT READS IS OF BULK AT MOST 1048576: true; the input reads as it did. -/
def fnExactPartsOfUptoRow : OpenClaim := { program := "ytnlmijnbfdhdkaa", sum := "02200fdc531e9dd4e58b5864e15517774b21bbaab1da1a2238de0c9f48d6f316", func := "loop.example/g01128/laws.FnExactPartsOf", spec := "fnExactPartsOf", unfollowed := true, recurses := true, apart := false, narrowed := true }
def FnExactPartsOfUptoSaid : Prop := fnExactPartsOfUptoRow.holds Try.pinned (OpenSpec.upto fnExactPartsOfSpec)

/-- 'laws.FnExactDiameterOf', WHERE WHAT IT READS IS OF BULK AT MOST 1048576: true; the input reads as it did. -/
def fnExactDiameterOfUptoRow : OpenClaim := { program := "ytnlmijnbfdhdkaa", sum := "02200fdc531e9dd4e58b5864e15517774b21bbaab1da1a2238de0c9f48d6f316", func := "loop.example/g01128/laws.FnExactDiameterOf", spec := "fnExactDiameterOf", unfollowed := true, recurses := true, apart := false, narrowed := true }
def FnExactDiameterOfUptoSaid : Prop := fnExactDiameterOfUptoRow.holds Try.pinned (OpenSpec.upto fnExactDiameterOfSpec)

/-- 'laws.FnExactPartLabels', WHERE WHAT IT READS IS OF BULK AT MOST 1048576: true; the input reads as it did. -/
def fnExactPartLabelsUptoRow : OpenClaim := { program := "ytnlmijnbfdhdkaa", sum := "02200fdc531e9dd4e58b5864e15517774b21bbaab1da1a2238de0c9f48d6f316", func := "loop.example/g01128/laws.FnExactPartLabels", spec := "fnExactPartLabels", unfollowed := true, recurses := true, apart := false, narrowed := true }
def FnExactPartLabelsUptoSaid : Prop := fnExactPartLabelsUptoRow.holds Try.pinned (OpenSpec.upto fnExactPartLabelsSpec)

end Rows
end Go.Proofs.Ytnlmijnbfdhdkaa
