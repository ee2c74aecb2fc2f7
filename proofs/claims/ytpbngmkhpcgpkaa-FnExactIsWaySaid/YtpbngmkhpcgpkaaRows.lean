/-
  No cell of these rows narrows 'for every input' (looked for: loops, veiled, ifaces, maps, wideKeys, modest, calm, conditions, laid).
  DERIVED. THE GIVEN ROWS OF THIS SEAT. 12 by the template 'for every input the law returns true; each argument reads behind the call as it read before'; 0 by the template 'total and deterministic' (their statements: YtpbngmkhpcgpkaaTotals.lean).
  GIVEN WITH THE SEED: the statements are not yours to turn. If you find one false, say at which input.
  Laid BY PROGRAM, IN A SANDBOX (cutbox-rows.mjs): the forced cells as the released guide's own fill.sh prints them over the translation 9e6083d84c2042e4… (all of the seat's roots in one cut). By AI agents, Wed Nov 11 2026. No macro, syntax, notation, axiom, sorry.
-/
import Derived.Test.YtpbngmkhpcgpkaaChecked
import GoSem.Claim
import GoSem.ClaimJoined
import GoSem.ClaimMapViews
import Derived.JoinedTies
import Derived.KernelRfl
namespace Go.Proofs.Ytpbngmkhpcgpkaa
/- THE CELL 'sum', in the pinned program and in every row, IS THE sha256 OF THE DUMP (.gsa) THAT YtpbngmkhpcgpkaaProg.lean LOADS. Nothing in Lean hashes anything: it is a label: what it is worth is what the hold of that sum in a sandbox is worth. -/
noncomputable def Try.pinned : Pinned := { name := "ytpbngmkhpcgpkaa", sum := "9e6083d84c2042e4a351215afd4f7ab89814959ace3d373b662b9c65f99528a0", checked := Try.checked }
namespace Rows
def none {H : Type} : Left H := { results := [], args := [] }

/-- 'laws.FnExactIsGraph': WHATEVER THE INPUT: true; the input reads as it did. -/
def fnExactIsGraphSpec : ChangeSpec := { name := "fnExactIsGraph", fn := fun _ => fun
  | [d] => { results := [.lit (.bool true)], args := [d] }
  | _ => none }
def fnExactIsGraphRow : OpenClaim := { program := "ytpbngmkhpcgpkaa", sum := "9e6083d84c2042e4a351215afd4f7ab89814959ace3d373b662b9c65f99528a0", func := "loop.example/g01128/laws.FnExactIsGraph", spec := "fnExactIsGraph", apart := false }
def FnExactIsGraphSaid : Prop := fnExactIsGraphRow.holds Try.pinned (OpenSpec.ofChange fnExactIsGraphSpec)

/-- ITS FALSE NEIGHBOUR: 'it returns false'. Refute it at one input. -/
def fnExactIsGraphWrong : ChangeSpec := { name := "fnExactIsGraph", fn := fun _ => fun
  | [d] => { results := [.lit (.bool false)], args := [d] }
  | _ => none }
def FnExactIsGraphWrongFalsely : Prop := fnExactIsGraphRow.holds Try.pinned (OpenSpec.ofChange fnExactIsGraphWrong)

/-- 'laws.FnExactCliqueGraph': WHATEVER THE INPUT: true; the input reads as it did. -/
def fnExactCliqueGraphSpec : ChangeSpec := { name := "fnExactCliqueGraph", fn := fun _ => fun
  | [d] => { results := [.lit (.bool true)], args := [d] }
  | _ => none }
def fnExactCliqueGraphRow : OpenClaim := { program := "ytpbngmkhpcgpkaa", sum := "9e6083d84c2042e4a351215afd4f7ab89814959ace3d373b662b9c65f99528a0", func := "loop.example/g01128/laws.FnExactCliqueGraph", spec := "fnExactCliqueGraph", apart := false }
def FnExactCliqueGraphSaid : Prop := fnExactCliqueGraphRow.holds Try.pinned (OpenSpec.ofChange fnExactCliqueGraphSpec)

/-- ITS FALSE NEIGHBOUR: 'it returns false'. Refute it at one input. -/
def fnExactCliqueGraphWrong : ChangeSpec := { name := "fnExactCliqueGraph", fn := fun _ => fun
  | [d] => { results := [.lit (.bool false)], args := [d] }
  | _ => none }
def FnExactCliqueGraphWrongFalsely : Prop := fnExactCliqueGraphRow.holds Try.pinned (OpenSpec.ofChange fnExactCliqueGraphWrong)

/-- 'laws.FnExactIsIndependent': WHATEVER THE INPUT: true; the input reads as it did. -/
def fnExactIsIndependentSpec : ChangeSpec := { name := "fnExactIsIndependent", fn := fun _ => fun
  | [d1, d2] => { results := [.lit (.bool true)], args := [d1, d2] }
  | _ => none }
def fnExactIsIndependentRow : OpenClaim := { program := "ytpbngmkhpcgpkaa", sum := "9e6083d84c2042e4a351215afd4f7ab89814959ace3d373b662b9c65f99528a0", func := "loop.example/g01128/laws.FnExactIsIndependent", spec := "fnExactIsIndependent", unfollowed := true, recurses := true, apart := false }
def FnExactIsIndependentSaid : Prop := fnExactIsIndependentRow.holds Try.pinned (OpenSpec.ofChange fnExactIsIndependentSpec)

/-- ITS FALSE NEIGHBOUR: 'it returns false'. Refute it at one input. -/
def fnExactIsIndependentWrong : ChangeSpec := { name := "fnExactIsIndependent", fn := fun _ => fun
  | [d1, d2] => { results := [.lit (.bool false)], args := [d1, d2] }
  | _ => none }
def FnExactIsIndependentWrongFalsely : Prop := fnExactIsIndependentRow.holds Try.pinned (OpenSpec.ofChange fnExactIsIndependentWrong)

/-- 'laws.FnExactNeighborsOf': WHATEVER THE INPUT: true; the input reads as it did. -/
def fnExactNeighborsOfSpec : ChangeSpec := { name := "fnExactNeighborsOf", fn := fun _ => fun
  | [d1, d2] => { results := [.lit (.bool true)], args := [d1, d2] }
  | _ => none }
def fnExactNeighborsOfRow : OpenClaim := { program := "ytpbngmkhpcgpkaa", sum := "9e6083d84c2042e4a351215afd4f7ab89814959ace3d373b662b9c65f99528a0", func := "loop.example/g01128/laws.FnExactNeighborsOf", spec := "fnExactNeighborsOf", apart := false }
def FnExactNeighborsOfSaid : Prop := fnExactNeighborsOfRow.holds Try.pinned (OpenSpec.ofChange fnExactNeighborsOfSpec)

/-- ITS FALSE NEIGHBOUR: 'it returns false'. Refute it at one input. -/
def fnExactNeighborsOfWrong : ChangeSpec := { name := "fnExactNeighborsOf", fn := fun _ => fun
  | [d1, d2] => { results := [.lit (.bool false)], args := [d1, d2] }
  | _ => none }
def FnExactNeighborsOfWrongFalsely : Prop := fnExactNeighborsOfRow.holds Try.pinned (OpenSpec.ofChange fnExactNeighborsOfWrong)

/-- 'laws.FnExactOtherNodes': WHATEVER THE INPUT: true; the input reads as it did. -/
def fnExactOtherNodesSpec : ChangeSpec := { name := "fnExactOtherNodes", fn := fun _ => fun
  | [d1, d2] => { results := [.lit (.bool true)], args := [d1, d2] }
  | _ => none }
def fnExactOtherNodesRow : OpenClaim := { program := "ytpbngmkhpcgpkaa", sum := "9e6083d84c2042e4a351215afd4f7ab89814959ace3d373b662b9c65f99528a0", func := "loop.example/g01128/laws.FnExactOtherNodes", spec := "fnExactOtherNodes", apart := false }
def FnExactOtherNodesSaid : Prop := fnExactOtherNodesRow.holds Try.pinned (OpenSpec.ofChange fnExactOtherNodesSpec)

/-- ITS FALSE NEIGHBOUR: 'it returns false'. Refute it at one input. -/
def fnExactOtherNodesWrong : ChangeSpec := { name := "fnExactOtherNodes", fn := fun _ => fun
  | [d1, d2] => { results := [.lit (.bool false)], args := [d1, d2] }
  | _ => none }
def FnExactOtherNodesWrongFalsely : Prop := fnExactOtherNodesRow.holds Try.pinned (OpenSpec.ofChange fnExactOtherNodesWrong)

/-- 'laws.FnExactIsSpace': WHATEVER THE INPUT: true; the input reads as it did. -/
def fnExactIsSpaceSpec : ChangeSpec := { name := "fnExactIsSpace", fn := fun _ => fun
  | [d] => { results := [.lit (.bool true)], args := [d] }
  | _ => none }
def fnExactIsSpaceRow : OpenClaim := { program := "ytpbngmkhpcgpkaa", sum := "9e6083d84c2042e4a351215afd4f7ab89814959ace3d373b662b9c65f99528a0", func := "loop.example/g01128/laws.FnExactIsSpace", spec := "fnExactIsSpace", unfollowed := true, recurses := true, apart := false }
def FnExactIsSpaceSaid : Prop := fnExactIsSpaceRow.holds Try.pinned (OpenSpec.ofChange fnExactIsSpaceSpec)

/-- ITS FALSE NEIGHBOUR: 'it returns false'. Refute it at one input. -/
def fnExactIsSpaceWrong : ChangeSpec := { name := "fnExactIsSpace", fn := fun _ => fun
  | [d] => { results := [.lit (.bool false)], args := [d] }
  | _ => none }
def FnExactIsSpaceWrongFalsely : Prop := fnExactIsSpaceRow.holds Try.pinned (OpenSpec.ofChange fnExactIsSpaceWrong)

/-- 'laws.FnExactAreKept': WHATEVER THE INPUT: true; the input reads as it did. -/
def fnExactAreKeptSpec : ChangeSpec := { name := "fnExactAreKept", fn := fun _ => fun
  | [d1, d2] => { results := [.lit (.bool true)], args := [d1, d2] }
  | _ => none }
def fnExactAreKeptRow : OpenClaim := { program := "ytpbngmkhpcgpkaa", sum := "9e6083d84c2042e4a351215afd4f7ab89814959ace3d373b662b9c65f99528a0", func := "loop.example/g01128/laws.FnExactAreKept", spec := "fnExactAreKept", unfollowed := true, recurses := true, apart := false }
def FnExactAreKeptSaid : Prop := fnExactAreKeptRow.holds Try.pinned (OpenSpec.ofChange fnExactAreKeptSpec)

/-- ITS FALSE NEIGHBOUR: 'it returns false'. Refute it at one input. -/
def fnExactAreKeptWrong : ChangeSpec := { name := "fnExactAreKept", fn := fun _ => fun
  | [d1, d2] => { results := [.lit (.bool false)], args := [d1, d2] }
  | _ => none }
def FnExactAreKeptWrongFalsely : Prop := fnExactAreKeptRow.holds Try.pinned (OpenSpec.ofChange fnExactAreKeptWrong)

/-- 'laws.FnExactIsPotential': WHATEVER THE INPUT: true; the input reads as it did. -/
def fnExactIsPotentialSpec : ChangeSpec := { name := "fnExactIsPotential", fn := fun _ => fun
  | [d1, d2] => { results := [.lit (.bool true)], args := [d1, d2] }
  | _ => none }
def fnExactIsPotentialRow : OpenClaim := { program := "ytpbngmkhpcgpkaa", sum := "9e6083d84c2042e4a351215afd4f7ab89814959ace3d373b662b9c65f99528a0", func := "loop.example/g01128/laws.FnExactIsPotential", spec := "fnExactIsPotential", unfollowed := true, recurses := true, apart := false }
def FnExactIsPotentialSaid : Prop := fnExactIsPotentialRow.holds Try.pinned (OpenSpec.ofChange fnExactIsPotentialSpec)

/-- ITS FALSE NEIGHBOUR: 'it returns false'. Refute it at one input. -/
def fnExactIsPotentialWrong : ChangeSpec := { name := "fnExactIsPotential", fn := fun _ => fun
  | [d1, d2] => { results := [.lit (.bool false)], args := [d1, d2] }
  | _ => none }
def FnExactIsPotentialWrongFalsely : Prop := fnExactIsPotentialRow.holds Try.pinned (OpenSpec.ofChange fnExactIsPotentialWrong)

/-- 'laws.FnExactPotentialBound': WHATEVER THE INPUT: true; the input reads as it did. -/
def fnExactPotentialBoundSpec : ChangeSpec := { name := "fnExactPotentialBound", fn := fun _ => fun
  | [d1, d2, d3, d4] => { results := [.lit (.bool true)], args := [d1, d2, d3, d4] }
  | _ => none }
def fnExactPotentialBoundRow : OpenClaim := { program := "ytpbngmkhpcgpkaa", sum := "9e6083d84c2042e4a351215afd4f7ab89814959ace3d373b662b9c65f99528a0", func := "loop.example/g01128/laws.FnExactPotentialBound", spec := "fnExactPotentialBound", unfollowed := true, recurses := true, apart := false }
def FnExactPotentialBoundSaid : Prop := fnExactPotentialBoundRow.holds Try.pinned (OpenSpec.ofChange fnExactPotentialBoundSpec)

/-- ITS FALSE NEIGHBOUR: 'it returns false'. Refute it at one input. -/
def fnExactPotentialBoundWrong : ChangeSpec := { name := "fnExactPotentialBound", fn := fun _ => fun
  | [d1, d2, d3, d4] => { results := [.lit (.bool false)], args := [d1, d2, d3, d4] }
  | _ => none }
def FnExactPotentialBoundWrongFalsely : Prop := fnExactPotentialBoundRow.holds Try.pinned (OpenSpec.ofChange fnExactPotentialBoundWrong)

/-- 'laws.FnExactPlaceOf': WHATEVER THE INPUT: true; the input reads as it did. -/
def fnExactPlaceOfSpec : ChangeSpec := { name := "fnExactPlaceOf", fn := fun _ => fun
  | [d1, d2] => { results := [.lit (.bool true)], args := [d1, d2] }
  | _ => none }
def fnExactPlaceOfRow : OpenClaim := { program := "ytpbngmkhpcgpkaa", sum := "9e6083d84c2042e4a351215afd4f7ab89814959ace3d373b662b9c65f99528a0", func := "loop.example/g01128/laws.FnExactPlaceOf", spec := "fnExactPlaceOf", unfollowed := true, recurses := true, apart := false }
def FnExactPlaceOfSaid : Prop := fnExactPlaceOfRow.holds Try.pinned (OpenSpec.ofChange fnExactPlaceOfSpec)

/-- ITS FALSE NEIGHBOUR: 'it returns false'. Refute it at one input. -/
def fnExactPlaceOfWrong : ChangeSpec := { name := "fnExactPlaceOf", fn := fun _ => fun
  | [d1, d2] => { results := [.lit (.bool false)], args := [d1, d2] }
  | _ => none }
def FnExactPlaceOfWrongFalsely : Prop := fnExactPlaceOfRow.holds Try.pinned (OpenSpec.ofChange fnExactPlaceOfWrong)

/-- 'laws.FnExactHasKind': WHATEVER THE INPUT: true; the input reads as it did. -/
def fnExactHasKindSpec : ChangeSpec := { name := "fnExactHasKind", fn := fun _ => fun
  | [d1, d2, d3] => { results := [.lit (.bool true)], args := [d1, d2, d3] }
  | _ => none }
def fnExactHasKindRow : OpenClaim := { program := "ytpbngmkhpcgpkaa", sum := "9e6083d84c2042e4a351215afd4f7ab89814959ace3d373b662b9c65f99528a0", func := "loop.example/g01128/laws.FnExactHasKind", spec := "fnExactHasKind", unfollowed := true, recurses := true, apart := false }
def FnExactHasKindSaid : Prop := fnExactHasKindRow.holds Try.pinned (OpenSpec.ofChange fnExactHasKindSpec)

/-- ITS FALSE NEIGHBOUR: 'it returns false'. Refute it at one input. -/
def fnExactHasKindWrong : ChangeSpec := { name := "fnExactHasKind", fn := fun _ => fun
  | [d1, d2, d3] => { results := [.lit (.bool false)], args := [d1, d2, d3] }
  | _ => none }
def FnExactHasKindWrongFalsely : Prop := fnExactHasKindRow.holds Try.pinned (OpenSpec.ofChange fnExactHasKindWrong)

/-- 'laws.FnExactIsWay': WHATEVER THE INPUT: true; the input reads as it did. -/
def fnExactIsWaySpec : ChangeSpec := { name := "fnExactIsWay", fn := fun _ => fun
  | [d1, d2] => { results := [.lit (.bool true)], args := [d1, d2] }
  | _ => none }
def fnExactIsWayRow : OpenClaim := { program := "ytpbngmkhpcgpkaa", sum := "9e6083d84c2042e4a351215afd4f7ab89814959ace3d373b662b9c65f99528a0", func := "loop.example/g01128/laws.FnExactIsWay", spec := "fnExactIsWay", unfollowed := true, recurses := true, apart := false }
def FnExactIsWaySaid : Prop := fnExactIsWayRow.holds Try.pinned (OpenSpec.ofChange fnExactIsWaySpec)

/-- ITS FALSE NEIGHBOUR: 'it returns false'. Refute it at one input. -/
def fnExactIsWayWrong : ChangeSpec := { name := "fnExactIsWay", fn := fun _ => fun
  | [d1, d2] => { results := [.lit (.bool false)], args := [d1, d2] }
  | _ => none }
def FnExactIsWayWrongFalsely : Prop := fnExactIsWayRow.holds Try.pinned (OpenSpec.ofChange fnExactIsWayWrong)

/- THE SECOND FORM. 'bulk': how many values and letters a reading holds, each counted each time it is reached (what is shared counts as often as it is met; a slice's spare places count too). A statement '..UptoSaid' is the law's where the arguments, and the package variables that the reading takes, are together of bulk at most 1048576: NARROWER than '..Said'. Prove '..Said' where nothing that the law and all that it calls make is longer than what came in: it says more and counts as full. Else prove '..UptoSaid'. A law counts once. -/
mutual
def uptoBulk {H : Type} : DataW H → Nat
  | .lit (.string bytes) => bytes.length + 1
  | .lit _ => 1
  | .nil => 1
  | .ptr d => uptoBulk d + 1
  | .slice elems spare => uptoBulkAll elems + uptoBulkAll spare + 1
  | .agg parts => uptoBulkAll parts + 1
  | .iface _ d => uptoBulk d + 1
  | .map entries => uptoBulkEntries entries + 1
  | .held _ => 1
def uptoBulkAll {H : Type} : List (DataW H) → Nat
  | [] => 0
  | d :: r => uptoBulk d + uptoBulkAll r
def uptoBulkEntries {H : Type} : List (Lit × DataW H) → Nat
  | [] => 0
  | x :: r => uptoBulkEntry x + uptoBulkEntries r
def uptoBulkEntry {H : Type} : Lit × DataW H → Nat
  | (.string bytes, d) => bytes.length + uptoBulk d + 1
  | (_, d) => uptoBulk d + 1
 end
def uptoSmall : (H : Type) → List (DataW H) → Bool := fun _ ds => decide (uptoBulkAll ds ≤ 1048576)
def OpenSpec.upto (s : _root_.Go.ChangeSpec) : _root_.Go.OpenSpec := { _root_.Go.OpenSpec.ofChange s with cond := some uptoSmall }

/-- 'laws.FnExactIsGraph', WHERE WHAT IT READS IS OF BULK AT MOST 1048576: true; the input reads as it did. -/
def fnExactIsGraphUptoRow : OpenClaim := { program := "ytpbngmkhpcgpkaa", sum := "9e6083d84c2042e4a351215afd4f7ab89814959ace3d373b662b9c65f99528a0", func := "loop.example/g01128/laws.FnExactIsGraph", spec := "fnExactIsGraph", apart := false, narrowed := true }
def FnExactIsGraphUptoSaid : Prop := fnExactIsGraphUptoRow.holds Try.pinned (OpenSpec.upto fnExactIsGraphSpec)

/-- 'laws.FnExactCliqueGraph', WHERE WHAT IT READS IS OF BULK AT MOST 1048576: true; the input reads as it did. -/
def fnExactCliqueGraphUptoRow : OpenClaim := { program := "ytpbngmkhpcgpkaa", sum := "9e6083d84c2042e4a351215afd4f7ab89814959ace3d373b662b9c65f99528a0", func := "loop.example/g01128/laws.FnExactCliqueGraph", spec := "fnExactCliqueGraph", apart := false, narrowed := true }
def FnExactCliqueGraphUptoSaid : Prop := fnExactCliqueGraphUptoRow.holds Try.pinned (OpenSpec.upto fnExactCliqueGraphSpec)

/-- 'laws.FnExactIsIndependent', WHERE WHAT IT READS IS OF BULK AT MOST 1048576: true; the input reads as it did. -/
def fnExactIsIndependentUptoRow : OpenClaim := { program := "ytpbngmkhpcgpkaa", sum := "9e6083d84c2042e4a351215afd4f7ab89814959ace3d373b662b9c65f99528a0", func := "loop.example/g01128/laws.FnExactIsIndependent", spec := "fnExactIsIndependent", unfollowed := true, recurses := true, apart := false, narrowed := true }
def FnExactIsIndependentUptoSaid : Prop := fnExactIsIndependentUptoRow.holds Try.pinned (OpenSpec.upto fnExactIsIndependentSpec)

/-- 'laws.FnExactNeighborsOf', WHERE WHAT IT READS IS OF BULK AT MOST 1048576: true; the input reads as it did. -/
def fnExactNeighborsOfUptoRow : OpenClaim := { program := "ytpbngmkhpcgpkaa", sum := "9e6083d84c2042e4a351215afd4f7ab89814959ace3d373b662b9c65f99528a0", func := "loop.example/g01128/laws.FnExactNeighborsOf", spec := "fnExactNeighborsOf", apart := false, narrowed := true }
def FnExactNeighborsOfUptoSaid : Prop := fnExactNeighborsOfUptoRow.holds Try.pinned (OpenSpec.upto fnExactNeighborsOfSpec)

/-- 'laws.FnExactOtherNodes', WHERE WHAT IT READS IS OF BULK AT MOST 1048576: true; the input reads as it did. -/
def fnExactOtherNodesUptoRow : OpenClaim := { program := "ytpbngmkhpcgpkaa", sum := "9e6083d84c2042e4a351215afd4f7ab89814959ace3d373b662b9c65f99528a0", func := "loop.example/g01128/laws.FnExactOtherNodes", spec := "fnExactOtherNodes", apart := false, narrowed := true }
def FnExactOtherNodesUptoSaid : Prop := fnExactOtherNodesUptoRow.holds Try.pinned (OpenSpec.upto fnExactOtherNodesSpec)

/-- 'laws.FnExactIsSpace', WHERE WHAT IT READS IS OF BULK AT MOST 1048576: true; the input reads as it did. -/
def fnExactIsSpaceUptoRow : OpenClaim := { program := "ytpbngmkhpcgpkaa", sum := "9e6083d84c2042e4a351215afd4f7ab89814959ace3d373b662b9c65f99528a0", func := "loop.example/g01128/laws.FnExactIsSpace", spec := "fnExactIsSpace", unfollowed := true, recurses := true, apart := false, narrowed := true }
def FnExactIsSpaceUptoSaid : Prop := fnExactIsSpaceUptoRow.holds Try.pinned (OpenSpec.upto fnExactIsSpaceSpec)

/-- 'laws.FnExactAreKept', WHERE WHAT IT READS IS OF BULK AT MOST 1048576: true; the input reads as it did. -/
def fnExactAreKeptUptoRow : OpenClaim := { program := "ytpbngmkhpcgpkaa", sum := "9e6083d84c2042e4a351215afd4f7ab89814959ace3d373b662b9c65f99528a0", func := "loop.example/g01128/laws.FnExactAreKept", spec := "fnExactAreKept", unfollowed := true, recurses := true, apart := false, narrowed := true }
def FnExactAreKeptUptoSaid : Prop := fnExactAreKeptUptoRow.holds Try.pinned (OpenSpec.upto fnExactAreKeptSpec)

/-- 'laws.FnExactIsPotential', WHERE WHAT IT READS IS OF BULK AT MOST 1048576: true; the input reads as it did. -/
def fnExactIsPotentialUptoRow : OpenClaim := { program := "ytpbngmkhpcgpkaa", sum := "9e6083d84c2042e4a351215afd4f7ab89814959ace3d373b662b9c65f99528a0", func := "loop.example/g01128/laws.FnExactIsPotential", spec := "fnExactIsPotential", unfollowed := true, recurses := true, apart := false, narrowed := true }
def FnExactIsPotentialUptoSaid : Prop := fnExactIsPotentialUptoRow.holds Try.pinned (OpenSpec.upto fnExactIsPotentialSpec)

/-- 'laws.FnExactPotentialBound', WHERE WHAT IT READS IS OF BULK AT MOST 1048576: true; the input reads as it did. -/
def fnExactPotentialBoundUptoRow : OpenClaim := { program := "ytpbngmkhpcgpkaa", sum := "9e6083d84c2042e4a351215afd4f7ab89814959ace3d373b662b9c65f99528a0", func := "loop.example/g01128/laws.FnExactPotentialBound", spec := "fnExactPotentialBound", unfollowed := true, recurses := true, apart := false, narrowed := true }
def FnExactPotentialBoundUptoSaid : Prop := fnExactPotentialBoundUptoRow.holds Try.pinned (OpenSpec.upto fnExactPotentialBoundSpec)

/-- 'laws.FnExactPlaceOf', WHERE WHAT IT READS IS OF BULK AT MOST 1048576: true; the input reads as it did. -/
def fnExactPlaceOfUptoRow : OpenClaim := { program := "ytpbngmkhpcgpkaa", sum := "9e6083d84c2042e4a351215afd4f7ab89814959ace3d373b662b9c65f99528a0", func := "loop.example/g01128/laws.FnExactPlaceOf", spec := "fnExactPlaceOf", unfollowed := true, recurses := true, apart := false, narrowed := true }
def FnExactPlaceOfUptoSaid : Prop := fnExactPlaceOfUptoRow.holds Try.pinned (OpenSpec.upto fnExactPlaceOfSpec)

/-- 'laws.FnExactHasKind', WHERE WHAT IT READS IS OF BULK AT MOST 1048576: true; the input reads as it did. -/
def fnExactHasKindUptoRow : OpenClaim := { program := "ytpbngmkhpcgpkaa", sum := "9e6083d84c2042e4a351215afd4f7ab89814959ace3d373b662b9c65f99528a0", func := "loop.example/g01128/laws.FnExactHasKind", spec := "fnExactHasKind", unfollowed := true, recurses := true, apart := false, narrowed := true }
def FnExactHasKindUptoSaid : Prop := fnExactHasKindUptoRow.holds Try.pinned (OpenSpec.upto fnExactHasKindSpec)

/-- 'laws.FnExactIsWay', WHERE WHAT IT READS IS OF BULK AT MOST 1048576: true; the input reads as it did. -/
def fnExactIsWayUptoRow : OpenClaim := { program := "ytpbngmkhpcgpkaa", sum := "9e6083d84c2042e4a351215afd4f7ab89814959ace3d373b662b9c65f99528a0", func := "loop.example/g01128/laws.FnExactIsWay", spec := "fnExactIsWay", unfollowed := true, recurses := true, apart := false, narrowed := true }
def FnExactIsWayUptoSaid : Prop := fnExactIsWayUptoRow.holds Try.pinned (OpenSpec.upto fnExactIsWaySpec)

end Rows
end Go.Proofs.Ytpbngmkhpcgpkaa
