/-
  No cell of these rows narrows 'for every input' (looked for: loops, veiled, ifaces, maps, wideKeys, modest, calm, conditions, laid).
  DERIVED. THE GIVEN ROWS OF THIS SEAT. 5 by the template 'for every input the law returns true; each argument reads behind the call as it read before'; 0 by the template 'total and deterministic' (their statements: YtadjbmcfgjmhkaaGreatTotals.lean).
  GIVEN WITH THE SEED: the statements are not yours to turn. If you find one false, say at which input.
  Laid BY PROGRAM, IN A SANDBOX (cutbox-rows.mjs): the forced cells as the released guide's own fill.sh prints them over the translation 2237b4c07690eabf… (all of the seat's roots in one cut). By AI agents, Wed Nov 11 2026. No macro, syntax, notation, axiom, sorry.
-/
import Derived.Test.YtadjbmcfgjmhkaaGreatChecked
import GoSem.Claim
import GoSem.ClaimJoined
import GoSem.ClaimMapViews
import Derived.JoinedTies
import Derived.KernelRfl
namespace Go.Proofs.YtadjbmcfgjmhkaaGreat
/- THE CELL 'sum', in the pinned program and in every row, IS THE sha256 OF THE DUMP (.gsa) THAT YtadjbmcfgjmhkaaGreatProg.lean LOADS. Nothing in Lean hashes anything: it is a label: what it is worth is what the hold of that sum in a sandbox is worth. -/
noncomputable def Tryz.pinned : Pinned := { name := "ytadjbmcfgjmhkaagreat", sum := "2237b4c07690eabfa47c581d87110078f11bf9ab9170722e118724a42225cef2", checked := Tryz.checked }
namespace Rows
def none {H : Type} : Left H := { results := [], args := [] }

/-- 'laws.FnExactJumpWalk': WHATEVER THE INPUT: true; the input reads as it did. -/
def fnExactJumpWalkSpec : ChangeSpec := { name := "fnExactJumpWalk", fn := fun _ => fun
  | [d1, d2, d3] => { results := [.lit (.bool true)], args := [d1, d2, d3] }
  | _ => none }
def fnExactJumpWalkRow : OpenClaim := { program := "ytadjbmcfgjmhkaagreat", sum := "2237b4c07690eabfa47c581d87110078f11bf9ab9170722e118724a42225cef2", func := "loop.example/g01128/laws.FnExactJumpWalk", spec := "fnExactJumpWalk", unfollowed := true, recurses := true, apart := false }
def FnExactJumpWalkSaid : Prop := fnExactJumpWalkRow.holds Tryz.pinned (OpenSpec.ofChange fnExactJumpWalkSpec)

/-- ITS FALSE NEIGHBOUR: 'it returns false'. Refute it at one input. -/
def fnExactJumpWalkWrong : ChangeSpec := { name := "fnExactJumpWalk", fn := fun _ => fun
  | [d1, d2, d3] => { results := [.lit (.bool false)], args := [d1, d2, d3] }
  | _ => none }
def FnExactJumpWalkWrongFalsely : Prop := fnExactJumpWalkRow.holds Tryz.pinned (OpenSpec.ofChange fnExactJumpWalkWrong)

/-- 'laws.FnExactSlideWalk': WHATEVER THE INPUT: true; the input reads as it did. -/
def fnExactSlideWalkSpec : ChangeSpec := { name := "fnExactSlideWalk", fn := fun _ => fun
  | [d1, d2, d3] => { results := [.lit (.bool true)], args := [d1, d2, d3] }
  | _ => none }
def fnExactSlideWalkRow : OpenClaim := { program := "ytadjbmcfgjmhkaagreat", sum := "2237b4c07690eabfa47c581d87110078f11bf9ab9170722e118724a42225cef2", func := "loop.example/g01128/laws.FnExactSlideWalk", spec := "fnExactSlideWalk", unfollowed := true, recurses := true, apart := false }
def FnExactSlideWalkSaid : Prop := fnExactSlideWalkRow.holds Tryz.pinned (OpenSpec.ofChange fnExactSlideWalkSpec)

/-- ITS FALSE NEIGHBOUR: 'it returns false'. Refute it at one input. -/
def fnExactSlideWalkWrong : ChangeSpec := { name := "fnExactSlideWalk", fn := fun _ => fun
  | [d1, d2, d3] => { results := [.lit (.bool false)], args := [d1, d2, d3] }
  | _ => none }
def FnExactSlideWalkWrongFalsely : Prop := fnExactSlideWalkRow.holds Tryz.pinned (OpenSpec.ofChange fnExactSlideWalkWrong)

/-- 'laws.FnExactStuckSets': WHATEVER THE INPUT: true; the input reads as it did. -/
def fnExactStuckSetsSpec : ChangeSpec := { name := "fnExactStuckSets", fn := fun _ => fun
  | [d1, d2] => { results := [.lit (.bool true)], args := [d1, d2] }
  | _ => none }
def fnExactStuckSetsRow : OpenClaim := { program := "ytadjbmcfgjmhkaagreat", sum := "2237b4c07690eabfa47c581d87110078f11bf9ab9170722e118724a42225cef2", func := "loop.example/g01128/laws.FnExactStuckSets", spec := "fnExactStuckSets", unfollowed := true, recurses := true, apart := false }
def FnExactStuckSetsSaid : Prop := fnExactStuckSetsRow.holds Tryz.pinned (OpenSpec.ofChange fnExactStuckSetsSpec)

/-- ITS FALSE NEIGHBOUR: 'it returns false'. Refute it at one input. -/
def fnExactStuckSetsWrong : ChangeSpec := { name := "fnExactStuckSets", fn := fun _ => fun
  | [d1, d2] => { results := [.lit (.bool false)], args := [d1, d2] }
  | _ => none }
def FnExactStuckSetsWrongFalsely : Prop := fnExactStuckSetsRow.holds Tryz.pinned (OpenSpec.ofChange fnExactStuckSetsWrong)

/-- 'laws.FnExactLockedTokens': WHATEVER THE INPUT: true; the input reads as it did. -/
def fnExactLockedTokensSpec : ChangeSpec := { name := "fnExactLockedTokens", fn := fun _ => fun
  | [d1, d2] => { results := [.lit (.bool true)], args := [d1, d2] }
  | _ => none }
def fnExactLockedTokensRow : OpenClaim := { program := "ytadjbmcfgjmhkaagreat", sum := "2237b4c07690eabfa47c581d87110078f11bf9ab9170722e118724a42225cef2", func := "loop.example/g01128/laws.FnExactLockedTokens", spec := "fnExactLockedTokens", unfollowed := true, recurses := true, apart := false }
def FnExactLockedTokensSaid : Prop := fnExactLockedTokensRow.holds Tryz.pinned (OpenSpec.ofChange fnExactLockedTokensSpec)

/-- ITS FALSE NEIGHBOUR: 'it returns false'. Refute it at one input. -/
def fnExactLockedTokensWrong : ChangeSpec := { name := "fnExactLockedTokens", fn := fun _ => fun
  | [d1, d2] => { results := [.lit (.bool false)], args := [d1, d2] }
  | _ => none }
def FnExactLockedTokensWrongFalsely : Prop := fnExactLockedTokensRow.holds Tryz.pinned (OpenSpec.ofChange fnExactLockedTokensWrong)

/-- 'laws.FnExactAddWalk': WHATEVER THE INPUT: true; the input reads as it did. -/
def fnExactAddWalkSpec : ChangeSpec := { name := "fnExactAddWalk", fn := fun _ => fun
  | [d1, d2, d3, d4] => { results := [.lit (.bool true)], args := [d1, d2, d3, d4] }
  | _ => none }
def fnExactAddWalkRow : OpenClaim := { program := "ytadjbmcfgjmhkaagreat", sum := "2237b4c07690eabfa47c581d87110078f11bf9ab9170722e118724a42225cef2", func := "loop.example/g01128/laws.FnExactAddWalk", spec := "fnExactAddWalk", unfollowed := true, recurses := true, apart := false }
def FnExactAddWalkSaid : Prop := fnExactAddWalkRow.holds Tryz.pinned (OpenSpec.ofChange fnExactAddWalkSpec)

/-- ITS FALSE NEIGHBOUR: 'it returns false'. Refute it at one input. -/
def fnExactAddWalkWrong : ChangeSpec := { name := "fnExactAddWalk", fn := fun _ => fun
  | [d1, d2, d3, d4] => { results := [.lit (.bool false)], args := [d1, d2, d3, d4] }
  | _ => none }
def FnExactAddWalkWrongFalsely : Prop := fnExactAddWalkRow.holds Tryz.pinned (OpenSpec.ofChange fnExactAddWalkWrong)

/- THE SECOND FORM. 'bulk': how many values and letters a reading holds, each counted each time it is reached (what is shared counts as often as it is met; a slice's spare places count too). A statement '..UptoSaid' is the law's where the arguments, and the package variables that the reading takes, are together of bulk at most 1048576: NARROWER than '..Said'. Prove '..Said' where nothing that the law and all that it calls make is longer than what came in: it says more and counts as full. Else prove '..UptoSaid'. A law counts once. -/
mutual
def uptoBulk {H : Type} : DataW H → Nat
  | .lit (.string bytes) => bytes.length + 1
  | .lit _ => 1
  | .nil => 1
  | .ptr d => uptoBulk d + 1
  | .slice elems spare => uptoBulkAll elems + uptoBulkAll spare + 1
  | .agg parts => uptoBulkAll parts + 1
  | .iface _ d => uptoBulk d + 1
  | .map entries => uptoBulkEntries entries + 1
  | .held _ => 1
def uptoBulkAll {H : Type} : List (DataW H) → Nat
  | [] => 0
  | d :: r => uptoBulk d + uptoBulkAll r
def uptoBulkEntries {H : Type} : List (Lit × DataW H) → Nat
  | [] => 0
  | x :: r => uptoBulkEntry x + uptoBulkEntries r
def uptoBulkEntry {H : Type} : Lit × DataW H → Nat
  | (.string bytes, d) => bytes.length + uptoBulk d + 1
  | (_, d) => uptoBulk d + 1
 end
def uptoSmall : (H : Type) → List (DataW H) → Bool := fun _ ds => decide (uptoBulkAll ds ≤ 1048576)
def OpenSpec.upto (s : _root_.Go.ChangeSpec) : _root_.Go.OpenSpec := { _root_.Go.OpenSpec.ofChange s with cond := some uptoSmall }

/-- 'laws.FnExactJumpWalk', WHERE WHAT IT READS IS OF BULK AT MOST 1048576: true; the input reads as it did. -/
def fnExactJumpWalkUptoRow : OpenClaim := { program := "ytadjbmcfgjmhkaagreat", sum := "2237b4c07690eabfa47c581d87110078f11bf9ab9170722e118724a42225cef2", func := "loop.example/g01128/laws.FnExactJumpWalk", spec := "fnExactJumpWalk", unfollowed := true, recurses := true, apart := false, narrowed := true }
def FnExactJumpWalkUptoSaid : Prop := fnExactJumpWalkUptoRow.holds Tryz.pinned (OpenSpec.upto fnExactJumpWalkSpec)

/-- 'laws.FnExactSlideWalk', WHERE WHAT IT READS IS OF BULK AT MOST 1048576: true; the input reads as it did. -/
def fnExactSlideWalkUptoRow : OpenClaim := { program := "ytadjbmcfgjmhkaagreat", sum := "2237b4c07690eabfa47c581d87110078f11bf9ab9170722e118724a42225cef2", func := "loop.example/g01128/laws.FnExactSlideWalk", spec := "fnExactSlideWalk", unfollowed := true, recurses := true, apart := false, narrowed := true }
def FnExactSlideWalkUptoSaid : Prop := fnExactSlideWalkUptoRow.holds Tryz.pinned (OpenSpec.upto fnExactSlideWalkSpec)

/-- 'laws.FnExactStuckSets', WHERE WHAT IT READS IS OF BULK AT MOST 1048576: true; the input reads as it did. -/
def fnExactStuckSetsUptoRow : OpenClaim := { program := "ytadjbmcfgjmhkaagreat", sum := "2237b4c07690eabfa47c581d87110078f11bf9ab9170722e118724a42225cef2", func := "loop.example/g01128/laws.FnExactStuckSets", spec := "fnExactStuckSets", unfollowed := true, recurses := true, apart := false, narrowed := true }
def FnExactStuckSetsUptoSaid : Prop := fnExactStuckSetsUptoRow.holds Tryz.pinned (OpenSpec.upto fnExactStuckSetsSpec)

/-- 'laws.FnExactLockedTokens', WHERE WHAT IT READS IS OF BULK AT MOST 1048576: true; the input reads as it did. -/
def fnExactLockedTokensUptoRow : OpenClaim := { program := "ytadjbmcfgjmhkaagreat", sum := "2237b4c07690eabfa47c581d87110078f11bf9ab9170722e118724a42225cef2", func := "loop.example/g01128/laws.FnExactLockedTokens", spec := "fnExactLockedTokens", unfollowed := true, recurses := true, apart := false, narrowed := true }
def FnExactLockedTokensUptoSaid : Prop := fnExactLockedTokensUptoRow.holds Tryz.pinned (OpenSpec.upto fnExactLockedTokensSpec)

/-- 'laws.FnExactAddWalk', WHERE WHAT IT READS IS OF BULK AT MOST 1048576: true; the input reads as it did. -/
def fnExactAddWalkUptoRow : OpenClaim := { program := "ytadjbmcfgjmhkaagreat", sum := "2237b4c07690eabfa47c581d87110078f11bf9ab9170722e118724a42225cef2", func := "loop.example/g01128/laws.FnExactAddWalk", spec := "fnExactAddWalk", unfollowed := true, recurses := true, apart := false, narrowed := true }
def FnExactAddWalkUptoSaid : Prop := fnExactAddWalkUptoRow.holds Tryz.pinned (OpenSpec.upto fnExactAddWalkSpec)

end Rows
end Go.Proofs.YtadjbmcfgjmhkaaGreat
