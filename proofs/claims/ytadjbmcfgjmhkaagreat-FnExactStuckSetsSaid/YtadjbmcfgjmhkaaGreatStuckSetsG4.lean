/- What the row of FnExactStuckSets asks of the program, one by one. -/
import Derived.Test.YtadjbmcfgjmhkaaGreatRows
import Derived.WalkKit
import Derived.ProofKit
import Derived.OpenShut
import Derived.ShutString
import Derived.ChangeOld
import Derived.Below
import Derived.SizedLaws
namespace Go.Proofs.YtadjbmcfgjmhkaaGreat.fnExactStuckSets
open Go.ChangeShapes Go.WideShapes Go.ChangeAt Go.RowKit
set_option maxRecDepth 100000
set_option maxHeartbeats 8000000
set_option linter.unusedVariables false
theorem pK : (Rows.fnExactStuckSetsRow.wf (OpenSpec.ofChange Rows.fnExactStuckSetsSpec)) = true := by kernel_rfl
theorem pJ : (laidOutB Tryz.pinned.checked.prog) = true := by kernel_rfl
theorem py : (mapsRowed Tryz.pinned.checked.prog) = true := by kernel_rfl
theorem pk : (Tryz.f5.params.all (Tryz.pinned.checked.prog.readableRec ·)) = true := by kernel_rfl
theorem pg : (namedTie Tryz.pinned.checked.prog Rows.fnExactStuckSetsRow.named Rows.fnExactStuckSetsSpec.vars) = true := by kernel_rfl
theorem pf : ((Rows.fnExactStuckSetsRow.stops == [])) = true := by kernel_rfl
theorem pe : ((Tryz.pinned.checked.prog.stops == [])) = true := by kernel_rfl
theorem pd : ((Rows.fnExactStuckSetsRow.knobs == [])) = true := by kernel_rfl
theorem pc : ((Tryz.pinned.checked.prog.stopKnobs == [])) = true := by kernel_rfl
theorem pb : ((Rows.fnExactStuckSetsRow.inPlace == Tryz.pinned.checked.prog.inPlace 5)) = true := by kernel_rfl
theorem pI : ((Rows.fnExactStuckSetsRow.unfollowed == Tryz.pinned.checked.prog.unfollowed 5)) = true := by kernel_rfl
theorem pH : ((Rows.fnExactStuckSetsRow.recurses == Tryz.pinned.checked.prog.recurses 5)) = true := by kernel_rfl
theorem pG : ((Rows.fnExactStuckSetsRow.named == Tryz.pinned.checked.prog.varsNamed 5)) = true := by kernel_rfl
theorem pF : ((Rows.fnExactStuckSetsRow.maps == (Tryz.f5.params.toList ++ Rows.fnExactStuckSetsSpec.plain.varTypes Tryz.pinned.checked.prog).any (Tryz.pinned.checked.prog.mapsRec ·))) = true := by kernel_rfl
theorem pE : ((Rows.fnExactStuckSetsRow.ifaces == (Tryz.f5.params.toList ++ Rows.fnExactStuckSetsSpec.plain.varTypes Tryz.pinned.checked.prog).any (Tryz.pinned.checked.prog.ifacesRec ·))) = true := by kernel_rfl
theorem pD : ((Rows.fnExactStuckSetsRow.mapsOut == Tryz.pinned.checked.prog.mapsAmong Tryz.f5.resultTypes.toList)) = true := by kernel_rfl
theorem pC : ((Rows.fnExactStuckSetsRow.loops == (Tryz.f5.params.toList ++ Rows.fnExactStuckSetsSpec.plain.varTypes Tryz.pinned.checked.prog).any (Tryz.pinned.checked.prog.loopsFrom ·))) = true := by kernel_rfl
theorem pB : ((Rows.fnExactStuckSetsRow.wideKeys == (Tryz.f5.params.toList ++ Rows.fnExactStuckSetsSpec.plain.varTypes Tryz.pinned.checked.prog ++ Tryz.f5.resultTypes.toList).any (Tryz.pinned.checked.prog.wideKeysFrom ·))) = true := by kernel_rfl
theorem pA : (Rows.fnExactStuckSetsSpec.vars.all (Tryz.pinned.checked.prog.varReadable ·)) = true := by kernel_rfl
theorem pz : (Tryz.f5.resultTypes.all (fun t => Tryz.pinned.checked.prog.readableRec t && decide (t < Tryz.pinned.checked.prog.types.size))) = true := by kernel_rfl
theorem px : ((Rows.fnExactStuckSetsRow.ifacesOut == Tryz.f5.resultTypes.toList.any (Tryz.pinned.checked.prog.ifacesRec ·))) = true := by kernel_rfl
theorem pw : ((Rows.fnExactStuckSetsRow.loopsOut == Tryz.f5.resultTypes.toList.any (Tryz.pinned.checked.prog.loopsFrom ·))) = true := by kernel_rfl
theorem pv : ((Rows.fnExactStuckSetsRow.plainKeys == Tryz.pinned.checked.prog.plainKeys)) = true := by kernel_rfl
theorem pu : (Rows.fnExactStuckSetsRow.shortTexts.isNone) = true := by kernel_rfl
theorem pr : (Tryz.pinned.checked.prog.stopsHeard) = true := by kernel_rfl
theorem pq : (Tryz.pinned.checked.prog.mayEnter) = true := by kernel_rfl
theorem pp : ((Rows.fnExactStuckSetsRow.lifted == Tryz.pinned.checked.prog.liftsFinal)) = true := by kernel_rfl
theorem po : ((Tryz.pinned.checked.prog.make == some Rows.fnExactStuckSetsRow.make)) = true := by kernel_rfl
theorem pn : ((Rows.fnExactStuckSetsRow.kinds == (if Rows.fnExactStuckSetsRow.domain.isEmpty then [] else Tryz.f5.params.toList.map fun t => match Tryz.pinned.checked.prog.underlying t with | some (.int k) => some k | _ => none))) = true := by kernel_rfl
theorem pm : ((Rows.fnExactStuckSetsRow.pinned == Rows.fnExactStuckSetsRow.pinnedBy)) = true := by kernel_rfl
theorem pj : ((Rows.fnExactStuckSetsRow.veiled == (Tryz.f5.params.toList ++ Rows.fnExactStuckSetsSpec.plain.varTypes Tryz.pinned.checked.prog ++ Tryz.f5.resultTypes.toList).any (Tryz.pinned.checked.prog.veiledRec ·))) = true := by kernel_rfl
theorem pi : (Rows.fnExactStuckSetsRow.veiledFits Tryz.pinned.checked.prog Tryz.f5.params.toList (Tryz.f5.params.toList ++ Rows.fnExactStuckSetsSpec.plain.varTypes Tryz.pinned.checked.prog ++ Tryz.f5.resultTypes.toList)) = true := by kernel_rfl
theorem a7 {a b : Bool} (h : a = true) (k : b = true) : (a && b) = true := by rw [h, k]; rfl
theorem pa : joinedFacts Tryz.pinned.checked.prog 5 Tryz.f5 Rows.fnExactStuckSetsSpec Rows.fnExactStuckSetsRow = true := by
 unfold joinedFacts
 exact (a7 (a7 (a7 (a7 (a7 (a7 (a7 (a7 (a7 (a7 (a7 (a7 (a7 (a7 (a7 (a7 (a7 (a7 (a7 (a7 (a7 (a7 (a7 (a7 (a7 (a7 (a7 (a7 (a7 (a7 (a7 pK pJ) py) pk) pg) pf) pe) pd) pc) pb) pI) pH) pG) pF) pE) pD) pC) pB) pA) pz) px) pw) pv) pu) pr) pq) pp) po) pn) pm) pj) pi)
end Go.Proofs.YtadjbmcfgjmhkaaGreat.fnExactStuckSets
