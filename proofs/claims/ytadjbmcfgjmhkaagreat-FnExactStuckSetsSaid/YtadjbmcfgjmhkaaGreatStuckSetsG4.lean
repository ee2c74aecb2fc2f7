/- What the row of FnExactStuckSets asks of the program, one by one. -/
import Derived.Test.YtadjbmcfgjmhkaaGreatRows
import Derived.WalkKit
import Derived.ProofKit
import Derived.OpenShut
import Derived.ShutString
import Derived.ChangeOld
import Derived.Below
import Derived.SizedLaws
namespace Go.Proofs.YtadjbmcfgjmhkaaGreat.fnExactStuckSets
open Go.ChangeShapes Go.WideShapes Go.ChangeAt Go.RowKit
set_option linter.unusedVariables false
set_option maxRecDepth 100000 in
theorem fit0 : (Rows.fnExactStuckSetsRow.wf (OpenSpec.ofChange Rows.fnExactStuckSetsSpec)) = true := by kernel_rfl
set_option maxRecDepth 100000 in
theorem fit1 : (laidOutB Tryz.pinned.checked.prog) = true := by kernel_rfl
set_option maxRecDepth 100000 in
theorem fit2 : (mapsRowed Tryz.pinned.checked.prog) = true := by kernel_rfl
set_option maxRecDepth 100000 in
theorem fit3 : (Tryz.f5.params.all (Tryz.pinned.checked.prog.readableRec ·)) = true := by kernel_rfl
set_option maxRecDepth 100000 in
theorem fit4 : (namedTie Tryz.pinned.checked.prog Rows.fnExactStuckSetsRow.named Rows.fnExactStuckSetsSpec.vars) = true := by kernel_rfl
set_option maxRecDepth 100000 in
theorem fit5 : ((Rows.fnExactStuckSetsRow.stops == [])) = true := by kernel_rfl
set_option maxRecDepth 100000 in
theorem fit6 : ((Tryz.pinned.checked.prog.stops == [])) = true := by kernel_rfl
set_option maxRecDepth 100000 in
theorem fit7 : ((Rows.fnExactStuckSetsRow.knobs == [])) = true := by kernel_rfl
set_option maxRecDepth 100000 in
theorem fit8 : ((Tryz.pinned.checked.prog.stopKnobs == [])) = true := by kernel_rfl
set_option maxRecDepth 100000 in
theorem fit9 : ((Rows.fnExactStuckSetsRow.inPlace == Tryz.pinned.checked.prog.inPlace 5)) = true := by kernel_rfl
set_option maxRecDepth 100000 in
theorem fit10 : ((Rows.fnExactStuckSetsRow.unfollowed == Tryz.pinned.checked.prog.unfollowed 5)) = true := by kernel_rfl
set_option maxRecDepth 100000 in
theorem fit11 : ((Rows.fnExactStuckSetsRow.recurses == Tryz.pinned.checked.prog.recurses 5)) = true := by kernel_rfl
set_option maxRecDepth 100000 in
theorem fit12 : ((Rows.fnExactStuckSetsRow.named == Tryz.pinned.checked.prog.varsNamed 5)) = true := by kernel_rfl
set_option maxRecDepth 100000 in
theorem fit13 : ((Rows.fnExactStuckSetsRow.maps == (Tryz.f5.params.toList ++ Rows.fnExactStuckSetsSpec.plain.varTypes Tryz.pinned.checked.prog).any (Tryz.pinned.checked.prog.mapsRec ·))) = true := by kernel_rfl
set_option maxRecDepth 100000 in
theorem fit14 : ((Rows.fnExactStuckSetsRow.ifaces == (Tryz.f5.params.toList ++ Rows.fnExactStuckSetsSpec.plain.varTypes Tryz.pinned.checked.prog).any (Tryz.pinned.checked.prog.ifacesRec ·))) = true := by kernel_rfl
set_option maxRecDepth 100000 in
theorem fit15 : ((Rows.fnExactStuckSetsRow.mapsOut == Tryz.pinned.checked.prog.mapsAmong Tryz.f5.resultTypes.toList)) = true := by kernel_rfl
set_option maxRecDepth 100000 in
theorem fit16 : ((Rows.fnExactStuckSetsRow.loops == (Tryz.f5.params.toList ++ Rows.fnExactStuckSetsSpec.plain.varTypes Tryz.pinned.checked.prog).any (Tryz.pinned.checked.prog.loopsFrom ·))) = true := by kernel_rfl
set_option maxRecDepth 100000 in
theorem fit17 : ((Rows.fnExactStuckSetsRow.wideKeys == (Tryz.f5.params.toList ++ Rows.fnExactStuckSetsSpec.plain.varTypes Tryz.pinned.checked.prog ++ Tryz.f5.resultTypes.toList).any (Tryz.pinned.checked.prog.wideKeysFrom ·))) = true := by kernel_rfl
set_option maxRecDepth 100000 in
theorem fit18 : (Rows.fnExactStuckSetsSpec.vars.all (Tryz.pinned.checked.prog.varReadable ·)) = true := by kernel_rfl
set_option maxRecDepth 100000 in
theorem fit19 : (Tryz.f5.resultTypes.all (fun t => Tryz.pinned.checked.prog.readableRec t && decide (t < Tryz.pinned.checked.prog.types.size))) = true := by kernel_rfl
set_option maxRecDepth 100000 in
theorem fit20 : ((Rows.fnExactStuckSetsRow.ifacesOut == Tryz.f5.resultTypes.toList.any (Tryz.pinned.checked.prog.ifacesRec ·))) = true := by kernel_rfl
set_option maxRecDepth 100000 in
theorem fit21 : ((Rows.fnExactStuckSetsRow.loopsOut == Tryz.f5.resultTypes.toList.any (Tryz.pinned.checked.prog.loopsFrom ·))) = true := by kernel_rfl
set_option maxRecDepth 100000 in
theorem fit22 : ((Rows.fnExactStuckSetsRow.plainKeys == Tryz.pinned.checked.prog.plainKeys)) = true := by kernel_rfl
set_option maxRecDepth 100000 in
theorem fit23 : (Rows.fnExactStuckSetsRow.shortTexts.isNone) = true := by kernel_rfl
set_option maxRecDepth 100000 in
theorem fit24 : (Tryz.pinned.checked.prog.stopsHeard) = true := by kernel_rfl
set_option maxRecDepth 100000 in
theorem fit25 : (Tryz.pinned.checked.prog.mayEnter) = true := by kernel_rfl
set_option maxRecDepth 100000 in
theorem fit26 : ((Rows.fnExactStuckSetsRow.lifted == Tryz.pinned.checked.prog.liftsFinal)) = true := by kernel_rfl
set_option maxRecDepth 100000 in
theorem fit27 : ((Tryz.pinned.checked.prog.make == some Rows.fnExactStuckSetsRow.make)) = true := by kernel_rfl
set_option maxRecDepth 100000 in
theorem fit28 : ((Rows.fnExactStuckSetsRow.kinds == (if Rows.fnExactStuckSetsRow.domain.isEmpty then [] else Tryz.f5.params.toList.map fun t => match Tryz.pinned.checked.prog.underlying t with | some (.int k) => some k | _ => none))) = true := by kernel_rfl
set_option maxRecDepth 100000 in
theorem fit29 : ((Rows.fnExactStuckSetsRow.pinned == Rows.fnExactStuckSetsRow.pinnedBy)) = true := by kernel_rfl
set_option maxRecDepth 100000 in
theorem fit30 : ((Rows.fnExactStuckSetsRow.veiled == (Tryz.f5.params.toList ++ Rows.fnExactStuckSetsSpec.plain.varTypes Tryz.pinned.checked.prog ++ Tryz.f5.resultTypes.toList).any (Tryz.pinned.checked.prog.veiledRec ·))) = true := by kernel_rfl
set_option maxRecDepth 100000 in
theorem fit31 : (Rows.fnExactStuckSetsRow.veiledFits Tryz.pinned.checked.prog Tryz.f5.params.toList (Tryz.f5.params.toList ++ Rows.fnExactStuckSetsSpec.plain.varTypes Tryz.pinned.checked.prog ++ Tryz.f5.resultTypes.toList)) = true := by kernel_rfl
theorem fit_both {a b : Bool} (h : a = true) (k : b = true) : (a && b) = true := by rw [h, k]; rfl
set_option maxRecDepth 100000 in
theorem fits : joinedFacts Tryz.pinned.checked.prog 5 Tryz.f5 Rows.fnExactStuckSetsSpec Rows.fnExactStuckSetsRow = true := by
  unfold joinedFacts
  exact (fit_both (fit_both (fit_both (fit_both (fit_both (fit_both (fit_both (fit_both (fit_both (fit_both (fit_both (fit_both (fit_both (fit_both (fit_both (fit_both (fit_both (fit_both (fit_both (fit_both (fit_both (fit_both (fit_both (fit_both (fit_both (fit_both (fit_both (fit_both (fit_both (fit_both (fit_both fit0 fit1) fit2) fit3) fit4) fit5) fit6) fit7) fit8) fit9) fit10) fit11) fit12) fit13) fit14) fit15) fit16) fit17) fit18) fit19) fit20) fit21) fit22) fit23) fit24) fit25) fit26) fit27) fit28) fit29) fit30) fit31)
end Go.Proofs.YtadjbmcfgjmhkaaGreat.fnExactStuckSets
