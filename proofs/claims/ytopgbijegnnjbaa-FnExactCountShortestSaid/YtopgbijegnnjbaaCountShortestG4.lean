/- What the row of FnExactCountShortest asks of the program, one by one. -/
import Derived.Test.YtopgbijegnnjbaaRows
import Derived.WalkKit
import Derived.ProofKit
import Derived.OpenShut
import Derived.ShutString
import Derived.ChangeOld
import Derived.Below
import Derived.SizedLaws
namespace Go.Proofs.Ytopgbijegnnjbaa.fnExactCountShortest
open Go.ChangeShapes Go.WideShapes Go.ChangeAt Go.RowKit
set_option linter.unusedVariables false
set_option maxRecDepth 100000 in
theorem fit0 : (Rows.fnExactCountShortestRow.wf (OpenSpec.ofChange Rows.fnExactCountShortestSpec)) = true := by kernel_rfl
set_option maxRecDepth 100000 in
theorem fit1 : (laidOutB Try.pinned.checked.prog) = true := by kernel_rfl
set_option maxRecDepth 100000 in
theorem fit2 : (mapsRowed Try.pinned.checked.prog) = true := by kernel_rfl
set_option maxRecDepth 100000 in
theorem fit3 : (Try.f3.params.all (Try.pinned.checked.prog.readableRec ·)) = true := by kernel_rfl
set_option maxRecDepth 100000 in
theorem fit4 : (namedTie Try.pinned.checked.prog Rows.fnExactCountShortestRow.named Rows.fnExactCountShortestSpec.vars) = true := by kernel_rfl
set_option maxRecDepth 100000 in
theorem fit5 : ((Rows.fnExactCountShortestRow.stops == [])) = true := by kernel_rfl
set_option maxRecDepth 100000 in
theorem fit6 : ((Try.pinned.checked.prog.stops == [])) = true := by kernel_rfl
set_option maxRecDepth 100000 in
theorem fit7 : ((Rows.fnExactCountShortestRow.knobs == [])) = true := by kernel_rfl
set_option maxRecDepth 100000 in
theorem fit8 : ((Try.pinned.checked.prog.stopKnobs == [])) = true := by kernel_rfl
set_option maxRecDepth 100000 in
theorem fit9 : ((Rows.fnExactCountShortestRow.inPlace == Try.pinned.checked.prog.inPlace 3)) = true := by kernel_rfl
set_option maxRecDepth 100000 in
theorem fit10 : ((Rows.fnExactCountShortestRow.unfollowed == Try.pinned.checked.prog.unfollowed 3)) = true := by kernel_rfl
set_option maxRecDepth 100000 in
theorem fit11 : ((Rows.fnExactCountShortestRow.recurses == Try.pinned.checked.prog.recurses 3)) = true := by kernel_rfl
set_option maxRecDepth 100000 in
theorem fit12 : ((Rows.fnExactCountShortestRow.named == Try.pinned.checked.prog.varsNamed 3)) = true := by kernel_rfl
set_option maxRecDepth 100000 in
theorem fit13 : ((Rows.fnExactCountShortestRow.maps == (Try.f3.params.toList ++ Rows.fnExactCountShortestSpec.plain.varTypes Try.pinned.checked.prog).any (Try.pinned.checked.prog.mapsRec ·))) = true := by kernel_rfl
set_option maxRecDepth 100000 in
theorem fit14 : ((Rows.fnExactCountShortestRow.ifaces == (Try.f3.params.toList ++ Rows.fnExactCountShortestSpec.plain.varTypes Try.pinned.checked.prog).any (Try.pinned.checked.prog.ifacesRec ·))) = true := by kernel_rfl
set_option maxRecDepth 100000 in
theorem fit15 : ((Rows.fnExactCountShortestRow.mapsOut == Try.pinned.checked.prog.mapsAmong Try.f3.resultTypes.toList)) = true := by kernel_rfl
set_option maxRecDepth 100000 in
theorem fit16 : ((Rows.fnExactCountShortestRow.loops == (Try.f3.params.toList ++ Rows.fnExactCountShortestSpec.plain.varTypes Try.pinned.checked.prog).any (Try.pinned.checked.prog.loopsFrom ·))) = true := by kernel_rfl
set_option maxRecDepth 100000 in
theorem fit17 : ((Rows.fnExactCountShortestRow.wideKeys == (Try.f3.params.toList ++ Rows.fnExactCountShortestSpec.plain.varTypes Try.pinned.checked.prog ++ Try.f3.resultTypes.toList).any (Try.pinned.checked.prog.wideKeysFrom ·))) = true := by kernel_rfl
set_option maxRecDepth 100000 in
theorem fit18 : (Rows.fnExactCountShortestSpec.vars.all (Try.pinned.checked.prog.varReadable ·)) = true := by kernel_rfl
set_option maxRecDepth 100000 in
theorem fit19 : (Try.f3.resultTypes.all (fun t => Try.pinned.checked.prog.readableRec t && decide (t < Try.pinned.checked.prog.types.size))) = true := by kernel_rfl
set_option maxRecDepth 100000 in
theorem fit20 : ((Rows.fnExactCountShortestRow.ifacesOut == Try.f3.resultTypes.toList.any (Try.pinned.checked.prog.ifacesRec ·))) = true := by kernel_rfl
set_option maxRecDepth 100000 in
theorem fit21 : ((Rows.fnExactCountShortestRow.loopsOut == Try.f3.resultTypes.toList.any (Try.pinned.checked.prog.loopsFrom ·))) = true := by kernel_rfl
set_option maxRecDepth 100000 in
theorem fit22 : ((Rows.fnExactCountShortestRow.plainKeys == Try.pinned.checked.prog.plainKeys)) = true := by kernel_rfl
set_option maxRecDepth 100000 in
theorem fit23 : (Rows.fnExactCountShortestRow.shortTexts.isNone) = true := by kernel_rfl
set_option maxRecDepth 100000 in
theorem fit24 : (Try.pinned.checked.prog.stopsHeard) = true := by kernel_rfl
set_option maxRecDepth 100000 in
theorem fit25 : (Try.pinned.checked.prog.mayEnter) = true := by kernel_rfl
set_option maxRecDepth 100000 in
theorem fit26 : ((Rows.fnExactCountShortestRow.lifted == Try.pinned.checked.prog.liftsFinal)) = true := by kernel_rfl
set_option maxRecDepth 100000 in
theorem fit27 : ((Try.pinned.checked.prog.make == some Rows.fnExactCountShortestRow.make)) = true := by kernel_rfl
set_option maxRecDepth 100000 in
theorem fit28 : ((Rows.fnExactCountShortestRow.kinds == (if Rows.fnExactCountShortestRow.domain.isEmpty then [] else Try.f3.params.toList.map fun t => match Try.pinned.checked.prog.underlying t with | some (.int k) => some k | _ => none))) = true := by kernel_rfl
set_option maxRecDepth 100000 in
theorem fit29 : ((Rows.fnExactCountShortestRow.pinned == Rows.fnExactCountShortestRow.pinnedBy)) = true := by kernel_rfl
set_option maxRecDepth 100000 in
theorem fit30 : ((Rows.fnExactCountShortestRow.veiled == (Try.f3.params.toList ++ Rows.fnExactCountShortestSpec.plain.varTypes Try.pinned.checked.prog ++ Try.f3.resultTypes.toList).any (Try.pinned.checked.prog.veiledRec ·))) = true := by kernel_rfl
set_option maxRecDepth 100000 in
theorem fit31 : (Rows.fnExactCountShortestRow.veiledFits Try.pinned.checked.prog Try.f3.params.toList (Try.f3.params.toList ++ Rows.fnExactCountShortestSpec.plain.varTypes Try.pinned.checked.prog ++ Try.f3.resultTypes.toList)) = true := by kernel_rfl
theorem fit_both {a b : Bool} (h : a = true) (k : b = true) : (a && b) = true := by rw [h, k]; rfl
set_option maxRecDepth 100000 in
theorem fits : joinedFacts Try.pinned.checked.prog 3 Try.f3 Rows.fnExactCountShortestSpec Rows.fnExactCountShortestRow = true := by
  unfold joinedFacts
  exact (fit_both (fit_both (fit_both (fit_both (fit_both (fit_both (fit_both (fit_both (fit_both (fit_both (fit_both (fit_both (fit_both (fit_both (fit_both (fit_both (fit_both (fit_both (fit_both (fit_both (fit_both (fit_both (fit_both (fit_both (fit_both (fit_both (fit_both (fit_both (fit_both (fit_both (fit_both fit0 fit1) fit2) fit3) fit4) fit5) fit6) fit7) fit8) fit9) fit10) fit11) fit12) fit13) fit14) fit15) fit16) fit17) fit18) fit19) fit20) fit21) fit22) fit23) fit24) fit25) fit26) fit27) fit28) fit29) fit30) fit31)
end Go.Proofs.Ytopgbijegnnjbaa.fnExactCountShortest
