/- What the row of FnExactTokenBound asks of the program, one by one. -/
import Derived.Test.YtnjadmgnnbamhaaRows
import Derived.WalkKit
import Derived.ProofKit
import Derived.OpenShut
import Derived.ShutString
import Derived.ChangeOld
import Derived.Below
import Derived.SizedLaws
namespace Go.Proofs.Ytnjadmgnnbamhaa.fnExactTokenBound
open Go.ChangeShapes Go.WideShapes Go.ChangeAt Go.RowKit
set_option linter.unusedVariables false
set_option maxRecDepth 100000 in
theorem fit0 : (Rows.fnExactTokenBoundRow.wf (OpenSpec.ofChange Rows.fnExactTokenBoundSpec)) = true := by kernel_rfl
set_option maxRecDepth 100000 in
theorem fit1 : (laidOutB Try.pinned.checked.prog) = true := by kernel_rfl
set_option maxRecDepth 100000 in
theorem fit2 : (mapsRowed Try.pinned.checked.prog) = true := by kernel_rfl
set_option maxRecDepth 100000 in
theorem fit3 : (Try.f3.params.all (Try.pinned.checked.prog.readableRec ·)) = true := by kernel_rfl
set_option maxRecDepth 100000 in
theorem fit4 : (namedTie Try.pinned.checked.prog Rows.fnExactTokenBoundRow.named Rows.fnExactTokenBoundSpec.vars) = true := by kernel_rfl
set_option maxRecDepth 100000 in
theorem fit5 : ((Rows.fnExactTokenBoundRow.stops == [])) = true := by kernel_rfl
set_option maxRecDepth 100000 in
theorem fit6 : ((Try.pinned.checked.prog.stops == [])) = true := by kernel_rfl
set_option maxRecDepth 100000 in
theorem fit7 : ((Rows.fnExactTokenBoundRow.knobs == [])) = true := by kernel_rfl
set_option maxRecDepth 100000 in
theorem fit8 : ((Try.pinned.checked.prog.stopKnobs == [])) = true := by kernel_rfl
set_option maxRecDepth 100000 in
theorem fit9 : ((Rows.fnExactTokenBoundRow.inPlace == Try.pinned.checked.prog.inPlace 3)) = true := by kernel_rfl
set_option maxRecDepth 100000 in
theorem fit10 : ((Rows.fnExactTokenBoundRow.unfollowed == Try.pinned.checked.prog.unfollowed 3)) = true := by kernel_rfl
set_option maxRecDepth 100000 in
theorem fit11 : ((Rows.fnExactTokenBoundRow.recurses == Try.pinned.checked.prog.recurses 3)) = true := by kernel_rfl
set_option maxRecDepth 100000 in
theorem fit12 : ((Rows.fnExactTokenBoundRow.named == Try.pinned.checked.prog.varsNamed 3)) = true := by kernel_rfl
set_option maxRecDepth 100000 in
theorem fit13 : ((Rows.fnExactTokenBoundRow.maps == (Try.f3.params.toList ++ Rows.fnExactTokenBoundSpec.plain.varTypes Try.pinned.checked.prog).any (Try.pinned.checked.prog.mapsRec ·))) = true := by kernel_rfl
set_option maxRecDepth 100000 in
theorem fit14 : ((Rows.fnExactTokenBoundRow.ifaces == (Try.f3.params.toList ++ Rows.fnExactTokenBoundSpec.plain.varTypes Try.pinned.checked.prog).any (Try.pinned.checked.prog.ifacesRec ·))) = true := by kernel_rfl
set_option maxRecDepth 100000 in
theorem fit15 : ((Rows.fnExactTokenBoundRow.mapsOut == Try.pinned.checked.prog.mapsAmong Try.f3.resultTypes.toList)) = true := by kernel_rfl
set_option maxRecDepth 100000 in
theorem fit16 : ((Rows.fnExactTokenBoundRow.loops == (Try.f3.params.toList ++ Rows.fnExactTokenBoundSpec.plain.varTypes Try.pinned.checked.prog).any (Try.pinned.checked.prog.loopsFrom ·))) = true := by kernel_rfl
set_option maxRecDepth 100000 in
theorem fit17 : ((Rows.fnExactTokenBoundRow.wideKeys == (Try.f3.params.toList ++ Rows.fnExactTokenBoundSpec.plain.varTypes Try.pinned.checked.prog ++ Try.f3.resultTypes.toList).any (Try.pinned.checked.prog.wideKeysFrom ·))) = true := by kernel_rfl
set_option maxRecDepth 100000 in
theorem fit18 : (Rows.fnExactTokenBoundSpec.vars.all (Try.pinned.checked.prog.varReadable ·)) = true := by kernel_rfl
set_option maxRecDepth 100000 in
theorem fit19 : (Try.f3.resultTypes.all (fun t => Try.pinned.checked.prog.readableRec t && decide (t < Try.pinned.checked.prog.types.size))) = true := by kernel_rfl
set_option maxRecDepth 100000 in
theorem fit20 : ((Rows.fnExactTokenBoundRow.ifacesOut == Try.f3.resultTypes.toList.any (Try.pinned.checked.prog.ifacesRec ·))) = true := by kernel_rfl
set_option maxRecDepth 100000 in
theorem fit21 : ((Rows.fnExactTokenBoundRow.loopsOut == Try.f3.resultTypes.toList.any (Try.pinned.checked.prog.loopsFrom ·))) = true := by kernel_rfl
set_option maxRecDepth 100000 in
theorem fit22 : ((Rows.fnExactTokenBoundRow.plainKeys == Try.pinned.checked.prog.plainKeys)) = true := by kernel_rfl
set_option maxRecDepth 100000 in
theorem fit23 : (Rows.fnExactTokenBoundRow.shortTexts.isNone) = true := by kernel_rfl
set_option maxRecDepth 100000 in
theorem fit24 : (Try.pinned.checked.prog.stopsHeard) = true := by kernel_rfl
set_option maxRecDepth 100000 in
theorem fit25 : (Try.pinned.checked.prog.mayEnter) = true := by kernel_rfl
set_option maxRecDepth 100000 in
theorem fit26 : ((Rows.fnExactTokenBoundRow.lifted == Try.pinned.checked.prog.liftsFinal)) = true := by kernel_rfl
set_option maxRecDepth 100000 in
theorem fit27 : ((Try.pinned.checked.prog.make == some Rows.fnExactTokenBoundRow.make)) = true := by kernel_rfl
set_option maxRecDepth 100000 in
theorem fit28 : ((Rows.fnExactTokenBoundRow.kinds == (if Rows.fnExactTokenBoundRow.domain.isEmpty then [] else Try.f3.params.toList.map fun t => match Try.pinned.checked.prog.underlying t with | some (.int k) => some k | _ => none))) = true := by kernel_rfl
set_option maxRecDepth 100000 in
theorem fit29 : ((Rows.fnExactTokenBoundRow.pinned == Rows.fnExactTokenBoundRow.pinnedBy)) = true := by kernel_rfl
set_option maxRecDepth 100000 in
theorem fit30 : ((Rows.fnExactTokenBoundRow.veiled == (Try.f3.params.toList ++ Rows.fnExactTokenBoundSpec.plain.varTypes Try.pinned.checked.prog ++ Try.f3.resultTypes.toList).any (Try.pinned.checked.prog.veiledRec ·))) = true := by kernel_rfl
set_option maxRecDepth 100000 in
theorem fit31 : (Rows.fnExactTokenBoundRow.veiledFits Try.pinned.checked.prog Try.f3.params.toList (Try.f3.params.toList ++ Rows.fnExactTokenBoundSpec.plain.varTypes Try.pinned.checked.prog ++ Try.f3.resultTypes.toList)) = true := by kernel_rfl
theorem fit_both {a b : Bool} (h : a = true) (k : b = true) : (a && b) = true := by rw [h, k]; rfl
set_option maxRecDepth 100000 in
theorem fits : joinedFacts Try.pinned.checked.prog 3 Try.f3 Rows.fnExactTokenBoundSpec Rows.fnExactTokenBoundRow = true := by
  unfold joinedFacts
  exact (fit_both (fit_both (fit_both (fit_both (fit_both (fit_both (fit_both (fit_both (fit_both (fit_both (fit_both (fit_both (fit_both (fit_both (fit_both (fit_both (fit_both (fit_both (fit_both (fit_both (fit_both (fit_both (fit_both (fit_both (fit_both (fit_both (fit_both (fit_both (fit_both (fit_both (fit_both fit0 fit1) fit2) fit3) fit4) fit5) fit6) fit7) fit8) fit9) fit10) fit11) fit12) fit13) fit14) fit15) fit16) fit17) fit18) fit19) fit20) fit21) fit22) fit23) fit24) fit25) fit26) fit27) fit28) fit29) fit30) fit31)
end Go.Proofs.Ytnjadmgnnbamhaa.fnExactTokenBound
