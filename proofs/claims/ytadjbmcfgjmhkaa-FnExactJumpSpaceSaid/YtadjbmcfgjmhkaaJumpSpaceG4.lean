/- What the row of FnExactJumpSpace asks of the program, one by one. -/
import Derived.Test.YtadjbmcfgjmhkaaRows
import Derived.WalkKit
import Derived.ProofKit
import Derived.OpenShut
import Derived.ShutString
import Derived.ChangeOld
import Derived.Below
import Derived.SizedLaws
namespace Go.Proofs.Ytadjbmcfgjmhkaa.fnExactJumpSpace
open Go.ChangeShapes Go.WideShapes Go.ChangeAt Go.RowKit
set_option linter.unusedVariables false
set_option maxRecDepth 100000 in
theorem fit0 : (Rows.fnExactJumpSpaceRow.wf (OpenSpec.ofChange Rows.fnExactJumpSpaceSpec)) = true := by kernel_rfl
set_option maxRecDepth 100000 in
theorem fit1 : (laidOutB Try.pinned.checked.prog) = true := by kernel_rfl
set_option maxRecDepth 100000 in
theorem fit2 : (mapsRowed Try.pinned.checked.prog) = true := by kernel_rfl
set_option maxRecDepth 100000 in
theorem fit3 : (Try.f8.params.all (Try.pinned.checked.prog.readableRec ·)) = true := by kernel_rfl
set_option maxRecDepth 100000 in
theorem fit4 : (namedTie Try.pinned.checked.prog Rows.fnExactJumpSpaceRow.named Rows.fnExactJumpSpaceSpec.vars) = true := by kernel_rfl
set_option maxRecDepth 100000 in
theorem fit5 : ((Rows.fnExactJumpSpaceRow.stops == [])) = true := by kernel_rfl
set_option maxRecDepth 100000 in
theorem fit6 : ((Try.pinned.checked.prog.stops == [])) = true := by kernel_rfl
set_option maxRecDepth 100000 in
theorem fit7 : ((Rows.fnExactJumpSpaceRow.knobs == [])) = true := by kernel_rfl
set_option maxRecDepth 100000 in
theorem fit8 : ((Try.pinned.checked.prog.stopKnobs == [])) = true := by kernel_rfl
set_option maxRecDepth 100000 in
theorem fit9 : ((Rows.fnExactJumpSpaceRow.inPlace == Try.pinned.checked.prog.inPlace 8)) = true := by kernel_rfl
set_option maxRecDepth 100000 in
theorem fit10 : ((Rows.fnExactJumpSpaceRow.unfollowed == Try.pinned.checked.prog.unfollowed 8)) = true := by kernel_rfl
set_option maxRecDepth 100000 in
theorem fit11 : ((Rows.fnExactJumpSpaceRow.recurses == Try.pinned.checked.prog.recurses 8)) = true := by kernel_rfl
set_option maxRecDepth 100000 in
theorem fit12 : ((Rows.fnExactJumpSpaceRow.named == Try.pinned.checked.prog.varsNamed 8)) = true := by kernel_rfl
set_option maxRecDepth 100000 in
theorem fit13 : ((Rows.fnExactJumpSpaceRow.maps == (Try.f8.params.toList ++ Rows.fnExactJumpSpaceSpec.plain.varTypes Try.pinned.checked.prog).any (Try.pinned.checked.prog.mapsRec ·))) = true := by kernel_rfl
set_option maxRecDepth 100000 in
theorem fit14 : ((Rows.fnExactJumpSpaceRow.ifaces == (Try.f8.params.toList ++ Rows.fnExactJumpSpaceSpec.plain.varTypes Try.pinned.checked.prog).any (Try.pinned.checked.prog.ifacesRec ·))) = true := by kernel_rfl
set_option maxRecDepth 100000 in
theorem fit15 : ((Rows.fnExactJumpSpaceRow.mapsOut == Try.pinned.checked.prog.mapsAmong Try.f8.resultTypes.toList)) = true := by kernel_rfl
set_option maxRecDepth 100000 in
theorem fit16 : ((Rows.fnExactJumpSpaceRow.loops == (Try.f8.params.toList ++ Rows.fnExactJumpSpaceSpec.plain.varTypes Try.pinned.checked.prog).any (Try.pinned.checked.prog.loopsFrom ·))) = true := by kernel_rfl
set_option maxRecDepth 100000 in
theorem fit17 : ((Rows.fnExactJumpSpaceRow.wideKeys == (Try.f8.params.toList ++ Rows.fnExactJumpSpaceSpec.plain.varTypes Try.pinned.checked.prog ++ Try.f8.resultTypes.toList).any (Try.pinned.checked.prog.wideKeysFrom ·))) = true := by kernel_rfl
set_option maxRecDepth 100000 in
theorem fit18 : (Rows.fnExactJumpSpaceSpec.vars.all (Try.pinned.checked.prog.varReadable ·)) = true := by kernel_rfl
set_option maxRecDepth 100000 in
theorem fit19 : (Try.f8.resultTypes.all (fun t => Try.pinned.checked.prog.readableRec t && decide (t < Try.pinned.checked.prog.types.size))) = true := by kernel_rfl
set_option maxRecDepth 100000 in
theorem fit20 : ((Rows.fnExactJumpSpaceRow.ifacesOut == Try.f8.resultTypes.toList.any (Try.pinned.checked.prog.ifacesRec ·))) = true := by kernel_rfl
set_option maxRecDepth 100000 in
theorem fit21 : ((Rows.fnExactJumpSpaceRow.loopsOut == Try.f8.resultTypes.toList.any (Try.pinned.checked.prog.loopsFrom ·))) = true := by kernel_rfl
set_option maxRecDepth 100000 in
theorem fit22 : ((Rows.fnExactJumpSpaceRow.plainKeys == Try.pinned.checked.prog.plainKeys)) = true := by kernel_rfl
set_option maxRecDepth 100000 in
theorem fit23 : (Rows.fnExactJumpSpaceRow.shortTexts.isNone) = true := by kernel_rfl
set_option maxRecDepth 100000 in
theorem fit24 : (Try.pinned.checked.prog.stopsHeard) = true := by kernel_rfl
set_option maxRecDepth 100000 in
theorem fit25 : (Try.pinned.checked.prog.mayEnter) = true := by kernel_rfl
set_option maxRecDepth 100000 in
theorem fit26 : ((Rows.fnExactJumpSpaceRow.lifted == Try.pinned.checked.prog.liftsFinal)) = true := by kernel_rfl
set_option maxRecDepth 100000 in
theorem fit27 : ((Try.pinned.checked.prog.make == some Rows.fnExactJumpSpaceRow.make)) = true := by kernel_rfl
set_option maxRecDepth 100000 in
theorem fit28 : ((Rows.fnExactJumpSpaceRow.kinds == (if Rows.fnExactJumpSpaceRow.domain.isEmpty then [] else Try.f8.params.toList.map fun t => match Try.pinned.checked.prog.underlying t with | some (.int k) => some k | _ => none))) = true := by kernel_rfl
set_option maxRecDepth 100000 in
theorem fit29 : ((Rows.fnExactJumpSpaceRow.pinned == Rows.fnExactJumpSpaceRow.pinnedBy)) = true := by kernel_rfl
set_option maxRecDepth 100000 in
theorem fit30 : ((Rows.fnExactJumpSpaceRow.veiled == (Try.f8.params.toList ++ Rows.fnExactJumpSpaceSpec.plain.varTypes Try.pinned.checked.prog ++ Try.f8.resultTypes.toList).any (Try.pinned.checked.prog.veiledRec ·))) = true := by kernel_rfl
set_option maxRecDepth 100000 in
theorem fit31 : (Rows.fnExactJumpSpaceRow.veiledFits Try.pinned.checked.prog Try.f8.params.toList (Try.f8.params.toList ++ Rows.fnExactJumpSpaceSpec.plain.varTypes Try.pinned.checked.prog ++ Try.f8.resultTypes.toList)) = true := by kernel_rfl
theorem fit_both {a b : Bool} (h : a = true) (k : b = true) : (a && b) = true := by rw [h, k]; rfl
set_option maxRecDepth 100000 in
theorem fits : joinedFacts Try.pinned.checked.prog 8 Try.f8 Rows.fnExactJumpSpaceSpec Rows.fnExactJumpSpaceRow = true := by
  unfold joinedFacts
  exact (fit_both (fit_both (fit_both (fit_both (fit_both (fit_both (fit_both (fit_both (fit_both (fit_both (fit_both (fit_both (fit_both (fit_both (fit_both (fit_both (fit_both (fit_both (fit_both (fit_both (fit_both (fit_both (fit_both (fit_both (fit_both (fit_both (fit_both (fit_both (fit_both (fit_both (fit_both fit0 fit1) fit2) fit3) fit4) fit5) fit6) fit7) fit8) fit9) fit10) fit11) fit12) fit13) fit14) fit15) fit16) fit17) fit18) fit19) fit20) fit21) fit22) fit23) fit24) fit25) fit26) fit27) fit28) fit29) fit30) fit31)
end Go.Proofs.Ytadjbmcfgjmhkaa.fnExactJumpSpace
