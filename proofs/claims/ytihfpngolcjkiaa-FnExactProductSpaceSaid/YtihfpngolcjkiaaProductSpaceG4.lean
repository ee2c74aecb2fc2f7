/- What the row of FnExactProductSpace asks of the program, one by one. -/
import Derived.Test.YtihfpngolcjkiaaRows
import Derived.WalkKit
import Derived.ProofKit
import Derived.OpenShut
import Derived.ShutString
import Derived.ChangeOld
import Derived.Below
import Derived.SizedLaws
namespace Go.Proofs.Ytihfpngolcjkiaa.fnExactProductSpace
open Go.ChangeShapes Go.WideShapes Go.ChangeAt Go.RowKit
set_option linter.unusedVariables false
set_option maxRecDepth 100000 in
theorem fit0 : (Rows.fnExactProductSpaceRow.wf (OpenSpec.ofChange Rows.fnExactProductSpaceSpec)) = true := by kernel_rfl
set_option maxRecDepth 100000 in
theorem fit1 : (laidOutB Try.pinned.checked.prog) = true := by kernel_rfl
set_option maxRecDepth 100000 in
theorem fit2 : (mapsRowed Try.pinned.checked.prog) = true := by kernel_rfl
set_option maxRecDepth 100000 in
theorem fit3 : (Try.f3.params.all (Try.pinned.checked.prog.readableRec ·)) = true := by kernel_rfl
set_option maxRecDepth 100000 in
theorem fit4 : (namedTie Try.pinned.checked.prog Rows.fnExactProductSpaceRow.named Rows.fnExactProductSpaceSpec.vars) = true := by kernel_rfl
set_option maxRecDepth 100000 in
theorem fit5 : ((Rows.fnExactProductSpaceRow.stops == [])) = true := by kernel_rfl
set_option maxRecDepth 100000 in
theorem fit6 : ((Try.pinned.checked.prog.stops == [])) = true := by kernel_rfl
set_option maxRecDepth 100000 in
theorem fit7 : ((Rows.fnExactProductSpaceRow.knobs == [])) = true := by kernel_rfl
set_option maxRecDepth 100000 in
theorem fit8 : ((Try.pinned.checked.prog.stopKnobs == [])) = true := by kernel_rfl
set_option maxRecDepth 100000 in
theorem fit9 : ((Rows.fnExactProductSpaceRow.inPlace == Try.pinned.checked.prog.inPlace 3)) = true := by kernel_rfl
set_option maxRecDepth 100000 in
theorem fit10 : ((Rows.fnExactProductSpaceRow.unfollowed == Try.pinned.checked.prog.unfollowed 3)) = true := by kernel_rfl
set_option maxRecDepth 100000 in
theorem fit11 : ((Rows.fnExactProductSpaceRow.recurses == Try.pinned.checked.prog.recurses 3)) = true := by kernel_rfl
set_option maxRecDepth 100000 in
theorem fit12 : ((Rows.fnExactProductSpaceRow.named == Try.pinned.checked.prog.varsNamed 3)) = true := by kernel_rfl
set_option maxRecDepth 100000 in
theorem fit13 : ((Rows.fnExactProductSpaceRow.maps == (Try.f3.params.toList ++ Rows.fnExactProductSpaceSpec.plain.varTypes Try.pinned.checked.prog).any (Try.pinned.checked.prog.mapsRec ·))) = true := by kernel_rfl
set_option maxRecDepth 100000 in
theorem fit14 : ((Rows.fnExactProductSpaceRow.ifaces == (Try.f3.params.toList ++ Rows.fnExactProductSpaceSpec.plain.varTypes Try.pinned.checked.prog).any (Try.pinned.checked.prog.ifacesRec ·))) = true := by kernel_rfl
set_option maxRecDepth 100000 in
theorem fit15 : ((Rows.fnExactProductSpaceRow.mapsOut == Try.pinned.checked.prog.mapsAmong Try.f3.resultTypes.toList)) = true := by kernel_rfl
set_option maxRecDepth 100000 in
theorem fit16 : ((Rows.fnExactProductSpaceRow.loops == (Try.f3.params.toList ++ Rows.fnExactProductSpaceSpec.plain.varTypes Try.pinned.checked.prog).any (Try.pinned.checked.prog.loopsFrom ·))) = true := by kernel_rfl
set_option maxRecDepth 100000 in
theorem fit17 : ((Rows.fnExactProductSpaceRow.wideKeys == (Try.f3.params.toList ++ Rows.fnExactProductSpaceSpec.plain.varTypes Try.pinned.checked.prog ++ Try.f3.resultTypes.toList).any (Try.pinned.checked.prog.wideKeysFrom ·))) = true := by kernel_rfl
set_option maxRecDepth 100000 in
theorem fit18 : (Rows.fnExactProductSpaceSpec.vars.all (Try.pinned.checked.prog.varReadable ·)) = true := by kernel_rfl
set_option maxRecDepth 100000 in
theorem fit19 : (Try.f3.resultTypes.all (fun t => Try.pinned.checked.prog.readableRec t && decide (t < Try.pinned.checked.prog.types.size))) = true := by kernel_rfl
set_option maxRecDepth 100000 in
theorem fit20 : ((Rows.fnExactProductSpaceRow.ifacesOut == Try.f3.resultTypes.toList.any (Try.pinned.checked.prog.ifacesRec ·))) = true := by kernel_rfl
set_option maxRecDepth 100000 in
theorem fit21 : ((Rows.fnExactProductSpaceRow.loopsOut == Try.f3.resultTypes.toList.any (Try.pinned.checked.prog.loopsFrom ·))) = true := by kernel_rfl
set_option maxRecDepth 100000 in
theorem fit22 : ((Rows.fnExactProductSpaceRow.plainKeys == Try.pinned.checked.prog.plainKeys)) = true := by kernel_rfl
set_option maxRecDepth 100000 in
theorem fit23 : (Rows.fnExactProductSpaceRow.shortTexts.isNone) = true := by kernel_rfl
set_option maxRecDepth 100000 in
theorem fit24 : (Try.pinned.checked.prog.stopsHeard) = true := by kernel_rfl
set_option maxRecDepth 100000 in
theorem fit25 : (Try.pinned.checked.prog.mayEnter) = true := by kernel_rfl
set_option maxRecDepth 100000 in
theorem fit26 : ((Rows.fnExactProductSpaceRow.lifted == Try.pinned.checked.prog.liftsFinal)) = true := by kernel_rfl
set_option maxRecDepth 100000 in
theorem fit27 : ((Try.pinned.checked.prog.make == some Rows.fnExactProductSpaceRow.make)) = true := by kernel_rfl
set_option maxRecDepth 100000 in
theorem fit28 : ((Rows.fnExactProductSpaceRow.kinds == (if Rows.fnExactProductSpaceRow.domain.isEmpty then [] else Try.f3.params.toList.map fun t => match Try.pinned.checked.prog.underlying t with | some (.int k) => some k | _ => none))) = true := by kernel_rfl
set_option maxRecDepth 100000 in
theorem fit29 : ((Rows.fnExactProductSpaceRow.pinned == Rows.fnExactProductSpaceRow.pinnedBy)) = true := by kernel_rfl
set_option maxRecDepth 100000 in
theorem fit30 : ((Rows.fnExactProductSpaceRow.veiled == (Try.f3.params.toList ++ Rows.fnExactProductSpaceSpec.plain.varTypes Try.pinned.checked.prog ++ Try.f3.resultTypes.toList).any (Try.pinned.checked.prog.veiledRec ·))) = true := by kernel_rfl
set_option maxRecDepth 100000 in
theorem fit31 : (Rows.fnExactProductSpaceRow.veiledFits Try.pinned.checked.prog Try.f3.params.toList (Try.f3.params.toList ++ Rows.fnExactProductSpaceSpec.plain.varTypes Try.pinned.checked.prog ++ Try.f3.resultTypes.toList)) = true := by kernel_rfl
theorem fit_both {a b : Bool} (h : a = true) (k : b = true) : (a && b) = true := by rw [h, k]; rfl
set_option maxRecDepth 100000 in
theorem fits : joinedFacts Try.pinned.checked.prog 3 Try.f3 Rows.fnExactProductSpaceSpec Rows.fnExactProductSpaceRow = true := by
  unfold joinedFacts
  exact (fit_both (fit_both (fit_both (fit_both (fit_both (fit_both (fit_both (fit_both (fit_both (fit_both (fit_both (fit_both (fit_both (fit_both (fit_both (fit_both (fit_both (fit_both (fit_both (fit_both (fit_both (fit_both (fit_both (fit_both (fit_both (fit_both (fit_both (fit_both (fit_both (fit_both (fit_both fit0 fit1) fit2) fit3) fit4) fit5) fit6) fit7) fit8) fit9) fit10) fit11) fit12) fit13) fit14) fit15) fit16) fit17) fit18) fit19) fit20) fit21) fit22) fit23) fit24) fit25) fit26) fit27) fit28) fit29) fit30) fit31)
end Go.Proofs.Ytihfpngolcjkiaa.fnExactProductSpace
