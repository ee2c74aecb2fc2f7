/- What the row of FnExactLockedTokens asks of the program, one by one. -/
import Derived.Test.YtadjbmcfgjmhkaaGreatRows
import Derived.WalkKit
import Derived.ProofKit
import Derived.OpenShut
import Derived.ShutString
import Derived.ChangeOld
import Derived.Below
import Derived.SizedLaws
namespace Go.Proofs.YtadjbmcfgjmhkaaGreat.fnExactLockedTokens
open Go.ChangeShapes Go.WideShapes Go.ChangeAt Go.RowKit
set_option maxRecDepth 100000
set_option maxHeartbeats 8000000
set_option linter.unusedVariables false
theorem fit0 : (Rows.fnExactLockedTokensRow.wf (OpenSpec.ofChange Rows.fnExactLockedTokensSpec)) = true := by kernel_rfl
theorem fit1 : (laidOutB Tryz.pinned.checked.prog) = true := by kernel_rfl
theorem fit2 : (mapsRowed Tryz.pinned.checked.prog) = true := by kernel_rfl
theorem fit3 : (Tryz.f6.params.all (Tryz.pinned.checked.prog.readableRec ·)) = true := by kernel_rfl
theorem fit4 : (namedTie Tryz.pinned.checked.prog Rows.fnExactLockedTokensRow.named Rows.fnExactLockedTokensSpec.vars) = true := by kernel_rfl
theorem fit5 : ((Rows.fnExactLockedTokensRow.stops == [])) = true := by kernel_rfl
theorem fit6 : ((Tryz.pinned.checked.prog.stops == [])) = true := by kernel_rfl
theorem fit7 : ((Rows.fnExactLockedTokensRow.knobs == [])) = true := by kernel_rfl
theorem fit8 : ((Tryz.pinned.checked.prog.stopKnobs == [])) = true := by kernel_rfl
theorem fit9 : ((Rows.fnExactLockedTokensRow.inPlace == Tryz.pinned.checked.prog.inPlace 6)) = true := by kernel_rfl
theorem fit10 : ((Rows.fnExactLockedTokensRow.unfollowed == Tryz.pinned.checked.prog.unfollowed 6)) = true := by kernel_rfl
theorem fit11 : ((Rows.fnExactLockedTokensRow.recurses == Tryz.pinned.checked.prog.recurses 6)) = true := by kernel_rfl
theorem fit12 : ((Rows.fnExactLockedTokensRow.named == Tryz.pinned.checked.prog.varsNamed 6)) = true := by kernel_rfl
theorem fit13 : ((Rows.fnExactLockedTokensRow.maps == (Tryz.f6.params.toList ++ Rows.fnExactLockedTokensSpec.plain.varTypes Tryz.pinned.checked.prog).any (Tryz.pinned.checked.prog.mapsRec ·))) = true := by kernel_rfl
theorem fit14 : ((Rows.fnExactLockedTokensRow.ifaces == (Tryz.f6.params.toList ++ Rows.fnExactLockedTokensSpec.plain.varTypes Tryz.pinned.checked.prog).any (Tryz.pinned.checked.prog.ifacesRec ·))) = true := by kernel_rfl
theorem fit15 : ((Rows.fnExactLockedTokensRow.mapsOut == Tryz.pinned.checked.prog.mapsAmong Tryz.f6.resultTypes.toList)) = true := by kernel_rfl
theorem fit16 : ((Rows.fnExactLockedTokensRow.loops == (Tryz.f6.params.toList ++ Rows.fnExactLockedTokensSpec.plain.varTypes Tryz.pinned.checked.prog).any (Tryz.pinned.checked.prog.loopsFrom ·))) = true := by kernel_rfl
theorem fit17 : ((Rows.fnExactLockedTokensRow.wideKeys == (Tryz.f6.params.toList ++ Rows.fnExactLockedTokensSpec.plain.varTypes Tryz.pinned.checked.prog ++ Tryz.f6.resultTypes.toList).any (Tryz.pinned.checked.prog.wideKeysFrom ·))) = true := by kernel_rfl
theorem fit18 : (Rows.fnExactLockedTokensSpec.vars.all (Tryz.pinned.checked.prog.varReadable ·)) = true := by kernel_rfl
theorem fit19 : (Tryz.f6.resultTypes.all (fun t => Tryz.pinned.checked.prog.readableRec t && decide (t < Tryz.pinned.checked.prog.types.size))) = true := by kernel_rfl
theorem fit20 : ((Rows.fnExactLockedTokensRow.ifacesOut == Tryz.f6.resultTypes.toList.any (Tryz.pinned.checked.prog.ifacesRec ·))) = true := by kernel_rfl
theorem fit21 : ((Rows.fnExactLockedTokensRow.loopsOut == Tryz.f6.resultTypes.toList.any (Tryz.pinned.checked.prog.loopsFrom ·))) = true := by kernel_rfl
theorem fit22 : ((Rows.fnExactLockedTokensRow.plainKeys == Tryz.pinned.checked.prog.plainKeys)) = true := by kernel_rfl
theorem fit23 : (Rows.fnExactLockedTokensRow.shortTexts.isNone) = true := by kernel_rfl
theorem fit24 : (Tryz.pinned.checked.prog.stopsHeard) = true := by kernel_rfl
theorem fit25 : (Tryz.pinned.checked.prog.mayEnter) = true := by kernel_rfl
theorem fit26 : ((Rows.fnExactLockedTokensRow.lifted == Tryz.pinned.checked.prog.liftsFinal)) = true := by kernel_rfl
theorem fit27 : ((Tryz.pinned.checked.prog.make == some Rows.fnExactLockedTokensRow.make)) = true := by kernel_rfl
theorem fit28 : ((Rows.fnExactLockedTokensRow.kinds == (if Rows.fnExactLockedTokensRow.domain.isEmpty then [] else Tryz.f6.params.toList.map fun t => match Tryz.pinned.checked.prog.underlying t with | some (.int k) => some k | _ => none))) = true := by kernel_rfl
theorem fit29 : ((Rows.fnExactLockedTokensRow.pinned == Rows.fnExactLockedTokensRow.pinnedBy)) = true := by kernel_rfl
theorem fit30 : ((Rows.fnExactLockedTokensRow.veiled == (Tryz.f6.params.toList ++ Rows.fnExactLockedTokensSpec.plain.varTypes Tryz.pinned.checked.prog ++ Tryz.f6.resultTypes.toList).any (Tryz.pinned.checked.prog.veiledRec ·))) = true := by kernel_rfl
theorem fit31 : (Rows.fnExactLockedTokensRow.veiledFits Tryz.pinned.checked.prog Tryz.f6.params.toList (Tryz.f6.params.toList ++ Rows.fnExactLockedTokensSpec.plain.varTypes Tryz.pinned.checked.prog ++ Tryz.f6.resultTypes.toList)) = true := by kernel_rfl
theorem fit_both {a b : Bool} (h : a = true) (k : b = true) : (a && b) = true := by rw [h, k]; rfl
theorem fits : joinedFacts Tryz.pinned.checked.prog 6 Tryz.f6 Rows.fnExactLockedTokensSpec Rows.fnExactLockedTokensRow = true := by
 unfold joinedFacts
 exact (fit_both (fit_both (fit_both (fit_both (fit_both (fit_both (fit_both (fit_both (fit_both (fit_both (fit_both (fit_both (fit_both (fit_both (fit_both (fit_both (fit_both (fit_both (fit_both (fit_both (fit_both (fit_both (fit_both (fit_both (fit_both (fit_both (fit_both (fit_both (fit_both (fit_both (fit_both fit0 fit1) fit2) fit3) fit4) fit5) fit6) fit7) fit8) fit9) fit10) fit11) fit12) fit13) fit14) fit15) fit16) fit17) fit18) fit19) fit20) fit21) fit22) fit23) fit24) fit25) fit26) fit27) fit28) fit29) fit30) fit31)
end Go.Proofs.YtadjbmcfgjmhkaaGreat.fnExactLockedTokens
