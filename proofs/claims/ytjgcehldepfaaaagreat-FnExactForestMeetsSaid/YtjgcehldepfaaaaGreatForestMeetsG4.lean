/- What the row of FnExactForestMeets asks of the program, one by one. -/
import Derived.Test.YtjgcehldepfaaaaGreatRows
import Derived.WalkKit
import Derived.ProofKit
import Derived.OpenShut
import Derived.ShutString
import Derived.ChangeOld
import Derived.Below
import Derived.SizedLaws
namespace Go.Proofs.YtjgcehldepfaaaaGreat.fnExactForestMeets
open Go.ChangeShapes Go.WideShapes Go.ChangeAt Go.RowKit
set_option maxRecDepth 100000
set_option maxHeartbeats 8000000
set_option linter.unusedVariables false
theorem ti : (Rows.fnExactForestMeetsRow.wf (OpenSpec.ofChange Rows.fnExactForestMeetsSpec)) = true := by kernel_rfl
theorem th : (laidOutB Tryz.pinned.checked.prog) = true := by kernel_rfl
theorem s6 : (mapsRowed Tryz.pinned.checked.prog) = true := by kernel_rfl
theorem sP : (Tryz.f4.params.all (Tryz.pinned.checked.prog.readableRec ·)) = true := by kernel_rfl
theorem sM : (namedTie Tryz.pinned.checked.prog Rows.fnExactForestMeetsRow.named Rows.fnExactForestMeetsSpec.vars) = true := by kernel_rfl
theorem sL : ((Rows.fnExactForestMeetsRow.stops == [])) = true := by kernel_rfl
theorem sK : ((Tryz.pinned.checked.prog.stops == [])) = true := by kernel_rfl
theorem sJ : ((Rows.fnExactForestMeetsRow.knobs == [])) = true := by kernel_rfl
theorem sI : ((Tryz.pinned.checked.prog.stopKnobs == [])) = true := by kernel_rfl
theorem sH : ((Rows.fnExactForestMeetsRow.inPlace == Tryz.pinned.checked.prog.inPlace 4)) = true := by kernel_rfl
theorem tg : ((Rows.fnExactForestMeetsRow.unfollowed == Tryz.pinned.checked.prog.unfollowed 4)) = true := by kernel_rfl
theorem tf : ((Rows.fnExactForestMeetsRow.recurses == Tryz.pinned.checked.prog.recurses 4)) = true := by kernel_rfl
theorem te : ((Rows.fnExactForestMeetsRow.named == Tryz.pinned.checked.prog.varsNamed 4)) = true := by kernel_rfl
theorem td : ((Rows.fnExactForestMeetsRow.maps == (Tryz.f4.params.toList ++ Rows.fnExactForestMeetsSpec.plain.varTypes Tryz.pinned.checked.prog).any (Tryz.pinned.checked.prog.mapsRec ·))) = true := by kernel_rfl
theorem tc : ((Rows.fnExactForestMeetsRow.ifaces == (Tryz.f4.params.toList ++ Rows.fnExactForestMeetsSpec.plain.varTypes Tryz.pinned.checked.prog).any (Tryz.pinned.checked.prog.ifacesRec ·))) = true := by kernel_rfl
theorem tb : ((Rows.fnExactForestMeetsRow.mapsOut == Tryz.pinned.checked.prog.mapsAmong Tryz.f4.resultTypes.toList)) = true := by kernel_rfl
theorem ta : ((Rows.fnExactForestMeetsRow.loops == (Tryz.f4.params.toList ++ Rows.fnExactForestMeetsSpec.plain.varTypes Tryz.pinned.checked.prog).any (Tryz.pinned.checked.prog.loopsFrom ·))) = true := by kernel_rfl
theorem s9 : ((Rows.fnExactForestMeetsRow.wideKeys == (Tryz.f4.params.toList ++ Rows.fnExactForestMeetsSpec.plain.varTypes Tryz.pinned.checked.prog ++ Tryz.f4.resultTypes.toList).any (Tryz.pinned.checked.prog.wideKeysFrom ·))) = true := by kernel_rfl
theorem s8 : (Rows.fnExactForestMeetsSpec.vars.all (Tryz.pinned.checked.prog.varReadable ·)) = true := by kernel_rfl
theorem s7 : (Tryz.f4.resultTypes.all (fun t => Tryz.pinned.checked.prog.readableRec t && decide (t < Tryz.pinned.checked.prog.types.size))) = true := by kernel_rfl
theorem sZ : ((Rows.fnExactForestMeetsRow.ifacesOut == Tryz.f4.resultTypes.toList.any (Tryz.pinned.checked.prog.ifacesRec ·))) = true := by kernel_rfl
theorem sY : ((Rows.fnExactForestMeetsRow.loopsOut == Tryz.f4.resultTypes.toList.any (Tryz.pinned.checked.prog.loopsFrom ·))) = true := by kernel_rfl
theorem sX : ((Rows.fnExactForestMeetsRow.plainKeys == Tryz.pinned.checked.prog.plainKeys)) = true := by kernel_rfl
theorem sW : (Rows.fnExactForestMeetsRow.shortTexts.isNone) = true := by kernel_rfl
theorem sV : (Tryz.pinned.checked.prog.stopsHeard) = true := by kernel_rfl
theorem sU : (Tryz.pinned.checked.prog.mayEnter) = true := by kernel_rfl
theorem sT : ((Rows.fnExactForestMeetsRow.lifted == Tryz.pinned.checked.prog.liftsFinal)) = true := by kernel_rfl
theorem sS : ((Tryz.pinned.checked.prog.make == some Rows.fnExactForestMeetsRow.make)) = true := by kernel_rfl
theorem sR : ((Rows.fnExactForestMeetsRow.kinds == (if Rows.fnExactForestMeetsRow.domain.isEmpty then [] else Tryz.f4.params.toList.map fun t => match Tryz.pinned.checked.prog.underlying t with | some (.int k) => some k | _ => none))) = true := by kernel_rfl
theorem sQ : ((Rows.fnExactForestMeetsRow.pinned == Rows.fnExactForestMeetsRow.pinnedBy)) = true := by kernel_rfl
theorem sO : ((Rows.fnExactForestMeetsRow.veiled == (Tryz.f4.params.toList ++ Rows.fnExactForestMeetsSpec.plain.varTypes Tryz.pinned.checked.prog ++ Tryz.f4.resultTypes.toList).any (Tryz.pinned.checked.prog.veiledRec ·))) = true := by kernel_rfl
theorem sN : (Rows.fnExactForestMeetsRow.veiledFits Tryz.pinned.checked.prog Tryz.f4.params.toList (Tryz.f4.params.toList ++ Rows.fnExactForestMeetsSpec.plain.varTypes Tryz.pinned.checked.prog ++ Tryz.f4.resultTypes.toList)) = true := by kernel_rfl
theorem bq {a b : Bool} (h : a = true) (k : b = true) : (a && b) = true := by rw [h, k]; rfl
theorem sG : joinedFacts Tryz.pinned.checked.prog 4 Tryz.f4 Rows.fnExactForestMeetsSpec Rows.fnExactForestMeetsRow = true := by
 unfold joinedFacts
 exact (bq (bq (bq (bq (bq (bq (bq (bq (bq (bq (bq (bq (bq (bq (bq (bq (bq (bq (bq (bq (bq (bq (bq (bq (bq (bq (bq (bq (bq (bq (bq ti th) s6) sP) sM) sL) sK) sJ) sI) sH) tg) tf) te) td) tc) tb) ta) s9) s8) s7) sZ) sY) sX) sW) sV) sU) sT) sS) sR) sQ) sO) sN)
end Go.Proofs.YtjgcehldepfaaaaGreat.fnExactForestMeets
