/- What the row of FnExactForestLocked asks of the program, one by one. -/
import Derived.Test.YtjgcehldepfaaaaGreatRows
import Derived.WalkKit
import Derived.ProofKit
import Derived.OpenShut
import Derived.ShutString
import Derived.ChangeOld
import Derived.Below
import Derived.SizedLaws
namespace Go.Proofs.YtjgcehldepfaaaaGreat.fnExactForestLocked
open Go.ChangeShapes Go.WideShapes Go.ChangeAt Go.RowKit
set_option linter.unusedVariables false
set_option maxRecDepth 100000 in
theorem sf : (Rows.fnExactForestLockedRow.wf (OpenSpec.ofChange Rows.fnExactForestLockedSpec)) = true := by kernel_rfl
set_option maxRecDepth 100000 in
theorem se : (laidOutB Tryz.pinned.checked.prog) = true := by kernel_rfl
set_option maxRecDepth 100000 in
theorem rT : (mapsRowed Tryz.pinned.checked.prog) = true := by kernel_rfl
set_option maxRecDepth 100000 in
theorem rI : (Tryz.f3.params.all (Tryz.pinned.checked.prog.readableRec ·)) = true := by kernel_rfl
set_option maxRecDepth 100000 in
theorem rF : (namedTie Tryz.pinned.checked.prog Rows.fnExactForestLockedRow.named Rows.fnExactForestLockedSpec.vars) = true := by kernel_rfl
set_option maxRecDepth 100000 in
theorem rE : ((Rows.fnExactForestLockedRow.stops == [])) = true := by kernel_rfl
set_option maxRecDepth 100000 in
theorem rD : ((Tryz.pinned.checked.prog.stops == [])) = true := by kernel_rfl
set_option maxRecDepth 100000 in
theorem rC : ((Rows.fnExactForestLockedRow.knobs == [])) = true := by kernel_rfl
set_option maxRecDepth 100000 in
theorem rB : ((Tryz.pinned.checked.prog.stopKnobs == [])) = true := by kernel_rfl
set_option maxRecDepth 100000 in
theorem rA : ((Rows.fnExactForestLockedRow.inPlace == Tryz.pinned.checked.prog.inPlace 3)) = true := by kernel_rfl
set_option maxRecDepth 100000 in
theorem sd : ((Rows.fnExactForestLockedRow.unfollowed == Tryz.pinned.checked.prog.unfollowed 3)) = true := by kernel_rfl
set_option maxRecDepth 100000 in
theorem sc : ((Rows.fnExactForestLockedRow.recurses == Tryz.pinned.checked.prog.recurses 3)) = true := by kernel_rfl
set_option maxRecDepth 100000 in
theorem sb : ((Rows.fnExactForestLockedRow.named == Tryz.pinned.checked.prog.varsNamed 3)) = true := by kernel_rfl
set_option maxRecDepth 100000 in
theorem sa : ((Rows.fnExactForestLockedRow.maps == (Tryz.f3.params.toList ++ Rows.fnExactForestLockedSpec.plain.varTypes Tryz.pinned.checked.prog).any (Tryz.pinned.checked.prog.mapsRec ·))) = true := by kernel_rfl
set_option maxRecDepth 100000 in
theorem rZ : ((Rows.fnExactForestLockedRow.ifaces == (Tryz.f3.params.toList ++ Rows.fnExactForestLockedSpec.plain.varTypes Tryz.pinned.checked.prog).any (Tryz.pinned.checked.prog.ifacesRec ·))) = true := by kernel_rfl
set_option maxRecDepth 100000 in
theorem rY : ((Rows.fnExactForestLockedRow.mapsOut == Tryz.pinned.checked.prog.mapsAmong Tryz.f3.resultTypes.toList)) = true := by kernel_rfl
set_option maxRecDepth 100000 in
theorem rX : ((Rows.fnExactForestLockedRow.loops == (Tryz.f3.params.toList ++ Rows.fnExactForestLockedSpec.plain.varTypes Tryz.pinned.checked.prog).any (Tryz.pinned.checked.prog.loopsFrom ·))) = true := by kernel_rfl
set_option maxRecDepth 100000 in
theorem rW : ((Rows.fnExactForestLockedRow.wideKeys == (Tryz.f3.params.toList ++ Rows.fnExactForestLockedSpec.plain.varTypes Tryz.pinned.checked.prog ++ Tryz.f3.resultTypes.toList).any (Tryz.pinned.checked.prog.wideKeysFrom ·))) = true := by kernel_rfl
set_option maxRecDepth 100000 in
theorem rV : (Rows.fnExactForestLockedSpec.vars.all (Tryz.pinned.checked.prog.varReadable ·)) = true := by kernel_rfl
set_option maxRecDepth 100000 in
theorem rU : (Tryz.f3.resultTypes.all (fun t => Tryz.pinned.checked.prog.readableRec t && decide (t < Tryz.pinned.checked.prog.types.size))) = true := by kernel_rfl
set_option maxRecDepth 100000 in
theorem rS : ((Rows.fnExactForestLockedRow.ifacesOut == Tryz.f3.resultTypes.toList.any (Tryz.pinned.checked.prog.ifacesRec ·))) = true := by kernel_rfl
set_option maxRecDepth 100000 in
theorem rR : ((Rows.fnExactForestLockedRow.loopsOut == Tryz.f3.resultTypes.toList.any (Tryz.pinned.checked.prog.loopsFrom ·))) = true := by kernel_rfl
set_option maxRecDepth 100000 in
theorem rQ : ((Rows.fnExactForestLockedRow.plainKeys == Tryz.pinned.checked.prog.plainKeys)) = true := by kernel_rfl
set_option maxRecDepth 100000 in
theorem rP : (Rows.fnExactForestLockedRow.shortTexts.isNone) = true := by kernel_rfl
set_option maxRecDepth 100000 in
theorem rO : (Tryz.pinned.checked.prog.stopsHeard) = true := by kernel_rfl
set_option maxRecDepth 100000 in
theorem rN : (Tryz.pinned.checked.prog.mayEnter) = true := by kernel_rfl
set_option maxRecDepth 100000 in
theorem rM : ((Rows.fnExactForestLockedRow.lifted == Tryz.pinned.checked.prog.liftsFinal)) = true := by kernel_rfl
set_option maxRecDepth 100000 in
theorem rL : ((Tryz.pinned.checked.prog.make == some Rows.fnExactForestLockedRow.make)) = true := by kernel_rfl
set_option maxRecDepth 100000 in
theorem rK : ((Rows.fnExactForestLockedRow.kinds == (if Rows.fnExactForestLockedRow.domain.isEmpty then [] else Tryz.f3.params.toList.map fun t => match Tryz.pinned.checked.prog.underlying t with | some (.int k) => some k | _ => none))) = true := by kernel_rfl
set_option maxRecDepth 100000 in
theorem rJ : ((Rows.fnExactForestLockedRow.pinned == Rows.fnExactForestLockedRow.pinnedBy)) = true := by kernel_rfl
set_option maxRecDepth 100000 in
theorem rH : ((Rows.fnExactForestLockedRow.veiled == (Tryz.f3.params.toList ++ Rows.fnExactForestLockedSpec.plain.varTypes Tryz.pinned.checked.prog ++ Tryz.f3.resultTypes.toList).any (Tryz.pinned.checked.prog.veiledRec ·))) = true := by kernel_rfl
set_option maxRecDepth 100000 in
theorem rG : (Rows.fnExactForestLockedRow.veiledFits Tryz.pinned.checked.prog Tryz.f3.params.toList (Tryz.f3.params.toList ++ Rows.fnExactForestLockedSpec.plain.varTypes Tryz.pinned.checked.prog ++ Tryz.f3.resultTypes.toList)) = true := by kernel_rfl
theorem bm {a b : Bool} (h : a = true) (k : b = true) : (a && b) = true := by rw [h, k]; rfl
set_option maxRecDepth 100000 in
theorem rz : joinedFacts Tryz.pinned.checked.prog 3 Tryz.f3 Rows.fnExactForestLockedSpec Rows.fnExactForestLockedRow = true := by
  unfold joinedFacts
  exact (bm (bm (bm (bm (bm (bm (bm (bm (bm (bm (bm (bm (bm (bm (bm (bm (bm (bm (bm (bm (bm (bm (bm (bm (bm (bm (bm (bm (bm (bm (bm sf se) rT) rI) rF) rE) rD) rC) rB) rA) sd) sc) sb) sa) rZ) rY) rX) rW) rV) rU) rS) rR) rQ) rP) rO) rN) rM) rL) rK) rJ) rH) rG)
end Go.Proofs.YtjgcehldepfaaaaGreat.fnExactForestLocked
