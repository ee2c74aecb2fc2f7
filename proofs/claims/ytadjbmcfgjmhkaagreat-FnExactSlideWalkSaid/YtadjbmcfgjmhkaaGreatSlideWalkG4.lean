/- What the row of FnExactSlideWalk asks of the program, one by one. -/
import Derived.Test.YtadjbmcfgjmhkaaGreatRows
import Derived.WalkKit
import Derived.ProofKit
import Derived.OpenShut
import Derived.ShutString
import Derived.ChangeOld
import Derived.Below
import Derived.SizedLaws
namespace Go.Proofs.YtadjbmcfgjmhkaaGreat.fnExactSlideWalk
open Go.ChangeShapes Go.WideShapes Go.ChangeAt Go.RowKit
set_option maxRecDepth 100000
set_option maxHeartbeats 8000000
set_option linter.unusedVariables false
theorem se : (Rows.fnExactSlideWalkRow.wf (OpenSpec.ofChange Rows.fnExactSlideWalkSpec)) = true := by kernel_rfl
theorem sd : (laidOutB Tryz.pinned.checked.prog) = true := by kernel_rfl
theorem rS : (mapsRowed Tryz.pinned.checked.prog) = true := by kernel_rfl
theorem rH : (Tryz.f4.params.all (Tryz.pinned.checked.prog.readableRec ·)) = true := by kernel_rfl
theorem rE : (namedTie Tryz.pinned.checked.prog Rows.fnExactSlideWalkRow.named Rows.fnExactSlideWalkSpec.vars) = true := by kernel_rfl
theorem rD : ((Rows.fnExactSlideWalkRow.stops == [])) = true := by kernel_rfl
theorem rC : ((Tryz.pinned.checked.prog.stops == [])) = true := by kernel_rfl
theorem rB : ((Rows.fnExactSlideWalkRow.knobs == [])) = true := by kernel_rfl
theorem rA : ((Tryz.pinned.checked.prog.stopKnobs == [])) = true := by kernel_rfl
theorem rz : ((Rows.fnExactSlideWalkRow.inPlace == Tryz.pinned.checked.prog.inPlace 4)) = true := by kernel_rfl
theorem sc : ((Rows.fnExactSlideWalkRow.unfollowed == Tryz.pinned.checked.prog.unfollowed 4)) = true := by kernel_rfl
theorem sb : ((Rows.fnExactSlideWalkRow.recurses == Tryz.pinned.checked.prog.recurses 4)) = true := by kernel_rfl
theorem sa : ((Rows.fnExactSlideWalkRow.named == Tryz.pinned.checked.prog.varsNamed 4)) = true := by kernel_rfl
theorem rZ : ((Rows.fnExactSlideWalkRow.maps == (Tryz.f4.params.toList ++ Rows.fnExactSlideWalkSpec.plain.varTypes Tryz.pinned.checked.prog).any (Tryz.pinned.checked.prog.mapsRec ·))) = true := by kernel_rfl
theorem rY : ((Rows.fnExactSlideWalkRow.ifaces == (Tryz.f4.params.toList ++ Rows.fnExactSlideWalkSpec.plain.varTypes Tryz.pinned.checked.prog).any (Tryz.pinned.checked.prog.ifacesRec ·))) = true := by kernel_rfl
theorem rX : ((Rows.fnExactSlideWalkRow.mapsOut == Tryz.pinned.checked.prog.mapsAmong Tryz.f4.resultTypes.toList)) = true := by kernel_rfl
theorem rW : ((Rows.fnExactSlideWalkRow.loops == (Tryz.f4.params.toList ++ Rows.fnExactSlideWalkSpec.plain.varTypes Tryz.pinned.checked.prog).any (Tryz.pinned.checked.prog.loopsFrom ·))) = true := by kernel_rfl
theorem rV : ((Rows.fnExactSlideWalkRow.wideKeys == (Tryz.f4.params.toList ++ Rows.fnExactSlideWalkSpec.plain.varTypes Tryz.pinned.checked.prog ++ Tryz.f4.resultTypes.toList).any (Tryz.pinned.checked.prog.wideKeysFrom ·))) = true := by kernel_rfl
theorem rU : (Rows.fnExactSlideWalkSpec.vars.all (Tryz.pinned.checked.prog.varReadable ·)) = true := by kernel_rfl
theorem rT : (Tryz.f4.resultTypes.all (fun t => Tryz.pinned.checked.prog.readableRec t && decide (t < Tryz.pinned.checked.prog.types.size))) = true := by kernel_rfl
theorem rR : ((Rows.fnExactSlideWalkRow.ifacesOut == Tryz.f4.resultTypes.toList.any (Tryz.pinned.checked.prog.ifacesRec ·))) = true := by kernel_rfl
theorem rQ : ((Rows.fnExactSlideWalkRow.loopsOut == Tryz.f4.resultTypes.toList.any (Tryz.pinned.checked.prog.loopsFrom ·))) = true := by kernel_rfl
theorem rP : ((Rows.fnExactSlideWalkRow.plainKeys == Tryz.pinned.checked.prog.plainKeys)) = true := by kernel_rfl
theorem rO : (Rows.fnExactSlideWalkRow.shortTexts.isNone) = true := by kernel_rfl
theorem rN : (Tryz.pinned.checked.prog.stopsHeard) = true := by kernel_rfl
theorem rM : (Tryz.pinned.checked.prog.mayEnter) = true := by kernel_rfl
theorem rL : ((Rows.fnExactSlideWalkRow.lifted == Tryz.pinned.checked.prog.liftsFinal)) = true := by kernel_rfl
theorem rK : ((Tryz.pinned.checked.prog.make == some Rows.fnExactSlideWalkRow.make)) = true := by kernel_rfl
theorem rJ : ((Rows.fnExactSlideWalkRow.kinds == (if Rows.fnExactSlideWalkRow.domain.isEmpty then [] else Tryz.f4.params.toList.map fun t => match Tryz.pinned.checked.prog.underlying t with | some (.int k) => some k | _ => none))) = true := by kernel_rfl
theorem rI : ((Rows.fnExactSlideWalkRow.pinned == Rows.fnExactSlideWalkRow.pinnedBy)) = true := by kernel_rfl
theorem rG : ((Rows.fnExactSlideWalkRow.veiled == (Tryz.f4.params.toList ++ Rows.fnExactSlideWalkSpec.plain.varTypes Tryz.pinned.checked.prog ++ Tryz.f4.resultTypes.toList).any (Tryz.pinned.checked.prog.veiledRec ·))) = true := by kernel_rfl
theorem rF : (Rows.fnExactSlideWalkRow.veiledFits Tryz.pinned.checked.prog Tryz.f4.params.toList (Tryz.f4.params.toList ++ Rows.fnExactSlideWalkSpec.plain.varTypes Tryz.pinned.checked.prog ++ Tryz.f4.resultTypes.toList)) = true := by kernel_rfl
theorem bi {a b : Bool} (h : a = true) (k : b = true) : (a && b) = true := by rw [h, k]; rfl
theorem ry : joinedFacts Tryz.pinned.checked.prog 4 Tryz.f4 Rows.fnExactSlideWalkSpec Rows.fnExactSlideWalkRow = true := by
 unfold joinedFacts
 exact (bi (bi (bi (bi (bi (bi (bi (bi (bi (bi (bi (bi (bi (bi (bi (bi (bi (bi (bi (bi (bi (bi (bi (bi (bi (bi (bi (bi (bi (bi (bi se sd) rS) rH) rE) rD) rC) rB) rA) rz) sc) sb) sa) rZ) rY) rX) rW) rV) rU) rT) rR) rQ) rP) rO) rN) rM) rL) rK) rJ) rI) rG) rF)
end Go.Proofs.YtadjbmcfgjmhkaaGreat.fnExactSlideWalk
