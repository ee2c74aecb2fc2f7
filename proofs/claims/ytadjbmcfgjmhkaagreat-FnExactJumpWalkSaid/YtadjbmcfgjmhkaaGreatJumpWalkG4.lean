/- What the row of FnExactJumpWalk asks of the program, one by one. -/
import Derived.Test.YtadjbmcfgjmhkaaGreatRows
import Derived.WalkKit
import Derived.ProofKit
import Derived.OpenShut
import Derived.ShutString
import Derived.ChangeOld
import Derived.Below
import Derived.SizedLaws
namespace Go.Proofs.YtadjbmcfgjmhkaaGreat.fnExactJumpWalk
open Go.ChangeShapes Go.WideShapes Go.ChangeAt Go.RowKit
set_option maxRecDepth 100000
set_option maxHeartbeats 8000000
theorem rO : (Rows.fnExactJumpWalkRow.wf (OpenSpec.ofChange Rows.fnExactJumpWalkSpec)) = true := by kernel_rfl
theorem rN : (laidOutB Tryz.pinned.checked.prog) = true := by kernel_rfl
theorem rC : (mapsRowed Tryz.pinned.checked.prog) = true := by kernel_rfl
theorem ro : (Tryz.f3.params.all (Tryz.pinned.checked.prog.readableRec ·)) = true := by kernel_rfl
theorem rl : (namedTie Tryz.pinned.checked.prog Rows.fnExactJumpWalkRow.named Rows.fnExactJumpWalkSpec.vars) = true := by kernel_rfl
theorem rk : ((Rows.fnExactJumpWalkRow.stops == [])) = true := by kernel_rfl
theorem rj : ((Tryz.pinned.checked.prog.stops == [])) = true := by kernel_rfl
theorem ri : ((Rows.fnExactJumpWalkRow.knobs == [])) = true := by kernel_rfl
theorem rh : ((Tryz.pinned.checked.prog.stopKnobs == [])) = true := by kernel_rfl
theorem rf : ((Rows.fnExactJumpWalkRow.inPlace == Tryz.pinned.checked.prog.inPlace 3)) = true := by kernel_rfl
theorem rM : ((Rows.fnExactJumpWalkRow.unfollowed == Tryz.pinned.checked.prog.unfollowed 3)) = true := by kernel_rfl
theorem rL : ((Rows.fnExactJumpWalkRow.recurses == Tryz.pinned.checked.prog.recurses 3)) = true := by kernel_rfl
theorem rK : ((Rows.fnExactJumpWalkRow.named == Tryz.pinned.checked.prog.varsNamed 3)) = true := by kernel_rfl
theorem rJ : ((Rows.fnExactJumpWalkRow.maps == (Tryz.f3.params.toList ++ Rows.fnExactJumpWalkSpec.plain.varTypes Tryz.pinned.checked.prog).any (Tryz.pinned.checked.prog.mapsRec ·))) = true := by kernel_rfl
theorem rI : ((Rows.fnExactJumpWalkRow.ifaces == (Tryz.f3.params.toList ++ Rows.fnExactJumpWalkSpec.plain.varTypes Tryz.pinned.checked.prog).any (Tryz.pinned.checked.prog.ifacesRec ·))) = true := by kernel_rfl
theorem rH : ((Rows.fnExactJumpWalkRow.mapsOut == Tryz.pinned.checked.prog.mapsAmong Tryz.f3.resultTypes.toList)) = true := by kernel_rfl
theorem rG : ((Rows.fnExactJumpWalkRow.loops == (Tryz.f3.params.toList ++ Rows.fnExactJumpWalkSpec.plain.varTypes Tryz.pinned.checked.prog).any (Tryz.pinned.checked.prog.loopsFrom ·))) = true := by kernel_rfl
theorem rF : ((Rows.fnExactJumpWalkRow.wideKeys == (Tryz.f3.params.toList ++ Rows.fnExactJumpWalkSpec.plain.varTypes Tryz.pinned.checked.prog ++ Tryz.f3.resultTypes.toList).any (Tryz.pinned.checked.prog.wideKeysFrom ·))) = true := by kernel_rfl
theorem rE : (Rows.fnExactJumpWalkSpec.vars.all (Tryz.pinned.checked.prog.varReadable ·)) = true := by kernel_rfl
theorem rD : (Tryz.f3.resultTypes.all (fun t => Tryz.pinned.checked.prog.readableRec t && decide (t < Tryz.pinned.checked.prog.types.size))) = true := by kernel_rfl
theorem rB : ((Rows.fnExactJumpWalkRow.ifacesOut == Tryz.f3.resultTypes.toList.any (Tryz.pinned.checked.prog.ifacesRec ·))) = true := by kernel_rfl
theorem rA : ((Rows.fnExactJumpWalkRow.loopsOut == Tryz.f3.resultTypes.toList.any (Tryz.pinned.checked.prog.loopsFrom ·))) = true := by kernel_rfl
theorem rz : ((Rows.fnExactJumpWalkRow.plainKeys == Tryz.pinned.checked.prog.plainKeys)) = true := by kernel_rfl
theorem ry : (Rows.fnExactJumpWalkRow.shortTexts.isNone) = true := by kernel_rfl
theorem rx : (Tryz.pinned.checked.prog.stopsHeard) = true := by kernel_rfl
theorem rv : (Tryz.pinned.checked.prog.mayEnter) = true := by kernel_rfl
theorem ru : ((Rows.fnExactJumpWalkRow.lifted == Tryz.pinned.checked.prog.liftsFinal)) = true := by kernel_rfl
theorem rr : ((Tryz.pinned.checked.prog.make == some Rows.fnExactJumpWalkRow.make)) = true := by kernel_rfl
theorem rq : ((Rows.fnExactJumpWalkRow.kinds == (if Rows.fnExactJumpWalkRow.domain.isEmpty then [] else Tryz.f3.params.toList.map fun t => match Tryz.pinned.checked.prog.underlying t with | some (.int k) => some k | _ => none))) = true := by kernel_rfl
theorem rp : ((Rows.fnExactJumpWalkRow.pinned == Rows.fnExactJumpWalkRow.pinnedBy)) = true := by kernel_rfl
theorem rn : ((Rows.fnExactJumpWalkRow.veiled == (Tryz.f3.params.toList ++ Rows.fnExactJumpWalkSpec.plain.varTypes Tryz.pinned.checked.prog ++ Tryz.f3.resultTypes.toList).any (Tryz.pinned.checked.prog.veiledRec ·))) = true := by kernel_rfl
theorem rm : (Rows.fnExactJumpWalkRow.veiledFits Tryz.pinned.checked.prog Tryz.f3.params.toList (Tryz.f3.params.toList ++ Rows.fnExactJumpWalkSpec.plain.varTypes Tryz.pinned.checked.prog ++ Tryz.f3.resultTypes.toList)) = true := by kernel_rfl
theorem bi {a b : Bool} (h : a = true) (k : b = true) : (a && b) = true := by rw [h, k]; rfl
theorem re : joinedFacts Tryz.pinned.checked.prog 3 Tryz.f3 Rows.fnExactJumpWalkSpec Rows.fnExactJumpWalkRow = true := by
 unfold joinedFacts
 exact (bi (bi (bi (bi (bi (bi (bi (bi (bi (bi (bi (bi (bi (bi (bi (bi (bi (bi (bi (bi (bi (bi (bi (bi (bi (bi (bi (bi (bi (bi (bi rO rN) rC) ro) rl) rk) rj) ri) rh) rf) rM) rL) rK) rJ) rI) rH) rG) rF) rE) rD) rB) rA) rz) ry) rx) rv) ru) rr) rq) rp) rn) rm)
end Go.Proofs.YtadjbmcfgjmhkaaGreat.fnExactJumpWalk
