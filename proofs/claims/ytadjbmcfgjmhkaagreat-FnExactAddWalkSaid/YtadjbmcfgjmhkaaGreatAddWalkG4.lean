/- What the row of FnExactAddWalk asks of the program, one by one. -/
import Derived.Test.YtadjbmcfgjmhkaaGreatRows
import Derived.WalkKit
import Derived.ProofKit
import Derived.OpenShut
import Derived.ShutString
import Derived.ChangeOld
import Derived.Below
import Derived.SizedLaws
namespace Go.Proofs.YtadjbmcfgjmhkaaGreat.fnExactAddWalk
open Go.ChangeShapes Go.WideShapes Go.ChangeAt Go.RowKit
set_option maxRecDepth 100000
set_option maxHeartbeats 8000000
set_option linter.unusedVariables false
theorem rI : (Rows.fnExactAddWalkRow.wf (OpenSpec.ofChange Rows.fnExactAddWalkSpec)) = true := by kernel_rfl
theorem rH : (laidOutB Tryz.pinned.checked.prog) = true := by kernel_rfl
theorem rv : (mapsRowed Tryz.pinned.checked.prog) = true := by kernel_rfl
theorem ri : (Tryz.f7.params.all (Tryz.pinned.checked.prog.readableRec ·)) = true := by kernel_rfl
theorem re : (namedTie Tryz.pinned.checked.prog Rows.fnExactAddWalkRow.named Rows.fnExactAddWalkSpec.vars) = true := by kernel_rfl
theorem rc : ((Rows.fnExactAddWalkRow.stops == [])) = true := by kernel_rfl
theorem rb : ((Tryz.pinned.checked.prog.stops == [])) = true := by kernel_rfl
theorem ra : ((Rows.fnExactAddWalkRow.knobs == [])) = true := by kernel_rfl
theorem q8 : ((Tryz.pinned.checked.prog.stopKnobs == [])) = true := by kernel_rfl
theorem q7 : ((Rows.fnExactAddWalkRow.inPlace == Tryz.pinned.checked.prog.inPlace 7)) = true := by kernel_rfl
theorem rG : ((Rows.fnExactAddWalkRow.unfollowed == Tryz.pinned.checked.prog.unfollowed 7)) = true := by kernel_rfl
theorem rF : ((Rows.fnExactAddWalkRow.recurses == Tryz.pinned.checked.prog.recurses 7)) = true := by kernel_rfl
theorem rE : ((Rows.fnExactAddWalkRow.named == Tryz.pinned.checked.prog.varsNamed 7)) = true := by kernel_rfl
theorem rD : ((Rows.fnExactAddWalkRow.maps == (Tryz.f7.params.toList ++ Rows.fnExactAddWalkSpec.plain.varTypes Tryz.pinned.checked.prog).any (Tryz.pinned.checked.prog.mapsRec ·))) = true := by kernel_rfl
theorem rC : ((Rows.fnExactAddWalkRow.ifaces == (Tryz.f7.params.toList ++ Rows.fnExactAddWalkSpec.plain.varTypes Tryz.pinned.checked.prog).any (Tryz.pinned.checked.prog.ifacesRec ·))) = true := by kernel_rfl
theorem rB : ((Rows.fnExactAddWalkRow.mapsOut == Tryz.pinned.checked.prog.mapsAmong Tryz.f7.resultTypes.toList)) = true := by kernel_rfl
theorem rA : ((Rows.fnExactAddWalkRow.loops == (Tryz.f7.params.toList ++ Rows.fnExactAddWalkSpec.plain.varTypes Tryz.pinned.checked.prog).any (Tryz.pinned.checked.prog.loopsFrom ·))) = true := by kernel_rfl
theorem rz : ((Rows.fnExactAddWalkRow.wideKeys == (Tryz.f7.params.toList ++ Rows.fnExactAddWalkSpec.plain.varTypes Tryz.pinned.checked.prog ++ Tryz.f7.resultTypes.toList).any (Tryz.pinned.checked.prog.wideKeysFrom ·))) = true := by kernel_rfl
theorem ry : (Rows.fnExactAddWalkSpec.vars.all (Tryz.pinned.checked.prog.varReadable ·)) = true := by kernel_rfl
theorem rx : (Tryz.f7.resultTypes.all (fun t => Tryz.pinned.checked.prog.readableRec t && decide (t < Tryz.pinned.checked.prog.types.size))) = true := by kernel_rfl
theorem ru : ((Rows.fnExactAddWalkRow.ifacesOut == Tryz.f7.resultTypes.toList.any (Tryz.pinned.checked.prog.ifacesRec ·))) = true := by kernel_rfl
theorem rr : ((Rows.fnExactAddWalkRow.loopsOut == Tryz.f7.resultTypes.toList.any (Tryz.pinned.checked.prog.loopsFrom ·))) = true := by kernel_rfl
theorem rq : ((Rows.fnExactAddWalkRow.plainKeys == Tryz.pinned.checked.prog.plainKeys)) = true := by kernel_rfl
theorem rp : (Rows.fnExactAddWalkRow.shortTexts.isNone) = true := by kernel_rfl
theorem ro : (Tryz.pinned.checked.prog.stopsHeard) = true := by kernel_rfl
theorem rn : (Tryz.pinned.checked.prog.mayEnter) = true := by kernel_rfl
theorem rm : ((Rows.fnExactAddWalkRow.lifted == Tryz.pinned.checked.prog.liftsFinal)) = true := by kernel_rfl
theorem rl : ((Tryz.pinned.checked.prog.make == some Rows.fnExactAddWalkRow.make)) = true := by kernel_rfl
theorem rk : ((Rows.fnExactAddWalkRow.kinds == (if Rows.fnExactAddWalkRow.domain.isEmpty then [] else Tryz.f7.params.toList.map fun t => match Tryz.pinned.checked.prog.underlying t with | some (.int k) => some k | _ => none))) = true := by kernel_rfl
theorem rj : ((Rows.fnExactAddWalkRow.pinned == Rows.fnExactAddWalkRow.pinnedBy)) = true := by kernel_rfl
theorem rh : ((Rows.fnExactAddWalkRow.veiled == (Tryz.f7.params.toList ++ Rows.fnExactAddWalkSpec.plain.varTypes Tryz.pinned.checked.prog ++ Tryz.f7.resultTypes.toList).any (Tryz.pinned.checked.prog.veiledRec ·))) = true := by kernel_rfl
theorem rf : (Rows.fnExactAddWalkRow.veiledFits Tryz.pinned.checked.prog Tryz.f7.params.toList (Tryz.f7.params.toList ++ Rows.fnExactAddWalkSpec.plain.varTypes Tryz.pinned.checked.prog ++ Tryz.f7.resultTypes.toList)) = true := by kernel_rfl
theorem bj {a b : Bool} (h : a = true) (k : b = true) : (a && b) = true := by rw [h, k]; rfl
theorem qZ : joinedFacts Tryz.pinned.checked.prog 7 Tryz.f7 Rows.fnExactAddWalkSpec Rows.fnExactAddWalkRow = true := by
 unfold joinedFacts
 exact (bj (bj (bj (bj (bj (bj (bj (bj (bj (bj (bj (bj (bj (bj (bj (bj (bj (bj (bj (bj (bj (bj (bj (bj (bj (bj (bj (bj (bj (bj (bj rI rH) rv) ri) re) rc) rb) ra) q8) q7) rG) rF) rE) rD) rC) rB) rA) rz) ry) rx) ru) rr) rq) rp) ro) rn) rm) rl) rk) rj) rh) rf)
end Go.Proofs.YtadjbmcfgjmhkaaGreat.fnExactAddWalk
