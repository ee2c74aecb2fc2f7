/- The law FnExactNeighborsOf answers true for all arguments: both sides list the same neighbours. -/
import Derived.Test.YtpbngmkhpcgpkaaFactI
import Derived.Test.YtpbngmkhpcgpkaaFactN
import Derived.Test.YtpbngmkhpcgpkaaPx20
namespace Go.Proofs.Ytpbngmkhpcgpkaa.P
open Go.RowKit Go.Proofs.YtpbngmkhpcgpkaaW.PrintWords Go.Proofs.YtpbngmkhpcgpkaaW.PrintLast Go.Proofs.YtpbngmkhpcgpkaaW.PrintMore
set_option linter.unusedVariables false

theorem Pure_FnExactNeighborsOf (a : Int) (l : List S68) (x : Int) (ha : (Lit.int .i64 a).wf = true) (hl : FitP l) (hx : (Lit.int .i64 x).wf = true) : ∃ k, laws_FnExactNeighborsOf.f k a l x = some true := by
  refine Ev.rounds (g := fun k => laws_FnExactNeighborsOf.f k a l x) ?_
  unfold laws_FnExactNeighborsOf.f
  obtain ⟨t, h1, h2⟩ := sz_graph a l hl.1
  refine Ev.bindo h1 ?_
  by_cases h : t < 0
  · exact Ev.pos h (Ev.now _)
  · refine Ev.neg h ?_
    have hn : l.length ≤ 1048576 := h2.resolve_left h
    have hs := spec_Nbs_ev a l x hn
    have hi := impl_Nbs_ev a l x hn
    have hr := nbsR_len a l x
    generalize nbsR a l x = R at hs hi hr
    obtain ⟨r0, r1⟩ := R
    have hp := end1_pos r0.length hr
    refine Ev.bind (toGraph_ev a l hn) (Ev.bind hs (Ev.bind (toGraph_ev a l hn) (Ev.bind hi ?_)))
    refine Ev.bind (eqIntS_ev r0 hr) (Ev.pos rfl ?_)
    refine Ev.step (fun k => by rw [laws_FnExactNeighborsOf.j0]) (Ev.neg (by simp) ?_)
    refine Ev.bind (toGraph_ev a l hn) (Ev.bind (eqGraph_ev a l hn) (Ev.pos rfl ?_))
    refine Ev.bindo (markGraph_at a l 1) (Ev.neg (mark1_pos l hn) ?_)
    refine Ev.bind (eqIntS_ev r0 hr) (Ev.pos rfl ?_)
    refine Ev.step (fun k => by rw [laws_FnExactNeighborsOf.j1]) (Ev.neg (by simp) ?_)
    refine Ev.bind (markInt_ev r0 1 hr) (Ev.bind (heldInt_ev r0.length 1 hr) (Ev.neg hp (Ev.pos rfl ?_)))
    refine Ev.bind (toGraph_ev a l hn) (Ev.bind hi (Ev.bind (eqIntS_ev r0 hr) (Ev.pos rfl ?_)))
    refine Ev.step (fun k => by rw [laws_FnExactNeighborsOf.j2]) (Ev.neg (by simp) ?_)
    exact Ev.bind (heldInt_ev r0.length 1 hr) (Ev.neg hp (Ev.pos rfl (Ev.now _)))
end Go.Proofs.Ytpbngmkhpcgpkaa.P
