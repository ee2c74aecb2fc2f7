/- The law FnExactOtherNodes answers true for all arguments: both sides list the same other nodes. -/
import Derived.Test.YtpbngmkhpcgpkaaFactI
import Derived.Test.YtpbngmkhpcgpkaaFactO
import Derived.Test.YtpbngmkhpcgpkaaPx22
namespace Go.Proofs.Ytpbngmkhpcgpkaa.P
open Go.RowKit Go.Proofs.YtpbngmkhpcgpkaaW.PrintWords Go.Proofs.YtpbngmkhpcgpkaaW.PrintLast Go.Proofs.YtpbngmkhpcgpkaaW.PrintMore
set_option linter.unusedVariables false

theorem Pure_FnExactOtherNodes (a : Int) (l : List S68) (s : List Int) (ha : (Lit.int .i64 a).wf = true) (hl : FitP l) (hs0 : FitL s) : ∃ k, laws_FnExactOtherNodes.f k a l s = some true := by
  refine Ev.rounds (g := fun k => laws_FnExactOtherNodes.f k a l s) ?_
  unfold laws_FnExactOtherNodes.f
  by_cases h0 : (s.length : Int) > 1048576
  · exact Ev.pos h0 (Ev.now _)
  refine Ev.neg h0 ?_
  have hm : s.length ≤ 1048576 := by omega
  obtain ⟨t, h1, h2⟩ := sz_graph a l hl.1
  refine Ev.bindo h1 ?_
  by_cases h : t < 0
  · exact Ev.pos h (Ev.now _)
  · refine Ev.neg h ?_
    have hn : l.length ≤ 1048576 := h2.resolve_left h
    have hs := spec_Oth_ev a l s hn hm
    have hi := impl_Oth_ev a l s hn hm
    have hr := othR_len a l s
    generalize othR a l s = R at hs hi hr
    obtain ⟨r0, r1⟩ := R
    have hp := end1_pos r0.length hr
    have hq : ¬ endI s.length (mark2 l 1).1 < 0 := by rw [mark2_fst l 1 (by omega) (by omega), endI_at s.length _ (by omega) (by omega)]; omega
    refine Ev.bind (toGraph_ev a l hn) (Ev.bind (toIntS_ev s hm) (Ev.bind hs (Ev.bind (toGraph_ev a l hn) (Ev.bind (toIntS_ev s hm) (Ev.bind hi ?_)))))
    refine Ev.bind (eqIntS_ev r0 hr) (Ev.pos rfl ?_)
    refine Ev.step (fun k => by rw [laws_FnExactOtherNodes.j0]) (Ev.neg (by simp) ?_)
    refine Ev.bind (toGraph_ev a l hn) (Ev.bind (eqGraph_ev a l hn) (Ev.pos rfl ?_))
    refine Ev.bind (toIntS_ev s hm) (Ev.bind (eqIntS_ev s hm) (Ev.pos rfl ?_))
    refine Ev.bindo (markGraph_at a l 1) (Ev.bind (markInt_ev s _ hm) (Ev.neg hq ?_))
    refine Ev.bind (eqIntS_ev r0 hr) (Ev.pos rfl ?_)
    refine Ev.step (fun k => by rw [laws_FnExactOtherNodes.j1]) (Ev.neg (by simp) ?_)
    refine Ev.bind (markInt_ev r0 1 hr) (Ev.bind (heldInt_ev r0.length 1 hr) (Ev.neg hp (Ev.pos rfl ?_)))
    refine Ev.bind (toGraph_ev a l hn) (Ev.bind (toIntS_ev s hm) (Ev.bind hi (Ev.bind (eqIntS_ev r0 hr) (Ev.pos rfl ?_))))
    refine Ev.step (fun k => by rw [laws_FnExactOtherNodes.j2]) (Ev.neg (by simp) ?_)
    exact Ev.bind (heldInt_ev r0.length 1 hr) (Ev.neg hp (Ev.pos rfl (Ev.now _)))
end Go.Proofs.Ytpbngmkhpcgpkaa.P
