/- The law FnExactIsIndependent answers true for all arguments: both sides test a set alike. -/
import Derived.Test.YtpbngmkhpcgpkaaFactE
import Derived.Test.YtpbngmkhpcgpkaaPx18
namespace Go.Proofs.Ytpbngmkhpcgpkaa.P
open Go.RowKit Go.Proofs.YtpbngmkhpcgpkaaW.PrintWords Go.Proofs.YtpbngmkhpcgpkaaW.PrintLast Go.Proofs.YtpbngmkhpcgpkaaW.PrintMore
set_option linter.unusedVariables false

def indR (a : Int) (e : List S68) (l : List Int) : Bool × Bool := if okG a e = true then (risI 0 (wrap64 (a - 1)) none l && freeI e l, true) else (false, false)
theorem spec_Ind_ev (a : Int) (e : List S68) (l : List Int) (he : e.length ≤ 1048576) (hl : l.length ≤ 1048576) : Ev (fun k => spec_IsIndependent.f k a e l) (indR a e l) := by
  unfold spec_IsIndependent.f indR
  refine Ev.bind (l2Good_ev a e he) ?_
  by_cases h : okG a e = true
  · rw [if_pos h, ← freeN_freeI e l _ (fun s hs => ((okG_all h).2.2 s hs).2.1)]
    exact Ev.pos h (Ev.bind (l3Free_ev a e l he hl) (Ev.now _))
  · rw [if_neg h]
    exact Ev.neg h (Ev.now _)
theorem impl_Ind_ev (a : Int) (e : List S68) (l : List Int) (he : e.length ≤ 1048576) (hl : l.length ≤ 1048576) : Ev (fun k => impl_IsIndependent.f k a e l) (indR a e l) := by
  unfold impl_IsIndependent.f indR
  refine Ev.bind (impl_IsGraph_ev a e he) ?_
  by_cases h : okG a e = true
  · rw [if_pos h]
    exact Ev.pos h (Ev.bind (isIndependent_ev a e l hl h) (Ev.now _))
  · rw [if_neg h]
    exact Ev.neg h (Ev.now _)
theorem Pure_FnExactIsIndependent (a : Int) (l : List S68) (s : List Int) (ha : (Lit.int .i64 a).wf = true) (hl : FitP l) (hs : FitL s) : ∃ k, laws_FnExactIsIndependent.f k a l s = some true := by
  refine Ev.rounds (g := fun k => laws_FnExactIsIndependent.f k a l s) ?_
  unfold laws_FnExactIsIndependent.f
  by_cases h0 : (s.length : Int) > 1048576
  · exact Ev.pos h0 (Ev.now _)
  refine Ev.neg h0 ?_
  have hm : s.length ≤ 1048576 := by omega
  obtain ⟨t, h1, h2⟩ := sz_graph a l hl.1
  refine Ev.bindo h1 ?_
  by_cases h : t < 0
  · exact Ev.pos h (Ev.now _)
  · refine Ev.neg h ?_
    have hn : l.length ≤ 1048576 := h2.resolve_left h
    refine Ev.bind (toGraph_ev a l hn) (Ev.bind (toIntS_ev s hm) (Ev.bind (spec_Ind_ev a l s hn hm) (Ev.bind (toGraph_ev a l hn) (Ev.bind (toIntS_ev s hm) (Ev.bind (impl_Ind_ev a l s hn hm) ?_)))))
    refine Ev.neg (by simp) (Ev.step (fun k => by rw [laws_FnExactIsIndependent.j0]) (Ev.neg (by simp) ?_))
    exact Ev.bind (toGraph_ev a l hn) (Ev.bind (eqGraph_ev a l hn) (Ev.pos rfl (Ev.bind (toIntS_ev s hm) (Ev.bind (eqIntS_ev s hm) (Ev.pos rfl (Ev.now _))))))
end Go.Proofs.Ytpbngmkhpcgpkaa.P
