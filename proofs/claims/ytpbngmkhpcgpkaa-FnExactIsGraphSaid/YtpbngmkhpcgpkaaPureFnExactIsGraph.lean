/- The law FnExactIsGraph answers true for every graph that comes in. -/
import Derived.Test.YtpbngmkhpcgpkaaFactG
import Derived.Test.YtpbngmkhpcgpkaaPx11
namespace Go.Proofs.Ytpbngmkhpcgpkaa.P
open Go.RowKit Go.Proofs.YtpbngmkhpcgpkaaW.PrintWords Go.Proofs.YtpbngmkhpcgpkaaW.PrintLast Go.Proofs.YtpbngmkhpcgpkaaW.PrintMore
set_option linter.unusedVariables false

theorem Pure_FnExactIsGraph (a : Int) (l : List S68) (ha : (Lit.int .i64 a).wf = true) (hl : FitP l) : ∃ k, laws_FnExactIsGraph.f k a l = some true := by
  refine Ev.rounds (g := fun k => laws_FnExactIsGraph.f k a l) ?_
  unfold laws_FnExactIsGraph.f
  obtain ⟨t, h1, h2⟩ := sz_graph a l hl.1
  refine Ev.bindo h1 ?_
  by_cases h : t < 0
  · exact Ev.pos h (Ev.now _)
  · refine Ev.neg h ?_
    have hn : l.length ≤ 1048576 := h2.resolve_left h
    refine Ev.bind (toGraph_ev a l hn) (Ev.bind (spec_IsGraph_ev a l hn) (Ev.bind (toGraph_ev a l hn) (Ev.bind (impl_IsGraph_ev a l hn) ?_)))
    exact Ev.neg (by simp) (Ev.bind (toGraph_ev a l hn) (Ev.bind (eqGraph_ev a l hn) (Ev.pos rfl (Ev.now _))))
end Go.Proofs.Ytpbngmkhpcgpkaa.P
