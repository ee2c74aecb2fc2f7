/- The law FnExactIsPotential answers true for all arguments. -/
import Derived.Test.YtpbngmkhpcgpkaaFactIsPotential
import Derived.Test.YtpbngmkhpcgpkaaPx29
namespace Go.Proofs.Ytpbngmkhpcgpkaa.P
open Go.RowKit Go.Proofs.YtpbngmkhpcgpkaaW.PrintWords Go.Proofs.YtpbngmkhpcgpkaaW.PrintLast Go.Proofs.YtpbngmkhpcgpkaaW.PrintMore
set_option linter.unusedVariables false

theorem Pure_FnExactIsPotential (l : List (List Int)) (e : List S68) (v : List Int) (hl : FitLL l) (he : FitP e) (hv0 : FitL v) : ∃ k, laws_FnExactIsPotential.f k l e v = some true := by
  refine Ev.rounds (g := fun k => laws_FnExactIsPotential.f k l e v) ?_
  unfold laws_FnExactIsPotential.f
  by_cases h0 : (v.length : Int) > 1048576
  · exact Ev.pos h0 (Ev.now _)
  refine Ev.neg h0 ?_
  have hv : v.length ≤ 1048576 := by omega
  obtain ⟨t, h1, h2⟩ := sz_space l e hl he.1
  refine Ev.bind h1 ?_
  by_cases h : t < 0
  · exact Ev.pos h (Ev.now _)
  · refine Ev.neg h ?_
    have hn : modS l e := h2.resolve_left h
    refine Ev.bind (toSpace_ev l e hn) (Ev.bind (toIntS_ev v hv) (Ev.bind (spec_IsPotential_ev l e hn v hv) (Ev.bind (toSpace_ev l e hn) (Ev.bind (toIntS_ev v hv) (Ev.bind (impl_IsPotential_ev l e hn v hv) ?_)))))
    refine Ev.neg (by simp) (Ev.step (fun k => by rw [laws_FnExactIsPotential.j0]) (Ev.neg (by simp) ?_))
    exact Ev.bind (toSpace_ev l e hn) (Ev.bind (eqSpace_ev l e hn) (Ev.pos rfl (Ev.bind (toIntS_ev v hv) (Ev.bind (eqIntS_ev v hv) (Ev.pos rfl (Ev.now _))))))
end Go.Proofs.Ytpbngmkhpcgpkaa.P
