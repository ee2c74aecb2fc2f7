/- The law FnExactIsSpace answers true for every space that comes in. -/
import Derived.Test.YtpbngmkhpcgpkaaFactS
import Derived.Test.YtpbngmkhpcgpkaaPx27
namespace Go.Proofs.Ytpbngmkhpcgpkaa.P
open Go.RowKit Go.Proofs.YtpbngmkhpcgpkaaW.PrintWords Go.Proofs.YtpbngmkhpcgpkaaW.PrintLast Go.Proofs.YtpbngmkhpcgpkaaW.PrintMore
set_option linter.unusedVariables false

theorem Pure_FnExactIsSpace (l : List (List Int)) (e : List S68) (hl : FitLL l) (he : FitP e) : ∃ k, laws_FnExactIsSpace.f k l e = some true := by
  refine Ev.rounds (g := fun k => laws_FnExactIsSpace.f k l e) ?_
  unfold laws_FnExactIsSpace.f
  obtain ⟨t, h1, h2⟩ := sz_space l e hl he.1
  refine Ev.bind h1 ?_
  by_cases h : t < 0
  · exact Ev.pos h (Ev.now _)
  · refine Ev.neg h ?_
    have hn : modS l e := h2.resolve_left h
    refine Ev.bind (toSpace_ev l e hn) (Ev.bind (spec_IsSpace_ev l e hn) (Ev.bind (toSpace_ev l e hn) (Ev.bind (impl_IsSpace_ev l e hn) ?_)))
    exact Ev.neg (by simp) (Ev.bind (toSpace_ev l e hn) (Ev.bind (eqSpace_ev l e hn) (Ev.pos rfl (Ev.now _))))
end Go.Proofs.Ytpbngmkhpcgpkaa.P
