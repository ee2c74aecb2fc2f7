/- IsPotential, as both sides compute it. -/
import Derived.Test.YtpbngmkhpcgpkaaFactV
import Derived.Test.YtpbngmkhpcgpkaaPx28
import Derived.Test.YtpbngmkhpcgpkaaPx29
namespace Go.Proofs.Ytpbngmkhpcgpkaa.P
open Go.RowKit Go.Proofs.YtpbngmkhpcgpkaaW.PrintWords Go.Proofs.YtpbngmkhpcgpkaaW.PrintLast Go.Proofs.YtpbngmkhpcgpkaaW.PrintMore
set_option linter.unusedVariables false

def rIsPotential (l : List (List Int)) (e : List S68) (v : List Int) : Bool × Bool := if okS l e = true ∧ areV l v = true then (decide (apartI v 0 e ≤ 1), true) else (false, false)
theorem spec_IsPotential_ev (l : List (List Int)) (e : List S68) (h : modS l e) (v : List Int) (hv : v.length ≤ 1048576) : Ev (fun k => spec_IsPotential.f k l e v) (rIsPotential l e v) := by
  unfold spec_IsPotential.f rIsPotential
  refine Ev.bind (l2Values_ev l e h v hv) ?_
  by_cases c : okS l e = true ∧ areV l v = true
  · rw [if_pos c]
    refine Ev.pos (by rw [c.1, c.2]; rfl) (Ev.bind (l2Apart_ev l e v c.1 c.2) ?_)
    have hq : decide (apartI v 0 e ≤ 1) = decide (apartI v 0 e ≤ 1) := rfl
    show Ev (fun _ => some (decide (apartI v 0 e ≤ 1), true)) _
    rw [hq]
    exact Ev.now _
  · rw [if_neg c]
    exact Ev.neg (by rw [Bool.and_eq_true]; exact c) (Ev.now _)
theorem impl_IsPotential_ev (l : List (List Int)) (e : List S68) (h : modS l e) (v : List Int) (hv : v.length ≤ 1048576) : Ev (fun k => impl_IsPotential.f k l e v) (rIsPotential l e v) := by
  unfold impl_IsPotential.f rIsPotential
  refine Ev.bind (impl_IsSpace_ev l e h) ?_
  by_cases c : okS l e = true
  · refine Ev.pos c (Ev.bindo (areValues_at l e v) ?_)
    by_cases c2 : areV l v = true
    · rw [if_pos (show okS l e = true ∧ areV l v = true from ⟨c, c2⟩)]
      exact Ev.pos c2 (Ev.bindo (within_at l e v 1 (by decide) c c2) (Ev.now _))
    · rw [if_neg (show ¬ (okS l e = true ∧ areV l v = true) from fun hh => c2 hh.2)]
      exact Ev.neg c2 (Ev.now _)
  · rw [if_neg (show ¬ (okS l e = true ∧ areV l v = true) from fun hh => c hh.1)]
    exact Ev.neg c (Ev.now _)
end Go.Proofs.Ytpbngmkhpcgpkaa.P
