/- The law FnExactPotentialBound answers true for all arguments. -/
import Derived.Test.YtpbngmkhpcgpkaaFactIsPotential
import Derived.Test.YtpbngmkhpcgpkaaPx30
import Derived.Test.YtpbngmkhpcgpkaaPx32
namespace Go.Proofs.Ytpbngmkhpcgpkaa.P
open Go.RowKit Go.Proofs.YtpbngmkhpcgpkaaW.PrintWords Go.Proofs.YtpbngmkhpcgpkaaW.PrintLast Go.Proofs.YtpbngmkhpcgpkaaW.PrintMore
set_option linter.unusedVariables false

def inP (l : List (List Int)) (x : Int) : Bool := decide (0 ≤ x) && decide (x ≤ (l.length : Int) - 1)
theorem l2Place_ev (l : List (List Int)) (e : List S68) (h : modS l e) (x : Int) : Ev (fun k => spec_l2Place.f k l e x) (okS l e && inP l x) := by
  have := h.1
  unfold spec_l2Place.f
  refine Ev.bind (l2Space_ev l e h) ?_
  rw [wrap_nat (m := (l.length : Int) - 1) (by omega) (by omega)]
  cases okS l e with
  | false => rw [Bool.false_and]; exact Ev.neg (by decide) (Ev.now _)
  | true => rw [Bool.true_and]; exact Ev.pos rfl (Ev.bindo (in_at _ _ _) (Ev.now _))
theorem isPlace_at (l : List (List Int)) (e : List S68) (h : modS l e) (x : Int) : impl_Space_isPlace.f l e x = some (inP l x) := by
  have := h.1
  unfold impl_Space_isPlace.f
  rw [wrap_nat (m := (l.length : Int) - 1) (by omega) (by omega), between_at, Option.bind_some]
  rfl
def boundR (l : List (List Int)) (e : List S68) (v : List Int) (i j : Int) : Int × Bool :=
  if ((okS l e = true ∧ areV l v = true) ∧ apartI v 0 e ≤ 1) ∧ (inP l i = true ∧ inP l j = true) then (difI v i j, true) else (0, false)
theorem inP_v {l : List (List Int)} {v : List Int} (hv : areV l v = true) {x : Int} (h : inP l x = true) : 0 ≤ x ∧ x < (v.length : Int) := by
  have := areV_len hv
  simp only [inP, Bool.and_eq_true, decide_eq_true_eq] at h
  omega
theorem spec_Bound_ev (l : List (List Int)) (e : List S68) (h : modS l e) (v : List Int) (hv : v.length ≤ 1048576) (i j : Int) : Ev (fun k => spec_PotentialBound.f k l e v i j) (boundR l e v i j) := by
  unfold spec_PotentialBound.f boundR
  refine Ev.bind (l2Values_ev l e h v hv) ?_
  by_cases c : okS l e = true ∧ areV l v = true
  · refine Ev.pos (by rw [c.1, c.2]; rfl) (Ev.bind (l2Apart_ev l e v c.1 c.2) ?_)
    by_cases c2 : apartI v 0 e ≤ 1
    · refine Ev.neg (by omega) (Ev.bind (l2Place_ev l e h i) ?_)
      rw [c.1, Bool.true_and]
      by_cases c3 : inP l i = true
      · refine Ev.pos c3 (Ev.bind (l2Place_ev l e h j) ?_)
        rw [c.1, Bool.true_and]
        by_cases c4 : inP l j = true
        · have hi := inP_v c.2 c3
          have hj := inP_v c.2 c4
          rw [if_pos (show ((true = true ∧ areV l v = true) ∧ apartI v 0 e ≤ 1) ∧ (inP l i = true ∧ inP l j = true) from ⟨⟨⟨rfl, c.2⟩, c2⟩, c3, c4⟩)]
          exact Ev.pos c4 (Ev.pos hi.1 (Ev.pos hi.2 (Ev.pos hj.1 (Ev.pos hj.2 (Ev.bindo (most_at _ _) (Ev.now _))))))
        · rw [if_neg (show ¬ (((true = true ∧ areV l v = true) ∧ apartI v 0 e ≤ 1) ∧ (inP l i = true ∧ inP l j = true)) from fun hh => c4 hh.2.2)]
          exact Ev.neg c4 (Ev.now _)
      · rw [if_neg (show ¬ (((true = true ∧ areV l v = true) ∧ apartI v 0 e ≤ 1) ∧ (inP l i = true ∧ inP l j = true)) from fun hh => c3 hh.2.1)]
        exact Ev.neg c3 (Ev.now _)
    · rw [if_neg (show ¬ (((okS l e = true ∧ areV l v = true) ∧ apartI v 0 e ≤ 1) ∧ (inP l i = true ∧ inP l j = true)) from fun hh => c2 hh.1.2)]
      exact Ev.pos (by omega) (Ev.now _)
  · rw [if_neg (show ¬ (((okS l e = true ∧ areV l v = true) ∧ apartI v 0 e ≤ 1) ∧ (inP l i = true ∧ inP l j = true)) from fun hh => c hh.1.1)]
    exact Ev.neg (by rw [Bool.and_eq_true]; exact c) (Ev.now _)
theorem impl_Bound_ev (l : List (List Int)) (e : List S68) (h : modS l e) (v : List Int) (hv : v.length ≤ 1048576) (i j : Int) : Ev (fun k => impl_PotentialBound.f k l e v i j) (boundR l e v i j) := by
  unfold impl_PotentialBound.f boundR
  refine Ev.bind (impl_IsPotential_ev l e h v hv) ?_
  unfold rIsPotential
  by_cases c : okS l e = true ∧ areV l v = true
  · rw [if_pos c]
    by_cases c2 : apartI v 0 e ≤ 1
    · refine Ev.pos (decide_eq_true c2) (Ev.bindo (isPlace_at l e h i) ?_)
      by_cases c3 : inP l i = true
      · refine Ev.pos c3 (Ev.bindo (isPlace_at l e h j) ?_)
        by_cases c4 : inP l j = true
        · have hi := inP_v c.2 c3
          have hj := inP_v c.2 c4
          rw [if_pos (show ((okS l e = true ∧ areV l v = true) ∧ apartI v 0 e ≤ 1) ∧ (inP l i = true ∧ inP l j = true) from ⟨⟨c, c2⟩, c3, c4⟩)]
          exact Ev.pos c4 (Ev.bindo (differ_at v i j hi hj) (Ev.now _))
        · rw [if_neg (show ¬ (((okS l e = true ∧ areV l v = true) ∧ apartI v 0 e ≤ 1) ∧ (inP l i = true ∧ inP l j = true)) from fun hh => c4 hh.2.2)]
          exact Ev.neg c4 (Ev.now _)
      · rw [if_neg (show ¬ (((okS l e = true ∧ areV l v = true) ∧ apartI v 0 e ≤ 1) ∧ (inP l i = true ∧ inP l j = true)) from fun hh => c3 hh.2.1)]
        exact Ev.neg c3 (Ev.now _)
    · rw [if_neg (show ¬ (((okS l e = true ∧ areV l v = true) ∧ apartI v 0 e ≤ 1) ∧ (inP l i = true ∧ inP l j = true)) from fun hh => c2 hh.1.2)]
      exact Ev.neg (by show ¬ decide (apartI v 0 e ≤ 1) = true; simpa using c2) (Ev.now _)
  · rw [if_neg c, if_neg (show ¬ (((okS l e = true ∧ areV l v = true) ∧ apartI v 0 e ≤ 1) ∧ (inP l i = true ∧ inP l j = true)) from fun hh => c hh.1.1)]
    exact Ev.neg (by decide) (Ev.now _)
theorem Pure_FnExactPotentialBound (l : List (List Int)) (e : List S68) (v : List Int) (i j : Int) (hl : FitLL l) (he : FitP e) (hv0 : FitL v) (hi0 : (Lit.int .i64 i).wf = true) (hj0 : (Lit.int .i64 j).wf = true) : ∃ k, laws_FnExactPotentialBound.f k l e v i j = some true := by
  refine Ev.rounds (g := fun k => laws_FnExactPotentialBound.f k l e v i j) ?_
  unfold laws_FnExactPotentialBound.f
  by_cases h0 : (v.length : Int) > 1048576
  · exact Ev.pos h0 (Ev.now _)
  refine Ev.neg h0 ?_
  have hv : v.length ≤ 1048576 := by omega
  obtain ⟨t, h1, h2⟩ := sz_space l e hl he.1
  refine Ev.bind h1 ?_
  by_cases h : t < 0
  · exact Ev.pos h (Ev.now _)
  · refine Ev.neg h ?_
    have hn : modS l e := h2.resolve_left h
    refine Ev.bind (toSpace_ev l e hn) (Ev.bind (toIntS_ev v hv) (Ev.bind (spec_Bound_ev l e hn v hv i j) (Ev.bind (toSpace_ev l e hn) (Ev.bind (toIntS_ev v hv) (Ev.bind (impl_Bound_ev l e hn v hv i j) ?_)))))
    refine Ev.pos rfl (Ev.step (fun k => by rw [laws_FnExactPotentialBound.j0]) (Ev.neg (by simp) ?_))
    exact Ev.bind (toSpace_ev l e hn) (Ev.bind (eqSpace_ev l e hn) (Ev.pos rfl (Ev.bind (toIntS_ev v hv) (Ev.bind (eqIntS_ev v hv) (Ev.pos rfl (Ev.now _))))))
end Go.Proofs.Ytpbngmkhpcgpkaa.P
