/- The law FnExactPlaceOf answers true for all arguments: the halving search finds what the search from the front finds. -/
import Derived.Test.YtpbngmkhpcgpkaaFactP
import Derived.Test.YtpbngmkhpcgpkaaExtP
import Derived.Test.YtpbngmkhpcgpkaaPx33
import Derived.Test.YtpbngmkhpcgpkaaPx34
namespace Go.Proofs.Ytpbngmkhpcgpkaa.P
open Go.RowKit Go.Proofs.YtpbngmkhpcgpkaaW.PrintWords Go.Proofs.YtpbngmkhpcgpkaaW.PrintLast Go.Proofs.YtpbngmkhpcgpkaaW.PrintMore
set_option linter.unusedVariables false

theorem l1Same_loop (x y : List Int) (hx : x.length ≤ 1048576) (hxy : x.length = y.length) (d : Nat) : ∀ (m : Nat), x.length - m = d → m ≤ x.length → Ev (fun k => spec_l1Same.l0 k x y (m : Int)) (decide (x.drop m = y.drop m)) := by
  induction d with
  | zero =>
    intro m h0 h1
    refine Ev.step (fun k => by rw [spec_l1Same.l0]) (Ev.neg (by omega) ?_)
    rw [List.drop_eq_nil_of_le (by omega), show y.drop m = [] from List.drop_eq_nil_of_le (by omega)]
    exact Ev.now _
  | succ d ih =>
    intro m h0 h1
    have hm : m < x.length := by omega
    have hy : m < y.length := by omega
    refine Ev.step (fun k => by rw [spec_l1Same.l0]) (Ev.pos (by omega) (Ev.pos (by omega) (Ev.pos (by omega) ?_)))
    rw [rd_at x m hm, rd_at y m hy, List.drop_eq_getElem_cons hm, List.drop_eq_getElem_cons hy, wrap_up hm (by omega)]
    by_cases c : x[m] = y[m]
    · rw [show decide (x[m] :: x.drop (m + 1) = y[m] :: y.drop (m + 1)) = decide (x.drop (m + 1) = y.drop (m + 1)) from by rw [decide_eq_decide, List.cons.injEq]; exact ⟨fun h => h.2, fun h => ⟨c, h⟩⟩]
      exact Ev.pos c (ih (m + 1) (by omega) (by omega))
    · rw [decide_eq_false (fun h => c (List.cons.inj h).1)]
      exact Ev.neg c (Ev.now _)
theorem l1Same_ev (x y : List Int) (hx : x.length ≤ 1048576) : Ev (fun k => spec_l1Same.f k x y) (decide (x = y)) := by
  unfold spec_l1Same.f
  by_cases h : x.length = y.length
  · have := l1Same_loop x y hx h x.length 0 (by omega) (Nat.zero_le _)
    refine Ev.pos (by omega) ?_
    simpa only [List.drop_zero, Int.natCast_zero] using this
  · rw [decide_eq_false (fun hh => h (congrArg List.length hh))]
    exact Ev.neg (by omega) (Ev.now _)
theorem l2Index_loop (l : List (List Int)) (e : List S68) (h : modS l e) (s : List Int) (d : Nat) : ∀ (m : Nat), l.length - m = d → m ≤ l.length →
    ∃ r : Int, Ev (fun k => spec_l2Index.l0 k s (m : Int) l e) r ∧ ((r = -1 ∧ s ∉ l.drop m) ∨ ∃ q : Nat, ∃ hq : q < l.length, r = (q : Int) ∧ l[q] = s) := by
  have hl := h.1
  induction d with
  | zero =>
    intro m h0 h1
    refine ⟨-1, ?_, .inl ⟨rfl, ?_⟩⟩
    · refine Ev.step (fun k => by rw [spec_l2Index.l0]) ?_
      exact Ev.neg (by omega) (Ev.now _)
    · rw [List.drop_eq_nil_of_le (by omega)]
      simp
  | succ d ih =>
    intro m h0 h1
    have hm : m < l.length := by omega
    by_cases c : l[m] = s
    · refine ⟨(m : Int), ?_, .inr ⟨m, hm, rfl, c⟩⟩
      refine Ev.step (fun k => by rw [spec_l2Index.l0]) ?_
      refine Ev.pos (by omega) (Ev.pos (by omega) ?_)
      rw [rdL_at l m hm]
      exact Ev.bind (l1Same_ev _ _ (h.2.1 _ (List.getElem_mem hm))) (Ev.pos (decide_eq_true c) (Ev.now _))
    · obtain ⟨r, hr, hd⟩ := ih (m + 1) (by omega) (by omega)
      refine ⟨r, ?_, ?_⟩
      · refine Ev.step (fun k => by rw [spec_l2Index.l0]) ?_
        refine Ev.pos (by omega) (Ev.pos (by omega) ?_)
        rw [rdL_at l m hm, wrap_up hm (by omega)]
        exact Ev.bind (l1Same_ev _ _ (h.2.1 _ (List.getElem_mem hm))) (Ev.neg (by rw [decide_eq_false c]; decide) hr)
      · rcases hd with ⟨hd, hn⟩ | hd
        · refine .inl ⟨hd, ?_⟩
          rw [List.drop_eq_getElem_cons hm, List.mem_cons]
          rintro (hh | hh)
          · exact c hh.symm
          · exact hn hh
        · exact .inr hd
def foundR (l : List (List Int)) (s : List Int) : Bool := decide (placeR l s < l.length) && (cmpL (l.getD (placeR l s) []) s == 0)
def placeOfR (l : List (List Int)) (e : List S68) (s : List Int) : Int × Bool := if okS l e = true ∧ foundR l s = true then ((placeR l s : Int), true) else (0, false)
theorem okS_good {l : List (List Int)} {e : List S68} (h : okS l e = true) : goodS none l = true ∧ goodP (l.length : Int) none e = true := by
  simp only [okS, Bool.and_eq_true] at h
  exact h.2
theorem found_at {l : List (List Int)} (h : goodS none l = true) (q : Nat) (hq : q < l.length) : placeR l l[q] = q ∧ foundR l l[q] = true := by
  have hp : placeR l l[q] = q := search_lists l h q hq
  refine ⟨hp, ?_⟩
  unfold foundR
  rw [hp, decide_eq_true hq, Bool.true_and, beq_iff_eq, cmpL_zero, List.getD_eq_getElem?_getD, List.getElem?_eq_getElem hq, Option.getD_some]
theorem found_mem {l : List (List Int)} {s : List Int} (h : foundR l s = true) : s ∈ l := by
  unfold foundR at h
  simp only [Bool.and_eq_true, decide_eq_true_eq, beq_iff_eq] at h
  obtain ⟨h1, h2⟩ := h
  rw [cmpL_zero, List.getD_eq_getElem?_getD, List.getElem?_eq_getElem h1, Option.getD_some] at h2
  rw [← h2]
  exact List.getElem_mem h1
theorem spec_PlaceOf_ev (l : List (List Int)) (e : List S68) (h : modS l e) (s : List Int) : Ev (fun k => spec_PlaceOf.f k l e s) (placeOfR l e s) := by
  unfold spec_PlaceOf.f placeOfR
  refine Ev.bind (l2Space_ev l e h) ?_
  by_cases c : okS l e = true
  · refine Ev.pos c ?_
    obtain ⟨r, hr, hd⟩ := l2Index_loop l e h s l.length 0 (by omega) (Nat.zero_le _)
    have hr' : Ev (fun k => spec_l2Index.f k l e s) r := hr
    refine Ev.bind hr' ?_
    rcases hd with ⟨hd, hn⟩ | ⟨q, hq, hd, hs⟩
    · rw [if_neg (show ¬ (okS l e = true ∧ foundR l s = true) from fun hh => hn (by rw [List.drop_zero]; exact found_mem hh.2))]
      exact Ev.pos (by omega) (Ev.now _)
    · have hf := found_at (okS_good c).1 q hq
      rw [hs] at hf
      rw [if_pos (show okS l e = true ∧ foundR l s = true from ⟨c, hf.2⟩), hf.1, ← hd]
      exact Ev.neg (by omega) (Ev.bind hr' (Ev.now _))
  · rw [if_neg (show ¬ (okS l e = true ∧ foundR l s = true) from fun hh => c hh.1)]
    exact Ev.neg c (Ev.now _)
theorem impl_PlaceOf_ev (l : List (List Int)) (e : List S68) (h : modS l e) (s : List Int) : Ev (fun k => impl_PlaceOf.f k l e s) (placeOfR l e s) := by
  have hl := h.1
  unfold impl_PlaceOf.f placeOfR
  refine Ev.bind (impl_IsSpace_ev l e h) ?_
  by_cases c : okS l e = true
  · refine Ev.pos c (Ev.bindo (a := ((placeR l s : Int), foundR l s)) ?_ ?_)
    · unfold impl_Space_place.f
      rw [if_pos (by omega)]
      rfl
    · by_cases c2 : foundR l s = true
      · rw [if_pos (show okS l e = true ∧ foundR l s = true from ⟨c, c2⟩)]
        exact Ev.pos c2 (Ev.now _)
      · rw [if_neg (show ¬ (okS l e = true ∧ foundR l s = true) from fun hh => c2 hh.2)]
        exact Ev.neg c2 (Ev.now _)
  · rw [if_neg (show ¬ (okS l e = true ∧ foundR l s = true) from fun hh => c hh.1)]
    exact Ev.neg c (Ev.now _)
theorem Pure_FnExactPlaceOf (l : List (List Int)) (e : List S68) (v : List Int) (hl : FitLL l) (he : FitP e) (hv0 : FitL v) : ∃ k, laws_FnExactPlaceOf.f k l e v = some true := by
  refine Ev.rounds (g := fun k => laws_FnExactPlaceOf.f k l e v) ?_
  unfold laws_FnExactPlaceOf.f
  by_cases h0 : (v.length : Int) > 1048576
  · exact Ev.pos h0 (Ev.now _)
  refine Ev.neg h0 ?_
  have hv : v.length ≤ 1048576 := by omega
  obtain ⟨t, h1, h2⟩ := sz_space l e hl he.1
  refine Ev.bind h1 ?_
  by_cases h : t < 0
  · exact Ev.pos h (Ev.now _)
  · refine Ev.neg h ?_
    have hn : modS l e := h2.resolve_left h
    refine Ev.bind (toSpace_ev l e hn) (Ev.bind (toIntS_ev v hv) (Ev.bind (spec_PlaceOf_ev l e hn v) (Ev.bind (toSpace_ev l e hn) (Ev.bind (toIntS_ev v hv) (Ev.bind (impl_PlaceOf_ev l e hn v) ?_)))))
    refine Ev.pos rfl (Ev.step (fun k => by rw [laws_FnExactPlaceOf.j0]) (Ev.neg (by simp) ?_))
    exact Ev.bind (toSpace_ev l e hn) (Ev.bind (eqSpace_ev l e hn) (Ev.pos rfl (Ev.bind (toIntS_ev v hv) (Ev.bind (eqIntS_ev v hv) (Ev.pos rfl (Ev.now _))))))
end Go.Proofs.Ytpbngmkhpcgpkaa.P
