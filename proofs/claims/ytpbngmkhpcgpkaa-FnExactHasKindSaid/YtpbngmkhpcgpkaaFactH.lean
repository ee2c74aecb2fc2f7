/- Neighbours in a graph, as both sides tell them, and marks that are held. -/
import Derived.Test.YtpbngmkhpcgpkaaFactG
import Derived.Test.YtpbngmkhpcgpkaaPx12
import Derived.Test.YtpbngmkhpcgpkaaPx14
namespace Go.Proofs.Ytpbngmkhpcgpkaa.P
open Go.RowKit Go.Proofs.YtpbngmkhpcgpkaaW.PrintWords Go.Proofs.YtpbngmkhpcgpkaaW.PrintLast Go.Proofs.YtpbngmkhpcgpkaaW.PrintMore
set_option linter.unusedVariables false
set_option linter.unusedSimpArgs false

/-! Marks are held, and counted from 0 on. -/
theorem mark2_fst (l : List S68) : ∀ (k : Int), 0 ≤ k → k + 2 * (l.length : Int) ≤ 4611686018427387904 → (mark2 l k).1 = k + 2 * (l.length : Int) := by
  induction l with
  | nil => intro k h1 h2; simp [mark2]
  | cons e t ih =>
    intro k h1 h2
    simp only [List.length_cons] at h2 ⊢
    simp only [mark2]
    have e1 : wrap64 (k + 1) = k + 1 := wrap_nat (by omega) (by omega)
    have e2 : wrap64 (k + 1 + 1) = k + 1 + 1 := wrap_nat (by omega) (by omega)
    rw [e1, e2, ih (k + 1 + 1) (by omega) (by omega)]
    omega
theorem held_mark2 (l : List S68) : ∀ (k : Int), held2 (mark2 l k).2 k = (mark2 l k).1 := by
  induction l with
  | nil => intro k; rfl
  | cons e t ih => intro k; simp only [mark2, held2, if_true]; exact ih _
theorem markGraph_at (a : Int) (l : List S68) (k : Int) : laws_markGraph.f a l k = some ((mark2 l k).1, (mark2 l k).2) := rfl
theorem mark1_pos (l : List S68) (hl : l.length ≤ 1048576) : ¬ (mark2 l 1).1 < 0 := by rw [mark2_fst l 1 (by omega) (by omega)]; omega
theorem heldGraph_at (a : Int) (l : List S68) (hl : l.length ≤ 1048576) : laws_heldGraph.f a (mark2 l 1).2 1 = some (mark2 l 1).1 := by
  unfold laws_heldGraph.f laws_heldIntA2S.f
  rw [Option.bind_some, held_mark2, if_neg (mark1_pos l hl)]

/-! What a valid graph gives. -/
theorem goodP_all (n : Int) (l : List S68) : ∀ p, goodP n p l = true → ∀ e ∈ l, 0 ≤ e.f0 ∧ e.f0 < e.f1 ∧ e.f1 < n := by
  induction l with
  | nil => intro p h e he; simp at he
  | cons x t ih =>
    intro p h e he
    simp only [goodP, Bool.and_eq_true, decide_eq_true_eq] at h
    obtain ⟨⟨⟨h1, h2⟩, h3⟩, h4, h5⟩ := h
    rcases List.mem_cons.1 he with rfl | he
    · exact ⟨h1, h2, h3⟩
    · exact ih _ h5 e he
theorem okG_all {a : Int} {l : List S68} (h : okG a l = true) : 0 ≤ a ∧ a ≤ 8 ∧ ∀ e ∈ l, 0 ≤ e.f0 ∧ e.f0 < e.f1 ∧ e.f1 < a := by
  simp only [okG, Bool.and_eq_true, decide_eq_true_eq] at h
  exact ⟨h.1.1, h.1.2, goodP_all a l none h.2⟩
/-- Two nodes are neighbours. -/
def hasP (l : List S68) (x y : Int) : Bool := l.any fun e => (decide (e.f0 = x) && decide (e.f1 = y)) || (decide (e.f0 = y) && decide (e.f1 = x))
theorem near_loop (a : Int) (l : List S68) (x y : Int) (hl : l.length ≤ 1048576) (d : Nat) : ∀ (m : Nat), l.length - m = d → m ≤ l.length →
    Ev (fun k => spec_l2Near.l0 k x y (m : Int) a l) (hasP (l.drop m) x y) := by
  induction d with
  | zero =>
    intro m h0 h1
    refine Ev.step (fun k => by rw [spec_l2Near.l0]) ?_
    rw [List.drop_eq_nil_of_le (by omega)]
    exact Ev.neg (by omega) (Ev.now _)
  | succ d ih =>
    intro m h0 h1
    have hm : m < l.length := by omega
    refine Ev.step (fun k => by rw [spec_l2Near.l0]) ?_
    refine Ev.pos (by omega) (Ev.pos (by omega) ?_)
    have ihm := ih (m + 1) (by omega) (by omega)
    rw [← wrap_up hm (by omega)] at ihm
    rw [rdT_at l m hm, List.drop_eq_getElem_cons hm]
    simp only [hasP, List.any_cons] at ihm ⊢
    generalize (l.drop (m + 1)).any _ = R at ihm ⊢
    by_cases c1 : l[m].f0 = x
    · refine Ev.pos c1 ?_
      by_cases c2 : l[m].f1 = y
      · refine Ev.pos c2 ?_
        rw [decide_eq_true c1, decide_eq_true c2]
        exact Ev.now _
      · refine Ev.neg c2 ?_
        rw [decide_eq_false c2, Bool.and_false, Bool.false_or]
        by_cases c3 : l[m].f0 = y
        · refine Ev.pos c3 ?_
          by_cases c4 : l[m].f1 = x
          · refine Ev.pos c4 ?_
            rw [decide_eq_true c3, decide_eq_true c4]
            exact Ev.now _
          · refine Ev.neg c4 ?_
            rw [decide_eq_false c4, Bool.and_false, Bool.false_or]
            exact ihm
        · refine Ev.neg c3 ?_
          rw [decide_eq_false c3, Bool.false_and, Bool.false_or]
          exact ihm
    · refine Ev.neg c1 ?_
      rw [decide_eq_false c1, Bool.false_and, Bool.false_or]
      by_cases c3 : l[m].f0 = y
      · refine Ev.pos c3 ?_
        by_cases c4 : l[m].f1 = x
        · refine Ev.pos c4 ?_
          rw [decide_eq_true c3, decide_eq_true c4]
          exact Ev.now _
        · refine Ev.neg c4 ?_
          rw [decide_eq_false c4, Bool.and_false, Bool.false_or]
          exact ihm
      · refine Ev.neg c3 ?_
        rw [decide_eq_false c3, Bool.false_and, Bool.false_or]
        exact ihm
theorem near_ev (a : Int) (l : List S68) (x y : Int) (hl : l.length ≤ 1048576) : Ev (fun k => spec_l2Near.f k a l x y) (hasP l x y) :=
  near_loop a l x y hl l.length 0 (by omega) (Nat.zero_le _)
theorem index_loop (l : List S68) (p q : Int) (hl : l.length ≤ 1048576) (d : Nat) : ∀ (m : Nat), l.length - m = d → m ≤ l.length →
    ∃ i : Int, (decide (i ≥ 0)) = ((l.drop m).any fun e => p == e.f0 && q == e.f1) ∧ Ev (fun k => slices_Index_2_int_2_int.l0 k l (l.length : Int) (m : Int) p q) i := by
  induction d with
  | zero =>
    intro m h0 h1
    refine ⟨-1, by rw [List.drop_eq_nil_of_le (by omega)]; rfl, Ev.step (fun k => by rw [slices_Index_2_int_2_int.l0]) ?_⟩
    exact Ev.neg (by omega) (Ev.now _)
  | succ d ih =>
    intro m h0 h1
    have hm : m < l.length := by omega
    obtain ⟨i, hi, ihm⟩ := ih (m + 1) (by omega) (by omega)
    rw [← wrap_up hm (by omega)] at ihm
    rw [List.drop_eq_getElem_cons hm, List.any_cons, ← hi]
    cases hc : (p == l[m].f0 && q == l[m].f1) with
    | true =>
      refine ⟨(m : Int), by simp, Ev.step (fun k => by rw [slices_Index_2_int_2_int.l0]) ?_⟩
      refine Ev.pos (by omega) (Ev.pos (by omega) (Ev.pos (by omega) ?_))
      rw [rdT_at l m hm]
      exact Ev.pos hc (Ev.now _)
    | false =>
      refine ⟨i, by simp, Ev.step (fun k => by rw [slices_Index_2_int_2_int.l0]) ?_⟩
      refine Ev.pos (by omega) (Ev.pos (by omega) (Ev.pos (by omega) ?_))
      rw [rdT_at l m hm]
      exact Ev.neg (by rw [hc]; decide) ihm
theorem any_congr {α : Type} (l : List α) (f g : α → Bool) (h : ∀ e ∈ l, f e = g e) : l.any f = l.any g := by
  induction l with
  | nil => rfl
  | cons x t ih => rw [List.any_cons, List.any_cons, h x (List.mem_cons_self ..), ih fun e he => h e (List.mem_cons_of_mem _ he)]
theorem has_ev (a : Int) (l : List S68) (x y : Int) (hl : l.length ≤ 1048576) (hu : ∀ e ∈ l, e.f0 < e.f1) : Ev (fun k => impl_Graph_has.f k a l x y) (hasP l x y) := by
  unfold impl_Graph_has.f slices_Contains_2_int_2_int.f slices_Index_2_int_2_int.f
  obtain ⟨i, hi, h⟩ := index_loop l (mn x y) (mx x y) hl l.length 0 (by omega) (Nat.zero_le _)
  refine Ev.bindo rfl ?_
  refine Ev.bind (Ev.bind h (Ev.now _)) ?_
  have : hasP l x y = decide (i ≥ 0) := by
    rw [hi, List.drop_zero]
    unfold hasP
    refine any_congr l _ _ fun e he => ?_
    have := hu e he
    unfold mn mx
    by_cases c : y < x
    · have c2 : ¬ x < y := by omega
      rw [if_pos c, if_neg c2]
      rw [Bool.eq_iff_iff]
      simp only [Bool.or_eq_true, Bool.and_eq_true, decide_eq_true_eq, beq_iff_eq]
      omega
    · rw [if_neg c]
      by_cases c2 : x < y
      · rw [if_pos c2, Bool.eq_iff_iff]
        simp only [Bool.or_eq_true, Bool.and_eq_true, decide_eq_true_eq, beq_iff_eq]
        omega
      · rw [if_neg c2, Bool.eq_iff_iff]
        simp only [Bool.or_eq_true, Bool.and_eq_true, decide_eq_true_eq, beq_iff_eq]
        omega
  rw [this]
  exact Ev.now _
end Go.Proofs.Ytpbngmkhpcgpkaa.P
