/- Both sides' test of a list of edges, and of a graph, say what goodP and okG say in plain words. -/
import Derived.Test.YtnlmijnbfdhdkaaIsTightSetG13
import Derived.Test.YtnlmijnbfdhdkaaIsTightSetG6
import Derived.Test.YtnlmijnbfdhdkaaIsTightSetG12
import Derived.Test.YtnlmijnbfdhdkaaIsTightSetG3
import Derived.Test.YtnlmijnbfdhdkaaIsTightSetG10
import Derived.Test.YtnlmijnbfdhdkaaIsTightSetG4
import Derived.Test.YtnlmijnbfdhdkaaIsTightSetG8
import Derived.Handy
import Derived.Test.YtnlmijnbfdhdkaaIsTightSetG9
namespace Go.Proofs.Ytnlmijnbfdhdkaa.P
open Go.RowKit Go.Proofs.YtnlmijnbfdhdkaaW.PrintWords Go.Proofs.YtnlmijnbfdhdkaaW.PrintLast Go.Proofs.YtnlmijnbfdhdkaaW.PrintMore
set_option linter.unusedVariables false
set_option linter.unusedSimpArgs false

theorem in_at (a lo hi : Int) : spec_l1In.f a lo hi = some (decide (lo ≤ a) && decide (a ≤ hi)) := by
  unfold spec_l1In.f
  by_cases h : lo ≤ a
  · rw [if_pos h, decide_eq_true h, Bool.true_and]
  · rw [if_neg h, decide_eq_false h, Bool.false_and]
theorem between_at (a lo hi : Int) : impl_between.f a lo hi = some (decide (lo ≤ a) && decide (a ≤ hi)) := by
  unfold impl_between.f
  by_cases h : lo ≤ a
  · rw [if_pos h, decide_eq_true h, Bool.true_and]
  · rw [if_neg h, decide_eq_false h, Bool.false_and]
/-- A pair comes before another one. -/
def befP (a b : S88) : Bool := decide (a.f0 < b.f0) || (decide (a.f0 = b.f0) && decide (a.f1 < b.f1))
theorem edge_at (a b : S88) : spec_l2Edge.f a.f0 a.f1 b.f0 b.f1 = some (befP a b) := by
  unfold spec_l2Edge.f befP
  by_cases h : a.f0 < b.f0
  · rw [if_pos h, decide_eq_true h, Bool.true_or]
  · rw [if_neg h, decide_eq_false h, Bool.false_or]
    by_cases h2 : a.f0 = b.f0
    · rw [if_pos h2, decide_eq_true h2, Bool.true_and]
    · rw [if_neg h2, decide_eq_false h2, Bool.false_and]
theorem cmpP_bef (a b : S88) : (cmpP a b < 0) ↔ befP a b = true := by
  unfold cmpP befP cmpI
  simp only [Bool.or_eq_true, Bool.and_eq_true, decide_eq_true_eq]
  by_cases h : a.f0 < b.f0
  · simp [h]
  · by_cases h2 : b.f0 < a.f0
    · have : ¬ a.f0 = b.f0 := by omega
      simp [h, h2, this]
    · have h3 : a.f0 = b.f0 := by omega
      by_cases h4 : a.f1 < b.f1
      · simp [h3, h4]
      · by_cases h5 : b.f1 < a.f1 <;> simp [h3, h4, h5]
/-- Pairs of numbers from 0 on below n, the less one first, strictly ascending behind a first one. -/
def goodP (n : Int) : Option S88 → List S88 → Bool
  | _, [] => true
  | p, e :: t => (decide (0 ≤ e.f0) && decide (e.f0 < e.f1) && decide (e.f1 < n)) && ((match p with | none => true | some q => befP q e) && goodP n (some e) t)
def prevP (l : List S88) : Nat → Option S88
  | 0 => none
  | m + 1 => l[m]?
theorem goodP_step (l : List S88) (n : Int) (m : Nat) (hm : m < l.length) : goodP n (prevP l m) (l.drop m) = ((decide (0 ≤ l[m].f0) && decide (l[m].f0 < l[m].f1) && decide (l[m].f1 < n)) && ((match prevP l m with | none => true | some q => befP q l[m]) && goodP n (prevP l (m + 1)) (l.drop (m + 1)))) := by
  rw [List.drop_eq_getElem_cons hm, show prevP l (m + 1) = some l[m] from List.getElem?_eq_getElem hm]
  cases prevP l m <;> rfl
theorem l2Pairs_loop (l : List S88) (n : Int) (hn : 0 ≤ n) (hn2 : n ≤ 4611686018427387904) (hl : l.length ≤ 1048576) (d : Nat) : ∀ (m : Nat), l.length - m = d → m ≤ l.length →
    Ev (fun k => spec_l2Pairs.l0 k l n (m : Int)) (goodP n (prevP l m) (l.drop m)) := by
  induction d with
  | zero =>
    intro m h0 h1
    refine Ev.step (fun k => by rw [spec_l2Pairs.l0]) ?_
    have e3 : l.drop m = [] := List.drop_eq_nil_of_le (by omega)
    rw [e3]
    refine Ev.neg (by omega) ?_
    cases prevP l m <;> exact Ev.now _
  | succ d ih =>
    intro m h0 h1
    have hm : m < l.length := by omega
    refine Ev.step (fun k => by rw [spec_l2Pairs.l0]) ?_
    rw [goodP_step l n m hm]
    refine Ev.pos (by omega) (Ev.pos (by omega) ?_)
    rw [rdT_at l m hm, wrap_nat (m := n - 1) (by omega) (by omega)]
    have ihm := ih (m + 1) (by omega) (by omega)
    rw [← wrap_up hm (by omega)] at ihm
    generalize goodP n (prevP l (m + 1)) (l.drop (m + 1)) = R at ihm ⊢
    refine Ev.bindo (in_at _ _ _) ?_
    by_cases c1 : 0 ≤ l[m].f0
    · by_cases c2 : l[m].f0 ≤ n - 1
      · refine Ev.pos (by simp [c1, c2]) (Ev.bindo (in_at _ _ _) ?_)
        by_cases c3 : 0 ≤ l[m].f1 ∧ l[m].f1 ≤ n - 1
        · refine Ev.pos (by simp [c3.1, c3.2]) ?_
          by_cases c4 : l[m].f0 ≥ l[m].f1
          · have : (decide (0 ≤ l[m].f0) && decide (l[m].f0 < l[m].f1) && decide (l[m].f1 < n)) = false := by simp; omega
            rw [this, Bool.false_and]
            exact Ev.pos c4 (Ev.now _)
          · have : (decide (0 ≤ l[m].f0) && decide (l[m].f0 < l[m].f1) && decide (l[m].f1 < n)) = true := by simp; omega
            rw [this, Bool.true_and]
            refine Ev.neg c4 ?_
            cases m with
            | zero =>
              refine Ev.neg (by omega) ?_
              simp only [prevP, Bool.true_and]
              exact ihm
            | succ q =>
              have hq : q < l.length := by omega
              have hw : wrap64 (((q + 1 : Nat) : Int) - 1) = (q : Int) := by unfold wrap64; omega
              refine Ev.pos (by omega) ?_
              rw [hw]
              refine Ev.pos (by omega) (Ev.pos (by omega) ?_)
              rw [rdT_at l q hq]
              refine Ev.bindo (edge_at _ _) ?_
              simp only [prevP, List.getElem?_eq_getElem hq]
              cases befP l[q] l[q + 1] with
              | true => rw [Bool.true_and]; exact Ev.pos rfl ihm
              | false => rw [Bool.false_and]; exact Ev.neg (by decide) (Ev.now _)
        · have : (decide (0 ≤ l[m].f0) && decide (l[m].f0 < l[m].f1) && decide (l[m].f1 < n)) = false := by simp; omega
          rw [this, Bool.false_and]
          exact Ev.neg (by simp; omega) (Ev.now _)
      · have : (decide (0 ≤ l[m].f0) && decide (l[m].f0 < l[m].f1) && decide (l[m].f1 < n)) = false := by simp; omega
        rw [this, Bool.false_and]
        exact Ev.neg (by simp; omega) (Ev.now _)
    · have : (decide (0 ≤ l[m].f0) && decide (l[m].f0 < l[m].f1) && decide (l[m].f1 < n)) = false := by simp; omega
      rw [this, Bool.false_and]
      exact Ev.neg (by simp; omega) (Ev.now _)
theorem isPairs_loop (l : List S88) (n : Int) (hl : l.length ≤ 1048576) (d : Nat) : ∀ (m : Nat), l.length - m = d → m ≤ l.length →
    Ev (fun k => impl_isPairs.l0 k l n l (l.length : Int) (m : Int)) (goodP n (prevP l m) (l.drop m)) := by
  induction d with
  | zero =>
    intro m h0 h1
    refine Ev.step (fun k => by rw [impl_isPairs.l0]) ?_
    have e3 : l.drop m = [] := List.drop_eq_nil_of_le (by omega)
    rw [e3]
    refine Ev.neg (by omega) ?_
    cases prevP l m <;> exact Ev.now _
  | succ d ih =>
    intro m h0 h1
    have hm : m < l.length := by omega
    refine Ev.step (fun k => by rw [impl_isPairs.l0]) ?_
    rw [goodP_step l n m hm]
    refine Ev.pos (by omega) (Ev.pos (by omega) (Ev.pos (by omega) ?_))
    rw [rdT_at l m hm]
    have ihm := ih (m + 1) (by omega) (by omega)
    rw [← wrap_up hm (by omega)] at ihm
    generalize goodP n (prevP l (m + 1)) (l.drop (m + 1)) = R at ihm ⊢
    by_cases c1 : l[m].f0 < 0
    · have : (decide (0 ≤ l[m].f0) && decide (l[m].f0 < l[m].f1) && decide (l[m].f1 < n)) = false := by simp; omega
      rw [this, Bool.false_and]
      exact Ev.pos c1 (Ev.now _)
    · refine Ev.neg c1 ?_
      by_cases c2 : l[m].f0 ≥ l[m].f1
      · have : (decide (0 ≤ l[m].f0) && decide (l[m].f0 < l[m].f1) && decide (l[m].f1 < n)) = false := by simp; omega
        rw [this, Bool.false_and]
        exact Ev.pos c2 (Ev.now _)
      · refine Ev.neg c2 ?_
        by_cases c3 : l[m].f1 ≥ n
        · have : (decide (0 ≤ l[m].f0) && decide (l[m].f0 < l[m].f1) && decide (l[m].f1 < n)) = false := by simp; omega
          rw [this, Bool.false_and]
          exact Ev.pos c3 (Ev.now _)
        · have : (decide (0 ≤ l[m].f0) && decide (l[m].f0 < l[m].f1) && decide (l[m].f1 < n)) = true := by simp; omega
          rw [this, Bool.true_and]
          refine Ev.neg c3 ?_
          cases m with
          | zero =>
            refine Ev.neg (by omega) ?_
            simp only [prevP, Bool.true_and]
            exact ihm
          | succ q =>
            have hq : q < l.length := by omega
            have hw : wrap64 (((q + 1 : Nat) : Int) - 1) = (q : Int) := by unfold wrap64; omega
            refine Ev.pos (by omega) ?_
            rw [hw]
            refine Ev.pos (by omega) (Ev.pos (by omega) ?_)
            rw [rdT_at l q hq]
            refine Ev.bind (a := cmpP l[q] l[q + 1]) ⟨3, fun k hk => comparePairs_at _ _ k hk⟩ ?_
            simp only [prevP, List.getElem?_eq_getElem hq]
            have hb := cmpP_bef l[q] l[q + 1]
            cases hbb : befP l[q] l[q + 1] with
            | true => rw [Bool.true_and]; exact Ev.neg (by have := hb.2 hbb; omega) ihm
            | false => rw [Bool.false_and]; exact Ev.pos (by rw [hbb] at hb; have : ¬ cmpP l[q] l[q+1] < 0 := fun h => by have := hb.1 h; cases this
                                                             omega) (Ev.now _)
theorem l2Pairs_ev (l : List S88) (n : Int) (hn : 0 ≤ n) (hn2 : n ≤ 4611686018427387904) (hl : l.length ≤ 1048576) : Ev (fun k => spec_l2Pairs.f k l n) (goodP n none l) :=
  l2Pairs_loop l n hn hn2 hl l.length 0 (by omega) (Nat.zero_le _)
theorem isPairs_ev (l : List S88) (n : Int) (hl : l.length ≤ 1048576) : Ev (fun k => impl_isPairs.f k l n) (goodP n none l) :=
  isPairs_loop l n hl l.length 0 (by omega) (Nat.zero_le _)
/-- A valid graph. -/
def okG (a : Int) (l : List S88) : Bool := (decide (0 ≤ a) && decide (a ≤ 8)) && goodP a none l
theorem l2Good_ev (a : Int) (l : List S88) (hl : l.length ≤ 1048576) : Ev (fun k => spec_l2Good.f k a l) (okG a l) := by
  unfold spec_l2Good.f okG
  refine Ev.bindo (in_at _ _ _) ?_
  by_cases h : (decide (0 ≤ a) && decide (a ≤ 8)) = true
  · rw [h, Bool.true_and]
    simp at h
    exact Ev.pos rfl (Ev.bind (l2Pairs_ev l a h.1 (by omega) hl) (Ev.now _))
  · have h2 : (decide (0 ≤ a) && decide (a ≤ 8)) = false := by simpa using h
    rw [h2, Bool.false_and]
    exact Ev.neg (by decide) (Ev.now _)
theorem impl_IsGraph_ev (a : Int) (l : List S88) (hl : l.length ≤ 1048576) : Ev (fun k => impl_IsGraph.f k a l) (okG a l) := by
  unfold impl_IsGraph.f okG
  refine Ev.bindo (between_at _ _ _) ?_
  by_cases h : (decide (0 ≤ a) && decide (a ≤ 8)) = true
  · rw [h, Bool.true_and]
    exact Ev.pos rfl (Ev.bind (isPairs_ev l a hl) (Ev.now _))
  · have h2 : (decide (0 ≤ a) && decide (a ≤ 8)) = false := by simpa using h
    rw [h2, Bool.false_and]
    exact Ev.neg (by decide) (Ev.now _)
end Go.Proofs.Ytnlmijnbfdhdkaa.P
namespace Go.Proofs.Ytnlmijnbfdhdkaa.P
open Go.RowKit Go.Proofs.YtnlmijnbfdhdkaaW.PrintWords Go.Proofs.YtnlmijnbfdhdkaaW.PrintLast Go.Proofs.YtnlmijnbfdhdkaaW.PrintMore
set_option linter.unusedVariables false
set_option linter.unusedSimpArgs false

/-! What a valid graph gives. -/
theorem goodP_all (n : Int) (l : List S88) : ∀ p, goodP n p l = true → ∀ e ∈ l, 0 ≤ e.f0 ∧ e.f0 < e.f1 ∧ e.f1 < n := by
  induction l with
  | nil => intro p h e he; simp at he
  | cons x t ih =>
    intro p h e he
    simp only [goodP, Bool.and_eq_true, decide_eq_true_eq] at h
    obtain ⟨⟨⟨h1, h2⟩, h3⟩, h4, h5⟩ := h
    rcases List.mem_cons.1 he with rfl | he
    · exact ⟨h1, h2, h3⟩
    · exact ih _ h5 e he
theorem okG_all {a : Int} {l : List S88} (h : okG a l = true) : 0 ≤ a ∧ a ≤ 8 ∧ ∀ e ∈ l, 0 ≤ e.f0 ∧ e.f0 < e.f1 ∧ e.f1 < a := by
  simp only [okG, Bool.and_eq_true, decide_eq_true_eq] at h
  exact ⟨h.1.1, h.1.2, goodP_all a l none h.2⟩
/-- Two nodes are neighbours. -/
def hasP (l : List S88) (x y : Int) : Bool := l.any fun e => (decide (e.f0 = x) && decide (e.f1 = y)) || (decide (e.f0 = y) && decide (e.f1 = x))
theorem near_loop (a : Int) (l : List S88) (x y : Int) (hl : l.length ≤ 1048576) (d : Nat) : ∀ (m : Nat), l.length - m = d → m ≤ l.length →
    Ev (fun k => spec_l2Near.l0 k x y (m : Int) a l) (hasP (l.drop m) x y) := by
  induction d with
  | zero =>
    intro m h0 h1
    refine Ev.step (fun k => by rw [spec_l2Near.l0]) ?_
    rw [List.drop_eq_nil_of_le (by omega)]
    exact Ev.neg (by omega) (Ev.now _)
  | succ d ih =>
    intro m h0 h1
    have hm : m < l.length := by omega
    refine Ev.step (fun k => by rw [spec_l2Near.l0]) ?_
    refine Ev.pos (by omega) (Ev.pos (by omega) ?_)
    have ihm := ih (m + 1) (by omega) (by omega)
    rw [← wrap_up hm (by omega)] at ihm
    rw [rdT_at l m hm, List.drop_eq_getElem_cons hm]
    simp only [hasP, List.any_cons] at ihm ⊢
    generalize (l.drop (m + 1)).any _ = R at ihm ⊢
    by_cases c1 : l[m].f0 = x
    · refine Ev.pos c1 ?_
      by_cases c2 : l[m].f1 = y
      · refine Ev.pos c2 ?_
        rw [decide_eq_true c1, decide_eq_true c2]
        exact Ev.now _
      · refine Ev.neg c2 ?_
        rw [decide_eq_false c2, Bool.and_false, Bool.false_or]
        by_cases c3 : l[m].f0 = y
        · refine Ev.pos c3 ?_
          by_cases c4 : l[m].f1 = x
          · refine Ev.pos c4 ?_
            rw [decide_eq_true c3, decide_eq_true c4]
            exact Ev.now _
          · refine Ev.neg c4 ?_
            rw [decide_eq_false c4, Bool.and_false, Bool.false_or]
            exact ihm
        · refine Ev.neg c3 ?_
          rw [decide_eq_false c3, Bool.false_and, Bool.false_or]
          exact ihm
    · refine Ev.neg c1 ?_
      rw [decide_eq_false c1, Bool.false_and, Bool.false_or]
      by_cases c3 : l[m].f0 = y
      · refine Ev.pos c3 ?_
        by_cases c4 : l[m].f1 = x
        · refine Ev.pos c4 ?_
          rw [decide_eq_true c3, decide_eq_true c4]
          exact Ev.now _
        · refine Ev.neg c4 ?_
          rw [decide_eq_false c4, Bool.and_false, Bool.false_or]
          exact ihm
      · refine Ev.neg c3 ?_
        rw [decide_eq_false c3, Bool.false_and, Bool.false_or]
        exact ihm
theorem near_ev (a : Int) (l : List S88) (x y : Int) (hl : l.length ≤ 1048576) : Ev (fun k => spec_l2Near.f k a l x y) (hasP l x y) :=
  near_loop a l x y hl l.length 0 (by omega) (Nat.zero_le _)
theorem index_loop (l : List S88) (p q : Int) (hl : l.length ≤ 1048576) (d : Nat) : ∀ (m : Nat), l.length - m = d → m ≤ l.length →
    ∃ i : Int, (decide (i ≥ 0)) = ((l.drop m).any fun e => p == e.f0 && q == e.f1) ∧ Ev (fun k => slices_Index_2_int_2_int.l0 k l (l.length : Int) (m : Int) p q) i := by
  induction d with
  | zero =>
    intro m h0 h1
    refine ⟨-1, by rw [List.drop_eq_nil_of_le (by omega)]; rfl, Ev.step (fun k => by rw [slices_Index_2_int_2_int.l0]) ?_⟩
    exact Ev.neg (by omega) (Ev.now _)
  | succ d ih =>
    intro m h0 h1
    have hm : m < l.length := by omega
    obtain ⟨i, hi, ihm⟩ := ih (m + 1) (by omega) (by omega)
    rw [← wrap_up hm (by omega)] at ihm
    rw [List.drop_eq_getElem_cons hm, List.any_cons, ← hi]
    cases hc : (p == l[m].f0 && q == l[m].f1) with
    | true =>
      refine ⟨(m : Int), by simp, Ev.step (fun k => by rw [slices_Index_2_int_2_int.l0]) ?_⟩
      refine Ev.pos (by omega) (Ev.pos (by omega) (Ev.pos (by omega) ?_))
      rw [rdT_at l m hm]
      exact Ev.pos hc (Ev.now _)
    | false =>
      refine ⟨i, by simp, Ev.step (fun k => by rw [slices_Index_2_int_2_int.l0]) ?_⟩
      refine Ev.pos (by omega) (Ev.pos (by omega) (Ev.pos (by omega) ?_))
      rw [rdT_at l m hm]
      exact Ev.neg (by rw [hc]; decide) ihm
theorem any_congr {α : Type} (l : List α) (f g : α → Bool) (h : ∀ e ∈ l, f e = g e) : l.any f = l.any g := by
  induction l with
  | nil => rfl
  | cons x t ih => rw [List.any_cons, List.any_cons, h x (List.mem_cons_self ..), ih fun e he => h e (List.mem_cons_of_mem _ he)]
theorem has_ev (a : Int) (l : List S88) (x y : Int) (hl : l.length ≤ 1048576) (hu : ∀ e ∈ l, e.f0 < e.f1) : Ev (fun k => impl_Graph_has.f k a l x y) (hasP l x y) := by
  unfold impl_Graph_has.f slices_Contains_2_int_2_int.f slices_Index_2_int_2_int.f
  obtain ⟨i, hi, h⟩ := index_loop l (mn x y) (mx x y) hl l.length 0 (by omega) (Nat.zero_le _)
  refine Ev.bindo rfl ?_
  refine Ev.bind (Ev.bind h (Ev.now _)) ?_
  have : hasP l x y = decide (i ≥ 0) := by
    rw [hi, List.drop_zero]
    unfold hasP
    refine any_congr l _ _ fun e he => ?_
    have := hu e he
    unfold mn mx
    by_cases c : y < x
    · have c2 : ¬ x < y := by omega
      rw [if_pos c, if_neg c2]
      rw [Bool.eq_iff_iff]
      simp only [Bool.or_eq_true, Bool.and_eq_true, decide_eq_true_eq, beq_iff_eq]
      omega
    · rw [if_neg c]
      by_cases c2 : x < y
      · rw [if_pos c2, Bool.eq_iff_iff]
        simp only [Bool.or_eq_true, Bool.and_eq_true, decide_eq_true_eq, beq_iff_eq]
        omega
      · rw [if_neg c2, Bool.eq_iff_iff]
        simp only [Bool.or_eq_true, Bool.and_eq_true, decide_eq_true_eq, beq_iff_eq]
        omega
  rw [this]
  exact Ev.now _
end Go.Proofs.Ytnlmijnbfdhdkaa.P
namespace Go.Proofs.Ytnlmijnbfdhdkaa.P
open Go.RowKit Go.Proofs.YtnlmijnbfdhdkaaW.PrintWords Go.Proofs.YtnlmijnbfdhdkaaW.PrintLast Go.Proofs.YtnlmijnbfdhdkaaW.PrintMore
set_option linter.unusedVariables false

/-- Numbers from lo to hi, strictly ascending behind a first one. -/
def risI (lo hi : Int) : Option Int → List Int → Bool
  | _, [] => true
  | p, x :: t => (decide (lo ≤ x) && decide (x ≤ hi)) && ((match p with | none => true | some q => decide (q < x)) && risI lo hi (some x) t)
def prevI (l : List Int) : Nat → Option Int
  | 0 => none
  | m + 1 => l[m]?
theorem risI_step (l : List Int) (lo hi : Int) (m : Nat) (hm : m < l.length) : risI lo hi (prevI l m) (l.drop m) = ((decide (lo ≤ l[m]) && decide (l[m] ≤ hi)) && ((match prevI l m with | none => true | some q => decide (q < l[m])) && risI lo hi (prevI l (m + 1)) (l.drop (m + 1)))) := by
  rw [List.drop_eq_getElem_cons hm, show prevI l (m + 1) = some l[m] from List.getElem?_eq_getElem hm]
  cases prevI l m <;> rfl
theorem l1Rising_loop (l : List Int) (lo hi : Int) (hl : l.length ≤ 1048576) (d : Nat) : ∀ (m : Nat), l.length - m = d → m ≤ l.length →
    Ev (fun k => spec_l1Rising.l0 k l lo hi (m : Int)) (risI lo hi (prevI l m) (l.drop m)) := by
  induction d with
  | zero =>
    intro m h0 h1
    refine Ev.step (fun k => by rw [spec_l1Rising.l0]) ?_
    rw [List.drop_eq_nil_of_le (by omega)]
    refine Ev.neg (by omega) ?_
    cases prevI l m <;> exact Ev.now _
  | succ d ih =>
    intro m h0 h1
    have hm : m < l.length := by omega
    refine Ev.step (fun k => by rw [spec_l1Rising.l0]) ?_
    rw [risI_step l lo hi m hm]
    refine Ev.pos (by omega) (Ev.pos (by omega) ?_)
    rw [rd_at l m hm]
    have ihm := ih (m + 1) (by omega) (by omega)
    rw [← wrap_up hm (by omega)] at ihm
    generalize risI lo hi (prevI l (m + 1)) (l.drop (m + 1)) = R at ihm ⊢
    refine Ev.bindo (in_at _ _ _) ?_
    cases hc : (decide (lo ≤ l[m]) && decide (l[m] ≤ hi)) with
    | false => rw [Bool.false_and]; exact Ev.neg (by decide) (Ev.now _)
    | true =>
      rw [Bool.true_and]
      refine Ev.pos rfl ?_
      cases m with
      | zero =>
        refine Ev.neg (by omega) ?_
        simp only [prevI, Bool.true_and]
        exact ihm
      | succ q =>
        have hq : q < l.length := by omega
        have hw : wrap64 (((q + 1 : Nat) : Int) - 1) = (q : Int) := by unfold wrap64; omega
        refine Ev.pos (by omega) ?_
        rw [hw]
        refine Ev.pos (by omega) (Ev.pos (by omega) ?_)
        rw [rd_at l q hq]
        simp only [prevI, List.getElem?_eq_getElem hq]
        by_cases c : l[q] ≥ l[q + 1]
        · rw [decide_eq_false (by omega : ¬ l[q] < l[q + 1]), Bool.false_and]
          exact Ev.pos c (Ev.now _)
        · rw [decide_eq_true (by omega : l[q] < l[q + 1]), Bool.true_and]
          exact Ev.neg c ihm
theorem isRising_loop (l : List Int) (n : Int) (hl : l.length ≤ 1048576) (d : Nat) : ∀ (m : Nat), l.length - m = d → m ≤ l.length →
    Ev (fun k => impl_isRising.l0 k l n l (l.length : Int) (m : Int)) (risI 0 (wrap64 (n - 1)) (prevI l m) (l.drop m)) := by
  induction d with
  | zero =>
    intro m h0 h1
    refine Ev.step (fun k => by rw [impl_isRising.l0]) ?_
    rw [List.drop_eq_nil_of_le (by omega)]
    refine Ev.neg (by omega) ?_
    cases prevI l m <;> exact Ev.now _
  | succ d ih =>
    intro m h0 h1
    have hm : m < l.length := by omega
    refine Ev.step (fun k => by rw [impl_isRising.l0]) ?_
    rw [risI_step l 0 (wrap64 (n - 1)) m hm]
    refine Ev.pos (by omega) (Ev.pos (by omega) (Ev.pos (by omega) ?_))
    rw [rd_at l m hm]
    have ihm := ih (m + 1) (by omega) (by omega)
    rw [← wrap_up hm (by omega)] at ihm
    generalize risI 0 (wrap64 (n - 1)) (prevI l (m + 1)) (l.drop (m + 1)) = R at ihm ⊢
    refine Ev.bindo (between_at _ _ _) ?_
    cases hc : (decide (0 ≤ l[m]) && decide (l[m] ≤ wrap64 (n - 1))) with
    | false => rw [Bool.false_and]; exact Ev.neg (by decide) (Ev.now _)
    | true =>
      rw [Bool.true_and]
      refine Ev.pos rfl ?_
      cases m with
      | zero =>
        refine Ev.neg (by omega) ?_
        simp only [prevI, Bool.true_and]
        exact ihm
      | succ q =>
        have hq : q < l.length := by omega
        have hw : wrap64 (((q + 1 : Nat) : Int) - 1) = (q : Int) := by unfold wrap64; omega
        refine Ev.pos (by omega) ?_
        rw [hw]
        refine Ev.pos (by omega) (Ev.pos (by omega) ?_)
        rw [rd_at l q hq]
        simp only [prevI, List.getElem?_eq_getElem hq]
        by_cases c : l[q + 1] ≤ l[q]
        · rw [decide_eq_false (by omega : ¬ l[q] < l[q + 1]), Bool.false_and]
          exact Ev.pos c (Ev.now _)
        · rw [decide_eq_true (by omega : l[q] < l[q + 1]), Bool.true_and]
          exact Ev.neg c ihm
theorem rising_ev (l : List Int) (n : Int) (hl : l.length ≤ 1048576) : Ev (fun k => impl_isRising.f k l n) (risI 0 (wrap64 (n - 1)) none l) :=
  isRising_loop l n hl l.length 0 (by omega) (Nat.zero_le _)
theorem l1Rising_ev (l : List Int) (lo hi : Int) (hl : l.length ≤ 1048576) : Ev (fun k => spec_l1Rising.f k l lo hi) (risI lo hi none l) :=
  l1Rising_loop l lo hi hl l.length 0 (by omega) (Nat.zero_le _)
theorem l2Set_ev (a : Int) (e : List S88) (l : List Int) (hl : l.length ≤ 1048576) : Ev (fun k => spec_l2Set.f k a e l) (risI 0 (wrap64 (a - 1)) none l) := by
  unfold spec_l2Set.f
  exact Ev.bind (l1Rising_ev l _ _ hl) (Ev.now _)
theorem risI_all (lo hi : Int) (l : List Int) : ∀ p, risI lo hi p l = true → ∀ x ∈ l, lo ≤ x ∧ x ≤ hi := by
  induction l with
  | nil => intro p h x hx; simp at hx
  | cons y t ih =>
    intro p h x hx
    simp only [risI, Bool.and_eq_true, decide_eq_true_eq] at h
    rcases List.mem_cons.1 hx with rfl | hx
    · exact h.1
    · exact ih _ h.2.2 x hx
end Go.Proofs.Ytnlmijnbfdhdkaa.P
namespace Go.Proofs.Ytnlmijnbfdhdkaa.P
open Go.RowKit Go.Proofs.YtnlmijnbfdhdkaaW.PrintWords Go.Proofs.YtnlmijnbfdhdkaaW.PrintLast Go.Proofs.YtnlmijnbfdhdkaaW.PrintMore
set_option linter.unusedVariables false

def hasI (b y : Int) : Bool := Go.bits .and .u64 (shr .u64 b y) 1 == 1
def addI (b x : Int) : Int := Go.bits .or .u64 b (shl .u64 1 x)
theorem addI_fin : ∀ b : Fin 256, ∀ x : Fin 8, (0 ≤ addI b x ∧ addI b x < 256) ∧ ∀ y : Fin 8, hasI (addI b x) y = (hasI b y || decide (y = x)) := by decide +kernel
theorem hasI_zero : ∀ y : Fin 8, hasI 0 y = false := by decide +kernel
theorem fin_of {n : Nat} {b : Int} (h : 0 ≤ b) (h2 : b < (n : Int)) : ∃ i : Fin n, b = ((i.val : Nat) : Int) := ⟨⟨b.toNat, by omega⟩, by show b = ((b.toNat : Nat) : Int); omega⟩
theorem addI_at {b x : Int} (hb : 0 ≤ b ∧ b < 256) (hx : 0 ≤ x ∧ x < 8) : (0 ≤ addI b x ∧ addI b x < 256) ∧ ∀ y, 0 ≤ y → y < 8 → hasI (addI b x) y = (hasI b y || decide (y = x)) := by
  obtain ⟨i, rfl⟩ := fin_of (n := 256) hb.1 hb.2
  obtain ⟨j, rfl⟩ := fin_of (n := 8) hx.1 hx.2
  have h := addI_fin i j
  refine ⟨h.1, fun y h0 h8 => ?_⟩
  obtain ⟨q, rfl⟩ := fin_of (n := 8) h0 h8
  rw [h.2 q]
  congr 1
  rw [decide_eq_decide]
  omega
theorem hasI_nil {y : Int} (h0 : 0 ≤ y) (h8 : y < 8) : hasI 0 y = false := by
  obtain ⟨q, rfl⟩ := fin_of (n := 8) h0 h8
  exact hasI_zero q
theorem bag_has_at {b y : Int} (h0 : 0 ≤ y) : impl_bag_has.f b y = some (hasI b y) := by
  unfold impl_bag_has.f
  rw [if_pos h0]
  rfl
/-- What a set's bag is. -/
def bagI (b : Int) (l : List Int) : Int := l.foldl addI b
theorem bagI_at (l : List Int) : ∀ (b : Int), 0 ≤ b ∧ b < 256 → (∀ x ∈ l, 0 ≤ x ∧ x < 8) → (0 ≤ bagI b l ∧ bagI b l < 256) ∧ ∀ y, 0 ≤ y → y < 8 → hasI (bagI b l) y = (hasI b y || decide (y ∈ l)) := by
  induction l with
  | nil => intro b hb _; exact ⟨hb, fun y _ _ => by simp [bagI]⟩
  | cons x t ih =>
    intro b hb hx
    have h1 := addI_at hb (hx x (List.mem_cons_self ..))
    have h2 := ih (addI b x) h1.1 (fun z hz => hx z (List.mem_cons_of_mem _ hz))
    refine ⟨h2.1, fun y h0 h8 => ?_⟩
    have := h2.2 y h0 h8
    rw [show bagI b (x :: t) = bagI (addI b x) t from rfl, this, h1.2 y h0 h8, Bool.or_assoc]
    congr 1
    rw [Bool.eq_iff_iff]
    simp only [Bool.or_eq_true, decide_eq_true_eq, List.mem_cons]
theorem bagOf_loop (l : List Int) (hl : l.length ≤ 1048576) (hx : ∀ x ∈ l, 0 ≤ x ∧ x < 8) (d : Nat) : ∀ (b : Int) (m : Nat), l.length - m = d → m ≤ l.length →
    Ev (fun k => impl_bagOf.l0 k b l (l.length : Int) (m : Int)) (bagI b (l.drop m)) := by
  induction d with
  | zero =>
    intro b m h0 h1
    refine Ev.step (fun k => by rw [impl_bagOf.l0]) (Ev.neg (by omega) ?_)
    rw [List.drop_eq_nil_of_le (by omega)]
    exact Ev.now _
  | succ d ih =>
    intro b m h0 h1
    have hm : m < l.length := by omega
    have := hx l[m] (List.getElem_mem hm)
    refine Ev.step (fun k => by rw [impl_bagOf.l0]) (Ev.pos (by omega) (Ev.pos (by omega) (Ev.pos (by omega) ?_)))
    rw [rd_at l m hm, List.drop_eq_getElem_cons hm, wrap_up hm (by omega)]
    exact Ev.pos this.1 (ih _ (m + 1) (by omega) (by omega))
theorem bagOf_ev (l : List Int) (hl : l.length ≤ 1048576) (hx : ∀ x ∈ l, 0 ≤ x ∧ x < 8) : Ev (fun k => impl_bagOf.f k l) (bagI 0 l) :=
  bagOf_loop l hl hx l.length 0 0 (by omega) (Nat.zero_le _)
end Go.Proofs.Ytnlmijnbfdhdkaa.P
namespace Go.Proofs.Ytnlmijnbfdhdkaa.P
open Go.RowKit Go.Proofs.YtnlmijnbfdhdkaaW.PrintWords Go.Proofs.YtnlmijnbfdhdkaaW.PrintLast Go.Proofs.YtnlmijnbfdhdkaaW.PrintMore
set_option linter.unusedVariables false

section
variable (a : Int) (e : List S88) (l : List Int) (he : e.length ≤ 1048576) (hl : l.length ≤ 1048576)
include he hl
end
/-- No edge has both nodes in the set. -/
def freeI (e : List S88) (l : List Int) : Bool := !(e.any fun s => decide (s.f0 ∈ l) && decide (s.f1 ∈ l))
theorem hasP_iff (e : List S88) (x y : Int) : hasP e x y = true ↔ ∃ s ∈ e, (s.f0 = x ∧ s.f1 = y) ∨ (s.f0 = y ∧ s.f1 = x) := by
  unfold hasP
  rw [List.any_eq_true]
  simp only [Bool.or_eq_true, Bool.and_eq_true, decide_eq_true_eq]
theorem isFree_at (a : Int) (e : List S88) (b : Int) (l : List Int) (he : ∀ s ∈ e, 0 ≤ s.f0 ∧ s.f0 < s.f1 ∧ s.f1 < 8) (hb : ∀ y, 0 ≤ y → y < 8 → hasI b y = decide (y ∈ l)) : impl_Graph_isFree.f a e b = some (freeI e l) := by
  unfold impl_Graph_isFree.f
  have h1 : e.all (fun s => (impl_bag_has.f b s.f0).isSome && (impl_bag_has.f b s.f1).isSome) = true := by
    rw [List.all_eq_true]
    intro s hs
    have := he s hs
    rw [bag_has_at (by omega), bag_has_at (by omega)]
    rfl
  rw [if_pos h1]
  unfold freeI
  congr 2
  refine any_congr e _ _ fun s hs => ?_
  have := he s hs
  unfold bothB
  rw [bag_has_at (by omega), bag_has_at (by omega), Option.getD_some, Option.getD_some, hb _ (by omega) (by omega), hb _ (by omega) (by omega)]
end Go.Proofs.Ytnlmijnbfdhdkaa.P
namespace Go.Proofs.Ytnlmijnbfdhdkaa.P
open Go.RowKit Go.Proofs.YtnlmijnbfdhdkaaW.PrintWords Go.Proofs.YtnlmijnbfdhdkaaW.PrintLast Go.Proofs.YtnlmijnbfdhdkaaW.PrintMore
set_option linter.unusedVariables false

def nbs (l : List S88) (x : Int) : Nat → Int → List Int
  | 0, _ => []
  | d + 1, y => (if hasP l x y = true then [y] else []) ++ nbs l x d (y + 1)
theorem nbs_len (l : List S88) (x : Int) (d : Nat) : ∀ y, (nbs l x d y).length ≤ d := by
  induction d with
  | zero => intro y; simp [nbs]
  | succ d ih =>
    intro y
    have := ih (y + 1)
    simp only [nbs, List.length_append]
    split <;> simp only [List.length_nil, List.length_cons] <;> omega
theorem hasP_self (l : List S88) (x : Int) (hu : ∀ e ∈ l, e.f0 < e.f1) : hasP l x x = false := by
  unfold hasP
  rw [List.any_eq_false]
  intro e he
  have := hu e he
  simp only [Bool.or_eq_true, Bool.and_eq_true, decide_eq_true_eq]
  omega
section
variable (a : Int) (l : List S88) (hl : l.length ≤ 1048576) (h8 : a ≤ 8) (x : Int)
include hl h8
variable (hu : ∀ e ∈ l, e.f0 < e.f1)
include hu
theorem iNbs_loop (d : Nat) : ∀ (y : Int) (acc : List Int), (a - y).toNat = d → 0 ≤ y → acc.length + d ≤ 1000 →
    Ev (fun k => impl_Graph_neighbors.l0 k x acc a y a l) (acc ++ nbs l x d y) := by
  induction d with
  | zero =>
    intro y acc h0 h1 h2
    refine Ev.step (fun k => by rw [impl_Graph_neighbors.l0]) (Ev.neg (by omega) ?_)
    simp only [nbs, List.append_nil]
    exact Ev.now _
  | succ d ih =>
    intro y acc h0 h1 h2
    refine Ev.step (fun k => by rw [impl_Graph_neighbors.l0]) (Ev.pos (by omega) ?_)
    have hw : wrap64 (y + 1) = y + 1 := wrap_nat (by omega) (by omega)
    rw [hw, nbs]
    by_cases cx : y = x
    · have c : ¬ hasP l x y = true := by rw [cx, hasP_self l x hu]; decide
      rw [if_neg c, List.nil_append]
      exact Ev.pos cx (ih (y + 1) acc (by omega) (by omega) (by omega))
    · refine Ev.neg cx (Ev.bind (has_ev a l x y hl hu) ?_)
      by_cases c : hasP l x y = true
      · refine Ev.pos c (Ev.pos (by omega) ?_)
        rw [if_pos c, ← List.append_assoc]
        exact ih (y + 1) _ (by omega) (by omega) (by rw [List.length_append, List.length_singleton]; omega)
      · rw [if_neg c, List.nil_append]
        exact Ev.neg c (ih (y + 1) acc (by omega) (by omega) (by omega))
end
theorem neighbors_ev (a : Int) (l : List S88) (x : Int) (hl : l.length ≤ 1048576) (h8 : a ≤ 8) (hu : ∀ e ∈ l, e.f0 < e.f1) : Ev (fun k => impl_Graph_neighbors.f k a l x) (nbs l x a.toNat 0) := by
  unfold impl_Graph_neighbors.f
  have := iNbs_loop a l hl h8 x hu a.toNat 0 [] (by omega) (by omega) (by simp; omega)
  simpa only [List.nil_append] using this
end Go.Proofs.Ytnlmijnbfdhdkaa.P
namespace Go.Proofs.Ytnlmijnbfdhdkaa.P
open Go.RowKit Go.Proofs.YtnlmijnbfdhdkaaW.PrintWords Go.Proofs.YtnlmijnbfdhdkaaW.PrintLast Go.Proofs.YtnlmijnbfdhdkaaW.PrintMore
set_option linter.unusedVariables false

theorem l1Has_loop (l : List Int) (x : Int) (hl : l.length ≤ 1048576) (d : Nat) : ∀ (m : Nat), l.length - m = d → m ≤ l.length → Ev (fun k => spec_l1Has.l0 k l x (m : Int)) (decide (x ∈ l.drop m)) := by
  induction d with
  | zero =>
    intro m h0 h1
    refine Ev.step (fun k => by rw [spec_l1Has.l0]) (Ev.neg (by omega) ?_)
    rw [List.drop_eq_nil_of_le (by omega), decide_eq_false (by simp)]
    exact Ev.now _
  | succ d ih =>
    intro m h0 h1
    have hm : m < l.length := by omega
    refine Ev.step (fun k => by rw [spec_l1Has.l0]) (Ev.pos (by omega) (Ev.pos (by omega) ?_))
    rw [rd_at l m hm, List.drop_eq_getElem_cons hm, wrap_up hm (by omega)]
    by_cases c : l[m] = x
    · rw [decide_eq_true (by rw [c]; exact List.mem_cons_self ..)]
      exact Ev.pos c (Ev.now _)
    · have h := ih (m + 1) (by omega) (by omega)
      rw [show decide (x ∈ l[m] :: l.drop (m + 1)) = decide (x ∈ l.drop (m + 1)) from by
        rw [decide_eq_decide, List.mem_cons]
        exact ⟨fun h => h.resolve_left (fun h => c h.symm), .inr⟩]
      exact Ev.neg c h
theorem l1Has_ev (l : List Int) (x : Int) (hl : l.length ≤ 1048576) : Ev (fun k => spec_l1Has.f k l x) (decide (x ∈ l)) := by
  have := l1Has_loop l x hl l.length 0 (by omega) (Nat.zero_le _)
  unfold spec_l1Has.f
  simpa only [List.drop_zero, Int.natCast_zero] using this
/-- The numbers of a row of d from y on that pass. -/
def selI (f : Int → Bool) : Nat → Int → List Int
  | 0, _ => []
  | d + 1, y => (if f y = true then [y] else []) ++ selI f d (y + 1)
theorem selI_congr (f g : Int → Bool) (d : Nat) : ∀ y, (∀ z, y ≤ z → z < y + (d : Int) → f z = g z) → selI f d y = selI g d y := by
  induction d with
  | zero => intro y _; rfl
  | succ d ih =>
    intro y h
    simp only [selI]
    rw [h y (by omega) (by omega), ih (y + 1) (fun z h1 h2 => h z (by omega) (by omega))]
theorem selI_none (f : Int → Bool) (d : Nat) : ∀ y, (∀ z, y ≤ z → z < y + (d : Int) → f z = false) → selI f d y = [] := by
  induction d with
  | zero => intro y _; rfl
  | succ d ih =>
    intro y h
    simp only [selI]
    rw [h y (by omega) (by omega), ih (y + 1) (fun z h1 h2 => h z (by omega) (by omega))]
    rfl
theorem selI_mem (f : Int → Bool) (d : Nat) : ∀ y z, z ∈ selI f d y ↔ (y ≤ z ∧ z < y + (d : Int)) ∧ f z = true := by
  induction d with
  | zero => intro y z; simp only [selI, List.not_mem_nil, false_iff]; omega
  | succ d ih =>
    intro y z
    simp only [selI, List.mem_append, ih]
    by_cases c : f y = true
    · rw [if_pos c, List.mem_singleton]
      constructor
      · rintro (rfl | h)
        · exact ⟨by omega, c⟩
        · exact ⟨by omega, h.2⟩
      · rintro ⟨h, hf⟩
        by_cases hz : z = y
        · exact .inl hz
        · exact .inr ⟨by omega, hf⟩
    · rw [if_neg c]
      constructor
      · rintro (h | h)
        · simp at h
        · exact ⟨by omega, h.2⟩
      · rintro ⟨h, hf⟩
        by_cases hz : z = y
        · subst hz; exact absurd hf c
        · exact .inr ⟨by omega, hf⟩
def allI (n : Int) : Int := IntKind.u64.wrap ((shl .u64 1 n) - 1)
def lessI (b c : Int) : Int := Go.bits .andNot .u64 b c
theorem lessI_fin : ∀ n : Fin 9, ∀ b : Fin 256, (0 ≤ lessI (allI n) b ∧ lessI (allI n) b < 256) ∧ ∀ y : Fin 8, hasI (lessI (allI n) b) y = (decide (y.val < n.val) && !hasI b y) := by decide +kernel
theorem lessI_at {n b : Int} (hn : 0 ≤ n ∧ n ≤ 8) (hb : 0 ≤ b ∧ b < 256) : (0 ≤ lessI (allI n) b ∧ lessI (allI n) b < 256) ∧ ∀ y, 0 ≤ y → y < 8 → hasI (lessI (allI n) b) y = (decide (y < n) && !hasI b y) := by
  obtain ⟨i, rfl⟩ := fin_of (n := 9) hn.1 (by omega)
  obtain ⟨j, rfl⟩ := fin_of (n := 256) hb.1 hb.2
  have h := lessI_fin i j
  refine ⟨h.1, fun y h0 h8 => ?_⟩
  obtain ⟨q, rfl⟩ := fin_of (n := 8) h0 h8
  rw [h.2 q]
  congr 1
  rw [decide_eq_decide]
  omega
theorem bag_list_loop (b : Int) (d : Nat) : ∀ (y : Int) (acc : List Int), (8 - y).toNat = d → 0 ≤ y → acc.length + d ≤ 1000 → Ev (fun k => impl_bag_list.l0 k b acc y) (acc ++ selI (hasI b) d y) := by
  induction d with
  | zero =>
    intro y acc h0 h1 h2
    refine Ev.step (fun k => by rw [impl_bag_list.l0]) (Ev.neg (by omega) ?_)
    simp only [selI, List.append_nil]
    exact Ev.now _
  | succ d ih =>
    intro y acc h0 h1 h2
    refine Ev.step (fun k => by rw [impl_bag_list.l0]) (Ev.pos (by omega) (Ev.pos (by omega) ?_))
    have hw : wrap64 (y + 1) = y + 1 := wrap_nat (by omega) (by omega)
    rw [hw, selI]
    by_cases c : hasI b y = true
    · rw [if_pos c, ← List.append_assoc]
      refine Ev.pos (by simpa only [hasI, beq_iff_eq] using c) (Ev.pos (by omega) ?_)
      exact ih (y + 1) _ (by omega) (by omega) (by rw [List.length_append, List.length_singleton]; omega)
    · rw [if_neg c, List.nil_append]
      exact Ev.neg (by simpa only [hasI, beq_iff_eq] using c) (ih (y + 1) acc (by omega) (by omega) (by omega))
theorem bag_list_ev (b : Int) : Ev (fun k => impl_bag_list.f k b) (selI (hasI b) 8 0) := by
  unfold impl_bag_list.f
  have := bag_list_loop b 8 0 [] (by omega) (by omega) (by simp)
  simpa only [List.nil_append] using this
theorem set_small {a : Int} {e : List S88} {l : List Int} (h : okG a e = true) (c : risI 0 (wrap64 (a - 1)) none l = true) : ∀ x ∈ l, 0 ≤ x ∧ x < 8 := fun x hx => by
  have h1 := okG_all h
  have hw : wrap64 (a - 1) = a - 1 := wrap_nat (by omega) (by omega)
  have := risI_all _ _ l none c x hx
  omega
end Go.Proofs.Ytnlmijnbfdhdkaa.P
namespace Go.Proofs.Ytnlmijnbfdhdkaa.P
open Go.RowKit Go.Proofs.YtnlmijnbfdhdkaaW.PrintWords Go.Proofs.YtnlmijnbfdhdkaaW.PrintLast Go.Proofs.YtnlmijnbfdhdkaaW.PrintMore
set_option linter.unusedVariables false

/-! What two bags have in common. -/
theorem wraps8 (n : Int) (h0 : 0 ≤ n) (h1 : n < 2 ^ 8) : IntKind.u64.wrap n = n := by
  simp [IntKind.wrap, IntKind.bits, IntKind.signed]
  omega
theorem hasI_bit (n y : Nat) (hn : n < 256) (hy : y < 8) : hasI (n : Int) (y : Int) = n.testBit y := by
  unfold hasI shr
  have e : (n : Int) / 2 ^ min (y : Int).toNat IntKind.u64.bits = ((n / 2 ^ y : Nat) : Int) := by
    rw [Int.toNat_natCast, Nat.min_eq_left (by show y ≤ 64; omega)]
    simp
  rw [e, show (1 : Int) = ((1 : Nat) : Int) from rfl, (bits_nat .u64 8 (by decide) wraps8 (n / 2 ^ y) 1 (Nat.lt_of_le_of_lt (Nat.div_le_self _ _) hn) (by decide)).1, Nat.and_one_is_mod, Nat.testBit_eq_decide_div_mod_eq, Bool.eq_iff_iff, beq_iff_eq, decide_eq_true_eq]
  omega
theorem andI_zero {b c : Int} (hb : 0 ≤ b ∧ b < 256) (hc : 0 ≤ c ∧ c < 256) : Go.bits .and .u64 b c = 0 ↔ ∀ y : Int, 0 ≤ y → y < 8 → ¬ (hasI b y = true ∧ hasI c y = true) := by
  obtain ⟨n, rfl⟩ := Int.eq_ofNat_of_zero_le hb.1
  obtain ⟨m, rfl⟩ := Int.eq_ofNat_of_zero_le hc.1
  have hn : n < 256 := by omega
  have hm : m < 256 := by omega
  rw [(bits_nat .u64 8 (by decide) wraps8 n m hn hm).1]
  constructor
  · intro h y h0 h8 hh
    obtain ⟨q, rfl⟩ := Int.eq_ofNat_of_zero_le h0
    rw [hasI_bit n q hn (by omega), hasI_bit m q hm (by omega)] at hh
    have h1 : n &&& m = 0 := by omega
    have := Nat.testBit_and n m q
    rw [h1, hh.1, hh.2, Nat.zero_testBit] at this
    simp at this
  · intro h
    have : n &&& m = 0 := by
      refine Nat.eq_of_testBit_eq fun q => ?_
      rw [Nat.testBit_and, Nat.zero_testBit]
      by_cases hq : q < 8
      · have := h (q : Int) (by omega) (by omega)
        rw [hasI_bit n q hn hq, hasI_bit m q hm hq] at this
        cases h1 : n.testBit q <;> cases h2 : m.testBit q <;> simp_all
      · rw [Nat.testBit_lt_two_pow (i := q) (x := n) (Nat.lt_of_lt_of_le hn (by show 2 ^ 8 ≤ 2 ^ q; exact Nat.pow_le_pow_right (by decide) (by omega))), Bool.false_and]
    rw [this]
    rfl
/-! A cover. -/
def coverI (e : List S88) (l : List Int) : Bool := e.all fun s => decide (s.f0 ∈ l) || decide (s.f1 ∈ l)
theorem cover_loop (a : Int) (e : List S88) (l : List Int) (he : e.length ≤ 1048576) (hl : l.length ≤ 1048576) (d : Nat) : ∀ (m : Nat), e.length - m = d → m ≤ e.length → Ev (fun k => spec_l4Has.l0 k l (m : Int) a e) (coverI (e.drop m) l) := by
  induction d with
  | zero =>
    intro m h0 h1
    refine Ev.step (fun k => by rw [spec_l4Has.l0]) (Ev.neg (by omega) ?_)
    rw [List.drop_eq_nil_of_le (by omega)]
    exact Ev.now _
  | succ d ih =>
    intro m h0 h1
    have hm : m < e.length := by omega
    have ihm := ih (m + 1) (by omega) (by omega)
    rw [← wrap_up hm (by omega)] at ihm
    refine Ev.step (fun k => by rw [spec_l4Has.l0]) (Ev.pos (by omega) (Ev.pos (by omega) ?_))
    rw [rdT_at e m hm, List.drop_eq_getElem_cons hm]
    unfold coverI at ihm ⊢
    rw [List.all_cons]
    refine Ev.bind (l1Has_ev l _ hl) ?_
    by_cases c : e[m].f0 ∈ l
    · rw [decide_eq_true c, Bool.true_or, Bool.true_and]
      exact Ev.pos rfl ihm
    · rw [decide_eq_false c, Bool.false_or]
      refine Ev.neg (by decide) (Ev.bind (l1Has_ev l _ hl) ?_)
      by_cases c2 : e[m].f1 ∈ l
      · rw [decide_eq_true c2, Bool.true_and]
        exact Ev.pos rfl ihm
      · rw [decide_eq_false c2, Bool.false_and]
        exact Ev.neg (by decide) (Ev.now _)
theorem cover_free {a : Int} {e : List S88} {l : List Int} (hg : okG a e = true) (hx : ∀ x ∈ l, 0 ≤ x ∧ x < 8) : impl_Graph_isFree.f a e (lessI (allI a) (bagI 0 l)) = some (coverI e l) := by
  have h1 := okG_all hg
  have hb := bagI_at l 0 (by omega) hx
  have hc := lessI_at (n := a) ⟨h1.1, h1.2.1⟩ hb.1
  have hv : ∀ y, 0 ≤ y → y < 8 → hasI (lessI (allI a) (bagI 0 l)) y = (decide (y < a) && !decide (y ∈ l)) := fun y h1 h2 => by rw [hc.2 y h1 h2, hb.2 y h1 h2, hasI_nil h1 h2, Bool.false_or]
  rw [isFree_at a e _ (selI (fun z => !decide (z ∈ l)) a.toNat 0) (fun s hs => by have := h1.2.2 s hs; omega) (fun y h0 h8 => ?_)]
  · congr 1
    unfold freeI coverI
    rw [Bool.eq_iff_iff, Bool.not_eq_true', List.any_eq_false, List.all_eq_true]
    refine forall_congr' fun s => forall_congr' fun hs => ?_
    have h2 := h1.2.2 s hs
    simp only [Bool.and_eq_true, decide_eq_true_eq, selI_mem, Bool.not_eq_true', decide_eq_false_iff_not, Bool.or_eq_true]
    by_cases c1 : s.f0 ∈ l
    · simp [c1]
    · by_cases c2 : s.f1 ∈ l
      · simp [c2]
      · simp only [c1, c2, not_false_eq_true, and_true, or_self, iff_false, Classical.not_not]
        omega
  · rw [hv y h0 h8, Bool.eq_iff_iff, decide_eq_true_eq, selI_mem, Bool.and_eq_true, decide_eq_true_eq]
    refine and_congr_left fun _ => ?_
    omega
/-! A clique. -/
def cliN (e : List S88) (l : List Int) : Nat → Nat → Bool
  | 0, _ => true
  | d + 1, i => if (l.take i).all (fun y => hasP e (l[i]?.getD 0) y) = true then cliN e l d (i + 1) else false
section
variable (a : Int) (e : List S88) (l : List Int) (he : e.length ≤ 1048576) (hl : l.length ≤ 1048576)
include he hl
theorem sCli_row {R : Bool} (i : Nat) (hi : i < l.length) (d : Nat) : ∀ (j : Nat), i - j = d → j ≤ i → Ev (fun k => spec_l4Has.l1 k l (wrap64 ((i : Int) + 1)) a e) R →
    Ev (fun k => spec_l4Has.l2 k l (i : Int) (j : Int) a e) (if ((l.take i).drop j).all (fun y => hasP e (l[i]?.getD 0) y) = true then R else false) := by
  induction d with
  | zero =>
    intro j h0 h1 h
    refine Ev.step (fun k => by rw [spec_l4Has.l2]) (Ev.neg (by omega) ?_)
    rw [List.drop_eq_nil_of_le (by rw [List.length_take]; omega), List.all_nil, if_pos rfl]
    exact h
  | succ d ih =>
    intro j h0 h1 h
    have hj : j < l.length := by omega
    refine Ev.step (fun k => by rw [spec_l4Has.l2]) (Ev.pos (by omega) (Ev.pos (by omega) (Ev.pos (by omega) (Ev.pos (by omega) (Ev.pos (by omega) ?_)))))
    rw [rd_at l j hj, rd_at l i hi]
    refine Ev.bind (near_ev a e l[i] l[j] he) ?_
    have hd : (l.take i).drop j = l[j] :: (l.take i).drop (j + 1) := by
      rw [List.drop_eq_getElem_cons (by rw [List.length_take]; omega), List.getElem_take]
    rw [hd, List.all_cons, List.getElem?_eq_getElem hi, Option.getD_some]
    have := ih (j + 1) (by omega) (by omega) h
    rw [List.getElem?_eq_getElem hi, Option.getD_some] at this
    cases c : hasP e l[i] l[j] with
    | true => rw [Bool.true_and, wrap_up hj (by omega)]; exact Ev.pos rfl this
    | false => rw [Bool.false_and, if_neg (by decide : ¬ false = true)]; exact Ev.neg (by decide) (Ev.now _)
theorem sCli_loop (d : Nat) : ∀ (i : Nat), l.length - i = d → i ≤ l.length → Ev (fun k => spec_l4Has.l1 k l (i : Int) a e) (cliN e l d i) := by
  induction d with
  | zero =>
    intro i h0 h1
    refine Ev.step (fun k => by rw [spec_l4Has.l1]) (Ev.neg (by omega) ?_)
    exact Ev.now _
  | succ d ih =>
    intro i h0 h1
    have hi : i < l.length := by omega
    refine Ev.step (fun k => by rw [spec_l4Has.l1]) (Ev.pos (by omega) ?_)
    have h := ih (i + 1) (by omega) (by omega)
    rw [← wrap_up hi (by omega)] at h
    have := sCli_row a e l he hl i hi i 0 (by omega) (by omega) h
    simpa only [List.drop_zero, cliN, Int.natCast_zero] using this
variable (hu : ∀ s ∈ e, s.f0 < s.f1)
include hu
theorem iCli_row {R : Bool} (i : Nat) (hi : i < l.length) (d : Nat) : ∀ (j : Nat), i - j = d → j ≤ i → Ev (fun k => impl_Graph_hasKind.l0 k l l (l.length : Int) (wrap64 ((i : Int) + 1)) a e) R →
    Ev (fun k => impl_Graph_hasKind.l1 k l l[i] l (l.length : Int) (i : Int) (l.take i) ((l.take i).length : Int) (j : Int) a e) (if ((l.take i).drop j).all (fun y => hasP e (l[i]?.getD 0) y) = true then R else false) := by
  have ht : (l.take i).length = i := by rw [List.length_take]; omega
  induction d with
  | zero =>
    intro j h0 h1 h
    refine Ev.step (fun k => by rw [impl_Graph_hasKind.l1]) (Ev.neg (by omega) ?_)
    rw [List.drop_eq_nil_of_le (by rw [List.length_take]; omega), List.all_nil, if_pos rfl]
    exact h
  | succ d ih =>
    intro j h0 h1 h
    have hj : j < l.length := by omega
    have hj2 : j < (l.take i).length := by omega
    refine Ev.step (fun k => by rw [impl_Graph_hasKind.l1]) (Ev.pos (by omega) (Ev.pos (by omega) (Ev.pos (by omega) ?_)))
    rw [rd_at (l.take i) j hj2, List.getElem_take]
    refine Ev.bind (has_ev a e l[i] l[j] he hu) ?_
    have hd : (l.take i).drop j = l[j] :: (l.take i).drop (j + 1) := by
      rw [List.drop_eq_getElem_cons hj2, List.getElem_take]
    rw [hd, List.all_cons, List.getElem?_eq_getElem hi, Option.getD_some]
    have := ih (j + 1) (by omega) (by omega) h
    rw [List.getElem?_eq_getElem hi, Option.getD_some] at this
    cases c : hasP e l[i] l[j] with
    | true => rw [Bool.true_and, wrap_up hj (by omega)]; exact Ev.pos rfl this
    | false => rw [Bool.false_and, if_neg (by decide : ¬ false = true)]; exact Ev.neg (by decide) (Ev.now _)
theorem iCli_loop (d : Nat) : ∀ (i : Nat), l.length - i = d → i ≤ l.length → Ev (fun k => impl_Graph_hasKind.l0 k l l (l.length : Int) (i : Int) a e) (cliN e l d i) := by
  induction d with
  | zero =>
    intro i h0 h1
    refine Ev.step (fun k => by rw [impl_Graph_hasKind.l0]) (Ev.neg (by omega) ?_)
    exact Ev.now _
  | succ d ih =>
    intro i h0 h1
    have hi : i < l.length := by omega
    refine Ev.step (fun k => by rw [impl_Graph_hasKind.l0]) (Ev.pos (by omega) (Ev.pos (by omega) (Ev.pos (by omega) (Ev.pos (by omega) ?_))))
    have h := ih (i + 1) (by omega) (by omega)
    rw [← wrap_up hi (by omega)] at h
    have := iCli_row a e l he hl hu i hi i 0 (by omega) (by omega) h
    rw [rd_at l i hi, Int.toNat_natCast]
    refine Ev.bindo rfl ?_
    simpa only [List.drop_zero, cliN, Int.natCast_zero] using this
end
/-- A rising list of small numbers is what its bag lists. -/
theorem ris_list (l : List Int) : ∀ (d : Nat) (p : Option Int) (y : Int), risI 0 7 p l = true → y + (d : Int) = 8 → 0 ≤ y → (∀ x ∈ l, y ≤ x) → selI (fun z => decide (z ∈ l)) d y = l := by
  induction l with
  | nil =>
    intro d p y h hd h0 hy
    exact selI_none _ d y (fun z _ _ => by simp)
  | cons x t ih =>
    intro d
    induction d with
    | zero =>
      intro p y h hd h0 hy
      have h1 := risI_all 0 7 (x :: t) p h x (List.mem_cons_self ..)
      have h2 := hy x (List.mem_cons_self ..)
      omega
    | succ d ihd =>
      intro p y h hd h0 hy
      have hx := hy x (List.mem_cons_self ..)
      have h' := h
      simp only [risI, Bool.and_eq_true, decide_eq_true_eq] at h'
      have ht : ∀ z ∈ t, x < z := by
        have h3 := h'.2.2
        have : ∀ (t : List Int) (q : Int), risI 0 7 (some q) t = true → ∀ z ∈ t, q < z := by
          intro t
          induction t with
          | nil => intro q _ z hz; simp at hz
          | cons w t ih =>
            intro q h z hz
            simp only [risI, Bool.and_eq_true, decide_eq_true_eq] at h
            rcases List.mem_cons.1 hz with rfl | hz
            · exact h.2.1
            · have := ih w h.2.2 z hz
              omega
        exact this t x h3
      by_cases c : y = x
      · subst c
        simp only [selI]
        rw [if_pos (by simp), List.singleton_append]
        congr 1
        have hcon : selI (fun z => decide (z ∈ y :: t)) d (y + 1) = selI (fun z => decide (z ∈ t)) d (y + 1) := selI_congr _ _ _ _ fun z h1 h2 => by
          rw [decide_eq_decide, List.mem_cons]
          exact ⟨fun h => h.resolve_left (by omega), .inr⟩
        rw [hcon]
        exact ih d (some y) (y + 1) h'.2.2 (by omega) (by omega) (fun z hz => by have := ht z hz; omega)
      · have hnot : ¬ y ∈ x :: t := by
          rw [List.mem_cons]
          rintro (hh | hh)
          · exact c hh
          · have := ht y hh
            omega
        simp only [selI]
        rw [if_neg (by simpa using hnot), List.nil_append]
        exact ihd p (y + 1) h (by omega) (by omega) (fun z hz => by
          rcases List.mem_cons.1 hz with rfl | hz
          · omega
          · have := ht z hz
            omega)
theorem bag_list_self {l : List Int} (h : risI 0 7 none l = true) : selI (hasI (bagI 0 l)) 8 0 = l := by
  have hx : ∀ x ∈ l, 0 ≤ x ∧ x < 8 := fun x hx => by have := risI_all 0 7 l none h x hx; omega
  have hb := (bagI_at l 0 (by omega) hx).2
  rw [selI_congr (hasI (bagI 0 l)) (fun z => decide (z ∈ l)) 8 0 (fun z h1 h2 => by rw [hb z h1 (by omega), hasI_nil h1 (by omega), Bool.false_or])]
  exact ris_list l 8 none 0 h (by decide) (by decide) (fun x hh => (hx x hh).1)
theorem risI_wide {n : Int} (hn : n ≤ 7) (l : List Int) : ∀ p, risI 0 n p l = true → risI 0 7 p l = true := by
  induction l with
  | nil => intro p _; cases p <;> rfl
  | cons x t ih =>
    intro p h
    simp only [risI, Bool.and_eq_true, decide_eq_true_eq] at h ⊢
    exact ⟨by omega, h.2.1, ih _ h.2.2⟩
/-! A dominating set. -/
theorem hasP_comm (e : List S88) (x y : Int) : hasP e x y = hasP e y x := by
  unfold hasP
  refine any_congr e _ _ fun s hs => ?_
  rw [Bool.or_comm]
def domN (e : List S88) (l : List Int) : Nat → Int → Bool
  | 0, _ => true
  | d + 1, x => if (decide (x ∈ l) || l.any fun y => hasP e y x) = true then domN e l d (x + 1) else false
section
variable (a : Int) (e : List S88) (l : List Int) (he : e.length ≤ 1048576) (hl : l.length ≤ 1048576) (h8 : a ≤ 8)
include he hl
theorem sDom_row {R : Bool} (x : Int) (d : Nat) : ∀ (m : Nat) (b : Bool), l.length - m = d → m ≤ l.length → Ev (fun k => spec_l4Has.l3 k l (wrap64 (x + 1)) a e) R →
    Ev (fun k => spec_l4Has.l4 k l x b (m : Int) a e) (if (b || (l.drop m).any fun y => hasP e y x) = true then R else false) := by
  induction d with
  | zero =>
    intro m b h0 h1 h
    refine Ev.step (fun k => by rw [spec_l4Has.l4]) (Ev.neg (by omega) ?_)
    rw [List.drop_eq_nil_of_le (by omega), List.any_nil, Bool.or_false]
    cases b with
    | true => rw [if_pos rfl]; exact Ev.pos rfl h
    | false => rw [if_neg (by decide : ¬ false = true)]; exact Ev.neg (by decide) (Ev.now _)
  | succ d ih =>
    intro m b h0 h1 h
    have hm : m < l.length := by omega
    refine Ev.step (fun k => by rw [spec_l4Has.l4]) (Ev.pos (by omega) ?_)
    rw [wrap_up hm (by omega), List.drop_eq_getElem_cons hm, List.any_cons]
    cases b with
    | true =>
      have := ih (m + 1) true (by omega) (by omega) h
      rw [Bool.true_or] at this ⊢
      exact Ev.pos rfl this
    | false =>
      refine Ev.neg (by decide) (Ev.pos (by omega) ?_)
      rw [rd_at l m hm, Bool.false_or]
      exact Ev.bind (near_ev a e l[m] x he) (ih (m + 1) _ (by omega) (by omega) h)
include h8
theorem sDom_loop (d : Nat) : ∀ (x : Int), (a - x).toNat = d → 0 ≤ x → Ev (fun k => spec_l4Has.l3 k l x a e) (domN e l d x) := by
  induction d with
  | zero =>
    intro x h0 h1
    refine Ev.step (fun k => by rw [spec_l4Has.l3]) (Ev.neg (by omega) ?_)
    exact Ev.now _
  | succ d ih =>
    intro x h0 h1
    have hw : wrap64 (x + 1) = x + 1 := wrap_nat (by omega) (by omega)
    refine Ev.step (fun k => by rw [spec_l4Has.l3]) (Ev.pos (by omega) (Ev.bind (l1Has_ev l x hl) ?_))
    have h := ih (x + 1) (by omega) (by omega)
    rw [← hw] at h
    have := sDom_row a e l he hl x l.length 0 (decide (x ∈ l)) (by omega) (Nat.zero_le _) h
    rw [hw] at this
    simpa only [List.drop_zero, domN, Int.natCast_zero] using this
end
section
variable (a : Int) (e : List S88) (l : List Int) (he : e.length ≤ 1048576) (h8 : a ≤ 8) (hg : okG a e = true) (hx : ∀ x ∈ l, 0 ≤ x ∧ x < 8)
include he h8 hg hx
theorem iDom_loop (d : Nat) : ∀ (x : Int), (a - x).toNat = d → 0 ≤ x → Ev (fun k => impl_Graph_hasKind.l2 k (bagI 0 l) a x a e) (domN e l d x) := by
  have h2 := okG_all hg
  have hu : ∀ s ∈ e, s.f0 < s.f1 := fun s hs => (h2.2.2 s hs).2.1
  have hb := bagI_at l 0 (by omega) hx
  induction d with
  | zero =>
    intro x h0 h1
    refine Ev.step (fun k => by rw [impl_Graph_hasKind.l2]) (Ev.neg (by omega) ?_)
    exact Ev.now _
  | succ d ih =>
    intro x h0 h1
    have hw : wrap64 (x + 1) = x + 1 := wrap_nat (by omega) (by omega)
    have h := ih (x + 1) (by omega) (by omega)
    refine Ev.step (fun k => by rw [impl_Graph_hasKind.l2]) (Ev.pos (by omega) (Ev.bindo (bag_has_at h1) ?_))
    rw [hb.2 x h1 (by omega), hasI_nil h1 (by omega), Bool.false_or, domN, hw]
    by_cases c : x ∈ l
    · rw [decide_eq_true c, Bool.true_or, if_pos rfl]
      exact Ev.pos rfl h
    · rw [decide_eq_false c, Bool.false_or]
      have hnx : ∀ y ∈ nbs e x a.toNat 0, 0 ≤ y ∧ y < 8 := by
        intro y hy
        have : ∀ (d : Nat) (z : Int), y ∈ nbs e x d z → z ≤ y ∧ y < z + (d : Int) := by
          intro d
          induction d with
          | zero => intro z hz; simp [nbs] at hz
          | succ d ih =>
            intro z hz
            simp only [nbs, List.mem_append] at hz
            rcases hz with hz | hz
            · split at hz
              · simp only [List.mem_singleton] at hz; omega
              · simp at hz
            · have := ih (z + 1) hz; omega
        have := this a.toNat 0 hy
        omega
      have hmem : ∀ y, y ∈ nbs e x a.toNat 0 ↔ (0 ≤ y ∧ y < a) ∧ hasP e x y = true := by
        intro y
        have : ∀ (d : Nat) (z : Int), y ∈ nbs e x d z ↔ (z ≤ y ∧ y < z + (d : Int)) ∧ hasP e x y = true := by
          intro d
          induction d with
          | zero => intro z; simp only [nbs, List.not_mem_nil, false_iff]; omega
          | succ d ih =>
            intro z
            simp only [nbs, List.mem_append, ih]
            by_cases c : hasP e x z = true
            · rw [if_pos c, List.mem_singleton]
              constructor
              · rintro (rfl | hh)
                · exact ⟨by omega, c⟩
                · exact ⟨by omega, hh.2⟩
              · rintro ⟨hh, hf⟩
                by_cases hz : y = z
                · exact .inl hz
                · exact .inr ⟨by omega, hf⟩
            · rw [if_neg c]
              constructor
              · rintro (hh | hh)
                · simp at hh
                · exact ⟨by omega, hh.2⟩
              · rintro ⟨hh, hf⟩
                by_cases hz : y = z
                · subst hz; exact absurd hf c
                · exact .inr ⟨by omega, hf⟩
        rw [this a.toNat 0]
        refine and_congr_left fun _ => ?_
        omega
      have hlen := nbs_len e x a.toNat 0
      have hb2 := bagI_at (nbs e x a.toNat 0) 0 (by omega) hnx
      refine Ev.neg (by decide) (Ev.bind (neighbors_ev a e x he h8 hu) (Ev.bind (bagOf_ev _ (by omega) hnx) ?_))
      have hz := andI_zero hb2.1 hb.1
      have hiff : Go.bits .and .u64 (bagI 0 (nbs e x a.toNat 0)) (bagI 0 l) = 0 ↔ ¬ (l.any fun y => hasP e y x) = true := by
        rw [hz, List.any_eq_true]
        constructor
        · rintro hh ⟨y, hy, hp⟩
          have hy8 := hx y hy
          refine hh y hy8.1 hy8.2 ⟨?_, ?_⟩
          · rw [hb2.2 y hy8.1 hy8.2, hasI_nil hy8.1 hy8.2, Bool.false_or, decide_eq_true_eq, hmem]
            refine ⟨?_, by rw [hasP_comm e]; exact hp⟩
            obtain ⟨s, hs, hc⟩ := (hasP_iff e y x).1 hp
            have := h2.2.2 s hs
            omega
          · rw [hb.2 y hy8.1 hy8.2, hasI_nil hy8.1 hy8.2, Bool.false_or, decide_eq_true_eq]
            exact hy
        · intro hh y h0 h8' hc
          rw [hb2.2 y h0 h8', hb.2 y h0 h8', hasI_nil h0 h8', Bool.false_or, Bool.false_or, decide_eq_true_eq, decide_eq_true_eq, hmem] at hc
          exact hh ⟨y, hc.2, by rw [hasP_comm e]; exact hc.1.2⟩
      by_cases c2 : (l.any fun y => hasP e y x) = true
      · rw [if_pos c2]
        exact Ev.neg (fun hh => hiff.1 hh c2) h
      · rw [if_neg c2]
        exact Ev.pos (hiff.2 c2) (Ev.now _)
end
end Go.Proofs.Ytnlmijnbfdhdkaa.P
namespace Go.Proofs.Ytnlmijnbfdhdkaa.P
open Go.RowKit Go.Proofs.YtnlmijnbfdhdkaaW.PrintWords Go.Proofs.YtnlmijnbfdhdkaaW.PrintLast Go.Proofs.YtnlmijnbfdhdkaaW.PrintMore
set_option linter.unusedVariables false

def kindI (a : Int) (e : List S88) (c : Int) (l : List Int) : Bool := if c = 1 then coverI e l else if c = 2 then cliN e l l.length 0 else domN e l a.toNat 0
theorem l4Has_ev (a : Int) (e : List S88) (c : Int) (l : List Int) (he : e.length ≤ 1048576) (hl : l.length ≤ 1048576) (h8 : a ≤ 8) : Ev (fun k => spec_l4Has.f k a e c l) (kindI a e c l) := by
  unfold spec_l4Has.f kindI
  by_cases c1 : c = 1
  · rw [if_pos c1]
    exact Ev.pos c1 (cover_loop a e l he hl e.length 0 (by omega) (Nat.zero_le _))
  · rw [if_neg c1]
    by_cases c2 : c = 2
    · rw [if_pos c2]
      exact Ev.neg c1 (Ev.pos c2 (sCli_loop a e l he hl l.length 0 (by omega) (Nat.zero_le _)))
    · rw [if_neg c2]
      exact Ev.neg c1 (Ev.neg c2 (sDom_loop a e l he hl h8 a.toNat 0 (by omega) (by omega)))
theorem hasKind_ev (a : Int) (e : List S88) (c : Int) (l : List Int) (he : e.length ≤ 1048576) (hl : l.length ≤ 1048576) (hg : okG a e = true) (hr : risI 0 (wrap64 (a - 1)) none l = true) : Ev (fun k => impl_Graph_hasKind.f k a e c (bagI 0 l)) (kindI a e c l) := by
  have h1 := okG_all hg
  have hu : ∀ s ∈ e, s.f0 < s.f1 := fun s hs => (h1.2.2 s hs).2.1
  have hx := set_small hg hr
  have hw : wrap64 (a - 1) = a - 1 := wrap_nat (by omega) (by omega)
  unfold impl_Graph_hasKind.f kindI
  by_cases c1 : c = 1
  · rw [if_pos c1]
    refine Ev.pos c1 (Ev.bindo (a := allI a) ?_ (Ev.bindo (cover_free hg hx) (Ev.now _)))
    unfold impl_Graph_all.f
    rw [if_pos h1.1]
    rfl
  · rw [if_neg c1]
    by_cases c2 : c = 2
    · rw [if_pos c2]
      refine Ev.neg c1 (Ev.pos c2 (Ev.bind (bag_list_ev _) ?_))
      rw [bag_list_self (risI_wide (by omega) l none hr)]
      exact iCli_loop a e l he hl hu l.length 0 (by omega) (Nat.zero_le _)
    · rw [if_neg c2]
      exact Ev.neg c1 (Ev.neg c2 (iDom_loop a e l he h1.2.1 hg hx a.toNat 0 (by omega) (by omega)))
def kindR (a : Int) (e : List S88) (c : Int) (l : List Int) : Bool × Bool :=
  if (okG a e = true ∧ (1 ≤ c ∧ c ≤ 3)) ∧ risI 0 (wrap64 (a - 1)) none l = true then (kindI a e c l, true) else (false, false)
theorem kind_at (c : Int) : impl_isKind.f c = some (decide (1 ≤ c) && decide (c ≤ 3)) := by
  unfold impl_isKind.f
  rw [between_at, Option.bind_some]
theorem l4Kind_at (c : Int) : spec_l4Kind.f c = some (decide (1 ≤ c) && decide (c ≤ 3)) := by
  unfold spec_l4Kind.f
  rw [in_at, Option.bind_some]
theorem spec_HasKind_ev (a : Int) (e : List S88) (c : Int) (l : List Int) (he : e.length ≤ 1048576) (hl : l.length ≤ 1048576) : Ev (fun k => spec_HasKind.f k a e c l) (kindR a e c l) := by
  unfold spec_HasKind.f spec_l4Good.f kindR
  by_cases h : okG a e = true
  · by_cases hc : 1 ≤ c ∧ c ≤ 3
    · refine Ev.bind (Ev.bind (l2Good_ev a e he) (Ev.pos h (Ev.bindo (l4Kind_at c) (Ev.now _)))) (Ev.pos (by simp [hc]) (Ev.bind (l2Set_ev a e l hl) ?_))
      by_cases hr : risI 0 (wrap64 (a - 1)) none l = true
      · rw [if_pos (show (okG a e = true ∧ (1 ≤ c ∧ c ≤ 3)) ∧ risI 0 (wrap64 (a - 1)) none l = true from ⟨⟨h, hc⟩, hr⟩)]
        exact Ev.pos hr (Ev.bind (l4Has_ev a e c l he hl (okG_all h).2.1) (Ev.now _))
      · rw [if_neg (show ¬ ((okG a e = true ∧ (1 ≤ c ∧ c ≤ 3)) ∧ risI 0 (wrap64 (a - 1)) none l = true) from fun hh => hr hh.2)]
        exact Ev.neg hr (Ev.now _)
    · rw [if_neg (show ¬ ((okG a e = true ∧ (1 ≤ c ∧ c ≤ 3)) ∧ risI 0 (wrap64 (a - 1)) none l = true) from fun hh => hc hh.1.2)]
      exact Ev.bind (Ev.bind (l2Good_ev a e he) (Ev.pos h (Ev.bindo (l4Kind_at c) (Ev.now _)))) (Ev.neg (by simp; omega) (Ev.now _))
  · rw [if_neg (show ¬ ((okG a e = true ∧ (1 ≤ c ∧ c ≤ 3)) ∧ risI 0 (wrap64 (a - 1)) none l = true) from fun hh => h hh.1.1)]
    exact Ev.bind (Ev.bind (l2Good_ev a e he) (Ev.neg h (Ev.now _))) (Ev.neg (by decide) (Ev.now _))
theorem impl_HasKind_ev (a : Int) (e : List S88) (c : Int) (l : List Int) (he : e.length ≤ 1048576) (hl : l.length ≤ 1048576) : Ev (fun k => impl_HasKind.f k a e c l) (kindR a e c l) := by
  unfold impl_HasKind.f impl_isSetCase.f kindR
  by_cases h : okG a e = true
  · by_cases hc : 1 ≤ c ∧ c ≤ 3
    · refine Ev.bind (Ev.bind (impl_IsGraph_ev a e he) (Ev.pos h (Ev.bindo (kind_at c) (Ev.pos (by simp [hc]) (Ev.bind (rising_ev l a hl) (Ev.now _)))))) ?_
      by_cases hr : risI 0 (wrap64 (a - 1)) none l = true
      · rw [if_pos (show (okG a e = true ∧ (1 ≤ c ∧ c ≤ 3)) ∧ risI 0 (wrap64 (a - 1)) none l = true from ⟨⟨h, hc⟩, hr⟩)]
        exact Ev.pos hr (Ev.bind (bagOf_ev l hl (set_small h hr)) (Ev.bind (hasKind_ev a e c l he hl h hr) (Ev.now _)))
      · rw [if_neg (show ¬ ((okG a e = true ∧ (1 ≤ c ∧ c ≤ 3)) ∧ risI 0 (wrap64 (a - 1)) none l = true) from fun hh => hr hh.2)]
        exact Ev.neg hr (Ev.now _)
    · rw [if_neg (show ¬ ((okG a e = true ∧ (1 ≤ c ∧ c ≤ 3)) ∧ risI 0 (wrap64 (a - 1)) none l = true) from fun hh => hc hh.1.2)]
      exact Ev.bind (Ev.bind (impl_IsGraph_ev a e he) (Ev.pos h (Ev.bindo (kind_at c) (Ev.neg (by simp; omega) (Ev.now _))))) (Ev.neg (by decide) (Ev.now _))
  · rw [if_neg (show ¬ ((okG a e = true ∧ (1 ≤ c ∧ c ≤ 3)) ∧ risI 0 (wrap64 (a - 1)) none l = true) from fun hh => h hh.1.1)]
    exact Ev.bind (Ev.bind (impl_IsGraph_ev a e he) (Ev.neg h (Ev.now _))) (Ev.neg (by decide) (Ev.now _))
end Go.Proofs.Ytnlmijnbfdhdkaa.P
