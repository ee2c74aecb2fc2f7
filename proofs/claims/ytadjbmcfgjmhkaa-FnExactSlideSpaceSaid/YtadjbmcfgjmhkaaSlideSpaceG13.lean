/- Spaces that come in: their size, copies and comparisons; and both sides' test of a space. -/
import Derived.Test.YtadjbmcfgjmhkaaSlideSpaceG12
import Derived.Test.YtadjbmcfgjmhkaaSlideSpaceG10
import Derived.Test.YtadjbmcfgjmhkaaSlideSpaceG8
import Derived.Test.YtadjbmcfgjmhkaaSlideSpaceG5
import Derived.Test.YtadjbmcfgjmhkaaSlideSpaceG9
import Derived.Test.YtadjbmcfgjmhkaaSlideSpaceG11
namespace Go.Proofs.Ytadjbmcfgjmhkaa.P
open Go.RowKit Go.Proofs.YtadjbmcfgjmhkaaW.PrintWords Go.Proofs.YtadjbmcfgjmhkaaW.PrintLast Go.Proofs.YtadjbmcfgjmhkaaW.PrintMore
set_option linter.unusedVariables false
set_option linter.unusedSimpArgs false

theorem rdL_at (l : List (List Int)) (m : Nat) (h : m < l.length) : rd_L2 l (m : Int) = l[m] := by simp [rd_L2, List.getD_eq_getElem?_getD, List.getElem?_eq_getElem h]
/-- A space of moderate size. -/
def modS (l : List (List Int)) (e : List S70) : Prop := l.length ≤ 1048576 ∧ (∀ s ∈ l, s.length ≤ 1048576) ∧ e.length ≤ 1048576
/-! Comparisons of equals. -/
theorem eqIntSS_loop (l : List (List Int)) (hl : l.length ≤ 1048576) (hs : ∀ s ∈ l, s.length ≤ 1048576) (d : Nat) : ∀ (m : Nat), l.length - m = d → m ≤ l.length → Ev (fun k => laws_eqIntSS.l0 k l l (m : Int)) true := by
  induction d with
  | zero =>
    intro m h0 h1
    refine Ev.step (fun k => by rw [laws_eqIntSS.l0]) ?_
    exact Ev.neg (by omega) (Ev.now _)
  | succ d ih =>
    intro m h0 h1
    have hm : m < l.length := by omega
    refine Ev.step (fun k => by rw [laws_eqIntSS.l0]) ?_
    refine Ev.pos (by omega) (Ev.pos (by omega) (Ev.pos (by omega) ?_))
    rw [rdL_at l m hm]
    refine Ev.bind (eqIntS_ev l[m] (hs _ (List.getElem_mem hm))) (Ev.pos rfl ?_)
    rw [wrap_up hm (by omega)]
    exact ih (m + 1) (by omega) (by omega)
theorem eqIntSS_ev (l : List (List Int)) (hl : l.length ≤ 1048576) (hs : ∀ s ∈ l, s.length ≤ 1048576) : Ev (fun k => laws_eqIntSS.f k l l) true := by
  unfold laws_eqIntSS.f
  exact Ev.pos rfl (eqIntSS_loop l hl hs l.length 0 (by omega) (Nat.zero_le _))
theorem eqSpace_ev (l : List (List Int)) (e : List S70) (h : modS l e) : Ev (fun k => laws_eqSpace.f k l e l e) true := by
  unfold laws_eqSpace.f
  exact Ev.bind (eqIntSS_ev l h.1 h.2.1) (Ev.pos rfl (Ev.bind (eqIntA2S_ev e h.2.2) (Ev.pos rfl (Ev.now _))))
/-- A list comes before another one. -/
def befL : List Int → List Int → Bool
  | [], [] => false
  | [], _ :: _ => true
  | _ :: _, [] => false
  | a :: x, b :: y => if a = b then befL x y else decide (a < b)
theorem l2Before_loop (x y : List Int) (hx : x.length ≤ 1048576) (hy : y.length ≤ 1048576) (d : Nat) : ∀ (m : Nat), x.length - m = d → m ≤ x.length → m ≤ y.length →
    Ev (fun k => spec_l2Before.l0 k x y (m : Int)) (befL (x.drop m) (y.drop m)) := by
  induction d with
  | zero =>
    intro m h0 h1 h2
    refine Ev.step (fun k => by rw [spec_l2Before.l0]) (Ev.neg (by omega) (Ev.step (fun k => by rw [spec_l2Before.j1]) (Ev.neg (by decide) ?_)))
    rw [show x.drop m = [] from List.drop_eq_nil_of_le (by omega)]
    by_cases h : m < y.length
    · rw [List.drop_eq_getElem_cons h, show decide ((x.length : Int) < (y.length : Int)) = true from decide_eq_true (by omega)]
      exact Ev.now _
    · rw [List.drop_eq_nil_of_le (by omega), show decide ((x.length : Int) < (y.length : Int)) = false from decide_eq_false (by omega)]
      exact Ev.now _
  | succ d ih =>
    intro m h0 h1 h2
    have hm : m < x.length := by omega
    refine Ev.step (fun k => by rw [spec_l2Before.l0]) (Ev.pos (by omega) (Ev.step (fun k => by rw [spec_l2Before.j1]) ?_))
    rw [List.drop_eq_getElem_cons hm]
    by_cases h : m < y.length
    · refine Ev.pos (decide_eq_true (by omega)) (Ev.pos (by omega) (Ev.pos (by omega) (Ev.pos (by omega) ?_)))
      rw [rd_at x m hm, rd_at y m h, List.drop_eq_getElem_cons h, befL]
      by_cases c : x[m] = y[m]
      · rw [if_pos c, wrap_up hm (by omega)]
        exact Ev.pos c (ih (m + 1) (by omega) (by omega) (by omega))
      · rw [if_neg c]
        exact Ev.neg c (Ev.now _)
    · refine Ev.neg (by rw [decide_eq_false (by omega)]; decide) ?_
      rw [show y.drop m = [] from List.drop_eq_nil_of_le (by omega), show decide ((x.length : Int) < (y.length : Int)) = false from decide_eq_false (by omega)]
      exact Ev.now _
theorem l2Before_ev (x y : List Int) (hx : x.length ≤ 1048576) (hy : y.length ≤ 1048576) : Ev (fun k => spec_l2Before.f k x y) (befL x y) :=
  l2Before_loop x y hx hy x.length 0 (by omega) (Nat.zero_le _) (Nat.zero_le _)
theorem cmpL_bef (x : List Int) : ∀ y, (cmpL x y ≥ 0) ↔ befL x y = false := by
  induction x with
  | nil => intro y; cases y <;> simp [cmpL, befL]
  | cons a x ih =>
    intro y
    cases y with
    | nil => simp [cmpL, befL]
    | cons b y =>
      simp only [cmpL, befL]
      unfold cmpI
      by_cases h : a < b
      · rw [if_pos h, if_neg (by decide), if_neg (by omega), decide_eq_true h]
        simp
      · rw [if_neg h]
        by_cases h2 : a > b
        · rw [if_pos h2, if_neg (by decide), if_neg (by omega), decide_eq_false h]
          simp
        · rw [if_neg h2, if_pos rfl, if_pos (by omega)]
          exact ih y
section
variable (l : List (List Int)) (e : List S70) (h : modS l e)
include h
end
end Go.Proofs.Ytadjbmcfgjmhkaa.P
namespace Go.Proofs.Ytadjbmcfgjmhkaa.P
open Go.RowKit Go.Proofs.YtadjbmcfgjmhkaaW.PrintWords Go.Proofs.YtadjbmcfgjmhkaaW.PrintLast Go.Proofs.YtadjbmcfgjmhkaaW.PrintMore
set_option linter.unusedVariables false

theorem befL_trans (x : List Int) : ∀ y z, befL x y = true → befL y z = true → befL x z = true := by
  induction x with
  | nil =>
    intro y z h1 h2
    cases y with
    | nil => simp [befL] at h1
    | cons b y => cases z with
      | nil => simp [befL] at h2
      | cons c z => rfl
  | cons a x ih =>
    intro y z h1 h2
    cases y with
    | nil => simp [befL] at h1
    | cons b y => cases z with
      | nil => simp [befL] at h2
      | cons c z =>
        simp only [befL] at h1 h2 ⊢
        by_cases hab : a = b
        · by_cases hbc : b = c
          · rw [if_pos hab] at h1
            rw [if_pos hbc] at h2
            rw [if_pos (hab.trans hbc)]
            exact ih y z h1 h2
          · rw [if_neg hbc, decide_eq_true_eq] at h2
            rw [if_neg (by omega), decide_eq_true_eq]
            omega
        · rw [if_neg hab, decide_eq_true_eq] at h1
          by_cases hbc : b = c
          · rw [if_neg (by omega), decide_eq_true_eq]
            omega
          · rw [if_neg hbc, decide_eq_true_eq] at h2
            rw [if_neg (by omega), decide_eq_true_eq]
            omega
theorem befL_irrefl (x : List Int) : befL x x = false := by
  induction x with
  | nil => rfl
  | cons a x ih => rw [befL, if_pos rfl]; exact ih
theorem befL_asymm {x y : List Int} (h : befL x y = true) : befL y x = false := by
  cases h2 : befL y x with
  | false => rfl
  | true =>
    have := befL_trans x y x h h2
    rw [befL_irrefl] at this
    exact absurd this (by decide)
theorem cmpL_neg (x y : List Int) : cmpL x y < 0 ↔ befL x y = true := by
  have := cmpL_bef x y
  cases h : befL x y with
  | true => rw [h] at this; simp only [Bool.true_eq_false, iff_false, ge_iff_le] at this; simp only [iff_true]; omega
  | false => rw [h] at this; simp only [iff_true, ge_iff_le] at this; simp only [Bool.false_eq_true, iff_false]; omega
end Go.Proofs.Ytadjbmcfgjmhkaa.P
namespace Go.Proofs.Ytadjbmcfgjmhkaa.P
open Go.RowKit Go.Proofs.YtadjbmcfgjmhkaaW.PrintWords Go.Proofs.YtadjbmcfgjmhkaaW.PrintLast Go.Proofs.YtadjbmcfgjmhkaaW.PrintMore
set_option linter.unusedVariables false

def LexS (l : List (List Int)) : Prop := l.Pairwise (fun x y => befL x y = true)
theorem befL_tri (x : List Int) : ∀ y, befL x y = false → befL y x = false → x = y := by
  induction x with
  | nil =>
    intro y h1 h2
    cases y with
    | nil => rfl
    | cons b y => simp [befL] at h1
  | cons a x ih =>
    intro y h1 h2
    cases y with
    | nil => simp [befL] at h2
    | cons b y =>
      simp only [befL] at h1 h2
      by_cases c : a = b
      · subst c
        rw [if_pos rfl] at h1 h2
        rw [ih y h1 h2]
      · rw [if_neg c, decide_eq_false_iff_not] at h1
        rw [if_neg (fun h => c h.symm), decide_eq_false_iff_not] at h2
        omega
/-- What is strictly in order is told by what it holds. -/
theorem strict_unique {α : Type} {lt : α → α → Bool} (hi : ∀ x, lt x x = false) (ha : ∀ x y, lt x y = true → lt y x = false) (l1 : List α) : ∀ l2, l1.Pairwise (fun x y => lt x y = true) → l2.Pairwise (fun x y => lt x y = true) → (∀ s, s ∈ l1 ↔ s ∈ l2) → l1 = l2 := by
  induction l1 with
  | nil =>
    intro l2 _ _ h
    cases l2 with
    | nil => rfl
    | cons b u => exact absurd ((h b).2 (List.mem_cons_self ..)) (by simp)
  | cons a t ih =>
    intro l2 h1 h2 h
    cases l2 with
    | nil => exact absurd ((h a).1 (List.mem_cons_self ..)) (by simp)
    | cons b u =>
      have p1 := List.pairwise_cons.1 h1
      have p2 := List.pairwise_cons.1 h2
      have hab : a = b := by
        rcases List.mem_cons.1 ((h a).1 (List.mem_cons_self ..)) with e | e
        · exact e
        · rcases List.mem_cons.1 ((h b).2 (List.mem_cons_self ..)) with e2 | e2
          · exact e2.symm
          · have := ha _ _ (p1.1 b e2)
            rw [p2.1 a e] at this
            exact absurd this (by decide)
      subst hab
      rw [ih u p1.2 p2.2 fun s => ?_]
      constructor
      · intro hs
        rcases List.mem_cons.1 ((h s).1 (List.mem_cons_of_mem _ hs)) with e | e
        · subst e
          have := p1.1 s hs
          rw [hi] at this
          exact absurd this (by decide)
        · exact e
      · intro hs
        rcases List.mem_cons.1 ((h s).2 (List.mem_cons_of_mem _ hs)) with e | e
        · subst e
          have := p2.1 s hs
          rw [hi] at this
          exact absurd this (by decide)
        · exact e
theorem lex_unique (l1 l2 : List (List Int)) (h1 : LexS l1) (h2 : LexS l2) (h : ∀ s, s ∈ l1 ↔ s ∈ l2) : l1 = l2 :=
  strict_unique befL_irrefl (fun _ _ h => befL_asymm h) l1 l2 h1 h2 h
def sortLL (ls : List (List Int)) : List (List Int) := ls.mergeSort (fun x y => !befL y x)
theorem sortLL_len (ls : List (List Int)) : (sortLL ls).length = ls.length := List.length_mergeSort ls
theorem sortLL_mem (ls : List (List Int)) (s : List Int) : s ∈ sortLL ls ↔ s ∈ ls := List.mem_mergeSort
theorem befL_ntrans {x y z : List Int} (h1 : befL x y = false) (h2 : befL y z = false) : befL x z = false := by
  cases h : befL x z with
  | false => rfl
  | true =>
    cases h3 : befL y x with
    | true =>
      have := befL_trans y x z h3 h
      rw [h2] at this
      exact absurd this (by decide)
    | false =>
      have := befL_tri x y h1 h3
      subst this
      rw [h2] at h
      exact absurd h (by decide)
theorem sortLL_lex (ls : List (List Int)) (h : ls.Nodup) : LexS (sortLL ls) := by
  have h1 : (sortLL ls).Pairwise (fun x y => (!befL y x) = true) := List.pairwise_mergeSort
    (fun x y z h1 h2 => by
      rw [Bool.not_eq_true'] at *
      exact befL_ntrans h2 h1)
    (fun x y => by
      cases c : befL y x with
      | false => rfl
      | true => rw [befL_asymm c]; rfl) ls
  have h2 : (sortLL ls).Nodup := (List.mergeSort_perm ls _).nodup_iff.2 h
  unfold LexS
  refine List.Pairwise.imp ?_ (List.pairwise_and_iff.2 ⟨h1, h2⟩)
  rintro x y ⟨h3, h4⟩
  rw [Bool.not_eq_true'] at h3
  cases c : befL x y with
  | true => rfl
  | false => exact absurd (befL_tri x y c h3) h4
theorem LexS.nodup {l : List (List Int)} (h : LexS l) : l.Nodup := h.imp fun {x y} hxy e => by
  subst e
  rw [befL_irrefl] at hxy
  exact absurd hxy (by decide)
end Go.Proofs.Ytadjbmcfgjmhkaa.P
namespace Go.Proofs.Ytadjbmcfgjmhkaa.P
open Go.RowKit Go.Proofs.YtadjbmcfgjmhkaaW.PrintWords Go.Proofs.YtadjbmcfgjmhkaaW.PrintLast Go.Proofs.YtadjbmcfgjmhkaaW.PrintMore
set_option linter.unusedVariables false
set_option linter.unusedSimpArgs false

/-! Marks are held, and counted from 0 on. -/
theorem mark2_fst (l : List S70) : ∀ (k : Int), 0 ≤ k → k + 2 * (l.length : Int) ≤ 4611686018427387904 → (mark2 l k).1 = k + 2 * (l.length : Int) := by
  induction l with
  | nil => intro k h1 h2; simp [mark2]
  | cons e t ih =>
    intro k h1 h2
    simp only [List.length_cons] at h2 ⊢
    simp only [mark2]
    have e1 : wrap64 (k + 1) = k + 1 := wrap_nat (by omega) (by omega)
    have e2 : wrap64 (k + 1 + 1) = k + 1 + 1 := wrap_nat (by omega) (by omega)
    rw [e1, e2, ih (k + 1 + 1) (by omega) (by omega)]
    omega
theorem held_mark2 (l : List S70) : ∀ (k : Int), held2 (mark2 l k).2 k = (mark2 l k).1 := by
  induction l with
  | nil => intro k; rfl
  | cons e t ih => intro k; simp only [mark2, held2, if_true]; exact ih _
theorem markGraph_at (a : Int) (l : List S70) (k : Int) : laws_markGraph.f a l k = some ((mark2 l k).1, (mark2 l k).2) := rfl
theorem mark1_pos (l : List S70) (hl : l.length ≤ 1048576) : ¬ (mark2 l 1).1 < 0 := by rw [mark2_fst l 1 (by omega) (by omega)]; omega
/-! What a valid graph gives. -/
theorem goodP_all (n : Int) (l : List S70) : ∀ p, goodP n p l = true → ∀ e ∈ l, 0 ≤ e.f0 ∧ e.f0 < e.f1 ∧ e.f1 < n := by
  induction l with
  | nil => intro p h e he; simp at he
  | cons x t ih =>
    intro p h e he
    simp only [goodP, Bool.and_eq_true, decide_eq_true_eq] at h
    obtain ⟨⟨⟨h1, h2⟩, h3⟩, h4, h5⟩ := h
    rcases List.mem_cons.1 he with rfl | he
    · exact ⟨h1, h2, h3⟩
    · exact ih _ h5 e he
theorem okG_all {a : Int} {l : List S70} (h : okG a l = true) : 0 ≤ a ∧ a ≤ 8 ∧ ∀ e ∈ l, 0 ≤ e.f0 ∧ e.f0 < e.f1 ∧ e.f1 < a := by
  simp only [okG, Bool.and_eq_true, decide_eq_true_eq] at h
  exact ⟨h.1.1, h.1.2, goodP_all a l none h.2⟩
/-- Two nodes are neighbours. -/
def hasP (l : List S70) (x y : Int) : Bool := l.any fun e => (decide (e.f0 = x) && decide (e.f1 = y)) || (decide (e.f0 = y) && decide (e.f1 = x))
theorem near_loop (a : Int) (l : List S70) (x y : Int) (hl : l.length ≤ 1048576) (d : Nat) : ∀ (m : Nat), l.length - m = d → m ≤ l.length →
    Ev (fun k => spec_l2Near.l0 k x y (m : Int) a l) (hasP (l.drop m) x y) := by
  induction d with
  | zero =>
    intro m h0 h1
    refine Ev.step (fun k => by rw [spec_l2Near.l0]) ?_
    rw [List.drop_eq_nil_of_le (by omega)]
    exact Ev.neg (by omega) (Ev.now _)
  | succ d ih =>
    intro m h0 h1
    have hm : m < l.length := by omega
    refine Ev.step (fun k => by rw [spec_l2Near.l0]) ?_
    refine Ev.pos (by omega) (Ev.pos (by omega) ?_)
    have ihm := ih (m + 1) (by omega) (by omega)
    rw [← wrap_up hm (by omega)] at ihm
    rw [rdT_at l m hm, List.drop_eq_getElem_cons hm]
    simp only [hasP, List.any_cons] at ihm ⊢
    generalize (l.drop (m + 1)).any _ = R at ihm ⊢
    by_cases c1 : l[m].f0 = x
    · refine Ev.pos c1 ?_
      by_cases c2 : l[m].f1 = y
      · refine Ev.pos c2 ?_
        rw [decide_eq_true c1, decide_eq_true c2]
        exact Ev.now _
      · refine Ev.neg c2 ?_
        rw [decide_eq_false c2, Bool.and_false, Bool.false_or]
        by_cases c3 : l[m].f0 = y
        · refine Ev.pos c3 ?_
          by_cases c4 : l[m].f1 = x
          · refine Ev.pos c4 ?_
            rw [decide_eq_true c3, decide_eq_true c4]
            exact Ev.now _
          · refine Ev.neg c4 ?_
            rw [decide_eq_false c4, Bool.and_false, Bool.false_or]
            exact ihm
        · refine Ev.neg c3 ?_
          rw [decide_eq_false c3, Bool.false_and, Bool.false_or]
          exact ihm
    · refine Ev.neg c1 ?_
      rw [decide_eq_false c1, Bool.false_and, Bool.false_or]
      by_cases c3 : l[m].f0 = y
      · refine Ev.pos c3 ?_
        by_cases c4 : l[m].f1 = x
        · refine Ev.pos c4 ?_
          rw [decide_eq_true c3, decide_eq_true c4]
          exact Ev.now _
        · refine Ev.neg c4 ?_
          rw [decide_eq_false c4, Bool.and_false, Bool.false_or]
          exact ihm
      · refine Ev.neg c3 ?_
        rw [decide_eq_false c3, Bool.false_and, Bool.false_or]
        exact ihm
theorem near_ev (a : Int) (l : List S70) (x y : Int) (hl : l.length ≤ 1048576) : Ev (fun k => spec_l2Near.f k a l x y) (hasP l x y) :=
  near_loop a l x y hl l.length 0 (by omega) (Nat.zero_le _)
theorem index_loop (l : List S70) (p q : Int) (hl : l.length ≤ 1048576) (d : Nat) : ∀ (m : Nat), l.length - m = d → m ≤ l.length →
    ∃ i : Int, (decide (i ≥ 0)) = ((l.drop m).any fun e => p == e.f0 && q == e.f1) ∧ Ev (fun k => slices_Index_2_int_2_int.l0 k l (l.length : Int) (m : Int) p q) i := by
  induction d with
  | zero =>
    intro m h0 h1
    refine ⟨-1, by rw [List.drop_eq_nil_of_le (by omega)]; rfl, Ev.step (fun k => by rw [slices_Index_2_int_2_int.l0]) ?_⟩
    exact Ev.neg (by omega) (Ev.now _)
  | succ d ih =>
    intro m h0 h1
    have hm : m < l.length := by omega
    obtain ⟨i, hi, ihm⟩ := ih (m + 1) (by omega) (by omega)
    rw [← wrap_up hm (by omega)] at ihm
    rw [List.drop_eq_getElem_cons hm, List.any_cons, ← hi]
    cases hc : (p == l[m].f0 && q == l[m].f1) with
    | true =>
      refine ⟨(m : Int), by simp, Ev.step (fun k => by rw [slices_Index_2_int_2_int.l0]) ?_⟩
      refine Ev.pos (by omega) (Ev.pos (by omega) (Ev.pos (by omega) ?_))
      rw [rdT_at l m hm]
      exact Ev.pos hc (Ev.now _)
    | false =>
      refine ⟨i, by simp, Ev.step (fun k => by rw [slices_Index_2_int_2_int.l0]) ?_⟩
      refine Ev.pos (by omega) (Ev.pos (by omega) (Ev.pos (by omega) ?_))
      rw [rdT_at l m hm]
      exact Ev.neg (by rw [hc]; decide) ihm
theorem any_congr {α : Type} (l : List α) (f g : α → Bool) (h : ∀ e ∈ l, f e = g e) : l.any f = l.any g := by
  induction l with
  | nil => rfl
  | cons x t ih => rw [List.any_cons, List.any_cons, h x (List.mem_cons_self ..), ih fun e he => h e (List.mem_cons_of_mem _ he)]
theorem has_ev (a : Int) (l : List S70) (x y : Int) (hl : l.length ≤ 1048576) (hu : ∀ e ∈ l, e.f0 < e.f1) : Ev (fun k => impl_Graph_has.f k a l x y) (hasP l x y) := by
  unfold impl_Graph_has.f slices_Contains_2_int_2_int.f slices_Index_2_int_2_int.f
  obtain ⟨i, hi, h⟩ := index_loop l (mn x y) (mx x y) hl l.length 0 (by omega) (Nat.zero_le _)
  refine Ev.bindo rfl ?_
  refine Ev.bind (Ev.bind h (Ev.now _)) ?_
  have : hasP l x y = decide (i ≥ 0) := by
    rw [hi, List.drop_zero]
    unfold hasP
    refine any_congr l _ _ fun e he => ?_
    have := hu e he
    unfold mn mx
    by_cases c : y < x
    · have c2 : ¬ x < y := by omega
      rw [if_pos c, if_neg c2]
      rw [Bool.eq_iff_iff]
      simp only [Bool.or_eq_true, Bool.and_eq_true, decide_eq_true_eq, beq_iff_eq]
      omega
    · rw [if_neg c]
      by_cases c2 : x < y
      · rw [if_pos c2, Bool.eq_iff_iff]
        simp only [Bool.or_eq_true, Bool.and_eq_true, decide_eq_true_eq, beq_iff_eq]
        omega
      · rw [if_neg c2, Bool.eq_iff_iff]
        simp only [Bool.or_eq_true, Bool.and_eq_true, decide_eq_true_eq, beq_iff_eq]
        omega
  rw [this]
  exact Ev.now _
end Go.Proofs.Ytadjbmcfgjmhkaa.P
namespace Go.Proofs.Ytadjbmcfgjmhkaa.P
open Go.RowKit Go.Proofs.YtadjbmcfgjmhkaaW.PrintWords Go.Proofs.YtadjbmcfgjmhkaaW.PrintLast Go.Proofs.YtadjbmcfgjmhkaaW.PrintMore
set_option linter.unusedVariables false

/-- Numbers from lo to hi, strictly ascending behind a first one. -/
def risI (lo hi : Int) : Option Int → List Int → Bool
  | _, [] => true
  | p, x :: t => (decide (lo ≤ x) && decide (x ≤ hi)) && ((match p with | none => true | some q => decide (q < x)) && risI lo hi (some x) t)
def prevI (l : List Int) : Nat → Option Int
  | 0 => none
  | m + 1 => l[m]?
theorem risI_step (l : List Int) (lo hi : Int) (m : Nat) (hm : m < l.length) : risI lo hi (prevI l m) (l.drop m) = ((decide (lo ≤ l[m]) && decide (l[m] ≤ hi)) && ((match prevI l m with | none => true | some q => decide (q < l[m])) && risI lo hi (prevI l (m + 1)) (l.drop (m + 1)))) := by
  rw [List.drop_eq_getElem_cons hm, show prevI l (m + 1) = some l[m] from List.getElem?_eq_getElem hm]
  cases prevI l m <;> rfl
theorem l1Rising_loop (l : List Int) (lo hi : Int) (hl : l.length ≤ 1048576) (d : Nat) : ∀ (m : Nat), l.length - m = d → m ≤ l.length →
    Ev (fun k => spec_l1Rising.l0 k l lo hi (m : Int)) (risI lo hi (prevI l m) (l.drop m)) := by
  induction d with
  | zero =>
    intro m h0 h1
    refine Ev.step (fun k => by rw [spec_l1Rising.l0]) ?_
    rw [List.drop_eq_nil_of_le (by omega)]
    refine Ev.neg (by omega) ?_
    cases prevI l m <;> exact Ev.now _
  | succ d ih =>
    intro m h0 h1
    have hm : m < l.length := by omega
    refine Ev.step (fun k => by rw [spec_l1Rising.l0]) ?_
    rw [risI_step l lo hi m hm]
    refine Ev.pos (by omega) (Ev.pos (by omega) ?_)
    rw [rd_at l m hm]
    have ihm := ih (m + 1) (by omega) (by omega)
    rw [← wrap_up hm (by omega)] at ihm
    generalize risI lo hi (prevI l (m + 1)) (l.drop (m + 1)) = R at ihm ⊢
    refine Ev.bindo (in_at _ _ _) ?_
    cases hc : (decide (lo ≤ l[m]) && decide (l[m] ≤ hi)) with
    | false => rw [Bool.false_and]; exact Ev.neg (by decide) (Ev.now _)
    | true =>
      rw [Bool.true_and]
      refine Ev.pos rfl ?_
      cases m with
      | zero =>
        refine Ev.neg (by omega) ?_
        simp only [prevI, Bool.true_and]
        exact ihm
      | succ q =>
        have hq : q < l.length := by omega
        have hw : wrap64 (((q + 1 : Nat) : Int) - 1) = (q : Int) := by unfold wrap64; omega
        refine Ev.pos (by omega) ?_
        rw [hw]
        refine Ev.pos (by omega) (Ev.pos (by omega) ?_)
        rw [rd_at l q hq]
        simp only [prevI, List.getElem?_eq_getElem hq]
        by_cases c : l[q] ≥ l[q + 1]
        · rw [decide_eq_false (by omega : ¬ l[q] < l[q + 1]), Bool.false_and]
          exact Ev.pos c (Ev.now _)
        · rw [decide_eq_true (by omega : l[q] < l[q + 1]), Bool.true_and]
          exact Ev.neg c ihm
theorem l1Rising_ev (l : List Int) (lo hi : Int) (hl : l.length ≤ 1048576) : Ev (fun k => spec_l1Rising.f k l lo hi) (risI lo hi none l) :=
  l1Rising_loop l lo hi hl l.length 0 (by omega) (Nat.zero_le _)
theorem l2Set_ev (a : Int) (e : List S70) (l : List Int) (hl : l.length ≤ 1048576) : Ev (fun k => spec_l2Set.f k a e l) (risI 0 (wrap64 (a - 1)) none l) := by
  unfold spec_l2Set.f
  exact Ev.bind (l1Rising_ev l _ _ hl) (Ev.now _)
theorem risI_all (lo hi : Int) (l : List Int) : ∀ p, risI lo hi p l = true → ∀ x ∈ l, lo ≤ x ∧ x ≤ hi := by
  induction l with
  | nil => intro p h x hx; simp at hx
  | cons y t ih =>
    intro p h x hx
    simp only [risI, Bool.and_eq_true, decide_eq_true_eq] at h
    rcases List.mem_cons.1 hx with rfl | hx
    · exact h.1
    · exact ih _ h.2.2 x hx
theorem risI_pw (lo hi : Int) (l : List Int) : ∀ p, risI lo hi p l = true → l.Pairwise (· < ·) ∧ ∀ q, p = some q → ∀ x ∈ l, q < x := by
  induction l with
  | nil => intro p _; exact ⟨.nil, fun _ _ x hx => by cases hx⟩
  | cons y t ih =>
    intro p h
    simp only [risI, Bool.and_eq_true, decide_eq_true_eq] at h
    obtain ⟨_, h2, h3⟩ := h
    obtain ⟨i1, i2⟩ := ih _ h3
    refine ⟨List.pairwise_cons.2 ⟨fun x hx => i2 y rfl x hx, i1⟩, fun q hq x hx => ?_⟩
    subst hq
    have h4 : q < y := by simpa using h2
    rcases List.mem_cons.1 hx with rfl | hx
    · exact h4
    · have := i2 y rfl x hx; omega
theorem risI_of (lo hi : Int) (l : List Int) : ∀ p, l.Pairwise (· < ·) → (∀ x ∈ l, lo ≤ x ∧ x ≤ hi) → (∀ q, p = some q → ∀ x ∈ l, q < x) → risI lo hi p l = true := by
  induction l with
  | nil => intro p _ _ _; cases p <;> rfl
  | cons y t ih =>
    intro p hp hb hq
    obtain ⟨h1, h2⟩ := List.pairwise_cons.1 hp
    have hy := hb y (.head _)
    have ih' := ih (some y) h2 (fun x hx => hb x (.tail _ hx)) (fun q e x hx => by injection e with e; subst e; exact h1 x hx)
    cases p with
    | none => simp only [risI, Bool.and_eq_true, decide_eq_true_eq, true_and]; exact ⟨hy, ih'⟩
    | some q => simp only [risI, Bool.and_eq_true, decide_eq_true_eq]; exact ⟨hy, hq q rfl y (.head _), ih'⟩
end Go.Proofs.Ytadjbmcfgjmhkaa.P
namespace Go.Proofs.Ytadjbmcfgjmhkaa.P
open Go.RowKit Go.Proofs.YtadjbmcfgjmhkaaW.PrintWords Go.Proofs.YtadjbmcfgjmhkaaW.PrintLast Go.Proofs.YtadjbmcfgjmhkaaW.PrintMore
attribute [local go_sem] max2_int min2_int max_two min_two max_three min_three max_four min_four   -- for this text's walks alone
set_option linter.unusedVariables false
set_option linter.unusedSimpArgs false

/-! ### spec_l4Sets: function 74 -/
/-! ### impl_bagOf: function 80 -/
def impl_bagOf.l0 : Nat → Int → List Int → Int → Int → Option (Int)
 | 0, _, _, _, _ => none
 | k + 1, x3, x6, x7, x8 => if x8 < x7 then (if 0 ≤ x8 then (if x8 < (x6.length : Int) then (if 0 ≤ (rd x6 x8) then (impl_bagOf.l0 k (Go.bits .or .u64 x3 (shl .u64 1 (rd x6 x8))) x6 x7 (wrap64 (x8 + 1))) else (none)) else (none)) else (none)) else (some x3)
def impl_bagOf.f (k : Nat) (l0 : List Int) : Option (Int) := impl_bagOf.l0 k 0 l0 (l0.length : Int) 0
set_option maxHeartbeats 8000000 in
set_option maxRecDepth 100000 in
theorem impl_bagOf.calls (k : Nat) (A0 : Option Addr) (c0 : Nat) (l0 : List Int) (r : Int) (w : World) (hr0 : Kd.C (Kd.int .i64) w A0 l0.length l0) (hc0 : l0.length ≤ c0) (h : impl_bagOf.f k l0 = some r) :
 Calls Try.prog 80 #[.slice A0 l0.length c0] w fun e w' => e = .returned (.int .u64 r) ∧ Drawn0 w w' := by
 have HR0 := Aside0.mk hr0
 have HC0 := Aside0.mk hc0
 clear hr0 hc0
 have H : (impl_bagOf.l0 k 0 l0 (l0.length : Int) 0) = some r := h
 clear h
 have H' := Aside0.mk H
 clear H
 go_enter Try.func80, Try.ntmps80
 go_wp2
 go_loopg [3, 8] k (fun kq v3 v8 w' => ∃ (x3_1 : Int) (x8_1 : Int), v3 = .int .u64 x3_1 ∧ v8 = .int .i64 x8_1 ∧ Aside0 (impl_bagOf.l0 kq x3_1 l0 (l0.length : Int) x8_1 = some r) ∧ Aside0 (kq ≤ k) ∧ Drawn0 w w')
 case atStart => exact ⟨(0), (0), (by first | rfl | (simp; done) | (simp [*]; done)), (by first | rfl | (simp; done) | (simp [*]; done)), H', ⟨Nat.le_refl _⟩, by repeat (first | exact Drawn0.refl _ | apply Drawn0.step)⟩
 case round =>
  clear H'
  obtain ⟨x3_1, x8_1, rfl, rfl, HA, HK1, ⟨m1, rfl⟩⟩ := hrel
  cases gk with
  | zero => exact absurd HA.out (by simp [impl_bagOf.l0])
  | succ k1 =>
   have H := HA.out
   clear HA
   simp only [impl_bagOf.l0] at H
   by_cases c2 : x8_1 < (l0.length : Int)
   · rw [if_pos c2] at H
     have c2b0 := decide_eq_true c2
     clear c2
     by_cases c3 : 0 ≤ x8_1
     · rw [if_pos c3] at H
       have c3b0 := decide_eq_true c3
       clear c3
       by_cases c4 : x8_1 < (l0.length : Int)
       · rw [if_pos c4] at H
         have c4b0 := decide_eq_true c4
         clear c4
         by_cases c5 : 0 ≤ (rd l0 x8_1)
         · rw [if_pos c5] at H
           have c5b0 := eq_true c5
           have c5b1 : decide (0 ≤ (rd l0 x8_1)) = true := decide_eq_true c5
           clear c5
           obtain ⟨ji6, hji6⟩ : ∃ j_ : Int, (shl .u64 1 (rd l0 x8_1)) = j_ := ⟨_, rfl⟩
           replace H : (impl_bagOf.l0 k1 (Go.bits .or .u64 x3_1 (ji6)) l0 (l0.length : Int) (wrap64 (x8_1 + 1))) = some r := by first | (rw [hji6] at H; exact H) | (simp only [hji6] at H ⊢; exact H)
           have hji6_ : (IntKind.u64.wrap (1 * 2 ^ min (rd l0 x8_1).toNat 64)) = ji6 := hji6
           have hji6z : (rd l0 x8_1) ≤ 64 → (IntKind.u64.wrap (1 * 2 ^ (rd l0 x8_1).toNat)) = ji6 := shl_small hji6
           have hji6u : (IntKind.u64.wrap (2 ^ min (rd l0 x8_1).toNat 64)) = ji6 := by have h_ := hji6_; rw [Int.one_mul] at h_; exact h_
           have hji6v : (rd l0 x8_1) ≤ 64 → (IntKind.u64.wrap (2 ^ (rd l0 x8_1).toNat)) = ji6 := fun hle_ => by have h_ := hji6z hle_; rw [Int.one_mul] at h_; exact h_
           have H' := Aside0.mk H
           clear H
           have p312 : 0 ≤ (x8_1 : Int) := of_decide_eq_true zA
           have q312 : x8_1 < (l0.length : Int) := of_decide_eq_true zA
           obtain ⟨ad312, e312, hx312_0⟩ := Kd.at_int HR0.out x8_1 p312 q312
           cases e312
           replace p312 := eq_true p312
           replace q312 := eq_true q312
           go_wp2
           go_roundg k1
           case measure => have := HK1.out; omega
           case rel => exact ⟨(Go.bits .or .u64 x3_1 (ji6)), (wrap64 (x8_1 + 1)), (by first | rfl | (simp; done) | (simp only [← hji6] <;> (first | rfl | simp)) | (simp [*]; done)), (by first | rfl | (simp; done) | (simp [*]; done)), H', ⟨by have := HK1.out; omega⟩, by repeat (first | exact Drawn0.refl _ | apply Drawn0.step)⟩
         · rw [if_neg c5] at H
           exact absurd H (by simp)
       · rw [if_neg c4] at H
         exact absurd H (by simp)
     · rw [if_neg c3] at H
       exact absurd H (by simp)
   · rw [if_neg c2] at H
     have c2b0 : decide (x8_1 < (l0.length : Int)) = false := decide_eq_false c2
     clear c2
     obtain rfl := Option.some.inj H
     go_wp2
     go_ret
     exact ⟨by first | rfl | (simp; done) | (simp [*]; done), by repeat (first | exact Drawn0.refl _ | apply Drawn0.step)⟩

/-! ### impl_bag_list: function 86 -/
def impl_bag_list.l0 : Nat → Int → List Int → Int → Option (List Int)
 | 0, _, _, _ => none
 | k + 1, x0, x3, x6 => if x6 < 8 then (if 0 ≤ x6 then (if (Go.bits .and .u64 (shr .u64 x0 x6) 1) = 1 then (if x3.length < 17592186044416 then (impl_bag_list.l0 k x0 (x3 ++ [x6]) (wrap64 (x6 + 1))) else (none)) else (impl_bag_list.l0 k x0 x3 (wrap64 (x6 + 1)))) else (none)) else (some x3)
def impl_bag_list.f (k : Nat) (a0 : Int) : Option (List Int) := impl_bag_list.l0 k a0 (([] : List Int)) 0
set_option maxHeartbeats 8000000 in
set_option maxRecDepth 100000 in
theorem impl_bag_list.calls (k : Nat) (a0 : Int) (r : List Int) (w : World) (h : impl_bag_list.f k a0 = some r) :
 Calls Try.prog 86 #[.int .u64 a0] w fun e w' => ∃ v0_ : Value, e = .returned (v0_) ∧ Kd.R (Kd.int .i64) 3 w' w.heap.size (fun _ => True) v0_ r ∧ Below w.heap.size w w' := by
 have HB := zM (Below.refl w.heap.size w)
 have H : (impl_bag_list.l0 k a0 (([] : List Int)) 0) = some r := h
 clear h
 obtain ⟨y313, hy313⟩ : ∃ y_ : List Int, y_ = (([] : List Int)) := ⟨_, rfl⟩
 replace H : (impl_bag_list.l0 k a0 y313 0) = some r := by first | (rw [hy313]; with_reducible exact H) | (have H2_ := (Option.bind_some _ _).symm.trans H; rw [hy313]; with_reducible exact H2_) | (have H2_ := (Option.bind_some _ _).symm.trans H; with_reducible exact H2_) | with_reducible exact H | (rw [hy313]; exact H) | exact H
 have Ny313 := Aside0.mk hy313
 clear hy313
 have H' := Aside0.mk H
 clear H
 go_enter Try.func86, Try.ntmps86
 go_wp2_with (first | ((with_reducible refine gate_dst (N := 5) rfl ?_); refine Kd.R_lit (Kd.int .i64) _ 3 ?hg (N := 5) ?hd (xs := ([] : List Int)) (inner := []) (ok := fun _ => True) (okp := fun _ => True) ?hr ?hp (fun _ hk => hk) trivial (Below.refl _ _) (Nat.le_refl _) (by simp) ?_; (case hd => rfl); (case hg => rfl); (case hr => first | (go_simp; done) | (go_simp; rfl)); (case hp => exact (Reps.none _ _)); intro v314 w2 ho3 hb hg_ hnew_; clear hg_ hnew_; (first | rw [← Ny313.out] at ho3 | (simp only [Int.reduceToNat] at ho3; rw [← Ny313.out] at ho3)); have HO315 := zM (Kd.R_lower ho3 (below_size zB)); replace HB := zM (below_step zB hb); clear hb ho3))
 go_loopg [3, 6] k (fun kq v3 v6 w' => ∃ (x3_1 : List Int) (x6_1 : Int), v6 = .int .i64 x6_1 ∧ Aside0 (impl_bag_list.l0 kq a0 x3_1 x6_1 = some r) ∧ Aside0 (kq ≤ k) ∧ Aside0 (Kd.R (Kd.int .i64) 3 w' w.heap.size (fun _ => True) v3 x3_1) ∧ Aside0 (Below w.heap.size w w'))
 case atStart => exact ⟨(y313), (0), (by first | rfl | (simp; done) | (simp [*]; done)), H', ⟨Nat.le_refl _⟩, ⟨zR HO315.out⟩, ⟨zB⟩⟩
 case round =>
  clear H'
  try clear p2
  obtain ⟨x3_1, x6_1, rfl, HA, HK1, HO_3, HB⟩ := hrel
  cases gk with
  | zero => exact absurd HA.out (by simp [impl_bag_list.l0])
  | succ k1 =>
   have H := HA.out
   clear HA
   simp only [impl_bag_list.l0] at H
   by_cases c4 : x6_1 < 8
   · rw [if_pos c4] at H
     have c4b0 := decide_eq_true c4
     clear c4
     by_cases c5 : 0 ≤ x6_1
     · rw [if_pos c5] at H
       have c5b0 := eq_true c5
       have c5b1 : decide (0 ≤ x6_1) = true := decide_eq_true c5
       clear c5
       obtain ⟨ji6, hji6⟩ : ∃ j_ : Int, (shr .u64 a0 x6_1) = j_ := ⟨_, rfl⟩
       replace H : (if (Go.bits .and .u64 (ji6) 1) = 1 then (if x3_1.length < 17592186044416 then (impl_bag_list.l0 k1 a0 (x3_1 ++ [x6_1]) (wrap64 (x6_1 + 1))) else (none)) else (impl_bag_list.l0 k1 a0 x3_1 (wrap64 (x6_1 + 1)))) = some r := by first | (rw [hji6] at H; exact H) | (simp only [hji6] at H ⊢; exact H)
       have hji6_ : (a0 / 2 ^ min x6_1.toNat 64) = ji6 := hji6
       have hji6z : x6_1 ≤ 64 → (a0 / 2 ^ x6_1.toNat) = ji6 := shr_small hji6
       by_cases c7 : (Go.bits .and .u64 (ji6) 1) = 1
       · rw [if_pos c7] at H
         have c7b0 : ((Go.bits .and .u64 (ji6) 1) == 1) = true := beq_iff_eq.mpr c7
         have c7b1 : ((Go.bits .and .u64 (ji6) 1) != 1) = false := bne_eq_false_iff_eq.mpr c7
         clear c7
         by_cases c8 : x3_1.length < 17592186044416
         · rw [if_pos c8] at H
           have LMc8 := Aside0.mk c8
           clear c8
           obtain ⟨y316, hy316⟩ : ∃ y_ : List Int, y_ = (x3_1 ++ [x6_1]) := ⟨_, rfl⟩
           replace H : (impl_bag_list.l0 k1 a0 y316 (wrap64 (x6_1 + 1))) = some r := by first | (rw [hy316]; with_reducible exact H) | (have H2_ := (Option.bind_some _ _).symm.trans H; rw [hy316]; with_reducible exact H2_) | (have H2_ := (Option.bind_some _ _).symm.trans H; with_reducible exact H2_) | with_reducible exact H | (rw [hy316]; exact H) | exact H
           have Ny316 := Aside0.mk hy316
           clear hy316
           have H' := Aside0.mk H
           clear H
           go_wp2_with (first | ((with_reducible refine gate_builtin (b := .append) (xs := #[.tmp 14, .tmp 16]) rfl ?_); at_builtin; refine Kd.R_append (Kd.int .i64) (w0 := w) w.heap.size rfl (.tmp 14) (.tmp 16) 39 3 (.int .i64 0) 8 rfl Try.underlying39 info3 rfl (by decide) (by omega) u3 x3_1 x6_1 [.int .i64 x6_1] (fun _ => True) (fun _ => False) rfl rfl ?aP (fun _ hk => hk.elim) ?aF ?aO ?aB ?aS ?aL ?_; (case aP => exact rfl); (case aB => exact zB); (case aF => exact (fun _ _ => trivial)); (case aO => exact (zR HO_3.out)); (case aS => exact (below_size zB)); (case aL => have := LMc8.out; omega); intro v317 w9 ho hb hg hat; rw [← Ny316.out] at ho; replace HB := zM (hb); have HO318 := zM (ho); clear HO_3; clear ho hb hg hat))
           go_roundg k1
           case measure => have := HK1.out; omega
           case rel => exact ⟨(y316), (wrap64 (x6_1 + 1)), (by first | rfl | (simp; done) | (simp [*]; done)), H', ⟨by have := HK1.out; omega⟩, ⟨zR HO318.out⟩, ⟨zB⟩⟩
         · rw [if_neg c8] at H
           exact absurd H (by simp)
       · rw [if_neg c7] at H
         have c7b0 : ((Go.bits .and .u64 (ji6) 1) == 1) = false := beq_eq_false_iff_ne.mpr c7
         have c7b1 : ((Go.bits .and .u64 (ji6) 1) != 1) = true := bne_iff_ne.mpr c7
         have H' := Aside0.mk H
         clear H
         go_wp2
         go_roundg k1
         case measure => have := HK1.out; omega
         case rel => exact ⟨(x3_1), (wrap64 (x6_1 + 1)), (by first | rfl | (simp; done) | (simp [*]; done)), H', ⟨by have := HK1.out; omega⟩, ⟨zR HO_3.out⟩, ⟨zB⟩⟩
     · rw [if_neg c5] at H
       exact absurd H (by simp)
   · rw [if_neg c4] at H
     have c4b0 : decide (x6_1 < 8) = false := decide_eq_false c4
     clear c4
     obtain rfl := Option.some.inj H
     go_wp2
     go_ret
     exact ⟨_, by first | rfl | (simp [errW_none, errW_some] <;> rfl) | (simp [*, errW_none, errW_some] <;> rfl), by (with_reducible repeat (first | apply Kd.R_alloc | apply Kd.R_drewN | apply Kd.R_drew)); exact HO_3.out, zB⟩

/-! ### impl_Graph_all: function 94 -/
def impl_Graph_all.f (a0_0 : Int) (l0_1 : List (S70)) : Option (Int) := if 0 ≤ a0_0 then (some (IntKind.u64.wrap ((shl .u64 1 a0_0) - 1))) else (none)
set_option maxHeartbeats 8000000 in
set_option maxRecDepth 100000 in
theorem impl_Graph_all.calls (a0_0 : Int) (A0_1 : Option Addr) (c0_1 : Nat) (l0_1 : List (S70)) (r : Int) (w : World) (hr0_1 : Kd.C k70 w A0_1 l0_1.length l0_1) (hc0_1 : l0_1.length ≤ c0_1) (h : impl_Graph_all.f a0_0 l0_1 = some r) :
 Calls Try.prog 94 #[.agg #[.int .i64 a0_0, .slice A0_1 l0_1.length c0_1]] w fun e w' => e = .returned (.int .u64 r) ∧ Below w.heap.size w w' := by
 have hu28 := Try.underlying28
 have HR0_1 := Aside0.mk hr0_1
 have HC0_1 := Aside0.mk hc0_1
 clear hr0_1 hc0_1
 have HB := zM (Below.refl w.heap.size w)
 have H : (if 0 ≤ a0_0 then (some (IntKind.u64.wrap ((shl .u64 1 a0_0) - 1))) else (none)) = some r := h
 clear h
 by_cases c2 : 0 ≤ a0_0
 · rw [if_pos c2] at H
   have c2b0 := eq_true c2
   have c2b1 : decide (0 ≤ a0_0) = true := decide_eq_true c2
   clear c2
   obtain ⟨ji3, hji3⟩ : ∃ j_ : Int, (shl .u64 1 a0_0) = j_ := ⟨_, rfl⟩
   replace H : (some (IntKind.u64.wrap ((ji3) - 1))) = some r := by first | (rw [hji3] at H; exact H) | (simp only [hji3] at H ⊢; exact H)
   have hji3_ : (IntKind.u64.wrap (1 * 2 ^ min a0_0.toNat 64)) = ji3 := hji3
   have hji3z : a0_0 ≤ 64 → (IntKind.u64.wrap (1 * 2 ^ a0_0.toNat)) = ji3 := shl_small hji3
   have hji3u : (IntKind.u64.wrap (2 ^ min a0_0.toNat 64)) = ji3 := by have h_ := hji3_; rw [Int.one_mul] at h_; exact h_
   have hji3v : a0_0 ≤ 64 → (IntKind.u64.wrap (2 ^ a0_0.toNat)) = ji3 := fun hle_ => by have h_ := hji3z hle_; rw [Int.one_mul] at h_; exact h_
   obtain rfl := Option.some.inj H
   go_enter Try.func94, Try.ntmps94
   go_wp2_with (first | ((with_reducible refine gate_dst (N := 1) rfl ?_); refine zb (w := w) 1 #[.int .i64 a0_0, .slice A0_1 l0_1.length c0_1] 28 zB ?_; clear HB; intro gb319 w4 HB BK319 GW319; have GE319 := GW319; have hcz5_0 := zy BK319 0; have hcz5_1 := zy BK319 1; have hfz5_0 := blk_frozen BK319.out 0; have hfz5_1 := blk_frozen BK319.out 1))
   go_ret
   exact ⟨by first | rfl | (simp [errW_none, errW_some] <;> rfl) | (simp only [← hji3]; first | rfl | (simp [errW_none, errW_some] <;> rfl)) | (simp [*, errW_none, errW_some] <;> rfl), zB⟩
 · rw [if_neg c2] at H
   exact absurd H (by simp)

end Go.Proofs.Ytadjbmcfgjmhkaa.P
namespace Go.Proofs.Ytadjbmcfgjmhkaa.P
open Go.RowKit Go.Proofs.YtadjbmcfgjmhkaaW.PrintWords Go.Proofs.YtadjbmcfgjmhkaaW.PrintLast Go.Proofs.YtadjbmcfgjmhkaaW.PrintMore
attribute [local go_sem] max2_int min2_int max_two min_two max_three min_three max_four min_four   -- for this text's walks alone
set_option linter.unusedVariables false
set_option linter.unusedSimpArgs false

/-! ### impl_bag_has: function 98 -/
def impl_bag_has.f (a0 : Int) (a1 : Int) : Option (Bool) := if 0 ≤ a1 then (some ((Go.bits .and .u64 (shr .u64 a0 a1) 1) == 1)) else (none)
set_option maxHeartbeats 8000000 in
set_option maxRecDepth 100000 in
theorem impl_bag_has.calls (a0 : Int) (a1 : Int) (r : Bool) (w : World) (h : impl_bag_has.f a0 a1 = some r) :
 Calls Try.prog 98 #[.int .u64 a0, .int .i64 a1] w fun e w' => e = .returned (.bool r) ∧ Drawn0 w w' := by
 have H : (if 0 ≤ a1 then (some ((Go.bits .and .u64 (shr .u64 a0 a1) 1) == 1)) else (none)) = some r := h
 clear h
 by_cases c3 : 0 ≤ a1
 · rw [if_pos c3] at H
   have c3b0 := eq_true c3
   have c3b1 : decide (0 ≤ a1) = true := decide_eq_true c3
   clear c3
   obtain ⟨ji4, hji4⟩ : ∃ j_ : Int, (shr .u64 a0 a1) = j_ := ⟨_, rfl⟩
   replace H : (some ((Go.bits .and .u64 (ji4) 1) == 1)) = some r := by first | (rw [hji4] at H; exact H) | (simp only [hji4] at H ⊢; exact H)
   have hji4_ : (a0 / 2 ^ min a1.toNat 64) = ji4 := hji4
   have hji4z : a1 ≤ 64 → (a0 / 2 ^ a1.toNat) = ji4 := shr_small hji4
   obtain rfl := Option.some.inj H
   go_enter Try.func98, Try.ntmps98
   go_wp2
   go_ret
   exact ⟨by first | rfl | (simp; done) | (simp only [← hji4] <;> (first | rfl | simp)) | (simp [*]; done), by repeat (first | exact Drawn0.refl _ | apply Drawn0.step)⟩
 · rw [if_neg c3] at H
   exact absurd H (by simp)

end Go.Proofs.Ytadjbmcfgjmhkaa.P
namespace Go.Proofs.Ytadjbmcfgjmhkaa.P
open Go.RowKit Go.Proofs.YtadjbmcfgjmhkaaW.PrintWords Go.Proofs.YtadjbmcfgjmhkaaW.PrintLast Go.Proofs.YtadjbmcfgjmhkaaW.PrintMore
set_option linter.unusedVariables false

def hasI (b y : Int) : Bool := Go.bits .and .u64 (shr .u64 b y) 1 == 1
def addI (b x : Int) : Int := Go.bits .or .u64 b (shl .u64 1 x)
theorem addI_fin : ∀ b : Fin 256, ∀ x : Fin 8, (0 ≤ addI b x ∧ addI b x < 256) ∧ ∀ y : Fin 8, hasI (addI b x) y = (hasI b y || decide (y = x)) := by decide +kernel
theorem hasI_zero : ∀ y : Fin 8, hasI 0 y = false := by decide +kernel
theorem fin_of {n : Nat} {b : Int} (h : 0 ≤ b) (h2 : b < (n : Int)) : ∃ i : Fin n, b = ((i.val : Nat) : Int) := ⟨⟨b.toNat, by omega⟩, by show b = ((b.toNat : Nat) : Int); omega⟩
theorem addI_at {b x : Int} (hb : 0 ≤ b ∧ b < 256) (hx : 0 ≤ x ∧ x < 8) : (0 ≤ addI b x ∧ addI b x < 256) ∧ ∀ y, 0 ≤ y → y < 8 → hasI (addI b x) y = (hasI b y || decide (y = x)) := by
  obtain ⟨i, rfl⟩ := fin_of (n := 256) hb.1 hb.2
  obtain ⟨j, rfl⟩ := fin_of (n := 8) hx.1 hx.2
  have h := addI_fin i j
  refine ⟨h.1, fun y h0 h8 => ?_⟩
  obtain ⟨q, rfl⟩ := fin_of (n := 8) h0 h8
  rw [h.2 q]
  congr 1
  rw [decide_eq_decide]
  omega
theorem hasI_nil {y : Int} (h0 : 0 ≤ y) (h8 : y < 8) : hasI 0 y = false := by
  obtain ⟨q, rfl⟩ := fin_of (n := 8) h0 h8
  exact hasI_zero q
theorem bag_has_at {b y : Int} (h0 : 0 ≤ y) : impl_bag_has.f b y = some (hasI b y) := by
  unfold impl_bag_has.f
  rw [if_pos h0]
  rfl
/-- What a set's bag is. -/
def bagI (b : Int) (l : List Int) : Int := l.foldl addI b
theorem bagI_at (l : List Int) : ∀ (b : Int), 0 ≤ b ∧ b < 256 → (∀ x ∈ l, 0 ≤ x ∧ x < 8) → (0 ≤ bagI b l ∧ bagI b l < 256) ∧ ∀ y, 0 ≤ y → y < 8 → hasI (bagI b l) y = (hasI b y || decide (y ∈ l)) := by
  induction l with
  | nil => intro b hb _; exact ⟨hb, fun y _ _ => by simp [bagI]⟩
  | cons x t ih =>
    intro b hb hx
    have h1 := addI_at hb (hx x (List.mem_cons_self ..))
    have h2 := ih (addI b x) h1.1 (fun z hz => hx z (List.mem_cons_of_mem _ hz))
    refine ⟨h2.1, fun y h0 h8 => ?_⟩
    have := h2.2 y h0 h8
    rw [show bagI b (x :: t) = bagI (addI b x) t from rfl, this, h1.2 y h0 h8, Bool.or_assoc]
    congr 1
    rw [Bool.eq_iff_iff]
    simp only [Bool.or_eq_true, decide_eq_true_eq, List.mem_cons]
theorem bagOf_loop (l : List Int) (hl : l.length ≤ 1048576) (hx : ∀ x ∈ l, 0 ≤ x ∧ x < 8) (d : Nat) : ∀ (b : Int) (m : Nat), l.length - m = d → m ≤ l.length →
    Ev (fun k => impl_bagOf.l0 k b l (l.length : Int) (m : Int)) (bagI b (l.drop m)) := by
  induction d with
  | zero =>
    intro b m h0 h1
    refine Ev.step (fun k => by rw [impl_bagOf.l0]) (Ev.neg (by omega) ?_)
    rw [List.drop_eq_nil_of_le (by omega)]
    exact Ev.now _
  | succ d ih =>
    intro b m h0 h1
    have hm : m < l.length := by omega
    have := hx l[m] (List.getElem_mem hm)
    refine Ev.step (fun k => by rw [impl_bagOf.l0]) (Ev.pos (by omega) (Ev.pos (by omega) (Ev.pos (by omega) ?_)))
    rw [rd_at l m hm, List.drop_eq_getElem_cons hm, wrap_up hm (by omega)]
    exact Ev.pos this.1 (ih _ (m + 1) (by omega) (by omega))
theorem bagOf_ev (l : List Int) (hl : l.length ≤ 1048576) (hx : ∀ x ∈ l, 0 ≤ x ∧ x < 8) : Ev (fun k => impl_bagOf.f k l) (bagI 0 l) :=
  bagOf_loop l hl hx l.length 0 0 (by omega) (Nat.zero_le _)
end Go.Proofs.Ytadjbmcfgjmhkaa.P
namespace Go.Proofs.Ytadjbmcfgjmhkaa.P
open Go.RowKit Go.Proofs.YtadjbmcfgjmhkaaW.PrintWords Go.Proofs.YtadjbmcfgjmhkaaW.PrintLast Go.Proofs.YtadjbmcfgjmhkaaW.PrintMore
set_option linter.unusedVariables false

theorem l1Has_loop (l : List Int) (x : Int) (hl : l.length ≤ 1048576) (d : Nat) : ∀ (m : Nat), l.length - m = d → m ≤ l.length → Ev (fun k => spec_l1Has.l0 k l x (m : Int)) (decide (x ∈ l.drop m)) := by
  induction d with
  | zero =>
    intro m h0 h1
    refine Ev.step (fun k => by rw [spec_l1Has.l0]) (Ev.neg (by omega) ?_)
    rw [List.drop_eq_nil_of_le (by omega), decide_eq_false (by simp)]
    exact Ev.now _
  | succ d ih =>
    intro m h0 h1
    have hm : m < l.length := by omega
    refine Ev.step (fun k => by rw [spec_l1Has.l0]) (Ev.pos (by omega) (Ev.pos (by omega) ?_))
    rw [rd_at l m hm, List.drop_eq_getElem_cons hm, wrap_up hm (by omega)]
    by_cases c : l[m] = x
    · rw [decide_eq_true (by rw [c]; exact List.mem_cons_self ..)]
      exact Ev.pos c (Ev.now _)
    · have h := ih (m + 1) (by omega) (by omega)
      rw [show decide (x ∈ l[m] :: l.drop (m + 1)) = decide (x ∈ l.drop (m + 1)) from by
        rw [decide_eq_decide, List.mem_cons]
        exact ⟨fun h => h.resolve_left (fun h => c h.symm), .inr⟩]
      exact Ev.neg c h
theorem l1Has_ev (l : List Int) (x : Int) (hl : l.length ≤ 1048576) : Ev (fun k => spec_l1Has.f k l x) (decide (x ∈ l)) := by
  have := l1Has_loop l x hl l.length 0 (by omega) (Nat.zero_le _)
  unfold spec_l1Has.f
  simpa only [List.drop_zero, Int.natCast_zero] using this
/-- The numbers of a row of d from y on that pass. -/
def selI (f : Int → Bool) : Nat → Int → List Int
  | 0, _ => []
  | d + 1, y => (if f y = true then [y] else []) ++ selI f d (y + 1)
theorem selI_len (f : Int → Bool) (d : Nat) : ∀ y, (selI f d y).length ≤ d := by
  induction d with
  | zero => intro y; simp [selI]
  | succ d ih =>
    intro y
    have := ih (y + 1)
    simp only [selI, List.length_append]
    split <;> simp only [List.length_nil, List.length_cons] <;> omega
theorem selI_congr (f g : Int → Bool) (d : Nat) : ∀ y, (∀ z, y ≤ z → z < y + (d : Int) → f z = g z) → selI f d y = selI g d y := by
  induction d with
  | zero => intro y _; rfl
  | succ d ih =>
    intro y h
    simp only [selI]
    rw [h y (by omega) (by omega), ih (y + 1) (fun z h1 h2 => h z (by omega) (by omega))]
theorem selI_none (f : Int → Bool) (d : Nat) : ∀ y, (∀ z, y ≤ z → z < y + (d : Int) → f z = false) → selI f d y = [] := by
  induction d with
  | zero => intro y _; rfl
  | succ d ih =>
    intro y h
    simp only [selI]
    rw [h y (by omega) (by omega), ih (y + 1) (fun z h1 h2 => h z (by omega) (by omega))]
    rfl
theorem selI_add (f : Int → Bool) (d e : Nat) : ∀ y, selI f (d + e) y = selI f d y ++ selI f e (y + (d : Int)) := by
  induction d with
  | zero => intro y; simp [selI]
  | succ d ih =>
    intro y
    rw [show d + 1 + e = (d + e) + 1 by omega]
    simp only [selI]
    rw [ih (y + 1), List.append_assoc, show y + 1 + (d : Int) = y + ((d + 1 : Nat) : Int) by omega]
theorem selI_mem (f : Int → Bool) (d : Nat) : ∀ y z, z ∈ selI f d y ↔ (y ≤ z ∧ z < y + (d : Int)) ∧ f z = true := by
  induction d with
  | zero => intro y z; simp only [selI, List.not_mem_nil, false_iff]; omega
  | succ d ih =>
    intro y z
    simp only [selI, List.mem_append, ih]
    by_cases c : f y = true
    · rw [if_pos c, List.mem_singleton]
      constructor
      · rintro (rfl | h)
        · exact ⟨by omega, c⟩
        · exact ⟨by omega, h.2⟩
      · rintro ⟨h, hf⟩
        by_cases hz : z = y
        · exact .inl hz
        · exact .inr ⟨by omega, hf⟩
    · rw [if_neg c]
      constructor
      · rintro (h | h)
        · simp at h
        · exact ⟨by omega, h.2⟩
      · rintro ⟨h, hf⟩
        by_cases hz : z = y
        · subst hz; exact absurd hf c
        · exact .inr ⟨by omega, hf⟩
def allI (n : Int) : Int := IntKind.u64.wrap ((shl .u64 1 n) - 1)
def lessI (b c : Int) : Int := Go.bits .andNot .u64 b c
theorem bag_list_loop (b : Int) (d : Nat) : ∀ (y : Int) (acc : List Int), (8 - y).toNat = d → 0 ≤ y → acc.length + d ≤ 1000 → Ev (fun k => impl_bag_list.l0 k b acc y) (acc ++ selI (hasI b) d y) := by
  induction d with
  | zero =>
    intro y acc h0 h1 h2
    refine Ev.step (fun k => by rw [impl_bag_list.l0]) (Ev.neg (by omega) ?_)
    simp only [selI, List.append_nil]
    exact Ev.now _
  | succ d ih =>
    intro y acc h0 h1 h2
    refine Ev.step (fun k => by rw [impl_bag_list.l0]) (Ev.pos (by omega) (Ev.pos (by omega) ?_))
    have hw : wrap64 (y + 1) = y + 1 := wrap_nat (by omega) (by omega)
    rw [hw, selI]
    by_cases c : hasI b y = true
    · rw [if_pos c, ← List.append_assoc]
      refine Ev.pos (by simpa only [hasI, beq_iff_eq] using c) (Ev.pos (by omega) ?_)
      exact ih (y + 1) _ (by omega) (by omega) (by rw [List.length_append, List.length_singleton]; omega)
    · rw [if_neg c, List.nil_append]
      exact Ev.neg (by simpa only [hasI, beq_iff_eq] using c) (ih (y + 1) acc (by omega) (by omega) (by omega))
theorem bag_list_ev (b : Int) : Ev (fun k => impl_bag_list.f k b) (selI (hasI b) 8 0) := by
  unfold impl_bag_list.f
  have := bag_list_loop b 8 0 [] (by omega) (by omega) (by simp)
  simpa only [List.nil_append] using this
end Go.Proofs.Ytadjbmcfgjmhkaa.P
namespace Go.Proofs.Ytadjbmcfgjmhkaa.P
open Go.RowKit Go.Proofs.YtadjbmcfgjmhkaaW.PrintWords Go.Proofs.YtadjbmcfgjmhkaaW.PrintLast Go.Proofs.YtadjbmcfgjmhkaaW.PrintMore
set_option linter.unusedVariables false
set_option linter.unusedSimpArgs false

theorem compare_CmpL : CmpL 83 cmpL := by
  intro W x y A B c c' hx hc hy hc'
  refine (slices_Compare_int_int.calls (x.length + 1) A c x B c' y (cmpL x y) W hx hc hy hc' (slices_Compare_at x y hx.2.1 _ (Nat.lt_succ_self _))).mono ?_
  rintro e w' ⟨rfl, ⟨n, rfl⟩⟩
  exact ⟨rfl, n, #[], (Sort.grow_empty _).symm⟩
theorem ltOf_cmpL : ltOf cmpL = befL := by
  funext x y
  unfold ltOf
  rw [Bool.eq_iff_iff, decide_eq_true_eq]
  exact cmpL_neg x y
theorem swo_befL : Sort.SWO befL := ⟨befL_irrefl, fun x y z => befL_trans x y z, fun x y z => befL_ntrans⟩
theorem sortLists.calls (P0_ : Nat → Prop) (u9000_ : Value) (l0 : List (List Int)) (w0 w : World) (hB : Below w0.heap.size w0 w) (ho0 : Kd.S (Kd.slice 3 (Kd.int .i64)) 39 w w0.heap.size P0_ u9000_ l0) (hlen : l0.length < 4611686018427387904) :
    Calls Try.prog 82 #[u9000_, .func (.func 83) #[] #[]] w fun e w' => e = .returned (.tuple #[]) ∧ Kd.S (Kd.slice 3 (Kd.int .i64)) 39 w' w0.heap.size (fun k_ => (P0_ k_ ∨ w.heap.size ≤ k_)) u9000_ (sortLL l0) ∧ Below w0.heap.size w0 w' ∧ Kept w w' (fun k_ => P0_ k_) := by
  have h := sortFunc_lists Try.laysSlF6_f82 Try.laysSlF06_f82 82 rfl rfl cmpL (by rw [ltOf_cmpL]; exact swo_befL) (by rw [ltOf_cmpL]; exact befL_tri) 83 (enters_of Try.func83 (by kernel_rfl) rfl) compare_CmpL P0_ u9000_ l0 w0 w hB ho0 hlen
  rw [ltOf_cmpL] at h
  exact h
/-- The sets of the codes below n of which p is so. -/
def codesL (p : Int → Bool) (n : Nat) : List (List Int) := (selI p n 0).map fun b => selI (hasI b) 8 0
theorem codesL_succ (p : Int → Bool) (n : Nat) : codesL p (n + 1) = codesL p n ++ (if p (n : Int) = true then [selI (hasI (n : Int)) 8 0] else []) := by
  unfold codesL
  rw [selI_add, List.map_append]
  congr 1
  simp only [selI, List.append_nil, Int.zero_add]
  split <;> rfl
theorem codesL_len (p : Int → Bool) (n : Nat) : (codesL p n).length ≤ n := by
  unfold codesL
  rw [List.length_map]
  exact selI_len p n 0
theorem allI_pow : ∀ n : Fin 9, allI n = ((2 ^ n.val - 1 : Nat) : Int) := by decide +kernel
theorem all_at (a : Int) (l : List S70) (h0 : 0 ≤ a) (h8 : a ≤ 8) : impl_Graph_all.f a l = some ((2 ^ a.toNat - 1 : Nat) : Int) := by
  unfold impl_Graph_all.f
  rw [if_pos h0]
  obtain ⟨i, rfl⟩ := fin_of (n := 9) h0 (by omega)
  exact congrArg some (allI_pow i)
/-- Function g, bound to the variables lb, answers p of a set's code; memory that was there stays. -/
def PredN (g : Nat) (lb : Array Value) (p : Int → Bool) (N : Nat) (w : World) : Prop :=
  ∀ (W : World) (b : Int), 0 ≤ b → b < (N : Int) → Below w.heap.size w W → Calls Try.prog g (#[.int .u64 b] ++ lb) W fun e w' => e = .returned (.bool (p b)) ∧ Below W.heap.size W w'
theorem PredN.mono {g : Nat} {lb : Array Value} {p : Int → Bool} {N : Nat} {w w' : World} (h : PredN g lb p N w) (hb : Below w.heap.size w w') : PredN g lb p N w' := fun W b h0 h1 h2 => h W b h0 h1 (below_step hb h2)
set_option maxRecDepth 100000 in
set_option maxHeartbeats 2000000 in
theorem sets_calls (g : Nat) (lb : Array Value) (eg : ∀ (args : Array Value) (w : World), (callFunc g args).run Try.prog w = .ok (.enter g args) w) (p : Int → Bool) (a0 : Int) (h0 : 0 ≤ a0) (h8 : a0 ≤ 8) (A1 : Option Addr) (c1 : Nat) (l1 : List S70) (w : World)
    (hr : Kd.C k70 w A1 l1.length l1) (hc : l1.length ≤ c1) (hp : PredN g lb p (2 ^ a0.toNat) w) :
    Calls Try.prog 68 #[.agg #[.int .i64 a0, .slice A1 l1.length c1], .func (.func g) #[] lb] w fun e w' => ∃ v : Value, e = .returned v ∧ Kd.S (Kd.slice 3 (Kd.int .i64)) 39 w' w.heap.size (fun _ => True) v (sortLL (codesL p (2 ^ a0.toNat))) ∧ Below w.heap.size w w' := by
  have hu43 := Try.underlying28
  have hpow : 2 ^ a0.toNat ≤ 256 := Nat.pow_le_pow_right (n := 2) (by decide) (show a0.toNat ≤ 8 by omega)
  have hpos : 0 < 2 ^ a0.toNat := Nat.pow_pos (by decide)
  obtain ⟨M, hM⟩ : ∃ M : Nat, 2 ^ a0.toNat = M + 1 := ⟨2 ^ a0.toNat - 1, by omega⟩
  have hall := all_at a0 l1 h0 h8
  rw [hM, Nat.add_sub_cancel] at hall
  rw [hM] at hpow hp ⊢
  have HAL := zM hall
  have HM := zM hpow
  have HR := zM hr
  have HC := zM hc
  have HP := zM hp
  have HB := zM (Below.refl w.heap.size w)
  clear hr hc hp hall hpow hpos hM h0 h8
  go_enter Try.func68, Try.ntmps68
  go_wp2_with (first | ((with_reducible refine gate_dst (N := 2) rfl ?_); refine zb (w := w) 2 #[.int .i64 a0, .slice A1 l1.length c1] 28 zB ?_; clear HB; intro gb w3 HB BK GW) | ((with_reducible refine gate_dst (N := 7) rfl ?_); refine Kd.S_lit (Kd.slice 3 (Kd.int .i64)) _ 39 ?hg (N := 7) ?hd (xs := ([] : List (List Int))) (inner := []) (ok := fun _ => True) (okp := fun _ => True) ?hr ?hp (fun _ hk => hk) trivial (Below.refl _ _) (Nat.le_refl _) (by simp) ?_; (case hd => rfl); (case hg => rfl); (case hr => first | (go_simp; done) | (go_simp; rfl)); (case hp => exact (Reps.none _ _)); intro v4 w4 ho5 hb hg_ hnew_; clear hg_ hnew_; have HO := zM (Kd.S_lower ho5 (below_size zB)); replace BK := zM (blk_below (zK BK.out) hb); replace HB := zM (below_step zB hb); clear hb ho5))
  go_loopg [5, 6] (M + 2) (fun kq v5 v6 w' => ∃ (m : Nat), v6 = .int .u64 (m : Int) ∧ Aside0 (m ≤ M + 1) ∧ Aside0 (kq = M + 2 - m) ∧ Aside0 (Kd.S (Kd.slice 3 (Kd.int .i64)) 39 w' w.heap.size (fun _ => True) v5 (codesL p m)) ∧ Aside0 (w'.heap[gb]? = some (.cells #[.int .i64 a0, .slice A1 l1.length c1] 28 (0, 0))) ∧ Aside0 (Below w.heap.size w w'))
  case atStart => exact ⟨0, by first | rfl | (simp; done), ⟨Nat.zero_le _⟩, ⟨by omega⟩, HO, BK, HB⟩
  case round =>
    clear HO BK HB
    obtain ⟨m, rfl, HM1, HK1, HO, BK, HB⟩ := hrel
    have hcz0 := zy BK 0
    have hcz1 := zy BK 1
    have hfz0 := blk_frozen BK.out 0
    have hfz1 := blk_frozen BK.out 1
    by_cases c1_ : m ≤ M
    · have q1 : (m : Int) ≤ (M : Int) := by omega
      have c1b : decide ((m : Int) ≤ (M : Int)) = true := decide_eq_true q1
      have c1c : decide (m ≤ M) = true := decide_eq_true c1_
      have HW := zM (show IntKind.u64.wrap ((m : Int) + 1) = ((m + 1 : Nat) : Int) by have := HM.out; show ((m : Int) + 1) % 18446744073709551616 = _; omega)
      have HLe := zM c1_
      have HX := zM (HP.out.mono HB.out)
      have HLn := zM (codesL_len p m)
      have HS := zM (codesL_succ p m)
      obtain ⟨kf, hf⟩ := Ev.rounds (bag_list_ev (m : Int))
      have HF := zM hf
      clear q1 c1_ hf
      cases hq : p (m : Int) with
      | true =>
        rw [hq, if_pos rfl] at HS
        have HQ := zM hq
        clear hq
        generalize codesL p m = xs at HO HLn HS
        go_wp2_with (first
          | (go_at_call 94; refine (impl_Graph_all.calls a0 _ _ l1 (M : Int) _ (zC (Kd.C_below HR.out HB.out)) HC.out HAL.out).mono ?_; rintro e w5 ⟨rfl, hb⟩; replace HO := zM (Kd.S_below HO.out hb); replace BK := zM (blk_below (zK BK.out) hb); replace HX := zM (HX.out.mono hb); replace HB := zM (below_step zB hb); clear hb)
          | (go_at_fn g; refine (HX.out _ (m : Int) (by omega) (by have := HLe.out; omega) (Below.refl _ _)).mono ?_; rw [HQ.out]; rintro e w6 ⟨rfl, hb⟩; replace HO := zM (Kd.S_below HO.out hb); replace BK := zM (blk_below (zK BK.out) hb); replace HB := zM (below_step zB hb); clear hb)
          | (go_at_call 86; refine (impl_bag_list.calls kf _ (selI (hasI (m : Int)) 8 0) _ HF.out).mono ?_; rintro e w7 ⟨v7, rfl, ho0, hb⟩; replace HO := zM (Kd.S_elder' HO.out (Kd.R_base ho0) hb); have HI := zM (Kd.R_lower ho0 (below_size zB)); replace BK := zM (blk_below (zK BK.out) hb); replace HB := zM (below_step zB hb); clear ho0 hb; generalize selI (hasI (m : Int)) 8 0 = row at HI HS; obtain ⟨Ao, co, eo⟩ := Kd.R_slice HI.out; subst eo)
          | ((with_reducible refine gate_builtin (b := .append) (xs := #[.tmp 17, .tmp 20]) rfl ?_); at_builtin; refine Kd.S_append (Kd.slice 3 (Kd.int .i64)) (w0 := w) w.heap.size rfl (.tmp 17) (.tmp 20) 32 39 (.slice none 0 0) 24 rfl Try.underlying32 info39 rfl (by decide) (by omega) u5 xs row [.slice Ao row.length co] (fun _ => True) (fun k_ => some k_ = (.slice Ao row.length co : Value).ownBlock) rfl rfl ?aP (fun k_ hk_ => ((Kd.R_mono (ok' := fun k_ => ((fun _ => True)) k_ ∧ some k_ ≠ (u5 : Value).ownBlock) (Kd.R_apart' (HI.out) (Kd.S_typed HO.out) (by decide)) (fun k_ hk => ⟨trivial, hk.2⟩))).1 k_ hk_.symm) ?aF ?aO ?aB ?aS ?aL ?_; (case aP => exact Kd.M_row (Kd.R_mono (Kd.R_tight rfl (Kd.R_mono (ok' := fun k_ => ((fun _ => True)) k_ ∧ some k_ ≠ (u5 : Value).ownBlock) (Kd.R_apart' (HI.out) (Kd.S_typed HO.out) (by decide)) (fun k_ hk => ⟨trivial, hk.2⟩))) (fun _ h_ => h_))); (case aB => exact zB); (case aF => exact (fun _ _ => trivial)); (case aO => exact (by (with_reducible repeat (first | apply Kd.S_alloc | apply Kd.S_drewN | apply Kd.S_drew)); exact Kd.S_mono HO.out (fun k_ hk => ⟨trivial, fun e_ => hk.2 e_⟩))); (case aS => exact (below_size zB)); (case aL => have := HLn.out; have := HM.out; have := HLe.out; omega); intro v8 w8 ho hb hg hat; rw [← HS.out] at ho; replace BK := zM (blk_grown (zK BK.out) hg (Kd.S_ne HO.out BK.out (by decide))); replace HB := zM hb; replace HO := zM ho; clear ho hb hg hat))
        go_roundg (M + 1 - m)
        case measure => have := HK1.out; have := HLe.out; omega
        case rel => exact ⟨m + 1, by first | rfl | exact congrArg (Value.int .u64) HW.out | (rw [HW.out]; done), ⟨by have := HLe.out; omega⟩, ⟨by omega⟩, HO, BK, HB⟩
      | false =>
        rw [hq, if_neg (by decide), List.append_nil] at HS
        have HQ := zM hq
        clear hq
        rw [← HS.out] at HO
        go_wp2_with (first
          | (go_at_call 94; refine (impl_Graph_all.calls a0 _ _ l1 (M : Int) _ (zC (Kd.C_below HR.out HB.out)) HC.out HAL.out).mono ?_; rintro e w5 ⟨rfl, hb⟩; replace HO := zM (Kd.S_below HO.out hb); replace BK := zM (blk_below (zK BK.out) hb); replace HX := zM (HX.out.mono hb); replace HB := zM (below_step zB hb); clear hb)
          | (go_at_fn g; refine (HX.out _ (m : Int) (by omega) (by have := HLe.out; omega) (Below.refl _ _)).mono ?_; rw [HQ.out]; rintro e w6 ⟨rfl, hb⟩; replace HO := zM (Kd.S_below HO.out hb); replace BK := zM (blk_below (zK BK.out) hb); replace HB := zM (below_step zB hb); clear hb))
        go_roundg (M + 1 - m)
        case measure => have := HK1.out; have := HLe.out; omega
        case rel => exact ⟨m + 1, by first | rfl | exact congrArg (Value.int .u64) HW.out | (rw [HW.out]; done), ⟨by have := HLe.out; omega⟩, ⟨by omega⟩, HO, BK, HB⟩
    · have q1 : ¬ (m : Int) ≤ (M : Int) := by omega
      have c1b : decide ((m : Int) ≤ (M : Int)) = false := decide_eq_false q1
      have c1c : decide (m ≤ M) = false := decide_eq_false c1_
      have hm : m = M + 1 := by have := HM1.out; omega
      have HE := zM hm
      have HLn := zM (codesL_len p m)
      clear q1 c1_ hm
      go_wp2_with (first
          | (go_at_call 94; refine (impl_Graph_all.calls a0 _ _ l1 (M : Int) _ (zC (Kd.C_below HR.out HB.out)) HC.out HAL.out).mono ?_; rintro e w5 ⟨rfl, hb⟩; replace HO := zM (Kd.S_below HO.out hb); replace BK := zM (blk_below (zK BK.out) hb); replace HB := zM (below_step zB hb); clear hb)
          | (go_at_call 82; refine (sortLists.calls (fun _ => True) _ (codesL p m) w _ HB.out HO.out (by have := HLn.out; have := HE.out; have := HM.out; omega)).mono ?_; rintro e w9 ⟨rfl, ho, hb, hk⟩; replace HO := zM (Kd.S_mono (ok' := fun _ => True) ho (fun _ _ => trivial)); replace HB := zM hb; clear ho hb hk))
      go_ret
      exact ⟨_, rfl, by rw [← HE.out]; exact HO.out, HB.out⟩
end Go.Proofs.Ytadjbmcfgjmhkaa.P
namespace Go.Proofs.Ytadjbmcfgjmhkaa.P
open Go.RowKit Go.Proofs.YtadjbmcfgjmhkaaW.PrintWords Go.Proofs.YtadjbmcfgjmhkaaW.PrintLast Go.Proofs.YtadjbmcfgjmhkaaW.PrintMore
set_option linter.unusedVariables false
set_option linter.unusedSimpArgs false

def bothB (a1 : Int) (s : S70) : Bool := (impl_bag_has.f a1 s.f0).getD false && (impl_bag_has.f a1 s.f1).getD false
def impl_Graph_isFree.f (a0_0 : Int) (l0_1 : List S70) (a1 : Int) : Option Bool :=
  if l0_1.all (fun s => (impl_bag_has.f a1 s.f0).isSome && (impl_bag_has.f a1 s.f1).isSome) then some (!(l0_1.any (bothB a1))) else none
set_option maxHeartbeats 1000000 in
theorem isFree1_any (gb : Nat) (a1 : Int) (s : S70) (x y : Bool) (hx : impl_bag_has.f a1 s.f0 = some x) (hy : impl_bag_has.f a1 s.f1 = some y) (W : World) (hl : W.cell? ⟨gb, 0, none⟩ = some (.int .u64 a1)) :
    Calls Try.prog 97 (#[.agg #[.int .i64 s.f0, .int .i64 s.f1]] ++ #[.pointer (some ⟨gb, 0, none⟩)]) W fun e w' => e = .returned (.bool (x && y)) ∧ Below W.heap.size W w' := by
  have HX := Aside0.mk hx
  have HY := Aside0.mk hy
  clear hx hy
  show Calls Try.prog 97 #[.agg #[.int .i64 s.f0, .int .i64 s.f1], .pointer (some ⟨gb, 0, none⟩)] W _
  have hl2 := fun o : Obj => pw_cell_below (below_alloc (Below.refl W.heap.size W) o) hl
  go_enter Try.func97, Try.ntmps97
  go_wp2_with fail
  go_at_call 98
  refine (impl_bag_has.calls _ _ x _ HX.out).mono ?_
  rintro e w' ⟨rfl, ⟨n1, rfl⟩⟩
  cases x with
  | true =>
    go_wp2_with fail
    go_at_call 98
    refine (impl_bag_has.calls _ _ y _ HY.out).mono ?_
    rintro e w' ⟨rfl, ⟨n2, rfl⟩⟩
    go_wp2
    go_ret
    exact ⟨by first | rfl | (simp; done), by repeat (first | exact Below.refl _ _ | apply below_alloc | apply pw_below_drewN | apply below_drew1)⟩
  | false =>
    go_wp2
    go_ret
    exact ⟨by first | rfl | (simp; done), by repeat (first | exact Below.refl _ _ | apply below_alloc | apply pw_below_drewN | apply below_drew1)⟩
set_option maxHeartbeats 1000000 in
theorem impl_Graph_isFree.calls (a0_0 : Int) (A0_1 : Option Addr) (c0_1 : Nat) (l0_1 : List (S70)) (a1 : Int) (r : Bool) (w : World) (hr0_1 : Kd.C k70 w A0_1 l0_1.length l0_1) (hc0_1 : l0_1.length ≤ c0_1) (h : impl_Graph_isFree.f a0_0 l0_1 a1 = some r) :
    Calls Try.prog 71 #[.agg #[.int .i64 a0_0, .slice A0_1 l0_1.length c0_1], .int .u64 a1] w fun e w' => e = .returned (.bool r) ∧ Below w.heap.size w w' := by
  unfold impl_Graph_isFree.f at h
  by_cases hall : l0_1.all (fun s => (impl_bag_has.f a1 s.f0).isSome && (impl_bag_has.f a1 s.f1).isSome) = true
  case neg => rw [if_neg hall] at h; cases h
  rw [if_pos hall] at h
  obtain rfl := Option.some.inj h
  have HP := fun (W : World) (gb : Nat) (hl : W.cell? ⟨gb, 0, none⟩ = some (.int .u64 a1)) =>
    Aside0.mk (show PredB 97 #[.pointer (some ⟨gb, 0, none⟩)] (fun x : S70 => Value.agg #[.int .i64 x.f0, .int .i64 x.f1]) (bothB a1) l0_1 W from fun W' x hx hb => by
      have hs := List.all_eq_true.1 hall x hx
      rw [Bool.and_eq_true] at hs
      obtain ⟨b1, h1⟩ := Option.isSome_iff_exists.1 hs.1
      obtain ⟨b2, h2⟩ := Option.isSome_iff_exists.1 hs.2
      have := isFree1_any gb a1 x b1 b2 h1 h2 W' (pw_cell_below hb hl)
      unfold bothB
      rw [h1, h2]
      exact this)
  have HR0 := Aside0.mk hr0_1
  clear hr0_1 hall h
  generalize hg : l0_1.any (bothB a1) = b
  have HG := Aside0.mk hg
  clear hg
  have HB1 := Aside0.mk (below_alloc (below_alloc (Below.refl w.heap.size w) (.cells #[.int .i64 a0_0, .slice A0_1 l0_1.length c0_1] 28)) (.cells #[.int .u64 a1] 74))
  go_enter Try.func71, Try.ntmps71
  go_wp2_with fail
  go_at_call 96
  refine (cont_prs _ _ (enters_of Try.func97 (by kernel_rfl) rfl) _ A0_1 c0_1 l0_1 _ (Kd.C_below HR0.out HB1.out) (HP _ _ (by go_simp)).out).mono ?_
  rintro e w' ⟨rfl, hb⟩
  rw [HG.out]
  have HB := Aside0.mk (below_step HB1.out hb)
  clear hb
  go_wp2
  go_ret
  exact ⟨by first | rfl | (simp; done), HB.out⟩
end Go.Proofs.Ytadjbmcfgjmhkaa.P
