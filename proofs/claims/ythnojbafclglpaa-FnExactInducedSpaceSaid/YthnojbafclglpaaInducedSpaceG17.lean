/- What cmp.Compare, slices.Compare and comparePairs compute, in plain words; a binary search in plain words. -/
import Derived.Test.YthnojbafclglpaaInducedSpaceG11
import Derived.Test.YthnojbafclglpaaInducedSpaceG10
import Derived.Test.YthnojbafclglpaaInducedSpaceG16
import Derived.Test.YthnojbafclglpaaInducedSpaceG15
import Derived.Test.YthnojbafclglpaaInducedSpaceG5
import Derived.Test.YthnojbafclglpaaInducedSpaceG6
import Derived.Test.YthnojbafclglpaaInducedSpaceG12
import Derived.Test.YthnojbafclglpaaInducedSpaceG8
import Derived.Test.YthnojbafclglpaaInducedSpaceG14
import Derived.Handy
import Derived.Test.YthnojbafclglpaaInducedSpaceG9
import Derived.Test.YthnojbafclglpaaInducedSpaceG13
namespace Go.Proofs.Ythnojbafclglpaa.P
open Go.RowKit Go.Proofs.YthnojbafclglpaaW.PrintWords Go.Proofs.YthnojbafclglpaaW.PrintLast Go.Proofs.YthnojbafclglpaaW.PrintMore
set_option linter.unusedVariables false
set_option linter.unusedSimpArgs false

def cmpI (a b : Int) : Int := if a < b then -1 else if a > b then 1 else 0
theorem cmp_Compare_at (a b : Int) : cmp_Compare_int.f a b = some (cmpI a b) := by
  unfold cmp_Compare_int.f cmp_isNaN_int.f cmpI
  simp only [Option.bind_some, bne_self_eq_false, Bool.false_eq_true, if_false]
  split
  · rfl
  · split <;> rfl
def cmpL : List Int → List Int → Int
  | [], [] => 0
  | [], _ :: _ => -1
  | _ :: _, [] => 1
  | a :: x, b :: y => if cmpI a b = 0 then cmpL x y else cmpI a b
theorem wrap_succ {m n : Nat} (h : m < n) (hn : n ≤ 9223372036854775807) : wrap64 ((m : Int) + 1) = ((m + 1 : Nat) : Int) := by unfold wrap64; omega
theorem slices_Compare_loop (l0 l1 : List Int) (hl : Aside0 (l0.length ≤ 9223372036854775807)) (d : Nat) : ∀ (k m : Nat), l0.length - m = d → m ≤ l0.length → m ≤ l1.length → d < k →
    slices_Compare_int_int.l0 k l0 l1 l0 (l0.length : Int) (m : Int) = some (cmpL (l0.drop m) (l1.drop m)) := by
  induction d with
  | zero =>
    intro k m h0 h1 h2 hk
    obtain ⟨k, rfl⟩ : ∃ q, k = q + 1 := ⟨k - 1, by omega⟩
    have e : m = l0.length := by omega
    subst e
    rw [slices_Compare_int_int.l0, if_neg (by omega), List.drop_length]
    by_cases h : l0.length < l1.length
    · rw [if_pos (by omega), List.drop_eq_getElem_cons h]; rfl
    · have e3 : l1.drop l0.length = [] := List.drop_eq_nil_of_le (by omega)
      rw [if_neg (by omega), e3]; rfl
  | succ d ih =>
    intro k m h0 h1 h2 hk
    obtain ⟨k, rfl⟩ : ∃ q, k = q + 1 := ⟨k - 1, by omega⟩
    have hm : m < l0.length := by omega
    rw [slices_Compare_int_int.l0, if_pos (by omega), if_pos (by omega), if_pos (by omega)]
    by_cases h : m < l1.length
    · rw [if_neg (by omega), if_pos (by omega), cmp_Compare_at, Option.bind_some]
      have e0 : rd l0 m = l0[m] := by simp [rd, List.getD_eq_getElem?_getD, List.getElem?_eq_getElem hm]
      have e1 : rd l1 m = l1[m] := by simp [rd, List.getD_eq_getElem?_getD, List.getElem?_eq_getElem h]
      rw [e0, e1, List.drop_eq_getElem_cons hm, List.drop_eq_getElem_cons h, cmpL]
      split
      · rw [wrap_succ hm hl.out]
        exact ih k (m + 1) (by omega) (by omega) (by omega) (by omega)
      · rfl
    · have e3 : l1.drop m = [] := List.drop_eq_nil_of_le (by omega)
      rw [if_pos (by omega), List.drop_eq_getElem_cons hm, e3]; rfl
theorem slices_Compare_at (l0 l1 : List Int) (hl : l0.length ≤ 9223372036854775807) (k : Nat) (hk : l0.length < k) : slices_Compare_int_int.f k l0 l1 = some (cmpL l0 l1) :=
  slices_Compare_loop l0 l1 ⟨hl⟩ l0.length k 0 (by omega) (Nat.zero_le _) (Nat.zero_le _) hk
def cmpP (a b : S64) : Int := if cmpI a.f0 b.f0 = 0 then cmpI a.f1 b.f1 else cmpI a.f0 b.f0
theorem comparePairs_at (a b : S64) (k : Nat) (hk : 3 ≤ k) : impl_comparePairs.f k a.f0 a.f1 b.f0 b.f1 = some (cmpP a b) := by
  obtain ⟨k, rfl⟩ : ∃ q, k = q + 3 := ⟨k - 3, by omega⟩
  unfold impl_comparePairs.f cmp_Or_int.f
  simp only [cmp_Compare_at, Option.bind_some]
  unfold cmpP
  generalize cmpI a.f0 b.f0 = x
  generalize cmpI a.f1 b.f1 = y
  have w1 : wrap64 (0 + 1) = 1 := by unfold wrap64; omega
  have w2 : wrap64 (1 + 1) = 2 := by unfold wrap64; omega
  have r0 : rd [x, y] 0 = x := rfl
  have r1 : rd [x, y] 1 = y := rfl
  have hn : (([x, y] : List Int).length : Int) = 2 := rfl
  rw [hn, cmp_Or_int.l0, if_pos (by omega), if_pos (by omega), hn, if_pos (by omega), r0, w1]
  by_cases h : x = 0
  · rw [if_pos h, if_pos h, cmp_Or_int.l0, if_pos (by omega), if_pos (by omega), hn, if_pos (by omega), r1, w2]
    by_cases h2 : y = 0
    · rw [if_pos h2, cmp_Or_int.l0, if_neg (by omega), h2]; rfl
    · rw [if_neg h2]; rfl
  · rw [if_neg h, if_neg h]; rfl
end Go.Proofs.Ythnojbafclglpaa.P
namespace Go.Proofs.Ythnojbafclglpaa.P
open Go.RowKit Go.Proofs.YthnojbafclglpaaW.PrintWords Go.Proofs.YthnojbafclglpaaW.PrintLast Go.Proofs.YthnojbafclglpaaW.PrintMore
set_option linter.unusedVariables false
set_option linter.unusedSimpArgs false

theorem in_at (a lo hi : Int) : spec_l1In.f a lo hi = some (decide (lo ≤ a) && decide (a ≤ hi)) := by
  unfold spec_l1In.f
  by_cases h : lo ≤ a
  · rw [if_pos h, decide_eq_true h, Bool.true_and]
  · rw [if_neg h, decide_eq_false h, Bool.false_and]
theorem between_at (a lo hi : Int) : impl_between.f a lo hi = some (decide (lo ≤ a) && decide (a ≤ hi)) := by
  unfold impl_between.f
  by_cases h : lo ≤ a
  · rw [if_pos h, decide_eq_true h, Bool.true_and]
  · rw [if_neg h, decide_eq_false h, Bool.false_and]
/-- A pair comes before another one. -/
def befP (a b : S64) : Bool := decide (a.f0 < b.f0) || (decide (a.f0 = b.f0) && decide (a.f1 < b.f1))
theorem edge_at (a b : S64) : spec_l2Edge.f a.f0 a.f1 b.f0 b.f1 = some (befP a b) := by
  unfold spec_l2Edge.f befP
  by_cases h : a.f0 < b.f0
  · rw [if_pos h, decide_eq_true h, Bool.true_or]
  · rw [if_neg h, decide_eq_false h, Bool.false_or]
    by_cases h2 : a.f0 = b.f0
    · rw [if_pos h2, decide_eq_true h2, Bool.true_and]
    · rw [if_neg h2, decide_eq_false h2, Bool.false_and]
theorem cmpP_bef (a b : S64) : (cmpP a b < 0) ↔ befP a b = true := by
  unfold cmpP befP cmpI
  simp only [Bool.or_eq_true, Bool.and_eq_true, decide_eq_true_eq]
  by_cases h : a.f0 < b.f0
  · simp [h]
  · by_cases h2 : b.f0 < a.f0
    · have : ¬ a.f0 = b.f0 := by omega
      simp [h, h2, this]
    · have h3 : a.f0 = b.f0 := by omega
      by_cases h4 : a.f1 < b.f1
      · simp [h3, h4]
      · by_cases h5 : b.f1 < a.f1 <;> simp [h3, h4, h5]
/-- Pairs of numbers from 0 on below n, the less one first, strictly ascending behind a first one. -/
def goodP (n : Int) : Option S64 → List S64 → Bool
  | _, [] => true
  | p, e :: t => (decide (0 ≤ e.f0) && decide (e.f0 < e.f1) && decide (e.f1 < n)) && ((match p with | none => true | some q => befP q e) && goodP n (some e) t)
def prevP (l : List S64) : Nat → Option S64
  | 0 => none
  | m + 1 => l[m]?
theorem goodP_step (l : List S64) (n : Int) (m : Nat) (hm : m < l.length) : goodP n (prevP l m) (l.drop m) = ((decide (0 ≤ l[m].f0) && decide (l[m].f0 < l[m].f1) && decide (l[m].f1 < n)) && ((match prevP l m with | none => true | some q => befP q l[m]) && goodP n (prevP l (m + 1)) (l.drop (m + 1)))) := by
  rw [List.drop_eq_getElem_cons hm, show prevP l (m + 1) = some l[m] from List.getElem?_eq_getElem hm]
  cases prevP l m <;> rfl
theorem l2Pairs_loop (l : List S64) (n : Int) (hn : 0 ≤ n) (hn2 : n ≤ 4611686018427387904) (hl : l.length ≤ 1048576) (d : Nat) : ∀ (m : Nat), l.length - m = d → m ≤ l.length →
    Ev (fun k => spec_l2Pairs.l0 k l n (m : Int)) (goodP n (prevP l m) (l.drop m)) := by
  induction d with
  | zero =>
    intro m h0 h1
    refine Ev.step (fun k => by rw [spec_l2Pairs.l0]) ?_
    have e3 : l.drop m = [] := List.drop_eq_nil_of_le (by omega)
    rw [e3]
    refine Ev.neg (by omega) ?_
    cases prevP l m <;> exact Ev.now _
  | succ d ih =>
    intro m h0 h1
    have hm : m < l.length := by omega
    refine Ev.step (fun k => by rw [spec_l2Pairs.l0]) ?_
    rw [goodP_step l n m hm]
    refine Ev.pos (by omega) (Ev.pos (by omega) ?_)
    rw [rdT_at l m hm, wrap_nat (m := n - 1) (by omega) (by omega)]
    have ihm := ih (m + 1) (by omega) (by omega)
    rw [← wrap_up hm (by omega)] at ihm
    generalize goodP n (prevP l (m + 1)) (l.drop (m + 1)) = R at ihm ⊢
    refine Ev.bindo (in_at _ _ _) ?_
    by_cases c1 : 0 ≤ l[m].f0
    · by_cases c2 : l[m].f0 ≤ n - 1
      · refine Ev.pos (by simp [c1, c2]) (Ev.bindo (in_at _ _ _) ?_)
        by_cases c3 : 0 ≤ l[m].f1 ∧ l[m].f1 ≤ n - 1
        · refine Ev.pos (by simp [c3.1, c3.2]) ?_
          by_cases c4 : l[m].f0 ≥ l[m].f1
          · have : (decide (0 ≤ l[m].f0) && decide (l[m].f0 < l[m].f1) && decide (l[m].f1 < n)) = false := by simp; omega
            rw [this, Bool.false_and]
            exact Ev.pos c4 (Ev.now _)
          · have : (decide (0 ≤ l[m].f0) && decide (l[m].f0 < l[m].f1) && decide (l[m].f1 < n)) = true := by simp; omega
            rw [this, Bool.true_and]
            refine Ev.neg c4 ?_
            cases m with
            | zero =>
              refine Ev.neg (by omega) ?_
              simp only [prevP, Bool.true_and]
              exact ihm
            | succ q =>
              have hq : q < l.length := by omega
              have hw : wrap64 (((q + 1 : Nat) : Int) - 1) = (q : Int) := by unfold wrap64; omega
              refine Ev.pos (by omega) ?_
              rw [hw]
              refine Ev.pos (by omega) (Ev.pos (by omega) ?_)
              rw [rdT_at l q hq]
              refine Ev.bindo (edge_at _ _) ?_
              simp only [prevP, List.getElem?_eq_getElem hq]
              cases befP l[q] l[q + 1] with
              | true => rw [Bool.true_and]; exact Ev.pos rfl ihm
              | false => rw [Bool.false_and]; exact Ev.neg (by decide) (Ev.now _)
        · have : (decide (0 ≤ l[m].f0) && decide (l[m].f0 < l[m].f1) && decide (l[m].f1 < n)) = false := by simp; omega
          rw [this, Bool.false_and]
          exact Ev.neg (by simp; omega) (Ev.now _)
      · have : (decide (0 ≤ l[m].f0) && decide (l[m].f0 < l[m].f1) && decide (l[m].f1 < n)) = false := by simp; omega
        rw [this, Bool.false_and]
        exact Ev.neg (by simp; omega) (Ev.now _)
    · have : (decide (0 ≤ l[m].f0) && decide (l[m].f0 < l[m].f1) && decide (l[m].f1 < n)) = false := by simp; omega
      rw [this, Bool.false_and]
      exact Ev.neg (by simp; omega) (Ev.now _)
theorem isPairs_loop (l : List S64) (n : Int) (hl : l.length ≤ 1048576) (d : Nat) : ∀ (m : Nat), l.length - m = d → m ≤ l.length →
    Ev (fun k => impl_isPairs.l0 k l n l (l.length : Int) (m : Int)) (goodP n (prevP l m) (l.drop m)) := by
  induction d with
  | zero =>
    intro m h0 h1
    refine Ev.step (fun k => by rw [impl_isPairs.l0]) ?_
    have e3 : l.drop m = [] := List.drop_eq_nil_of_le (by omega)
    rw [e3]
    refine Ev.neg (by omega) ?_
    cases prevP l m <;> exact Ev.now _
  | succ d ih =>
    intro m h0 h1
    have hm : m < l.length := by omega
    refine Ev.step (fun k => by rw [impl_isPairs.l0]) ?_
    rw [goodP_step l n m hm]
    refine Ev.pos (by omega) (Ev.pos (by omega) (Ev.pos (by omega) ?_))
    rw [rdT_at l m hm]
    have ihm := ih (m + 1) (by omega) (by omega)
    rw [← wrap_up hm (by omega)] at ihm
    generalize goodP n (prevP l (m + 1)) (l.drop (m + 1)) = R at ihm ⊢
    by_cases c1 : l[m].f0 < 0
    · have : (decide (0 ≤ l[m].f0) && decide (l[m].f0 < l[m].f1) && decide (l[m].f1 < n)) = false := by simp; omega
      rw [this, Bool.false_and]
      exact Ev.pos c1 (Ev.now _)
    · refine Ev.neg c1 ?_
      by_cases c2 : l[m].f0 ≥ l[m].f1
      · have : (decide (0 ≤ l[m].f0) && decide (l[m].f0 < l[m].f1) && decide (l[m].f1 < n)) = false := by simp; omega
        rw [this, Bool.false_and]
        exact Ev.pos c2 (Ev.now _)
      · refine Ev.neg c2 ?_
        by_cases c3 : l[m].f1 ≥ n
        · have : (decide (0 ≤ l[m].f0) && decide (l[m].f0 < l[m].f1) && decide (l[m].f1 < n)) = false := by simp; omega
          rw [this, Bool.false_and]
          exact Ev.pos c3 (Ev.now _)
        · have : (decide (0 ≤ l[m].f0) && decide (l[m].f0 < l[m].f1) && decide (l[m].f1 < n)) = true := by simp; omega
          rw [this, Bool.true_and]
          refine Ev.neg c3 ?_
          cases m with
          | zero =>
            refine Ev.neg (by omega) ?_
            simp only [prevP, Bool.true_and]
            exact ihm
          | succ q =>
            have hq : q < l.length := by omega
            have hw : wrap64 (((q + 1 : Nat) : Int) - 1) = (q : Int) := by unfold wrap64; omega
            refine Ev.pos (by omega) ?_
            rw [hw]
            refine Ev.pos (by omega) (Ev.pos (by omega) ?_)
            rw [rdT_at l q hq]
            refine Ev.bind (a := cmpP l[q] l[q + 1]) ⟨3, fun k hk => comparePairs_at _ _ k hk⟩ ?_
            simp only [prevP, List.getElem?_eq_getElem hq]
            have hb := cmpP_bef l[q] l[q + 1]
            cases hbb : befP l[q] l[q + 1] with
            | true => rw [Bool.true_and]; exact Ev.neg (by have := hb.2 hbb; omega) ihm
            | false => rw [Bool.false_and]; exact Ev.pos (by rw [hbb] at hb; have : ¬ cmpP l[q] l[q+1] < 0 := fun h => by have := hb.1 h; cases this
                                                             omega) (Ev.now _)
theorem l2Pairs_ev (l : List S64) (n : Int) (hn : 0 ≤ n) (hn2 : n ≤ 4611686018427387904) (hl : l.length ≤ 1048576) : Ev (fun k => spec_l2Pairs.f k l n) (goodP n none l) :=
  l2Pairs_loop l n hn hn2 hl l.length 0 (by omega) (Nat.zero_le _)
theorem isPairs_ev (l : List S64) (n : Int) (hl : l.length ≤ 1048576) : Ev (fun k => impl_isPairs.f k l n) (goodP n none l) :=
  isPairs_loop l n hl l.length 0 (by omega) (Nat.zero_le _)
/-- A valid graph. -/
def okG (a : Int) (l : List S64) : Bool := (decide (0 ≤ a) && decide (a ≤ 8)) && goodP a none l
end Go.Proofs.Ythnojbafclglpaa.P
namespace Go.Proofs.Ythnojbafclglpaa.P
open Go.RowKit Go.Proofs.YthnojbafclglpaaW.PrintWords Go.Proofs.YthnojbafclglpaaW.PrintLast Go.Proofs.YthnojbafclglpaaW.PrintMore
set_option linter.unusedVariables false
set_option linter.unusedSimpArgs false

theorem rdL_at (l : List (List Int)) (m : Nat) (h : m < l.length) : rd_L4 l (m : Int) = l[m] := by simp [rd_L4, List.getD_eq_getElem?_getD, List.getElem?_eq_getElem h]
/-- A space of moderate size. -/
def modS (l : List (List Int)) (e : List S64) : Prop := l.length ≤ 1048576 ∧ (∀ s ∈ l, s.length ≤ 1048576) ∧ e.length ≤ 1048576
theorem szIntSS_loop (l : List (List Int)) (hl : l.length ≤ 1048576) (hf : ∀ s ∈ l, s.length ≤ 9223372036854775807) (d : Nat) : ∀ (m : Nat) (c : Int), l.length - m = d → m ≤ l.length → 0 ≤ c → c ≤ 1048576 →
    ∃ t, Ev (fun k => laws_szIntSS.l0 k l c (m : Int)) t ∧ (t < 0 ∨ (0 ≤ t ∧ t ≤ c ∧ ∀ s ∈ l.drop m, s.length ≤ 1048576)) := by
  induction d with
  | zero =>
    intro m c h0 h1 h2 h3
    refine ⟨c, Ev.step (fun k => by rw [laws_szIntSS.l0]) (Ev.neg (by omega) (Ev.now _)), .inr ⟨h2, by omega, ?_⟩⟩
    rw [List.drop_eq_nil_of_le (by omega)]
    intro s hs
    simp at hs
  | succ d ih =>
    intro m c h0 h1 h2 h3
    have hm : m < l.length := by omega
    have hs := hf l[m] (List.getElem_mem hm)
    by_cases hc : c - (l[m].length : Int) < 0
    · refine ⟨-1, ?_, .inl (by omega)⟩
      refine Ev.step (fun k => by rw [laws_szIntSS.l0]) ?_
      refine Ev.pos (by omega) (Ev.pos (by omega) ?_)
      refine Ev.bindo (a := (-1 : Int)) ?_ (Ev.pos (by omega) (Ev.now _))
      unfold laws_szIntS.f
      rw [rdL_at l m hm, wrap_nat (m := c - (l[m].length : Int)) (by omega) (by omega), if_pos hc]
    · obtain ⟨t, ht, hd⟩ := ih (m + 1) (c - (l[m].length : Int)) (by omega) (by omega) (by omega) (by omega)
      refine ⟨t, ?_, ?_⟩
      · refine Ev.step (fun k => by rw [laws_szIntSS.l0]) ?_
        refine Ev.pos (by omega) (Ev.pos (by omega) ?_)
        refine Ev.bindo (a := c - (l[m].length : Int)) ?_ (Ev.neg (by omega) ?_)
        · unfold laws_szIntS.f
          rw [rdL_at l m hm, wrap_nat (m := c - (l[m].length : Int)) (by omega) (by omega), if_neg hc]
        · rw [wrap_up hm (by omega)]
          exact ht
      · rcases hd with hd | ⟨h4, h5, h6⟩
        · exact .inl hd
        · refine .inr ⟨h4, by omega, ?_⟩
          rw [List.drop_eq_getElem_cons hm]
          intro s hs
          rcases List.mem_cons.1 hs with rfl | hs
          · omega
          · exact h6 s hs
theorem sz_space (l : List (List Int)) (e : List S64) (hl : FitLL l) (he : e.length ≤ 9223372036854775807) : ∃ t, Ev (fun k => laws_szSpace.f k l e 1048576) t ∧ (t < 0 ∨ modS l e) := by
  unfold laws_szSpace.f laws_szIntSS.f
  have h1 := hl.1
  have hw : wrap64 (1048576 - (l.length : Int)) = 1048576 - (l.length : Int) := wrap_nat (by omega) (by omega)
  rw [hw]
  by_cases h : 1048576 - (l.length : Int) < 0
  · exact ⟨-1, Ev.bind (Ev.pos h (Ev.now _)) (Ev.pos (by omega) (Ev.now _)), .inl (by omega)⟩
  · obtain ⟨t, ht, hd⟩ := szIntSS_loop l (by omega) (fun s hs => (hl.2 s hs).1) l.length 0 (1048576 - (l.length : Int)) (by omega) (Nat.zero_le _) (by omega) (by omega)
    rcases hd with hd | ⟨h4, h5, h6⟩
    · exact ⟨-1, Ev.bind (Ev.neg h ht) (Ev.pos hd (Ev.now _)), .inl (by omega)⟩
    · have hw2 : wrap64 (t - (e.length : Int)) = t - (e.length : Int) := wrap_nat (by omega) (by omega)
      by_cases h7 : t - (e.length : Int) < 0
      · refine ⟨-1, Ev.bind (Ev.neg h ht) (Ev.neg (by omega) (Ev.bindo (a := (-1 : Int)) ?_ (Ev.pos (by decide : (-1 : Int) < 0) (Ev.now _)))), .inl (by omega)⟩
        unfold laws_szIntA2S.f
        rw [hw2, if_pos h7]
      · refine ⟨t - (e.length : Int), Ev.bind (Ev.neg h ht) (Ev.neg (by omega) (Ev.bindo (a := t - (e.length : Int)) ?_ (Ev.neg h7 (Ev.now _)))), .inr ⟨by omega, ?_, by omega⟩⟩
        · unfold laws_szIntA2S.f
          rw [hw2, if_neg h7]
        · simpa only [List.drop_zero] using h6
/-! Copies. -/
theorem toIntSS_loop (l : List (List Int)) (hl : l.length ≤ 1048576) (hs : ∀ s ∈ l, s.length ≤ 1048576) (d : Nat) : ∀ (acc : List (List Int)) (m : Nat), l.length - m = d → m ≤ l.length → acc.length = l.length → acc.take m = l.take m →
    Ev (fun k => laws_toIntSS.l0 k l acc (m : Int)) l := by
  induction d with
  | zero =>
    intro acc m h0 h1 h2 h3
    refine Ev.step (fun k => by rw [laws_toIntSS.l0]) ?_
    refine Ev.neg (by omega) ?_
    have : acc = l := by rw [← List.take_length (l := acc), ← List.take_length (l := l), h2, show l.length = m by omega]; exact h3
    rw [this]
    exact Ev.now _
  | succ d ih =>
    intro acc m h0 h1 h2 h3
    have hm : m < l.length := by omega
    refine Ev.step (fun k => by rw [laws_toIntSS.l0]) ?_
    refine Ev.pos (by omega) (Ev.pos (by omega) ?_)
    rw [rdL_at l m hm]
    refine Ev.bind (toIntS_ev l[m] (hs _ (List.getElem_mem hm))) (Ev.pos (by omega) ?_)
    rw [wrap_up hm (by omega), Int.toNat_natCast]
    exact ih _ (m + 1) (by omega) (by omega) (by rw [List.length_set]; exact h2) (take_set_next l acc m hm h2 h3)
theorem toIntSS_ev (l : List (List Int)) (hl : l.length ≤ 1048576) (hs : ∀ s ∈ l, s.length ≤ 1048576) : Ev (fun k => laws_toIntSS.f k l) l := by
  unfold laws_toIntSS.f
  refine Ev.pos (by omega) (Ev.pos (by omega) ?_)
  exact toIntSS_loop l hl hs l.length _ 0 (by omega) (Nat.zero_le _) (by simp) (by simp)
theorem toSpace_ev (l : List (List Int)) (e : List S64) (h : modS l e) : Ev (fun k => laws_toSpace.f k l e) (l, e) := by
  unfold laws_toSpace.f
  exact Ev.bind (toIntSS_ev l h.1 h.2.1) (Ev.bind (toIntA2S_ev e h.2.2) (Ev.now _))
/-! Comparisons of equals. -/
theorem eqIntSS_loop (l : List (List Int)) (hl : l.length ≤ 1048576) (hs : ∀ s ∈ l, s.length ≤ 1048576) (d : Nat) : ∀ (m : Nat), l.length - m = d → m ≤ l.length → Ev (fun k => laws_eqIntSS.l0 k l l (m : Int)) true := by
  induction d with
  | zero =>
    intro m h0 h1
    refine Ev.step (fun k => by rw [laws_eqIntSS.l0]) ?_
    exact Ev.neg (by omega) (Ev.now _)
  | succ d ih =>
    intro m h0 h1
    have hm : m < l.length := by omega
    refine Ev.step (fun k => by rw [laws_eqIntSS.l0]) ?_
    refine Ev.pos (by omega) (Ev.pos (by omega) (Ev.pos (by omega) ?_))
    rw [rdL_at l m hm]
    refine Ev.bind (eqIntS_ev l[m] (hs _ (List.getElem_mem hm))) (Ev.pos rfl ?_)
    rw [wrap_up hm (by omega)]
    exact ih (m + 1) (by omega) (by omega)
theorem eqIntSS_ev (l : List (List Int)) (hl : l.length ≤ 1048576) (hs : ∀ s ∈ l, s.length ≤ 1048576) : Ev (fun k => laws_eqIntSS.f k l l) true := by
  unfold laws_eqIntSS.f
  exact Ev.pos rfl (eqIntSS_loop l hl hs l.length 0 (by omega) (Nat.zero_le _))
theorem eqSpace_ev (l : List (List Int)) (e : List S64) (h : modS l e) : Ev (fun k => laws_eqSpace.f k l e l e) true := by
  unfold laws_eqSpace.f
  exact Ev.bind (eqIntSS_ev l h.1 h.2.1) (Ev.pos rfl (Ev.bind (eqIntA2S_ev e h.2.2) (Ev.pos rfl (Ev.now _))))
/-! A state, and states in order. -/
def okState (s : List Int) : Bool := decide ((s.length : Int) ≤ 24) && s.all fun x => decide (-99 ≤ x) && decide (x ≤ 99)
theorem isState_at (s : List Int) : impl_isState.f s = some (okState s) := by
  unfold impl_isState.f okState
  congr 2
  induction s with
  | nil => rfl
  | cons x t ih =>
    rw [List.any_cons, List.all_cons, Bool.not_or, ih]
    unfold outB
    rw [Bool.not_not]
theorem l2State_loop (s : List Int) (hl : s.length ≤ 1048576) (d : Nat) : ∀ (m : Nat), s.length - m = d → m ≤ s.length →
    Ev (fun k => spec_l2State.l0 k s (m : Int)) (decide ((s.length : Int) ≤ 24) && (s.drop m).all fun x => decide (-99 ≤ x) && decide (x ≤ 99)) := by
  induction d with
  | zero =>
    intro m h0 h1
    refine Ev.step (fun k => by rw [spec_l2State.l0]) (Ev.neg (by omega) ?_)
    rw [List.drop_eq_nil_of_le (by omega), List.all_nil, Bool.and_true]
    exact Ev.now _
  | succ d ih =>
    intro m h0 h1
    have hm : m < s.length := by omega
    refine Ev.step (fun k => by rw [spec_l2State.l0]) (Ev.pos (by omega) (Ev.pos (by omega) ?_))
    rw [rd_at s m hm, List.drop_eq_getElem_cons hm, List.all_cons]
    refine Ev.bindo (in_at _ _ _) ?_
    cases (decide (-99 ≤ s[m]) && decide (s[m] ≤ 99)) with
    | false => rw [Bool.false_and, Bool.and_false]; exact Ev.neg (by decide) (Ev.now _)
    | true =>
      rw [Bool.true_and, wrap_up hm (by omega)]
      exact Ev.pos rfl (ih (m + 1) (by omega) (by omega))
theorem l2State_ev (s : List Int) (hl : s.length ≤ 1048576) : Ev (fun k => spec_l2State.f k s) (okState s) :=
  l2State_loop s hl s.length 0 (by omega) (Nat.zero_le _)
/-- A list comes before another one. -/
def befL : List Int → List Int → Bool
  | [], [] => false
  | [], _ :: _ => true
  | _ :: _, [] => false
  | a :: x, b :: y => if a = b then befL x y else decide (a < b)
theorem l2Before_loop (x y : List Int) (hx : x.length ≤ 1048576) (hy : y.length ≤ 1048576) (d : Nat) : ∀ (m : Nat), x.length - m = d → m ≤ x.length → m ≤ y.length →
    Ev (fun k => spec_l2Before.l0 k x y (m : Int)) (befL (x.drop m) (y.drop m)) := by
  induction d with
  | zero =>
    intro m h0 h1 h2
    refine Ev.step (fun k => by rw [spec_l2Before.l0]) (Ev.neg (by omega) (Ev.step (fun k => by rw [spec_l2Before.j1]) (Ev.neg (by decide) ?_)))
    rw [show x.drop m = [] from List.drop_eq_nil_of_le (by omega)]
    by_cases h : m < y.length
    · rw [List.drop_eq_getElem_cons h, show decide ((x.length : Int) < (y.length : Int)) = true from decide_eq_true (by omega)]
      exact Ev.now _
    · rw [List.drop_eq_nil_of_le (by omega), show decide ((x.length : Int) < (y.length : Int)) = false from decide_eq_false (by omega)]
      exact Ev.now _
  | succ d ih =>
    intro m h0 h1 h2
    have hm : m < x.length := by omega
    refine Ev.step (fun k => by rw [spec_l2Before.l0]) (Ev.pos (by omega) (Ev.step (fun k => by rw [spec_l2Before.j1]) ?_))
    rw [List.drop_eq_getElem_cons hm]
    by_cases h : m < y.length
    · refine Ev.pos (decide_eq_true (by omega)) (Ev.pos (by omega) (Ev.pos (by omega) (Ev.pos (by omega) ?_)))
      rw [rd_at x m hm, rd_at y m h, List.drop_eq_getElem_cons h, befL]
      by_cases c : x[m] = y[m]
      · rw [if_pos c, wrap_up hm (by omega)]
        exact Ev.pos c (ih (m + 1) (by omega) (by omega) (by omega))
      · rw [if_neg c]
        exact Ev.neg c (Ev.now _)
    · refine Ev.neg (by rw [decide_eq_false (by omega)]; decide) ?_
      rw [show y.drop m = [] from List.drop_eq_nil_of_le (by omega), show decide ((x.length : Int) < (y.length : Int)) = false from decide_eq_false (by omega)]
      exact Ev.now _
theorem l2Before_ev (x y : List Int) (hx : x.length ≤ 1048576) (hy : y.length ≤ 1048576) : Ev (fun k => spec_l2Before.f k x y) (befL x y) :=
  l2Before_loop x y hx hy x.length 0 (by omega) (Nat.zero_le _) (Nat.zero_le _)
theorem cmpL_bef (x : List Int) : ∀ y, (cmpL x y ≥ 0) ↔ befL x y = false := by
  induction x with
  | nil => intro y; cases y <;> simp [cmpL, befL]
  | cons a x ih =>
    intro y
    cases y with
    | nil => simp [cmpL, befL]
    | cons b y =>
      simp only [cmpL, befL]
      unfold cmpI
      by_cases h : a < b
      · rw [if_pos h, if_neg (by decide), if_neg (by omega), decide_eq_true h]
        simp
      · rw [if_neg h]
        by_cases h2 : a > b
        · rw [if_pos h2, if_neg (by decide), if_neg (by omega), decide_eq_false h]
          simp
        · rw [if_neg h2, if_pos rfl, if_pos (by omega)]
          exact ih y
/-- States, each a state, strictly ascending behind a first one. -/
def goodS : Option (List Int) → List (List Int) → Bool
  | _, [] => true
  | p, s :: t => okState s && ((match p with | none => true | some q => befL q s) && goodS (some s) t)
def prevS (l : List (List Int)) : Nat → Option (List Int)
  | 0 => none
  | m + 1 => l[m]?
theorem goodS_step (l : List (List Int)) (m : Nat) (hm : m < l.length) : goodS (prevS l m) (l.drop m) = (okState l[m] && ((match prevS l m with | none => true | some q => befL q l[m]) && goodS (prevS l (m + 1)) (l.drop (m + 1)))) := by
  rw [List.drop_eq_getElem_cons hm, show prevS l (m + 1) = some l[m] from List.getElem?_eq_getElem hm]
  cases prevS l m <;> rfl
def okS (l : List (List Int)) (e : List S64) : Bool := (decide ((l.length : Int) ≤ 300) && decide ((e.length : Int) ≤ 6000)) && (goodS none l && goodP (l.length : Int) none e)
section
variable (l : List (List Int)) (e : List S64) (h : modS l e)
include h
theorem l2Space_loop (d : Nat) : ∀ (m : Nat), l.length - m = d → m ≤ l.length → Ev (fun k => spec_l2Space.l0 k (m : Int) l e) (goodS (prevS l m) (l.drop m) && goodP (l.length : Int) none e) := by
  have hl := h.1
  induction d with
  | zero =>
    intro m h0 h1
    refine Ev.step (fun k => by rw [spec_l2Space.l0]) (Ev.neg (by omega) ?_)
    rw [List.drop_eq_nil_of_le (by omega), show goodS (prevS l m) [] = true from by cases prevS l m <;> rfl, Bool.true_and]
    exact Ev.bind (l2Pairs_ev e _ (by omega) (by omega) h.2.2) (Ev.now _)
  | succ d ih =>
    intro m h0 h1
    have hm : m < l.length := by omega
    refine Ev.step (fun k => by rw [spec_l2Space.l0]) (Ev.pos (by omega) (Ev.pos (by omega) ?_))
    rw [goodS_step l m hm, rdL_at l m hm]
    have ihm := ih (m + 1) (by omega) (by omega)
    rw [← wrap_up hm (by omega)] at ihm
    generalize goodS (prevS l (m + 1)) (l.drop (m + 1)) = R at ihm ⊢
    refine Ev.bind (l2State_ev l[m] (h.2.1 _ (List.getElem_mem hm))) ?_
    cases okState l[m] with
    | false => rw [Bool.false_and, Bool.false_and]; exact Ev.neg (by decide) (Ev.now _)
    | true =>
      rw [Bool.true_and]
      refine Ev.pos rfl ?_
      cases m with
      | zero =>
        refine Ev.neg (by omega) ?_
        simp only [prevS, Bool.true_and]
        exact ihm
      | succ q =>
        have hq : q < l.length := by omega
        have hw : wrap64 (((q + 1 : Nat) : Int) - 1) = (q : Int) := by unfold wrap64; omega
        refine Ev.pos (by omega) ?_
        rw [hw]
        refine Ev.pos (by omega) (Ev.pos (by omega) ?_)
        rw [rdL_at l q hq]
        simp only [prevS, List.getElem?_eq_getElem hq]
        refine Ev.bind (l2Before_ev _ _ (h.2.1 _ (List.getElem_mem hq)) (h.2.1 _ (List.getElem_mem hm))) ?_
        cases befL l[q] l[q + 1] with
        | true => rw [Bool.true_and]; exact Ev.pos rfl ihm
        | false => rw [Bool.false_and, Bool.false_and]; exact Ev.neg (by decide) (Ev.now _)
theorem l2Space_ev : Ev (fun k => spec_l2Space.f k l e) (okS l e) := by
  unfold spec_l2Space.f okS
  by_cases c : (l.length : Int) > 300
  · rw [decide_eq_false (by omega : ¬ (l.length : Int) ≤ 300), Bool.false_and, Bool.false_and]
    exact Ev.pos c (Ev.step (fun k => by rw [spec_l2Space.j0]) (Ev.pos rfl (Ev.now _)))
  · rw [decide_eq_true (by omega : (l.length : Int) ≤ 300), Bool.true_and]
    refine Ev.neg c (Ev.step (fun k => by rw [spec_l2Space.j0]) ?_)
    by_cases c2 : (e.length : Int) > 6000
    · rw [decide_eq_false (by omega : ¬ (e.length : Int) ≤ 6000), Bool.false_and]
      exact Ev.pos (decide_eq_true c2) (Ev.now _)
    · rw [decide_eq_true (by omega : (e.length : Int) ≤ 6000), Bool.true_and]
      refine Ev.neg (by rw [decide_eq_false c2]; decide) ?_
      exact l2Space_loop l e h l.length 0 (by omega) (Nat.zero_le _)
theorem IsSpace_loop (d : Nat) : ∀ (m : Nat), l.length - m = d → m ≤ l.length → Ev (fun k => impl_IsSpace.l0 k l (l.length : Int) (m : Int) l e) (goodS (prevS l m) (l.drop m) && goodP (l.length : Int) none e) := by
  have hl := h.1
  induction d with
  | zero =>
    intro m h0 h1
    refine Ev.step (fun k => by rw [impl_IsSpace.l0]) (Ev.neg (by omega) ?_)
    rw [List.drop_eq_nil_of_le (by omega), show goodS (prevS l m) [] = true from by cases prevS l m <;> rfl, Bool.true_and]
    exact Ev.bind (isPairs_ev e _ h.2.2) (Ev.now _)
  | succ d ih =>
    intro m h0 h1
    have hm : m < l.length := by omega
    refine Ev.step (fun k => by rw [impl_IsSpace.l0]) (Ev.pos (by omega) (Ev.pos (by omega) (Ev.pos (by omega) ?_)))
    rw [goodS_step l m hm, rdL_at l m hm]
    have ihm := ih (m + 1) (by omega) (by omega)
    rw [← wrap_up hm (by omega)] at ihm
    generalize goodS (prevS l (m + 1)) (l.drop (m + 1)) = R at ihm ⊢
    refine Ev.bindo (isState_at l[m]) ?_
    cases okState l[m] with
    | false => rw [Bool.false_and, Bool.false_and]; exact Ev.neg (by decide) (Ev.now _)
    | true =>
      rw [Bool.true_and]
      refine Ev.pos rfl ?_
      cases m with
      | zero =>
        refine Ev.neg (by omega) ?_
        simp only [prevS, Bool.true_and]
        exact ihm
      | succ q =>
        have hq : q < l.length := by omega
        have hw : wrap64 (((q + 1 : Nat) : Int) - 1) = (q : Int) := by unfold wrap64; omega
        refine Ev.pos (by omega) ?_
        rw [hw]
        refine Ev.pos (by omega) (Ev.pos (by omega) ?_)
        rw [rdL_at l q hq]
        simp only [prevS, List.getElem?_eq_getElem hq]
        have hlq := h.2.1 _ (List.getElem_mem hq)
        refine Ev.bind (a := cmpL l[q] l[q + 1]) ⟨l[q].length + 1, fun k hk => slices_Compare_at _ _ (by omega) k (by omega)⟩ ?_
        have hb := cmpL_bef l[q] l[q + 1]
        cases hc : befL l[q] l[q + 1] with
        | true => rw [Bool.true_and]; exact Ev.neg (fun hh => by have := hb.1 hh; rw [hc] at this; simp at this) ihm
        | false => rw [Bool.false_and, Bool.false_and]; exact Ev.pos (hb.2 hc) (Ev.now _)
theorem impl_IsSpace_ev : Ev (fun k => impl_IsSpace.f k l e) (okS l e) := by
  unfold impl_IsSpace.f okS
  by_cases c : (l.length : Int) > 300
  · rw [decide_eq_false (by omega : ¬ (l.length : Int) ≤ 300), Bool.false_and, Bool.false_and]
    exact Ev.pos c (Ev.step (fun k => by rw [impl_IsSpace.j0]) (Ev.pos rfl (Ev.now _)))
  · rw [decide_eq_true (by omega : (l.length : Int) ≤ 300), Bool.true_and]
    refine Ev.neg c (Ev.step (fun k => by rw [impl_IsSpace.j0]) ?_)
    by_cases c2 : (e.length : Int) > 6000
    · rw [decide_eq_false (by omega : ¬ (e.length : Int) ≤ 6000), Bool.false_and]
      exact Ev.pos (decide_eq_true c2) (Ev.now _)
    · rw [decide_eq_true (by omega : (e.length : Int) ≤ 6000), Bool.true_and]
      refine Ev.neg (by rw [decide_eq_false c2]; decide) ?_
      exact IsSpace_loop l e h l.length 0 (by omega) (Nat.zero_le _)
end
end Go.Proofs.Ythnojbafclglpaa.P
namespace Go.Proofs.Ythnojbafclglpaa.P
open Go.RowKit Go.Proofs.YthnojbafclglpaaW.PrintWords Go.Proofs.YthnojbafclglpaaW.PrintLast Go.Proofs.YthnojbafclglpaaW.PrintMore
attribute [local go_sem] max2_int min2_int max_two min_two max_three min_three max_four min_four   -- for this text's walks alone
set_option linter.unusedVariables false
set_option linter.unusedSimpArgs false

theorem eqIt_cons64 {d : Nat} {e c : Nat} {xs ys : Array Value} {i : Nat} {is : List Nat} {a b : Value} {r s : Bool} {w : World} (ha : (part e xs (i * c)).run Try.prog w = .ok a w) (hb : (part e ys (i * c)).run Try.prog w = .ok b w) (he : (Op.equalIn d e a b).run Try.prog w = .ok r w) (hr : (Op.eqItems d e c xs ys is).run Try.prog w = .ok s w) : (Op.eqItems d e c xs ys (i :: is)).run Try.prog w = .ok (r && s) w := by
 rw [Op.eqItems]
 simp only [Sem.run_bind, ha, hb, he, Result.andThen_ok]
 cases r
 · simp
 · simpa using hr
theorem eqIt_last64 {d : Nat} {e c : Nat} {xs ys : Array Value} {i : Nat} {a b : Value} {r : Bool} {w : World} (ha : (part e xs (i * c)).run Try.prog w = .ok a w) (hb : (part e ys (i * c)).run Try.prog w = .ok b w) (he : (Op.equalIn d e a b).run Try.prog w = .ok r w) : (Op.eqItems d e c xs ys [i]).run Try.prog w = .ok r w := by
 have h := eqIt_cons64 (is := []) (s := true) ha hb he (by simp [Op.eqItems])
 rwa [Bool.and_true] at h
theorem eqA64 (d : Nat) (w : World) (x0 x1 y0 y1 : Int) :
 (Op.equalIn (d + 2) 64 (.agg #[.int .i64 x0, .int .i64 x1]) (.agg #[.int .i64 y0, .int .i64 y1])).run Try.prog w = .ok (x0 == y0 && (x1 == y1)) w := by
 obtain ⟨i_, hi_⟩ := Option.isSome_iff_exists.1 (by kernel_rfl : (Try.prog.info? 3).isSome = true)
 rw [show d + 2 = (d + 1) + 1 from rfl, run_equalIn_array w (d + 1) _ _ Try.underlying64 hi_, show Try.prog.cellsOf 3 = 1 from by kernel_rfl, show List.range 2 = [0, 1] from rfl]
 refine eqIt_cons64 (by go_simp; rfl) (by go_simp; rfl) (by go_simp) ?_
 exact eqIt_last64 (by go_simp; rfl) (by go_simp; rfl) (by go_simp)
end Go.Proofs.Ythnojbafclglpaa.P
namespace Go.Proofs.Ythnojbafclglpaa.P
open Go.RowKit Go.Proofs.YthnojbafclglpaaW.PrintWords Go.Proofs.YthnojbafclglpaaW.PrintLast Go.Proofs.YthnojbafclglpaaW.PrintMore
set_option linter.unusedVariables false
set_option linter.unusedSimpArgs false

/-! Marks are held, and counted from 0 on. -/
theorem mark2_fst (l : List S64) : ∀ (k : Int), 0 ≤ k → k + 2 * (l.length : Int) ≤ 4611686018427387904 → (mark2 l k).1 = k + 2 * (l.length : Int) := by
  induction l with
  | nil => intro k h1 h2; simp [mark2]
  | cons e t ih =>
    intro k h1 h2
    simp only [List.length_cons] at h2 ⊢
    simp only [mark2]
    have e1 : wrap64 (k + 1) = k + 1 := wrap_nat (by omega) (by omega)
    have e2 : wrap64 (k + 1 + 1) = k + 1 + 1 := wrap_nat (by omega) (by omega)
    rw [e1, e2, ih (k + 1 + 1) (by omega) (by omega)]
    omega
theorem held_mark2 (l : List S64) : ∀ (k : Int), held2 (mark2 l k).2 k = (mark2 l k).1 := by
  induction l with
  | nil => intro k; rfl
  | cons e t ih => intro k; simp only [mark2, held2, if_true]; exact ih _
/-! What a valid graph gives. -/
theorem goodP_all (n : Int) (l : List S64) : ∀ p, goodP n p l = true → ∀ e ∈ l, 0 ≤ e.f0 ∧ e.f0 < e.f1 ∧ e.f1 < n := by
  induction l with
  | nil => intro p h e he; simp at he
  | cons x t ih =>
    intro p h e he
    simp only [goodP, Bool.and_eq_true, decide_eq_true_eq] at h
    obtain ⟨⟨⟨h1, h2⟩, h3⟩, h4, h5⟩ := h
    rcases List.mem_cons.1 he with rfl | he
    · exact ⟨h1, h2, h3⟩
    · exact ih _ h5 e he
end Go.Proofs.Ythnojbafclglpaa.P
namespace Go.Proofs.Ythnojbafclglpaa.P
open Go.RowKit Go.Proofs.YthnojbafclglpaaW.PrintWords Go.Proofs.YthnojbafclglpaaW.PrintLast Go.Proofs.YthnojbafclglpaaW.PrintMore
set_option linter.unusedVariables false
set_option linter.unusedSimpArgs false

abbrev PrT := S64
theorem okS_goodL {l : List (List Int)} {e : List PrT} (h : okS l e = true) : l.length ≤ 300 ∧ goodP (l.length : Int) none e = true := by
  unfold okS at h
  simp only [Bool.and_eq_true, decide_eq_true_eq] at h
  exact ⟨by omega, h.2.2⟩
theorem filterMap_take {α : Type} (f : PrT → Option α) (e : List PrT) (m : Nat) (hm : m < e.length) : (e.take (m + 1)).filterMap f = (e.take m).filterMap f ++ (f e[m]).toList := by
  rw [List.take_add_one, List.getElem?_eq_getElem hm, List.filterMap_append]
  cases h : f e[m] <;> simp [h]
theorem filterMap_le {α : Type} (f : PrT → Option α) (e : List PrT) (m : Nat) (he : e.length ≤ 1048576) : ((e.take m).filterMap f).length ≤ 1048576 := by
  have h1 := List.length_filterMap_le f (e.take m)
  have h2 := List.length_take_le m e
  have h3 : (e.take m).length ≤ e.length := by rw [List.length_take]; omega
  omega
section
variable {l : List (List Int)} {e : List PrT} (he : e.length ≤ 1048576) (hg : ∀ p ∈ e, 0 ≤ p.f0 ∧ p.f0 < p.f1 ∧ p.f1 < (l.length : Int))
include he hg
end
section
variable (l : List (List Int)) (e : List PrT) (hm : modS l e) (hg : goodP (l.length : Int) none e = true)
include hm hg
end
end Go.Proofs.Ythnojbafclglpaa.P
namespace Go.Proofs.Ythnojbafclglpaa.P
open Go.RowKit Go.Proofs.YthnojbafclglpaaW.PrintWords Go.Proofs.YthnojbafclglpaaW.PrintLast Go.Proofs.YthnojbafclglpaaW.PrintMore
set_option linter.unusedVariables false
set_option linter.unusedSimpArgs false

theorem rd_set (l : List Int) (j k : Int) (v : Int) (h : j.toNat < l.length) : rd (l.set j.toNat v) k = if k.toNat = j.toNat then v else rd l k := by
  unfold rd
  rw [List.getD_eq_getElem?_getD, List.getD_eq_getElem?_getD, List.getElem?_set]
  by_cases c : j.toNat = k.toNat
  · rw [if_pos c, if_pos c.symm, if_pos h, Option.getD_some]
  · rw [if_neg c, if_neg (Ne.symm c)]
/-- Each row holds places. -/
def okZ (z : List (List Int)) : Prop := ∀ i, 0 ≤ i → i < (z.length : Int) → ∀ j ∈ rd_L4 z i, 0 ≤ j ∧ j < (z.length : Int)
section
variable {z : List (List Int)} (hz : okZ z) (hn : z.length ≤ 1048576) (hr : ∀ i, (rd_L4 z i).length ≤ 1048576)
include hn
include hz hr
end
end Go.Proofs.Ythnojbafclglpaa.P
namespace Go.Proofs.Ythnojbafclglpaa.P
open Go.RowKit Go.Proofs.YthnojbafclglpaaW.PrintWords Go.Proofs.YthnojbafclglpaaW.PrintLast Go.Proofs.YthnojbafclglpaaW.PrintMore
set_option linter.unusedVariables false
set_option linter.unusedSimpArgs false

/-- A tells the places that stand before m in l. -/
def atP (l : List Int) (m : Nat) (A : List Int) (n : Nat) : Prop := A.length = n ∧ ∀ x : Int, 0 ≤ x → x < (n : Int) → (∀ q (h : q < l.length), q < m → l[q] = x → rd A x = (q : Int)) ∧ ((∀ q (h : q < l.length), q < m → l[q] ≠ x) → rd A x = -1)
theorem l1Own_row (l : List Int) (h : l.length ≤ 1048576) : spec_l1Own.f l = some l := by
  unfold spec_l1Own.f
  show (if _ then _ else _) = _
  rw [if_pos (by simp only [List.length_nil]; omega)]
  rfl
theorem ind_fill {R : List (List Int) × List PrT} (l : List Int) (st : List (List Int)) (e : List PrT) (q0 : List (List Int)) (q1 : List PrT) (d : Nat) : ∀ (m : Nat) (A : List Int), A.length - m = d → m ≤ A.length → A.length ≤ 1048576 → A.take m = List.replicate m (-1) →
    Ev (fun k => spec_l2Induced.l1 k l (List.replicate A.length (-1)) 0 st e q0 q1) R → Ev (fun k => spec_l2Induced.l0 k l A (m : Int) st e q0 q1) R := by
  induction d with
  | zero =>
    intro m A h0 h1 h2 h3 hR
    have he : m = A.length := by omega
    rw [he] at h3 ⊢
    rw [List.take_length] at h3
    rw [← h3] at hR
    refine Ev.step (fun k => by rw [spec_l2Induced.l0]) ?_
    refine Ev.neg (by omega) ?_
    exact hR
  | succ d ih =>
    intro m A h0 h1 h2 h3 hR
    have hm : m < A.length := by omega
    refine Ev.step (fun k => by rw [spec_l2Induced.l0]) ?_
    refine Ev.pos (by omega) ?_
    refine Ev.pos (by omega) ?_
    have := ih (m + 1) (A.set m (-1)) (by rw [List.length_set]; omega) (by rw [List.length_set]; omega) (by rw [List.length_set]; exact h2) (by
      rw [List.take_add_one, List.getElem?_set_self hm, List.take_set_of_le (Nat.le_refl _), h3, List.replicate_succ', Option.toList]) (by rw [List.length_set]; exact hR)
    rw [← wrap_up hm (by omega)] at this
    rw [Int.toNat_natCast]
    exact this
section
variable (st : List (List Int)) (e : List PrT) (hm0 : modS st e) (l : List Int) (hl : l.length ≤ 1048576) (hp : l.Pairwise (· < ·)) (hb : ∀ x ∈ l, 0 ≤ x ∧ x < (st.length : Int))
include hm0 hl hp hb
theorem ind_rows (q1 : List PrT) (d : Nat) : ∀ (m : Nat) (A : List Int), l.length - m = d → m ≤ l.length → atP l m A st.length →
    ∃ A', atP l l.length A' st.length ∧ ∀ R, Ev (fun k => spec_l2Induced.l2 k A' 0 st e (l.map (rd_L4 st)) q1) R → Ev (fun k => spec_l2Induced.l1 k l A (m : Int) st e ((l.take m).map (rd_L4 st)) q1) R := by
  induction d with
  | zero =>
    intro m A h0 h1 h2
    have hml : m = l.length := by omega
    refine ⟨A, by rw [← hml]; exact h2, fun R hR => ?_⟩
    rw [List.take_of_length_le (by omega)]
    refine Ev.step (fun k => by rw [spec_l2Induced.l1]) ?_
    refine Ev.neg (by omega) ?_
    exact hR
  | succ d ih =>
    intro m A h0 h1 h2
    have hm : m < l.length := by omega
    have hx := hb l[m] (List.getElem_mem hm)
    have hxl : l[m].toNat < A.length := by rw [h2.1]; omega
    have hst := hm0.1
    obtain ⟨A', a1, a2⟩ := ih (m + 1) (A.set l[m].toNat (m : Int)) (by omega) (by omega) (by
      refine ⟨by rw [List.length_set, h2.1], fun x hx0 hx1 => ?_⟩
      obtain ⟨b1, b2⟩ := h2.2 x hx0 hx1
      rw [rd_set A l[m] x _ hxl]
      refine ⟨fun q hq hqm e' => ?_, fun hne => ?_⟩
      · by_cases c : q = m
        · subst c; rw [if_pos (by rw [e'])]
        · have : q < m := by omega
          rw [if_neg (fun h => ?_)]
          · exact b1 q hq this e'
          · have h3 := List.pairwise_iff_getElem.1 hp q m hq hm this
            omega
      · have h4 := hne m hm (by omega)
        rw [if_neg (by omega)]
        exact b2 fun q hq hqm => hne q hq (by omega))
    refine ⟨A', a1, fun R hR => ?_⟩
    have h5 := a2 R hR
    rw [← wrap_up hm (by omega), List.take_add_one, List.getElem?_eq_getElem hm, Option.toList, List.map_append, List.map_singleton] at h5
    have hlm : ((l.take m).map (rd_L4 st)).length ≤ l.length := by rw [List.length_map, List.length_take]; omega
    refine Ev.step (fun k => by rw [spec_l2Induced.l1]) ?_
    refine Ev.pos (by omega) ?_
    refine Ev.pos (by omega) ?_
    rw [rd_at l m hm]
    refine Ev.pos hx.1 ?_
    refine Ev.pos (by rw [h2.1]; exact hx.2) ?_
    refine Ev.pos hx.2 ?_
    refine Ev.bindo (l1Own_row _ (by
      obtain ⟨i, hi⟩ := Int.eq_ofNat_of_zero_le hx.1
      rw [hi, rdL_at st i (by omega)]
      exact hm0.2.1 _ (List.getElem_mem _))) ?_
    refine Ev.pos (by omega) ?_
    exact h5
def pickA (A : List Int) (p : PrT) : Option PrT := if 0 ≤ rd A p.f0 ∧ 0 ≤ rd A p.f1 then some ⟨rd A p.f0, rd A p.f1⟩ else none
omit hl hp hb in
theorem ind_steps (A : List Int) (hA : A.length = st.length) (hg : goodP (st.length : Int) none e = true) (q0 : List (List Int)) (d : Nat) : ∀ (m : Nat), e.length - m = d → m ≤ e.length →
    Ev (fun k => spec_l2Induced.l2 k A (m : Int) st e q0 ((e.take m).filterMap (pickA A))) (q0, e.filterMap (pickA A)) := by
  have he := hm0.2.2
  induction d with
  | zero =>
    intro m h0 h1
    rw [List.take_of_length_le (by omega)]
    refine Ev.step (fun k => by rw [spec_l2Induced.l2]) ?_
    exact Ev.neg (by omega) (Ev.now _)
  | succ d ih =>
    intro m h0 h1
    have hm : m < e.length := by omega
    have hs := goodP_all _ e none hg e[m] (List.getElem_mem hm)
    have h5 := ih (m + 1) (by omega) (by omega)
    have hle := filterMap_le (pickA A) e m he
    rw [filterMap_take _ e m hm, ← wrap_up hm (by omega)] at h5
    refine Ev.step (fun k => by rw [spec_l2Induced.l2]) ?_
    refine Ev.pos (by omega) ?_
    refine Ev.pos (by omega) ?_
    rw [rdT_at e m hm]
    refine Ev.pos (by omega) ?_
    refine Ev.pos (by omega) ?_
    refine Ev.pos (by omega) ?_
    refine Ev.pos (by omega) ?_
    by_cases c0 : rd A e[m].f0 ≥ 0
    · refine Ev.pos c0 ?_
      by_cases c1 : rd A e[m].f1 ≥ 0
      · rw [show pickA A e[m] = some ⟨rd A e[m].f0, rd A e[m].f1⟩ from if_pos ⟨c0, c1⟩] at h5
        refine Ev.pos c1 ?_
        refine Ev.pos (by omega) ?_
        exact h5
      · rw [show pickA A e[m] = none from if_neg (fun h => c1 h.2), Option.toList, List.append_nil] at h5
        refine Ev.neg c1 ?_
        exact h5
    · rw [show pickA A e[m] = none from if_neg (fun h => c0 h.1), Option.toList, List.append_nil] at h5
      refine Ev.neg c0 ?_
      exact h5
/-- What the reference's induced space is. -/
theorem l2Induced_ev (hg : goodP (st.length : Int) none e = true) : ∃ A, atP l l.length A st.length ∧ Ev (fun k => spec_l2Induced.f k st e l) (l.map (rd_L4 st), e.filterMap (pickA A)) := by
  have hst := hm0.1
  have h0 : atP l 0 (List.replicate st.length (-1)) st.length := by
    refine ⟨List.length_replicate, fun x hx0 hx1 => ⟨fun q _ hq => absurd hq (by omega), fun _ => ?_⟩⟩
    unfold rd
    rw [List.getD_eq_getElem?_getD, List.getElem?_replicate, if_pos (by omega)]
    rfl
  obtain ⟨A, a1, a2⟩ := ind_rows st e hm0 l hl hp hb [] (l.length - 0) 0 _ rfl (Nat.zero_le _) h0
  refine ⟨A, a1, ?_⟩
  have h1 := ind_steps st e hm0 A a1.1 hg (l.map (rd_L4 st)) (e.length - 0) 0 rfl (Nat.zero_le _)
  simp only [Int.natCast_zero, List.take_zero, List.filterMap_nil] at h1
  have h2 := a2 _ h1
  simp only [Int.natCast_zero, List.take_zero, List.map_nil] at h2
  unfold spec_l2Induced.f
  refine Ev.pos (by omega) ?_
  refine Ev.pos (by omega) ?_
  rw [Int.toNat_natCast]
  have h3 := ind_fill (R := (l.map (rd_L4 st), e.filterMap (pickA A))) l st e [] [] ((List.replicate st.length (0 : Int)).length - 0) 0 (List.replicate st.length 0) rfl (Nat.zero_le _) (by rw [List.length_replicate]; exact hst) (by simp) (by rw [List.length_replicate]; exact h2)
  exact h3
end
end Go.Proofs.Ythnojbafclglpaa.P
namespace Go.Proofs.Ythnojbafclglpaa.P
open Go.RowKit Go.Proofs.YthnojbafclglpaaW.PrintWords Go.Proofs.YthnojbafclglpaaW.PrintLast Go.Proofs.YthnojbafclglpaaW.PrintMore
set_option linter.unusedVariables false
set_option linter.unusedSimpArgs false

theorem u64w {x : Int} (h0 : 0 ≤ x) (h1 : x < 18446744073709551616) : IntKind.u64.wrap x = x := by
  simp only [IntKind.wrap, IntKind.signed, IntKind.bits, Bool.false_and, Bool.false_eq_true, if_false]
  omega
theorem mid_at (i j : Nat) (h : i + j ≤ 4194304) : wrap64 ((IntKind.u64.wrap (wrap64 ((i : Int) + (j : Int)))) / 2) = (((i + j) / 2 : Nat) : Int) := by
  rw [wrap_nat (m := (i : Int) + (j : Int)) (by omega) (by omega), u64w (by omega) (by omega), wrap_nat (by omega) (by omega)]
  omega
theorem cmp_Less_at (a b : Int) : cmp_Less_int.f a b = some (decide (a < b)) := by
  unfold cmp_Less_int.f cmp_isNaN_int.f
  simp
theorem isNaN_at (a : Int) : slices_isNaN_int.f a = some false := by
  unfold slices_isNaN_int.f
  simp
section
variable (l : List Int) (x : Int) (hl : l.length ≤ 1048576) (hp : l.Pairwise (· < ·))
include hl hp
theorem bsI_end (i : Nat) (hi : i ≤ l.length) (h1 : ∀ q (h : q < l.length), q < i → l[q] < x) (h2 : ∀ q (h : q < l.length), i ≤ q → x ≤ l[q]) :
    Ev (fun k => slices_BinarySearch_int_int.l0 k l x (l.length : Int) (i : Int) (i : Int)) ((i : Int), decide (x ∈ l)) ∧ (x ∈ l → ∃ h : i < l.length, l[i] = x) := by
  have _hu := hl
  have hmem : x ∈ l → ∃ h : i < l.length, l[i] = x := by
    intro hx
    obtain ⟨q, hq, e⟩ := List.mem_iff_getElem.1 hx
    rcases Nat.lt_or_ge q i with c | c
    · have := h1 q hq c; omega
    · rcases Nat.lt_or_ge i q with c' | c'
      · have h3 := List.pairwise_iff_getElem.1 hp i q (by omega) hq c'
        have h4 := h2 i (by omega) (Nat.le_refl _)
        omega
      · obtain rfl : q = i := by omega
        exact ⟨hq, e⟩
  refine ⟨?_, hmem⟩
  refine Ev.step (fun k => by rw [slices_BinarySearch_int_int.l0]) ?_
  refine Ev.neg (by omega) ?_
  by_cases c : i < l.length
  · refine Ev.pos (by omega) ?_
    refine Ev.pos (by omega) ?_
    refine Ev.pos (by omega) ?_
    rw [rd_at l i c]
    by_cases e : l[i] = x
    · rw [decide_eq_true (show x ∈ l from e ▸ List.getElem_mem c)]
      exact Ev.pos e (Ev.now _)
    · rw [decide_eq_false (show x ∉ l from fun hx => e (hmem hx).2)]
      refine Ev.neg e ?_
      refine Ev.bindo (isNaN_at _) ?_
      exact Ev.neg (by decide) (Ev.now _)
  · rw [decide_eq_false (show x ∉ l from fun hx => c (hmem hx).1)]
    exact Ev.neg (by omega) (Ev.now _)
theorem bsI_loop (d : Nat) : ∀ (i j : Nat), j - i ≤ d → i ≤ j → j ≤ l.length → (∀ q (h : q < l.length), q < i → l[q] < x) → (∀ q (h : q < l.length), j ≤ q → x ≤ l[q]) →
    ∃ p : Nat, Ev (fun k => slices_BinarySearch_int_int.l0 k l x (l.length : Int) (i : Int) (j : Int)) ((p : Int), decide (x ∈ l)) ∧ (x ∈ l → ∃ h : p < l.length, l[p] = x) := by
  induction d with
  | zero =>
    intro i j h0 h1 h2 h3 h4
    obtain rfl : i = j := by omega
    exact ⟨i, bsI_end l x hl hp i h2 h3 h4⟩
  | succ d ih =>
    intro i j h0 h1 h2 h3 h4
    by_cases c : i < j
    · have hm : (i + j) / 2 < l.length := by omega
      have hw := mid_at i j (by omega)
      by_cases e : l[(i + j) / 2] < x
      · obtain ⟨p, p1, p2⟩ := ih ((i + j) / 2 + 1) j (by omega) (by omega) h2 (fun q hq hq2 => by
          rcases Nat.lt_or_ge q ((i + j) / 2) with c' | c'
          · have := List.pairwise_iff_getElem.1 hp q ((i + j) / 2) hq hm c'; omega
          · obtain rfl : q = (i + j) / 2 := by omega
            exact e) h4
        refine ⟨p, ?_, p2⟩
        refine Ev.step (fun k => by rw [slices_BinarySearch_int_int.l0]) ?_
        rw [hw]
        refine Ev.pos (by omega) ?_
        refine Ev.pos (by omega) ?_
        refine Ev.pos (by omega) ?_
        rw [rd_at l _ hm]
        refine Ev.bindo (cmp_Less_at _ _) ?_
        refine Ev.pos (decide_eq_true e) ?_
        rw [wrap_up hm (by omega)]
        exact p1
      · obtain ⟨p, p1, p2⟩ := ih i ((i + j) / 2) (by omega) (by omega) (by omega) h3 (fun q hq hq2 => by
          rcases Nat.lt_or_ge ((i + j) / 2) q with c' | c'
          · have := List.pairwise_iff_getElem.1 hp ((i + j) / 2) q hm hq c'; omega
          · obtain rfl : q = (i + j) / 2 := by omega
            omega)
        refine ⟨p, ?_, p2⟩
        refine Ev.step (fun k => by rw [slices_BinarySearch_int_int.l0]) ?_
        rw [hw]
        refine Ev.pos (by omega) ?_
        refine Ev.pos (by omega) ?_
        refine Ev.pos (by omega) ?_
        rw [rd_at l _ hm]
        refine Ev.bindo (cmp_Less_at _ _) ?_
        refine Ev.neg (by rw [decide_eq_true_eq]; exact e) ?_
        exact p1
    · obtain rfl : i = j := by omega
      exact ⟨i, bsI_end l x hl hp i h2 h3 h4⟩
/-- What the search answers. -/
theorem bsI_ev : ∃ p : Nat, Ev (fun k => slices_BinarySearch_int_int.f k l x) ((p : Int), decide (x ∈ l)) ∧ (x ∈ l → ∃ h : p < l.length, l[p] = x) := by
  obtain ⟨p, p1, p2⟩ := bsI_loop l x hl hp (l.length - 0) 0 l.length (Nat.le_refl _) (Nat.zero_le _) (Nat.le_refl _) (fun q _ h => absurd h (by omega)) (fun q h h' => absurd h (by omega))
  exact ⟨p, p1, p2⟩
end
end Go.Proofs.Ythnojbafclglpaa.P
namespace Go.Proofs.Ythnojbafclglpaa.P
open Go.RowKit Go.Proofs.YthnojbafclglpaaW.PrintWords Go.Proofs.YthnojbafclglpaaW.PrintLast Go.Proofs.YthnojbafclglpaaW.PrintMore
set_option linter.unusedVariables false

/-- Numbers from lo to hi, strictly ascending behind a first one. -/
def risI (lo hi : Int) : Option Int → List Int → Bool
  | _, [] => true
  | p, x :: t => (decide (lo ≤ x) && decide (x ≤ hi)) && ((match p with | none => true | some q => decide (q < x)) && risI lo hi (some x) t)
def prevI (l : List Int) : Nat → Option Int
  | 0 => none
  | m + 1 => l[m]?
theorem risI_step (l : List Int) (lo hi : Int) (m : Nat) (hm : m < l.length) : risI lo hi (prevI l m) (l.drop m) = ((decide (lo ≤ l[m]) && decide (l[m] ≤ hi)) && ((match prevI l m with | none => true | some q => decide (q < l[m])) && risI lo hi (prevI l (m + 1)) (l.drop (m + 1)))) := by
  rw [List.drop_eq_getElem_cons hm, show prevI l (m + 1) = some l[m] from List.getElem?_eq_getElem hm]
  cases prevI l m <;> rfl
theorem l1Rising_loop (l : List Int) (lo hi : Int) (hl : l.length ≤ 1048576) (d : Nat) : ∀ (m : Nat), l.length - m = d → m ≤ l.length →
    Ev (fun k => spec_l1Rising.l0 k l lo hi (m : Int)) (risI lo hi (prevI l m) (l.drop m)) := by
  induction d with
  | zero =>
    intro m h0 h1
    refine Ev.step (fun k => by rw [spec_l1Rising.l0]) ?_
    rw [List.drop_eq_nil_of_le (by omega)]
    refine Ev.neg (by omega) ?_
    cases prevI l m <;> exact Ev.now _
  | succ d ih =>
    intro m h0 h1
    have hm : m < l.length := by omega
    refine Ev.step (fun k => by rw [spec_l1Rising.l0]) ?_
    rw [risI_step l lo hi m hm]
    refine Ev.pos (by omega) (Ev.pos (by omega) ?_)
    rw [rd_at l m hm]
    have ihm := ih (m + 1) (by omega) (by omega)
    rw [← wrap_up hm (by omega)] at ihm
    generalize risI lo hi (prevI l (m + 1)) (l.drop (m + 1)) = R at ihm ⊢
    refine Ev.bindo (in_at _ _ _) ?_
    cases hc : (decide (lo ≤ l[m]) && decide (l[m] ≤ hi)) with
    | false => rw [Bool.false_and]; exact Ev.neg (by decide) (Ev.now _)
    | true =>
      rw [Bool.true_and]
      refine Ev.pos rfl ?_
      cases m with
      | zero =>
        refine Ev.neg (by omega) ?_
        simp only [prevI, Bool.true_and]
        exact ihm
      | succ q =>
        have hq : q < l.length := by omega
        have hw : wrap64 (((q + 1 : Nat) : Int) - 1) = (q : Int) := by unfold wrap64; omega
        refine Ev.pos (by omega) ?_
        rw [hw]
        refine Ev.pos (by omega) (Ev.pos (by omega) ?_)
        rw [rd_at l q hq]
        simp only [prevI, List.getElem?_eq_getElem hq]
        by_cases c : l[q] ≥ l[q + 1]
        · rw [decide_eq_false (by omega : ¬ l[q] < l[q + 1]), Bool.false_and]
          exact Ev.pos c (Ev.now _)
        · rw [decide_eq_true (by omega : l[q] < l[q + 1]), Bool.true_and]
          exact Ev.neg c ihm
theorem isRising_loop (l : List Int) (n : Int) (hl : l.length ≤ 1048576) (d : Nat) : ∀ (m : Nat), l.length - m = d → m ≤ l.length →
    Ev (fun k => impl_isRising.l0 k l n l (l.length : Int) (m : Int)) (risI 0 (wrap64 (n - 1)) (prevI l m) (l.drop m)) := by
  induction d with
  | zero =>
    intro m h0 h1
    refine Ev.step (fun k => by rw [impl_isRising.l0]) ?_
    rw [List.drop_eq_nil_of_le (by omega)]
    refine Ev.neg (by omega) ?_
    cases prevI l m <;> exact Ev.now _
  | succ d ih =>
    intro m h0 h1
    have hm : m < l.length := by omega
    refine Ev.step (fun k => by rw [impl_isRising.l0]) ?_
    rw [risI_step l 0 (wrap64 (n - 1)) m hm]
    refine Ev.pos (by omega) (Ev.pos (by omega) (Ev.pos (by omega) ?_))
    rw [rd_at l m hm]
    have ihm := ih (m + 1) (by omega) (by omega)
    rw [← wrap_up hm (by omega)] at ihm
    generalize risI 0 (wrap64 (n - 1)) (prevI l (m + 1)) (l.drop (m + 1)) = R at ihm ⊢
    refine Ev.bindo (between_at _ _ _) ?_
    cases hc : (decide (0 ≤ l[m]) && decide (l[m] ≤ wrap64 (n - 1))) with
    | false => rw [Bool.false_and]; exact Ev.neg (by decide) (Ev.now _)
    | true =>
      rw [Bool.true_and]
      refine Ev.pos rfl ?_
      cases m with
      | zero =>
        refine Ev.neg (by omega) ?_
        simp only [prevI, Bool.true_and]
        exact ihm
      | succ q =>
        have hq : q < l.length := by omega
        have hw : wrap64 (((q + 1 : Nat) : Int) - 1) = (q : Int) := by unfold wrap64; omega
        refine Ev.pos (by omega) ?_
        rw [hw]
        refine Ev.pos (by omega) (Ev.pos (by omega) ?_)
        rw [rd_at l q hq]
        simp only [prevI, List.getElem?_eq_getElem hq]
        by_cases c : l[q + 1] ≤ l[q]
        · rw [decide_eq_false (by omega : ¬ l[q] < l[q + 1]), Bool.false_and]
          exact Ev.pos c (Ev.now _)
        · rw [decide_eq_true (by omega : l[q] < l[q + 1]), Bool.true_and]
          exact Ev.neg c ihm
theorem rising_ev (l : List Int) (n : Int) (hl : l.length ≤ 1048576) : Ev (fun k => impl_isRising.f k l n) (risI 0 (wrap64 (n - 1)) none l) :=
  isRising_loop l n hl l.length 0 (by omega) (Nat.zero_le _)
theorem l1Rising_ev (l : List Int) (lo hi : Int) (hl : l.length ≤ 1048576) : Ev (fun k => spec_l1Rising.f k l lo hi) (risI lo hi none l) :=
  l1Rising_loop l lo hi hl l.length 0 (by omega) (Nat.zero_le _)
theorem risI_all (lo hi : Int) (l : List Int) : ∀ p, risI lo hi p l = true → ∀ x ∈ l, lo ≤ x ∧ x ≤ hi := by
  induction l with
  | nil => intro p h x hx; simp at hx
  | cons y t ih =>
    intro p h x hx
    simp only [risI, Bool.and_eq_true, decide_eq_true_eq] at h
    rcases List.mem_cons.1 hx with rfl | hx
    · exact h.1
    · exact ih _ h.2.2 x hx
theorem risI_pw (lo hi : Int) (l : List Int) : ∀ p, risI lo hi p l = true → l.Pairwise (· < ·) ∧ ∀ q, p = some q → ∀ x ∈ l, q < x := by
  induction l with
  | nil => intro p _; exact ⟨.nil, fun _ _ x hx => by cases hx⟩
  | cons y t ih =>
    intro p h
    simp only [risI, Bool.and_eq_true, decide_eq_true_eq] at h
    obtain ⟨_, h2, h3⟩ := h
    obtain ⟨i1, i2⟩ := ih _ h3
    refine ⟨List.pairwise_cons.2 ⟨fun x hx => i2 y rfl x hx, i1⟩, fun q hq x hx => ?_⟩
    subst hq
    have h4 : q < y := by simpa using h2
    rcases List.mem_cons.1 hx with rfl | hx
    · exact h4
    · have := i2 y rfl x hx; omega
end Go.Proofs.Ythnojbafclglpaa.P
namespace Go.Proofs.Ythnojbafclglpaa.P
open Go.RowKit Go.Proofs.YthnojbafclglpaaW.PrintWords Go.Proofs.YthnojbafclglpaaW.PrintLast Go.Proofs.YthnojbafclglpaaW.PrintMore
set_option linter.unusedVariables false
set_option linter.unusedSimpArgs false

theorem clone_at (l : List Int) (h : l.length ≤ 1048576) : slices_Clone_int_int.f l = some l := by
  unfold slices_Clone_int_int.f
  rw [if_pos (by omega)]
section
variable (st : List (List Int)) (e : List PrT) (hm0 : modS st e) (l : List Int) (hl : l.length ≤ 1048576) (hp : l.Pairwise (· < ·)) (hb : ∀ x ∈ l, 0 ≤ x ∧ x < (st.length : Int))
include hm0 hl hp hb
theorem ind_irows {R : List (List Int) × List PrT × Bool} (d : Nat) : ∀ (m : Nat), l.length - m = d → m ≤ l.length → Ev (fun k => impl_InducedSpace.l1 k l e (e.length : Int) 0 (l.map (rd_L4 st)) []) R →
    Ev (fun k => impl_InducedSpace.l0 k l l (l.length : Int) (m : Int) st e ((l.take m).map (rd_L4 st))) R := by
  have _hu := hp
  induction d with
  | zero =>
    intro m h0 h1 hR
    rw [List.take_of_length_le (by omega)]
    refine Ev.step (fun k => by rw [impl_InducedSpace.l0]) ?_
    refine Ev.neg (by omega) ?_
    exact hR
  | succ d ih =>
    intro m h0 h1 hR
    have hm : m < l.length := by omega
    have hx := hb l[m] (List.getElem_mem hm)
    have h5 := ih (m + 1) (by omega) (by omega) hR
    rw [← wrap_up hm (by omega), List.take_add_one, List.getElem?_eq_getElem hm, Option.toList, List.map_append, List.map_singleton] at h5
    have hlm : ((l.take m).map (rd_L4 st)).length ≤ l.length := by rw [List.length_map, List.length_take]; omega
    refine Ev.step (fun k => by rw [impl_InducedSpace.l0]) ?_
    refine Ev.pos (by omega) ?_
    refine Ev.pos (by omega) ?_
    refine Ev.pos (by omega) ?_
    rw [rd_at l m hm]
    refine Ev.pos hx.1 ?_
    refine Ev.pos hx.2 ?_
    refine Ev.bindo (clone_at _ (by
      obtain ⟨i, hi⟩ := Int.eq_ofNat_of_zero_le hx.1
      rw [hi, rdL_at st i (by omega)]
      exact hm0.2.1 _ (List.getElem_mem _))) ?_
    refine Ev.pos (by omega) ?_
    exact h5
theorem ind_isteps (A : List Int) (hA : atP l l.length A st.length) (hg : goodP (st.length : Int) none e = true) (q0 : List (List Int)) (d : Nat) : ∀ (m : Nat), e.length - m = d → m ≤ e.length →
    Ev (fun k => impl_InducedSpace.l1 k l e (e.length : Int) (m : Int) q0 ((e.take m).filterMap (pickA A))) (q0, e.filterMap (pickA A), true) := by
  have _hu := hb
  have he := hm0.2.2
  have key : ∀ x, 0 ≤ x → x < (st.length : Int) → ∃ p : Int, Ev (fun k => slices_BinarySearch_int_int.f k l x) (p, decide (x ∈ l)) ∧ (x ∈ l → rd A x = p ∧ 0 ≤ p) ∧ (x ∉ l → rd A x = -1) := by
    intro x h0 h1
    obtain ⟨p, p1, p2⟩ := bsI_ev l x hl hp
    obtain ⟨b1, b2⟩ := hA.2 x h0 h1
    refine ⟨p, p1, fun hx => ?_, fun hx => b2 fun q hq _ e' => hx (e' ▸ List.getElem_mem hq)⟩
    obtain ⟨hq, e'⟩ := p2 hx
    exact ⟨b1 p hq hq e', by omega⟩
  induction d with
  | zero =>
    intro m h0 h1
    rw [List.take_of_length_le (by omega)]
    refine Ev.step (fun k => by rw [impl_InducedSpace.l1]) ?_
    exact Ev.neg (by omega) (Ev.now _)
  | succ d ih =>
    intro m h0 h1
    have hm : m < e.length := by omega
    have hs := goodP_all _ e none hg e[m] (List.getElem_mem hm)
    have h5 := ih (m + 1) (by omega) (by omega)
    have hle := filterMap_le (pickA A) e m he
    rw [filterMap_take _ e m hm, ← wrap_up hm (by omega)] at h5
    obtain ⟨p, p1, p2, p3⟩ := key e[m].f0 (by omega) (by omega)
    obtain ⟨r, r1, r2, r3⟩ := key e[m].f1 (by omega) (by omega)
    refine Ev.step (fun k => by rw [impl_InducedSpace.l1]) ?_
    refine Ev.pos (by omega) ?_
    refine Ev.pos (by omega) ?_
    refine Ev.pos (by omega) ?_
    rw [rdT_at e m hm]
    refine Ev.bind p1 ?_
    refine Ev.bind r1 ?_
    by_cases c0 : e[m].f0 ∈ l
    · refine Ev.pos (decide_eq_true c0) ?_
      by_cases c1 : e[m].f1 ∈ l
      · obtain ⟨a1, a2⟩ := p2 c0
        obtain ⟨b1, b2⟩ := r2 c1
        rw [show pickA A e[m] = some ⟨p, r⟩ by unfold pickA; rw [a1, b1, if_pos ⟨a2, b2⟩]] at h5
        refine Ev.pos (decide_eq_true c1) ?_
        refine Ev.pos (by omega) ?_
        exact h5
      · rw [show pickA A e[m] = none from if_neg (fun h => by rw [r3 c1] at h; exact absurd h.2 (by decide)), Option.toList, List.append_nil] at h5
        refine Ev.neg (by rw [decide_eq_true_eq]; exact c1) ?_
        exact h5
    · rw [show pickA A e[m] = none from if_neg (fun h => by rw [p3 c0] at h; exact absurd h.1 (by decide)), Option.toList, List.append_nil] at h5
      refine Ev.neg (by rw [decide_eq_true_eq]; exact c0) ?_
      exact h5
end
theorem Both_FnExactInducedSpace (l0_0 : List (List Int)) (l0_1 : List S64) (l1 : List Int) (w0_0 : FitLL l0_0) (w0_1 : FitP l0_1) (w1 : FitL l1) (hm0 : modS l0_0 l0_1) (hl1 : l1.length ≤ 1048576) : ∃ (q0 : List (List Int)) (q1 : List S64) (q2 : Bool), Ev (fun k => spec_InducedSpace.f k l0_0 l0_1 l1) (q0, q1, q2) ∧ Ev (fun k => impl_InducedSpace.f k l0_0 l0_1 l1) (q0, q1, q2) ∧ modS q0 q1 := by
  have hs := l2Space_ev l0_0 l0_1 hm0
  have hi := impl_IsSpace_ev l0_0 l0_1 hm0
  have hsr := l1Rising_ev l1 0 (wrap64 ((l0_0.length : Int) - 1)) hl1
  have hir := rising_ev l1 (l0_0.length : Int) hl1
  have hn := hm0.1
  have h00 : modS ([] : List (List Int)) ([] : List PrT) := ⟨Nat.zero_le _, (fun s hs => by cases hs), Nat.zero_le _⟩
  cases h : okS l0_0 l0_1 with
  | true =>
    have hg := okS_goodL h
    rw [h] at hs hi
    cases hr : risI 0 (wrap64 ((l0_0.length : Int) - 1)) none l1 with
    | true =>
      rw [hr] at hsr hir
      have hp := (risI_pw _ _ l1 none hr).1
      have hb0 := risI_all _ _ l1 none hr
      rw [wrap_nat (by omega) (by omega)] at hb0
      have hb : ∀ x ∈ l1, 0 ≤ x ∧ x < (l0_0.length : Int) := fun x hx => by have := hb0 x hx; omega
      obtain ⟨A, a1, a2⟩ := l2Induced_ev l0_0 l0_1 hm0 l1 hl1 hp hb hg.2
      refine ⟨l1.map (rd_L4 l0_0), l0_1.filterMap (pickA A), true, ?_, ?_, ?_⟩
      · unfold spec_InducedSpace.f
        refine Ev.bind hs ?_
        refine Ev.pos rfl ?_
        refine Ev.bind hsr ?_
        refine Ev.pos rfl ?_
        exact Ev.bind a2 (Ev.now _)
      · unfold impl_InducedSpace.f
        refine Ev.bind hi ?_
        refine Ev.pos rfl ?_
        refine Ev.bind hir ?_
        refine Ev.step (fun k => by rw [impl_InducedSpace.j0]) ?_
        refine Ev.neg (by decide) ?_
        have h1 := ind_isteps l0_0 l0_1 hm0 l1 hl1 hp hb A a1 hg.2 (l1.map (rd_L4 l0_0)) (l0_1.length - 0) 0 rfl (Nat.zero_le _)
        simp only [Int.natCast_zero, List.take_zero, List.filterMap_nil] at h1
        have h2 := ind_irows l0_0 l0_1 hm0 l1 hl1 hp hb (l1.length - 0) 0 rfl (Nat.zero_le _) h1
        simp only [Int.natCast_zero, List.take_zero, List.map_nil] at h2
        exact h2
      · refine ⟨by rw [List.length_map]; exact hl1, fun s hs' => ?_, Nat.le_trans (List.length_filterMap_le _ _) hm0.2.2⟩
        obtain ⟨x, hx, rfl⟩ := List.mem_map.1 hs'
        have hx' := hb x hx
        obtain ⟨i, hi'⟩ := Int.eq_ofNat_of_zero_le hx'.1
        rw [hi', rdL_at l0_0 i (by omega)]
        exact hm0.2.1 _ (List.getElem_mem _)
    | false =>
      rw [hr] at hsr hir
      refine ⟨[], [], false, ?_, ?_, h00⟩
      · unfold spec_InducedSpace.f
        refine Ev.bind hs ?_
        refine Ev.pos rfl ?_
        refine Ev.bind hsr ?_
        exact Ev.neg (by decide) (Ev.now _)
      · unfold impl_InducedSpace.f
        refine Ev.bind hi ?_
        refine Ev.pos rfl ?_
        refine Ev.bind hir ?_
        refine Ev.step (fun k => by rw [impl_InducedSpace.j0]) ?_
        exact Ev.pos rfl (Ev.now _)
  | false =>
    rw [h] at hs hi
    refine ⟨[], [], false, ?_, ?_, h00⟩
    · unfold spec_InducedSpace.f
      refine Ev.bind hs ?_
      exact Ev.neg (by decide) (Ev.now _)
    · unfold impl_InducedSpace.f
      refine Ev.bind hi ?_
      refine Ev.neg (by decide) ?_
      refine Ev.step (fun k => by rw [impl_InducedSpace.j0]) ?_
      exact Ev.pos rfl (Ev.now _)
end Go.Proofs.Ythnojbafclglpaa.P
namespace Go.Proofs.Ythnojbafclglpaa.P
open Go.RowKit Go.Proofs.YthnojbafclglpaaW.PrintWords Go.Proofs.YthnojbafclglpaaW.PrintLast Go.Proofs.YthnojbafclglpaaW.PrintMore
set_option linter.unusedVariables false
set_option linter.unusedSimpArgs false

def seqI : Nat → Int → List Int
  | 0, _ => []
  | n + 1, k => k :: seqI n (wrap64 (k + 1))
def endI : Nat → Int → Int
  | 0, k => k
  | n + 1, k => endI n (wrap64 (k + 1))
theorem seqI_len (n : Nat) : ∀ k, (seqI n k).length = n := by
  induction n with
  | zero => intro k; rfl
  | succ n ih => intro k; simp [seqI, ih]
theorem endI_at (n : Nat) : ∀ k, 0 ≤ k → k + (n : Int) ≤ 4611686018427387904 → endI n k = k + (n : Int) := by
  induction n with
  | zero => intro k h1 h2; simp [endI]
  | succ n ih =>
    intro k h1 h2
    have e1 : wrap64 (k + 1) = k + 1 := wrap_nat (by omega) (by omega)
    rw [endI, e1, ih (k + 1) (by omega) (by omega)]
    omega
theorem markInt_loop (d : Nat) : ∀ (done rest : List Int) (c : Int), rest.length = d → done.length + d ≤ 1048576 →
    Ev (fun k => laws_markIntS.l0 k (done ++ rest) c (done.length : Int)) (endI d c, done ++ seqI d c) := by
  induction d with
  | zero =>
    intro done rest c h0 h1
    refine Ev.step (fun k => by rw [laws_markIntS.l0]) ?_
    have : rest = [] := List.eq_nil_of_length_eq_zero h0
    subst this
    refine Ev.neg (by simp) ?_
    exact Ev.now _
  | succ d ih =>
    intro done rest c h0 h1
    obtain ⟨x, t, rfl⟩ : ∃ x t, rest = x :: t := by
      cases rest with
      | nil => simp at h0
      | cons x t => exact ⟨x, t, rfl⟩
    have h2 : t.length = d := by simpa using h0
    refine Ev.step (fun k => by rw [laws_markIntS.l0]) ?_
    refine Ev.pos (by simp; omega) (Ev.pos (by omega) ?_)
    have e : (done ++ x :: t).set ((done.length : Int)).toNat c = (done ++ [c]) ++ t := by
      rw [Int.toNat_natCast]
      simp
    have hw : wrap64 ((done.length : Int) + 1) = ((done ++ [c]).length : Int) := by
      rw [List.length_append, List.length_singleton]
      exact wrap_up (n := done.length + 1) (by omega) (by omega)
    rw [e, hw]
    have := ih (done ++ [c]) t (wrap64 (c + 1)) h2 (by rw [List.length_append, List.length_singleton]; omega)
    simpa only [seqI, endI, List.append_assoc, List.singleton_append] using this
theorem markInt_ev (l : List Int) (c : Int) (hl : l.length ≤ 1048576) : Ev (fun k => laws_markIntS.f k l c) (endI l.length c, seqI l.length c) := by
  unfold laws_markIntS.f
  have := markInt_loop l.length [] l c rfl (by simpa using hl)
  simpa only [List.nil_append, List.length_nil, Int.ofNat_eq_natCast, Int.natCast_zero] using this
theorem heldInt_loop (d : Nat) : ∀ (done : List Int) (c : Int), done.length + d ≤ 1048576 →
    Ev (fun k => laws_heldIntS.l0 k (done ++ seqI d c) c (done.length : Int)) (endI d c) := by
  induction d with
  | zero =>
    intro done c h1
    refine Ev.step (fun k => by rw [laws_heldIntS.l0]) ?_
    refine Ev.neg (by simp [seqI]) ?_
    exact Ev.now _
  | succ d ih =>
    intro done c h1
    refine Ev.step (fun k => by rw [laws_heldIntS.l0]) ?_
    have hlen : (done ++ seqI (d + 1) c).length = done.length + (d + 1) := by rw [List.length_append, seqI_len]
    refine Ev.pos (by rw [hlen]; omega) (Ev.pos (by omega) ?_)
    have hr : rd (done ++ seqI (d + 1) c) (done.length : Int) = c := by
      rw [rd_at _ _ (by rw [hlen]; omega)]
      simp [seqI]
    refine Ev.pos hr ?_
    have hw : wrap64 ((done.length : Int) + 1) = ((done ++ [c]).length : Int) := by
      rw [List.length_append, List.length_singleton]
      exact wrap_up (n := done.length + 1) (by omega) (by omega)
    rw [hw]
    have := ih (done ++ [c]) (wrap64 (c + 1)) (by rw [List.length_append, List.length_singleton]; omega)
    simpa only [seqI, endI, List.append_assoc, List.singleton_append] using this
theorem heldInt_ev (n : Nat) (c : Int) (hn : n ≤ 1048576) : Ev (fun k => laws_heldIntS.f k (seqI n c) c) (endI n c) := by
  unfold laws_heldIntS.f
  have := heldInt_loop n [] c (by simpa using hn)
  simpa only [List.nil_append, List.length_nil, Int.ofNat_eq_natCast, Int.natCast_zero] using this
end Go.Proofs.Ythnojbafclglpaa.P
