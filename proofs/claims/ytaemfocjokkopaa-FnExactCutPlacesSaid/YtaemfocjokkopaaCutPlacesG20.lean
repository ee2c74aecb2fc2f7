/- Both sides' test of a list of edges, and of a graph, say what goodP and okG say in plain words. -/
import Derived.Test.YtaemfocjokkopaaCutPlacesG7
import Derived.Test.YtaemfocjokkopaaCutPlacesG8
import Derived.Test.YtaemfocjokkopaaCutPlacesG9
import Derived.Test.YtaemfocjokkopaaCutPlacesG19
import Derived.Test.YtaemfocjokkopaaCutPlacesG5
import Derived.Test.YtaemfocjokkopaaCutPlacesG18
import Derived.Test.YtaemfocjokkopaaCutPlacesG10
import Derived.Test.YtaemfocjokkopaaCutPlacesG17
import Derived.Test.YtaemfocjokkopaaCutPlacesG11
namespace Go.Proofs.Ytaemfocjokkopaa.P
open Go.RowKit Go.Proofs.YtaemfocjokkopaaW.PrintWords Go.Proofs.YtaemfocjokkopaaW.PrintLast Go.Proofs.YtaemfocjokkopaaW.PrintMore
set_option linter.unusedVariables false
set_option linter.unusedSimpArgs false

theorem in_at (a lo hi : Int) : spec_l1In.f a lo hi = some (decide (lo ≤ a) && decide (a ≤ hi)) := by
  unfold spec_l1In.f
  by_cases h : lo ≤ a
  · rw [if_pos h, decide_eq_true h, Bool.true_and]
  · rw [if_neg h, decide_eq_false h, Bool.false_and]
/-- A pair comes before another one. -/
def befP (a b : S54) : Bool := decide (a.f0 < b.f0) || (decide (a.f0 = b.f0) && decide (a.f1 < b.f1))
theorem edge_at (a b : S54) : spec_l2Edge.f a.f0 a.f1 b.f0 b.f1 = some (befP a b) := by
  unfold spec_l2Edge.f befP
  by_cases h : a.f0 < b.f0
  · rw [if_pos h, decide_eq_true h, Bool.true_or]
  · rw [if_neg h, decide_eq_false h, Bool.false_or]
    by_cases h2 : a.f0 = b.f0
    · rw [if_pos h2, decide_eq_true h2, Bool.true_and]
    · rw [if_neg h2, decide_eq_false h2, Bool.false_and]
theorem cmpP_bef (a b : S54) : (cmpP a b < 0) ↔ befP a b = true := by
  unfold cmpP befP cmpI
  simp only [Bool.or_eq_true, Bool.and_eq_true, decide_eq_true_eq]
  by_cases h : a.f0 < b.f0
  · simp [h]
  · by_cases h2 : b.f0 < a.f0
    · have : ¬ a.f0 = b.f0 := by omega
      simp [h, h2, this]
    · have h3 : a.f0 = b.f0 := by omega
      by_cases h4 : a.f1 < b.f1
      · simp [h3, h4]
      · by_cases h5 : b.f1 < a.f1 <;> simp [h3, h4, h5]
/-- Pairs of numbers from 0 on below n, the less one first, strictly ascending behind a first one. -/
def goodP (n : Int) : Option S54 → List S54 → Bool
  | _, [] => true
  | p, e :: t => (decide (0 ≤ e.f0) && decide (e.f0 < e.f1) && decide (e.f1 < n)) && ((match p with | none => true | some q => befP q e) && goodP n (some e) t)
def prevP (l : List S54) : Nat → Option S54
  | 0 => none
  | m + 1 => l[m]?
theorem goodP_step (l : List S54) (n : Int) (m : Nat) (hm : m < l.length) : goodP n (prevP l m) (l.drop m) = ((decide (0 ≤ l[m].f0) && decide (l[m].f0 < l[m].f1) && decide (l[m].f1 < n)) && ((match prevP l m with | none => true | some q => befP q l[m]) && goodP n (prevP l (m + 1)) (l.drop (m + 1)))) := by
  rw [List.drop_eq_getElem_cons hm, show prevP l (m + 1) = some l[m] from List.getElem?_eq_getElem hm]
  cases prevP l m <;> rfl
theorem l2Pairs_loop (l : List S54) (n : Int) (hn : 0 ≤ n) (hn2 : n ≤ 4611686018427387904) (hl : l.length ≤ 1048576) (d : Nat) : ∀ (m : Nat), l.length - m = d → m ≤ l.length →
    Ev (fun k => spec_l2Pairs.l0 k l n (m : Int)) (goodP n (prevP l m) (l.drop m)) := by
  induction d with
  | zero =>
    intro m h0 h1
    refine Ev.step (fun k => by rw [spec_l2Pairs.l0]) ?_
    have e3 : l.drop m = [] := List.drop_eq_nil_of_le (by omega)
    rw [e3]
    refine Ev.neg (by omega) ?_
    cases prevP l m <;> exact Ev.now _
  | succ d ih =>
    intro m h0 h1
    have hm : m < l.length := by omega
    refine Ev.step (fun k => by rw [spec_l2Pairs.l0]) ?_
    rw [goodP_step l n m hm]
    refine Ev.pos (by omega) (Ev.pos (by omega) ?_)
    rw [rdT_at l m hm, wrap_nat (m := n - 1) (by omega) (by omega)]
    have ihm := ih (m + 1) (by omega) (by omega)
    rw [← wrap_up hm (by omega)] at ihm
    generalize goodP n (prevP l (m + 1)) (l.drop (m + 1)) = R at ihm ⊢
    refine Ev.bindo (in_at _ _ _) ?_
    by_cases c1 : 0 ≤ l[m].f0
    · by_cases c2 : l[m].f0 ≤ n - 1
      · refine Ev.pos (by simp [c1, c2]) (Ev.bindo (in_at _ _ _) ?_)
        by_cases c3 : 0 ≤ l[m].f1 ∧ l[m].f1 ≤ n - 1
        · refine Ev.pos (by simp [c3.1, c3.2]) ?_
          by_cases c4 : l[m].f0 ≥ l[m].f1
          · have : (decide (0 ≤ l[m].f0) && decide (l[m].f0 < l[m].f1) && decide (l[m].f1 < n)) = false := by simp; omega
            rw [this, Bool.false_and]
            exact Ev.pos c4 (Ev.now _)
          · have : (decide (0 ≤ l[m].f0) && decide (l[m].f0 < l[m].f1) && decide (l[m].f1 < n)) = true := by simp; omega
            rw [this, Bool.true_and]
            refine Ev.neg c4 ?_
            cases m with
            | zero =>
              refine Ev.neg (by omega) ?_
              simp only [prevP, Bool.true_and]
              exact ihm
            | succ q =>
              have hq : q < l.length := by omega
              have hw : wrap64 (((q + 1 : Nat) : Int) - 1) = (q : Int) := by unfold wrap64; omega
              refine Ev.pos (by omega) ?_
              rw [hw]
              refine Ev.pos (by omega) (Ev.pos (by omega) ?_)
              rw [rdT_at l q hq]
              refine Ev.bindo (edge_at _ _) ?_
              simp only [prevP, List.getElem?_eq_getElem hq]
              cases befP l[q] l[q + 1] with
              | true => rw [Bool.true_and]; exact Ev.pos rfl ihm
              | false => rw [Bool.false_and]; exact Ev.neg (by decide) (Ev.now _)
        · have : (decide (0 ≤ l[m].f0) && decide (l[m].f0 < l[m].f1) && decide (l[m].f1 < n)) = false := by simp; omega
          rw [this, Bool.false_and]
          exact Ev.neg (by simp; omega) (Ev.now _)
      · have : (decide (0 ≤ l[m].f0) && decide (l[m].f0 < l[m].f1) && decide (l[m].f1 < n)) = false := by simp; omega
        rw [this, Bool.false_and]
        exact Ev.neg (by simp; omega) (Ev.now _)
    · have : (decide (0 ≤ l[m].f0) && decide (l[m].f0 < l[m].f1) && decide (l[m].f1 < n)) = false := by simp; omega
      rw [this, Bool.false_and]
      exact Ev.neg (by simp; omega) (Ev.now _)
theorem isPairs_loop (l : List S54) (n : Int) (hl : l.length ≤ 1048576) (d : Nat) : ∀ (m : Nat), l.length - m = d → m ≤ l.length →
    Ev (fun k => impl_isPairs.l0 k l n l (l.length : Int) (m : Int)) (goodP n (prevP l m) (l.drop m)) := by
  induction d with
  | zero =>
    intro m h0 h1
    refine Ev.step (fun k => by rw [impl_isPairs.l0]) ?_
    have e3 : l.drop m = [] := List.drop_eq_nil_of_le (by omega)
    rw [e3]
    refine Ev.neg (by omega) ?_
    cases prevP l m <;> exact Ev.now _
  | succ d ih =>
    intro m h0 h1
    have hm : m < l.length := by omega
    refine Ev.step (fun k => by rw [impl_isPairs.l0]) ?_
    rw [goodP_step l n m hm]
    refine Ev.pos (by omega) (Ev.pos (by omega) (Ev.pos (by omega) ?_))
    rw [rdT_at l m hm]
    have ihm := ih (m + 1) (by omega) (by omega)
    rw [← wrap_up hm (by omega)] at ihm
    generalize goodP n (prevP l (m + 1)) (l.drop (m + 1)) = R at ihm ⊢
    by_cases c1 : l[m].f0 < 0
    · have : (decide (0 ≤ l[m].f0) && decide (l[m].f0 < l[m].f1) && decide (l[m].f1 < n)) = false := by simp; omega
      rw [this, Bool.false_and]
      exact Ev.pos c1 (Ev.now _)
    · refine Ev.neg c1 ?_
      by_cases c2 : l[m].f0 ≥ l[m].f1
      · have : (decide (0 ≤ l[m].f0) && decide (l[m].f0 < l[m].f1) && decide (l[m].f1 < n)) = false := by simp; omega
        rw [this, Bool.false_and]
        exact Ev.pos c2 (Ev.now _)
      · refine Ev.neg c2 ?_
        by_cases c3 : l[m].f1 ≥ n
        · have : (decide (0 ≤ l[m].f0) && decide (l[m].f0 < l[m].f1) && decide (l[m].f1 < n)) = false := by simp; omega
          rw [this, Bool.false_and]
          exact Ev.pos c3 (Ev.now _)
        · have : (decide (0 ≤ l[m].f0) && decide (l[m].f0 < l[m].f1) && decide (l[m].f1 < n)) = true := by simp; omega
          rw [this, Bool.true_and]
          refine Ev.neg c3 ?_
          cases m with
          | zero =>
            refine Ev.neg (by omega) ?_
            simp only [prevP, Bool.true_and]
            exact ihm
          | succ q =>
            have hq : q < l.length := by omega
            have hw : wrap64 (((q + 1 : Nat) : Int) - 1) = (q : Int) := by unfold wrap64; omega
            refine Ev.pos (by omega) ?_
            rw [hw]
            refine Ev.pos (by omega) (Ev.pos (by omega) ?_)
            rw [rdT_at l q hq]
            refine Ev.bind (a := cmpP l[q] l[q + 1]) ⟨3, fun k hk => comparePairs_at _ _ k hk⟩ ?_
            simp only [prevP, List.getElem?_eq_getElem hq]
            have hb := cmpP_bef l[q] l[q + 1]
            cases hbb : befP l[q] l[q + 1] with
            | true => rw [Bool.true_and]; exact Ev.neg (by have := hb.2 hbb; omega) ihm
            | false => rw [Bool.false_and]; exact Ev.pos (by rw [hbb] at hb; have : ¬ cmpP l[q] l[q+1] < 0 := fun h => by have := hb.1 h; cases this
                                                             omega) (Ev.now _)
theorem l2Pairs_ev (l : List S54) (n : Int) (hn : 0 ≤ n) (hn2 : n ≤ 4611686018427387904) (hl : l.length ≤ 1048576) : Ev (fun k => spec_l2Pairs.f k l n) (goodP n none l) :=
  l2Pairs_loop l n hn hn2 hl l.length 0 (by omega) (Nat.zero_le _)
theorem isPairs_ev (l : List S54) (n : Int) (hl : l.length ≤ 1048576) : Ev (fun k => impl_isPairs.f k l n) (goodP n none l) :=
  isPairs_loop l n hl l.length 0 (by omega) (Nat.zero_le _)
/-- A valid graph. -/
def okG (a : Int) (l : List S54) : Bool := (decide (0 ≤ a) && decide (a ≤ 8)) && goodP a none l
end Go.Proofs.Ytaemfocjokkopaa.P
namespace Go.Proofs.Ytaemfocjokkopaa.P
open Go.RowKit Go.Proofs.YtaemfocjokkopaaW.PrintWords Go.Proofs.YtaemfocjokkopaaW.PrintLast Go.Proofs.YtaemfocjokkopaaW.PrintMore
set_option linter.unusedVariables false
set_option linter.unusedSimpArgs false

theorem rdL_at (l : List (List Int)) (m : Nat) (h : m < l.length) : rd_L1 l (m : Int) = l[m] := by simp [rd_L1, List.getD_eq_getElem?_getD, List.getElem?_eq_getElem h]
/-- A space of moderate size. -/
def modS (l : List (List Int)) (e : List S54) : Prop := l.length ≤ 1048576 ∧ (∀ s ∈ l, s.length ≤ 1048576) ∧ e.length ≤ 1048576
theorem szIntSS_loop (l : List (List Int)) (hl : l.length ≤ 1048576) (hf : ∀ s ∈ l, s.length ≤ 9223372036854775807) (d : Nat) : ∀ (m : Nat) (c : Int), l.length - m = d → m ≤ l.length → 0 ≤ c → c ≤ 1048576 →
    ∃ t, Ev (fun k => laws_szIntSS.l0 k l c (m : Int)) t ∧ (t < 0 ∨ (0 ≤ t ∧ t ≤ c ∧ ∀ s ∈ l.drop m, s.length ≤ 1048576)) := by
  induction d with
  | zero =>
    intro m c h0 h1 h2 h3
    refine ⟨c, Ev.step (fun k => by rw [laws_szIntSS.l0]) (Ev.neg (by omega) (Ev.now _)), .inr ⟨h2, by omega, ?_⟩⟩
    rw [List.drop_eq_nil_of_le (by omega)]
    intro s hs
    simp at hs
  | succ d ih =>
    intro m c h0 h1 h2 h3
    have hm : m < l.length := by omega
    have hs := hf l[m] (List.getElem_mem hm)
    by_cases hc : c - (l[m].length : Int) < 0
    · refine ⟨-1, ?_, .inl (by omega)⟩
      refine Ev.step (fun k => by rw [laws_szIntSS.l0]) ?_
      refine Ev.pos (by omega) (Ev.pos (by omega) ?_)
      refine Ev.bindo (a := (-1 : Int)) ?_ (Ev.pos (by omega) (Ev.now _))
      unfold laws_szIntS.f
      rw [rdL_at l m hm, wrap_nat (m := c - (l[m].length : Int)) (by omega) (by omega), if_pos hc]
    · obtain ⟨t, ht, hd⟩ := ih (m + 1) (c - (l[m].length : Int)) (by omega) (by omega) (by omega) (by omega)
      refine ⟨t, ?_, ?_⟩
      · refine Ev.step (fun k => by rw [laws_szIntSS.l0]) ?_
        refine Ev.pos (by omega) (Ev.pos (by omega) ?_)
        refine Ev.bindo (a := c - (l[m].length : Int)) ?_ (Ev.neg (by omega) ?_)
        · unfold laws_szIntS.f
          rw [rdL_at l m hm, wrap_nat (m := c - (l[m].length : Int)) (by omega) (by omega), if_neg hc]
        · rw [wrap_up hm (by omega)]
          exact ht
      · rcases hd with hd | ⟨h4, h5, h6⟩
        · exact .inl hd
        · refine .inr ⟨h4, by omega, ?_⟩
          rw [List.drop_eq_getElem_cons hm]
          intro s hs
          rcases List.mem_cons.1 hs with rfl | hs
          · omega
          · exact h6 s hs
theorem sz_space (l : List (List Int)) (e : List S54) (hl : FitLL l) (he : e.length ≤ 9223372036854775807) : ∃ t, Ev (fun k => laws_szSpace.f k l e 1048576) t ∧ (t < 0 ∨ modS l e) := by
  unfold laws_szSpace.f laws_szIntSS.f
  have h1 := hl.1
  have hw : wrap64 (1048576 - (l.length : Int)) = 1048576 - (l.length : Int) := wrap_nat (by omega) (by omega)
  rw [hw]
  by_cases h : 1048576 - (l.length : Int) < 0
  · exact ⟨-1, Ev.bind (Ev.pos h (Ev.now _)) (Ev.pos (by omega) (Ev.now _)), .inl (by omega)⟩
  · obtain ⟨t, ht, hd⟩ := szIntSS_loop l (by omega) (fun s hs => (hl.2 s hs).1) l.length 0 (1048576 - (l.length : Int)) (by omega) (Nat.zero_le _) (by omega) (by omega)
    rcases hd with hd | ⟨h4, h5, h6⟩
    · exact ⟨-1, Ev.bind (Ev.neg h ht) (Ev.pos hd (Ev.now _)), .inl (by omega)⟩
    · have hw2 : wrap64 (t - (e.length : Int)) = t - (e.length : Int) := wrap_nat (by omega) (by omega)
      by_cases h7 : t - (e.length : Int) < 0
      · refine ⟨-1, Ev.bind (Ev.neg h ht) (Ev.neg (by omega) (Ev.bindo (a := (-1 : Int)) ?_ (Ev.pos (by decide : (-1 : Int) < 0) (Ev.now _)))), .inl (by omega)⟩
        unfold laws_szIntA2S.f
        rw [hw2, if_pos h7]
      · refine ⟨t - (e.length : Int), Ev.bind (Ev.neg h ht) (Ev.neg (by omega) (Ev.bindo (a := t - (e.length : Int)) ?_ (Ev.neg h7 (Ev.now _)))), .inr ⟨by omega, ?_, by omega⟩⟩
        · unfold laws_szIntA2S.f
          rw [hw2, if_neg h7]
        · simpa only [List.drop_zero] using h6
/-! Copies. -/
theorem toIntSS_loop (l : List (List Int)) (hl : l.length ≤ 1048576) (hs : ∀ s ∈ l, s.length ≤ 1048576) (d : Nat) : ∀ (acc : List (List Int)) (m : Nat), l.length - m = d → m ≤ l.length → acc.length = l.length → acc.take m = l.take m →
    Ev (fun k => laws_toIntSS.l0 k l acc (m : Int)) l := by
  induction d with
  | zero =>
    intro acc m h0 h1 h2 h3
    refine Ev.step (fun k => by rw [laws_toIntSS.l0]) ?_
    refine Ev.neg (by omega) ?_
    have : acc = l := by rw [← List.take_length (l := acc), ← List.take_length (l := l), h2, show l.length = m by omega]; exact h3
    rw [this]
    exact Ev.now _
  | succ d ih =>
    intro acc m h0 h1 h2 h3
    have hm : m < l.length := by omega
    refine Ev.step (fun k => by rw [laws_toIntSS.l0]) ?_
    refine Ev.pos (by omega) (Ev.pos (by omega) ?_)
    rw [rdL_at l m hm]
    refine Ev.bind (toIntS_ev l[m] (hs _ (List.getElem_mem hm))) (Ev.pos (by omega) ?_)
    rw [wrap_up hm (by omega), Int.toNat_natCast]
    exact ih _ (m + 1) (by omega) (by omega) (by rw [List.length_set]; exact h2) (take_set_next l acc m hm h2 h3)
theorem toIntSS_ev (l : List (List Int)) (hl : l.length ≤ 1048576) (hs : ∀ s ∈ l, s.length ≤ 1048576) : Ev (fun k => laws_toIntSS.f k l) l := by
  unfold laws_toIntSS.f
  refine Ev.pos (by omega) (Ev.pos (by omega) ?_)
  exact toIntSS_loop l hl hs l.length _ 0 (by omega) (Nat.zero_le _) (by simp) (by simp)
theorem toSpace_ev (l : List (List Int)) (e : List S54) (h : modS l e) : Ev (fun k => laws_toSpace.f k l e) (l, e) := by
  unfold laws_toSpace.f
  exact Ev.bind (toIntSS_ev l h.1 h.2.1) (Ev.bind (toIntA2S_ev e h.2.2) (Ev.now _))
/-! Comparisons of equals. -/
theorem eqIntSS_loop (l : List (List Int)) (hl : l.length ≤ 1048576) (hs : ∀ s ∈ l, s.length ≤ 1048576) (d : Nat) : ∀ (m : Nat), l.length - m = d → m ≤ l.length → Ev (fun k => laws_eqIntSS.l0 k l l (m : Int)) true := by
  induction d with
  | zero =>
    intro m h0 h1
    refine Ev.step (fun k => by rw [laws_eqIntSS.l0]) ?_
    exact Ev.neg (by omega) (Ev.now _)
  | succ d ih =>
    intro m h0 h1
    have hm : m < l.length := by omega
    refine Ev.step (fun k => by rw [laws_eqIntSS.l0]) ?_
    refine Ev.pos (by omega) (Ev.pos (by omega) (Ev.pos (by omega) ?_))
    rw [rdL_at l m hm]
    refine Ev.bind (eqIntS_ev l[m] (hs _ (List.getElem_mem hm))) (Ev.pos rfl ?_)
    rw [wrap_up hm (by omega)]
    exact ih (m + 1) (by omega) (by omega)
theorem eqIntSS_ev (l : List (List Int)) (hl : l.length ≤ 1048576) (hs : ∀ s ∈ l, s.length ≤ 1048576) : Ev (fun k => laws_eqIntSS.f k l l) true := by
  unfold laws_eqIntSS.f
  exact Ev.pos rfl (eqIntSS_loop l hl hs l.length 0 (by omega) (Nat.zero_le _))
theorem eqSpace_ev (l : List (List Int)) (e : List S54) (h : modS l e) : Ev (fun k => laws_eqSpace.f k l e l e) true := by
  unfold laws_eqSpace.f
  exact Ev.bind (eqIntSS_ev l h.1 h.2.1) (Ev.pos rfl (Ev.bind (eqIntA2S_ev e h.2.2) (Ev.pos rfl (Ev.now _))))
/-! A state, and states in order. -/
def okState (s : List Int) : Bool := decide ((s.length : Int) ≤ 24) && s.all fun x => decide (-99 ≤ x) && decide (x ≤ 99)
theorem isState_at (s : List Int) : impl_isState.f s = some (okState s) := by
  unfold impl_isState.f okState
  congr 2
  induction s with
  | nil => rfl
  | cons x t ih =>
    rw [List.any_cons, List.all_cons, Bool.not_or, ih]
    unfold outB
    rw [Bool.not_not]
theorem l2State_loop (s : List Int) (hl : s.length ≤ 1048576) (d : Nat) : ∀ (m : Nat), s.length - m = d → m ≤ s.length →
    Ev (fun k => spec_l2State.l0 k s (m : Int)) (decide ((s.length : Int) ≤ 24) && (s.drop m).all fun x => decide (-99 ≤ x) && decide (x ≤ 99)) := by
  induction d with
  | zero =>
    intro m h0 h1
    refine Ev.step (fun k => by rw [spec_l2State.l0]) (Ev.neg (by omega) ?_)
    rw [List.drop_eq_nil_of_le (by omega), List.all_nil, Bool.and_true]
    exact Ev.now _
  | succ d ih =>
    intro m h0 h1
    have hm : m < s.length := by omega
    refine Ev.step (fun k => by rw [spec_l2State.l0]) (Ev.pos (by omega) (Ev.pos (by omega) ?_))
    rw [rd_at s m hm, List.drop_eq_getElem_cons hm, List.all_cons]
    refine Ev.bindo (in_at _ _ _) ?_
    cases (decide (-99 ≤ s[m]) && decide (s[m] ≤ 99)) with
    | false => rw [Bool.false_and, Bool.and_false]; exact Ev.neg (by decide) (Ev.now _)
    | true =>
      rw [Bool.true_and, wrap_up hm (by omega)]
      exact Ev.pos rfl (ih (m + 1) (by omega) (by omega))
theorem l2State_ev (s : List Int) (hl : s.length ≤ 1048576) : Ev (fun k => spec_l2State.f k s) (okState s) :=
  l2State_loop s hl s.length 0 (by omega) (Nat.zero_le _)
/-- A list comes before another one. -/
def befL : List Int → List Int → Bool
  | [], [] => false
  | [], _ :: _ => true
  | _ :: _, [] => false
  | a :: x, b :: y => if a = b then befL x y else decide (a < b)
theorem l2Before_loop (x y : List Int) (hx : x.length ≤ 1048576) (hy : y.length ≤ 1048576) (d : Nat) : ∀ (m : Nat), x.length - m = d → m ≤ x.length → m ≤ y.length →
    Ev (fun k => spec_l2Before.l0 k x y (m : Int)) (befL (x.drop m) (y.drop m)) := by
  induction d with
  | zero =>
    intro m h0 h1 h2
    refine Ev.step (fun k => by rw [spec_l2Before.l0]) (Ev.neg (by omega) (Ev.step (fun k => by rw [spec_l2Before.j1]) (Ev.neg (by decide) ?_)))
    rw [show x.drop m = [] from List.drop_eq_nil_of_le (by omega)]
    by_cases h : m < y.length
    · rw [List.drop_eq_getElem_cons h, show decide ((x.length : Int) < (y.length : Int)) = true from decide_eq_true (by omega)]
      exact Ev.now _
    · rw [List.drop_eq_nil_of_le (by omega), show decide ((x.length : Int) < (y.length : Int)) = false from decide_eq_false (by omega)]
      exact Ev.now _
  | succ d ih =>
    intro m h0 h1 h2
    have hm : m < x.length := by omega
    refine Ev.step (fun k => by rw [spec_l2Before.l0]) (Ev.pos (by omega) (Ev.step (fun k => by rw [spec_l2Before.j1]) ?_))
    rw [List.drop_eq_getElem_cons hm]
    by_cases h : m < y.length
    · refine Ev.pos (decide_eq_true (by omega)) (Ev.pos (by omega) (Ev.pos (by omega) (Ev.pos (by omega) ?_)))
      rw [rd_at x m hm, rd_at y m h, List.drop_eq_getElem_cons h, befL]
      by_cases c : x[m] = y[m]
      · rw [if_pos c, wrap_up hm (by omega)]
        exact Ev.pos c (ih (m + 1) (by omega) (by omega) (by omega))
      · rw [if_neg c]
        exact Ev.neg c (Ev.now _)
    · refine Ev.neg (by rw [decide_eq_false (by omega)]; decide) ?_
      rw [show y.drop m = [] from List.drop_eq_nil_of_le (by omega), show decide ((x.length : Int) < (y.length : Int)) = false from decide_eq_false (by omega)]
      exact Ev.now _
theorem l2Before_ev (x y : List Int) (hx : x.length ≤ 1048576) (hy : y.length ≤ 1048576) : Ev (fun k => spec_l2Before.f k x y) (befL x y) :=
  l2Before_loop x y hx hy x.length 0 (by omega) (Nat.zero_le _) (Nat.zero_le _)
theorem cmpL_bef (x : List Int) : ∀ y, (cmpL x y ≥ 0) ↔ befL x y = false := by
  induction x with
  | nil => intro y; cases y <;> simp [cmpL, befL]
  | cons a x ih =>
    intro y
    cases y with
    | nil => simp [cmpL, befL]
    | cons b y =>
      simp only [cmpL, befL]
      unfold cmpI
      by_cases h : a < b
      · rw [if_pos h, if_neg (by decide), if_neg (by omega), decide_eq_true h]
        simp
      · rw [if_neg h]
        by_cases h2 : a > b
        · rw [if_pos h2, if_neg (by decide), if_neg (by omega), decide_eq_false h]
          simp
        · rw [if_neg h2, if_pos rfl, if_pos (by omega)]
          exact ih y
/-- States, each a state, strictly ascending behind a first one. -/
def goodS : Option (List Int) → List (List Int) → Bool
  | _, [] => true
  | p, s :: t => okState s && ((match p with | none => true | some q => befL q s) && goodS (some s) t)
def prevS (l : List (List Int)) : Nat → Option (List Int)
  | 0 => none
  | m + 1 => l[m]?
theorem goodS_step (l : List (List Int)) (m : Nat) (hm : m < l.length) : goodS (prevS l m) (l.drop m) = (okState l[m] && ((match prevS l m with | none => true | some q => befL q l[m]) && goodS (prevS l (m + 1)) (l.drop (m + 1)))) := by
  rw [List.drop_eq_getElem_cons hm, show prevS l (m + 1) = some l[m] from List.getElem?_eq_getElem hm]
  cases prevS l m <;> rfl
def okS (l : List (List Int)) (e : List S54) : Bool := (decide ((l.length : Int) ≤ 300) && decide ((e.length : Int) ≤ 6000)) && (goodS none l && goodP (l.length : Int) none e)
section
variable (l : List (List Int)) (e : List S54) (h : modS l e)
include h
theorem l2Space_loop (d : Nat) : ∀ (m : Nat), l.length - m = d → m ≤ l.length → Ev (fun k => spec_l2Space.l0 k (m : Int) l e) (goodS (prevS l m) (l.drop m) && goodP (l.length : Int) none e) := by
  have hl := h.1
  induction d with
  | zero =>
    intro m h0 h1
    refine Ev.step (fun k => by rw [spec_l2Space.l0]) (Ev.neg (by omega) ?_)
    rw [List.drop_eq_nil_of_le (by omega), show goodS (prevS l m) [] = true from by cases prevS l m <;> rfl, Bool.true_and]
    exact Ev.bind (l2Pairs_ev e _ (by omega) (by omega) h.2.2) (Ev.now _)
  | succ d ih =>
    intro m h0 h1
    have hm : m < l.length := by omega
    refine Ev.step (fun k => by rw [spec_l2Space.l0]) (Ev.pos (by omega) (Ev.pos (by omega) ?_))
    rw [goodS_step l m hm, rdL_at l m hm]
    have ihm := ih (m + 1) (by omega) (by omega)
    rw [← wrap_up hm (by omega)] at ihm
    generalize goodS (prevS l (m + 1)) (l.drop (m + 1)) = R at ihm ⊢
    refine Ev.bind (l2State_ev l[m] (h.2.1 _ (List.getElem_mem hm))) ?_
    cases okState l[m] with
    | false => rw [Bool.false_and, Bool.false_and]; exact Ev.neg (by decide) (Ev.now _)
    | true =>
      rw [Bool.true_and]
      refine Ev.pos rfl ?_
      cases m with
      | zero =>
        refine Ev.neg (by omega) ?_
        simp only [prevS, Bool.true_and]
        exact ihm
      | succ q =>
        have hq : q < l.length := by omega
        have hw : wrap64 (((q + 1 : Nat) : Int) - 1) = (q : Int) := by unfold wrap64; omega
        refine Ev.pos (by omega) ?_
        rw [hw]
        refine Ev.pos (by omega) (Ev.pos (by omega) ?_)
        rw [rdL_at l q hq]
        simp only [prevS, List.getElem?_eq_getElem hq]
        refine Ev.bind (l2Before_ev _ _ (h.2.1 _ (List.getElem_mem hq)) (h.2.1 _ (List.getElem_mem hm))) ?_
        cases befL l[q] l[q + 1] with
        | true => rw [Bool.true_and]; exact Ev.pos rfl ihm
        | false => rw [Bool.false_and, Bool.false_and]; exact Ev.neg (by decide) (Ev.now _)
theorem l2Space_ev : Ev (fun k => spec_l2Space.f k l e) (okS l e) := by
  unfold spec_l2Space.f okS
  by_cases c : (l.length : Int) > 300
  · rw [decide_eq_false (by omega : ¬ (l.length : Int) ≤ 300), Bool.false_and, Bool.false_and]
    exact Ev.pos c (Ev.step (fun k => by rw [spec_l2Space.j0]) (Ev.pos rfl (Ev.now _)))
  · rw [decide_eq_true (by omega : (l.length : Int) ≤ 300), Bool.true_and]
    refine Ev.neg c (Ev.step (fun k => by rw [spec_l2Space.j0]) ?_)
    by_cases c2 : (e.length : Int) > 6000
    · rw [decide_eq_false (by omega : ¬ (e.length : Int) ≤ 6000), Bool.false_and]
      exact Ev.pos (decide_eq_true c2) (Ev.now _)
    · rw [decide_eq_true (by omega : (e.length : Int) ≤ 6000), Bool.true_and]
      refine Ev.neg (by rw [decide_eq_false c2]; decide) ?_
      exact l2Space_loop l e h l.length 0 (by omega) (Nat.zero_le _)
theorem IsSpace_loop (d : Nat) : ∀ (m : Nat), l.length - m = d → m ≤ l.length → Ev (fun k => impl_IsSpace.l0 k l (l.length : Int) (m : Int) l e) (goodS (prevS l m) (l.drop m) && goodP (l.length : Int) none e) := by
  have hl := h.1
  induction d with
  | zero =>
    intro m h0 h1
    refine Ev.step (fun k => by rw [impl_IsSpace.l0]) (Ev.neg (by omega) ?_)
    rw [List.drop_eq_nil_of_le (by omega), show goodS (prevS l m) [] = true from by cases prevS l m <;> rfl, Bool.true_and]
    exact Ev.bind (isPairs_ev e _ h.2.2) (Ev.now _)
  | succ d ih =>
    intro m h0 h1
    have hm : m < l.length := by omega
    refine Ev.step (fun k => by rw [impl_IsSpace.l0]) (Ev.pos (by omega) (Ev.pos (by omega) (Ev.pos (by omega) ?_)))
    rw [goodS_step l m hm, rdL_at l m hm]
    have ihm := ih (m + 1) (by omega) (by omega)
    rw [← wrap_up hm (by omega)] at ihm
    generalize goodS (prevS l (m + 1)) (l.drop (m + 1)) = R at ihm ⊢
    refine Ev.bindo (isState_at l[m]) ?_
    cases okState l[m] with
    | false => rw [Bool.false_and, Bool.false_and]; exact Ev.neg (by decide) (Ev.now _)
    | true =>
      rw [Bool.true_and]
      refine Ev.pos rfl ?_
      cases m with
      | zero =>
        refine Ev.neg (by omega) ?_
        simp only [prevS, Bool.true_and]
        exact ihm
      | succ q =>
        have hq : q < l.length := by omega
        have hw : wrap64 (((q + 1 : Nat) : Int) - 1) = (q : Int) := by unfold wrap64; omega
        refine Ev.pos (by omega) ?_
        rw [hw]
        refine Ev.pos (by omega) (Ev.pos (by omega) ?_)
        rw [rdL_at l q hq]
        simp only [prevS, List.getElem?_eq_getElem hq]
        have hlq := h.2.1 _ (List.getElem_mem hq)
        refine Ev.bind (a := cmpL l[q] l[q + 1]) ⟨l[q].length + 1, fun k hk => slices_Compare_at _ _ (by omega) k (by omega)⟩ ?_
        have hb := cmpL_bef l[q] l[q + 1]
        cases hc : befL l[q] l[q + 1] with
        | true => rw [Bool.true_and]; exact Ev.neg (fun hh => by have := hb.1 hh; rw [hc] at this; simp at this) ihm
        | false => rw [Bool.false_and, Bool.false_and]; exact Ev.pos (hb.2 hc) (Ev.now _)
theorem impl_IsSpace_ev : Ev (fun k => impl_IsSpace.f k l e) (okS l e) := by
  unfold impl_IsSpace.f okS
  by_cases c : (l.length : Int) > 300
  · rw [decide_eq_false (by omega : ¬ (l.length : Int) ≤ 300), Bool.false_and, Bool.false_and]
    exact Ev.pos c (Ev.step (fun k => by rw [impl_IsSpace.j0]) (Ev.pos rfl (Ev.now _)))
  · rw [decide_eq_true (by omega : (l.length : Int) ≤ 300), Bool.true_and]
    refine Ev.neg c (Ev.step (fun k => by rw [impl_IsSpace.j0]) ?_)
    by_cases c2 : (e.length : Int) > 6000
    · rw [decide_eq_false (by omega : ¬ (e.length : Int) ≤ 6000), Bool.false_and]
      exact Ev.pos (decide_eq_true c2) (Ev.now _)
    · rw [decide_eq_true (by omega : (e.length : Int) ≤ 6000), Bool.true_and]
      refine Ev.neg (by rw [decide_eq_false c2]; decide) ?_
      exact IsSpace_loop l e h l.length 0 (by omega) (Nat.zero_le _)
end
end Go.Proofs.Ytaemfocjokkopaa.P
namespace Go.Proofs.Ytaemfocjokkopaa.P
open Go.RowKit Go.Proofs.YtaemfocjokkopaaW.PrintWords Go.Proofs.YtaemfocjokkopaaW.PrintLast Go.Proofs.YtaemfocjokkopaaW.PrintMore
set_option linter.unusedVariables false
set_option linter.unusedSimpArgs false

/-! Marks are held, and counted from 0 on. -/
theorem mark2_fst (l : List S54) : ∀ (k : Int), 0 ≤ k → k + 2 * (l.length : Int) ≤ 4611686018427387904 → (mark2 l k).1 = k + 2 * (l.length : Int) := by
  induction l with
  | nil => intro k h1 h2; simp [mark2]
  | cons e t ih =>
    intro k h1 h2
    simp only [List.length_cons] at h2 ⊢
    simp only [mark2]
    have e1 : wrap64 (k + 1) = k + 1 := wrap_nat (by omega) (by omega)
    have e2 : wrap64 (k + 1 + 1) = k + 1 + 1 := wrap_nat (by omega) (by omega)
    rw [e1, e2, ih (k + 1 + 1) (by omega) (by omega)]
    omega
/-! What a valid graph gives. -/
theorem goodP_all (n : Int) (l : List S54) : ∀ p, goodP n p l = true → ∀ e ∈ l, 0 ≤ e.f0 ∧ e.f0 < e.f1 ∧ e.f1 < n := by
  induction l with
  | nil => intro p h e he; simp at he
  | cons x t ih =>
    intro p h e he
    simp only [goodP, Bool.and_eq_true, decide_eq_true_eq] at h
    obtain ⟨⟨⟨h1, h2⟩, h3⟩, h4, h5⟩ := h
    rcases List.mem_cons.1 he with rfl | he
    · exact ⟨h1, h2, h3⟩
    · exact ih _ h5 e he
end Go.Proofs.Ytaemfocjokkopaa.P
namespace Go.Proofs.Ytaemfocjokkopaa.P
open Go.RowKit Go.Proofs.YtaemfocjokkopaaW.PrintWords Go.Proofs.YtaemfocjokkopaaW.PrintLast Go.Proofs.YtaemfocjokkopaaW.PrintMore
set_option linter.unusedVariables false
set_option linter.unusedSimpArgs false

abbrev PrT := S54
theorem okS_goodL {l : List (List Int)} {e : List PrT} (h : okS l e = true) : l.length ≤ 300 ∧ goodP (l.length : Int) none e = true := by
  unfold okS at h
  simp only [Bool.and_eq_true, decide_eq_true_eq] at h
  exact ⟨by omega, h.2.2⟩
def rowsOf (n : Nat) (f : Int → List Int) : List (List Int) := (List.range n).map fun (i : Nat) => f i
theorem rowsOf_len (n : Nat) (f : Int → List Int) : (rowsOf n f).length = n := by simp [rowsOf]
theorem rowsOf_congr {n : Nat} {f g : Int → List Int} (h : ∀ i : Nat, i < n → f i = g i) : rowsOf n f = rowsOf n g := by
  unfold rowsOf
  exact List.map_congr_left fun i hi => h i (List.mem_range.1 hi)
theorem rowsOf_get {n : Nat} (f : Int → List Int) (i : Nat) (h : i < n) (h' : i < (rowsOf n f).length) : (rowsOf n f)[i] = f i := by simp [rowsOf]
theorem rowsOf_rd {n : Nat} (f : Int → List Int) {a : Int} (h0 : 0 ≤ a) (h1 : a < n) : rd_L1 (rowsOf n f) a = f a := by
  obtain ⟨i, rfl⟩ := Int.eq_ofNat_of_zero_le h0
  have hi : i < n := by omega
  unfold rd_L1
  rw [Int.toNat_natCast, List.getD_eq_getElem?_getD, List.getElem?_eq_getElem (by rw [rowsOf_len]; exact hi), Option.getD_some, rowsOf_get f i hi]
theorem rowsOf_set {n : Nat} (f : Int → List Int) {a : Int} (h0 : 0 ≤ a) (h1 : a < n) (x : List Int) : (rowsOf n f).set a.toNat x = rowsOf n (fun i => if i = a then x else f i) := by
  obtain ⟨i, rfl⟩ := Int.eq_ofNat_of_zero_le h0
  refine List.ext_getElem (by rw [List.length_set, rowsOf_len, rowsOf_len]) fun j hj hj' => ?_
  have hjn : j < n := by rw [rowsOf_len] at hj'; exact hj'
  rw [rowsOf_get _ j hjn]
  simp only [Int.toNat_natCast, List.getElem_set]
  by_cases h : i = j
  · subst h; rw [if_pos rfl, if_pos rfl]
  · rw [if_neg h, if_neg (by omega), rowsOf_get _ j hjn]
theorem rowsOf_nil (n : Nat) : List.replicate n ([] : List Int) = rowsOf n (fun _ => []) := by
  unfold rowsOf
  rw [List.map_const', List.length_range]
def pick0 (i : Int) (p : PrT) : Option Int := if p.f0 = i then some p.f1 else none
def pick1 (i : Int) (p : PrT) : Option Int := if p.f1 = i then some p.f0 else none
def pickL (i : Int) (p : PrT) : Option Int := if p.f0 = i then some p.f1 else if p.f1 = i then some p.f0 else none
def rowL (e : List PrT) (i : Int) : List Int := e.filterMap (pickL i)
theorem filterMap_take {α : Type} (f : PrT → Option α) (e : List PrT) (m : Nat) (hm : m < e.length) : (e.take (m + 1)).filterMap f = (e.take m).filterMap f ++ (f e[m]).toList := by
  rw [List.take_add_one, List.getElem?_eq_getElem hm, List.filterMap_append]
  cases h : f e[m] <;> simp [h]
theorem filterMap_le {α : Type} (f : PrT → Option α) (e : List PrT) (m : Nat) (he : e.length ≤ 1048576) : ((e.take m).filterMap f).length ≤ 1048576 := by
  have h1 := List.length_filterMap_le f (e.take m)
  have h2 := List.length_take_le m e
  have h3 : (e.take m).length ≤ e.length := by rw [List.length_take]; omega
  omega
theorem befP_transL {a b c : PrT} (h : befP a b = true) (k : befP b c = true) : befP a c = true := by
  unfold befP at *
  simp only [Bool.or_eq_true, Bool.and_eq_true, decide_eq_true_eq] at *
  omega
theorem goodP_pw (n : Int) (l : List PrT) : ∀ p, goodP n p l = true → l.Pairwise (fun a b => befP a b = true) ∧ (∀ q, p = some q → ∀ s ∈ l, befP q s = true) := by
  induction l with
  | nil => intro p h; exact ⟨.nil, fun q _ s hs => by cases hs⟩
  | cons x t ih =>
    intro p h
    simp only [goodP, Bool.and_eq_true, decide_eq_true_eq] at h
    obtain ⟨_, h4, h5⟩ := h
    obtain ⟨h1, h2⟩ := ih _ h5
    refine ⟨List.pairwise_cons.2 ⟨fun s hs => h2 x rfl s hs, h1⟩, fun q hq s hs => ?_⟩
    subst hq
    have hx : befP q x = true := h4
    rcases List.mem_cons.1 hs with rfl | hs
    · exact hx
    · exact befP_transL hx (h2 x rfl s hs)
/-- The rows of both passes, one behind the other, are the rows in the order of the steps. -/
theorem rowL_two (i : Int) (e : List PrT) : (∀ p ∈ e, p.f0 < p.f1) → e.Pairwise (fun a b => befP a b = true) → e.filterMap (pick1 i) ++ e.filterMap (pick0 i) = rowL e i := by
  induction e with
  | nil => intro _ _; rfl
  | cons p t ih =>
    intro hl hp
    obtain ⟨h1, h2⟩ := List.pairwise_cons.1 hp
    have ih' := ih (fun q hq => hl q (.tail _ hq)) h2
    have hpl := hl p (.head _)
    unfold rowL at ih' ⊢
    by_cases c0 : p.f0 = i
    · have e1 : pick1 i p = none := by unfold pick1; rw [if_neg (by omega)]
      have e0 : pick0 i p = some p.f1 := by unfold pick0; rw [if_pos c0]
      have eL : pickL i p = some p.f1 := by unfold pickL; rw [if_pos c0]
      have ht : t.filterMap (pick1 i) = [] := by
        rw [List.filterMap_eq_nil_iff]
        intro q hq
        have hb := h1 q hq
        have hq' := hl q (.tail _ hq)
        unfold befP at hb
        simp only [Bool.or_eq_true, Bool.and_eq_true, decide_eq_true_eq] at hb
        unfold pick1
        rw [if_neg (by omega)]
      rw [ht, List.nil_append] at ih'
      rw [List.filterMap_cons_none e1, List.filterMap_cons_some e0, List.filterMap_cons_some eL, ht, List.nil_append, ih']
    · have e0 : pick0 i p = none := by unfold pick0; rw [if_neg c0]
      by_cases c1 : p.f1 = i
      · have e1 : pick1 i p = some p.f0 := by unfold pick1; rw [if_pos c1]
        have eL : pickL i p = some p.f0 := by unfold pickL; rw [if_neg c0, if_pos c1]
        rw [List.filterMap_cons_some e1, List.filterMap_cons_none e0, List.filterMap_cons_some eL, List.cons_append, ih']
      · have e1 : pick1 i p = none := by unfold pick1; rw [if_neg c1]
        have eL : pickL i p = none := by unfold pickL; rw [if_neg c0, if_neg c1]
        rw [List.filterMap_cons_none e1, List.filterMap_cons_none e0, List.filterMap_cons_none eL, ih']
theorem rowL_rising (i : Int) (e : List PrT) (hl : ∀ p ∈ e, p.f0 < p.f1) (hp : e.Pairwise (fun a b => befP a b = true)) : (rowL e i).Pairwise (· < ·) := by
  have hp2 : e.Pairwise (fun a b => befP a b = true ∧ a.f0 < a.f1 ∧ b.f0 < b.f1) := by
    refine List.Pairwise.imp_of_mem (fun {a b} ha hb h => ⟨h, hl a ha, hl b hb⟩) hp
  refine List.Pairwise.filterMap _ (fun a b h x hx y hy => ?_) hp2
  obtain ⟨h, ha, hb⟩ := h
  unfold befP at h
  simp only [Bool.or_eq_true, Bool.and_eq_true, decide_eq_true_eq] at h
  unfold pickL at hx hy
  by_cases c0 : a.f0 = i
  · rw [if_pos c0] at hx
    by_cases d0 : b.f0 = i
    · rw [if_pos d0] at hy; simp at hx hy; omega
    · rw [if_neg d0] at hy
      by_cases d1 : b.f1 = i
      · rw [if_pos d1] at hy; simp at hx hy; omega
      · rw [if_neg d1] at hy; cases hy
  · rw [if_neg c0] at hx
    by_cases c1 : a.f1 = i
    · rw [if_pos c1] at hx
      by_cases d0 : b.f0 = i
      · rw [if_pos d0] at hy; simp at hx hy; omega
      · rw [if_neg d0] at hy
        by_cases d1 : b.f1 = i
        · rw [if_pos d1] at hy; simp at hx hy; omega
        · rw [if_neg d1] at hy; cases hy
    · rw [if_neg c1] at hx; cases hx
section
variable {l : List (List Int)} {e : List PrT} (he : e.length ≤ 1048576) (hg : ∀ p ∈ e, 0 ≤ p.f0 ∧ p.f0 < p.f1 ∧ p.f1 < (l.length : Int))
include he hg
theorem roads_loop (d : Nat) : ∀ (m : Nat), e.length - m = d → m ≤ e.length → Ev (fun k => impl_Space_roads.l0 k (rowsOf l.length (rowL (e.take m))) e (e.length : Int) (m : Int)) (rowsOf l.length (rowL e)) := by
  induction d with
  | zero =>
    intro m h0 h1
    refine Ev.step (fun k => by rw [impl_Space_roads.l0]) (Ev.neg (by omega) ?_)
    rw [List.take_of_length_le (by omega)]
    exact Ev.now _
  | succ d ih =>
    intro m h0 h1
    have hm : m < e.length := by omega
    have hp := hg e[m] (List.getElem_mem hm)
    have ihm := ih (m + 1) (by omega) (by omega)
    rw [← wrap_up hm (by omega)] at ihm
    refine Ev.step (fun k => by rw [impl_Space_roads.l0]) (Ev.pos (by omega) (Ev.pos (by omega) (Ev.pos (by omega) ?_)))
    rw [rdT_at e m hm, rowsOf_len, rowsOf_rd _ hp.1 (by omega), rowsOf_set _ hp.1 (by omega)]
    refine Ev.pos hp.1 (Ev.pos (by omega) (Ev.pos (by have := filterMap_le (pickL e[m].f0) e m he; unfold rowL; omega) (Ev.bindo rfl ?_)))
    rw [rowsOf_rd _ (by omega) hp.2.2, if_neg (by omega), rowsOf_set _ (by omega) hp.2.2]
    refine Ev.pos (by omega) (Ev.pos (by omega) (Ev.pos (by have := filterMap_le (pickL e[m].f1) e m he; unfold rowL; omega) ?_))
    rw [rowsOf_congr (g := rowL (e.take (m + 1))) (fun i hi => ?_)]
    · exact ihm
    · unfold rowL
      rw [filterMap_take (pickL i) e m hm]
      by_cases c1 : (i : Int) = e[m].f1
      · rw [if_pos c1, c1]
        unfold pickL
        rw [if_neg (by omega), if_pos rfl]
        rfl
      · rw [if_neg c1]
        by_cases c0 : (i : Int) = e[m].f0
        · rw [if_pos c0, c0]
          unfold pickL
          rw [if_pos rfl]
          rfl
        · rw [if_neg c0]
          have : pickL i e[m] = none := by unfold pickL; rw [if_neg (by omega), if_neg (by omega)]
          rw [this]
          simp
theorem lists_loop2 (d : Nat) : ∀ (m : Nat), e.length - m = d → m ≤ e.length → Ev (fun k => spec_l2Lists.l1 k (rowsOf l.length (fun i => e.filterMap (pick1 i) ++ (e.take m).filterMap (pick0 i))) (m : Int) l e) (rowsOf l.length (fun i => e.filterMap (pick1 i) ++ e.filterMap (pick0 i))) := by
  induction d with
  | zero =>
    intro m h0 h1
    refine Ev.step (fun k => by rw [spec_l2Lists.l1]) (Ev.neg (by omega) ?_)
    rw [List.take_of_length_le (by omega)]
    exact Ev.now _
  | succ d ih =>
    intro m h0 h1
    have hm : m < e.length := by omega
    have hp := hg e[m] (List.getElem_mem hm)
    have ihm := ih (m + 1) (by omega) (by omega)
    rw [← wrap_up hm (by omega)] at ihm
    refine Ev.step (fun k => by rw [spec_l2Lists.l1]) (Ev.pos (by omega) (Ev.pos (by omega) ?_))
    rw [rdT_at e m hm, rowsOf_len, rowsOf_rd _ hp.1 (by omega), rowsOf_set _ hp.1 (by omega)]
    refine Ev.pos hp.1 (Ev.pos (by omega) (Ev.pos ?_ ?_))
    · have h1 := filterMap_le (pick0 e[m].f0) e m he
      have h2 := filterMap_le (pick1 e[m].f0) e e.length he
      rw [List.take_length] at h2
      rw [List.length_append]
      omega
    rw [rowsOf_congr (g := fun i => e.filterMap (pick1 i) ++ (e.take (m + 1)).filterMap (pick0 i)) (fun i hi => ?_)]
    · exact ihm
    · rw [filterMap_take (pick0 i) e m hm]
      by_cases c0 : (i : Int) = e[m].f0
      · rw [if_pos c0, c0]
        unfold pick0
        rw [if_pos rfl, List.append_assoc]
        rfl
      · rw [if_neg c0]
        have : pick0 i e[m] = none := by unfold pick0; rw [if_neg (by omega)]
        rw [this]
        simp
theorem lists_loop1 {R : List (List Int)} (hR : Ev (fun k => spec_l2Lists.l1 k (rowsOf l.length (fun i => e.filterMap (pick1 i))) 0 l e) R) (d : Nat) : ∀ (m : Nat), e.length - m = d → m ≤ e.length → Ev (fun k => spec_l2Lists.l0 k (rowsOf l.length (fun i => (e.take m).filterMap (pick1 i))) (m : Int) l e) R := by
  induction d with
  | zero =>
    intro m h0 h1
    refine Ev.step (fun k => by rw [spec_l2Lists.l0]) (Ev.neg (by omega) ?_)
    rw [List.take_of_length_le (by omega)]
    exact hR
  | succ d ih =>
    intro m h0 h1
    have hm : m < e.length := by omega
    have hp := hg e[m] (List.getElem_mem hm)
    have ihm := ih (m + 1) (by omega) (by omega)
    rw [← wrap_up hm (by omega)] at ihm
    refine Ev.step (fun k => by rw [spec_l2Lists.l0]) (Ev.pos (by omega) (Ev.pos (by omega) ?_))
    rw [rdT_at e m hm, rowsOf_len, rowsOf_rd _ (by omega) hp.2.2, rowsOf_set _ (by omega) hp.2.2]
    refine Ev.pos (by omega) (Ev.pos (by omega) (Ev.pos (by have := filterMap_le (pick1 e[m].f1) e m he; omega) ?_))
    rw [rowsOf_congr (g := fun i => (e.take (m + 1)).filterMap (pick1 i)) (fun i hi => ?_)]
    · exact ihm
    · rw [filterMap_take (pick1 i) e m hm]
      by_cases c0 : (i : Int) = e[m].f1
      · rw [if_pos c0, c0]
        unfold pick1
        rw [if_pos rfl]
        rfl
      · rw [if_neg c0]
        have : pick1 i e[m] = none := by unfold pick1; rw [if_neg (by omega)]
        rw [this]
        simp
end
theorem sortL_self {l : List Int} (h : l.Pairwise (· < ·)) : sortL l = l := by
  unfold sortL
  exact List.mergeSort_of_pairwise (h.imp fun hab => by simp; omega)
theorem sortRows_self (z : List (List Int)) (h : ∀ s ∈ z, s.Pairwise (· < ·) ∧ s.length < 4611686018427387904) : sortRows z = some z := by
  induction z with
  | nil => rfl
  | cons s t ih =>
    have hs := h s (.head _)
    rw [sortRows, show slices_Sort_int_int.f s = some s from by unfold slices_Sort_int_int.f; rw [if_pos hs.2, sortL_self hs.1], Option.bind_some, ih (fun q hq => h q (.tail _ hq)), Option.bind_some]
section
variable (l : List (List Int)) (e : List PrT) (hm : modS l e) (hg : goodP (l.length : Int) none e = true)
include hm hg
/-- The rows of a space. -/
def roadsL (l : List (List Int)) (e : List PrT) : List (List Int) := rowsOf l.length (rowL e)
theorem roads_ev : Ev (fun k => impl_Space_roads.f k l e) (roadsL l e) := by
  have ha := goodP_all (l.length : Int) e none hg
  have hp := (goodP_pw (l.length : Int) e none hg).1
  have hl := roads_loop (l := l) hm.2.2 ha (e.length - 0) 0 rfl (Nat.zero_le _)
  unfold impl_Space_roads.f impl_Space_roads.g
  rw [show (fun k => ((if 0 ≤ (l.length : Int) then (if ((l.length : Int) : Int).toNat ≤ 11728124029610 then (impl_Space_roads.l0 k (List.replicate ((l.length : Int) : Int).toNat []) e (e.length : Int) 0) else (none)) else (none)).bind sortRows)) = fun k => ((impl_Space_roads.l0 k (List.replicate ((l.length : Int) : Int).toNat []) e (e.length : Int) 0).bind sortRows) from funext fun k => by rw [if_pos (by omega), if_pos (by have := hm.1; omega)]]
  rw [Int.toNat_natCast, rowsOf_nil]
  have e0 : rowL (e.take 0) = fun _ => [] := funext fun i => by simp [rowL]
  rw [e0] at hl
  refine Ev.bind hl (Ev.some ?_)
  refine sortRows_self _ fun s hs => ?_
  unfold roadsL rowsOf at *
  obtain ⟨i, _, rfl⟩ := List.mem_map.1 hs
  refine ⟨rowL_rising _ e (fun p hp => (ha p hp).2.1) hp, ?_⟩
  have := filterMap_le (pickL i) e e.length hm.2.2
  rw [List.take_length] at this
  unfold rowL
  omega
theorem lists_ev : Ev (fun k => spec_l2Lists.f k l e) (roadsL l e) := by
  have ha := goodP_all (l.length : Int) e none hg
  have hp := (goodP_pw (l.length : Int) e none hg).1
  have h2 := lists_loop2 (l := l) hm.2.2 ha (e.length - 0) 0 rfl (Nat.zero_le _)
  have e0 : (fun i => e.filterMap (pick1 i) ++ (e.take 0).filterMap (pick0 i)) = fun i => e.filterMap (pick1 i) := funext fun i => by simp
  rw [e0] at h2
  have h1 := lists_loop1 (l := l) hm.2.2 ha h2 (e.length - 0) 0 rfl (Nat.zero_le _)
  have e1 : (fun i => (e.take 0).filterMap (pick1 i)) = fun _ => [] := funext fun i => by simp
  rw [e1] at h1
  unfold spec_l2Lists.f
  refine Ev.pos (by omega) (Ev.pos (by have := hm.1; omega) ?_)
  rw [Int.toNat_natCast, rowsOf_nil]
  rw [show roadsL l e = rowsOf l.length (fun i => e.filterMap (pick1 i) ++ e.filterMap (pick0 i)) from rowsOf_congr fun i _ => (rowL_two i e (fun p hp => (ha p hp).2.1) hp).symm]
  exact h1
end
theorem roadsL_len (l : List (List Int)) (e : List PrT) : (roadsL l e).length = l.length := rowsOf_len _ _
theorem rowL_le (e : List PrT) (i : Int) : (rowL e i).length ≤ e.length := List.length_filterMap_le _ _
end Go.Proofs.Ytaemfocjokkopaa.P
namespace Go.Proofs.Ytaemfocjokkopaa.P
open Go.RowKit Go.Proofs.YtaemfocjokkopaaW.PrintWords Go.Proofs.YtaemfocjokkopaaW.PrintLast Go.Proofs.YtaemfocjokkopaaW.PrintMore
set_option linter.unusedVariables false
set_option linter.unusedSimpArgs false

mutual
def impl_spread.l0 : Nat → List (List Int) → List Int → List Int → Option (List Int)
  | 0, _, _, _ => none
  | k + 1, x0, x5, x6 => if (x6.length : Int) > 0 then (if 0 < (x6.length : Int) then (if 1 ≤ (x6.length : Int) then (if 0 ≤ (rd x6 0) then (if (rd x6 0) < (x0.length : Int) then (impl_spread.l1 k x0 x5 (x6.drop (1 : Int).toNat) (rd x6 0) (rd_L1 x0 (rd x6 0)) ((rd_L1 x0 (rd x6 0)).length : Int) 0) else (none)) else (none)) else (none)) else (none)) else (some x5)
def impl_spread.l1 : Nat → List (List Int) → List Int → List Int → Int → List Int → Int → Int → Option (List Int)
  | 0, _, _, _, _, _, _, _ => none
  | k + 1, x0, x5, x6, x7, x30, x31, x32 => if x32 < x31 then (if 0 ≤ x32 then (if x32 < (x30.length : Int) then (if 0 ≤ (rd x30 x32) then (if (rd x30 x32) < (x5.length : Int) then (if (rd x5 (rd x30 x32)) < 0 then (if 0 ≤ x7 then (if x7 < (x5.length : Int) then (if x6.length < 17592186044416 then (impl_spread.l1 k x0 (x5.set ((rd x30 x32) : Int).toNat (wrap64 ((rd x5 x7) + 1))) (x6 ++ [rd x30 x32]) x7 x30 x31 (wrap64 (x32 + 1))) else (none)) else (none)) else (none)) else (impl_spread.l1 k x0 x5 x6 x7 x30 x31 (wrap64 (x32 + 1)))) else (none)) else (none)) else (none)) else (none)) else (impl_spread.l0 k x0 x5 x6)
end
def impl_spread.f (k : Nat) (l0 : List (List Int)) (a1 : Int) : Option (List Int) := if 0 ≤ a1 then (if a1 < ((List.replicate l0.length (-1 : Int)).length : Int) then (impl_spread.l0 k l0 ((List.replicate l0.length (-1 : Int)).set (a1 : Int).toNat 0) (([a1] : List Int))) else (none)) else (none)
theorem rd_set (l : List Int) (j k : Int) (v : Int) (h : j.toNat < l.length) : rd (l.set j.toNat v) k = if k.toNat = j.toNat then v else rd l k := by
  unfold rd
  rw [List.getD_eq_getElem?_getD, List.getD_eq_getElem?_getD, List.getElem?_set]
  by_cases c : j.toNat = k.toNat
  · rw [if_pos c, if_pos c.symm, if_pos h, Option.getD_some]
  · rw [if_neg c, if_neg (Ne.symm c)]
def negs (l : List Int) : Nat := l.countP fun x => decide (x < 0)
theorem negs_set (l : List Int) (j : Int) (v : Int) (h : j.toNat < l.length) (hj : rd l j < 0) (hv : 0 ≤ v) : negs (l.set j.toNat v) + 1 = negs l := by
  have e1 : rd l j = l[j.toNat] := by unfold rd; rw [List.getD_eq_getElem?_getD, List.getElem?_eq_getElem h, Option.getD_some]
  rw [e1] at hj
  unfold negs
  rw [List.countP_set h]
  have hp : 0 < l.countP (fun x => decide (x < 0)) := List.countP_pos_iff.2 ⟨_, List.getElem_mem h, decide_eq_true hj⟩
  rw [if_pos (decide_eq_true hj), if_neg (by simp; omega)]
  omega
/-- A set of places that no row leads out of. -/
def closedZ (z : List (List Int)) (P : Int → Prop) : Prop := ∀ i, 0 ≤ i → i < (z.length : Int) → P i → ∀ j ∈ rd_L1 z i, P j
/-- Each row holds places. -/
def okZ (z : List (List Int)) : Prop := ∀ i, 0 ≤ i → i < (z.length : Int) → ∀ j ∈ rd_L1 z i, 0 ≤ j ∧ j < (z.length : Int)
section
variable {z : List (List Int)} (hz : okZ z) (hn : z.length ≤ 1048576) (hr : ∀ i, (rd_L1 z i).length ≤ 1048576)
include hn
theorem spread_inner {row : List Int} (hrow : ∀ j ∈ row, 0 ≤ j ∧ j < (z.length : Int)) (hrl : row.length ≤ 1048576) (i : Int) (hi : 0 ≤ i ∧ i < (z.length : Int)) (h : Nat) (d : Nat) :
    ∀ (m : Nat) (out Q : List Int), row.length - m = d → m ≤ row.length → out.length = z.length → h < Q.length → rd Q (h : Int) = i → 0 ≤ rd out i → (∀ k, rd out k < (Q.length : Int)) → negs out + Q.length ≤ 1048576 →
    ∃ (out' new : List Int), out'.length = z.length ∧ (∀ k, rd out' k < ((Q ++ new).length : Int)) ∧ negs out' + (Q ++ new).length = negs out + Q.length ∧ (∀ k, 0 ≤ rd out k → rd out' k = rd out k) ∧
      (∀ j ∈ row.drop m, 0 ≤ rd out' j) ∧ (∀ j ∈ new, j ∈ row ∧ rd out' j = rd out i + 1) ∧ (∀ k, 0 ≤ k → k < (z.length : Int) → 0 ≤ rd out' k → 0 ≤ rd out k ∨ k ∈ new) ∧
      (∀ R, Ev (fun k => impl_spread.l0 k z out' ((Q ++ new).drop (h + 1))) R → Ev (fun k => impl_spread.l1 k z out (Q.drop (h + 1)) i row (row.length : Int) (m : Int)) R) ∧
      (∀ R, Ev (fun k => spec_l2Spread.l1 k z out' (Q ++ new) (wrap64 ((h : Int) + 1))) R → Ev (fun k => spec_l2Spread.l2 k z out Q (h : Int) row (m : Int)) R) := by
  induction d with
  | zero =>
    intro m out Q h0 h1 h2 h3 h4 h5 h6 h7
    refine ⟨out, [], h2, by simpa using h6, by simp, fun _ _ => rfl, fun j hj => ?_, (fun j hj => by cases hj), fun k _ _ hk => .inl hk, fun R hR => ?_, fun R hR => ?_⟩
    · rw [List.drop_eq_nil_of_le (by omega)] at hj; cases hj
    · rw [List.append_nil] at hR
      refine Ev.step (fun k => by rw [impl_spread.l1]) ?_
      refine Ev.neg (by omega) ?_
      exact hR
    · rw [List.append_nil] at hR
      refine Ev.step (fun k => by rw [spec_l2Spread.l2]) ?_
      refine Ev.neg (by omega) ?_
      exact hR
  | succ d ih =>
    intro m out Q h0 h1 h2 h3 h4 h5 h6 h7
    have hm : m < row.length := by omega
    have hj := hrow row[m] (List.getElem_mem hm)
    have hjl : row[m].toNat < out.length := by omega
    by_cases c : rd out row[m] < 0
    · have hv6 := h6 i
      have hw : wrap64 (rd out i + 1) = rd out i + 1 := wrap_nat (by omega) (by omega)
      have hne : row[m].toNat ≠ i.toNat := fun e => by
        have : rd out row[m] = rd out i := by unfold rd; rw [e]
        omega
      have hrs : ∀ k, rd (out.set row[m].toNat (rd out i + 1)) k = if k.toNat = row[m].toNat then rd out i + 1 else rd out k := fun k => rd_set out row[m] k _ hjl
      have hng := negs_set out row[m] (rd out i + 1) hjl c (by omega)
      have hQ4 : rd (Q ++ [row[m]]) (h : Int) = i := by
        rw [← h4, rd_at _ h (by simp; omega), rd_at Q h h3, List.getElem_append_left h3]
      obtain ⟨out', new, a1, a2, a3, a4, a5, a6, a7, a8, a9⟩ := ih (m + 1) (out.set row[m].toNat (rd out i + 1)) (Q ++ [row[m]]) (by omega) (by omega) (by rw [List.length_set, h2]) (by simp; omega) hQ4
        (by rw [hrs, if_neg (Ne.symm hne)]; exact h5)
        (fun k => by rw [hrs, List.length_append, List.length_singleton]; have := h6 k; split <;> omega)
        (by rw [List.length_append, List.length_singleton]; omega)
      have hmono : ∀ k, 0 ≤ rd out k → rd (out.set row[m].toNat (rd out i + 1)) k = rd out k := fun k hk => by
        rw [hrs]
        by_cases ck : k.toNat = row[m].toNat
        · have : rd out k = rd out row[m] := by unfold rd; rw [ck]
          omega
        · rw [if_neg ck]
      have hself : rd out' row[m] = rd out i + 1 := by
        have e0 : rd (out.set row[m].toNat (rd out i + 1)) row[m] = rd out i + 1 := by rw [hrs, if_pos rfl]
        rw [a4 _ (by rw [e0]; omega), e0]
      have hap : Q ++ row[m] :: new = (Q ++ [row[m]]) ++ new := by simp
      refine ⟨out', row[m] :: new, a1, ?_, ?_, fun k hk => (a4 k (by rw [hmono k hk]; exact hk)).trans (hmono k hk), fun j hj' => ?_, fun j hj' => ?_, fun k hk0 hk1 hk => ?_, fun R hR => ?_, fun R hR => ?_⟩
      · rw [hap]; exact a2
      · rw [hap, a3, List.length_append, List.length_singleton]; omega
      · rw [List.drop_eq_getElem_cons hm] at hj'
        rcases List.mem_cons.1 hj' with rfl | hj'
        · rw [hself]; omega
        · exact a5 j hj'
      · rcases List.mem_cons.1 hj' with rfl | hj'
        · exact ⟨List.getElem_mem hm, hself⟩
        · exact ⟨(a6 j hj').1, by rw [(a6 j hj').2, hmono i h5]⟩
      · rcases a7 k hk0 hk1 hk with h' | h'
        · rw [hrs] at h'
          by_cases ck : k.toNat = row[m].toNat
          · right; rw [show k = row[m] by omega]; exact .head _
          · rw [if_neg ck] at h'; exact .inl h'
        · exact .inr (.tail _ h')
      · rw [hap] at hR
        have := a8 R hR
        rw [← wrap_up hm (by omega), List.drop_append_of_le_length (by omega)] at this
        refine Ev.step (fun k => by rw [impl_spread.l1]) ?_
        refine Ev.pos (by omega) ?_
        refine Ev.pos (by omega) ?_
        refine Ev.pos (by omega) ?_
        rw [rd_at row m hm]
        refine Ev.pos hj.1 ?_
        refine Ev.pos (by omega) ?_
        refine Ev.pos c ?_
        refine Ev.pos hi.1 ?_
        refine Ev.pos (by omega) ?_
        refine Ev.pos (by rw [List.length_drop]; omega) ?_
        rw [hw]
        exact this
      · rw [hap] at hR
        have := a9 R hR
        rw [← wrap_up hm (by omega)] at this
        refine Ev.step (fun k => by rw [spec_l2Spread.l2]) ?_
        refine Ev.pos (by omega) ?_
        refine Ev.pos (by omega) ?_
        rw [rd_at row m hm, h4]
        refine Ev.pos hj.1 ?_
        refine Ev.pos (by omega) ?_
        refine Ev.pos c ?_
        refine Ev.pos (by omega) ?_
        refine Ev.pos (by omega) ?_
        refine Ev.pos hi.1 ?_
        refine Ev.pos (by omega) ?_
        refine Ev.pos (by omega) ?_
        rw [hw]
        exact this
    · obtain ⟨out', new, a1, a2, a3, a4, a5, a6, a7, a8, a9⟩ := ih (m + 1) out Q (by omega) (by omega) h2 h3 h4 h5 h6 h7
      refine ⟨out', new, a1, a2, a3, a4, fun j hj' => ?_, a6, a7, fun R hR => ?_, fun R hR => ?_⟩
      · rw [List.drop_eq_getElem_cons hm] at hj'
        rcases List.mem_cons.1 hj' with rfl | hj'
        · rw [a4 _ (by omega)]; omega
        · exact a5 j hj'
      · have := a8 R hR
        rw [← wrap_up hm (by omega)] at this
        refine Ev.step (fun k => by rw [impl_spread.l1]) ?_
        refine Ev.pos (by omega) ?_
        refine Ev.pos (by omega) ?_
        refine Ev.pos (by omega) ?_
        rw [rd_at row m hm]
        refine Ev.pos hj.1 ?_
        refine Ev.pos (by omega) ?_
        refine Ev.neg c ?_
        exact this
      · have := a9 R hR
        rw [← wrap_up hm (by omega)] at this
        refine Ev.step (fun k => by rw [spec_l2Spread.l2]) ?_
        refine Ev.pos (by omega) ?_
        refine Ev.pos (by omega) ?_
        rw [rd_at row m hm]
        refine Ev.pos hj.1 ?_
        refine Ev.pos (by omega) ?_
        refine Ev.neg c ?_
        exact this
include hz hr
theorem spread_outer (s : Int) (u : Nat) : ∀ (out Q : List Int) (h : Nat), negs out + (Q.length - h) = u → h ≤ Q.length → out.length = z.length → (∀ k, rd out k < (Q.length : Int)) → negs out + Q.length ≤ 1048576 → 0 < Q.length →
    (∀ q ∈ Q, 0 ≤ q ∧ q < (z.length : Int) ∧ 0 ≤ rd out q) → (∀ k, 0 ≤ k → k < (z.length : Int) → 0 ≤ rd out k → k ∈ Q) → (∀ q ∈ Q.take h, ∀ j ∈ rd_L1 z q, 0 ≤ rd out j) → (∀ P, closedZ z P → P s → ∀ q ∈ Q, P q) → rd out s = 0 → (∀ k, 0 ≤ k → k < (z.length : Int) → 0 ≤ rd out k → k = s ∨ ∃ p, 0 ≤ p ∧ p < (z.length : Int) ∧ k ∈ rd_L1 z p ∧ 0 ≤ rd out p ∧ rd out k = rd out p + 1) →
    ∃ R, Ev (fun k => impl_spread.l0 k z out (Q.drop h)) R ∧ Ev (fun k => spec_l2Spread.l1 k z out Q (h : Int)) R ∧ R.length = z.length ∧ (∀ k, rd R k ≤ 1048575) ∧ (∀ k, 0 ≤ rd out k → 0 ≤ rd R k) ∧ closedZ z (fun k => 0 ≤ rd R k) ∧ (∀ P, closedZ z P → P s → ∀ k, 0 ≤ k → k < (z.length : Int) → 0 ≤ rd R k → P k) ∧ rd R s = 0 ∧ (∀ k, 0 ≤ k → k < (z.length : Int) → 0 ≤ rd R k → k = s ∨ ∃ p, 0 ≤ p ∧ p < (z.length : Int) ∧ k ∈ rd_L1 z p ∧ 0 ≤ rd R p ∧ rd R k = rd R p + 1) := by
  induction u with
  | zero =>
    intro out Q h h0 h1 h2 h3 h4 hQ0 h5 h6 h7 h8 hS hE
    have he : h = Q.length := by omega
    refine ⟨out, ?_, ?_, h2, fun k => by have := h3 k; omega, fun _ hk => hk, fun i hi0 hi1 hi j hj => ?_, fun P hP hs k hk0 hk1 hk => h8 P hP hs k (h6 k hk0 hk1 hk), hS, hE⟩
    · rw [List.drop_eq_nil_of_le (by omega)]
      refine Ev.step (fun k => by rw [impl_spread.l0]) ?_
      refine Ev.neg (by simp) ?_
      exact (Ev.now _)
    · refine Ev.step (fun k => by rw [spec_l2Spread.l1]) ?_
      refine Ev.neg (by omega) ?_
      exact (Ev.now _)
    · exact h7 i (by rw [List.take_of_length_le (by omega)]; exact h6 i hi0 hi1 hi) j hj
  | succ u ih =>
    intro out Q h h0 h1 h2 h3 h4 hQ0 h5 h6 h7 h8 hS hE
    by_cases ce : h = Q.length
    · refine ⟨out, ?_, ?_, h2, fun k => by have := h3 k; omega, fun _ hk => hk, fun i hi0 hi1 hi j hj => ?_, fun P hP hs k hk0 hk1 hk => h8 P hP hs k (h6 k hk0 hk1 hk), hS, hE⟩
      · rw [List.drop_eq_nil_of_le (by omega)]
        refine Ev.step (fun k => by rw [impl_spread.l0]) ?_
        refine Ev.neg (by simp) ?_
        exact (Ev.now _)
      · refine Ev.step (fun k => by rw [spec_l2Spread.l1]) ?_
        refine Ev.neg (by omega) ?_
        exact (Ev.now _)
      · exact h7 i (by rw [List.take_of_length_le (by omega)]; exact h6 i hi0 hi1 hi) j hj
    have hh : h < Q.length := by omega
    obtain ⟨q0, q1, q2⟩ := h5 Q[h] (List.getElem_mem hh)
    have hrow := hz Q[h] q0 q1
    obtain ⟨out', new, a1, a2, a3, a4, a5, a6, a7, a8, a9⟩ := spread_inner hn hrow (hr _) Q[h] ⟨q0, q1⟩ h ((rd_L1 z Q[h]).length - 0) 0 out Q rfl (Nat.zero_le _) h2 hh (rd_at Q h hh) q2 h3 h4
    rw [List.drop_zero] at a5
    simp only [Int.natCast_zero] at a8 a9
    obtain ⟨R, r1, r2, r3, r4, r5, r6, r7, r8, r9⟩ := ih out' (Q ++ new) (h + 1) (by rw [List.length_append] at a3 ⊢; omega) (by rw [List.length_append]; omega) a1 a2 (by omega) (by rw [List.length_append]; omega)
      (fun q hq => by
        rcases List.mem_append.1 hq with hq | hq
        · obtain ⟨b0, b1, b2⟩ := h5 q hq; exact ⟨b0, b1, by rw [a4 q b2]; exact b2⟩
        · obtain ⟨b0, b1⟩ := a6 q hq; exact ⟨(hrow q b0).1, (hrow q b0).2, by rw [b1]; omega⟩)
      (fun k hk0 hk1 hk => by
        rcases a7 k hk0 hk1 hk with h' | h'
        · exact List.mem_append_left _ (h6 k hk0 hk1 h')
        · exact List.mem_append_right _ h')
      (fun q hq j hj => by
        rw [List.take_append_of_le_length (by omega), List.take_add_one, List.getElem?_eq_getElem hh] at hq
        rcases List.mem_append.1 hq with hq | hq
        · rw [a4 j (h7 q hq j hj)]; exact h7 q hq j hj
        · rw [show q = Q[h] by simpa using hq] at hj; exact a5 j hj)
      (fun P hP hs q hq => by
        rcases List.mem_append.1 hq with hq | hq
        · exact h8 P hP hs q hq
        · exact hP Q[h] q0 q1 (h8 P hP hs _ (List.getElem_mem hh)) q (a6 q hq).1)
      (by rw [a4 s (by omega)]; exact hS)
      (fun k hk0 hk1 hk => by
        rcases a7 k hk0 hk1 hk with h' | h'
        · rcases hE k hk0 hk1 h' with e | ⟨p, p0, p1, p2, p3, p4⟩
          · exact .inl e
          · exact .inr ⟨p, p0, p1, p2, by rw [a4 p p3]; exact p3, by rw [a4 p p3, a4 k h']; exact p4⟩
        · obtain ⟨b0, b1⟩ := a6 k h'
          exact .inr ⟨Q[h], q0, q1, b0, by rw [a4 _ q2]; exact q2, by rw [a4 _ q2]; exact b1⟩)
    refine ⟨R, ?_, ?_, r3, r4, fun k hk => r5 k (by rw [a4 k hk]; exact hk), r6, r7, r8, r9⟩
    · have e8 := a8 R r1
      rw [List.drop_eq_getElem_cons hh]
      refine Ev.step (fun k => by rw [impl_spread.l0]) ?_
      refine Ev.pos (by rw [List.length_cons]; omega) ?_
      refine Ev.pos (by rw [List.length_cons]; omega) ?_
      refine Ev.pos (by rw [List.length_cons]; omega) ?_
      have e1 : rd (Q[h] :: Q.drop (h + 1)) 0 = Q[h] := rfl
      have e2 : (Q[h] :: Q.drop (h + 1)).drop (1 : Int).toNat = Q.drop (h + 1) := rfl
      rw [e1, e2]
      refine Ev.pos q0 ?_
      refine Ev.pos q1 ?_
      exact e8
    · have hwh : wrap64 ((h : Int) + 1) = ((h + 1 : Nat) : Int) := wrap_up hh (by omega)
      rw [hwh] at a9
      clear hwh
      have e9 := a9 R r2
      refine Ev.step (fun k => by rw [spec_l2Spread.l1]) ?_
      refine Ev.pos (by omega) ?_
      refine Ev.pos (by omega) ?_
      rw [rd_at Q h hh]
      refine Ev.pos q0 ?_
      refine Ev.pos q1 ?_
      exact e9
end
theorem fill_loop {z : List (List Int)} (i : Int) {R : List Int} (d : Nat) : ∀ (m : Nat) (out : List Int), out.length - m = d → m ≤ out.length → out.length ≤ 1048576 → out.take m = List.replicate m (-1) → Ev (fun k => spec_l2Spread.l0 k z i (List.replicate out.length (-1)) (out.length : Int)) R → Ev (fun k => spec_l2Spread.l0 k z i out (m : Int)) R := by
  induction d with
  | zero =>
    intro m out h0 h1 h2 h3 hR
    have he : m = out.length := by omega
    rw [he] at h3 ⊢
    rw [List.take_length] at h3
    rw [← h3] at hR
    exact hR
  | succ d ih =>
    intro m out h0 h1 h2 h3 hR
    have hm : m < out.length := by omega
    refine Ev.step (fun k => by rw [spec_l2Spread.l0]) ?_
    refine Ev.pos (by omega) ?_
    refine Ev.pos (by omega) ?_
    have := ih (m + 1) (out.set m (-1)) (by rw [List.length_set]; omega) (by rw [List.length_set]; omega) (by rw [List.length_set]; exact h2) (by
      rw [List.take_add_one, List.getElem?_set_self hm, List.take_set_of_le (Nat.le_refl _), h3, List.replicate_succ', Option.toList]) (by rw [List.length_set]; exact hR)
    rw [← wrap_up hm (by omega)] at this
    rw [Int.toNat_natCast]
    exact this
/-- What both sides' spread answers. -/
theorem spread_both {z : List (List Int)} (hz : okZ z) (hn : z.length ≤ 1048576) (hr : ∀ i, (rd_L1 z i).length ≤ 1048576) (s : Int) (hs0 : 0 ≤ s) (hs1 : s < (z.length : Int)) :
    ∃ R, Ev (fun k => impl_spread.f k z s) R ∧ Ev (fun k => spec_l2Spread.f k z s) R ∧ R.length = z.length ∧ (∀ k, rd R k ≤ 1048575) ∧ 0 ≤ rd R s ∧ closedZ z (fun k => 0 ≤ rd R k) ∧ (∀ P, closedZ z P → P s → ∀ k, 0 ≤ k → k < (z.length : Int) → 0 ≤ rd R k → P k) ∧ rd R s = 0 ∧ (∀ k, 0 ≤ k → k < (z.length : Int) → 0 ≤ rd R k → k = s ∨ ∃ p, 0 ≤ p ∧ p < (z.length : Int) ∧ k ∈ rd_L1 z p ∧ 0 ≤ rd R p ∧ rd R k = rd R p + 1) := by
  have hl : s.toNat < (List.replicate z.length (-1 : Int)).length := by rw [List.length_replicate]; omega
  have hrs : ∀ k, rd ((List.replicate z.length (-1 : Int)).set s.toNat 0) k = if k.toNat = s.toNat then 0 else rd (List.replicate z.length (-1)) k := fun k => rd_set _ s k 0 hl
  have hrep : ∀ k, rd (List.replicate z.length (-1 : Int)) k < 1 := fun k => by
    unfold rd; rw [List.getD_eq_getElem?_getD, List.getElem?_replicate]; split <;> simp
  have hrep2 : ∀ k : Int, 0 ≤ k → k < (z.length : Int) → rd (List.replicate z.length (-1 : Int)) k = -1 := fun k h0 h1 => by
    unfold rd; rw [List.getD_eq_getElem?_getD, List.getElem?_replicate, if_pos (by omega)]; rfl
  have hneg := negs_set (List.replicate z.length (-1 : Int)) s 0 hl (by rw [hrep2 s hs0 hs1]; decide) (Int.le_refl _)
  have hneg2 : negs (List.replicate z.length (-1 : Int)) ≤ z.length := by have := List.countP_le_length (p := fun x => decide (x < 0)) (l := List.replicate z.length (-1 : Int)); rw [List.length_replicate] at this; exact this
  obtain ⟨R, r1, r2, r3, r4, r5, r6, r7, r8, r9⟩ := spread_outer hz hn hr s _ ((List.replicate z.length (-1 : Int)).set s.toNat 0) [s] 0 rfl (Nat.zero_le _) (by rw [List.length_set, List.length_replicate])
    (fun k => by rw [hrs]; have := hrep k; simp only [List.length_singleton]; split <;> omega) (by rw [List.length_singleton]; omega) (by simp)
    (fun q hq => by rw [show q = s by simpa using hq]; exact ⟨hs0, hs1, by rw [hrs, if_pos rfl]; exact Int.le_refl _⟩)
    (fun k hk0 hk1 hk => by
      rw [hrs] at hk
      by_cases c : k.toNat = s.toNat
      · rw [show k = s by omega]; exact .head _
      · rw [if_neg c, hrep2 k hk0 hk1] at hk; omega)
    (fun q hq => by simp at hq) (fun P hP hs q hq => by rw [show q = s by simpa using hq]; exact hs) (by rw [hrs, if_pos rfl])
    (fun k hk0 hk1 hk => by
      rw [hrs] at hk
      by_cases c : k.toNat = s.toNat
      · exact .inl (by omega)
      · rw [if_neg c, hrep2 k hk0 hk1] at hk; omega)
  simp only [Int.natCast_zero, List.drop_zero] at r1 r2
  refine ⟨R, ?_, ?_, r3, r4, r5 s (by rw [hrs, if_pos rfl]; exact Int.le_refl _), r6, r7, r8, r9⟩
  · unfold impl_spread.f
    refine Ev.pos hs0 ?_
    refine Ev.pos (by rw [List.length_replicate]; exact hs1) ?_
    exact r1
  · unfold spec_l2Spread.f
    refine Ev.pos (by omega) ?_
    refine Ev.pos (by omega) ?_
    rw [Int.toNat_natCast]
    have hfill := fill_loop (z := z) (R := R) s _ 0 (List.replicate z.length 0) rfl (Nat.zero_le _) (by rw [List.length_replicate]; exact hn) (by simp)
    simp only [Int.natCast_zero, List.length_replicate] at hfill
    refine hfill ?_
    refine Ev.step (fun k => by rw [spec_l2Spread.l0]) ?_
    refine Ev.neg (by rw [List.length_replicate]; omega) ?_
    rw [List.length_replicate]
    refine Ev.pos hs0 ?_
    refine Ev.pos hs1 ?_
    exact r2
end Go.Proofs.Ytaemfocjokkopaa.P
