/- Spaces that come in: their size, copies and comparisons; and both sides' test of a space. -/
import Derived.Test.YtpbngmkhpcgpkaaIsWayFactG
import Derived.Test.YtpbngmkhpcgpkaaIsWayExtG
import Derived.Test.YtpbngmkhpcgpkaaIsWayPx23
import Derived.Test.YtpbngmkhpcgpkaaIsWayPx24
import Derived.Test.YtpbngmkhpcgpkaaIsWayPx26
namespace Go.Proofs.Ytpbngmkhpcgpkaa.P
open Go.RowKit Go.Proofs.YtpbngmkhpcgpkaaW.PrintWords Go.Proofs.YtpbngmkhpcgpkaaW.PrintLast Go.Proofs.YtpbngmkhpcgpkaaW.PrintMore
set_option linter.unusedVariables false
set_option linter.unusedSimpArgs false

theorem rdL_at (l : List (List Int)) (m : Nat) (h : m < l.length) : rd_L4 l (m : Int) = l[m] := by simp [rd_L4, List.getD_eq_getElem?_getD, List.getElem?_eq_getElem h]
/-- A space of moderate size. -/
def modS (l : List (List Int)) (e : List S68) : Prop := l.length ≤ 1048576 ∧ (∀ s ∈ l, s.length ≤ 1048576) ∧ e.length ≤ 1048576
theorem szIntSS_loop (l : List (List Int)) (hl : l.length ≤ 1048576) (hf : ∀ s ∈ l, s.length ≤ 9223372036854775807) (d : Nat) : ∀ (m : Nat) (c : Int), l.length - m = d → m ≤ l.length → 0 ≤ c → c ≤ 1048576 →
    ∃ t, Ev (fun k => laws_szIntSS.l0 k l c (m : Int)) t ∧ (t < 0 ∨ (0 ≤ t ∧ t ≤ c ∧ ∀ s ∈ l.drop m, s.length ≤ 1048576)) := by
  induction d with
  | zero =>
    intro m c h0 h1 h2 h3
    refine ⟨c, Ev.step (fun k => by rw [laws_szIntSS.l0]) (Ev.neg (by omega) (Ev.now _)), .inr ⟨h2, by omega, ?_⟩⟩
    rw [List.drop_eq_nil_of_le (by omega)]
    intro s hs
    simp at hs
  | succ d ih =>
    intro m c h0 h1 h2 h3
    have hm : m < l.length := by omega
    have hs := hf l[m] (List.getElem_mem hm)
    by_cases hc : c - (l[m].length : Int) < 0
    · refine ⟨-1, ?_, .inl (by omega)⟩
      refine Ev.step (fun k => by rw [laws_szIntSS.l0]) ?_
      refine Ev.pos (by omega) (Ev.pos (by omega) ?_)
      refine Ev.bindo (a := (-1 : Int)) ?_ (Ev.pos (by omega) (Ev.now _))
      unfold laws_szIntS.f
      rw [rdL_at l m hm, wrap_nat (m := c - (l[m].length : Int)) (by omega) (by omega), if_pos hc]
    · obtain ⟨t, ht, hd⟩ := ih (m + 1) (c - (l[m].length : Int)) (by omega) (by omega) (by omega) (by omega)
      refine ⟨t, ?_, ?_⟩
      · refine Ev.step (fun k => by rw [laws_szIntSS.l0]) ?_
        refine Ev.pos (by omega) (Ev.pos (by omega) ?_)
        refine Ev.bindo (a := c - (l[m].length : Int)) ?_ (Ev.neg (by omega) ?_)
        · unfold laws_szIntS.f
          rw [rdL_at l m hm, wrap_nat (m := c - (l[m].length : Int)) (by omega) (by omega), if_neg hc]
        · rw [wrap_up hm (by omega)]
          exact ht
      · rcases hd with hd | ⟨h4, h5, h6⟩
        · exact .inl hd
        · refine .inr ⟨h4, by omega, ?_⟩
          rw [List.drop_eq_getElem_cons hm]
          intro s hs
          rcases List.mem_cons.1 hs with rfl | hs
          · omega
          · exact h6 s hs
theorem sz_space (l : List (List Int)) (e : List S68) (hl : FitLL l) (he : e.length ≤ 9223372036854775807) : ∃ t, Ev (fun k => laws_szSpace.f k l e 1048576) t ∧ (t < 0 ∨ modS l e) := by
  unfold laws_szSpace.f laws_szIntSS.f
  have h1 := hl.1
  have hw : wrap64 (1048576 - (l.length : Int)) = 1048576 - (l.length : Int) := wrap_nat (by omega) (by omega)
  rw [hw]
  by_cases h : 1048576 - (l.length : Int) < 0
  · exact ⟨-1, Ev.bind (Ev.pos h (Ev.now _)) (Ev.pos (by omega) (Ev.now _)), .inl (by omega)⟩
  · obtain ⟨t, ht, hd⟩ := szIntSS_loop l (by omega) (fun s hs => (hl.2 s hs).1) l.length 0 (1048576 - (l.length : Int)) (by omega) (Nat.zero_le _) (by omega) (by omega)
    rcases hd with hd | ⟨h4, h5, h6⟩
    · exact ⟨-1, Ev.bind (Ev.neg h ht) (Ev.pos hd (Ev.now _)), .inl (by omega)⟩
    · have hw2 : wrap64 (t - (e.length : Int)) = t - (e.length : Int) := wrap_nat (by omega) (by omega)
      by_cases h7 : t - (e.length : Int) < 0
      · refine ⟨-1, Ev.bind (Ev.neg h ht) (Ev.neg (by omega) (Ev.bindo (a := (-1 : Int)) ?_ (Ev.pos (by decide : (-1 : Int) < 0) (Ev.now _)))), .inl (by omega)⟩
        unfold laws_szIntA2S.f
        rw [hw2, if_pos h7]
      · refine ⟨t - (e.length : Int), Ev.bind (Ev.neg h ht) (Ev.neg (by omega) (Ev.bindo (a := t - (e.length : Int)) ?_ (Ev.neg h7 (Ev.now _)))), .inr ⟨by omega, ?_, by omega⟩⟩
        · unfold laws_szIntA2S.f
          rw [hw2, if_neg h7]
        · simpa only [List.drop_zero] using h6
/-! Copies. -/
theorem toIntSS_loop (l : List (List Int)) (hl : l.length ≤ 1048576) (hs : ∀ s ∈ l, s.length ≤ 1048576) (d : Nat) : ∀ (acc : List (List Int)) (m : Nat), l.length - m = d → m ≤ l.length → acc.length = l.length → acc.take m = l.take m →
    Ev (fun k => laws_toIntSS.l0 k l acc (m : Int)) l := by
  induction d with
  | zero =>
    intro acc m h0 h1 h2 h3
    refine Ev.step (fun k => by rw [laws_toIntSS.l0]) ?_
    refine Ev.neg (by omega) ?_
    have : acc = l := by rw [← List.take_length (l := acc), ← List.take_length (l := l), h2, show l.length = m by omega]; exact h3
    rw [this]
    exact Ev.now _
  | succ d ih =>
    intro acc m h0 h1 h2 h3
    have hm : m < l.length := by omega
    refine Ev.step (fun k => by rw [laws_toIntSS.l0]) ?_
    refine Ev.pos (by omega) (Ev.pos (by omega) ?_)
    rw [rdL_at l m hm]
    refine Ev.bind (toIntS_ev l[m] (hs _ (List.getElem_mem hm))) (Ev.pos (by omega) ?_)
    rw [wrap_up hm (by omega), Int.toNat_natCast]
    exact ih _ (m + 1) (by omega) (by omega) (by rw [List.length_set]; exact h2) (take_set_next l acc m hm h2 h3)
theorem toIntSS_ev (l : List (List Int)) (hl : l.length ≤ 1048576) (hs : ∀ s ∈ l, s.length ≤ 1048576) : Ev (fun k => laws_toIntSS.f k l) l := by
  unfold laws_toIntSS.f
  refine Ev.pos (by omega) (Ev.pos (by omega) ?_)
  exact toIntSS_loop l hl hs l.length _ 0 (by omega) (Nat.zero_le _) (by simp) (by simp)
theorem toSpace_ev (l : List (List Int)) (e : List S68) (h : modS l e) : Ev (fun k => laws_toSpace.f k l e) (l, e) := by
  unfold laws_toSpace.f
  exact Ev.bind (toIntSS_ev l h.1 h.2.1) (Ev.bind (toIntA2S_ev e h.2.2) (Ev.now _))
/-! Comparisons of equals. -/
theorem eqIntSS_loop (l : List (List Int)) (hl : l.length ≤ 1048576) (hs : ∀ s ∈ l, s.length ≤ 1048576) (d : Nat) : ∀ (m : Nat), l.length - m = d → m ≤ l.length → Ev (fun k => laws_eqIntSS.l0 k l l (m : Int)) true := by
  induction d with
  | zero =>
    intro m h0 h1
    refine Ev.step (fun k => by rw [laws_eqIntSS.l0]) ?_
    exact Ev.neg (by omega) (Ev.now _)
  | succ d ih =>
    intro m h0 h1
    have hm : m < l.length := by omega
    refine Ev.step (fun k => by rw [laws_eqIntSS.l0]) ?_
    refine Ev.pos (by omega) (Ev.pos (by omega) (Ev.pos (by omega) ?_))
    rw [rdL_at l m hm]
    refine Ev.bind (eqIntS_ev l[m] (hs _ (List.getElem_mem hm))) (Ev.pos rfl ?_)
    rw [wrap_up hm (by omega)]
    exact ih (m + 1) (by omega) (by omega)
theorem eqIntSS_ev (l : List (List Int)) (hl : l.length ≤ 1048576) (hs : ∀ s ∈ l, s.length ≤ 1048576) : Ev (fun k => laws_eqIntSS.f k l l) true := by
  unfold laws_eqIntSS.f
  exact Ev.pos rfl (eqIntSS_loop l hl hs l.length 0 (by omega) (Nat.zero_le _))
theorem eqSpace_ev (l : List (List Int)) (e : List S68) (h : modS l e) : Ev (fun k => laws_eqSpace.f k l e l e) true := by
  unfold laws_eqSpace.f
  exact Ev.bind (eqIntSS_ev l h.1 h.2.1) (Ev.pos rfl (Ev.bind (eqIntA2S_ev e h.2.2) (Ev.pos rfl (Ev.now _))))
/-! A state, and states in order. -/
def okState (s : List Int) : Bool := decide ((s.length : Int) ≤ 24) && s.all fun x => decide (-99 ≤ x) && decide (x ≤ 99)
theorem isState_at (s : List Int) : impl_isState.f s = some (okState s) := by
  unfold impl_isState.f okState
  congr 2
  induction s with
  | nil => rfl
  | cons x t ih =>
    rw [List.any_cons, List.all_cons, Bool.not_or, ih]
    unfold outB
    rw [Bool.not_not]
theorem l2State_loop (s : List Int) (hl : s.length ≤ 1048576) (d : Nat) : ∀ (m : Nat), s.length - m = d → m ≤ s.length →
    Ev (fun k => spec_l2State.l0 k s (m : Int)) (decide ((s.length : Int) ≤ 24) && (s.drop m).all fun x => decide (-99 ≤ x) && decide (x ≤ 99)) := by
  induction d with
  | zero =>
    intro m h0 h1
    refine Ev.step (fun k => by rw [spec_l2State.l0]) (Ev.neg (by omega) ?_)
    rw [List.drop_eq_nil_of_le (by omega), List.all_nil, Bool.and_true]
    exact Ev.now _
  | succ d ih =>
    intro m h0 h1
    have hm : m < s.length := by omega
    refine Ev.step (fun k => by rw [spec_l2State.l0]) (Ev.pos (by omega) (Ev.pos (by omega) ?_))
    rw [rd_at s m hm, List.drop_eq_getElem_cons hm, List.all_cons]
    refine Ev.bindo (in_at _ _ _) ?_
    cases (decide (-99 ≤ s[m]) && decide (s[m] ≤ 99)) with
    | false => rw [Bool.false_and, Bool.and_false]; exact Ev.neg (by decide) (Ev.now _)
    | true =>
      rw [Bool.true_and, wrap_up hm (by omega)]
      exact Ev.pos rfl (ih (m + 1) (by omega) (by omega))
theorem l2State_ev (s : List Int) (hl : s.length ≤ 1048576) : Ev (fun k => spec_l2State.f k s) (okState s) :=
  l2State_loop s hl s.length 0 (by omega) (Nat.zero_le _)
/-- A list comes before another one. -/
def befL : List Int → List Int → Bool
  | [], [] => false
  | [], _ :: _ => true
  | _ :: _, [] => false
  | a :: x, b :: y => if a = b then befL x y else decide (a < b)
theorem l2Before_loop (x y : List Int) (hx : x.length ≤ 1048576) (hy : y.length ≤ 1048576) (d : Nat) : ∀ (m : Nat), x.length - m = d → m ≤ x.length → m ≤ y.length →
    Ev (fun k => spec_l2Before.l0 k x y (m : Int)) (befL (x.drop m) (y.drop m)) := by
  induction d with
  | zero =>
    intro m h0 h1 h2
    refine Ev.step (fun k => by rw [spec_l2Before.l0]) (Ev.neg (by omega) (Ev.step (fun k => by rw [spec_l2Before.j1]) (Ev.neg (by decide) ?_)))
    rw [show x.drop m = [] from List.drop_eq_nil_of_le (by omega)]
    by_cases h : m < y.length
    · rw [List.drop_eq_getElem_cons h, show decide ((x.length : Int) < (y.length : Int)) = true from decide_eq_true (by omega)]
      exact Ev.now _
    · rw [List.drop_eq_nil_of_le (by omega), show decide ((x.length : Int) < (y.length : Int)) = false from decide_eq_false (by omega)]
      exact Ev.now _
  | succ d ih =>
    intro m h0 h1 h2
    have hm : m < x.length := by omega
    refine Ev.step (fun k => by rw [spec_l2Before.l0]) (Ev.pos (by omega) (Ev.step (fun k => by rw [spec_l2Before.j1]) ?_))
    rw [List.drop_eq_getElem_cons hm]
    by_cases h : m < y.length
    · refine Ev.pos (decide_eq_true (by omega)) (Ev.pos (by omega) (Ev.pos (by omega) (Ev.pos (by omega) ?_)))
      rw [rd_at x m hm, rd_at y m h, List.drop_eq_getElem_cons h, befL]
      by_cases c : x[m] = y[m]
      · rw [if_pos c, wrap_up hm (by omega)]
        exact Ev.pos c (ih (m + 1) (by omega) (by omega) (by omega))
      · rw [if_neg c]
        exact Ev.neg c (Ev.now _)
    · refine Ev.neg (by rw [decide_eq_false (by omega)]; decide) ?_
      rw [show y.drop m = [] from List.drop_eq_nil_of_le (by omega), show decide ((x.length : Int) < (y.length : Int)) = false from decide_eq_false (by omega)]
      exact Ev.now _
theorem l2Before_ev (x y : List Int) (hx : x.length ≤ 1048576) (hy : y.length ≤ 1048576) : Ev (fun k => spec_l2Before.f k x y) (befL x y) :=
  l2Before_loop x y hx hy x.length 0 (by omega) (Nat.zero_le _) (Nat.zero_le _)
theorem cmpL_bef (x : List Int) : ∀ y, (cmpL x y ≥ 0) ↔ befL x y = false := by
  induction x with
  | nil => intro y; cases y <;> simp [cmpL, befL]
  | cons a x ih =>
    intro y
    cases y with
    | nil => simp [cmpL, befL]
    | cons b y =>
      simp only [cmpL, befL]
      unfold cmpI
      by_cases h : a < b
      · rw [if_pos h, if_neg (by decide), if_neg (by omega), decide_eq_true h]
        simp
      · rw [if_neg h]
        by_cases h2 : a > b
        · rw [if_pos h2, if_neg (by decide), if_neg (by omega), decide_eq_false h]
          simp
        · rw [if_neg h2, if_pos rfl, if_pos (by omega)]
          exact ih y
/-- States, each a state, strictly ascending behind a first one. -/
def goodS : Option (List Int) → List (List Int) → Bool
  | _, [] => true
  | p, s :: t => okState s && ((match p with | none => true | some q => befL q s) && goodS (some s) t)
def prevS (l : List (List Int)) : Nat → Option (List Int)
  | 0 => none
  | m + 1 => l[m]?
theorem goodS_step (l : List (List Int)) (m : Nat) (hm : m < l.length) : goodS (prevS l m) (l.drop m) = (okState l[m] && ((match prevS l m with | none => true | some q => befL q l[m]) && goodS (prevS l (m + 1)) (l.drop (m + 1)))) := by
  rw [List.drop_eq_getElem_cons hm, show prevS l (m + 1) = some l[m] from List.getElem?_eq_getElem hm]
  cases prevS l m <;> rfl
def okS (l : List (List Int)) (e : List S68) : Bool := (decide ((l.length : Int) ≤ 300) && decide ((e.length : Int) ≤ 6000)) && (goodS none l && goodP (l.length : Int) none e)
section
variable (l : List (List Int)) (e : List S68) (h : modS l e)
include h
theorem l2Space_loop (d : Nat) : ∀ (m : Nat), l.length - m = d → m ≤ l.length → Ev (fun k => spec_l2Space.l0 k (m : Int) l e) (goodS (prevS l m) (l.drop m) && goodP (l.length : Int) none e) := by
  have hl := h.1
  induction d with
  | zero =>
    intro m h0 h1
    refine Ev.step (fun k => by rw [spec_l2Space.l0]) (Ev.neg (by omega) ?_)
    rw [List.drop_eq_nil_of_le (by omega), show goodS (prevS l m) [] = true from by cases prevS l m <;> rfl, Bool.true_and]
    exact Ev.bind (l2Pairs_ev e _ (by omega) (by omega) h.2.2) (Ev.now _)
  | succ d ih =>
    intro m h0 h1
    have hm : m < l.length := by omega
    refine Ev.step (fun k => by rw [spec_l2Space.l0]) (Ev.pos (by omega) (Ev.pos (by omega) ?_))
    rw [goodS_step l m hm, rdL_at l m hm]
    have ihm := ih (m + 1) (by omega) (by omega)
    rw [← wrap_up hm (by omega)] at ihm
    generalize goodS (prevS l (m + 1)) (l.drop (m + 1)) = R at ihm ⊢
    refine Ev.bind (l2State_ev l[m] (h.2.1 _ (List.getElem_mem hm))) ?_
    cases okState l[m] with
    | false => rw [Bool.false_and, Bool.false_and]; exact Ev.neg (by decide) (Ev.now _)
    | true =>
      rw [Bool.true_and]
      refine Ev.pos rfl ?_
      cases m with
      | zero =>
        refine Ev.neg (by omega) ?_
        simp only [prevS, Bool.true_and]
        exact ihm
      | succ q =>
        have hq : q < l.length := by omega
        have hw : wrap64 (((q + 1 : Nat) : Int) - 1) = (q : Int) := by unfold wrap64; omega
        refine Ev.pos (by omega) ?_
        rw [hw]
        refine Ev.pos (by omega) (Ev.pos (by omega) ?_)
        rw [rdL_at l q hq]
        simp only [prevS, List.getElem?_eq_getElem hq]
        refine Ev.bind (l2Before_ev _ _ (h.2.1 _ (List.getElem_mem hq)) (h.2.1 _ (List.getElem_mem hm))) ?_
        cases befL l[q] l[q + 1] with
        | true => rw [Bool.true_and]; exact Ev.pos rfl ihm
        | false => rw [Bool.false_and, Bool.false_and]; exact Ev.neg (by decide) (Ev.now _)
theorem l2Space_ev : Ev (fun k => spec_l2Space.f k l e) (okS l e) := by
  unfold spec_l2Space.f okS
  by_cases c : (l.length : Int) > 300
  · rw [decide_eq_false (by omega : ¬ (l.length : Int) ≤ 300), Bool.false_and, Bool.false_and]
    exact Ev.pos c (Ev.step (fun k => by rw [spec_l2Space.j0]) (Ev.pos rfl (Ev.now _)))
  · rw [decide_eq_true (by omega : (l.length : Int) ≤ 300), Bool.true_and]
    refine Ev.neg c (Ev.step (fun k => by rw [spec_l2Space.j0]) ?_)
    by_cases c2 : (e.length : Int) > 6000
    · rw [decide_eq_false (by omega : ¬ (e.length : Int) ≤ 6000), Bool.false_and]
      exact Ev.pos (decide_eq_true c2) (Ev.now _)
    · rw [decide_eq_true (by omega : (e.length : Int) ≤ 6000), Bool.true_and]
      refine Ev.neg (by rw [decide_eq_false c2]; decide) ?_
      exact l2Space_loop l e h l.length 0 (by omega) (Nat.zero_le _)
theorem IsSpace_loop (d : Nat) : ∀ (m : Nat), l.length - m = d → m ≤ l.length → Ev (fun k => impl_IsSpace.l0 k l (l.length : Int) (m : Int) l e) (goodS (prevS l m) (l.drop m) && goodP (l.length : Int) none e) := by
  have hl := h.1
  induction d with
  | zero =>
    intro m h0 h1
    refine Ev.step (fun k => by rw [impl_IsSpace.l0]) (Ev.neg (by omega) ?_)
    rw [List.drop_eq_nil_of_le (by omega), show goodS (prevS l m) [] = true from by cases prevS l m <;> rfl, Bool.true_and]
    exact Ev.bind (isPairs_ev e _ h.2.2) (Ev.now _)
  | succ d ih =>
    intro m h0 h1
    have hm : m < l.length := by omega
    refine Ev.step (fun k => by rw [impl_IsSpace.l0]) (Ev.pos (by omega) (Ev.pos (by omega) (Ev.pos (by omega) ?_)))
    rw [goodS_step l m hm, rdL_at l m hm]
    have ihm := ih (m + 1) (by omega) (by omega)
    rw [← wrap_up hm (by omega)] at ihm
    generalize goodS (prevS l (m + 1)) (l.drop (m + 1)) = R at ihm ⊢
    refine Ev.bindo (isState_at l[m]) ?_
    cases okState l[m] with
    | false => rw [Bool.false_and, Bool.false_and]; exact Ev.neg (by decide) (Ev.now _)
    | true =>
      rw [Bool.true_and]
      refine Ev.pos rfl ?_
      cases m with
      | zero =>
        refine Ev.neg (by omega) ?_
        simp only [prevS, Bool.true_and]
        exact ihm
      | succ q =>
        have hq : q < l.length := by omega
        have hw : wrap64 (((q + 1 : Nat) : Int) - 1) = (q : Int) := by unfold wrap64; omega
        refine Ev.pos (by omega) ?_
        rw [hw]
        refine Ev.pos (by omega) (Ev.pos (by omega) ?_)
        rw [rdL_at l q hq]
        simp only [prevS, List.getElem?_eq_getElem hq]
        have hlq := h.2.1 _ (List.getElem_mem hq)
        refine Ev.bind (a := cmpL l[q] l[q + 1]) ⟨l[q].length + 1, fun k hk => slices_Compare_at _ _ (by omega) k (by omega)⟩ ?_
        have hb := cmpL_bef l[q] l[q + 1]
        cases hc : befL l[q] l[q + 1] with
        | true => rw [Bool.true_and]; exact Ev.neg (fun hh => by have := hb.1 hh; rw [hc] at this; simp at this) ihm
        | false => rw [Bool.false_and, Bool.false_and]; exact Ev.pos (hb.2 hc) (Ev.now _)
theorem impl_IsSpace_ev : Ev (fun k => impl_IsSpace.f k l e) (okS l e) := by
  unfold impl_IsSpace.f okS
  by_cases c : (l.length : Int) > 300
  · rw [decide_eq_false (by omega : ¬ (l.length : Int) ≤ 300), Bool.false_and, Bool.false_and]
    exact Ev.pos c (Ev.step (fun k => by rw [impl_IsSpace.j0]) (Ev.pos rfl (Ev.now _)))
  · rw [decide_eq_true (by omega : (l.length : Int) ≤ 300), Bool.true_and]
    refine Ev.neg c (Ev.step (fun k => by rw [impl_IsSpace.j0]) ?_)
    by_cases c2 : (e.length : Int) > 6000
    · rw [decide_eq_false (by omega : ¬ (e.length : Int) ≤ 6000), Bool.false_and]
      exact Ev.pos (decide_eq_true c2) (Ev.now _)
    · rw [decide_eq_true (by omega : (e.length : Int) ≤ 6000), Bool.true_and]
      refine Ev.neg (by rw [decide_eq_false c2]; decide) ?_
      exact IsSpace_loop l e h l.length 0 (by omega) (Nat.zero_le _)
end
end Go.Proofs.Ytpbngmkhpcgpkaa.P
