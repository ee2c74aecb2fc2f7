/- The space of some places, as the reference makes it. -/
import Derived.Test.YtaemfocjokkopaaCutPlacesG12
import Derived.Test.YtaemfocjokkopaaCutPlacesG20
import Derived.Test.YtaemfocjokkopaaCutPlacesG13
import Derived.Test.YtaemfocjokkopaaCutPlacesG21
import Derived.Test.YtaemfocjokkopaaCutPlacesG16
import Derived.Test.YtaemfocjokkopaaCutPlacesG14
import Derived.Test.YtaemfocjokkopaaCutPlacesG15
import Derived.Test.YtaemfocjokkopaaCutPlacesG18
import Derived.Test.YtaemfocjokkopaaCutPlacesG19
namespace Go.Proofs.Ytaemfocjokkopaa.P
open Go.RowKit Go.Proofs.YtaemfocjokkopaaW.PrintWords Go.Proofs.YtaemfocjokkopaaW.PrintLast Go.Proofs.YtaemfocjokkopaaW.PrintMore
set_option linter.unusedVariables false
set_option linter.unusedSimpArgs false

/-- A tells the places that stand before m in l. -/
def atP (l : List Int) (m : Nat) (A : List Int) (n : Nat) : Prop := A.length = n ∧ ∀ x : Int, 0 ≤ x → x < (n : Int) → (∀ q (h : q < l.length), q < m → l[q] = x → rd A x = (q : Int)) ∧ ((∀ q (h : q < l.length), q < m → l[q] ≠ x) → rd A x = -1)
theorem l1Own_row (l : List Int) (h : l.length ≤ 1048576) : spec_l1Own.f l = some l := by
  unfold spec_l1Own.f
  show (if _ then _ else _) = _
  rw [if_pos (by simp only [List.length_nil]; omega)]
  rfl
theorem ind_fill {R : List (List Int) × List PrT} (l : List Int) (st : List (List Int)) (e : List PrT) (q0 : List (List Int)) (q1 : List PrT) (d : Nat) : ∀ (m : Nat) (A : List Int), A.length - m = d → m ≤ A.length → A.length ≤ 1048576 → A.take m = List.replicate m (-1) →
    Ev (fun k => spec_l2Induced.l1 k l (List.replicate A.length (-1)) 0 st e q0 q1) R → Ev (fun k => spec_l2Induced.l0 k l A (m : Int) st e q0 q1) R := by
  induction d with
  | zero =>
    intro m A h0 h1 h2 h3 hR
    have he : m = A.length := by omega
    rw [he] at h3 ⊢
    rw [List.take_length] at h3
    rw [← h3] at hR
    refine Ev.step (fun k => by rw [spec_l2Induced.l0]) ?_
    refine Ev.neg (by omega) ?_
    exact hR
  | succ d ih =>
    intro m A h0 h1 h2 h3 hR
    have hm : m < A.length := by omega
    refine Ev.step (fun k => by rw [spec_l2Induced.l0]) ?_
    refine Ev.pos (by omega) ?_
    refine Ev.pos (by omega) ?_
    have := ih (m + 1) (A.set m (-1)) (by rw [List.length_set]; omega) (by rw [List.length_set]; omega) (by rw [List.length_set]; exact h2) (by
      rw [List.take_add_one, List.getElem?_set_self hm, List.take_set_of_le (Nat.le_refl _), h3, List.replicate_succ', Option.toList]) (by rw [List.length_set]; exact hR)
    rw [← wrap_up hm (by omega)] at this
    rw [Int.toNat_natCast]
    exact this
section
variable (st : List (List Int)) (e : List PrT) (hm0 : modS st e) (l : List Int) (hl : l.length ≤ 1048576) (hp : l.Pairwise (· < ·)) (hb : ∀ x ∈ l, 0 ≤ x ∧ x < (st.length : Int))
include hm0 hl hp hb
theorem ind_rows (q1 : List PrT) (d : Nat) : ∀ (m : Nat) (A : List Int), l.length - m = d → m ≤ l.length → atP l m A st.length →
    ∃ A', atP l l.length A' st.length ∧ ∀ R, Ev (fun k => spec_l2Induced.l2 k A' 0 st e (l.map (rd_L1 st)) q1) R → Ev (fun k => spec_l2Induced.l1 k l A (m : Int) st e ((l.take m).map (rd_L1 st)) q1) R := by
  induction d with
  | zero =>
    intro m A h0 h1 h2
    have hml : m = l.length := by omega
    refine ⟨A, by rw [← hml]; exact h2, fun R hR => ?_⟩
    rw [List.take_of_length_le (by omega)]
    refine Ev.step (fun k => by rw [spec_l2Induced.l1]) ?_
    refine Ev.neg (by omega) ?_
    exact hR
  | succ d ih =>
    intro m A h0 h1 h2
    have hm : m < l.length := by omega
    have hx := hb l[m] (List.getElem_mem hm)
    have hxl : l[m].toNat < A.length := by rw [h2.1]; omega
    have hst := hm0.1
    obtain ⟨A', a1, a2⟩ := ih (m + 1) (A.set l[m].toNat (m : Int)) (by omega) (by omega) (by
      refine ⟨by rw [List.length_set, h2.1], fun x hx0 hx1 => ?_⟩
      obtain ⟨b1, b2⟩ := h2.2 x hx0 hx1
      rw [rd_set A l[m] x _ hxl]
      refine ⟨fun q hq hqm e' => ?_, fun hne => ?_⟩
      · by_cases c : q = m
        · subst c; rw [if_pos (by rw [e'])]
        · have : q < m := by omega
          rw [if_neg (fun h => ?_)]
          · exact b1 q hq this e'
          · have h3 := List.pairwise_iff_getElem.1 hp q m hq hm this
            omega
      · have h4 := hne m hm (by omega)
        rw [if_neg (by omega)]
        exact b2 fun q hq hqm => hne q hq (by omega))
    refine ⟨A', a1, fun R hR => ?_⟩
    have h5 := a2 R hR
    rw [← wrap_up hm (by omega), List.take_add_one, List.getElem?_eq_getElem hm, Option.toList, List.map_append, List.map_singleton] at h5
    have hlm : ((l.take m).map (rd_L1 st)).length ≤ l.length := by rw [List.length_map, List.length_take]; omega
    refine Ev.step (fun k => by rw [spec_l2Induced.l1]) ?_
    refine Ev.pos (by omega) ?_
    refine Ev.pos (by omega) ?_
    rw [rd_at l m hm]
    refine Ev.pos hx.1 ?_
    refine Ev.pos (by rw [h2.1]; exact hx.2) ?_
    refine Ev.pos hx.2 ?_
    refine Ev.bindo (l1Own_row _ (by
      obtain ⟨i, hi⟩ := Int.eq_ofNat_of_zero_le hx.1
      rw [hi, rdL_at st i (by omega)]
      exact hm0.2.1 _ (List.getElem_mem _))) ?_
    refine Ev.pos (by omega) ?_
    exact h5
def pickA (A : List Int) (p : PrT) : Option PrT := if 0 ≤ rd A p.f0 ∧ 0 ≤ rd A p.f1 then some ⟨rd A p.f0, rd A p.f1⟩ else none
omit hl hp hb in
theorem ind_steps (A : List Int) (hA : A.length = st.length) (hg : goodP (st.length : Int) none e = true) (q0 : List (List Int)) (d : Nat) : ∀ (m : Nat), e.length - m = d → m ≤ e.length →
    Ev (fun k => spec_l2Induced.l2 k A (m : Int) st e q0 ((e.take m).filterMap (pickA A))) (q0, e.filterMap (pickA A)) := by
  have he := hm0.2.2
  induction d with
  | zero =>
    intro m h0 h1
    rw [List.take_of_length_le (by omega)]
    refine Ev.step (fun k => by rw [spec_l2Induced.l2]) ?_
    exact Ev.neg (by omega) (Ev.now _)
  | succ d ih =>
    intro m h0 h1
    have hm : m < e.length := by omega
    have hs := goodP_all _ e none hg e[m] (List.getElem_mem hm)
    have h5 := ih (m + 1) (by omega) (by omega)
    have hle := filterMap_le (pickA A) e m he
    rw [filterMap_take _ e m hm, ← wrap_up hm (by omega)] at h5
    refine Ev.step (fun k => by rw [spec_l2Induced.l2]) ?_
    refine Ev.pos (by omega) ?_
    refine Ev.pos (by omega) ?_
    rw [rdT_at e m hm]
    refine Ev.pos (by omega) ?_
    refine Ev.pos (by omega) ?_
    refine Ev.pos (by omega) ?_
    refine Ev.pos (by omega) ?_
    by_cases c0 : rd A e[m].f0 ≥ 0
    · refine Ev.pos c0 ?_
      by_cases c1 : rd A e[m].f1 ≥ 0
      · rw [show pickA A e[m] = some ⟨rd A e[m].f0, rd A e[m].f1⟩ from if_pos ⟨c0, c1⟩] at h5
        refine Ev.pos c1 ?_
        refine Ev.pos (by omega) ?_
        exact h5
      · rw [show pickA A e[m] = none from if_neg (fun h => c1 h.2), Option.toList, List.append_nil] at h5
        refine Ev.neg c1 ?_
        exact h5
    · rw [show pickA A e[m] = none from if_neg (fun h => c0 h.1), Option.toList, List.append_nil] at h5
      refine Ev.neg c0 ?_
      exact h5
/-- What the reference's induced space is. -/
theorem l2Induced_ev (hg : goodP (st.length : Int) none e = true) : ∃ A, atP l l.length A st.length ∧ Ev (fun k => spec_l2Induced.f k st e l) (l.map (rd_L1 st), e.filterMap (pickA A)) := by
  have hst := hm0.1
  have h0 : atP l 0 (List.replicate st.length (-1)) st.length := by
    refine ⟨List.length_replicate, fun x hx0 hx1 => ⟨fun q _ hq => absurd hq (by omega), fun _ => ?_⟩⟩
    unfold rd
    rw [List.getD_eq_getElem?_getD, List.getElem?_replicate, if_pos (by omega)]
    rfl
  obtain ⟨A, a1, a2⟩ := ind_rows st e hm0 l hl hp hb [] (l.length - 0) 0 _ rfl (Nat.zero_le _) h0
  refine ⟨A, a1, ?_⟩
  have h1 := ind_steps st e hm0 A a1.1 hg (l.map (rd_L1 st)) (e.length - 0) 0 rfl (Nat.zero_le _)
  simp only [Int.natCast_zero, List.take_zero, List.filterMap_nil] at h1
  have h2 := a2 _ h1
  simp only [Int.natCast_zero, List.take_zero, List.map_nil] at h2
  unfold spec_l2Induced.f
  refine Ev.pos (by omega) ?_
  refine Ev.pos (by omega) ?_
  rw [Int.toNat_natCast]
  have h3 := ind_fill (R := (l.map (rd_L1 st), e.filterMap (pickA A))) l st e [] [] ((List.replicate st.length (0 : Int)).length - 0) 0 (List.replicate st.length 0) rfl (Nat.zero_le _) (by rw [List.length_replicate]; exact hst) (by simp) (by rw [List.length_replicate]; exact h2)
  exact h3
end
end Go.Proofs.Ytaemfocjokkopaa.P
namespace Go.Proofs.Ytaemfocjokkopaa.P
open Go.RowKit Go.Proofs.YtaemfocjokkopaaW.PrintWords Go.Proofs.YtaemfocjokkopaaW.PrintLast Go.Proofs.YtaemfocjokkopaaW.PrintMore
set_option linter.unusedVariables false
set_option linter.unusedSimpArgs false
theorem cntL_map (F : Nat → Prop) (f : Nat → Nat) : ∀ l : List Nat, cntL F (l.map f) = cntL (fun i => F (f i)) l
  | [] => rfl
  | x :: l => by
    have ih := cntL_map F f l
    by_cases c : F (f x)
    · rw [List.map_cons, cntL_pos c, cntL_pos (p := fun i => F (f i)) c, ih]
    · rw [List.map_cons, cntL_neg c, cntL_neg (p := fun i => F (f i)) c, ih]
theorem cntL_filter (F Q : Nat → Prop) : ∀ l : List Nat, cntL F (l.filter (fun i => @decide (Q i) (Classical.propDecidable _))) = cntL (fun i => F i ∧ Q i) l
  | [] => rfl
  | x :: l => by
    have ih := cntL_filter F Q l
    by_cases q : Q x
    · rw [List.filter_cons, if_pos (by simpa using q)]
      by_cases c : F x
      · rw [cntL_pos c, cntL_pos (p := fun i => F i ∧ Q i) ⟨c, q⟩, ih]
      · rw [cntL_neg c, cntL_neg (p := fun i => F i ∧ Q i) (fun h => c h.1), ih]
    · rw [List.filter_cons, if_neg (by simpa using q), cntL_neg (p := fun i => F i ∧ Q i) (fun h => q h.2), ih]
theorem goodP_ofC (n : Int) (l : List S54) : ∀ p, (∀ e ∈ l, 0 ≤ e.f0 ∧ e.f0 < e.f1 ∧ e.f1 < n) → l.Pairwise (fun a b => befP a b = true) → (∀ q, p = some q → ∀ s ∈ l, befP q s = true) → goodP n p l = true := by
  induction l with
  | nil => intro p _ _ _; rfl
  | cons x t ih =>
    intro p h1 h2 h3
    have h4 := h1 x (List.mem_cons_self ..)
    rw [List.pairwise_cons] at h2
    have h5 := ih (some x) (fun e he => h1 e (List.mem_cons_of_mem _ he)) h2.2 (fun q hq s hs => by injection hq with hq; subst hq; exact h2.1 s hs)
    simp only [goodP, Bool.and_eq_true, decide_eq_true_eq]
    refine ⟨⟨⟨h4.1, h4.2.1⟩, h4.2.2⟩, ?_, h5⟩
    cases p with
    | none => rfl
    | some q => exact h3 q rfl x (List.mem_cons_self ..)
theorem strict_lt {l : List Int} (hp : l.Pairwise (· < ·)) {i j : Nat} (hi : i < l.length) (hj : j < l.length) : l[i] < l[j] ↔ i < j := by
  rw [List.pairwise_iff_getElem] at hp
  constructor
  · intro h
    rcases Nat.lt_trichotomy i j with q | q | q
    · exact q
    · subst q; omega
    · have := hp j i hj hi q; omega
  · intro h; exact hp i j hi hj h
theorem strict_eq {l : List Int} (hp : l.Pairwise (· < ·)) {i j : Nat} (hi : i < l.length) (hj : j < l.length) (h : l[i] = l[j]) : i = j := by
  have h1 := strict_lt hp hi hj
  have h2 := strict_lt hp hj hi
  omega
section
variable (st : List (List Int)) (e : List PrT) (hm0 : modS st e) (hg : goodP (st.length : Int) none e = true) (l : List Int) (hp : l.Pairwise (· < ·)) (hb : ∀ x ∈ l, 0 ≤ x ∧ x < (st.length : Int)) (A : List Int) (hA : atP l l.length A st.length)
include hp hb hA
theorem at_pos {x : Int} (h0 : 0 ≤ x) (h1 : x < (st.length : Int)) (h : 0 ≤ rd A x) : ∃ q : Nat, ∃ hq : q < l.length, rd A x = (q : Int) ∧ l[q] = x := by
  have _u1 := hp
  have _u2 := hb
  have ha := hA.2 x h0 h1
  by_cases c : ∃ q : Nat, ∃ hq : q < l.length, l[q] = x
  · obtain ⟨q, hq, hx⟩ := c
    exact ⟨q, hq, ha.1 q hq hq hx, hx⟩
  · have := ha.2 (fun q hq _ hx => c ⟨q, hq, hx⟩)
    omega
theorem at_get (q : Nat) (hq : q < l.length) : rd A l[q] = (q : Int) := by
  have _u1 := hp
  have := hb _ (List.getElem_mem hq)
  exact (hA.2 l[q] this.1 this.2).1 q hq hq rfl
include hg
theorem pick_mem (p : PrT) : p ∈ e.filterMap (pickA A) ↔ ∃ s ∈ e, ∃ i j : Nat, ∃ hi : i < l.length, ∃ hj : j < l.length, s.f0 = l[i] ∧ s.f1 = l[j] ∧ p.f0 = (i : Int) ∧ p.f1 = (j : Int) := by
  rw [List.mem_filterMap]
  constructor
  · rintro ⟨s, hs, h⟩
    have hr := goodP_all _ e none hg s hs
    unfold pickA at h
    split at h
    next hc =>
      obtain ⟨i, hi, h1, h2⟩ := at_pos st l hp hb A hA (x := s.f0) (by omega) (by omega) hc.1
      obtain ⟨j, hj, h3, h4⟩ := at_pos st l hp hb A hA (x := s.f1) (by omega) (by omega) hc.2
      obtain rfl := Option.some.inj h
      exact ⟨s, hs, i, j, hi, hj, h2.symm, h4.symm, h1, h3⟩
    next => cases h
  · rintro ⟨s, hs, i, j, hi, hj, h1, h2, h3, h4⟩
    refine ⟨s, hs, ?_⟩
    have e1 := at_get st l hp hb A hA i hi
    have e2 := at_get st l hp hb A hA j hj
    unfold pickA
    rw [h1, h2, e1, e2, if_pos ⟨by omega, by omega⟩, ← h3, ← h4]
theorem ind_good : goodP (l.length : Int) none (e.filterMap (pickA A)) = true := by
  have hpw := (goodP_pw _ e none hg).1
  refine goodP_ofC _ _ none ?_ ?_ (fun q h => by cases h)
  · intro p hpm
    obtain ⟨s, hs, i, j, hi, hj, h1, h2, h3, h4⟩ := (pick_mem st e hg l hp hb A hA p).1 hpm
    have hr := goodP_all _ e none hg s hs
    have := (strict_lt hp hi hj).1 (by rw [← h1, ← h2]; exact hr.2.1)
    omega
  · rw [List.pairwise_filterMap]
    refine List.Pairwise.imp_of_mem ?_ hpw
    intro s t hs ht hst p hpick q hqick
    have hsr := goodP_all _ e none hg s hs
    have htr := goodP_all _ e none hg t ht
    unfold pickA at hpick hqick
    split at hpick
    next hc =>
      split at hqick
      next hd =>
        obtain ⟨i, hi, h1, h2⟩ := at_pos st l hp hb A hA (x := s.f0) (by omega) (by omega) hc.1
        obtain ⟨j, hj, h3, h4⟩ := at_pos st l hp hb A hA (x := s.f1) (by omega) (by omega) hc.2
        obtain ⟨i', hi', h1', h2'⟩ := at_pos st l hp hb A hA (x := t.f0) (by omega) (by omega) hd.1
        obtain ⟨j', hj', h3', h4'⟩ := at_pos st l hp hb A hA (x := t.f1) (by omega) (by omega) hd.2
        obtain rfl := Option.some.inj hpick
        obtain rfl := Option.some.inj hqick
        have q1 := strict_lt hp hi hi'
        have q2 := strict_lt hp hj hj'
        have q3 : s.f0 = t.f0 → i = i' := fun e => strict_eq hp hi hi' (by rw [h2, h2', e])
        rw [h2, h2'] at q1
        rw [h4, h4'] at q2
        show befP _ _ = true
        unfold befP at hst ⊢
        simp only [h1, h3, h1', h3'] at *
        simp only [Bool.or_eq_true, Bool.and_eq_true, decide_eq_true_eq, beq_iff_eq] at hst ⊢
        rcases hst with h | h
        · left; have := q1.1 h; omega
        · right; have := q3 h.1; have := q2.1 h.2; omega
      next => cases hqick
    next => cases hpick
include hm0
theorem ind_row (q : Nat) (hq : q < l.length) (b : Int) : b ∈ rd_L1 (roadsL (l.map (rd_L1 st)) (e.filterMap (pickA A))) (q : Int) ↔ ∃ bn : Nat, ∃ hbn : bn < l.length, b = (bn : Int) ∧ l[bn] ∈ rd_L1 (roadsL st e) l[q] := by
  have _u1 := hm0
  have hx := hb _ (List.getElem_mem hq)
  have e1 : rd_L1 (roadsL (l.map (rd_L1 st)) (e.filterMap (pickA A))) (q : Int) = rowL (e.filterMap (pickA A)) (q : Int) := by
    unfold roadsL
    exact rowsOf_rd _ (by omega) (by rw [List.length_map]; omega)
  have e2 : rd_L1 (roadsL st e) l[q] = rowL e l[q] := by
    unfold roadsL
    exact rowsOf_rd _ hx.1 hx.2
  rw [e1, e2, rowL_mem]
  constructor
  · rintro ⟨p, hpm, h⟩
    obtain ⟨s, hs, i, j, hi, hj, h1, h2, h3, h4⟩ := (pick_mem st e hg l hp hb A hA p).1 hpm
    have hsr := goodP_all _ e none hg s hs
    rcases h with ⟨g1, g2⟩ | ⟨g1, g2, g3⟩
    · have hiq : i = q := by omega
      subst hiq
      exact ⟨j, hj, by omega, (rowL_mem e _ _).2 ⟨s, hs, .inl ⟨h1, h2⟩⟩⟩
    · have hjq : j = q := by omega
      subst hjq
      exact ⟨i, hi, by omega, (rowL_mem e _ _).2 ⟨s, hs, .inr ⟨by rw [← h2]; omega, h2, h1⟩⟩⟩
  · rintro ⟨bn, hbn, rfl, h⟩
    obtain ⟨s, hs, h⟩ := (rowL_mem e _ _).1 h
    have hsr := goodP_all _ e none hg s hs
    rcases h with ⟨g1, g2⟩ | ⟨g1, g2, g3⟩
    · exact ⟨⟨(q : Int), (bn : Int)⟩, (pick_mem st e hg l hp hb A hA _).2 ⟨s, hs, q, bn, hq, hbn, g1, g2, rfl, rfl⟩, .inl ⟨rfl, rfl⟩⟩
    · refine ⟨⟨(bn : Int), (q : Int)⟩, (pick_mem st e hg l hp hb A hA _).2 ⟨s, hs, bn, q, hbn, hq, g3, g2, rfl, rfl⟩, .inr ⟨?_, rfl, rfl⟩⟩
      intro h
      have h : (bn : Int) = (q : Int) := h
      have : bn = q := by omega
      subst this
      omega
end
end Go.Proofs.Ytaemfocjokkopaa.P
namespace Go.Proofs.Ytaemfocjokkopaa.P
open Go.RowKit Go.Proofs.YtaemfocjokkopaaW.PrintWords Go.Proofs.YtaemfocjokkopaaW.PrintLast Go.Proofs.YtaemfocjokkopaaW.PrintMore
set_option linter.unusedVariables false
set_option linter.unusedSimpArgs false
/-- The part of a place without it, as numbers. -/
noncomputable def restN (z : List (List Int)) (v : Nat) : List Nat := (List.range z.length).filter (fun i => @decide (reachZ z (fun _ => False) (v : Int) (i : Int) ∧ i ≠ v) (Classical.propDecidable _))
section
variable {z z' : List (List Int)} (hz : okZ z) (hs : symZ z) (v : Nat) (hv : v < z.length) (l : List Int) (hp : l.Pairwise (· < ·)) (hl : ∀ x : Int, x ∈ l ↔ (0 ≤ x ∧ x < (z.length : Int)) ∧ reachZ z (fun _ => False) (v : Int) x ∧ x ≠ (v : Int)) (hlen : z'.length = l.length)
  (hrow : ∀ (q : Nat) (hq : q < l.length) (b : Int), b ∈ rd_L1 z' (q : Int) ↔ ∃ bn : Nat, ∃ hbn : bn < l.length, b = (bn : Int) ∧ l[bn] ∈ rd_L1 z l[q])
include hz hp hl hlen hrow
theorem two_reach (q q' : Nat) (hq : q < l.length) (hq' : q' < l.length) : reachZ z' (fun _ => False) (q : Int) (q' : Int) ↔ reachZ z (fun k => k = (v : Int)) l[q] l[q'] := by
  constructor
  · intro h
    obtain ⟨kn, hk, e1, h1⟩ := h (fun k => ∃ kn : Nat, ∃ hk : kn < l.length, k = (kn : Int) ∧ reachZ z (fun k => k = (v : Int)) l[q] l[kn]) (fun a a0 a1 ha b hb _ => by
      obtain ⟨an, han, rfl, h2⟩ := ha
      obtain ⟨bn, hbn, rfl, h3⟩ := (hrow an han b).1 hb
      have hx := (hl l[an]).1 (List.getElem_mem han)
      have hy := (hl l[bn]).1 (List.getElem_mem hbn)
      exact ⟨bn, hbn, rfl, reach_step h2 hx.1.1 hx.1.2 h3 hy.2.2⟩) ⟨q, hq, rfl, reach_refl _⟩
    have : kn = q' := by omega
    subst this
    exact h1
  · intro h
    obtain ⟨kn, hk, e1, h1⟩ := h (fun x => ∃ kn : Nat, ∃ hk : kn < l.length, l[kn] = x ∧ reachZ z' (fun _ => False) (q : Int) (kn : Int)) (fun a a0 a1 ha b hb hne => by
      obtain ⟨an, han, rfl, h2⟩ := ha
      have hx := (hl l[an]).1 (List.getElem_mem han)
      have hbr := hz l[an] a0 a1 b hb
      have hbl : b ∈ l := (hl b).2 ⟨hbr, reach_step hx.2.1 a0 a1 hb (fun f => f), hne⟩
      obtain ⟨bn, hbn, rfl⟩ := List.getElem_of_mem hbl
      exact ⟨bn, hbn, rfl, reach_step h2 (by omega) (by rw [hlen]; omega) ((hrow an han _).2 ⟨bn, hbn, rfl, hb⟩) (fun f => f)⟩) ⟨q, hq, rfl, reach_refl _⟩
    have := strict_eq hp hk hq' e1
    subst this
    exact h1
include hs hv
theorem rest_list : l = (restN z v).map (fun (i : Nat) => (i : Int)) := by
  have _u := hs
  have _u1 := hz
  have _u2 := hlen
  have _u3 := hrow
  have _u4 := hv
  refine strict_ext hp ?_ (fun x => ?_)
  · rw [List.pairwise_map]
    unfold restN
    refine List.Pairwise.imp ?_ (List.Pairwise.sublist List.filter_sublist List.pairwise_lt_range)
    intro a b h
    omega
  · rw [hl, List.mem_map]
    unfold restN
    constructor
    · rintro ⟨h0, h1, h2⟩
      refine ⟨x.toNat, ?_, by omega⟩
      simp only [List.mem_filter, List.mem_range, decide_eq_true_eq]
      refine ⟨by omega, ?_, by omega⟩
      rw [show ((x.toNat : Nat) : Int) = x by omega]
      exact h1
    · rintro ⟨i, hi, rfl⟩
      simp only [List.mem_filter, List.mem_range, decide_eq_true_eq] at hi
      exact ⟨by omega, hi.2.1, by omega⟩
theorem two_count : cntZ z' (fun _ => False) = pieces z v := by
  have hr := rest_list hz hs v hv l hp hl hlen hrow
  obtain ⟨L, hL⟩ : ∃ L, restN z v = L := ⟨_, rfl⟩
  have hlL : l.length = L.length := by rw [hr, hL, List.length_map]
  have hat : ∀ (q : Nat) (hq : q < l.length), l[q] = ((L.getD q 0 : Nat) : Int) := fun q hq => by
    have hq2 : q < L.length := by omega
    have h1 : l[q]? = (L.map (fun (i : Nat) => (i : Int)))[q]? := by rw [← hL, ← hr]
    rw [List.getElem?_eq_getElem hq, List.getElem?_map, List.getElem?_eq_getElem hq2] at h1
    rw [List.getD_eq_getElem?_getD, List.getElem?_eq_getElem hq2]
    exact Option.some.inj h1
  have hrep : ∀ q ∈ List.range l.length, isRep z' (fun _ => False) q ↔ isRep z (fun k => k = (v : Int)) (L.getD q 0) := by
    intro q hq
    rw [List.mem_range] at hq
    have hx := (hl l[q]).1 (List.getElem_mem hq)
    have hxe := hat q hq
    constructor
    · rintro ⟨_, h⟩
      refine ⟨by rw [← hxe]; exact hx.2.2, fun i' hlt hne hre => ?_⟩
      rw [← hxe] at hre
      have hi0 : (i' : Int) < l[q] := by rw [hxe]; omega
      have hil : (i' : Int) ∈ l := by
        refine (hl _).2 ⟨by omega, ?_, hne⟩
        have hmono : reachZ z (fun _ => False) (i' : Int) l[q] := fun P hP hi => hre P (fun a a0 a1 ha b hb _ => hP a a0 a1 ha b hb (fun f => f)) hi
        exact reach_trans hx.2.1 (reach_symm hz hs (by omega) (by omega) (fun f => f) hmono)
      obtain ⟨q', hq', e1⟩ := List.getElem_of_mem hil
      rw [← e1] at hi0 hre
      have hlt2 := (strict_lt hp hq' hq).1 hi0
      exact h q' hlt2 (fun f => f) ((two_reach hz v l hp hl hlen hrow q' q hq' hq).2 hre)
    · rintro ⟨_, h⟩
      refine ⟨fun f => f, fun q' hlt _ hre => ?_⟩
      have hq' : q' < l.length := by omega
      have h1 := (two_reach hz v l hp hl hlen hrow q' q hq' hq).1 hre
      have h2 := (strict_lt hp hq' hq).2 hlt
      have hy := (hl l[q']).1 (List.getElem_mem hq')
      rw [hat q' hq', hat q hq] at h1 h2
      rw [hat q' hq'] at hy
      exact h (L.getD q' 0) (by omega) hy.2.2 h1
  unfold cntZ pieces
  rw [hlen, count_congr hrep]
  have hmap : L = (List.range l.length).map (fun q => L.getD q 0) := by
    apply List.ext_getElem
    · rw [List.length_map, List.length_range, hlL]
    · intro i h1 h2
      rw [List.getElem_map, List.getElem_range, List.getD_eq_getElem?_getD, List.getElem?_eq_getElem h1]
      rfl
  have e1 := cntL_map (isRep z (fun k => k = (v : Int))) (fun q => L.getD q 0) (List.range l.length)
  rw [← hmap] at e1
  rw [← e1, ← hL]
  unfold restN
  rw [cntL_filter]
  refine count_congr (fun i hi => ?_)
  constructor
  · rintro ⟨h1, h2, _⟩; exact ⟨h1, h2⟩
  · rintro ⟨h1, h2⟩
    exact ⟨h1, h2, fun e => h1.1 (by rw [e])⟩
end
end Go.Proofs.Ytaemfocjokkopaa.P
namespace Go.Proofs.Ytaemfocjokkopaa.P
open Go.RowKit Go.Proofs.YtaemfocjokkopaaW.PrintWords Go.Proofs.YtaemfocjokkopaaW.PrintLast Go.Proofs.YtaemfocjokkopaaW.PrintMore
set_option linter.unusedVariables false
set_option linter.unusedSimpArgs false
theorem put_loop (l : List Int) (hl : l.length ≤ 1048576) (x : Int) (hx : x ∉ l) (d : Nat) : ∀ (m : Nat), l.length - m = d → m ≤ l.length → (∀ y ∈ l.take m, y < x) → ∃ q, q ≤ l.length ∧ (∀ y ∈ l.take q, y < x) ∧ (∀ h : q < l.length, x < l[q]) ∧ Ev (fun k => spec_l1Put.l0 k l x (m : Int)) (l.take q ++ [x] ++ l.drop q) := by
  induction d with
  | zero =>
    intro m h0 h1 h2
    refine ⟨m, h1, h2, fun h => by omega, ?_⟩
    refine Ev.step (fun k => by rw [spec_l1Put.l0]) ?_
    refine Ev.neg (by omega) ?_
    refine Ev.bindo rfl ?_
    refine Ev.pos (by omega) ?_
    refine Ev.pos (by omega) ?_
    rw [Int.toNat_natCast]
    have hl1 : (l.take m).length ≤ l.length := by rw [List.length_take]; omega
    have hl2 : (l.drop m).length ≤ l.length := by rw [List.length_drop]; omega
    refine Ev.pos (by simp only [List.length_nil]; omega) ?_
    refine Ev.bindo rfl ?_
    refine Ev.bindo rfl ?_
    refine Ev.pos (by simp only [List.nil_append, List.length_singleton]; omega) ?_
    refine Ev.bindo rfl ?_
    refine Ev.pos (by simp only [List.nil_append, List.length_append, List.length_singleton]; omega) ?_
    exact Ev.now _
  | succ d ih =>
    intro m h0 h1 h2
    have hm : m < l.length := by omega
    have hne : l[m] ≠ x := fun e => hx (e ▸ List.getElem_mem hm)
    by_cases c : l[m] < x
    · obtain ⟨q, q1, q2, q3, q4⟩ := ih (m + 1) (by omega) (by omega) (fun y hy => by
        rw [List.take_add_one, List.getElem?_eq_getElem hm] at hy
        rcases List.mem_append.1 hy with hy | hy
        · exact h2 y hy
        · rw [show y = l[m] by simpa using hy]; exact c)
      rw [← wrap_up hm (by omega)] at q4
      refine ⟨q, q1, q2, q3, ?_⟩
      refine Ev.step (fun k => by rw [spec_l1Put.l0]) ?_
      refine Ev.pos (by omega) ?_
      refine Ev.pos (by omega) ?_
      rw [rd_at l m hm]
      refine Ev.pos c ?_
      exact q4
    · refine ⟨m, h1, h2, fun h => by omega, ?_⟩
      refine Ev.step (fun k => by rw [spec_l1Put.l0]) ?_
      refine Ev.pos (by omega) ?_
      refine Ev.pos (by omega) ?_
      rw [rd_at l m hm]
      refine Ev.neg c ?_
      refine Ev.neg hne ?_
      refine Ev.bindo rfl ?_
      refine Ev.pos (by omega) ?_
      rw [Int.toNat_natCast]
      have hl1 : (l.take m).length ≤ l.length := by rw [List.length_take]; omega
      have hl2 : (l.drop m).length ≤ l.length := by rw [List.length_drop]; omega
      refine Ev.pos (by simp only [List.length_nil]; omega) ?_
      refine Ev.bindo rfl ?_
      refine Ev.bindo rfl ?_
      refine Ev.pos (by simp only [List.nil_append, List.length_singleton]; omega) ?_
      refine Ev.bindo rfl ?_
      refine Ev.pos (by simp only [List.nil_append, List.length_append, List.length_singleton]; omega) ?_
      exact Ev.now _
/-- What the turned set is. -/
theorem put_ev (l : List Int) (hl : l.length ≤ 1048575) (hp : l.Pairwise (· < ·)) (x : Int) (hx : x ∉ l) : ∃ R, Ev (fun k => spec_l1Put.f k l x) R ∧ R.Pairwise (· < ·) ∧ ∀ y, y ∈ R ↔ y ∈ l ∨ y = x := by
  obtain ⟨q, q1, q2, q3, q4⟩ := put_loop l (by omega) x hx (l.length - 0) 0 rfl (Nat.zero_le _) (fun y hy => by simp at hy)
  simp only [Int.natCast_zero] at q4
  refine ⟨l.take q ++ [x] ++ l.drop q, q4, ?_, fun y => ?_⟩
  · have hd : ∀ y ∈ l.drop q, x < y := fun y hy => by
      have hq : q < l.length := by
        rcases Nat.lt_or_ge q l.length with h | h
        · exact h
        · rw [List.drop_eq_nil_of_le h] at hy; cases hy
      have h3 := q3 hq
      have h4 := hp.sublist (List.drop_sublist q l)
      rw [List.drop_eq_getElem_cons hq] at hy h4
      rcases List.mem_cons.1 hy with rfl | hy
      · exact h3
      · have := (List.pairwise_cons.1 h4).1 y hy; omega
    rw [List.append_assoc, List.pairwise_append]
    refine ⟨hp.sublist (List.take_sublist q l), ?_, fun a ha b hb => ?_⟩
    · rw [List.singleton_append, List.pairwise_cons]
      exact ⟨hd, hp.sublist (List.drop_sublist q l)⟩
    · have h1 := q2 a ha
      rw [List.singleton_append] at hb
      rcases List.mem_cons.1 hb with rfl | hb
      · exact h1
      · have := hd b hb; omega
  · have e : y ∈ l ↔ y ∈ l.take q ∨ y ∈ l.drop q := by rw [← List.mem_append, List.take_append_drop]
    rw [List.mem_append, List.mem_append, List.mem_singleton, e]
    constructor
    · rintro ((h | h) | h)
      · exact .inl (.inl h)
      · exact .inr h
      · exact .inl (.inr h)
    · rintro ((h | h) | h)
      · exact .inl (.inl h)
      · exact .inr h
      · exact .inl (.inr h)
theorem own_atC (l : List Int) (h : l.length ≤ 1048576) : spec_l1Own.f l = some l := by
  unfold spec_l1Own.f
  rw [Option.bind_some, if_pos (by rw [List.length_nil]; omega), List.nil_append]
theorem ev_uniq {α : Type} {g : Nat → Option α} {r s : α} (h1 : Ev g r) (h2 : Ev g s) : r = s := by
  obtain ⟨K1, h1⟩ := h1
  obtain ⟨K2, h2⟩ := h2
  have e1 := h1 (max K1 K2) (by omega)
  have e2 := h2 (max K1 K2) (by omega)
  rw [e1] at e2
  exact Option.some.inj e2
/-- A rising list without one of its places. -/
theorem without_mem {L : List Int} (hp : L.Pairwise (· < ·)) (m : Nat) (hm : m < L.length) (x : Int) : x ∈ L.take m ++ L.drop (m + 1) ↔ x ∈ L ∧ x ≠ L[m] := by
  rw [List.mem_append]
  constructor
  · rintro (h | h)
    · obtain ⟨i, hi, rfl⟩ := List.getElem_of_mem h
      rw [List.length_take] at hi
      rw [List.getElem_take]
      have := (strict_lt hp (i := i) (j := m) (by omega) hm).2 (by omega)
      exact ⟨List.getElem_mem _, by omega⟩
    · obtain ⟨i, hi, rfl⟩ := List.getElem_of_mem h
      rw [List.length_drop] at hi
      rw [List.getElem_drop]
      have := (strict_lt hp (i := m) (j := m + 1 + i) hm (by omega)).2 (by omega)
      exact ⟨List.getElem_mem _, by omega⟩
  · rintro ⟨h, hne⟩
    obtain ⟨i, hi, rfl⟩ := List.getElem_of_mem h
    rcases Nat.lt_trichotomy i m with q | q | q
    · exact .inl (List.mem_take_iff_getElem.2 ⟨i, by omega, rfl⟩)
    · subst q; exact absurd rfl hne
    · refine .inr (List.mem_drop_iff_getElem.2 ⟨i - (m + 1), by omega, ?_⟩)
      congr 1
      omega
theorem without_strict {L : List Int} (hp : L.Pairwise (· < ·)) (m : Nat) : (L.take m ++ L.drop (m + 1)).Pairwise (· < ·) := by
  refine hp.sublist ?_
  have := (List.Sublist.refl (L.take m)).append (List.drop_sublist_drop_left L (Nat.le_succ m))
  rw [List.take_append_drop] at this
  exact this
open Classical in
theorem reps_mem (z : List (List Int)) (o : Int → Prop) (d m i : Nat) : i ∈ repsF z o d m ↔ (m ≤ i ∧ i < m + d) ∧ isRep z o i := by
  rw [repsF_eq, List.mem_filter, List.mem_range'_1, decide_eq_true_eq]
open Classical in
theorem reps_strict (z : List (List Int)) (o : Int → Prop) (d m : Nat) : (repsF z o d m).Pairwise (· < ·) := by
  rw [repsF_eq]
  exact List.Pairwise.sublist List.filter_sublist List.pairwise_lt_range'
section
variable (st : List (List Int)) (e : List PrT) (hm0 : modS st e) (hg : goodP (st.length : Int) none e = true)
include hm0 hg
/-- One place of a part: the space of the others has as many parts as there are pieces. -/
theorem one_place (r : Nat) (hr : r < st.length) (L : List Int) (hL : L = clsL (roadsL st e) (fun _ => False) (r : Int)) (j : Nat) (hj : j < L.length) : ∃ (a : List (List Int)) (b : List PrT) (R2 : List (List Int)), Ev (fun k => spec_l2Induced.f k st e (L.take j ++ L.drop (j + 1))) (a, b) ∧ Ev (fun k => spec_l2Parts.f k a b) R2 ∧ R2.length = pieces (roadsL st e) L[j].toNat := by
  have hz := roadsL_ok st e hm0 hg
  have hs := roadsL_sym st e hm0 hg
  have hlen := roadsL_len st e
  have hmem : ∀ x, x ∈ L ↔ (0 ≤ x ∧ x < ((roadsL st e).length : Int)) ∧ reachZ (roadsL st e) (fun _ => False) (r : Int) x := fun x => by rw [hL]; exact clsL_mem _ _ _ x
  have hstrict : L.Pairwise (· < ·) := by rw [hL]; exact clsL_strict _ _ _
  have hv := (hmem L[j]).1 (List.getElem_mem hj)
  obtain ⟨v, hvn⟩ := Int.eq_ofNat_of_zero_le hv.1.1
  rw [hvn] at hv
  have hrest := without_strict hstrict j
  have hl : ∀ x : Int, x ∈ L.take j ++ L.drop (j + 1) ↔ (0 ≤ x ∧ x < ((roadsL st e).length : Int)) ∧ reachZ (roadsL st e) (fun _ => False) (v : Int) x ∧ x ≠ (v : Int) := fun x => by
    rw [without_mem hstrict j hj, hmem, hvn]
    have hsym := reach_symm hz hs (o := fun _ => False) (i := (r : Int)) (j := (v : Int)) (by omega) (by rw [hlen]; omega) (fun f => f) hv.2
    constructor
    · rintro ⟨⟨h1, h2⟩, h3⟩
      exact ⟨h1, reach_trans hsym h2, h3⟩
    · rintro ⟨h1, h2, h3⟩
      exact ⟨⟨h1, reach_trans hv.2 h2⟩, h3⟩
  generalize hrr : L.take j ++ L.drop (j + 1) = l at hrest hl
  have hb : ∀ x ∈ l, 0 ≤ x ∧ x < (st.length : Int) := fun x hx => by have := ((hl x).1 hx).1; rw [hlen] at this; exact this
  have hll : l.length ≤ 1048576 := by
    have h1 : l.length ≤ L.length := by rw [← hrr, List.length_append, List.length_take, List.length_drop]; omega
    have h2 : L.length ≤ (roadsL st e).length := by
      rw [hL]
      unfold clsL
      rw [List.length_map]
      refine Nat.le_trans (List.length_filter_le _ _) ?_
      rw [List.length_range]; exact Nat.le_refl _
    have := hm0.1
    rw [hlen] at h2
    omega
  obtain ⟨A, hA, hev⟩ := l2Induced_ev st e hm0 l hll hrest hb hg
  have hg2 := ind_good st e hg l hrest hb A hA
  have hm2 : modS (l.map (rd_L1 st)) (e.filterMap (pickA A)) := by
    refine ⟨by rw [List.length_map]; exact hll, fun s hs' => ?_, Nat.le_trans (List.length_filterMap_le _ _) hm0.2.2⟩
    obtain ⟨x, hx, rfl⟩ := List.mem_map.1 hs'
    have := hb x hx
    obtain ⟨m, rfl⟩ := Int.eq_ofNat_of_zero_le this.1
    rw [rdL_at st m (by omega)]
    exact hm0.2.1 _ (List.getElem_mem _)
  have hg3 : goodP ((l.map (rd_L1 st)).length : Int) none (e.filterMap (pickA A)) = true := by rw [List.length_map]; exact hg2
  obtain ⟨R2, p1, p2, _⟩ := parts_both _ _ hm2 hg3
  have hz2 := roadsL_ok _ _ hm2 hg3
  have hs2 := roadsL_sym _ _ hm2 hg3
  have hlen2 : (roadsL (l.map (rd_L1 st)) (e.filterMap (pickA A))).length = l.length := by rw [roadsL_len, List.length_map]
  have p3 := parts_all (by rw [hlen2]; exact hll) hz2 (roadsL_row _ _ hm2 hg3) hs2
  have p4 := ev_uniq p1 p3
  refine ⟨_, _, R2, hev, p2, ?_⟩
  rw [p4, List.length_map, repsF_len, hvn, Int.toNat_natCast]
  exact two_count hz hs v (by omega) l hrest hl hlen2 (fun q hq b => ind_row st e hm0 hg l hrest hb A hA q hq b)
theorem spec_cuts (hst2 : st.length ≤ 1048575) : ∃ R, Ev (fun k => spec_l2Parts.f k st e) R ∧ Ev (fun k => impl_parts.f k (roadsL st e) (-1)) R ∧ R.length = cntZ (roadsL st e) (fun _ => False) ∧ Ev (fun k => spec_CutPlaces.l0 k [] R 0 st e) (cutF (roadsL st e) st.length 0, true) := by
  have hz := roadsL_ok st e hm0 hg
  have hs := roadsL_sym st e hm0 hg
  have hlen := roadsL_len st e
  have hst := hm0.1
  obtain ⟨R, p1, p2, hRl, _⟩ := parts_both st e hm0 hg
  have p3 := parts_all (by rw [hlen]; exact hst) hz (roadsL_row st e hm0 hg) hs
  have hR := ev_uniq p1 p3
  rw [hlen] at hR
  obtain ⟨N, hN⟩ : ∃ N, repsF (roadsL st e) (fun _ => False) st.length 0 = N := ⟨_, rfl⟩
  have hNs : N.Pairwise (· < ·) := by rw [← hN]; exact reps_strict _ _ _ _
  have hNm : ∀ i, i ∈ N ↔ i < st.length ∧ isRep (roadsL st e) (fun _ => False) i := fun i => by
    rw [← hN, reps_mem]
    constructor
    · rintro ⟨h, h2⟩; exact ⟨by omega, h2⟩
    · rintro ⟨h, h2⟩; exact ⟨by omega, h2⟩
  rw [hN] at hR
  have hRN : R.length = N.length := by rw [hR, List.length_map]
  have hRi : ∀ (i : Nat) (hi : i < R.length), R[i] = clsL (roadsL st e) (fun _ => False) ((N[i]'(by omega) : Nat) : Int) := fun i hi => by
    have h1 : R[i]? = (N.map (fun (i : Nat) => clsL (roadsL st e) (fun _ => False) (i : Int)))[i]? := by rw [hR]
    rw [List.getElem?_eq_getElem hi, List.getElem?_map, List.getElem?_eq_getElem (by omega : i < N.length)] at h1
    exact Option.some.inj h1
  have hRs : ∀ (i : Nat) (hi : i < R.length), R[i].Pairwise (· < ·) := fun i hi => by rw [hRi i hi]; exact clsL_strict _ _ _
  have hRm : ∀ (i : Nat) (hi : i < R.length) (x : Int), x ∈ R[i] ↔ (0 ≤ x ∧ x < (st.length : Int)) ∧ reachZ (roadsL st e) (fun _ => False) ((N[i]'(by omega) : Nat) : Int) x := fun i hi x => by rw [hRi i hi, clsL_mem, hlen]
  have hRlen : ∀ (i : Nat) (hi : i < R.length), R[i].length ≤ st.length := fun i hi => by
    rw [hRi i hi]
    unfold clsL
    rw [List.length_map]
    refine Nat.le_trans (List.length_filter_le _ _) ?_
    rw [List.length_range, hlen]; exact Nat.le_refl _
  -- two parts have no place in common
  have hdis : ∀ (i i' : Nat) (hi : i < R.length) (hi' : i' < R.length) (x : Int), i' < i → x ∈ R[i'] → x ∉ R[i] := fun i i' hi hi' x hlt h1 h2 => by
    have a1 := (hRm i' hi' x).1 h1
    have a2 := (hRm i hi x).1 h2
    have b1 := (hNm _).1 (List.getElem_mem (by omega : i' < N.length))
    have b2 := (hNm _).1 (List.getElem_mem (by omega : i < N.length))
    rw [List.pairwise_iff_getElem] at hNs
    have b3 := hNs i' i (by omega) (by omega) hlt
    exact b2.2.2 _ b3 (fun f => f) (reach_trans a1.2 (reach_symm hz hs (by omega) (by rw [hlen]; omega) (fun f => f) a2.2))
  have hcov : ∀ x : Int, 0 ≤ x → x < (st.length : Int) → ∃ i, ∃ hi : i < R.length, x ∈ R[i] := fun x h0 h1 => by
    obtain ⟨m, q1, q2, q3⟩ := least_of (p := fun i : Nat => i < st.length ∧ reachZ (roadsL st e) (fun _ => False) (i : Int) x) (n := x.toNat) ⟨by omega, by rw [show ((x.toNat : Nat) : Int) = x by omega]; exact reach_refl _⟩
    have hmN : m ∈ N := (hNm m).2 ⟨q2.1, fun f => f, fun i' hlt _ h => q3 i' hlt ⟨by omega, reach_trans h q2.2⟩⟩
    obtain ⟨i, hi, rfl⟩ := List.getElem_of_mem hmN
    exact ⟨i, by omega, (hRm i (by omega) x).2 ⟨⟨h0, h1⟩, q2.2⟩⟩
  -- what has been put
  have main : ∀ (d i : Nat) (acc : List Int), R.length - i = d → i ≤ R.length → acc.Pairwise (· < ·) → (∀ x, x ∈ acc ↔ ((0 ≤ x ∧ x < (st.length : Int)) ∧ isCut (roadsL st e) x.toNat) ∧ ∃ i', ∃ hi' : i' < R.length, i' < i ∧ x ∈ R[i']) → Ev (fun k => spec_CutPlaces.l0 k acc R (i : Int) st e) (cutF (roadsL st e) st.length 0, true) := by
    intro d
    induction d with
    | zero =>
      intro i acc h0 h1 h2 h3
      have hacc : acc = cutF (roadsL st e) st.length 0 := by
        refine strict_ext h2 (cutF_strict _ _ _) (fun x => ?_)
        rw [h3, cutF_mem]
        constructor
        · rintro ⟨⟨a, b⟩, _⟩; exact ⟨by omega, b⟩
        · rintro ⟨a, b⟩
          obtain ⟨i', hi', hx⟩ := hcov x (by omega) (by omega)
          exact ⟨⟨by omega, b⟩, i', hi', by omega, hx⟩
      rw [hacc]
      refine Ev.step (fun k => by rw [spec_CutPlaces.l0]) ?_
      exact Ev.neg (by omega) (Ev.now _)
    | succ d ih =>
      intro i acc h0 h1 h2 h3
      have hi : i < R.length := by omega
      have inner : ∀ (d2 j : Nat) (acc : List Int), R[i].length - j = d2 → j ≤ R[i].length → acc.Pairwise (· < ·) → (∀ x, x ∈ acc ↔ ((0 ≤ x ∧ x < (st.length : Int)) ∧ isCut (roadsL st e) x.toNat) ∧ ((∃ i', ∃ hi' : i' < R.length, i' < i ∧ x ∈ R[i']) ∨ x ∈ R[i].take j)) → Ev (fun k => spec_CutPlaces.l1 k acc R (i : Int) (j : Int) st e) (cutF (roadsL st e) st.length 0, true) := by
        intro d2
        induction d2 with
        | zero =>
          intro j acc g0 g1 g2 g3
          refine Ev.step (fun k => by rw [spec_CutPlaces.l1]) ?_
          refine Ev.pos (by omega) ?_
          refine Ev.pos (by omega) ?_
          rw [rdL_at R i hi, wrap_up hi (by omega)]
          refine Ev.neg (by omega) ?_
          refine ih (i + 1) acc (by omega) (by omega) g2 (fun x => ?_)
          rw [g3, List.take_of_length_le (by omega)]
          constructor
          · rintro ⟨a, ⟨i', hi', b, c⟩ | c⟩
            · exact ⟨a, i', hi', by omega, c⟩
            · exact ⟨a, i, hi, by omega, c⟩
          · rintro ⟨a, i', hi', b, c⟩
            refine ⟨a, ?_⟩
            by_cases q : i' = i
            · subst q; exact .inr c
            · exact .inl ⟨i', hi', by omega, c⟩
        | succ d2 ih2 =>
          intro j acc g0 g1 g2 g3
          have hj : j < R[i].length := by omega
          have hjs := hRlen i hi
          have hv := (hRm i hi R[i][j]).1 (List.getElem_mem hj)
          obtain ⟨aI, bI, R2, e1, e2, e3⟩ := one_place st e hm0 hg (N[i]'(by omega)) ((hNm _).1 (List.getElem_mem _)).1 R[i] (hRi i hi) j hj
          have hrd : rd R[i] (j : Int) = R[i][j] := by simp [rd, List.getD_eq_getElem?_getD, List.getElem?_eq_getElem hj]
          have htk : ∀ x, x ∈ R[i].take (j + 1) ↔ x ∈ R[i].take j ∨ x = R[i][j] := fun x => by
            rw [List.take_succ_eq_append_getElem hj, List.mem_append, List.mem_singleton]
          have hnot : R[i][j] ∉ acc := fun hq => by
            rcases ((g3 _).1 hq).2 with ⟨i', hi', b, c⟩ | c
            · exact hdis i i' hi hi' _ b c (List.getElem_mem hj)
            · obtain ⟨m, hm, hme⟩ := List.getElem_of_mem c
              rw [List.length_take] at hm
              rw [List.getElem_take] at hme
              have := strict_eq (hRs i hi) (by omega : m < R[i].length) hj hme
              omega
          have haccl : acc.length ≤ 1048575 := by
            have hsub : acc.length ≤ st.length := by
              have hc : acc = (((List.range st.length).filter (fun (i : Nat) => decide ((i : Int) ∈ acc))).map (fun (i : Nat) => (i : Int))) := by
                refine strict_ext g2 ?_ (fun x => ?_)
                · rw [List.pairwise_map]
                  refine List.Pairwise.imp ?_ (List.Pairwise.sublist List.filter_sublist List.pairwise_lt_range)
                  intro a b h
                  omega
                · rw [List.mem_map]
                  constructor
                  · intro hx
                    have hxr := ((g3 x).1 hx).1.1
                    refine ⟨x.toNat, ?_, by omega⟩
                    rw [List.mem_filter, List.mem_range, decide_eq_true_eq]
                    exact ⟨by omega, by rw [show ((x.toNat : Nat) : Int) = x by omega]; exact hx⟩
                  · rintro ⟨y, hy, rfl⟩
                    rw [List.mem_filter, decide_eq_true_eq] at hy
                    exact hy.2
              rw [hc, List.length_map]
              refine Nat.le_trans (List.length_filter_le _ _) ?_
              rw [List.length_range]; exact Nat.le_refl _
            have := hst2
            omega
          refine Ev.step (fun k => by rw [spec_CutPlaces.l1]) ?_
          refine Ev.pos (by omega) ?_
          refine Ev.pos (by omega) ?_
          rw [rdL_at R i hi, hrd, wrap_up hj (by omega), Int.toNat_natCast, Int.toNat_natCast]
          refine Ev.pos (by omega) ?_
          refine Ev.pos (by omega) ?_
          refine Ev.pos (by omega) ?_
          refine Ev.bindo (own_atC (R[i].take j) (by rw [List.length_take]; omega)) ?_
          refine Ev.pos (by omega) ?_
          refine Ev.pos (by omega) ?_
          refine Ev.bindo rfl ?_
          refine Ev.pos (by rw [List.length_take, List.length_drop]; omega) ?_
          refine Ev.bind e1 ?_
          refine Ev.bind e2 ?_
          by_cases c : isCut (roadsL st e) R[i][j].toNat
          · have c' : 1 < R2.length := by rw [e3]; exact c
            refine Ev.pos (by omega) ?_
            obtain ⟨acc2, f1, f2, f3⟩ := put_ev acc haccl g2 R[i][j] hnot
            refine Ev.bind f1 ?_
            refine ih2 (j + 1) acc2 (by omega) (by omega) f2 (fun x => ?_)
            rw [f3, g3, htk]
            constructor
            · rintro (⟨a, b | b⟩ | h)
              · exact ⟨a, .inl b⟩
              · exact ⟨a, .inr (.inl b)⟩
              · subst h; exact ⟨⟨hv.1, c⟩, .inr (.inr rfl)⟩
            · rintro ⟨a, b | b | b⟩
              · exact .inl ⟨a, .inl b⟩
              · exact .inl ⟨a, .inr b⟩
              · exact .inr b
          · have c' : ¬ 1 < R2.length := by rw [e3]; exact c
            refine Ev.neg (by omega) ?_
            refine ih2 (j + 1) acc (by omega) (by omega) g2 (fun x => ?_)
            rw [g3, htk]
            constructor
            · rintro ⟨a, b | b⟩
              · exact ⟨a, .inl b⟩
              · exact ⟨a, .inr (.inl b)⟩
            · rintro ⟨a, b | b | b⟩
              · exact ⟨a, .inl b⟩
              · exact ⟨a, .inr b⟩
              · subst b; exact absurd a.2 c
      refine Ev.step (fun k => by rw [spec_CutPlaces.l0]) ?_
      refine Ev.pos (by omega) ?_
      refine inner (R[i].length - 0) 0 acc rfl (Nat.zero_le _) h2 (fun x => ?_)
      rw [h3, List.take_zero]
      constructor
      · rintro ⟨a, b⟩; exact ⟨a, .inl b⟩
      · rintro ⟨a, b | b⟩
        · exact ⟨a, b⟩
        · cases b
  refine ⟨R, p2, p1, by rw [hRN, ← hN, ← hlen]; exact repsF_len _ _, main R.length 0 [] rfl (Nat.zero_le _) List.Pairwise.nil (fun x => ?_)⟩
  constructor
  · intro h; cases h
  · rintro ⟨_, i', _, h, _⟩; omega
end
theorem Both_FnExactCutPlaces (l0_0 : List (List Int)) (l0_1 : List S54) (w0_0 : FitLL l0_0) (w0_1 : FitP l0_1) (hm0 : modS l0_0 l0_1) : ∃ (q0 : List Int) (q1 : Bool), Ev (fun k => spec_CutPlaces.f k l0_0 l0_1) (q0, q1) ∧ Ev (fun k => impl_CutPlaces.f k l0_0 l0_1) (q0, q1) ∧ q0.length ≤ 1048576 := by
  by_cases h : okS l0_0 l0_1 = true
  · have hg := okS_goodL h
    have hst2 := hg.1
    obtain ⟨R, r1, r2, r3, r4⟩ := spec_cuts l0_0 l0_1 hm0 hg.2 (by omega)
    refine ⟨cutF (roadsL l0_0 l0_1) l0_0.length 0, true, ?_, ?_, ?_⟩
    · unfold spec_CutPlaces.f
      refine Ev.bindo rfl ?_
      refine Ev.bind (l2Space_ev l0_0 l0_1 hm0) ?_
      rw [h]
      refine Ev.pos rfl ?_
      exact Ev.bind r1 r4
    · unfold impl_CutPlaces.f
      refine Ev.bind (impl_IsSpace_ev l0_0 l0_1 hm0) ?_
      rw [h]
      refine Ev.pos rfl ?_
      refine Ev.bind (roads_ev l0_0 l0_1 hm0 hg.2) ?_
      refine Ev.bind r2 ?_
      rw [r3]
      have := cuts_loop (by rw [roadsL_len]; exact hm0.1) (roadsL_ok l0_0 l0_1 hm0 hg.2) (roadsL_row l0_0 l0_1 hm0 hg.2) (roadsL_sym l0_0 l0_1 hm0 hg.2) (roadsL l0_0 l0_1).length 0 [] (Nat.sub_zero _) (Nat.zero_le _) (Nat.le_refl _)
      rw [List.nil_append] at this
      simp only [roadsL_len] at this ⊢
      exact this
    · have hlen : ∀ (z : List (List Int)) (d m : Nat), (cutF z d m).length ≤ d := by
        intro z d
        induction d with
        | zero => intro m; exact Nat.le_refl _
        | succ d ih =>
          intro m
          have := ih (m + 1)
          rw [cutF, List.length_append]
          split <;> simp only [List.length_cons, List.length_nil] <;> omega
      have := hlen (roadsL l0_0 l0_1) l0_0.length 0
      omega
  · rw [Bool.not_eq_true] at h
    refine ⟨[], false, ?_, ?_, Nat.zero_le _⟩
    · unfold spec_CutPlaces.f
      refine Ev.bindo rfl ?_
      refine Ev.bind (l2Space_ev l0_0 l0_1 hm0) ?_
      rw [h]
      exact Ev.neg (by decide) (Ev.now _)
    · unfold impl_CutPlaces.f
      refine Ev.bind (impl_IsSpace_ev l0_0 l0_1 hm0) ?_
      rw [h]
      exact Ev.neg (by decide) (Ev.now _)
end Go.Proofs.Ytaemfocjokkopaa.P
namespace Go.Proofs.Ytaemfocjokkopaa.P
open Go.RowKit Go.Proofs.YtaemfocjokkopaaW.PrintWords Go.Proofs.YtaemfocjokkopaaW.PrintLast Go.Proofs.YtaemfocjokkopaaW.PrintMore
set_option linter.unusedVariables false
set_option linter.unusedSimpArgs false

def seqI : Nat → Int → List Int
  | 0, _ => []
  | n + 1, k => k :: seqI n (wrap64 (k + 1))
def endI : Nat → Int → Int
  | 0, k => k
  | n + 1, k => endI n (wrap64 (k + 1))
theorem seqI_len (n : Nat) : ∀ k, (seqI n k).length = n := by
  induction n with
  | zero => intro k; rfl
  | succ n ih => intro k; simp [seqI, ih]
theorem endI_at (n : Nat) : ∀ k, 0 ≤ k → k + (n : Int) ≤ 4611686018427387904 → endI n k = k + (n : Int) := by
  induction n with
  | zero => intro k h1 h2; simp [endI]
  | succ n ih =>
    intro k h1 h2
    have e1 : wrap64 (k + 1) = k + 1 := wrap_nat (by omega) (by omega)
    rw [endI, e1, ih (k + 1) (by omega) (by omega)]
    omega
theorem markInt_loop (d : Nat) : ∀ (done rest : List Int) (c : Int), rest.length = d → done.length + d ≤ 1048576 →
    Ev (fun k => laws_markIntS.l0 k (done ++ rest) c (done.length : Int)) (endI d c, done ++ seqI d c) := by
  induction d with
  | zero =>
    intro done rest c h0 h1
    refine Ev.step (fun k => by rw [laws_markIntS.l0]) ?_
    have : rest = [] := List.eq_nil_of_length_eq_zero h0
    subst this
    refine Ev.neg (by simp) ?_
    exact Ev.now _
  | succ d ih =>
    intro done rest c h0 h1
    obtain ⟨x, t, rfl⟩ : ∃ x t, rest = x :: t := by
      cases rest with
      | nil => simp at h0
      | cons x t => exact ⟨x, t, rfl⟩
    have h2 : t.length = d := by simpa using h0
    refine Ev.step (fun k => by rw [laws_markIntS.l0]) ?_
    refine Ev.pos (by simp; omega) (Ev.pos (by omega) ?_)
    have e : (done ++ x :: t).set ((done.length : Int)).toNat c = (done ++ [c]) ++ t := by
      rw [Int.toNat_natCast]
      simp
    have hw : wrap64 ((done.length : Int) + 1) = ((done ++ [c]).length : Int) := by
      rw [List.length_append, List.length_singleton]
      exact wrap_up (n := done.length + 1) (by omega) (by omega)
    rw [e, hw]
    have := ih (done ++ [c]) t (wrap64 (c + 1)) h2 (by rw [List.length_append, List.length_singleton]; omega)
    simpa only [seqI, endI, List.append_assoc, List.singleton_append] using this
theorem markInt_ev (l : List Int) (c : Int) (hl : l.length ≤ 1048576) : Ev (fun k => laws_markIntS.f k l c) (endI l.length c, seqI l.length c) := by
  unfold laws_markIntS.f
  have := markInt_loop l.length [] l c rfl (by simpa using hl)
  simpa only [List.nil_append, List.length_nil, Int.ofNat_eq_natCast, Int.natCast_zero] using this
theorem heldInt_loop (d : Nat) : ∀ (done : List Int) (c : Int), done.length + d ≤ 1048576 →
    Ev (fun k => laws_heldIntS.l0 k (done ++ seqI d c) c (done.length : Int)) (endI d c) := by
  induction d with
  | zero =>
    intro done c h1
    refine Ev.step (fun k => by rw [laws_heldIntS.l0]) ?_
    refine Ev.neg (by simp [seqI]) ?_
    exact Ev.now _
  | succ d ih =>
    intro done c h1
    refine Ev.step (fun k => by rw [laws_heldIntS.l0]) ?_
    have hlen : (done ++ seqI (d + 1) c).length = done.length + (d + 1) := by rw [List.length_append, seqI_len]
    refine Ev.pos (by rw [hlen]; omega) (Ev.pos (by omega) ?_)
    have hr : rd (done ++ seqI (d + 1) c) (done.length : Int) = c := by
      rw [rd_at _ _ (by rw [hlen]; omega)]
      simp [seqI]
    refine Ev.pos hr ?_
    have hw : wrap64 ((done.length : Int) + 1) = ((done ++ [c]).length : Int) := by
      rw [List.length_append, List.length_singleton]
      exact wrap_up (n := done.length + 1) (by omega) (by omega)
    rw [hw]
    have := ih (done ++ [c]) (wrap64 (c + 1)) (by rw [List.length_append, List.length_singleton]; omega)
    simpa only [seqI, endI, List.append_assoc, List.singleton_append] using this
theorem heldInt_ev (n : Nat) (c : Int) (hn : n ≤ 1048576) : Ev (fun k => laws_heldIntS.f k (seqI n c) c) (endI n c) := by
  unfold laws_heldIntS.f
  have := heldInt_loop n [] c (by simpa using hn)
  simpa only [List.nil_append, List.length_nil, Int.ofNat_eq_natCast, Int.natCast_zero] using this
theorem end1_pos (n : Nat) (hn : n ≤ 1048576) : ¬ endI n 1 < 0 := by rw [endI_at n 1 (by omega) (by omega)]; omega
end Go.Proofs.Ytaemfocjokkopaa.P
namespace Go.Proofs.Ytaemfocjokkopaa.P
open Go.RowKit Go.Proofs.YtaemfocjokkopaaW.PrintWords Go.Proofs.YtaemfocjokkopaaW.PrintLast Go.Proofs.YtaemfocjokkopaaW.PrintMore
set_option linter.unusedVariables false
set_option linter.unusedSimpArgs false

theorem endS_eq (n : Nat) : ∀ k, endS n k = endI n k := by
  induction n with
  | zero => intro k; rfl
  | succ n ih => intro k; simp only [endS, endI, ih]
theorem markSS_fst (l : List (List Int)) : ∀ (k : Int), (∀ s ∈ l, s.length ≤ 1048576) → 0 ≤ k → k + 1048576 * (l.length : Int) ≤ 2305843009213693952 → 0 ≤ (markSS l k).1 ∧ (markSS l k).1 ≤ k + 1048576 * (l.length : Int) := by
  induction l with
  | nil => intro k _ h0 h1; simp only [markSS, List.length_nil]; omega
  | cons s t ih =>
    intro k hs h0 h1
    have h2 := hs s (.head _)
    rw [List.length_cons] at h1 ⊢
    have e1 : endS s.length k = k + (s.length : Int) := by rw [endS_eq, endI_at s.length k h0 (by omega)]
    simp only [markSS, e1]
    have := ih (k + (s.length : Int)) (fun q hq => hs q (.tail _ hq)) (by omega) (by omega)
    omega
theorem markSpace_at (l : List (List Int)) (e : List S54) (k : Int) : laws_markSpace.f l e k = some ((mark2 e (markSS l k).1).1, (markSS l k).2, (mark2 e (markSS l k).1).2) := rfl
theorem markSpace_le (l : List (List Int)) (e : List S54) (h : modS l e) : 0 ≤ (mark2 e (markSS l 1).1).1 ∧ (mark2 e (markSS l 1).1).1 ≤ 1125899906842624 + 1125899906842624 := by
  have h1 := markSS_fst l 1 h.2.1 (by omega) (by have := h.1; omega)
  have h2 := h.1
  have h3 := h.2.2
  rw [mark2_fst e _ h1.1 (by omega)]
  omega
theorem markSpace_pos (l : List (List Int)) (e : List S54) (h : modS l e) : ¬ (mark2 e (markSS l 1).1).1 < 0 := by have := (markSpace_le l e h).1; omega
theorem markSpace_ex (l : List (List Int)) (e : List S54) (h : modS l e) : ∃ k a b, laws_markSpace.f l e 1 = some (k, a, b) ∧ ¬ k < 0 ∧ k ≤ 2251799813685248 := ⟨_, _, _, markSpace_at l e 1, markSpace_pos l e h, (markSpace_le l e h).2⟩
theorem markInt_held (l : List Int) (h : l.length ≤ 1048576) : ∃ k b n, laws_markIntS.f n l 1 = some (k, b) ∧ ∃ m, laws_heldIntS.f m b 1 = some k ∧ ¬ k < 0 := by
  obtain ⟨n, hn⟩ := Ev.rounds (markInt_ev l 1 h)
  obtain ⟨m, hm⟩ := Ev.rounds (heldInt_ev l.length 1 h)
  exact ⟨_, _, n, hn, m, hm, end1_pos _ h⟩
end Go.Proofs.Ytaemfocjokkopaa.P
namespace Go.Proofs.Ytaemfocjokkopaa.P
open Go.RowKit Go.Proofs.YtaemfocjokkopaaW.PrintWords Go.Proofs.YtaemfocjokkopaaW.PrintLast Go.Proofs.YtaemfocjokkopaaW.PrintMore
set_option linter.unusedVariables false
set_option maxHeartbeats 1000000 in
theorem Law_FnExactCutPlaces (A0_0 : Option Addr) (ca0_0 : Nat) (l0_0 : List (List Int)) (A0_1 : Option Addr) (ca0_1 : Nat) (l0_1 : List (S54)) (w : World) (hr0_0 : Kd.C (Kd.slice 3 (Kd.int .i64)) w A0_0 l0_0.length l0_0) (hc0_0 : l0_0.length ≤ ca0_0) (hr0_1 : Kd.C k54 w A0_1 l0_1.length l0_1) (hc0_1 : l0_1.length ≤ ca0_1) (w0_0 : FitLL l0_0) (w0_1 : FitP l0_1) :
    Calls Try.prog 3 #[.agg #[.slice A0_0 l0_0.length ca0_0, .slice A0_1 l0_1.length ca0_1]] w fun e w' => e = .returned (.bool true) ∧ Below w.heap.size w w' := by
  obtain ⟨t0, e0, m0⟩ := sz_space l0_0 l0_1 w0_0 w0_1.1
  obtain ⟨k0, h0⟩ := Ev.rounds e0
  by_cases c0 : t0 < 0
  · exact laws_FnExactCutPlaces.exit0 A0_0 ca0_0 l0_0 A0_1 ca0_1 l0_1 k0 t0 w hr0_0 hc0_0 hr0_1 hc0_1 c0 h0
  have hm0 := m0.resolve_left c0
  obtain ⟨q0, q1, es, ei, hb1⟩ := Both_FnExactCutPlaces l0_0 l0_1 w0_0 w0_1 hm0
  obtain ⟨k1, h1⟩ := Ev.rounds (toSpace_ev l0_0 l0_1 hm0)
  obtain ⟨k2, h2⟩ := Ev.rounds (es)
  obtain ⟨k3, h3⟩ := Ev.rounds (ei)
  obtain ⟨k4, h4⟩ := Ev.rounds (eqIntS_ev q0 hb1)
  obtain ⟨k5, h5⟩ := Ev.rounds (eqSpace_ev l0_0 l0_1 hm0)
  obtain ⟨kk0, mk0_0, mk0_1, h6, nkk0, pkk0⟩ := markSpace_ex l0_0 l0_1 hm0
  obtain ⟨kk1, mk1_0, k7, h7, k8, h8, nkk1⟩ := markInt_held q0 hb1
  exact laws_FnExactCutPlaces.walk A0_0 ca0_0 l0_0 A0_1 ca0_1 l0_1 k0 k1 k2 k3 k4 k5 k7 k8 t0 q0 q1 kk0 mk0_0 mk0_1 kk1 mk1_0 w hr0_0 hc0_0 hr0_1 hc0_1 c0 h0 h1 h2 h3 h4 h5 h6 h7 h8 nkk0 nkk1
end Go.Proofs.Ytaemfocjokkopaa.P
