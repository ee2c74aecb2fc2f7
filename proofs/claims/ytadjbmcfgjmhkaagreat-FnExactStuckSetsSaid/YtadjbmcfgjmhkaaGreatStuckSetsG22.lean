/- The lists of steps: both sides make the same rows, and each row is rising. -/
import Derived.Test.YtadjbmcfgjmhkaaGreatStuckSetsG16
import Derived.Test.YtadjbmcfgjmhkaaGreatStuckSetsG17
import Derived.Test.YtadjbmcfgjmhkaaGreatStuckSetsG19
import Derived.Test.YtadjbmcfgjmhkaaGreatStuckSetsG10
import Derived.Test.YtadjbmcfgjmhkaaGreatStuckSetsG21
import Derived.Test.YtadjbmcfgjmhkaaGreatStuckSetsG14
import Derived.Test.YtadjbmcfgjmhkaaGreatStuckSetsG20
import Derived.Test.YtadjbmcfgjmhkaaGreatStuckSetsG15
namespace Go.Proofs.YtadjbmcfgjmhkaaGreat.P
open Go.RowKit Go.Proofs.YtadjbmcfgjmhkaaGreatW.PrintWords Go.Proofs.YtadjbmcfgjmhkaaGreatW.PrintLast Go.Proofs.YtadjbmcfgjmhkaaGreatW.PrintMore
set_option linter.unusedVariables false
set_option linter.unusedSimpArgs false

abbrev PrT := S69
def rowsOf (n : Nat) (f : Int → List Int) : List (List Int) := (List.range n).map fun (i : Nat) => f i
theorem rowsOf_len (n : Nat) (f : Int → List Int) : (rowsOf n f).length = n := by simp [rowsOf]
theorem rowsOf_congr {n : Nat} {f g : Int → List Int} (h : ∀ i : Nat, i < n → f i = g i) : rowsOf n f = rowsOf n g := by
  unfold rowsOf
  exact List.map_congr_left fun i hi => h i (List.mem_range.1 hi)
theorem rowsOf_get {n : Nat} (f : Int → List Int) (i : Nat) (h : i < n) (h' : i < (rowsOf n f).length) : (rowsOf n f)[i] = f i := by simp [rowsOf]
theorem rowsOf_rd {n : Nat} (f : Int → List Int) {a : Int} (h0 : 0 ≤ a) (h1 : a < n) : rd_L2 (rowsOf n f) a = f a := by
  obtain ⟨i, rfl⟩ := Int.eq_ofNat_of_zero_le h0
  have hi : i < n := by omega
  unfold rd_L2
  rw [Int.toNat_natCast, List.getD_eq_getElem?_getD, List.getElem?_eq_getElem (by rw [rowsOf_len]; exact hi), Option.getD_some, rowsOf_get f i hi]
theorem rowsOf_set {n : Nat} (f : Int → List Int) {a : Int} (h0 : 0 ≤ a) (h1 : a < n) (x : List Int) : (rowsOf n f).set a.toNat x = rowsOf n (fun i => if i = a then x else f i) := by
  obtain ⟨i, rfl⟩ := Int.eq_ofNat_of_zero_le h0
  refine List.ext_getElem (by rw [List.length_set, rowsOf_len, rowsOf_len]) fun j hj hj' => ?_
  have hjn : j < n := by rw [rowsOf_len] at hj'; exact hj'
  rw [rowsOf_get _ j hjn]
  simp only [Int.toNat_natCast, List.getElem_set]
  by_cases h : i = j
  · subst h; rw [if_pos rfl, if_pos rfl]
  · rw [if_neg h, if_neg (by omega), rowsOf_get _ j hjn]
theorem rowsOf_nil (n : Nat) : List.replicate n ([] : List Int) = rowsOf n (fun _ => []) := by
  unfold rowsOf
  rw [List.map_const', List.length_range]
def pick0 (i : Int) (p : PrT) : Option Int := if p.f0 = i then some p.f1 else none
def pick1 (i : Int) (p : PrT) : Option Int := if p.f1 = i then some p.f0 else none
def pickL (i : Int) (p : PrT) : Option Int := if p.f0 = i then some p.f1 else if p.f1 = i then some p.f0 else none
def rowL (e : List PrT) (i : Int) : List Int := e.filterMap (pickL i)
theorem filterMap_take {α : Type} (f : PrT → Option α) (e : List PrT) (m : Nat) (hm : m < e.length) : (e.take (m + 1)).filterMap f = (e.take m).filterMap f ++ (f e[m]).toList := by
  rw [List.take_add_one, List.getElem?_eq_getElem hm, List.filterMap_append]
  cases h : f e[m] <;> simp [h]
theorem filterMap_le {α : Type} (f : PrT → Option α) (e : List PrT) (m : Nat) (he : e.length ≤ 1048576) : ((e.take m).filterMap f).length ≤ 1048576 := by
  have h1 := List.length_filterMap_le f (e.take m)
  have h2 := List.length_take_le m e
  have h3 : (e.take m).length ≤ e.length := by rw [List.length_take]; omega
  omega
theorem befP_transL {a b c : PrT} (h : befP a b = true) (k : befP b c = true) : befP a c = true := by
  unfold befP at *
  simp only [Bool.or_eq_true, Bool.and_eq_true, decide_eq_true_eq] at *
  omega
theorem goodP_pw (n : Int) (l : List PrT) : ∀ p, goodP n p l = true → l.Pairwise (fun a b => befP a b = true) ∧ (∀ q, p = some q → ∀ s ∈ l, befP q s = true) := by
  induction l with
  | nil => intro p h; exact ⟨.nil, fun q _ s hs => by cases hs⟩
  | cons x t ih =>
    intro p h
    simp only [goodP, Bool.and_eq_true, decide_eq_true_eq] at h
    obtain ⟨_, h4, h5⟩ := h
    obtain ⟨h1, h2⟩ := ih _ h5
    refine ⟨List.pairwise_cons.2 ⟨fun s hs => h2 x rfl s hs, h1⟩, fun q hq s hs => ?_⟩
    subst hq
    have hx : befP q x = true := h4
    rcases List.mem_cons.1 hs with rfl | hs
    · exact hx
    · exact befP_transL hx (h2 x rfl s hs)
/-- The rows of both passes, one behind the other, are the rows in the order of the steps. -/
theorem rowL_two (i : Int) (e : List PrT) : (∀ p ∈ e, p.f0 < p.f1) → e.Pairwise (fun a b => befP a b = true) → e.filterMap (pick1 i) ++ e.filterMap (pick0 i) = rowL e i := by
  induction e with
  | nil => intro _ _; rfl
  | cons p t ih =>
    intro hl hp
    obtain ⟨h1, h2⟩ := List.pairwise_cons.1 hp
    have ih' := ih (fun q hq => hl q (.tail _ hq)) h2
    have hpl := hl p (.head _)
    unfold rowL at ih' ⊢
    by_cases c0 : p.f0 = i
    · have e1 : pick1 i p = none := by unfold pick1; rw [if_neg (by omega)]
      have e0 : pick0 i p = some p.f1 := by unfold pick0; rw [if_pos c0]
      have eL : pickL i p = some p.f1 := by unfold pickL; rw [if_pos c0]
      have ht : t.filterMap (pick1 i) = [] := by
        rw [List.filterMap_eq_nil_iff]
        intro q hq
        have hb := h1 q hq
        have hq' := hl q (.tail _ hq)
        unfold befP at hb
        simp only [Bool.or_eq_true, Bool.and_eq_true, decide_eq_true_eq] at hb
        unfold pick1
        rw [if_neg (by omega)]
      rw [ht, List.nil_append] at ih'
      rw [List.filterMap_cons_none e1, List.filterMap_cons_some e0, List.filterMap_cons_some eL, ht, List.nil_append, ih']
    · have e0 : pick0 i p = none := by unfold pick0; rw [if_neg c0]
      by_cases c1 : p.f1 = i
      · have e1 : pick1 i p = some p.f0 := by unfold pick1; rw [if_pos c1]
        have eL : pickL i p = some p.f0 := by unfold pickL; rw [if_neg c0, if_pos c1]
        rw [List.filterMap_cons_some e1, List.filterMap_cons_none e0, List.filterMap_cons_some eL, List.cons_append, ih']
      · have e1 : pick1 i p = none := by unfold pick1; rw [if_neg c1]
        have eL : pickL i p = none := by unfold pickL; rw [if_neg c0, if_neg c1]
        rw [List.filterMap_cons_none e1, List.filterMap_cons_none e0, List.filterMap_cons_none eL, ih']
theorem rowL_rising (i : Int) (e : List PrT) (hl : ∀ p ∈ e, p.f0 < p.f1) (hp : e.Pairwise (fun a b => befP a b = true)) : (rowL e i).Pairwise (· < ·) := by
  have hp2 : e.Pairwise (fun a b => befP a b = true ∧ a.f0 < a.f1 ∧ b.f0 < b.f1) := by
    refine List.Pairwise.imp_of_mem (fun {a b} ha hb h => ⟨h, hl a ha, hl b hb⟩) hp
  refine List.Pairwise.filterMap _ (fun a b h x hx y hy => ?_) hp2
  obtain ⟨h, ha, hb⟩ := h
  unfold befP at h
  simp only [Bool.or_eq_true, Bool.and_eq_true, decide_eq_true_eq] at h
  unfold pickL at hx hy
  by_cases c0 : a.f0 = i
  · rw [if_pos c0] at hx
    by_cases d0 : b.f0 = i
    · rw [if_pos d0] at hy; simp at hx hy; omega
    · rw [if_neg d0] at hy
      by_cases d1 : b.f1 = i
      · rw [if_pos d1] at hy; simp at hx hy; omega
      · rw [if_neg d1] at hy; cases hy
  · rw [if_neg c0] at hx
    by_cases c1 : a.f1 = i
    · rw [if_pos c1] at hx
      by_cases d0 : b.f0 = i
      · rw [if_pos d0] at hy; simp at hx hy; omega
      · rw [if_neg d0] at hy
        by_cases d1 : b.f1 = i
        · rw [if_pos d1] at hy; simp at hx hy; omega
        · rw [if_neg d1] at hy; cases hy
    · rw [if_neg c1] at hx; cases hx
section
variable {l : List (List Int)} {e : List PrT} (he : e.length ≤ 1048576) (hg : ∀ p ∈ e, 0 ≤ p.f0 ∧ p.f0 < p.f1 ∧ p.f1 < (l.length : Int))
include he hg
theorem roads_loop (d : Nat) : ∀ (m : Nat), e.length - m = d → m ≤ e.length → Ev (fun k => impl_Space_roads.l0 k (rowsOf l.length (rowL (e.take m))) e (e.length : Int) (m : Int)) (rowsOf l.length (rowL e)) := by
  induction d with
  | zero =>
    intro m h0 h1
    refine Ev.step (fun k => by rw [impl_Space_roads.l0]) (Ev.neg (by omega) ?_)
    rw [List.take_of_length_le (by omega)]
    exact Ev.now _
  | succ d ih =>
    intro m h0 h1
    have hm : m < e.length := by omega
    have hp := hg e[m] (List.getElem_mem hm)
    have ihm := ih (m + 1) (by omega) (by omega)
    rw [← wrap_up hm (by omega)] at ihm
    refine Ev.step (fun k => by rw [impl_Space_roads.l0]) (Ev.pos (by omega) (Ev.pos (by omega) (Ev.pos (by omega) ?_)))
    rw [rdT_at e m hm, rowsOf_len, rowsOf_rd _ hp.1 (by omega), rowsOf_set _ hp.1 (by omega)]
    refine Ev.pos hp.1 (Ev.pos (by omega) (Ev.pos (by have := filterMap_le (pickL e[m].f0) e m he; unfold rowL; omega) (Ev.bindo rfl ?_)))
    rw [rowsOf_rd _ (by omega) hp.2.2, if_neg (by omega), rowsOf_set _ (by omega) hp.2.2]
    refine Ev.pos (by omega) (Ev.pos (by omega) (Ev.pos (by have := filterMap_le (pickL e[m].f1) e m he; unfold rowL; omega) ?_))
    rw [rowsOf_congr (g := rowL (e.take (m + 1))) (fun i hi => ?_)]
    · exact ihm
    · unfold rowL
      rw [filterMap_take (pickL i) e m hm]
      by_cases c1 : (i : Int) = e[m].f1
      · rw [if_pos c1, c1]
        unfold pickL
        rw [if_neg (by omega), if_pos rfl]
        rfl
      · rw [if_neg c1]
        by_cases c0 : (i : Int) = e[m].f0
        · rw [if_pos c0, c0]
          unfold pickL
          rw [if_pos rfl]
          rfl
        · rw [if_neg c0]
          have : pickL i e[m] = none := by unfold pickL; rw [if_neg (by omega), if_neg (by omega)]
          rw [this]
          simp
theorem lists_loop2 (d : Nat) : ∀ (m : Nat), e.length - m = d → m ≤ e.length → Ev (fun k => spec_l2Lists.l1 k (rowsOf l.length (fun i => e.filterMap (pick1 i) ++ (e.take m).filterMap (pick0 i))) (m : Int) l e) (rowsOf l.length (fun i => e.filterMap (pick1 i) ++ e.filterMap (pick0 i))) := by
  induction d with
  | zero =>
    intro m h0 h1
    refine Ev.step (fun k => by rw [spec_l2Lists.l1]) (Ev.neg (by omega) ?_)
    rw [List.take_of_length_le (by omega)]
    exact Ev.now _
  | succ d ih =>
    intro m h0 h1
    have hm : m < e.length := by omega
    have hp := hg e[m] (List.getElem_mem hm)
    have ihm := ih (m + 1) (by omega) (by omega)
    rw [← wrap_up hm (by omega)] at ihm
    refine Ev.step (fun k => by rw [spec_l2Lists.l1]) (Ev.pos (by omega) (Ev.pos (by omega) ?_))
    rw [rdT_at e m hm, rowsOf_len, rowsOf_rd _ hp.1 (by omega), rowsOf_set _ hp.1 (by omega)]
    refine Ev.pos hp.1 (Ev.pos (by omega) (Ev.pos ?_ ?_))
    · have h1 := filterMap_le (pick0 e[m].f0) e m he
      have h2 := filterMap_le (pick1 e[m].f0) e e.length he
      rw [List.take_length] at h2
      rw [List.length_append]
      omega
    rw [rowsOf_congr (g := fun i => e.filterMap (pick1 i) ++ (e.take (m + 1)).filterMap (pick0 i)) (fun i hi => ?_)]
    · exact ihm
    · rw [filterMap_take (pick0 i) e m hm]
      by_cases c0 : (i : Int) = e[m].f0
      · rw [if_pos c0, c0]
        unfold pick0
        rw [if_pos rfl, List.append_assoc]
        rfl
      · rw [if_neg c0]
        have : pick0 i e[m] = none := by unfold pick0; rw [if_neg (by omega)]
        rw [this]
        simp
theorem lists_loop1 {R : List (List Int)} (hR : Ev (fun k => spec_l2Lists.l1 k (rowsOf l.length (fun i => e.filterMap (pick1 i))) 0 l e) R) (d : Nat) : ∀ (m : Nat), e.length - m = d → m ≤ e.length → Ev (fun k => spec_l2Lists.l0 k (rowsOf l.length (fun i => (e.take m).filterMap (pick1 i))) (m : Int) l e) R := by
  induction d with
  | zero =>
    intro m h0 h1
    refine Ev.step (fun k => by rw [spec_l2Lists.l0]) (Ev.neg (by omega) ?_)
    rw [List.take_of_length_le (by omega)]
    exact hR
  | succ d ih =>
    intro m h0 h1
    have hm : m < e.length := by omega
    have hp := hg e[m] (List.getElem_mem hm)
    have ihm := ih (m + 1) (by omega) (by omega)
    rw [← wrap_up hm (by omega)] at ihm
    refine Ev.step (fun k => by rw [spec_l2Lists.l0]) (Ev.pos (by omega) (Ev.pos (by omega) ?_))
    rw [rdT_at e m hm, rowsOf_len, rowsOf_rd _ (by omega) hp.2.2, rowsOf_set _ (by omega) hp.2.2]
    refine Ev.pos (by omega) (Ev.pos (by omega) (Ev.pos (by have := filterMap_le (pick1 e[m].f1) e m he; omega) ?_))
    rw [rowsOf_congr (g := fun i => (e.take (m + 1)).filterMap (pick1 i)) (fun i hi => ?_)]
    · exact ihm
    · rw [filterMap_take (pick1 i) e m hm]
      by_cases c0 : (i : Int) = e[m].f1
      · rw [if_pos c0, c0]
        unfold pick1
        rw [if_pos rfl]
        rfl
      · rw [if_neg c0]
        have : pick1 i e[m] = none := by unfold pick1; rw [if_neg (by omega)]
        rw [this]
        simp
end
theorem sortL_self {l : List Int} (h : l.Pairwise (· < ·)) : sortL l = l := by
  unfold sortL
  exact List.mergeSort_of_pairwise (h.imp fun hab => by simp; omega)
theorem sortRows_self (z : List (List Int)) (h : ∀ s ∈ z, s.Pairwise (· < ·) ∧ s.length < 4611686018427387904) : sortRows z = some z := by
  induction z with
  | nil => rfl
  | cons s t ih =>
    have hs := h s (.head _)
    rw [sortRows, show slices_Sort_int_int.f s = some s from by unfold slices_Sort_int_int.f; rw [if_pos hs.2, sortL_self hs.1], Option.bind_some, ih (fun q hq => h q (.tail _ hq)), Option.bind_some]
section
variable (l : List (List Int)) (e : List PrT) (hm : modS l e) (hg : goodP (l.length : Int) none e = true)
include hm hg
/-- The rows of a space. -/
def roadsL (l : List (List Int)) (e : List PrT) : List (List Int) := rowsOf l.length (rowL e)
theorem roads_ev : Ev (fun k => impl_Space_roads.f k l e) (roadsL l e) := by
  have ha := goodP_all (l.length : Int) e none hg
  have hp := (goodP_pw (l.length : Int) e none hg).1
  have hl := roads_loop (l := l) hm.2.2 ha (e.length - 0) 0 rfl (Nat.zero_le _)
  unfold impl_Space_roads.f impl_Space_roads.g
  rw [show (fun k => ((if 0 ≤ (l.length : Int) then (if ((l.length : Int) : Int).toNat ≤ 11728124029610 then (impl_Space_roads.l0 k (List.replicate ((l.length : Int) : Int).toNat []) e (e.length : Int) 0) else (none)) else (none)).bind sortRows)) = fun k => ((impl_Space_roads.l0 k (List.replicate ((l.length : Int) : Int).toNat []) e (e.length : Int) 0).bind sortRows) from funext fun k => by rw [if_pos (by omega), if_pos (by have := hm.1; omega)]]
  rw [Int.toNat_natCast, rowsOf_nil]
  have e0 : rowL (e.take 0) = fun _ => [] := funext fun i => by simp [rowL]
  rw [e0] at hl
  refine Ev.bind hl (Ev.some ?_)
  refine sortRows_self _ fun s hs => ?_
  unfold roadsL rowsOf at *
  obtain ⟨i, _, rfl⟩ := List.mem_map.1 hs
  refine ⟨rowL_rising _ e (fun p hp => (ha p hp).2.1) hp, ?_⟩
  have := filterMap_le (pickL i) e e.length hm.2.2
  rw [List.take_length] at this
  unfold rowL
  omega
theorem lists_ev : Ev (fun k => spec_l2Lists.f k l e) (roadsL l e) := by
  have ha := goodP_all (l.length : Int) e none hg
  have hp := (goodP_pw (l.length : Int) e none hg).1
  have h2 := lists_loop2 (l := l) hm.2.2 ha (e.length - 0) 0 rfl (Nat.zero_le _)
  have e0 : (fun i => e.filterMap (pick1 i) ++ (e.take 0).filterMap (pick0 i)) = fun i => e.filterMap (pick1 i) := funext fun i => by simp
  rw [e0] at h2
  have h1 := lists_loop1 (l := l) hm.2.2 ha h2 (e.length - 0) 0 rfl (Nat.zero_le _)
  have e1 : (fun i => (e.take 0).filterMap (pick1 i)) = fun _ => [] := funext fun i => by simp
  rw [e1] at h1
  unfold spec_l2Lists.f
  refine Ev.pos (by omega) (Ev.pos (by have := hm.1; omega) ?_)
  rw [Int.toNat_natCast, rowsOf_nil]
  rw [show roadsL l e = rowsOf l.length (fun i => e.filterMap (pick1 i) ++ e.filterMap (pick0 i)) from rowsOf_congr fun i _ => (rowL_two i e (fun p hp => (ha p hp).2.1) hp).symm]
  exact h1
end
theorem roadsL_len (l : List (List Int)) (e : List PrT) : (roadsL l e).length = l.length := rowsOf_len _ _
end Go.Proofs.YtadjbmcfgjmhkaaGreat.P
namespace Go.Proofs.YtadjbmcfgjmhkaaGreat.P
open Go.RowKit Go.Proofs.YtadjbmcfgjmhkaaGreatW.PrintWords Go.Proofs.YtadjbmcfgjmhkaaGreatW.PrintLast Go.Proofs.YtadjbmcfgjmhkaaGreatW.PrintMore
set_option linter.unusedVariables false
set_option linter.unusedSimpArgs false

theorem goodP_of (n : Int) (l : List S69) : ∀ p, (∀ e ∈ l, 0 ≤ e.f0 ∧ e.f0 < e.f1 ∧ e.f1 < n) → l.Pairwise (fun a b => befP a b = true) → (∀ q, p = some q → ∀ s ∈ l, befP q s = true) → goodP n p l = true := by
  induction l with
  | nil => intro p _ _ _; rfl
  | cons x t ih =>
    intro p h1 h2 h3
    have h4 := h1 x (List.mem_cons_self ..)
    rw [List.pairwise_cons] at h2
    have h5 := ih (some x) (fun e he => h1 e (List.mem_cons_of_mem _ he)) h2.2 (fun q hq s hs => by injection hq with hq; subst hq; exact h2.1 s hs)
    simp only [goodP, Bool.and_eq_true, decide_eq_true_eq]
    refine ⟨⟨⟨h4.1, h4.2.1⟩, h4.2.2⟩, ?_, h5⟩
    cases p with
    | none => rfl
    | some q => exact h3 q rfl x (List.mem_cons_self ..)
theorem rowSteps_mem (st : List Int → List Int → Bool) (a : List Int) (i : Nat) (t : List (List Int)) : ∀ k, ∀ e ∈ rowSteps st a i k t, e.f0 = (i : Int) ∧ (k : Int) ≤ e.f1 ∧ e.f1 < ((k + t.length : Nat) : Int) := by
  induction t with
  | nil => intro k e he; cases he
  | cons b t ih =>
    intro k e he
    simp only [rowSteps, List.mem_append] at he
    rcases he with he | he
    · split at he
      · rw [List.mem_singleton] at he
        subst he
        exact ⟨rfl, Int.le_refl _, by rw [List.length_cons]; show (k : Int) < _; omega⟩
      · cases he
    · have := ih (k + 1) e he
      rw [List.length_cons]
      exact ⟨this.1, by omega, by omega⟩
theorem rowSteps_pw (st : List Int → List Int → Bool) (a : List Int) (i : Nat) (t : List (List Int)) : ∀ k, (rowSteps st a i k t).Pairwise (fun a b => a.f0 = b.f0 ∧ a.f1 < b.f1) := by
  induction t with
  | nil => intro k; exact .nil
  | cons b t ih =>
    intro k
    simp only [rowSteps]
    rw [List.pairwise_append]
    refine ⟨by split <;> simp, ih (k + 1), fun x hx y hy => ?_⟩
    have h2 := rowSteps_mem st a i t (k + 1) y hy
    split at hx
    · rw [List.mem_singleton] at hx
      subst hx
      exact ⟨h2.1.symm, by show (k : Int) < _; omega⟩
    · cases hx
theorem allSteps_mem (st : List Int → List Int → Bool) (t : List (List Int)) : ∀ i, ∀ e ∈ allSteps st i t, (i : Int) ≤ e.f0 ∧ e.f0 < e.f1 ∧ e.f1 < ((i + t.length : Nat) : Int) := by
  induction t with
  | nil => intro i e he; cases he
  | cons b t ih =>
    intro i e he
    simp only [allSteps, List.mem_append] at he
    rw [List.length_cons]
    rcases he with he | he
    · have := rowSteps_mem st b i t (i + 1) e he
      exact ⟨by omega, by omega, by omega⟩
    · have := ih (i + 1) e he
      exact ⟨by omega, by omega, by omega⟩
theorem allSteps_pw (st : List Int → List Int → Bool) (t : List (List Int)) : ∀ i, (allSteps st i t).Pairwise (fun a b => a.f0 < b.f0 ∨ (a.f0 = b.f0 ∧ a.f1 < b.f1)) := by
  induction t with
  | nil => intro i; exact .nil
  | cons b t ih =>
    intro i
    simp only [allSteps]
    rw [List.pairwise_append]
    refine ⟨(rowSteps_pw st b i t (i + 1)).imp fun h => .inr h, ih (i + 1), fun x hx y hy => .inl ?_⟩
    have h1 := rowSteps_mem st b i t (i + 1) x hx
    have h2 := allSteps_mem st t (i + 1) y hy
    omega
theorem allSteps_good (st : List Int → List Int → Bool) (t : List (List Int)) : goodP (t.length : Int) none (allSteps st 0 t) = true := by
  refine goodP_of _ _ _ (fun e he => ?_) ((allSteps_pw st t 0).imp fun {a b} h => ?_) (fun q hq => by cases hq)
  · have := allSteps_mem st t 0 e he
    exact ⟨by omega, by omega, by omega⟩
  · unfold befP
    rcases h with h | h
    · simp [h]
    · simp [h.1, h.2]
theorem tok_mod {n : Nat} (hn : n ≤ 8) (e : List S69) (lo hi kind : Int) : modS (freeS n e lo hi) (allSteps (stepS e kind) 0 (freeS n e lo hi)) := by
  have h2 := freeS_len hn e lo hi
  have h3 := allSteps_len (stepS e kind) (freeS n e lo hi) 0
  have h4 : (freeS n e lo hi).length * (freeS n e lo hi).length ≤ 256 * 256 := Nat.mul_le_mul h2 h2
  exact ⟨by omega, fun s hs => by have := len8 (freeS_8 hn hs); omega, by omega⟩
end Go.Proofs.YtadjbmcfgjmhkaaGreat.P
namespace Go.Proofs.YtadjbmcfgjmhkaaGreat.P
open Go.RowKit Go.Proofs.YtadjbmcfgjmhkaaGreatW.PrintWords Go.Proofs.YtadjbmcfgjmhkaaGreatW.PrintLast Go.Proofs.YtadjbmcfgjmhkaaGreatW.PrintMore
set_option linter.unusedVariables false
set_option linter.unusedSimpArgs false

theorem stuckR_mem (z : List (List Int)) : ∀ ls, ∀ s ∈ stuckR z ls, s ∈ ls := by
  induction z with
  | nil => intro ls s hs; simp [stuckR] at hs
  | cons a z ih =>
    intro ls s hs
    cases ls with
    | nil => simp [stuckR] at hs
    | cons b ls =>
      rw [stuckR, List.mem_append] at hs
      rcases hs with hs | hs
      · split at hs
        · rw [List.mem_singleton] at hs
          exact hs ▸ List.mem_cons_self ..
        · cases hs
      · exact List.mem_cons_of_mem _ (ih ls s hs)
theorem stuckR_len (z : List (List Int)) : ∀ ls, (stuckR z ls).length ≤ ls.length := by
  induction z with
  | nil => intro ls; simp [stuckR]
  | cons a z ih =>
    intro ls
    cases ls with
    | nil => simp [stuckR]
    | cons b ls =>
      have := ih ls
      rw [stuckR, List.length_append, List.length_cons]
      split <;> simp <;> omega
section
variable (z ls : List (List Int)) (e : List S69) (hl : z.length = ls.length) (hn : ls.length ≤ 1048576)
include hl hn
theorem spec_stuck (d : Nat) : ∀ (m : Nat) (acc : List (List Int)), ls.length - m = d → m ≤ ls.length → acc.length ≤ m → Ev (fun k => spec_StuckSets.l0 k acc z (m : Int) ls e) (acc ++ stuckR (z.drop m) (ls.drop m), true) := by
  induction d with
  | zero =>
    intro m acc h0 h1 h2
    rw [List.drop_eq_nil_of_le (show z.length ≤ m by omega), stuckR, List.append_nil]
    · refine Ev.step (fun k => by rw [spec_StuckSets.l0]) (Ev.neg (by omega) (Ev.now _))
    · intro a b c d h; cases h
  | succ d ih =>
    intro m acc h0 h1 h2
    have hm : m < ls.length := by omega
    have hmz : m < z.length := by omega
    refine Ev.step (fun k => by rw [spec_StuckSets.l0]) (Ev.pos (by omega) (Ev.pos (by omega) ?_))
    rw [rdL_at z m hmz, rdL_at ls m hm, wrap_up hm (by omega), List.drop_eq_getElem_cons hm, List.drop_eq_getElem_cons hmz, stuckR]
    by_cases c : z[m].length = 0
    · rw [if_pos c, ← List.append_assoc]
      refine Ev.pos (by omega) (Ev.pos (by omega) (Ev.pos (by omega) ?_))
      exact ih (m + 1) _ (by omega) (by omega) (by rw [List.length_append, List.length_singleton]; omega)
    · rw [if_neg c, List.nil_append]
      refine Ev.neg (by omega) ?_
      exact ih (m + 1) _ (by omega) (by omega) (by omega)
end
theorem Both_FnExactStuckSets (a0_0 : Int) (l0_1 : List S69) (a1 : Int) (w0_0 : (Lit.int .i64 a0_0).wf = true) (w0_1 : FitP l0_1) (w1 : (Lit.int .i64 a1).wf = true) (hn0 : l0_1.length ≤ 1048576) : ∃ (q0 : List (List Int)) (q1 : Bool), Ev (fun k => spec_StuckSets.f k a0_0 l0_1 a1) (q0, q1) ∧ Ev (fun k => impl_StuckSets.f k a0_0 l0_1 a1) (q0, q1) ∧ (q0.length ≤ 1048576 ∧ ∀ s ∈ q0, s.length ≤ 1048576) := by
  have hi := impl_SlideSpace_ev a0_0 l0_1 a1 hn0
  unfold tokR at hi
  by_cases c : (okG a0_0 l0_1 && (decide (0 ≤ a1) && decide (a1 ≤ 8))) = true
  · rw [if_pos c] at hi
    have hg := ((Bool.and_eq_true _ _).mp c).1
    have h1 := okG_all hg
    obtain ⟨n, rfl⟩ := Int.eq_ofNat_of_zero_le h1.1
    have hn : n ≤ 8 := by omega
    rw [Int.toNat_natCast] at hi
    have hm := tok_mod hn l0_1 a1 a1 0
    have hgo := allSteps_good (stepS l0_1 0) (freeS n l0_1 a1 a1)
    have hz := roadsL_len (freeS n l0_1 a1 a1) (allSteps (stepS l0_1 0) 0 (freeS n l0_1 a1 a1))
    refine ⟨stuckR (roadsL (freeS n l0_1 a1 a1) (allSteps (stepS l0_1 0) 0 (freeS n l0_1 a1 a1))) (freeS n l0_1 a1 a1), true, ?_, ?_, ?_, ?_⟩
    · unfold spec_StuckSets.f
      refine Ev.bindo rfl ?_
      refine Ev.bind (l3Ask_ev _ l0_1 a1 hn0) ?_
      refine Ev.pos c ?_
      refine Ev.bind (l3Sets_ev n hn l0_1 hn0 hg _ _) ?_
      refine Ev.bind (l3tok_ev n hn l0_1 hn0 _ _ _) ?_
      refine Ev.bind (lists_ev _ _ hm hgo) ?_
      have := spec_stuck _ _ (allSteps (stepS l0_1 0) 0 (freeS n l0_1 a1 a1)) hz hm.1 _ 0 [] rfl (Nat.zero_le _) (Nat.zero_le _)
      simpa only [List.nil_append, List.drop_zero, Int.natCast_zero] using this
    · unfold impl_StuckSets.f
      refine Ev.bind hi ?_
      refine Ev.pos rfl ?_
      refine Ev.bind (roads_ev _ _ hm hgo) ?_
      exact Ev.pos ⟨hz, hm.1⟩ (Ev.now _)
    · exact Nat.le_trans (stuckR_len _ _) hm.1
    · exact fun s hs => hm.2.1 s (stuckR_mem _ _ s hs)
  · rw [if_neg c] at hi
    refine ⟨[], false, ?_, ?_, Nat.zero_le _, fun s hs => by cases hs⟩
    · unfold spec_StuckSets.f
      refine Ev.bindo rfl ?_
      refine Ev.bind (l3Ask_ev _ l0_1 a1 hn0) ?_
      exact Ev.neg c (Ev.now _)
    · unfold impl_StuckSets.f
      refine Ev.bind hi ?_
      exact Ev.neg (by decide) (Ev.now _)
end Go.Proofs.YtadjbmcfgjmhkaaGreat.P
namespace Go.Proofs.YtadjbmcfgjmhkaaGreat.P
open Go.RowKit Go.Proofs.YtadjbmcfgjmhkaaGreatW.PrintWords Go.Proofs.YtadjbmcfgjmhkaaGreatW.PrintLast Go.Proofs.YtadjbmcfgjmhkaaGreatW.PrintMore
set_option linter.unusedVariables false
set_option maxHeartbeats 1000000 in
theorem Law_FnExactStuckSets (a0_0 : Int) (A0_1 : Option Addr) (ca0_1 : Nat) (l0_1 : List (S69)) (a1 : Int) (w : World) (hr0_1 : Kd.C k69 w A0_1 l0_1.length l0_1) (hc0_1 : l0_1.length ≤ ca0_1) (w0_0 : (Lit.int .i64 a0_0).wf = true) (w0_1 : FitP l0_1) (w1 : (Lit.int .i64 a1).wf = true) :
    Calls Tryz.prog 5 #[.agg #[.int .i64 a0_0, .slice A0_1 l0_1.length ca0_1], .int .i64 a1] w fun e w' => e = .returned (.bool true) ∧ Below w.heap.size w w' := by
  obtain ⟨t0, h0, m0⟩ := sz_graph a0_0 l0_1 w0_1.1
  by_cases c0 : t0 < 0
  · exact laws_FnExactStuckSets.exit0 a0_0 A0_1 ca0_1 l0_1 a1 t0 w hr0_1 hc0_1 c0 h0
  have hn0 := m0.resolve_left c0
  obtain ⟨q0, q1, es, ei, hb1⟩ := Both_FnExactStuckSets a0_0 l0_1 a1 w0_0 w0_1 w1 hn0
  obtain ⟨k1, h1⟩ := Ev.rounds (toGraph_ev a0_0 l0_1 hn0)
  obtain ⟨k2, h2⟩ := Ev.rounds (es)
  obtain ⟨k3, h3⟩ := Ev.rounds (ei)
  obtain ⟨k4, h4⟩ := Ev.rounds (eqIntSS_ev q0 hb1.1 hb1.2)
  obtain ⟨k5, h5⟩ := Ev.rounds (eqGraph_ev a0_0 l0_1 hn0)
  obtain ⟨kk0, mk0_0, h6, nkk0, pkk0⟩ := markGraph_ex a0_0 l0_1 hn0
  obtain ⟨kk1, mk1_0, h7, k8, h8, nkk1⟩ := markSS_held q0 hb1
  exact laws_FnExactStuckSets.walk a0_0 A0_1 ca0_1 l0_1 a1 k1 k2 k3 k4 k5 k8 t0 q0 q1 kk0 mk0_0 kk1 mk1_0 w hr0_1 hc0_1 c0 h0 h1 h2 h3 h4 h5 h6 h7 h8 nkk0 nkk1
end Go.Proofs.YtadjbmcfgjmhkaaGreat.P
