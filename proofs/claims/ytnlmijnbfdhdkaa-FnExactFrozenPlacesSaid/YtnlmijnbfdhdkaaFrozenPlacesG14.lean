/- The lists of steps: both sides make the same rows, and each row is rising. -/
import Derived.Test.YtnlmijnbfdhdkaaFrozenPlacesG13
import Derived.Test.YtnlmijnbfdhdkaaFrozenPlacesG10
import Derived.Test.YtnlmijnbfdhdkaaFrozenPlacesG11
import Derived.Test.YtnlmijnbfdhdkaaFrozenPlacesG12
import Derived.Test.YtnlmijnbfdhdkaaFrozenPlacesG9
namespace Go.Proofs.Ytnlmijnbfdhdkaa.P
open Go.RowKit Go.Proofs.YtnlmijnbfdhdkaaW.PrintWords Go.Proofs.YtnlmijnbfdhdkaaW.PrintLast Go.Proofs.YtnlmijnbfdhdkaaW.PrintMore
set_option linter.unusedVariables false
set_option linter.unusedSimpArgs false

abbrev PrT := S88
theorem okS_goodL {l : List (List Int)} {e : List PrT} (h : okS l e = true) : l.length ≤ 300 ∧ goodP (l.length : Int) none e = true := by
  unfold okS at h
  simp only [Bool.and_eq_true, decide_eq_true_eq] at h
  exact ⟨by omega, h.2.2⟩
def rowsOf (n : Nat) (f : Int → List Int) : List (List Int) := (List.range n).map fun (i : Nat) => f i
theorem rowsOf_len (n : Nat) (f : Int → List Int) : (rowsOf n f).length = n := by simp [rowsOf]
theorem rowsOf_congr {n : Nat} {f g : Int → List Int} (h : ∀ i : Nat, i < n → f i = g i) : rowsOf n f = rowsOf n g := by
  unfold rowsOf
  exact List.map_congr_left fun i hi => h i (List.mem_range.1 hi)
theorem rowsOf_get {n : Nat} (f : Int → List Int) (i : Nat) (h : i < n) (h' : i < (rowsOf n f).length) : (rowsOf n f)[i] = f i := by simp [rowsOf]
theorem rowsOf_rd {n : Nat} (f : Int → List Int) {a : Int} (h0 : 0 ≤ a) (h1 : a < n) : rd_L4 (rowsOf n f) a = f a := by
  obtain ⟨i, rfl⟩ := Int.eq_ofNat_of_zero_le h0
  have hi : i < n := by omega
  unfold rd_L4
  rw [Int.toNat_natCast, List.getD_eq_getElem?_getD, List.getElem?_eq_getElem (by rw [rowsOf_len]; exact hi), Option.getD_some, rowsOf_get f i hi]
theorem rowsOf_set {n : Nat} (f : Int → List Int) {a : Int} (h0 : 0 ≤ a) (h1 : a < n) (x : List Int) : (rowsOf n f).set a.toNat x = rowsOf n (fun i => if i = a then x else f i) := by
  obtain ⟨i, rfl⟩ := Int.eq_ofNat_of_zero_le h0
  refine List.ext_getElem (by rw [List.length_set, rowsOf_len, rowsOf_len]) fun j hj hj' => ?_
  have hjn : j < n := by rw [rowsOf_len] at hj'; exact hj'
  rw [rowsOf_get _ j hjn]
  simp only [Int.toNat_natCast, List.getElem_set]
  by_cases h : i = j
  · subst h; rw [if_pos rfl, if_pos rfl]
  · rw [if_neg h, if_neg (by omega), rowsOf_get _ j hjn]
theorem rowsOf_nil (n : Nat) : List.replicate n ([] : List Int) = rowsOf n (fun _ => []) := by
  unfold rowsOf
  rw [List.map_const', List.length_range]
def pick0 (i : Int) (p : PrT) : Option Int := if p.f0 = i then some p.f1 else none
def pick1 (i : Int) (p : PrT) : Option Int := if p.f1 = i then some p.f0 else none
def pickL (i : Int) (p : PrT) : Option Int := if p.f0 = i then some p.f1 else if p.f1 = i then some p.f0 else none
def rowL (e : List PrT) (i : Int) : List Int := e.filterMap (pickL i)
theorem filterMap_take {α : Type} (f : PrT → Option α) (e : List PrT) (m : Nat) (hm : m < e.length) : (e.take (m + 1)).filterMap f = (e.take m).filterMap f ++ (f e[m]).toList := by
  rw [List.take_add_one, List.getElem?_eq_getElem hm, List.filterMap_append]
  cases h : f e[m] <;> simp [h]
theorem filterMap_le {α : Type} (f : PrT → Option α) (e : List PrT) (m : Nat) (he : e.length ≤ 1048576) : ((e.take m).filterMap f).length ≤ 1048576 := by
  have h1 := List.length_filterMap_le f (e.take m)
  have h2 := List.length_take_le m e
  have h3 : (e.take m).length ≤ e.length := by rw [List.length_take]; omega
  omega
theorem befP_trans {a b c : PrT} (h : befP a b = true) (k : befP b c = true) : befP a c = true := by
  unfold befP at *
  simp only [Bool.or_eq_true, Bool.and_eq_true, decide_eq_true_eq] at *
  omega
theorem goodP_pw (n : Int) (l : List PrT) : ∀ p, goodP n p l = true → l.Pairwise (fun a b => befP a b = true) ∧ (∀ q, p = some q → ∀ s ∈ l, befP q s = true) := by
  induction l with
  | nil => intro p h; exact ⟨.nil, fun q _ s hs => by cases hs⟩
  | cons x t ih =>
    intro p h
    simp only [goodP, Bool.and_eq_true, decide_eq_true_eq] at h
    obtain ⟨_, h4, h5⟩ := h
    obtain ⟨h1, h2⟩ := ih _ h5
    refine ⟨List.pairwise_cons.2 ⟨fun s hs => h2 x rfl s hs, h1⟩, fun q hq s hs => ?_⟩
    subst hq
    have hx : befP q x = true := h4
    rcases List.mem_cons.1 hs with rfl | hs
    · exact hx
    · exact befP_trans hx (h2 x rfl s hs)
/-- The rows of both passes, one behind the other, are the rows in the order of the steps. -/
theorem rowL_two (i : Int) (e : List PrT) : (∀ p ∈ e, p.f0 < p.f1) → e.Pairwise (fun a b => befP a b = true) → e.filterMap (pick1 i) ++ e.filterMap (pick0 i) = rowL e i := by
  induction e with
  | nil => intro _ _; rfl
  | cons p t ih =>
    intro hl hp
    obtain ⟨h1, h2⟩ := List.pairwise_cons.1 hp
    have ih' := ih (fun q hq => hl q (.tail _ hq)) h2
    have hpl := hl p (.head _)
    unfold rowL at ih' ⊢
    by_cases c0 : p.f0 = i
    · have e1 : pick1 i p = none := by unfold pick1; rw [if_neg (by omega)]
      have e0 : pick0 i p = some p.f1 := by unfold pick0; rw [if_pos c0]
      have eL : pickL i p = some p.f1 := by unfold pickL; rw [if_pos c0]
      have ht : t.filterMap (pick1 i) = [] := by
        rw [List.filterMap_eq_nil_iff]
        intro q hq
        have hb := h1 q hq
        have hq' := hl q (.tail _ hq)
        unfold befP at hb
        simp only [Bool.or_eq_true, Bool.and_eq_true, decide_eq_true_eq] at hb
        unfold pick1
        rw [if_neg (by omega)]
      rw [ht, List.nil_append] at ih'
      rw [List.filterMap_cons_none e1, List.filterMap_cons_some e0, List.filterMap_cons_some eL, ht, List.nil_append, ih']
    · have e0 : pick0 i p = none := by unfold pick0; rw [if_neg c0]
      by_cases c1 : p.f1 = i
      · have e1 : pick1 i p = some p.f0 := by unfold pick1; rw [if_pos c1]
        have eL : pickL i p = some p.f0 := by unfold pickL; rw [if_neg c0, if_pos c1]
        rw [List.filterMap_cons_some e1, List.filterMap_cons_none e0, List.filterMap_cons_some eL, List.cons_append, ih']
      · have e1 : pick1 i p = none := by unfold pick1; rw [if_neg c1]
        have eL : pickL i p = none := by unfold pickL; rw [if_neg c0, if_neg c1]
        rw [List.filterMap_cons_none e1, List.filterMap_cons_none e0, List.filterMap_cons_none eL, ih']
theorem rowL_rising (i : Int) (e : List PrT) (hl : ∀ p ∈ e, p.f0 < p.f1) (hp : e.Pairwise (fun a b => befP a b = true)) : (rowL e i).Pairwise (· < ·) := by
  have hp2 : e.Pairwise (fun a b => befP a b = true ∧ a.f0 < a.f1 ∧ b.f0 < b.f1) := by
    refine List.Pairwise.imp_of_mem (fun {a b} ha hb h => ⟨h, hl a ha, hl b hb⟩) hp
  refine List.Pairwise.filterMap _ (fun a b h x hx y hy => ?_) hp2
  obtain ⟨h, ha, hb⟩ := h
  unfold befP at h
  simp only [Bool.or_eq_true, Bool.and_eq_true, decide_eq_true_eq] at h
  unfold pickL at hx hy
  by_cases c0 : a.f0 = i
  · rw [if_pos c0] at hx
    by_cases d0 : b.f0 = i
    · rw [if_pos d0] at hy; simp at hx hy; omega
    · rw [if_neg d0] at hy
      by_cases d1 : b.f1 = i
      · rw [if_pos d1] at hy; simp at hx hy; omega
      · rw [if_neg d1] at hy; cases hy
  · rw [if_neg c0] at hx
    by_cases c1 : a.f1 = i
    · rw [if_pos c1] at hx
      by_cases d0 : b.f0 = i
      · rw [if_pos d0] at hy; simp at hx hy; omega
      · rw [if_neg d0] at hy
        by_cases d1 : b.f1 = i
        · rw [if_pos d1] at hy; simp at hx hy; omega
        · rw [if_neg d1] at hy; cases hy
    · rw [if_neg c1] at hx; cases hx
section
variable {l : List (List Int)} {e : List PrT} (he : e.length ≤ 1048576) (hg : ∀ p ∈ e, 0 ≤ p.f0 ∧ p.f0 < p.f1 ∧ p.f1 < (l.length : Int))
include he hg
theorem roads_loop (d : Nat) : ∀ (m : Nat), e.length - m = d → m ≤ e.length → Ev (fun k => impl_Space_roads.l0 k (rowsOf l.length (rowL (e.take m))) e (e.length : Int) (m : Int)) (rowsOf l.length (rowL e)) := by
  induction d with
  | zero =>
    intro m h0 h1
    refine Ev.step (fun k => by rw [impl_Space_roads.l0]) (Ev.neg (by omega) ?_)
    rw [List.take_of_length_le (by omega)]
    exact Ev.now _
  | succ d ih =>
    intro m h0 h1
    have hm : m < e.length := by omega
    have hp := hg e[m] (List.getElem_mem hm)
    have ihm := ih (m + 1) (by omega) (by omega)
    rw [← wrap_up hm (by omega)] at ihm
    refine Ev.step (fun k => by rw [impl_Space_roads.l0]) (Ev.pos (by omega) (Ev.pos (by omega) (Ev.pos (by omega) ?_)))
    rw [rdT_at e m hm, rowsOf_len, rowsOf_rd _ hp.1 (by omega), rowsOf_set _ hp.1 (by omega)]
    refine Ev.pos hp.1 (Ev.pos (by omega) (Ev.pos (by have := filterMap_le (pickL e[m].f0) e m he; unfold rowL; omega) (Ev.bindo rfl ?_)))
    rw [rowsOf_rd _ (by omega) hp.2.2, if_neg (by omega), rowsOf_set _ (by omega) hp.2.2]
    refine Ev.pos (by omega) (Ev.pos (by omega) (Ev.pos (by have := filterMap_le (pickL e[m].f1) e m he; unfold rowL; omega) ?_))
    rw [rowsOf_congr (g := rowL (e.take (m + 1))) (fun i hi => ?_)]
    · exact ihm
    · unfold rowL
      rw [filterMap_take (pickL i) e m hm]
      by_cases c1 : (i : Int) = e[m].f1
      · rw [if_pos c1, c1]
        unfold pickL
        rw [if_neg (by omega), if_pos rfl]
        rfl
      · rw [if_neg c1]
        by_cases c0 : (i : Int) = e[m].f0
        · rw [if_pos c0, c0]
          unfold pickL
          rw [if_pos rfl]
          rfl
        · rw [if_neg c0]
          have : pickL i e[m] = none := by unfold pickL; rw [if_neg (by omega), if_neg (by omega)]
          rw [this]
          simp
theorem lists_loop2 (d : Nat) : ∀ (m : Nat), e.length - m = d → m ≤ e.length → Ev (fun k => spec_l2Lists.l1 k (rowsOf l.length (fun i => e.filterMap (pick1 i) ++ (e.take m).filterMap (pick0 i))) (m : Int) l e) (rowsOf l.length (fun i => e.filterMap (pick1 i) ++ e.filterMap (pick0 i))) := by
  induction d with
  | zero =>
    intro m h0 h1
    refine Ev.step (fun k => by rw [spec_l2Lists.l1]) (Ev.neg (by omega) ?_)
    rw [List.take_of_length_le (by omega)]
    exact Ev.now _
  | succ d ih =>
    intro m h0 h1
    have hm : m < e.length := by omega
    have hp := hg e[m] (List.getElem_mem hm)
    have ihm := ih (m + 1) (by omega) (by omega)
    rw [← wrap_up hm (by omega)] at ihm
    refine Ev.step (fun k => by rw [spec_l2Lists.l1]) (Ev.pos (by omega) (Ev.pos (by omega) ?_))
    rw [rdT_at e m hm, rowsOf_len, rowsOf_rd _ hp.1 (by omega), rowsOf_set _ hp.1 (by omega)]
    refine Ev.pos hp.1 (Ev.pos (by omega) (Ev.pos ?_ ?_))
    · have h1 := filterMap_le (pick0 e[m].f0) e m he
      have h2 := filterMap_le (pick1 e[m].f0) e e.length he
      rw [List.take_length] at h2
      rw [List.length_append]
      omega
    rw [rowsOf_congr (g := fun i => e.filterMap (pick1 i) ++ (e.take (m + 1)).filterMap (pick0 i)) (fun i hi => ?_)]
    · exact ihm
    · rw [filterMap_take (pick0 i) e m hm]
      by_cases c0 : (i : Int) = e[m].f0
      · rw [if_pos c0, c0]
        unfold pick0
        rw [if_pos rfl, List.append_assoc]
        rfl
      · rw [if_neg c0]
        have : pick0 i e[m] = none := by unfold pick0; rw [if_neg (by omega)]
        rw [this]
        simp
theorem lists_loop1 {R : List (List Int)} (hR : Ev (fun k => spec_l2Lists.l1 k (rowsOf l.length (fun i => e.filterMap (pick1 i))) 0 l e) R) (d : Nat) : ∀ (m : Nat), e.length - m = d → m ≤ e.length → Ev (fun k => spec_l2Lists.l0 k (rowsOf l.length (fun i => (e.take m).filterMap (pick1 i))) (m : Int) l e) R := by
  induction d with
  | zero =>
    intro m h0 h1
    refine Ev.step (fun k => by rw [spec_l2Lists.l0]) (Ev.neg (by omega) ?_)
    rw [List.take_of_length_le (by omega)]
    exact hR
  | succ d ih =>
    intro m h0 h1
    have hm : m < e.length := by omega
    have hp := hg e[m] (List.getElem_mem hm)
    have ihm := ih (m + 1) (by omega) (by omega)
    rw [← wrap_up hm (by omega)] at ihm
    refine Ev.step (fun k => by rw [spec_l2Lists.l0]) (Ev.pos (by omega) (Ev.pos (by omega) ?_))
    rw [rdT_at e m hm, rowsOf_len, rowsOf_rd _ (by omega) hp.2.2, rowsOf_set _ (by omega) hp.2.2]
    refine Ev.pos (by omega) (Ev.pos (by omega) (Ev.pos (by have := filterMap_le (pick1 e[m].f1) e m he; omega) ?_))
    rw [rowsOf_congr (g := fun i => (e.take (m + 1)).filterMap (pick1 i)) (fun i hi => ?_)]
    · exact ihm
    · rw [filterMap_take (pick1 i) e m hm]
      by_cases c0 : (i : Int) = e[m].f1
      · rw [if_pos c0, c0]
        unfold pick1
        rw [if_pos rfl]
        rfl
      · rw [if_neg c0]
        have : pick1 i e[m] = none := by unfold pick1; rw [if_neg (by omega)]
        rw [this]
        simp
end
theorem sortL_self {l : List Int} (h : l.Pairwise (· < ·)) : sortL l = l := by
  unfold sortL
  exact List.mergeSort_of_pairwise (h.imp fun hab => by simp; omega)
theorem sortRows_self (z : List (List Int)) (h : ∀ s ∈ z, s.Pairwise (· < ·) ∧ s.length < 4611686018427387904) : sortRows z = some z := by
  induction z with
  | nil => rfl
  | cons s t ih =>
    have hs := h s (.head _)
    rw [sortRows, show slices_Sort_int_int.f s = some s from by unfold slices_Sort_int_int.f; rw [if_pos hs.2, sortL_self hs.1], Option.bind_some, ih (fun q hq => h q (.tail _ hq)), Option.bind_some]
section
variable (l : List (List Int)) (e : List PrT) (hm : modS l e) (hg : goodP (l.length : Int) none e = true)
include hm hg
/-- The rows of a space. -/
def roadsL (l : List (List Int)) (e : List PrT) : List (List Int) := rowsOf l.length (rowL e)
theorem roads_ev : Ev (fun k => impl_Space_roads.f k l e) (roadsL l e) := by
  have ha := goodP_all (l.length : Int) e none hg
  have hp := (goodP_pw (l.length : Int) e none hg).1
  have hl := roads_loop (l := l) hm.2.2 ha (e.length - 0) 0 rfl (Nat.zero_le _)
  unfold impl_Space_roads.f impl_Space_roads.g
  rw [show (fun k => ((if 0 ≤ (l.length : Int) then (if ((l.length : Int) : Int).toNat ≤ 11728124029610 then (impl_Space_roads.l0 k (List.replicate ((l.length : Int) : Int).toNat []) e (e.length : Int) 0) else (none)) else (none)).bind sortRows)) = fun k => ((impl_Space_roads.l0 k (List.replicate ((l.length : Int) : Int).toNat []) e (e.length : Int) 0).bind sortRows) from funext fun k => by rw [if_pos (by omega), if_pos (by have := hm.1; omega)]]
  rw [Int.toNat_natCast, rowsOf_nil]
  have e0 : rowL (e.take 0) = fun _ => [] := funext fun i => by simp [rowL]
  rw [e0] at hl
  refine Ev.bind hl (Ev.some ?_)
  refine sortRows_self _ fun s hs => ?_
  unfold roadsL rowsOf at *
  obtain ⟨i, _, rfl⟩ := List.mem_map.1 hs
  refine ⟨rowL_rising _ e (fun p hp => (ha p hp).2.1) hp, ?_⟩
  have := filterMap_le (pickL i) e e.length hm.2.2
  rw [List.take_length] at this
  unfold rowL
  omega
theorem lists_ev : Ev (fun k => spec_l2Lists.f k l e) (roadsL l e) := by
  have ha := goodP_all (l.length : Int) e none hg
  have hp := (goodP_pw (l.length : Int) e none hg).1
  have h2 := lists_loop2 (l := l) hm.2.2 ha (e.length - 0) 0 rfl (Nat.zero_le _)
  have e0 : (fun i => e.filterMap (pick1 i) ++ (e.take 0).filterMap (pick0 i)) = fun i => e.filterMap (pick1 i) := funext fun i => by simp
  rw [e0] at h2
  have h1 := lists_loop1 (l := l) hm.2.2 ha h2 (e.length - 0) 0 rfl (Nat.zero_le _)
  have e1 : (fun i => (e.take 0).filterMap (pick1 i)) = fun _ => [] := funext fun i => by simp
  rw [e1] at h1
  unfold spec_l2Lists.f
  refine Ev.pos (by omega) (Ev.pos (by have := hm.1; omega) ?_)
  rw [Int.toNat_natCast, rowsOf_nil]
  rw [show roadsL l e = rowsOf l.length (fun i => e.filterMap (pick1 i) ++ e.filterMap (pick0 i)) from rowsOf_congr fun i _ => (rowL_two i e (fun p hp => (ha p hp).2.1) hp).symm]
  exact h1
end
theorem roadsL_len (l : List (List Int)) (e : List PrT) : (roadsL l e).length = l.length := rowsOf_len _ _
end Go.Proofs.Ytnlmijnbfdhdkaa.P
namespace Go.Proofs.Ytnlmijnbfdhdkaa.P
open Go.RowKit Go.Proofs.YtnlmijnbfdhdkaaW.PrintWords Go.Proofs.YtnlmijnbfdhdkaaW.PrintLast Go.Proofs.YtnlmijnbfdhdkaaW.PrintMore
set_option linter.unusedVariables false
set_option linter.unusedSimpArgs false

def frozG : List (List Int) → Nat → List Int
  | [], _ => []
  | s :: t, m => if s.length = 0 then (m : Int) :: frozG t (m + 1) else frozG t (m + 1)
theorem frozG_le (z : List (List Int)) : ∀ m, (frozG z m).length ≤ z.length := by
  induction z with
  | nil => intro m; exact Nat.le_refl _
  | cons s t ih =>
    intro m
    have := ih (m + 1)
    unfold frozG
    split
    · simp only [List.length_cons]; omega
    · simp only [List.length_cons]; omega
theorem sFroz_loop (z : List (List Int)) (hz : z.length ≤ 1048576) (d : Nat) : ∀ (m : Nat) (acc : List Int), z.length - m = d → m ≤ z.length → acc.length ≤ m → Ev (fun k => spec_FrozenPlaces.l0 k acc z (m : Int)) (acc ++ frozG (z.drop m) m, true) := by
  induction d with
  | zero =>
    intro m acc h0 h1 h2
    refine Ev.step (fun k => by rw [spec_FrozenPlaces.l0]) (Ev.neg (by omega) ?_)
    rw [List.drop_eq_nil_of_le (by omega), frozG, List.append_nil]
    exact Ev.now _
  | succ d ih =>
    intro m acc h0 h1 h2
    have hm : m < z.length := by omega
    refine Ev.step (fun k => by rw [spec_FrozenPlaces.l0]) (Ev.pos (by omega) (Ev.pos (by omega) ?_))
    rw [rdL_at z m hm, List.drop_eq_getElem_cons hm]
    unfold frozG
    by_cases c : z[m].length = 0
    · rw [if_pos c]
      refine Ev.pos (by omega) (Ev.pos (by omega) ?_)
      have := ih (m + 1) (acc ++ [(m : Int)]) (by omega) (by omega) (by simp; omega)
      rw [← wrap_up hm (by omega)] at this
      rw [List.append_assoc, List.singleton_append] at this
      exact this
    · rw [if_neg c]
      refine Ev.neg (by omega) ?_
      have := ih (m + 1) acc (by omega) (by omega) (by omega)
      rw [← wrap_up hm (by omega)] at this
      exact this
theorem iFroz_loop (z : List (List Int)) (hz : z.length ≤ 1048576) (d : Nat) : ∀ (m : Nat) (acc : List Int), z.length - m = d → m ≤ z.length → acc.length ≤ m → Ev (fun k => impl_FrozenPlaces.l0 k acc z (z.length : Int) (m : Int)) (acc ++ frozG (z.drop m) m, true) := by
  induction d with
  | zero =>
    intro m acc h0 h1 h2
    refine Ev.step (fun k => by rw [impl_FrozenPlaces.l0]) (Ev.neg (by omega) ?_)
    rw [List.drop_eq_nil_of_le (by omega), frozG, List.append_nil]
    exact Ev.now _
  | succ d ih =>
    intro m acc h0 h1 h2
    have hm : m < z.length := by omega
    refine Ev.step (fun k => by rw [impl_FrozenPlaces.l0]) (Ev.pos (by omega) (Ev.pos (by omega) (Ev.pos (by omega) ?_)))
    rw [rdL_at z m hm, List.drop_eq_getElem_cons hm]
    unfold frozG
    by_cases c : z[m].length = 0
    · rw [if_pos c]
      refine Ev.pos (by omega) (Ev.pos (by omega) ?_)
      have := ih (m + 1) (acc ++ [(m : Int)]) (by omega) (by omega) (by simp; omega)
      rw [← wrap_up hm (by omega)] at this
      rw [List.append_assoc, List.singleton_append] at this
      exact this
    · rw [if_neg c]
      refine Ev.neg (by omega) ?_
      have := ih (m + 1) acc (by omega) (by omega) (by omega)
      rw [← wrap_up hm (by omega)] at this
      exact this
theorem Both_FnExactFrozenPlaces (l0_0 : List (List Int)) (l0_1 : List S88) (w0_0 : FitLL l0_0) (w0_1 : FitP l0_1) (hm0 : modS l0_0 l0_1) : ∃ (q0 : List Int) (q1 : Bool), Ev (fun k => spec_FrozenPlaces.f k l0_0 l0_1) (q0, q1) ∧ Ev (fun k => impl_FrozenPlaces.f k l0_0 l0_1) (q0, q1) ∧ q0.length ≤ 1048576 := by
  by_cases h : okS l0_0 l0_1 = true
  · have hg := okS_goodL h
    have hl := roadsL_len l0_0 l0_1
    refine ⟨frozG (roadsL l0_0 l0_1) 0, true, ?_, ?_, ?_⟩
    · unfold spec_FrozenPlaces.f
      refine Ev.bindo rfl (Ev.bind (l2Space_ev l0_0 l0_1 hm0) ?_)
      rw [h]
      refine Ev.pos rfl (Ev.bind (lists_ev l0_0 l0_1 hm0 hg.2) ?_)
      exact sFroz_loop (roadsL l0_0 l0_1) (by rw [hl]; exact hm0.1) _ 0 [] rfl (Nat.zero_le _) (Nat.zero_le _)
    · unfold impl_FrozenPlaces.f
      refine Ev.bind (impl_IsSpace_ev l0_0 l0_1 hm0) ?_
      rw [h]
      refine Ev.pos rfl (Ev.bind (roads_ev l0_0 l0_1 hm0 hg.2) ?_)
      exact iFroz_loop (roadsL l0_0 l0_1) (by rw [hl]; exact hm0.1) _ 0 [] rfl (Nat.zero_le _) (Nat.zero_le _)
    · have := frozG_le (roadsL l0_0 l0_1) 0
      have := hm0.1
      omega
  · rw [Bool.not_eq_true] at h
    refine ⟨[], false, ?_, ?_, Nat.zero_le _⟩
    · unfold spec_FrozenPlaces.f
      refine Ev.bindo rfl (Ev.bind (l2Space_ev l0_0 l0_1 hm0) ?_)
      rw [h]
      exact Ev.neg (by decide) (Ev.now _)
    · unfold impl_FrozenPlaces.f
      refine Ev.bind (impl_IsSpace_ev l0_0 l0_1 hm0) ?_
      rw [h]
      exact Ev.neg (by decide) (Ev.now _)
end Go.Proofs.Ytnlmijnbfdhdkaa.P
namespace Go.Proofs.Ytnlmijnbfdhdkaa.P
open Go.RowKit Go.Proofs.YtnlmijnbfdhdkaaW.PrintWords Go.Proofs.YtnlmijnbfdhdkaaW.PrintLast Go.Proofs.YtnlmijnbfdhdkaaW.PrintMore
set_option linter.unusedVariables false
set_option linter.unusedSimpArgs false

def seqI : Nat → Int → List Int
  | 0, _ => []
  | n + 1, k => k :: seqI n (wrap64 (k + 1))
def endI : Nat → Int → Int
  | 0, k => k
  | n + 1, k => endI n (wrap64 (k + 1))
theorem seqI_len (n : Nat) : ∀ k, (seqI n k).length = n := by
  induction n with
  | zero => intro k; rfl
  | succ n ih => intro k; simp [seqI, ih]
theorem endI_at (n : Nat) : ∀ k, 0 ≤ k → k + (n : Int) ≤ 4611686018427387904 → endI n k = k + (n : Int) := by
  induction n with
  | zero => intro k h1 h2; simp [endI]
  | succ n ih =>
    intro k h1 h2
    have e1 : wrap64 (k + 1) = k + 1 := wrap_nat (by omega) (by omega)
    rw [endI, e1, ih (k + 1) (by omega) (by omega)]
    omega
theorem markInt_loop (d : Nat) : ∀ (done rest : List Int) (c : Int), rest.length = d → done.length + d ≤ 1048576 →
    Ev (fun k => laws_markIntS.l0 k (done ++ rest) c (done.length : Int)) (endI d c, done ++ seqI d c) := by
  induction d with
  | zero =>
    intro done rest c h0 h1
    refine Ev.step (fun k => by rw [laws_markIntS.l0]) ?_
    have : rest = [] := List.eq_nil_of_length_eq_zero h0
    subst this
    refine Ev.neg (by simp) ?_
    exact Ev.now _
  | succ d ih =>
    intro done rest c h0 h1
    obtain ⟨x, t, rfl⟩ : ∃ x t, rest = x :: t := by
      cases rest with
      | nil => simp at h0
      | cons x t => exact ⟨x, t, rfl⟩
    have h2 : t.length = d := by simpa using h0
    refine Ev.step (fun k => by rw [laws_markIntS.l0]) ?_
    refine Ev.pos (by simp; omega) (Ev.pos (by omega) ?_)
    have e : (done ++ x :: t).set ((done.length : Int)).toNat c = (done ++ [c]) ++ t := by
      rw [Int.toNat_natCast]
      simp
    have hw : wrap64 ((done.length : Int) + 1) = ((done ++ [c]).length : Int) := by
      rw [List.length_append, List.length_singleton]
      exact wrap_up (n := done.length + 1) (by omega) (by omega)
    rw [e, hw]
    have := ih (done ++ [c]) t (wrap64 (c + 1)) h2 (by rw [List.length_append, List.length_singleton]; omega)
    simpa only [seqI, endI, List.append_assoc, List.singleton_append] using this
theorem markInt_ev (l : List Int) (c : Int) (hl : l.length ≤ 1048576) : Ev (fun k => laws_markIntS.f k l c) (endI l.length c, seqI l.length c) := by
  unfold laws_markIntS.f
  have := markInt_loop l.length [] l c rfl (by simpa using hl)
  simpa only [List.nil_append, List.length_nil, Int.ofNat_eq_natCast, Int.natCast_zero] using this
theorem heldInt_loop (d : Nat) : ∀ (done : List Int) (c : Int), done.length + d ≤ 1048576 →
    Ev (fun k => laws_heldIntS.l0 k (done ++ seqI d c) c (done.length : Int)) (endI d c) := by
  induction d with
  | zero =>
    intro done c h1
    refine Ev.step (fun k => by rw [laws_heldIntS.l0]) ?_
    refine Ev.neg (by simp [seqI]) ?_
    exact Ev.now _
  | succ d ih =>
    intro done c h1
    refine Ev.step (fun k => by rw [laws_heldIntS.l0]) ?_
    have hlen : (done ++ seqI (d + 1) c).length = done.length + (d + 1) := by rw [List.length_append, seqI_len]
    refine Ev.pos (by rw [hlen]; omega) (Ev.pos (by omega) ?_)
    have hr : rd (done ++ seqI (d + 1) c) (done.length : Int) = c := by
      rw [rd_at _ _ (by rw [hlen]; omega)]
      simp [seqI]
    refine Ev.pos hr ?_
    have hw : wrap64 ((done.length : Int) + 1) = ((done ++ [c]).length : Int) := by
      rw [List.length_append, List.length_singleton]
      exact wrap_up (n := done.length + 1) (by omega) (by omega)
    rw [hw]
    have := ih (done ++ [c]) (wrap64 (c + 1)) (by rw [List.length_append, List.length_singleton]; omega)
    simpa only [seqI, endI, List.append_assoc, List.singleton_append] using this
theorem heldInt_ev (n : Nat) (c : Int) (hn : n ≤ 1048576) : Ev (fun k => laws_heldIntS.f k (seqI n c) c) (endI n c) := by
  unfold laws_heldIntS.f
  have := heldInt_loop n [] c (by simpa using hn)
  simpa only [List.nil_append, List.length_nil, Int.ofNat_eq_natCast, Int.natCast_zero] using this
theorem end1_pos (n : Nat) (hn : n ≤ 1048576) : ¬ endI n 1 < 0 := by rw [endI_at n 1 (by omega) (by omega)]; omega
end Go.Proofs.Ytnlmijnbfdhdkaa.P
namespace Go.Proofs.Ytnlmijnbfdhdkaa.P
open Go.RowKit Go.Proofs.YtnlmijnbfdhdkaaW.PrintWords Go.Proofs.YtnlmijnbfdhdkaaW.PrintLast Go.Proofs.YtnlmijnbfdhdkaaW.PrintMore
set_option linter.unusedVariables false
set_option linter.unusedSimpArgs false

theorem endS_eq (n : Nat) : ∀ k, endS n k = endI n k := by
  induction n with
  | zero => intro k; rfl
  | succ n ih => intro k; simp only [endS, endI, ih]
theorem markSS_fst (l : List (List Int)) : ∀ (k : Int), (∀ s ∈ l, s.length ≤ 1048576) → 0 ≤ k → k + 1048576 * (l.length : Int) ≤ 2305843009213693952 → 0 ≤ (markSS l k).1 ∧ (markSS l k).1 ≤ k + 1048576 * (l.length : Int) := by
  induction l with
  | nil => intro k _ h0 h1; simp only [markSS, List.length_nil]; omega
  | cons s t ih =>
    intro k hs h0 h1
    have h2 := hs s (.head _)
    rw [List.length_cons] at h1 ⊢
    have e1 : endS s.length k = k + (s.length : Int) := by rw [endS_eq, endI_at s.length k h0 (by omega)]
    simp only [markSS, e1]
    have := ih (k + (s.length : Int)) (fun q hq => hs q (.tail _ hq)) (by omega) (by omega)
    omega
theorem markSpace_at (l : List (List Int)) (e : List S88) (k : Int) : laws_markSpace.f l e k = some ((mark2 e (markSS l k).1).1, (markSS l k).2, (mark2 e (markSS l k).1).2) := rfl
theorem markSpace_le (l : List (List Int)) (e : List S88) (h : modS l e) : 0 ≤ (mark2 e (markSS l 1).1).1 ∧ (mark2 e (markSS l 1).1).1 ≤ 1125899906842624 + 1125899906842624 := by
  have h1 := markSS_fst l 1 h.2.1 (by omega) (by have := h.1; omega)
  have h2 := h.1
  have h3 := h.2.2
  rw [mark2_fst e _ h1.1 (by omega)]
  omega
theorem markSpace_pos (l : List (List Int)) (e : List S88) (h : modS l e) : ¬ (mark2 e (markSS l 1).1).1 < 0 := by have := (markSpace_le l e h).1; omega
theorem markSpace_ex (l : List (List Int)) (e : List S88) (h : modS l e) : ∃ k a b, laws_markSpace.f l e 1 = some (k, a, b) ∧ ¬ k < 0 ∧ k ≤ 2251799813685248 := ⟨_, _, _, markSpace_at l e 1, markSpace_pos l e h, (markSpace_le l e h).2⟩
theorem markInt_held (l : List Int) (h : l.length ≤ 1048576) : ∃ k b n, laws_markIntS.f n l 1 = some (k, b) ∧ ∃ m, laws_heldIntS.f m b 1 = some k ∧ ¬ k < 0 := by
  obtain ⟨n, hn⟩ := Ev.rounds (markInt_ev l 1 h)
  obtain ⟨m, hm⟩ := Ev.rounds (heldInt_ev l.length 1 h)
  exact ⟨_, _, n, hn, m, hm, end1_pos _ h⟩
end Go.Proofs.Ytnlmijnbfdhdkaa.P
namespace Go.Proofs.Ytnlmijnbfdhdkaa.P
open Go.RowKit Go.Proofs.YtnlmijnbfdhdkaaW.PrintWords Go.Proofs.YtnlmijnbfdhdkaaW.PrintLast Go.Proofs.YtnlmijnbfdhdkaaW.PrintMore
set_option linter.unusedVariables false
set_option maxHeartbeats 1000000 in
theorem Law_FnExactFrozenPlaces (A0_0 : Option Addr) (c0_0 : Nat) (l0_0 : List (List Int)) (A0_1 : Option Addr) (c0_1 : Nat) (l0_1 : List (S88)) (w : World) (hr0_0 : Kd.C (Kd.slice 3 (Kd.int .i64)) w A0_0 l0_0.length l0_0) (hc0_0 : l0_0.length ≤ c0_0) (hr0_1 : Kd.C k88 w A0_1 l0_1.length l0_1) (hc0_1 : l0_1.length ≤ c0_1) (w0_0 : FitLL l0_0) (w0_1 : FitP l0_1) :
    Calls Try.prog 10 #[.agg #[.slice A0_0 l0_0.length c0_0, .slice A0_1 l0_1.length c0_1]] w fun e w' => e = .returned (.bool true) ∧ Below w.heap.size w w' := by
  obtain ⟨t0, e0, m0⟩ := sz_space l0_0 l0_1 w0_0 w0_1.1
  obtain ⟨k0, h0⟩ := Ev.rounds e0
  by_cases c0 : t0 < 0
  · exact laws_FnExactFrozenPlaces.exit0 A0_0 c0_0 l0_0 A0_1 c0_1 l0_1 k0 t0 w hr0_0 hc0_0 hr0_1 hc0_1 c0 h0
  have hm0 := m0.resolve_left c0
  obtain ⟨q0, q1, es, ei, hb1⟩ := Both_FnExactFrozenPlaces l0_0 l0_1 w0_0 w0_1 hm0
  obtain ⟨k1, h1⟩ := Ev.rounds (toSpace_ev l0_0 l0_1 hm0)
  obtain ⟨k2, h2⟩ := Ev.rounds (es)
  obtain ⟨k3, h3⟩ := Ev.rounds (ei)
  obtain ⟨k4, h4⟩ := Ev.rounds (eqIntS_ev q0 hb1)
  obtain ⟨k5, h5⟩ := Ev.rounds (eqSpace_ev l0_0 l0_1 hm0)
  obtain ⟨kk0, mk0_0, mk0_1, h6, nkk0, pkk0⟩ := markSpace_ex l0_0 l0_1 hm0
  obtain ⟨kk1, mk1_0, k7, h7, k8, h8, nkk1⟩ := markInt_held q0 hb1
  exact laws_FnExactFrozenPlaces.walk A0_0 c0_0 l0_0 A0_1 c0_1 l0_1 k0 k1 k2 k3 k4 k5 k7 k8 t0 q0 q1 kk0 mk0_0 mk0_1 kk1 mk1_0 w hr0_0 hc0_0 hr0_1 hc0_1 c0 h0 h1 h2 h3 h4 h5 h6 h7 h8 nkk0 nkk1
end Go.Proofs.Ytnlmijnbfdhdkaa.P
