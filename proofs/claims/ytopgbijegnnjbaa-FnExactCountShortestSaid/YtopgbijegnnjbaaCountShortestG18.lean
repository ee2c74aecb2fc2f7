/- The lists of steps: both sides make the same rows, and each row is rising. -/
import Derived.Test.YtopgbijegnnjbaaCountShortestG16
import Derived.Test.YtopgbijegnnjbaaCountShortestG17
import Derived.Test.YtopgbijegnnjbaaCountShortestG12
import Derived.Test.YtopgbijegnnjbaaCountShortestG11
import Derived.Test.YtopgbijegnnjbaaCountShortestG13
namespace Go.Proofs.Ytopgbijegnnjbaa.P
open Go.RowKit Go.Proofs.YtopgbijegnnjbaaW.PrintWords Go.Proofs.YtopgbijegnnjbaaW.PrintLast Go.Proofs.YtopgbijegnnjbaaW.PrintMore
set_option linter.unusedVariables false
set_option linter.unusedSimpArgs false

abbrev PrT := S50
theorem okS_goodL {l : List (List Int)} {e : List PrT} (h : okS l e = true) : l.length ≤ 300 ∧ goodP (l.length : Int) none e = true := by
  unfold okS at h
  simp only [Bool.and_eq_true, decide_eq_true_eq] at h
  exact ⟨by omega, h.2.2⟩
def rowsOf (n : Nat) (f : Int → List Int) : List (List Int) := (List.range n).map fun (i : Nat) => f i
theorem rowsOf_len (n : Nat) (f : Int → List Int) : (rowsOf n f).length = n := by simp [rowsOf]
theorem rowsOf_congr {n : Nat} {f g : Int → List Int} (h : ∀ i : Nat, i < n → f i = g i) : rowsOf n f = rowsOf n g := by
  unfold rowsOf
  exact List.map_congr_left fun i hi => h i (List.mem_range.1 hi)
theorem rowsOf_get {n : Nat} (f : Int → List Int) (i : Nat) (h : i < n) (h' : i < (rowsOf n f).length) : (rowsOf n f)[i] = f i := by simp [rowsOf]
theorem rowsOf_rd {n : Nat} (f : Int → List Int) {a : Int} (h0 : 0 ≤ a) (h1 : a < n) : rd_L1 (rowsOf n f) a = f a := by
  obtain ⟨i, rfl⟩ := Int.eq_ofNat_of_zero_le h0
  have hi : i < n := by omega
  unfold rd_L1
  rw [Int.toNat_natCast, List.getD_eq_getElem?_getD, List.getElem?_eq_getElem (by rw [rowsOf_len]; exact hi), Option.getD_some, rowsOf_get f i hi]
theorem rowsOf_set {n : Nat} (f : Int → List Int) {a : Int} (h0 : 0 ≤ a) (h1 : a < n) (x : List Int) : (rowsOf n f).set a.toNat x = rowsOf n (fun i => if i = a then x else f i) := by
  obtain ⟨i, rfl⟩ := Int.eq_ofNat_of_zero_le h0
  refine List.ext_getElem (by rw [List.length_set, rowsOf_len, rowsOf_len]) fun j hj hj' => ?_
  have hjn : j < n := by rw [rowsOf_len] at hj'; exact hj'
  rw [rowsOf_get _ j hjn]
  simp only [Int.toNat_natCast, List.getElem_set]
  by_cases h : i = j
  · subst h; rw [if_pos rfl, if_pos rfl]
  · rw [if_neg h, if_neg (by omega), rowsOf_get _ j hjn]
theorem rowsOf_nil (n : Nat) : List.replicate n ([] : List Int) = rowsOf n (fun _ => []) := by
  unfold rowsOf
  rw [List.map_const', List.length_range]
def pick0 (i : Int) (p : PrT) : Option Int := if p.f0 = i then some p.f1 else none
def pick1 (i : Int) (p : PrT) : Option Int := if p.f1 = i then some p.f0 else none
def pickL (i : Int) (p : PrT) : Option Int := if p.f0 = i then some p.f1 else if p.f1 = i then some p.f0 else none
def rowL (e : List PrT) (i : Int) : List Int := e.filterMap (pickL i)
theorem filterMap_take {α : Type} (f : PrT → Option α) (e : List PrT) (m : Nat) (hm : m < e.length) : (e.take (m + 1)).filterMap f = (e.take m).filterMap f ++ (f e[m]).toList := by
  rw [List.take_add_one, List.getElem?_eq_getElem hm, List.filterMap_append]
  cases h : f e[m] <;> simp [h]
theorem filterMap_le {α : Type} (f : PrT → Option α) (e : List PrT) (m : Nat) (he : e.length ≤ 1048576) : ((e.take m).filterMap f).length ≤ 1048576 := by
  have h1 := List.length_filterMap_le f (e.take m)
  have h2 := List.length_take_le m e
  have h3 : (e.take m).length ≤ e.length := by rw [List.length_take]; omega
  omega
theorem befP_transL {a b c : PrT} (h : befP a b = true) (k : befP b c = true) : befP a c = true := by
  unfold befP at *
  simp only [Bool.or_eq_true, Bool.and_eq_true, decide_eq_true_eq] at *
  omega
theorem goodP_pw (n : Int) (l : List PrT) : ∀ p, goodP n p l = true → l.Pairwise (fun a b => befP a b = true) ∧ (∀ q, p = some q → ∀ s ∈ l, befP q s = true) := by
  induction l with
  | nil => intro p h; exact ⟨.nil, fun q _ s hs => by cases hs⟩
  | cons x t ih =>
    intro p h
    simp only [goodP, Bool.and_eq_true, decide_eq_true_eq] at h
    obtain ⟨_, h4, h5⟩ := h
    obtain ⟨h1, h2⟩ := ih _ h5
    refine ⟨List.pairwise_cons.2 ⟨fun s hs => h2 x rfl s hs, h1⟩, fun q hq s hs => ?_⟩
    subst hq
    have hx : befP q x = true := h4
    rcases List.mem_cons.1 hs with rfl | hs
    · exact hx
    · exact befP_transL hx (h2 x rfl s hs)
/-- The rows of both passes, one behind the other, are the rows in the order of the steps. -/
theorem rowL_two (i : Int) (e : List PrT) : (∀ p ∈ e, p.f0 < p.f1) → e.Pairwise (fun a b => befP a b = true) → e.filterMap (pick1 i) ++ e.filterMap (pick0 i) = rowL e i := by
  induction e with
  | nil => intro _ _; rfl
  | cons p t ih =>
    intro hl hp
    obtain ⟨h1, h2⟩ := List.pairwise_cons.1 hp
    have ih' := ih (fun q hq => hl q (.tail _ hq)) h2
    have hpl := hl p (.head _)
    unfold rowL at ih' ⊢
    by_cases c0 : p.f0 = i
    · have e1 : pick1 i p = none := by unfold pick1; rw [if_neg (by omega)]
      have e0 : pick0 i p = some p.f1 := by unfold pick0; rw [if_pos c0]
      have eL : pickL i p = some p.f1 := by unfold pickL; rw [if_pos c0]
      have ht : t.filterMap (pick1 i) = [] := by
        rw [List.filterMap_eq_nil_iff]
        intro q hq
        have hb := h1 q hq
        have hq' := hl q (.tail _ hq)
        unfold befP at hb
        simp only [Bool.or_eq_true, Bool.and_eq_true, decide_eq_true_eq] at hb
        unfold pick1
        rw [if_neg (by omega)]
      rw [ht, List.nil_append] at ih'
      rw [List.filterMap_cons_none e1, List.filterMap_cons_some e0, List.filterMap_cons_some eL, ht, List.nil_append, ih']
    · have e0 : pick0 i p = none := by unfold pick0; rw [if_neg c0]
      by_cases c1 : p.f1 = i
      · have e1 : pick1 i p = some p.f0 := by unfold pick1; rw [if_pos c1]
        have eL : pickL i p = some p.f0 := by unfold pickL; rw [if_neg c0, if_pos c1]
        rw [List.filterMap_cons_some e1, List.filterMap_cons_none e0, List.filterMap_cons_some eL, List.cons_append, ih']
      · have e1 : pick1 i p = none := by unfold pick1; rw [if_neg c1]
        have eL : pickL i p = none := by unfold pickL; rw [if_neg c0, if_neg c1]
        rw [List.filterMap_cons_none e1, List.filterMap_cons_none e0, List.filterMap_cons_none eL, ih']
theorem rowL_rising (i : Int) (e : List PrT) (hl : ∀ p ∈ e, p.f0 < p.f1) (hp : e.Pairwise (fun a b => befP a b = true)) : (rowL e i).Pairwise (· < ·) := by
  have hp2 : e.Pairwise (fun a b => befP a b = true ∧ a.f0 < a.f1 ∧ b.f0 < b.f1) := by
    refine List.Pairwise.imp_of_mem (fun {a b} ha hb h => ⟨h, hl a ha, hl b hb⟩) hp
  refine List.Pairwise.filterMap _ (fun a b h x hx y hy => ?_) hp2
  obtain ⟨h, ha, hb⟩ := h
  unfold befP at h
  simp only [Bool.or_eq_true, Bool.and_eq_true, decide_eq_true_eq] at h
  unfold pickL at hx hy
  by_cases c0 : a.f0 = i
  · rw [if_pos c0] at hx
    by_cases d0 : b.f0 = i
    · rw [if_pos d0] at hy; simp at hx hy; omega
    · rw [if_neg d0] at hy
      by_cases d1 : b.f1 = i
      · rw [if_pos d1] at hy; simp at hx hy; omega
      · rw [if_neg d1] at hy; cases hy
  · rw [if_neg c0] at hx
    by_cases c1 : a.f1 = i
    · rw [if_pos c1] at hx
      by_cases d0 : b.f0 = i
      · rw [if_pos d0] at hy; simp at hx hy; omega
      · rw [if_neg d0] at hy
        by_cases d1 : b.f1 = i
        · rw [if_pos d1] at hy; simp at hx hy; omega
        · rw [if_neg d1] at hy; cases hy
    · rw [if_neg c1] at hx; cases hx
section
variable {l : List (List Int)} {e : List PrT} (he : e.length ≤ 1048576) (hg : ∀ p ∈ e, 0 ≤ p.f0 ∧ p.f0 < p.f1 ∧ p.f1 < (l.length : Int))
include he hg
theorem roads_loop (d : Nat) : ∀ (m : Nat), e.length - m = d → m ≤ e.length → Ev (fun k => impl_Space_roads.l0 k (rowsOf l.length (rowL (e.take m))) e (e.length : Int) (m : Int)) (rowsOf l.length (rowL e)) := by
  induction d with
  | zero =>
    intro m h0 h1
    refine Ev.step (fun k => by rw [impl_Space_roads.l0]) (Ev.neg (by omega) ?_)
    rw [List.take_of_length_le (by omega)]
    exact Ev.now _
  | succ d ih =>
    intro m h0 h1
    have hm : m < e.length := by omega
    have hp := hg e[m] (List.getElem_mem hm)
    have ihm := ih (m + 1) (by omega) (by omega)
    rw [← wrap_up hm (by omega)] at ihm
    refine Ev.step (fun k => by rw [impl_Space_roads.l0]) (Ev.pos (by omega) (Ev.pos (by omega) (Ev.pos (by omega) ?_)))
    rw [rdT_at e m hm, rowsOf_len, rowsOf_rd _ hp.1 (by omega), rowsOf_set _ hp.1 (by omega)]
    refine Ev.pos hp.1 (Ev.pos (by omega) (Ev.pos (by have := filterMap_le (pickL e[m].f0) e m he; unfold rowL; omega) (Ev.bindo rfl ?_)))
    rw [rowsOf_rd _ (by omega) hp.2.2, if_neg (by omega), rowsOf_set _ (by omega) hp.2.2]
    refine Ev.pos (by omega) (Ev.pos (by omega) (Ev.pos (by have := filterMap_le (pickL e[m].f1) e m he; unfold rowL; omega) ?_))
    rw [rowsOf_congr (g := rowL (e.take (m + 1))) (fun i hi => ?_)]
    · exact ihm
    · unfold rowL
      rw [filterMap_take (pickL i) e m hm]
      by_cases c1 : (i : Int) = e[m].f1
      · rw [if_pos c1, c1]
        unfold pickL
        rw [if_neg (by omega), if_pos rfl]
        rfl
      · rw [if_neg c1]
        by_cases c0 : (i : Int) = e[m].f0
        · rw [if_pos c0, c0]
          unfold pickL
          rw [if_pos rfl]
          rfl
        · rw [if_neg c0]
          have : pickL i e[m] = none := by unfold pickL; rw [if_neg (by omega), if_neg (by omega)]
          rw [this]
          simp
theorem lists_loop2 (d : Nat) : ∀ (m : Nat), e.length - m = d → m ≤ e.length → Ev (fun k => spec_l2Lists.l1 k (rowsOf l.length (fun i => e.filterMap (pick1 i) ++ (e.take m).filterMap (pick0 i))) (m : Int) l e) (rowsOf l.length (fun i => e.filterMap (pick1 i) ++ e.filterMap (pick0 i))) := by
  induction d with
  | zero =>
    intro m h0 h1
    refine Ev.step (fun k => by rw [spec_l2Lists.l1]) (Ev.neg (by omega) ?_)
    rw [List.take_of_length_le (by omega)]
    exact Ev.now _
  | succ d ih =>
    intro m h0 h1
    have hm : m < e.length := by omega
    have hp := hg e[m] (List.getElem_mem hm)
    have ihm := ih (m + 1) (by omega) (by omega)
    rw [← wrap_up hm (by omega)] at ihm
    refine Ev.step (fun k => by rw [spec_l2Lists.l1]) (Ev.pos (by omega) (Ev.pos (by omega) ?_))
    rw [rdT_at e m hm, rowsOf_len, rowsOf_rd _ hp.1 (by omega), rowsOf_set _ hp.1 (by omega)]
    refine Ev.pos hp.1 (Ev.pos (by omega) (Ev.pos ?_ ?_))
    · have h1 := filterMap_le (pick0 e[m].f0) e m he
      have h2 := filterMap_le (pick1 e[m].f0) e e.length he
      rw [List.take_length] at h2
      rw [List.length_append]
      omega
    rw [rowsOf_congr (g := fun i => e.filterMap (pick1 i) ++ (e.take (m + 1)).filterMap (pick0 i)) (fun i hi => ?_)]
    · exact ihm
    · rw [filterMap_take (pick0 i) e m hm]
      by_cases c0 : (i : Int) = e[m].f0
      · rw [if_pos c0, c0]
        unfold pick0
        rw [if_pos rfl, List.append_assoc]
        rfl
      · rw [if_neg c0]
        have : pick0 i e[m] = none := by unfold pick0; rw [if_neg (by omega)]
        rw [this]
        simp
theorem lists_loop1 {R : List (List Int)} (hR : Ev (fun k => spec_l2Lists.l1 k (rowsOf l.length (fun i => e.filterMap (pick1 i))) 0 l e) R) (d : Nat) : ∀ (m : Nat), e.length - m = d → m ≤ e.length → Ev (fun k => spec_l2Lists.l0 k (rowsOf l.length (fun i => (e.take m).filterMap (pick1 i))) (m : Int) l e) R := by
  induction d with
  | zero =>
    intro m h0 h1
    refine Ev.step (fun k => by rw [spec_l2Lists.l0]) (Ev.neg (by omega) ?_)
    rw [List.take_of_length_le (by omega)]
    exact hR
  | succ d ih =>
    intro m h0 h1
    have hm : m < e.length := by omega
    have hp := hg e[m] (List.getElem_mem hm)
    have ihm := ih (m + 1) (by omega) (by omega)
    rw [← wrap_up hm (by omega)] at ihm
    refine Ev.step (fun k => by rw [spec_l2Lists.l0]) (Ev.pos (by omega) (Ev.pos (by omega) ?_))
    rw [rdT_at e m hm, rowsOf_len, rowsOf_rd _ (by omega) hp.2.2, rowsOf_set _ (by omega) hp.2.2]
    refine Ev.pos (by omega) (Ev.pos (by omega) (Ev.pos (by have := filterMap_le (pick1 e[m].f1) e m he; omega) ?_))
    rw [rowsOf_congr (g := fun i => (e.take (m + 1)).filterMap (pick1 i)) (fun i hi => ?_)]
    · exact ihm
    · rw [filterMap_take (pick1 i) e m hm]
      by_cases c0 : (i : Int) = e[m].f1
      · rw [if_pos c0, c0]
        unfold pick1
        rw [if_pos rfl]
        rfl
      · rw [if_neg c0]
        have : pick1 i e[m] = none := by unfold pick1; rw [if_neg (by omega)]
        rw [this]
        simp
end
theorem sortL_self {l : List Int} (h : l.Pairwise (· < ·)) : sortL l = l := by
  unfold sortL
  exact List.mergeSort_of_pairwise (h.imp fun hab => by simp; omega)
theorem sortRows_self (z : List (List Int)) (h : ∀ s ∈ z, s.Pairwise (· < ·) ∧ s.length < 4611686018427387904) : sortRows z = some z := by
  induction z with
  | nil => rfl
  | cons s t ih =>
    have hs := h s (.head _)
    rw [sortRows, show slices_Sort_int_int.f s = some s from by unfold slices_Sort_int_int.f; rw [if_pos hs.2, sortL_self hs.1], Option.bind_some, ih (fun q hq => h q (.tail _ hq)), Option.bind_some]
section
variable (l : List (List Int)) (e : List PrT) (hm : modS l e) (hg : goodP (l.length : Int) none e = true)
include hm hg
/-- The rows of a space. -/
def roadsL (l : List (List Int)) (e : List PrT) : List (List Int) := rowsOf l.length (rowL e)
theorem roads_ev : Ev (fun k => impl_Space_roads.f k l e) (roadsL l e) := by
  have ha := goodP_all (l.length : Int) e none hg
  have hp := (goodP_pw (l.length : Int) e none hg).1
  have hl := roads_loop (l := l) hm.2.2 ha (e.length - 0) 0 rfl (Nat.zero_le _)
  unfold impl_Space_roads.f impl_Space_roads.g
  rw [show (fun k => ((if 0 ≤ (l.length : Int) then (if ((l.length : Int) : Int).toNat ≤ 11728124029610 then (impl_Space_roads.l0 k (List.replicate ((l.length : Int) : Int).toNat []) e (e.length : Int) 0) else (none)) else (none)).bind sortRows)) = fun k => ((impl_Space_roads.l0 k (List.replicate ((l.length : Int) : Int).toNat []) e (e.length : Int) 0).bind sortRows) from funext fun k => by rw [if_pos (by omega), if_pos (by have := hm.1; omega)]]
  rw [Int.toNat_natCast, rowsOf_nil]
  have e0 : rowL (e.take 0) = fun _ => [] := funext fun i => by simp [rowL]
  rw [e0] at hl
  refine Ev.bind hl (Ev.some ?_)
  refine sortRows_self _ fun s hs => ?_
  unfold roadsL rowsOf at *
  obtain ⟨i, _, rfl⟩ := List.mem_map.1 hs
  refine ⟨rowL_rising _ e (fun p hp => (ha p hp).2.1) hp, ?_⟩
  have := filterMap_le (pickL i) e e.length hm.2.2
  rw [List.take_length] at this
  unfold rowL
  omega
theorem lists_ev : Ev (fun k => spec_l2Lists.f k l e) (roadsL l e) := by
  have ha := goodP_all (l.length : Int) e none hg
  have hp := (goodP_pw (l.length : Int) e none hg).1
  have h2 := lists_loop2 (l := l) hm.2.2 ha (e.length - 0) 0 rfl (Nat.zero_le _)
  have e0 : (fun i => e.filterMap (pick1 i) ++ (e.take 0).filterMap (pick0 i)) = fun i => e.filterMap (pick1 i) := funext fun i => by simp
  rw [e0] at h2
  have h1 := lists_loop1 (l := l) hm.2.2 ha h2 (e.length - 0) 0 rfl (Nat.zero_le _)
  have e1 : (fun i => (e.take 0).filterMap (pick1 i)) = fun _ => [] := funext fun i => by simp
  rw [e1] at h1
  unfold spec_l2Lists.f
  refine Ev.pos (by omega) (Ev.pos (by have := hm.1; omega) ?_)
  rw [Int.toNat_natCast, rowsOf_nil]
  rw [show roadsL l e = rowsOf l.length (fun i => e.filterMap (pick1 i) ++ e.filterMap (pick0 i)) from rowsOf_congr fun i _ => (rowL_two i e (fun p hp => (ha p hp).2.1) hp).symm]
  exact h1
end
theorem roadsL_len (l : List (List Int)) (e : List PrT) : (roadsL l e).length = l.length := rowsOf_len _ _
theorem rowL_le (e : List PrT) (i : Int) : (rowL e i).length ≤ e.length := List.length_filterMap_le _ _
end Go.Proofs.Ytopgbijegnnjbaa.P
namespace Go.Proofs.Ytopgbijegnnjbaa.P
open Go.RowKit Go.Proofs.YtopgbijegnnjbaaW.PrintWords Go.Proofs.YtopgbijegnnjbaaW.PrintLast Go.Proofs.YtopgbijegnnjbaaW.PrintMore
set_option linter.unusedVariables false
set_option linter.unusedSimpArgs false

theorem rd_set (l : List Int) (j k : Int) (v : Int) (h : j.toNat < l.length) : rd (l.set j.toNat v) k = if k.toNat = j.toNat then v else rd l k := by
  unfold rd
  rw [List.getD_eq_getElem?_getD, List.getD_eq_getElem?_getD, List.getElem?_set]
  by_cases c : j.toNat = k.toNat
  · rw [if_pos c, if_pos c.symm, if_pos h, Option.getD_some]
  · rw [if_neg c, if_neg (Ne.symm c)]
def negs (l : List Int) : Nat := l.countP fun x => decide (x < 0)
theorem negs_set (l : List Int) (j : Int) (v : Int) (h : j.toNat < l.length) (hj : rd l j < 0) (hv : 0 ≤ v) : negs (l.set j.toNat v) + 1 = negs l := by
  have e1 : rd l j = l[j.toNat] := by unfold rd; rw [List.getD_eq_getElem?_getD, List.getElem?_eq_getElem h, Option.getD_some]
  rw [e1] at hj
  unfold negs
  rw [List.countP_set h]
  have hp : 0 < l.countP (fun x => decide (x < 0)) := List.countP_pos_iff.2 ⟨_, List.getElem_mem h, decide_eq_true hj⟩
  rw [if_pos (decide_eq_true hj), if_neg (by simp; omega)]
  omega
/-- A set of places that no row leads out of. -/
def closedZ (z : List (List Int)) (P : Int → Prop) : Prop := ∀ i, 0 ≤ i → i < (z.length : Int) → P i → ∀ j ∈ rd_L1 z i, P j
/-- Each row holds places. -/
def okZ (z : List (List Int)) : Prop := ∀ i, 0 ≤ i → i < (z.length : Int) → ∀ j ∈ rd_L1 z i, 0 ≤ j ∧ j < (z.length : Int)
section
variable {z : List (List Int)} (hz : okZ z) (hn : z.length ≤ 1048576) (hr : ∀ i, (rd_L1 z i).length ≤ 1048576)
include hn
theorem spread_inner {row : List Int} (hrow : ∀ j ∈ row, 0 ≤ j ∧ j < (z.length : Int)) (hrl : row.length ≤ 1048576) (i : Int) (hi : 0 ≤ i ∧ i < (z.length : Int)) (h : Nat) (d : Nat) :
    ∀ (m : Nat) (out Q : List Int), row.length - m = d → m ≤ row.length → out.length = z.length → h < Q.length → rd Q (h : Int) = i → 0 ≤ rd out i → (∀ k, rd out k < (Q.length : Int)) → negs out + Q.length ≤ 1048576 →
    ∃ (out' new : List Int), out'.length = z.length ∧ (∀ k, rd out' k < ((Q ++ new).length : Int)) ∧ negs out' + (Q ++ new).length = negs out + Q.length ∧ (∀ k, 0 ≤ rd out k → rd out' k = rd out k) ∧
      (∀ j ∈ row.drop m, 0 ≤ rd out' j) ∧ (∀ j ∈ new, j ∈ row ∧ rd out' j = rd out i + 1) ∧ (∀ k, 0 ≤ k → k < (z.length : Int) → 0 ≤ rd out' k → 0 ≤ rd out k ∨ k ∈ new) ∧
      (∀ R, Ev (fun k => impl_spread.l0 k z out' ((Q ++ new).drop (h + 1))) R → Ev (fun k => impl_spread.l1 k z out (Q.drop (h + 1)) i row (row.length : Int) (m : Int)) R) ∧
      (∀ R, Ev (fun k => spec_l2Spread.l1 k z out' (Q ++ new) (wrap64 ((h : Int) + 1))) R → Ev (fun k => spec_l2Spread.l2 k z out Q (h : Int) row (m : Int)) R) := by
  induction d with
  | zero =>
    intro m out Q h0 h1 h2 h3 h4 h5 h6 h7
    refine ⟨out, [], h2, by simpa using h6, by simp, fun _ _ => rfl, fun j hj => ?_, (fun j hj => by cases hj), fun k _ _ hk => .inl hk, fun R hR => ?_, fun R hR => ?_⟩
    · rw [List.drop_eq_nil_of_le (by omega)] at hj; cases hj
    · rw [List.append_nil] at hR
      refine Ev.step (fun k => by rw [impl_spread.l1]) ?_
      refine Ev.neg (by omega) ?_
      exact hR
    · rw [List.append_nil] at hR
      refine Ev.step (fun k => by rw [spec_l2Spread.l2]) ?_
      refine Ev.neg (by omega) ?_
      exact hR
  | succ d ih =>
    intro m out Q h0 h1 h2 h3 h4 h5 h6 h7
    have hm : m < row.length := by omega
    have hj := hrow row[m] (List.getElem_mem hm)
    have hjl : row[m].toNat < out.length := by omega
    by_cases c : rd out row[m] < 0
    · have hv6 := h6 i
      have hw : wrap64 (rd out i + 1) = rd out i + 1 := wrap_nat (by omega) (by omega)
      have hne : row[m].toNat ≠ i.toNat := fun e => by
        have : rd out row[m] = rd out i := by unfold rd; rw [e]
        omega
      have hrs : ∀ k, rd (out.set row[m].toNat (rd out i + 1)) k = if k.toNat = row[m].toNat then rd out i + 1 else rd out k := fun k => rd_set out row[m] k _ hjl
      have hng := negs_set out row[m] (rd out i + 1) hjl c (by omega)
      have hQ4 : rd (Q ++ [row[m]]) (h : Int) = i := by
        rw [← h4, rd_at _ h (by simp; omega), rd_at Q h h3, List.getElem_append_left h3]
      obtain ⟨out', new, a1, a2, a3, a4, a5, a6, a7, a8, a9⟩ := ih (m + 1) (out.set row[m].toNat (rd out i + 1)) (Q ++ [row[m]]) (by omega) (by omega) (by rw [List.length_set, h2]) (by simp; omega) hQ4
        (by rw [hrs, if_neg (Ne.symm hne)]; exact h5)
        (fun k => by rw [hrs, List.length_append, List.length_singleton]; have := h6 k; split <;> omega)
        (by rw [List.length_append, List.length_singleton]; omega)
      have hmono : ∀ k, 0 ≤ rd out k → rd (out.set row[m].toNat (rd out i + 1)) k = rd out k := fun k hk => by
        rw [hrs]
        by_cases ck : k.toNat = row[m].toNat
        · have : rd out k = rd out row[m] := by unfold rd; rw [ck]
          omega
        · rw [if_neg ck]
      have hself : rd out' row[m] = rd out i + 1 := by
        have e0 : rd (out.set row[m].toNat (rd out i + 1)) row[m] = rd out i + 1 := by rw [hrs, if_pos rfl]
        rw [a4 _ (by rw [e0]; omega), e0]
      have hap : Q ++ row[m] :: new = (Q ++ [row[m]]) ++ new := by simp
      refine ⟨out', row[m] :: new, a1, ?_, ?_, fun k hk => (a4 k (by rw [hmono k hk]; exact hk)).trans (hmono k hk), fun j hj' => ?_, fun j hj' => ?_, fun k hk0 hk1 hk => ?_, fun R hR => ?_, fun R hR => ?_⟩
      · rw [hap]; exact a2
      · rw [hap, a3, List.length_append, List.length_singleton]; omega
      · rw [List.drop_eq_getElem_cons hm] at hj'
        rcases List.mem_cons.1 hj' with rfl | hj'
        · rw [hself]; omega
        · exact a5 j hj'
      · rcases List.mem_cons.1 hj' with rfl | hj'
        · exact ⟨List.getElem_mem hm, hself⟩
        · exact ⟨(a6 j hj').1, by rw [(a6 j hj').2, hmono i h5]⟩
      · rcases a7 k hk0 hk1 hk with h' | h'
        · rw [hrs] at h'
          by_cases ck : k.toNat = row[m].toNat
          · right; rw [show k = row[m] by omega]; exact .head _
          · rw [if_neg ck] at h'; exact .inl h'
        · exact .inr (.tail _ h')
      · rw [hap] at hR
        have := a8 R hR
        rw [← wrap_up hm (by omega), List.drop_append_of_le_length (by omega)] at this
        refine Ev.step (fun k => by rw [impl_spread.l1]) ?_
        refine Ev.pos (by omega) ?_
        refine Ev.pos (by omega) ?_
        refine Ev.pos (by omega) ?_
        rw [rd_at row m hm]
        refine Ev.pos hj.1 ?_
        refine Ev.pos (by omega) ?_
        refine Ev.pos c ?_
        refine Ev.pos hi.1 ?_
        refine Ev.pos (by omega) ?_
        refine Ev.pos (by rw [List.length_drop]; omega) ?_
        rw [hw]
        exact this
      · rw [hap] at hR
        have := a9 R hR
        rw [← wrap_up hm (by omega)] at this
        refine Ev.step (fun k => by rw [spec_l2Spread.l2]) ?_
        refine Ev.pos (by omega) ?_
        refine Ev.pos (by omega) ?_
        rw [rd_at row m hm, h4]
        refine Ev.pos hj.1 ?_
        refine Ev.pos (by omega) ?_
        refine Ev.pos c ?_
        refine Ev.pos (by omega) ?_
        refine Ev.pos (by omega) ?_
        refine Ev.pos hi.1 ?_
        refine Ev.pos (by omega) ?_
        refine Ev.pos (by omega) ?_
        rw [hw]
        exact this
    · obtain ⟨out', new, a1, a2, a3, a4, a5, a6, a7, a8, a9⟩ := ih (m + 1) out Q (by omega) (by omega) h2 h3 h4 h5 h6 h7
      refine ⟨out', new, a1, a2, a3, a4, fun j hj' => ?_, a6, a7, fun R hR => ?_, fun R hR => ?_⟩
      · rw [List.drop_eq_getElem_cons hm] at hj'
        rcases List.mem_cons.1 hj' with rfl | hj'
        · rw [a4 _ (by omega)]; omega
        · exact a5 j hj'
      · have := a8 R hR
        rw [← wrap_up hm (by omega)] at this
        refine Ev.step (fun k => by rw [impl_spread.l1]) ?_
        refine Ev.pos (by omega) ?_
        refine Ev.pos (by omega) ?_
        refine Ev.pos (by omega) ?_
        rw [rd_at row m hm]
        refine Ev.pos hj.1 ?_
        refine Ev.pos (by omega) ?_
        refine Ev.neg c ?_
        exact this
      · have := a9 R hR
        rw [← wrap_up hm (by omega)] at this
        refine Ev.step (fun k => by rw [spec_l2Spread.l2]) ?_
        refine Ev.pos (by omega) ?_
        refine Ev.pos (by omega) ?_
        rw [rd_at row m hm]
        refine Ev.pos hj.1 ?_
        refine Ev.pos (by omega) ?_
        refine Ev.neg c ?_
        exact this
include hz hr
theorem spread_outer (s : Int) (u : Nat) : ∀ (out Q : List Int) (h : Nat), negs out + (Q.length - h) = u → h ≤ Q.length → out.length = z.length → (∀ k, rd out k < (Q.length : Int)) → negs out + Q.length ≤ 1048576 → 0 < Q.length →
    (∀ q ∈ Q, 0 ≤ q ∧ q < (z.length : Int) ∧ 0 ≤ rd out q) → (∀ k, 0 ≤ k → k < (z.length : Int) → 0 ≤ rd out k → k ∈ Q) → (∀ q ∈ Q.take h, ∀ j ∈ rd_L1 z q, 0 ≤ rd out j) → (∀ P, closedZ z P → P s → ∀ q ∈ Q, P q) → rd out s = 0 → (∀ k, 0 ≤ k → k < (z.length : Int) → 0 ≤ rd out k → k = s ∨ ∃ p, 0 ≤ p ∧ p < (z.length : Int) ∧ k ∈ rd_L1 z p ∧ 0 ≤ rd out p ∧ rd out k = rd out p + 1) →
    ∃ R, Ev (fun k => impl_spread.l0 k z out (Q.drop h)) R ∧ Ev (fun k => spec_l2Spread.l1 k z out Q (h : Int)) R ∧ R.length = z.length ∧ (∀ k, rd R k ≤ 1048575) ∧ (∀ k, 0 ≤ rd out k → 0 ≤ rd R k) ∧ closedZ z (fun k => 0 ≤ rd R k) ∧ (∀ P, closedZ z P → P s → ∀ k, 0 ≤ k → k < (z.length : Int) → 0 ≤ rd R k → P k) ∧ rd R s = 0 ∧ (∀ k, 0 ≤ k → k < (z.length : Int) → 0 ≤ rd R k → k = s ∨ ∃ p, 0 ≤ p ∧ p < (z.length : Int) ∧ k ∈ rd_L1 z p ∧ 0 ≤ rd R p ∧ rd R k = rd R p + 1) := by
  induction u with
  | zero =>
    intro out Q h h0 h1 h2 h3 h4 hQ0 h5 h6 h7 h8 hS hE
    have he : h = Q.length := by omega
    refine ⟨out, ?_, ?_, h2, fun k => by have := h3 k; omega, fun _ hk => hk, fun i hi0 hi1 hi j hj => ?_, fun P hP hs k hk0 hk1 hk => h8 P hP hs k (h6 k hk0 hk1 hk), hS, hE⟩
    · rw [List.drop_eq_nil_of_le (by omega)]
      refine Ev.step (fun k => by rw [impl_spread.l0]) ?_
      refine Ev.neg (by simp) ?_
      exact (Ev.now _)
    · refine Ev.step (fun k => by rw [spec_l2Spread.l1]) ?_
      refine Ev.neg (by omega) ?_
      exact (Ev.now _)
    · exact h7 i (by rw [List.take_of_length_le (by omega)]; exact h6 i hi0 hi1 hi) j hj
  | succ u ih =>
    intro out Q h h0 h1 h2 h3 h4 hQ0 h5 h6 h7 h8 hS hE
    by_cases ce : h = Q.length
    · refine ⟨out, ?_, ?_, h2, fun k => by have := h3 k; omega, fun _ hk => hk, fun i hi0 hi1 hi j hj => ?_, fun P hP hs k hk0 hk1 hk => h8 P hP hs k (h6 k hk0 hk1 hk), hS, hE⟩
      · rw [List.drop_eq_nil_of_le (by omega)]
        refine Ev.step (fun k => by rw [impl_spread.l0]) ?_
        refine Ev.neg (by simp) ?_
        exact (Ev.now _)
      · refine Ev.step (fun k => by rw [spec_l2Spread.l1]) ?_
        refine Ev.neg (by omega) ?_
        exact (Ev.now _)
      · exact h7 i (by rw [List.take_of_length_le (by omega)]; exact h6 i hi0 hi1 hi) j hj
    have hh : h < Q.length := by omega
    obtain ⟨q0, q1, q2⟩ := h5 Q[h] (List.getElem_mem hh)
    have hrow := hz Q[h] q0 q1
    obtain ⟨out', new, a1, a2, a3, a4, a5, a6, a7, a8, a9⟩ := spread_inner hn hrow (hr _) Q[h] ⟨q0, q1⟩ h ((rd_L1 z Q[h]).length - 0) 0 out Q rfl (Nat.zero_le _) h2 hh (rd_at Q h hh) q2 h3 h4
    rw [List.drop_zero] at a5
    simp only [Int.natCast_zero] at a8 a9
    obtain ⟨R, r1, r2, r3, r4, r5, r6, r7, r8, r9⟩ := ih out' (Q ++ new) (h + 1) (by rw [List.length_append] at a3 ⊢; omega) (by rw [List.length_append]; omega) a1 a2 (by omega) (by rw [List.length_append]; omega)
      (fun q hq => by
        rcases List.mem_append.1 hq with hq | hq
        · obtain ⟨b0, b1, b2⟩ := h5 q hq; exact ⟨b0, b1, by rw [a4 q b2]; exact b2⟩
        · obtain ⟨b0, b1⟩ := a6 q hq; exact ⟨(hrow q b0).1, (hrow q b0).2, by rw [b1]; omega⟩)
      (fun k hk0 hk1 hk => by
        rcases a7 k hk0 hk1 hk with h' | h'
        · exact List.mem_append_left _ (h6 k hk0 hk1 h')
        · exact List.mem_append_right _ h')
      (fun q hq j hj => by
        rw [List.take_append_of_le_length (by omega), List.take_add_one, List.getElem?_eq_getElem hh] at hq
        rcases List.mem_append.1 hq with hq | hq
        · rw [a4 j (h7 q hq j hj)]; exact h7 q hq j hj
        · rw [show q = Q[h] by simpa using hq] at hj; exact a5 j hj)
      (fun P hP hs q hq => by
        rcases List.mem_append.1 hq with hq | hq
        · exact h8 P hP hs q hq
        · exact hP Q[h] q0 q1 (h8 P hP hs _ (List.getElem_mem hh)) q (a6 q hq).1)
      (by rw [a4 s (by omega)]; exact hS)
      (fun k hk0 hk1 hk => by
        rcases a7 k hk0 hk1 hk with h' | h'
        · rcases hE k hk0 hk1 h' with e | ⟨p, p0, p1, p2, p3, p4⟩
          · exact .inl e
          · exact .inr ⟨p, p0, p1, p2, by rw [a4 p p3]; exact p3, by rw [a4 p p3, a4 k h']; exact p4⟩
        · obtain ⟨b0, b1⟩ := a6 k h'
          exact .inr ⟨Q[h], q0, q1, b0, by rw [a4 _ q2]; exact q2, by rw [a4 _ q2]; exact b1⟩)
    refine ⟨R, ?_, ?_, r3, r4, fun k hk => r5 k (by rw [a4 k hk]; exact hk), r6, r7, r8, r9⟩
    · have e8 := a8 R r1
      rw [List.drop_eq_getElem_cons hh]
      refine Ev.step (fun k => by rw [impl_spread.l0]) ?_
      refine Ev.pos (by rw [List.length_cons]; omega) ?_
      refine Ev.pos (by rw [List.length_cons]; omega) ?_
      refine Ev.pos (by rw [List.length_cons]; omega) ?_
      have e1 : rd (Q[h] :: Q.drop (h + 1)) 0 = Q[h] := rfl
      have e2 : (Q[h] :: Q.drop (h + 1)).drop (1 : Int).toNat = Q.drop (h + 1) := rfl
      rw [e1, e2]
      refine Ev.pos q0 ?_
      refine Ev.pos q1 ?_
      exact e8
    · have hwh : wrap64 ((h : Int) + 1) = ((h + 1 : Nat) : Int) := wrap_up hh (by omega)
      rw [hwh] at a9
      clear hwh
      have e9 := a9 R r2
      refine Ev.step (fun k => by rw [spec_l2Spread.l1]) ?_
      refine Ev.pos (by omega) ?_
      refine Ev.pos (by omega) ?_
      rw [rd_at Q h hh]
      refine Ev.pos q0 ?_
      refine Ev.pos q1 ?_
      exact e9
end
theorem fill_loop {z : List (List Int)} (i : Int) {R : List Int} (d : Nat) : ∀ (m : Nat) (out : List Int), out.length - m = d → m ≤ out.length → out.length ≤ 1048576 → out.take m = List.replicate m (-1) → Ev (fun k => spec_l2Spread.l0 k z i (List.replicate out.length (-1)) (out.length : Int)) R → Ev (fun k => spec_l2Spread.l0 k z i out (m : Int)) R := by
  induction d with
  | zero =>
    intro m out h0 h1 h2 h3 hR
    have he : m = out.length := by omega
    rw [he] at h3 ⊢
    rw [List.take_length] at h3
    rw [← h3] at hR
    exact hR
  | succ d ih =>
    intro m out h0 h1 h2 h3 hR
    have hm : m < out.length := by omega
    refine Ev.step (fun k => by rw [spec_l2Spread.l0]) ?_
    refine Ev.pos (by omega) ?_
    refine Ev.pos (by omega) ?_
    have := ih (m + 1) (out.set m (-1)) (by rw [List.length_set]; omega) (by rw [List.length_set]; omega) (by rw [List.length_set]; exact h2) (by
      rw [List.take_add_one, List.getElem?_set_self hm, List.take_set_of_le (Nat.le_refl _), h3, List.replicate_succ', Option.toList]) (by rw [List.length_set]; exact hR)
    rw [← wrap_up hm (by omega)] at this
    rw [Int.toNat_natCast]
    exact this
/-- What both sides' spread answers. -/
theorem spread_both {z : List (List Int)} (hz : okZ z) (hn : z.length ≤ 1048576) (hr : ∀ i, (rd_L1 z i).length ≤ 1048576) (s : Int) (hs0 : 0 ≤ s) (hs1 : s < (z.length : Int)) :
    ∃ R, Ev (fun k => impl_spread.f k z s) R ∧ Ev (fun k => spec_l2Spread.f k z s) R ∧ R.length = z.length ∧ (∀ k, rd R k ≤ 1048575) ∧ 0 ≤ rd R s ∧ closedZ z (fun k => 0 ≤ rd R k) ∧ (∀ P, closedZ z P → P s → ∀ k, 0 ≤ k → k < (z.length : Int) → 0 ≤ rd R k → P k) ∧ rd R s = 0 ∧ (∀ k, 0 ≤ k → k < (z.length : Int) → 0 ≤ rd R k → k = s ∨ ∃ p, 0 ≤ p ∧ p < (z.length : Int) ∧ k ∈ rd_L1 z p ∧ 0 ≤ rd R p ∧ rd R k = rd R p + 1) := by
  have hl : s.toNat < (List.replicate z.length (-1 : Int)).length := by rw [List.length_replicate]; omega
  have hrs : ∀ k, rd ((List.replicate z.length (-1 : Int)).set s.toNat 0) k = if k.toNat = s.toNat then 0 else rd (List.replicate z.length (-1)) k := fun k => rd_set _ s k 0 hl
  have hrep : ∀ k, rd (List.replicate z.length (-1 : Int)) k < 1 := fun k => by
    unfold rd; rw [List.getD_eq_getElem?_getD, List.getElem?_replicate]; split <;> simp
  have hrep2 : ∀ k : Int, 0 ≤ k → k < (z.length : Int) → rd (List.replicate z.length (-1 : Int)) k = -1 := fun k h0 h1 => by
    unfold rd; rw [List.getD_eq_getElem?_getD, List.getElem?_replicate, if_pos (by omega)]; rfl
  have hneg := negs_set (List.replicate z.length (-1 : Int)) s 0 hl (by rw [hrep2 s hs0 hs1]; decide) (Int.le_refl _)
  have hneg2 : negs (List.replicate z.length (-1 : Int)) ≤ z.length := by have := List.countP_le_length (p := fun x => decide (x < 0)) (l := List.replicate z.length (-1 : Int)); rw [List.length_replicate] at this; exact this
  obtain ⟨R, r1, r2, r3, r4, r5, r6, r7, r8, r9⟩ := spread_outer hz hn hr s _ ((List.replicate z.length (-1 : Int)).set s.toNat 0) [s] 0 rfl (Nat.zero_le _) (by rw [List.length_set, List.length_replicate])
    (fun k => by rw [hrs]; have := hrep k; simp only [List.length_singleton]; split <;> omega) (by rw [List.length_singleton]; omega) (by simp)
    (fun q hq => by rw [show q = s by simpa using hq]; exact ⟨hs0, hs1, by rw [hrs, if_pos rfl]; exact Int.le_refl _⟩)
    (fun k hk0 hk1 hk => by
      rw [hrs] at hk
      by_cases c : k.toNat = s.toNat
      · rw [show k = s by omega]; exact .head _
      · rw [if_neg c, hrep2 k hk0 hk1] at hk; omega)
    (fun q hq => by simp at hq) (fun P hP hs q hq => by rw [show q = s by simpa using hq]; exact hs) (by rw [hrs, if_pos rfl])
    (fun k hk0 hk1 hk => by
      rw [hrs] at hk
      by_cases c : k.toNat = s.toNat
      · exact .inl (by omega)
      · rw [if_neg c, hrep2 k hk0 hk1] at hk; omega)
  simp only [Int.natCast_zero, List.drop_zero] at r1 r2
  refine ⟨R, ?_, ?_, r3, r4, r5 s (by rw [hrs, if_pos rfl]; exact Int.le_refl _), r6, r7, r8, r9⟩
  · unfold impl_spread.f
    refine Ev.bindo (a := List.replicate z.length (-1)) ?_ ?_
    · unfold slices_Repeat_int_int.f
      rw [if_pos ⟨rfl, by omega, by omega⟩, Int.toNat_natCast]
      rfl
    · rw [List.length_replicate]
      refine Ev.pos hs0 ?_
      refine Ev.pos hs1 ?_
      exact r1
  · unfold spec_l2Spread.f
    refine Ev.pos (by omega) ?_
    refine Ev.pos (by omega) ?_
    rw [Int.toNat_natCast]
    have hfill := fill_loop (z := z) (R := R) s _ 0 (List.replicate z.length 0) rfl (Nat.zero_le _) (by rw [List.length_replicate]; exact hn) (by simp)
    simp only [Int.natCast_zero, List.length_replicate] at hfill
    refine hfill ?_
    refine Ev.step (fun k => by rw [spec_l2Spread.l0]) ?_
    refine Ev.neg (by rw [List.length_replicate]; omega) ?_
    rw [List.length_replicate]
    refine Ev.pos hs0 ?_
    refine Ev.pos hs1 ?_
    exact r2
end Go.Proofs.Ytopgbijegnnjbaa.P
namespace Go.Proofs.Ytopgbijegnnjbaa.P
open Go.RowKit Go.Proofs.YtopgbijegnnjbaaW.PrintWords Go.Proofs.YtopgbijegnnjbaaW.PrintLast Go.Proofs.YtopgbijegnnjbaaW.PrintMore
set_option linter.unusedVariables false
set_option linter.unusedSimpArgs false
def least (M x : Int) : Int := if x < M then x else M
theorem least_add {M x y : Int} (hy : 0 ≤ y) : least M (least M x + y) = least M (x + y) := by
  unfold least
  by_cases h : x < M
  · rw [if_pos h]
  · rw [if_neg h]
    by_cases h2 : M + y < M
    · omega
    · rw [if_neg h2, if_neg (by omega)]
def sumN : Nat → (Nat → Int) → Int
  | 0, _ => 0
  | n + 1, f => sumN n f + f n
theorem sumN_congr {f g : Nat → Int} : ∀ n, (∀ i, i < n → f i = g i) → sumN n f = sumN n g
  | 0, _ => rfl
  | n + 1, h => by rw [sumN, sumN, sumN_congr n (fun i hi => h i (by omega)), h n (by omega)]
theorem sumN_nonneg {f : Nat → Int} : ∀ n, (∀ i, i < n → 0 ≤ f i) → 0 ≤ sumN n f
  | 0, _ => Int.le_refl 0
  | n + 1, h => by have := sumN_nonneg (f := f) n (fun i hi => h i (by omega)); have := h n (by omega); rw [sumN]; omega
theorem sumN_zero : ∀ n, sumN n (fun _ => 0) = 0
  | 0 => rfl
  | n + 1 => by rw [sumN, sumN_zero n]; rfl
/-- One term more. -/
theorem sumN_add {f g : Nat → Int} {u : Nat} {x : Int} : ∀ n, u < n → (∀ i, i < n → i ≠ u → g i = f i) → g u = f u + x → sumN n g = sumN n f + x
  | 0, h, _, _ => absurd h (by omega)
  | n + 1, h, h1, h2 => by
    rw [sumN, sumN]
    by_cases e : u = n
    · subst e
      rw [sumN_congr (f := g) (g := f) u (fun i hi => h1 i (by omega) (by omega)), h2]
      omega
    · rw [sumN_add (f := f) (g := g) (u := u) (x := x) n (by omega) (fun i hi hne => h1 i (by omega) hne) h2, h1 n (by omega) (fun e2 => e e2.symm)]
      omega
section
variable (z : List (List Int)) (far : List Int) (s : Int) (M : Int)
/-- u is the place ahead of v on a shortest way. -/
def isPred (u v : Int) : Prop := v ∈ rd_L1 z u ∧ 0 ≤ rd far u ∧ rd far v = rd far u + 1
open Classical in
/-- The number of shortest ways to the places of a distance, held below M. -/
noncomputable def waysF : Nat → Int → Int
  | 0, v => if v = s then 1 else 0
  | d + 1, v => least M (sumN z.length (fun u => if isPred z far (u : Int) v ∧ rd far (u : Int) = (d : Int) then waysF d (u : Int) else 0))
noncomputable def waysN (v : Int) : Int := waysF z far s M (rd far v).toNat v
open Classical in
/-- The sum over those of a list. -/
noncomputable def sumP (P : List Int) (v : Int) : Int := sumN z.length (fun u => if (u : Int) ∈ P ∧ isPred z far (u : Int) v then waysN z far s M (u : Int) else 0)
open Classical in
theorem waysF_nonneg (hM : 0 ≤ M) : ∀ d v, 0 ≤ waysF z far s M d v
  | 0, v => by unfold waysF; split <;> omega
  | d + 1, v => by
    have ih := waysF_nonneg hM d
    rw [waysF]
    have := sumN_nonneg (f := fun u => if isPred z far (u : Int) v ∧ rd far (u : Int) = (d : Int) then waysF z far s M d (u : Int) else 0) z.length (fun i _ => by
      by_cases c : isPred z far (i : Int) v ∧ rd far (i : Int) = (d : Int)
      · rw [if_pos c]; exact ih _
      · rw [if_neg c]; exact Int.le_refl 0)
    unfold least
    split <;> omega
open Classical in
/-- Where all that lie ahead of v have been taken, the sum is whole. -/
theorem sumP_all (P : List Int) (v : Int) (hv : 0 < rd far v) (hP : ∀ u : Nat, u < z.length → isPred z far (u : Int) v → (u : Int) ∈ P) : least M (sumP z far s M P v) = waysN z far s M v := by
  obtain ⟨d, hd⟩ : ∃ d : Nat, (rd far v).toNat = d + 1 := ⟨(rd far v).toNat - 1, by omega⟩
  unfold waysN
  rw [hd, waysF]
  congr 1
  unfold sumP
  refine sumN_congr _ (fun u hu => ?_)
  by_cases c : isPred z far (u : Int) v
  · have hdu : rd far (u : Int) = (d : Int) := by have := c.2.2; omega
    rw [if_pos ⟨hP u hu c, c⟩, if_pos ⟨c, hdu⟩]
    unfold waysN
    rw [hdu, Int.toNat_natCast]
  · rw [if_neg (fun h => c h.2), if_neg (fun h => c h.1)]
open Classical in
theorem sumP_nil (v : Int) : sumP z far s M [] v = 0 := by
  unfold sumP
  rw [sumN_congr (g := fun _ => 0) _ (fun u _ => if_neg (fun h => by simp at h)), sumN_zero]
open Classical in
/-- One place more is taken. -/
theorem sumP_snoc (P : List Int) (u : Nat) (hu : u < z.length) (hn : (u : Int) ∉ P) (v : Int) : sumP z far s M (P ++ [(u : Int)]) v = sumP z far s M P v + (if isPred z far (u : Int) v then waysN z far s M (u : Int) else 0) := by
  unfold sumP
  refine sumN_add (u := u) z.length hu (fun i _ hne => ?_) ?_
  · have e : ((i : Int) ∈ P ++ [(u : Int)]) ↔ (i : Int) ∈ P := by
      rw [List.mem_append, List.mem_singleton]
      constructor
      · rintro (h | h)
        · exact h
        · omega
      · exact .inl
    simp only [e]
  · by_cases c : isPred z far (u : Int) v
    · rw [if_pos ⟨by simp, c⟩, if_neg (fun h => hn h.1), if_pos c]; omega
    · rw [if_neg (fun h => c h.2), if_neg (fun h => c h.2), if_neg c]; rfl
/-- What stands in 'many' when the places of P have been taken. -/
noncomputable def manyAt (P : List Int) (v : Int) : Int := if 0 < rd far v then least M (sumP z far s M P v) else if v = s then 1 else 0
def stepN (u : Int) (many : List Int) (b : Int) : List Int := if rd far b = rd far u + 1 then many.set b.toNat (least M (rd many b + rd many u)) else many
theorem stepN_len (u : Int) (many : List Int) (b : Int) : (stepN far M u many b).length = many.length := by
  unfold stepN; split
  · rw [List.length_set]
  · rfl
/-- The row of a place, taken: what follows it gets its number, once. -/
theorem row_taken (hM : 0 ≤ M) (u : Int) (hu0 : 0 ≤ u) (hfu : 0 ≤ rd far u) : ∀ (row : List Int), row.Nodup → (∀ b ∈ row, 0 ≤ b ∧ b < (z.length : Int)) → ∀ (many : List Int), many.length = z.length → u < (z.length : Int) →
    (row.foldl (stepN far M u) many).length = z.length ∧ ∀ v, 0 ≤ v → v < (z.length : Int) → rd (row.foldl (stepN far M u) many) v = if v ∈ row ∧ rd far v = rd far u + 1 then least M (rd many v + rd many u) else rd many v
  | [], _, _, many, hl, _ => ⟨hl, fun v _ _ => by rw [if_neg (fun h => by simp at h)]; rfl⟩
  | b :: row, hnd, hr, many, hl, hul => by
    have hb := hr b (List.mem_cons_self ..)
    rw [List.nodup_cons] at hnd
    have ih := row_taken hM u hu0 hfu row hnd.2 (fun x hx => hr x (List.mem_cons_of_mem _ hx)) (stepN far M u many b) (by rw [stepN_len]; exact hl) hul
    rw [List.foldl_cons]
    refine ⟨ih.1, fun v v0 v1 => ?_⟩
    rw [ih.2 v v0 v1]
    have hget : ∀ k, 0 ≤ k → k < (z.length : Int) → rd (stepN far M u many b) k = if k = b ∧ rd far b = rd far u + 1 then least M (rd many b + rd many u) else rd many k := fun k k0 k1 => by
      unfold stepN
      by_cases c : rd far b = rd far u + 1
      · rw [if_pos c, rd_set _ b k _ (by omega)]
        by_cases e : k = b
        · subst e; rw [if_pos rfl, if_pos ⟨rfl, c⟩]
        · rw [if_neg (by omega), if_neg (fun h => e h.1)]
      · rw [if_neg c, if_neg (fun h => c h.2)]
    have hgu : rd (stepN far M u many b) u = rd many u := by
      rw [hget u hu0 hul, if_neg (fun h => by have := h.2; rw [← h.1] at this; omega)]
    rw [hgu, hget v v0 v1]
    by_cases e : v = b
    · subst e
      by_cases c : rd far v = rd far u + 1
      · rw [if_neg (fun h => hnd.1 h.1), if_pos ⟨rfl, c⟩, if_pos ⟨List.mem_cons_self .., c⟩]
      · rw [if_neg (fun h => c h.2), if_neg (fun h => c h.2), if_neg (fun h => c h.2)]
    · rw [if_neg (c := v = b ∧ _) (fun h => e h.1)]
      by_cases c : v ∈ row ∧ rd far v = rd far u + 1
      · rw [if_pos c, if_pos ⟨List.mem_cons_of_mem _ c.1, c.2⟩]
      · rw [if_neg c, if_neg (fun h => c ⟨(List.mem_cons.1 h.1).resolve_left e, h.2⟩)]
open Classical in
/-- A place taken behind all that lie ahead of it. -/
theorem place_taken (hM : 0 ≤ M) (hz : okZ z) (hnd : ∀ i, 0 ≤ i → i < (z.length : Int) → (rd_L1 z i).Nodup) (hs : ∀ v, 0 ≤ v → v < (z.length : Int) → rd far v = 0 → v = s) (P : List Int) (u : Nat) (hu : u < z.length) (hfu : 0 ≤ rd far (u : Int)) (hn : (u : Int) ∉ P) (hP : ∀ u' : Nat, u' < z.length → isPred z far (u' : Int) (u : Int) → (u' : Int) ∈ P)
    (many : List Int) (hl : many.length = z.length) (hmany : ∀ v, 0 ≤ v → v < (z.length : Int) → rd many v = manyAt z far s M P v) :
    ((rd_L1 z (u : Int)).foldl (stepN far M (u : Int)) many).length = z.length ∧ ∀ v, 0 ≤ v → v < (z.length : Int) → rd ((rd_L1 z (u : Int)).foldl (stepN far M (u : Int)) many) v = manyAt z far s M (P ++ [(u : Int)]) v := by
  have h := row_taken z far M hM (u : Int) (by omega) hfu (rd_L1 z (u : Int)) (hnd _ (by omega) (by omega)) (hz _ (by omega) (by omega)) many hl (by omega)
  refine ⟨h.1, fun v v0 v1 => ?_⟩
  have hF : rd many (u : Int) = waysN z far s M (u : Int) := by
    rw [hmany _ (by omega) (by omega)]
    unfold manyAt
    by_cases c : 0 < rd far (u : Int)
    · rw [if_pos c]
      exact sumP_all z far s M P (u : Int) c hP
    · rw [if_neg c, if_pos (hs _ (by omega) (by omega) (by omega))]
      unfold waysN
      rw [show (rd far (u : Int)).toNat = 0 by omega, waysF, if_pos (hs _ (by omega) (by omega) (by omega))]
  rw [h.2 v v0 v1, hF, hmany v v0 v1]
  have hw := waysF_nonneg z far s M hM (rd far (u : Int)).toNat (u : Int)
  unfold manyAt
  rw [sumP_snoc z far s M P u hu hn v]
  by_cases c : v ∈ rd_L1 z (u : Int) ∧ rd far v = rd far (u : Int) + 1
  · rw [if_pos c, if_pos (by omega), if_pos (by omega), if_pos (show isPred z far (u : Int) v from ⟨c.1, hfu, c.2⟩)]
    exact least_add hw
  · rw [if_neg c, if_neg (show ¬ isPred z far (u : Int) v from fun h => c ⟨h.1, h.2.2⟩), Int.add_zero]
/-- A place of a list behind all that lie ahead of it, whichever the list's order among equals is. -/
theorem count_walk (hM : 0 ≤ M) (hz : okZ z) (hnd : ∀ i, 0 ≤ i → i < (z.length : Int) → (rd_L1 z i).Nodup) (hs : ∀ v, 0 ≤ v → v < (z.length : Int) → rd far v = 0 → v = s) : ∀ (S P many : List Int), (∀ u ∈ S, 0 ≤ u ∧ u < (z.length : Int) ∧ 0 ≤ rd far u) → S.Pairwise (fun a b => rd far a ≤ rd far b) → (P ++ S).Nodup →
    (∀ u : Nat, u < z.length → 0 ≤ rd far (u : Int) → (u : Int) ∈ P ++ S) → many.length = z.length → (∀ v, 0 ≤ v → v < (z.length : Int) → rd many v = manyAt z far s M P v) →
    (S.foldl (fun m u => (rd_L1 z u).foldl (stepN far M u) m) many).length = z.length ∧ ∀ v, 0 ≤ v → v < (z.length : Int) → rd (S.foldl (fun m u => (rd_L1 z u).foldl (stepN far M u) m) many) v = manyAt z far s M (P ++ S) v
  | [], P, many, _, _, _, _, hl, hv => ⟨hl, by rw [List.append_nil]; exact hv⟩
  | u :: S, P, many, hu, hp, hn, hall, hl, hv => by
    have h1 := hu u (List.mem_cons_self ..)
    obtain ⟨m, rfl⟩ : ∃ m : Nat, u = (m : Int) := ⟨u.toNat, by omega⟩
    rw [List.pairwise_cons] at hp
    have hnu : (m : Int) ∉ P := fun h => by
      rw [List.nodup_append] at hn
      exact hn.2.2 _ h _ (List.mem_cons_self ..) rfl
    have hpre : ∀ u' : Nat, u' < z.length → isPred z far (u' : Int) (m : Int) → (u' : Int) ∈ P := fun u' hu' hpr => by
      rcases List.mem_append.1 (hall u' hu' hpr.2.1) with h | h
      · exact h
      · rcases List.mem_cons.1 h with h | h
        · have := hpr.2.2; rw [h] at this; omega
        · have := hp.1 _ h; have := hpr.2.2; omega
    have h2 := place_taken z far s M hM hz hnd hs P m (by omega) h1.2.2 hnu hpre many hl hv
    rw [List.foldl_cons]
    have e : P ++ (m : Int) :: S = (P ++ [(m : Int)]) ++ S := by simp
    rw [e]
    rw [e] at hn hall
    exact count_walk hM hz hnd hs S (P ++ [(m : Int)]) _ (fun x hx => hu x (List.mem_cons_of_mem _ hx)) hp.2 hn hall h2.1 h2.2
/-- Where all that lie ahead of a place have been taken, its number stands. -/
theorem manyAt_end (hs : ∀ v, 0 ≤ v → v < (z.length : Int) → rd far v = 0 → v = s) (P : List Int) (v : Int) (h0 : 0 ≤ v) (h1 : v < (z.length : Int)) (hv : 0 ≤ rd far v) (hP : ∀ u : Nat, u < z.length → isPred z far (u : Int) v → (u : Int) ∈ P) : manyAt z far s M P v = waysN z far s M v := by
  unfold manyAt
  by_cases c : 0 < rd far v
  · rw [if_pos c]
    exact sumP_all z far s M P v c hP
  · rw [if_neg c, if_pos (hs v h0 h1 (by omega))]
    unfold waysN
    rw [show (rd far v).toNat = 0 by omega, waysF, if_pos (hs v h0 h1 (by omega))]
theorem manyAt_nil (hM : 0 < M) (hfs : rd far s = 0) (h0 : 0 ≤ s) (h1 : s < (z.length : Int)) (v : Int) (v0 : 0 ≤ v) (v1 : v < (z.length : Int)) : rd ((List.replicate z.length (0 : Int)).set s.toNat 1) v = manyAt z far s M [] v := by
  rw [rd_set _ s v 1 (by rw [List.length_replicate]; omega)]
  unfold manyAt
  rw [sumP_nil]
  by_cases e : v = s
  · subst e
    rw [if_pos rfl, if_neg (by omega), if_pos rfl]
  · rw [if_neg (by omega)]
    have hr : rd (List.replicate z.length (0 : Int)) v = 0 := by
      unfold rd; rw [List.getD_eq_getElem?_getD, List.getElem?_replicate]; split <;> rfl
    rw [hr, if_neg e]
    unfold least
    rw [if_pos hM]
    split <;> rfl
end
section
variable (far : List Int) (M : Int)
def bndM (many : List Int) : Prop := ∀ v : Int, 0 ≤ rd many v ∧ rd many v ≤ M
theorem bndM_init (hM : 1 ≤ M) (n : Nat) (s : Int) : bndM M ((List.replicate n (0 : Int)).set s.toNat 1) := fun v => by
  have hr : rd (List.replicate n (0 : Int)) v = 0 := by
    unfold rd; rw [List.getD_eq_getElem?_getD, List.getElem?_replicate]; split <;> rfl
  by_cases h : s.toNat < n
  · rw [rd_set _ s v 1 (by rw [List.length_replicate]; exact h)]
    split <;> omega
  · rw [List.set_eq_of_length_le (by rw [List.length_replicate]; omega), hr]
    omega
theorem bndM_step (u b : Int) (many : List Int) (h : bndM M many) : bndM M (stepN far M u many b) := fun v => by
  have h1 := h b; have h2 := h u; have h3 := h v
  unfold stepN
  split
  · by_cases hb : b.toNat < many.length
    · rw [rd_set _ b v _ hb]
      unfold least
      split
      · split <;> omega
      · exact h3
    · rw [List.set_eq_of_length_le (by omega)]
      exact h3
  · exact h3
end
end Go.Proofs.Ytopgbijegnnjbaa.P
