/- The lists of steps: both sides make the same rows, and each row is rising. -/
import Derived.Test.YtmhoemdclnlgaaaFirstWayG17
import Derived.Test.YtmhoemdclnlgaaaFirstWayG12
import Derived.Test.YtmhoemdclnlgaaaFirstWayG8
import Derived.Test.YtmhoemdclnlgaaaFirstWayG14
import Derived.Test.YtmhoemdclnlgaaaFirstWayG9
import Derived.Test.YtmhoemdclnlgaaaFirstWayG5
import Derived.Test.YtmhoemdclnlgaaaFirstWayG11
import Derived.Test.YtmhoemdclnlgaaaFirstWayG13
import Derived.Test.YtmhoemdclnlgaaaFirstWayG15
import Derived.Test.YtmhoemdclnlgaaaFirstWayG16
namespace Go.Proofs.Ytmhoemdclnlgaaa.P
open Go.RowKit Go.Proofs.YtmhoemdclnlgaaaW.PrintWords Go.Proofs.YtmhoemdclnlgaaaW.PrintLast Go.Proofs.YtmhoemdclnlgaaaW.PrintMore
set_option linter.unusedVariables false
set_option linter.unusedSimpArgs false

abbrev PrT := S79
theorem okS_goodL {l : List (List Int)} {e : List PrT} (h : okS l e = true) : l.length ≤ 300 ∧ goodP (l.length : Int) none e = true := by
  unfold okS at h
  simp only [Bool.and_eq_true, decide_eq_true_eq] at h
  exact ⟨by omega, h.2.2⟩
def rowsOf (n : Nat) (f : Int → List Int) : List (List Int) := (List.range n).map fun (i : Nat) => f i
theorem rowsOf_len (n : Nat) (f : Int → List Int) : (rowsOf n f).length = n := by simp [rowsOf]
theorem rowsOf_congr {n : Nat} {f g : Int → List Int} (h : ∀ i : Nat, i < n → f i = g i) : rowsOf n f = rowsOf n g := by
  unfold rowsOf
  exact List.map_congr_left fun i hi => h i (List.mem_range.1 hi)
theorem rowsOf_get {n : Nat} (f : Int → List Int) (i : Nat) (h : i < n) (h' : i < (rowsOf n f).length) : (rowsOf n f)[i] = f i := by simp [rowsOf]
theorem rowsOf_rd {n : Nat} (f : Int → List Int) {a : Int} (h0 : 0 ≤ a) (h1 : a < n) : rd_L1 (rowsOf n f) a = f a := by
  obtain ⟨i, rfl⟩ := Int.eq_ofNat_of_zero_le h0
  have hi : i < n := by omega
  unfold rd_L1
  rw [Int.toNat_natCast, List.getD_eq_getElem?_getD, List.getElem?_eq_getElem (by rw [rowsOf_len]; exact hi), Option.getD_some, rowsOf_get f i hi]
theorem rowsOf_set {n : Nat} (f : Int → List Int) {a : Int} (h0 : 0 ≤ a) (h1 : a < n) (x : List Int) : (rowsOf n f).set a.toNat x = rowsOf n (fun i => if i = a then x else f i) := by
  obtain ⟨i, rfl⟩ := Int.eq_ofNat_of_zero_le h0
  refine List.ext_getElem (by rw [List.length_set, rowsOf_len, rowsOf_len]) fun j hj hj' => ?_
  have hjn : j < n := by rw [rowsOf_len] at hj'; exact hj'
  rw [rowsOf_get _ j hjn]
  simp only [Int.toNat_natCast, List.getElem_set]
  by_cases h : i = j
  · subst h; rw [if_pos rfl, if_pos rfl]
  · rw [if_neg h, if_neg (by omega), rowsOf_get _ j hjn]
theorem rowsOf_nil (n : Nat) : List.replicate n ([] : List Int) = rowsOf n (fun _ => []) := by
  unfold rowsOf
  rw [List.map_const', List.length_range]
def pick0 (i : Int) (p : PrT) : Option Int := if p.f0 = i then some p.f1 else none
def pick1 (i : Int) (p : PrT) : Option Int := if p.f1 = i then some p.f0 else none
def pickL (i : Int) (p : PrT) : Option Int := if p.f0 = i then some p.f1 else if p.f1 = i then some p.f0 else none
def rowL (e : List PrT) (i : Int) : List Int := e.filterMap (pickL i)
theorem filterMap_take {α : Type} (f : PrT → Option α) (e : List PrT) (m : Nat) (hm : m < e.length) : (e.take (m + 1)).filterMap f = (e.take m).filterMap f ++ (f e[m]).toList := by
  rw [List.take_add_one, List.getElem?_eq_getElem hm, List.filterMap_append]
  cases h : f e[m] <;> simp [h]
theorem filterMap_le {α : Type} (f : PrT → Option α) (e : List PrT) (m : Nat) (he : e.length ≤ 1048576) : ((e.take m).filterMap f).length ≤ 1048576 := by
  have h1 := List.length_filterMap_le f (e.take m)
  have h2 := List.length_take_le m e
  have h3 : (e.take m).length ≤ e.length := by rw [List.length_take]; omega
  omega
theorem befP_trans {a b c : PrT} (h : befP a b = true) (k : befP b c = true) : befP a c = true := by
  unfold befP at *
  simp only [Bool.or_eq_true, Bool.and_eq_true, decide_eq_true_eq] at *
  omega
theorem goodP_pw (n : Int) (l : List PrT) : ∀ p, goodP n p l = true → l.Pairwise (fun a b => befP a b = true) ∧ (∀ q, p = some q → ∀ s ∈ l, befP q s = true) := by
  induction l with
  | nil => intro p h; exact ⟨.nil, fun q _ s hs => by cases hs⟩
  | cons x t ih =>
    intro p h
    simp only [goodP, Bool.and_eq_true, decide_eq_true_eq] at h
    obtain ⟨_, h4, h5⟩ := h
    obtain ⟨h1, h2⟩ := ih _ h5
    refine ⟨List.pairwise_cons.2 ⟨fun s hs => h2 x rfl s hs, h1⟩, fun q hq s hs => ?_⟩
    subst hq
    have hx : befP q x = true := h4
    rcases List.mem_cons.1 hs with rfl | hs
    · exact hx
    · exact befP_trans hx (h2 x rfl s hs)
/-- The rows of both passes, one behind the other, are the rows in the order of the steps. -/
theorem rowL_two (i : Int) (e : List PrT) : (∀ p ∈ e, p.f0 < p.f1) → e.Pairwise (fun a b => befP a b = true) → e.filterMap (pick1 i) ++ e.filterMap (pick0 i) = rowL e i := by
  induction e with
  | nil => intro _ _; rfl
  | cons p t ih =>
    intro hl hp
    obtain ⟨h1, h2⟩ := List.pairwise_cons.1 hp
    have ih' := ih (fun q hq => hl q (.tail _ hq)) h2
    have hpl := hl p (.head _)
    unfold rowL at ih' ⊢
    by_cases c0 : p.f0 = i
    · have e1 : pick1 i p = none := by unfold pick1; rw [if_neg (by omega)]
      have e0 : pick0 i p = some p.f1 := by unfold pick0; rw [if_pos c0]
      have eL : pickL i p = some p.f1 := by unfold pickL; rw [if_pos c0]
      have ht : t.filterMap (pick1 i) = [] := by
        rw [List.filterMap_eq_nil_iff]
        intro q hq
        have hb := h1 q hq
        have hq' := hl q (.tail _ hq)
        unfold befP at hb
        simp only [Bool.or_eq_true, Bool.and_eq_true, decide_eq_true_eq] at hb
        unfold pick1
        rw [if_neg (by omega)]
      rw [ht, List.nil_append] at ih'
      rw [List.filterMap_cons_none e1, List.filterMap_cons_some e0, List.filterMap_cons_some eL, ht, List.nil_append, ih']
    · have e0 : pick0 i p = none := by unfold pick0; rw [if_neg c0]
      by_cases c1 : p.f1 = i
      · have e1 : pick1 i p = some p.f0 := by unfold pick1; rw [if_pos c1]
        have eL : pickL i p = some p.f0 := by unfold pickL; rw [if_neg c0, if_pos c1]
        rw [List.filterMap_cons_some e1, List.filterMap_cons_none e0, List.filterMap_cons_some eL, List.cons_append, ih']
      · have e1 : pick1 i p = none := by unfold pick1; rw [if_neg c1]
        have eL : pickL i p = none := by unfold pickL; rw [if_neg c0, if_neg c1]
        rw [List.filterMap_cons_none e1, List.filterMap_cons_none e0, List.filterMap_cons_none eL, ih']
theorem rowL_rising (i : Int) (e : List PrT) (hl : ∀ p ∈ e, p.f0 < p.f1) (hp : e.Pairwise (fun a b => befP a b = true)) : (rowL e i).Pairwise (· < ·) := by
  have hp2 : e.Pairwise (fun a b => befP a b = true ∧ a.f0 < a.f1 ∧ b.f0 < b.f1) := by
    refine List.Pairwise.imp_of_mem (fun {a b} ha hb h => ⟨h, hl a ha, hl b hb⟩) hp
  refine List.Pairwise.filterMap _ (fun a b h x hx y hy => ?_) hp2
  obtain ⟨h, ha, hb⟩ := h
  unfold befP at h
  simp only [Bool.or_eq_true, Bool.and_eq_true, decide_eq_true_eq] at h
  unfold pickL at hx hy
  by_cases c0 : a.f0 = i
  · rw [if_pos c0] at hx
    by_cases d0 : b.f0 = i
    · rw [if_pos d0] at hy; simp at hx hy; omega
    · rw [if_neg d0] at hy
      by_cases d1 : b.f1 = i
      · rw [if_pos d1] at hy; simp at hx hy; omega
      · rw [if_neg d1] at hy; cases hy
  · rw [if_neg c0] at hx
    by_cases c1 : a.f1 = i
    · rw [if_pos c1] at hx
      by_cases d0 : b.f0 = i
      · rw [if_pos d0] at hy; simp at hx hy; omega
      · rw [if_neg d0] at hy
        by_cases d1 : b.f1 = i
        · rw [if_pos d1] at hy; simp at hx hy; omega
        · rw [if_neg d1] at hy; cases hy
    · rw [if_neg c1] at hx; cases hx
section
variable {l : List (List Int)} {e : List PrT} (he : e.length ≤ 1048576) (hg : ∀ p ∈ e, 0 ≤ p.f0 ∧ p.f0 < p.f1 ∧ p.f1 < (l.length : Int))
include he hg
theorem roads_loop (d : Nat) : ∀ (m : Nat), e.length - m = d → m ≤ e.length → Ev (fun k => impl_Space_roads.l0 k (rowsOf l.length (rowL (e.take m))) e (e.length : Int) (m : Int)) (rowsOf l.length (rowL e)) := by
  induction d with
  | zero =>
    intro m h0 h1
    refine Ev.step (fun k => by rw [impl_Space_roads.l0]) (Ev.neg (by omega) ?_)
    rw [List.take_of_length_le (by omega)]
    exact Ev.now _
  | succ d ih =>
    intro m h0 h1
    have hm : m < e.length := by omega
    have hp := hg e[m] (List.getElem_mem hm)
    have ihm := ih (m + 1) (by omega) (by omega)
    rw [← wrap_up hm (by omega)] at ihm
    refine Ev.step (fun k => by rw [impl_Space_roads.l0]) (Ev.pos (by omega) (Ev.pos (by omega) (Ev.pos (by omega) ?_)))
    rw [rdT_at e m hm, rowsOf_len, rowsOf_rd _ hp.1 (by omega), rowsOf_set _ hp.1 (by omega)]
    refine Ev.pos hp.1 (Ev.pos (by omega) (Ev.pos (by have := filterMap_le (pickL e[m].f0) e m he; unfold rowL; omega) (Ev.bindo rfl ?_)))
    rw [rowsOf_rd _ (by omega) hp.2.2, if_neg (by omega), rowsOf_set _ (by omega) hp.2.2]
    refine Ev.pos (by omega) (Ev.pos (by omega) (Ev.pos (by have := filterMap_le (pickL e[m].f1) e m he; unfold rowL; omega) ?_))
    rw [rowsOf_congr (g := rowL (e.take (m + 1))) (fun i hi => ?_)]
    · exact ihm
    · unfold rowL
      rw [filterMap_take (pickL i) e m hm]
      by_cases c1 : (i : Int) = e[m].f1
      · rw [if_pos c1, c1]
        unfold pickL
        rw [if_neg (by omega), if_pos rfl]
        rfl
      · rw [if_neg c1]
        by_cases c0 : (i : Int) = e[m].f0
        · rw [if_pos c0, c0]
          unfold pickL
          rw [if_pos rfl]
          rfl
        · rw [if_neg c0]
          have : pickL i e[m] = none := by unfold pickL; rw [if_neg (by omega), if_neg (by omega)]
          rw [this]
          simp
theorem lists_loop2 (d : Nat) : ∀ (m : Nat), e.length - m = d → m ≤ e.length → Ev (fun k => spec_l2Lists.l1 k (rowsOf l.length (fun i => e.filterMap (pick1 i) ++ (e.take m).filterMap (pick0 i))) (m : Int) l e) (rowsOf l.length (fun i => e.filterMap (pick1 i) ++ e.filterMap (pick0 i))) := by
  induction d with
  | zero =>
    intro m h0 h1
    refine Ev.step (fun k => by rw [spec_l2Lists.l1]) (Ev.neg (by omega) ?_)
    rw [List.take_of_length_le (by omega)]
    exact Ev.now _
  | succ d ih =>
    intro m h0 h1
    have hm : m < e.length := by omega
    have hp := hg e[m] (List.getElem_mem hm)
    have ihm := ih (m + 1) (by omega) (by omega)
    rw [← wrap_up hm (by omega)] at ihm
    refine Ev.step (fun k => by rw [spec_l2Lists.l1]) (Ev.pos (by omega) (Ev.pos (by omega) ?_))
    rw [rdT_at e m hm, rowsOf_len, rowsOf_rd _ hp.1 (by omega), rowsOf_set _ hp.1 (by omega)]
    refine Ev.pos hp.1 (Ev.pos (by omega) (Ev.pos ?_ ?_))
    · have h1 := filterMap_le (pick0 e[m].f0) e m he
      have h2 := filterMap_le (pick1 e[m].f0) e e.length he
      rw [List.take_length] at h2
      rw [List.length_append]
      omega
    rw [rowsOf_congr (g := fun i => e.filterMap (pick1 i) ++ (e.take (m + 1)).filterMap (pick0 i)) (fun i hi => ?_)]
    · exact ihm
    · rw [filterMap_take (pick0 i) e m hm]
      by_cases c0 : (i : Int) = e[m].f0
      · rw [if_pos c0, c0]
        unfold pick0
        rw [if_pos rfl, List.append_assoc]
        rfl
      · rw [if_neg c0]
        have : pick0 i e[m] = none := by unfold pick0; rw [if_neg (by omega)]
        rw [this]
        simp
theorem lists_loop1 {R : List (List Int)} (hR : Ev (fun k => spec_l2Lists.l1 k (rowsOf l.length (fun i => e.filterMap (pick1 i))) 0 l e) R) (d : Nat) : ∀ (m : Nat), e.length - m = d → m ≤ e.length → Ev (fun k => spec_l2Lists.l0 k (rowsOf l.length (fun i => (e.take m).filterMap (pick1 i))) (m : Int) l e) R := by
  induction d with
  | zero =>
    intro m h0 h1
    refine Ev.step (fun k => by rw [spec_l2Lists.l0]) (Ev.neg (by omega) ?_)
    rw [List.take_of_length_le (by omega)]
    exact hR
  | succ d ih =>
    intro m h0 h1
    have hm : m < e.length := by omega
    have hp := hg e[m] (List.getElem_mem hm)
    have ihm := ih (m + 1) (by omega) (by omega)
    rw [← wrap_up hm (by omega)] at ihm
    refine Ev.step (fun k => by rw [spec_l2Lists.l0]) (Ev.pos (by omega) (Ev.pos (by omega) ?_))
    rw [rdT_at e m hm, rowsOf_len, rowsOf_rd _ (by omega) hp.2.2, rowsOf_set _ (by omega) hp.2.2]
    refine Ev.pos (by omega) (Ev.pos (by omega) (Ev.pos (by have := filterMap_le (pick1 e[m].f1) e m he; omega) ?_))
    rw [rowsOf_congr (g := fun i => (e.take (m + 1)).filterMap (pick1 i)) (fun i hi => ?_)]
    · exact ihm
    · rw [filterMap_take (pick1 i) e m hm]
      by_cases c0 : (i : Int) = e[m].f1
      · rw [if_pos c0, c0]
        unfold pick1
        rw [if_pos rfl]
        rfl
      · rw [if_neg c0]
        have : pick1 i e[m] = none := by unfold pick1; rw [if_neg (by omega)]
        rw [this]
        simp
end
theorem sortL_self {l : List Int} (h : l.Pairwise (· < ·)) : sortL l = l := by
  unfold sortL
  exact List.mergeSort_of_pairwise (h.imp fun hab => by simp; omega)
theorem sortRows_self (z : List (List Int)) (h : ∀ s ∈ z, s.Pairwise (· < ·) ∧ s.length < 4611686018427387904) : sortRows z = some z := by
  induction z with
  | nil => rfl
  | cons s t ih =>
    have hs := h s (.head _)
    rw [sortRows, show slices_Sort_int_int.f s = some s from by unfold slices_Sort_int_int.f; rw [if_pos hs.2, sortL_self hs.1], Option.bind_some, ih (fun q hq => h q (.tail _ hq)), Option.bind_some]
section
variable (l : List (List Int)) (e : List PrT) (hm : modS l e) (hg : goodP (l.length : Int) none e = true)
include hm hg
/-- The rows of a space. -/
def roadsL (l : List (List Int)) (e : List PrT) : List (List Int) := rowsOf l.length (rowL e)
theorem roads_ev : Ev (fun k => impl_Space_roads.f k l e) (roadsL l e) := by
  have ha := goodP_all (l.length : Int) e none hg
  have hp := (goodP_pw (l.length : Int) e none hg).1
  have hl := roads_loop (l := l) hm.2.2 ha (e.length - 0) 0 rfl (Nat.zero_le _)
  unfold impl_Space_roads.f impl_Space_roads.g
  rw [show (fun k => ((if 0 ≤ (l.length : Int) then (if ((l.length : Int) : Int).toNat ≤ 11728124029610 then (impl_Space_roads.l0 k (List.replicate ((l.length : Int) : Int).toNat []) e (e.length : Int) 0) else (none)) else (none)).bind sortRows)) = fun k => ((impl_Space_roads.l0 k (List.replicate ((l.length : Int) : Int).toNat []) e (e.length : Int) 0).bind sortRows) from funext fun k => by rw [if_pos (by omega), if_pos (by have := hm.1; omega)]]
  rw [Int.toNat_natCast, rowsOf_nil]
  have e0 : rowL (e.take 0) = fun _ => [] := funext fun i => by simp [rowL]
  rw [e0] at hl
  refine Ev.bind hl (Ev.some ?_)
  refine sortRows_self _ fun s hs => ?_
  unfold roadsL rowsOf at *
  obtain ⟨i, _, rfl⟩ := List.mem_map.1 hs
  refine ⟨rowL_rising _ e (fun p hp => (ha p hp).2.1) hp, ?_⟩
  have := filterMap_le (pickL i) e e.length hm.2.2
  rw [List.take_length] at this
  unfold rowL
  omega
theorem lists_ev : Ev (fun k => spec_l2Lists.f k l e) (roadsL l e) := by
  have ha := goodP_all (l.length : Int) e none hg
  have hp := (goodP_pw (l.length : Int) e none hg).1
  have h2 := lists_loop2 (l := l) hm.2.2 ha (e.length - 0) 0 rfl (Nat.zero_le _)
  have e0 : (fun i => e.filterMap (pick1 i) ++ (e.take 0).filterMap (pick0 i)) = fun i => e.filterMap (pick1 i) := funext fun i => by simp
  rw [e0] at h2
  have h1 := lists_loop1 (l := l) hm.2.2 ha h2 (e.length - 0) 0 rfl (Nat.zero_le _)
  have e1 : (fun i => (e.take 0).filterMap (pick1 i)) = fun _ => [] := funext fun i => by simp
  rw [e1] at h1
  unfold spec_l2Lists.f
  refine Ev.pos (by omega) (Ev.pos (by have := hm.1; omega) ?_)
  rw [Int.toNat_natCast, rowsOf_nil]
  rw [show roadsL l e = rowsOf l.length (fun i => e.filterMap (pick1 i) ++ e.filterMap (pick0 i)) from rowsOf_congr fun i _ => (rowL_two i e (fun p hp => (ha p hp).2.1) hp).symm]
  exact h1
end
theorem roadsL_len (l : List (List Int)) (e : List PrT) : (roadsL l e).length = l.length := rowsOf_len _ _
theorem rowL_le (e : List PrT) (i : Int) : (rowL e i).length ≤ e.length := List.length_filterMap_le _ _
end Go.Proofs.Ytmhoemdclnlgaaa.P
namespace Go.Proofs.Ytmhoemdclnlgaaa.P
open Go.RowKit Go.Proofs.YtmhoemdclnlgaaaW.PrintWords Go.Proofs.YtmhoemdclnlgaaaW.PrintLast Go.Proofs.YtmhoemdclnlgaaaW.PrintMore
set_option linter.unusedVariables false
set_option linter.unusedSimpArgs false

theorem rd_set (l : List Int) (j k : Int) (v : Int) (h : j.toNat < l.length) : rd (l.set j.toNat v) k = if k.toNat = j.toNat then v else rd l k := by
  unfold rd
  rw [List.getD_eq_getElem?_getD, List.getD_eq_getElem?_getD, List.getElem?_set]
  by_cases c : j.toNat = k.toNat
  · rw [if_pos c, if_pos c.symm, if_pos h, Option.getD_some]
  · rw [if_neg c, if_neg (Ne.symm c)]
def negs (l : List Int) : Nat := l.countP fun x => decide (x < 0)
theorem negs_set (l : List Int) (j : Int) (v : Int) (h : j.toNat < l.length) (hj : rd l j < 0) (hv : 0 ≤ v) : negs (l.set j.toNat v) + 1 = negs l := by
  have e1 : rd l j = l[j.toNat] := by unfold rd; rw [List.getD_eq_getElem?_getD, List.getElem?_eq_getElem h, Option.getD_some]
  rw [e1] at hj
  unfold negs
  rw [List.countP_set h]
  have hp : 0 < l.countP (fun x => decide (x < 0)) := List.countP_pos_iff.2 ⟨_, List.getElem_mem h, decide_eq_true hj⟩
  rw [if_pos (decide_eq_true hj), if_neg (by simp; omega)]
  omega
/-- A set of places that no row leads out of. -/
def closedZ (z : List (List Int)) (P : Int → Prop) : Prop := ∀ i, 0 ≤ i → i < (z.length : Int) → P i → ∀ j ∈ rd_L1 z i, P j
/-- Each row holds places. -/
def okZ (z : List (List Int)) : Prop := ∀ i, 0 ≤ i → i < (z.length : Int) → ∀ j ∈ rd_L1 z i, 0 ≤ j ∧ j < (z.length : Int)
section
variable {z : List (List Int)} (hz : okZ z) (hn : z.length ≤ 1048576) (hr : ∀ i, (rd_L1 z i).length ≤ 1048576)
include hn
theorem spread_inner {row : List Int} (hrow : ∀ j ∈ row, 0 ≤ j ∧ j < (z.length : Int)) (hrl : row.length ≤ 1048576) (i : Int) (hi : 0 ≤ i ∧ i < (z.length : Int)) (h : Nat) (d : Nat) :
    ∀ (m : Nat) (out Q : List Int), row.length - m = d → m ≤ row.length → out.length = z.length → h < Q.length → rd Q (h : Int) = i → 0 ≤ rd out i → (∀ k, rd out k < (Q.length : Int)) → negs out + Q.length ≤ 1048576 →
    ∃ (out' new : List Int), out'.length = z.length ∧ (∀ k, rd out' k < ((Q ++ new).length : Int)) ∧ negs out' + (Q ++ new).length = negs out + Q.length ∧ (∀ k, 0 ≤ rd out k → rd out' k = rd out k) ∧
      (∀ j ∈ row.drop m, 0 ≤ rd out' j) ∧ (∀ j ∈ new, j ∈ row ∧ rd out' j = rd out i + 1) ∧ (∀ k, 0 ≤ k → k < (z.length : Int) → 0 ≤ rd out' k → 0 ≤ rd out k ∨ k ∈ new) ∧
      (∀ R, Ev (fun k => impl_spread.l0 k z out' ((Q ++ new).drop (h + 1))) R → Ev (fun k => impl_spread.l1 k z out (Q.drop (h + 1)) i row (row.length : Int) (m : Int)) R) ∧
      (∀ R, Ev (fun k => spec_l2Spread.l1 k z out' (Q ++ new) (wrap64 ((h : Int) + 1))) R → Ev (fun k => spec_l2Spread.l2 k z out Q (h : Int) row (m : Int)) R) := by
  induction d with
  | zero =>
    intro m out Q h0 h1 h2 h3 h4 h5 h6 h7
    refine ⟨out, [], h2, by simpa using h6, by simp, fun _ _ => rfl, fun j hj => ?_, (fun j hj => by cases hj), fun k _ _ hk => .inl hk, fun R hR => ?_, fun R hR => ?_⟩
    · rw [List.drop_eq_nil_of_le (by omega)] at hj; cases hj
    · rw [List.append_nil] at hR
      refine Ev.step (fun k => by rw [impl_spread.l1]) ?_
      refine Ev.neg (by omega) ?_
      exact hR
    · rw [List.append_nil] at hR
      refine Ev.step (fun k => by rw [spec_l2Spread.l2]) ?_
      refine Ev.neg (by omega) ?_
      exact hR
  | succ d ih =>
    intro m out Q h0 h1 h2 h3 h4 h5 h6 h7
    have hm : m < row.length := by omega
    have hj := hrow row[m] (List.getElem_mem hm)
    have hjl : row[m].toNat < out.length := by omega
    by_cases c : rd out row[m] < 0
    · have hv6 := h6 i
      have hw : wrap64 (rd out i + 1) = rd out i + 1 := wrap_nat (by omega) (by omega)
      have hne : row[m].toNat ≠ i.toNat := fun e => by
        have : rd out row[m] = rd out i := by unfold rd; rw [e]
        omega
      have hrs : ∀ k, rd (out.set row[m].toNat (rd out i + 1)) k = if k.toNat = row[m].toNat then rd out i + 1 else rd out k := fun k => rd_set out row[m] k _ hjl
      have hng := negs_set out row[m] (rd out i + 1) hjl c (by omega)
      have hQ4 : rd (Q ++ [row[m]]) (h : Int) = i := by
        rw [← h4, rd_at _ h (by simp; omega), rd_at Q h h3, List.getElem_append_left h3]
      obtain ⟨out', new, a1, a2, a3, a4, a5, a6, a7, a8, a9⟩ := ih (m + 1) (out.set row[m].toNat (rd out i + 1)) (Q ++ [row[m]]) (by omega) (by omega) (by rw [List.length_set, h2]) (by simp; omega) hQ4
        (by rw [hrs, if_neg (Ne.symm hne)]; exact h5)
        (fun k => by rw [hrs, List.length_append, List.length_singleton]; have := h6 k; split <;> omega)
        (by rw [List.length_append, List.length_singleton]; omega)
      have hmono : ∀ k, 0 ≤ rd out k → rd (out.set row[m].toNat (rd out i + 1)) k = rd out k := fun k hk => by
        rw [hrs]
        by_cases ck : k.toNat = row[m].toNat
        · have : rd out k = rd out row[m] := by unfold rd; rw [ck]
          omega
        · rw [if_neg ck]
      have hself : rd out' row[m] = rd out i + 1 := by
        have e0 : rd (out.set row[m].toNat (rd out i + 1)) row[m] = rd out i + 1 := by rw [hrs, if_pos rfl]
        rw [a4 _ (by rw [e0]; omega), e0]
      have hap : Q ++ row[m] :: new = (Q ++ [row[m]]) ++ new := by simp
      refine ⟨out', row[m] :: new, a1, ?_, ?_, fun k hk => (a4 k (by rw [hmono k hk]; exact hk)).trans (hmono k hk), fun j hj' => ?_, fun j hj' => ?_, fun k hk0 hk1 hk => ?_, fun R hR => ?_, fun R hR => ?_⟩
      · rw [hap]; exact a2
      · rw [hap, a3, List.length_append, List.length_singleton]; omega
      · rw [List.drop_eq_getElem_cons hm] at hj'
        rcases List.mem_cons.1 hj' with rfl | hj'
        · rw [hself]; omega
        · exact a5 j hj'
      · rcases List.mem_cons.1 hj' with rfl | hj'
        · exact ⟨List.getElem_mem hm, hself⟩
        · exact ⟨(a6 j hj').1, by rw [(a6 j hj').2, hmono i h5]⟩
      · rcases a7 k hk0 hk1 hk with h' | h'
        · rw [hrs] at h'
          by_cases ck : k.toNat = row[m].toNat
          · right; rw [show k = row[m] by omega]; exact .head _
          · rw [if_neg ck] at h'; exact .inl h'
        · exact .inr (.tail _ h')
      · rw [hap] at hR
        have := a8 R hR
        rw [← wrap_up hm (by omega), List.drop_append_of_le_length (by omega)] at this
        refine Ev.step (fun k => by rw [impl_spread.l1]) ?_
        refine Ev.pos (by omega) ?_
        refine Ev.pos (by omega) ?_
        refine Ev.pos (by omega) ?_
        rw [rd_at row m hm]
        refine Ev.pos hj.1 ?_
        refine Ev.pos (by omega) ?_
        refine Ev.pos c ?_
        refine Ev.pos hi.1 ?_
        refine Ev.pos (by omega) ?_
        refine Ev.pos (by rw [List.length_drop]; omega) ?_
        rw [hw]
        exact this
      · rw [hap] at hR
        have := a9 R hR
        rw [← wrap_up hm (by omega)] at this
        refine Ev.step (fun k => by rw [spec_l2Spread.l2]) ?_
        refine Ev.pos (by omega) ?_
        refine Ev.pos (by omega) ?_
        rw [rd_at row m hm, h4]
        refine Ev.pos hj.1 ?_
        refine Ev.pos (by omega) ?_
        refine Ev.pos c ?_
        refine Ev.pos (by omega) ?_
        refine Ev.pos (by omega) ?_
        refine Ev.pos hi.1 ?_
        refine Ev.pos (by omega) ?_
        refine Ev.pos (by omega) ?_
        rw [hw]
        exact this
    · obtain ⟨out', new, a1, a2, a3, a4, a5, a6, a7, a8, a9⟩ := ih (m + 1) out Q (by omega) (by omega) h2 h3 h4 h5 h6 h7
      refine ⟨out', new, a1, a2, a3, a4, fun j hj' => ?_, a6, a7, fun R hR => ?_, fun R hR => ?_⟩
      · rw [List.drop_eq_getElem_cons hm] at hj'
        rcases List.mem_cons.1 hj' with rfl | hj'
        · rw [a4 _ (by omega)]; omega
        · exact a5 j hj'
      · have := a8 R hR
        rw [← wrap_up hm (by omega)] at this
        refine Ev.step (fun k => by rw [impl_spread.l1]) ?_
        refine Ev.pos (by omega) ?_
        refine Ev.pos (by omega) ?_
        refine Ev.pos (by omega) ?_
        rw [rd_at row m hm]
        refine Ev.pos hj.1 ?_
        refine Ev.pos (by omega) ?_
        refine Ev.neg c ?_
        exact this
      · have := a9 R hR
        rw [← wrap_up hm (by omega)] at this
        refine Ev.step (fun k => by rw [spec_l2Spread.l2]) ?_
        refine Ev.pos (by omega) ?_
        refine Ev.pos (by omega) ?_
        rw [rd_at row m hm]
        refine Ev.pos hj.1 ?_
        refine Ev.pos (by omega) ?_
        refine Ev.neg c ?_
        exact this
include hz hr
theorem spread_outer (s : Int) (u : Nat) : ∀ (out Q : List Int) (h : Nat), negs out + (Q.length - h) = u → h ≤ Q.length → out.length = z.length → (∀ k, rd out k < (Q.length : Int)) → negs out + Q.length ≤ 1048576 → 0 < Q.length →
    (∀ q ∈ Q, 0 ≤ q ∧ q < (z.length : Int) ∧ 0 ≤ rd out q) → (∀ k, 0 ≤ k → k < (z.length : Int) → 0 ≤ rd out k → k ∈ Q) → (∀ q ∈ Q.take h, ∀ j ∈ rd_L1 z q, 0 ≤ rd out j) → (∀ P, closedZ z P → P s → ∀ q ∈ Q, P q) → rd out s = 0 → (∀ k, 0 ≤ k → k < (z.length : Int) → 0 ≤ rd out k → k = s ∨ ∃ p, 0 ≤ p ∧ p < (z.length : Int) ∧ k ∈ rd_L1 z p ∧ 0 ≤ rd out p ∧ rd out k = rd out p + 1) →
    ∃ R, Ev (fun k => impl_spread.l0 k z out (Q.drop h)) R ∧ Ev (fun k => spec_l2Spread.l1 k z out Q (h : Int)) R ∧ R.length = z.length ∧ (∀ k, rd R k ≤ 1048575) ∧ (∀ k, 0 ≤ rd out k → 0 ≤ rd R k) ∧ closedZ z (fun k => 0 ≤ rd R k) ∧ (∀ P, closedZ z P → P s → ∀ k, 0 ≤ k → k < (z.length : Int) → 0 ≤ rd R k → P k) ∧ rd R s = 0 ∧ (∀ k, 0 ≤ k → k < (z.length : Int) → 0 ≤ rd R k → k = s ∨ ∃ p, 0 ≤ p ∧ p < (z.length : Int) ∧ k ∈ rd_L1 z p ∧ 0 ≤ rd R p ∧ rd R k = rd R p + 1) := by
  induction u with
  | zero =>
    intro out Q h h0 h1 h2 h3 h4 hQ0 h5 h6 h7 h8 hS hE
    have he : h = Q.length := by omega
    refine ⟨out, ?_, ?_, h2, fun k => by have := h3 k; omega, fun _ hk => hk, fun i hi0 hi1 hi j hj => ?_, fun P hP hs k hk0 hk1 hk => h8 P hP hs k (h6 k hk0 hk1 hk), hS, hE⟩
    · rw [List.drop_eq_nil_of_le (by omega)]
      refine Ev.step (fun k => by rw [impl_spread.l0]) ?_
      refine Ev.neg (by simp) ?_
      exact (Ev.now _)
    · refine Ev.step (fun k => by rw [spec_l2Spread.l1]) ?_
      refine Ev.neg (by omega) ?_
      exact (Ev.now _)
    · exact h7 i (by rw [List.take_of_length_le (by omega)]; exact h6 i hi0 hi1 hi) j hj
  | succ u ih =>
    intro out Q h h0 h1 h2 h3 h4 hQ0 h5 h6 h7 h8 hS hE
    by_cases ce : h = Q.length
    · refine ⟨out, ?_, ?_, h2, fun k => by have := h3 k; omega, fun _ hk => hk, fun i hi0 hi1 hi j hj => ?_, fun P hP hs k hk0 hk1 hk => h8 P hP hs k (h6 k hk0 hk1 hk), hS, hE⟩
      · rw [List.drop_eq_nil_of_le (by omega)]
        refine Ev.step (fun k => by rw [impl_spread.l0]) ?_
        refine Ev.neg (by simp) ?_
        exact (Ev.now _)
      · refine Ev.step (fun k => by rw [spec_l2Spread.l1]) ?_
        refine Ev.neg (by omega) ?_
        exact (Ev.now _)
      · exact h7 i (by rw [List.take_of_length_le (by omega)]; exact h6 i hi0 hi1 hi) j hj
    have hh : h < Q.length := by omega
    obtain ⟨q0, q1, q2⟩ := h5 Q[h] (List.getElem_mem hh)
    have hrow := hz Q[h] q0 q1
    obtain ⟨out', new, a1, a2, a3, a4, a5, a6, a7, a8, a9⟩ := spread_inner hn hrow (hr _) Q[h] ⟨q0, q1⟩ h ((rd_L1 z Q[h]).length - 0) 0 out Q rfl (Nat.zero_le _) h2 hh (rd_at Q h hh) q2 h3 h4
    rw [List.drop_zero] at a5
    simp only [Int.natCast_zero] at a8 a9
    obtain ⟨R, r1, r2, r3, r4, r5, r6, r7, r8, r9⟩ := ih out' (Q ++ new) (h + 1) (by rw [List.length_append] at a3 ⊢; omega) (by rw [List.length_append]; omega) a1 a2 (by omega) (by rw [List.length_append]; omega)
      (fun q hq => by
        rcases List.mem_append.1 hq with hq | hq
        · obtain ⟨b0, b1, b2⟩ := h5 q hq; exact ⟨b0, b1, by rw [a4 q b2]; exact b2⟩
        · obtain ⟨b0, b1⟩ := a6 q hq; exact ⟨(hrow q b0).1, (hrow q b0).2, by rw [b1]; omega⟩)
      (fun k hk0 hk1 hk => by
        rcases a7 k hk0 hk1 hk with h' | h'
        · exact List.mem_append_left _ (h6 k hk0 hk1 h')
        · exact List.mem_append_right _ h')
      (fun q hq j hj => by
        rw [List.take_append_of_le_length (by omega), List.take_add_one, List.getElem?_eq_getElem hh] at hq
        rcases List.mem_append.1 hq with hq | hq
        · rw [a4 j (h7 q hq j hj)]; exact h7 q hq j hj
        · rw [show q = Q[h] by simpa using hq] at hj; exact a5 j hj)
      (fun P hP hs q hq => by
        rcases List.mem_append.1 hq with hq | hq
        · exact h8 P hP hs q hq
        · exact hP Q[h] q0 q1 (h8 P hP hs _ (List.getElem_mem hh)) q (a6 q hq).1)
      (by rw [a4 s (by omega)]; exact hS)
      (fun k hk0 hk1 hk => by
        rcases a7 k hk0 hk1 hk with h' | h'
        · rcases hE k hk0 hk1 h' with e | ⟨p, p0, p1, p2, p3, p4⟩
          · exact .inl e
          · exact .inr ⟨p, p0, p1, p2, by rw [a4 p p3]; exact p3, by rw [a4 p p3, a4 k h']; exact p4⟩
        · obtain ⟨b0, b1⟩ := a6 k h'
          exact .inr ⟨Q[h], q0, q1, b0, by rw [a4 _ q2]; exact q2, by rw [a4 _ q2]; exact b1⟩)
    refine ⟨R, ?_, ?_, r3, r4, fun k hk => r5 k (by rw [a4 k hk]; exact hk), r6, r7, r8, r9⟩
    · have e8 := a8 R r1
      rw [List.drop_eq_getElem_cons hh]
      refine Ev.step (fun k => by rw [impl_spread.l0]) ?_
      refine Ev.pos (by rw [List.length_cons]; omega) ?_
      refine Ev.pos (by rw [List.length_cons]; omega) ?_
      refine Ev.pos (by rw [List.length_cons]; omega) ?_
      have e1 : rd (Q[h] :: Q.drop (h + 1)) 0 = Q[h] := rfl
      have e2 : (Q[h] :: Q.drop (h + 1)).drop (1 : Int).toNat = Q.drop (h + 1) := rfl
      rw [e1, e2]
      refine Ev.pos q0 ?_
      refine Ev.pos q1 ?_
      exact e8
    · have hwh : wrap64 ((h : Int) + 1) = ((h + 1 : Nat) : Int) := wrap_up hh (by omega)
      rw [hwh] at a9
      clear hwh
      have e9 := a9 R r2
      refine Ev.step (fun k => by rw [spec_l2Spread.l1]) ?_
      refine Ev.pos (by omega) ?_
      refine Ev.pos (by omega) ?_
      rw [rd_at Q h hh]
      refine Ev.pos q0 ?_
      refine Ev.pos q1 ?_
      exact e9
end
theorem fill_loop {z : List (List Int)} (i : Int) {R : List Int} (d : Nat) : ∀ (m : Nat) (out : List Int), out.length - m = d → m ≤ out.length → out.length ≤ 1048576 → out.take m = List.replicate m (-1) → Ev (fun k => spec_l2Spread.l0 k z i (List.replicate out.length (-1)) (out.length : Int)) R → Ev (fun k => spec_l2Spread.l0 k z i out (m : Int)) R := by
  induction d with
  | zero =>
    intro m out h0 h1 h2 h3 hR
    have he : m = out.length := by omega
    rw [he] at h3 ⊢
    rw [List.take_length] at h3
    rw [← h3] at hR
    exact hR
  | succ d ih =>
    intro m out h0 h1 h2 h3 hR
    have hm : m < out.length := by omega
    refine Ev.step (fun k => by rw [spec_l2Spread.l0]) ?_
    refine Ev.pos (by omega) ?_
    refine Ev.pos (by omega) ?_
    have := ih (m + 1) (out.set m (-1)) (by rw [List.length_set]; omega) (by rw [List.length_set]; omega) (by rw [List.length_set]; exact h2) (by
      rw [List.take_add_one, List.getElem?_set_self hm, List.take_set_of_le (Nat.le_refl _), h3, List.replicate_succ', Option.toList]) (by rw [List.length_set]; exact hR)
    rw [← wrap_up hm (by omega)] at this
    rw [Int.toNat_natCast]
    exact this
/-- What both sides' spread answers. -/
theorem spread_both {z : List (List Int)} (hz : okZ z) (hn : z.length ≤ 1048576) (hr : ∀ i, (rd_L1 z i).length ≤ 1048576) (s : Int) (hs0 : 0 ≤ s) (hs1 : s < (z.length : Int)) :
    ∃ R, Ev (fun k => impl_spread.f k z s) R ∧ Ev (fun k => spec_l2Spread.f k z s) R ∧ R.length = z.length ∧ (∀ k, rd R k ≤ 1048575) ∧ 0 ≤ rd R s ∧ closedZ z (fun k => 0 ≤ rd R k) ∧ (∀ P, closedZ z P → P s → ∀ k, 0 ≤ k → k < (z.length : Int) → 0 ≤ rd R k → P k) ∧ rd R s = 0 ∧ (∀ k, 0 ≤ k → k < (z.length : Int) → 0 ≤ rd R k → k = s ∨ ∃ p, 0 ≤ p ∧ p < (z.length : Int) ∧ k ∈ rd_L1 z p ∧ 0 ≤ rd R p ∧ rd R k = rd R p + 1) := by
  have hl : s.toNat < (List.replicate z.length (-1 : Int)).length := by rw [List.length_replicate]; omega
  have hrs : ∀ k, rd ((List.replicate z.length (-1 : Int)).set s.toNat 0) k = if k.toNat = s.toNat then 0 else rd (List.replicate z.length (-1)) k := fun k => rd_set _ s k 0 hl
  have hrep : ∀ k, rd (List.replicate z.length (-1 : Int)) k < 1 := fun k => by
    unfold rd; rw [List.getD_eq_getElem?_getD, List.getElem?_replicate]; split <;> simp
  have hrep2 : ∀ k : Int, 0 ≤ k → k < (z.length : Int) → rd (List.replicate z.length (-1 : Int)) k = -1 := fun k h0 h1 => by
    unfold rd; rw [List.getD_eq_getElem?_getD, List.getElem?_replicate, if_pos (by omega)]; rfl
  have hneg := negs_set (List.replicate z.length (-1 : Int)) s 0 hl (by rw [hrep2 s hs0 hs1]; decide) (Int.le_refl _)
  have hneg2 : negs (List.replicate z.length (-1 : Int)) ≤ z.length := by have := List.countP_le_length (p := fun x => decide (x < 0)) (l := List.replicate z.length (-1 : Int)); rw [List.length_replicate] at this; exact this
  obtain ⟨R, r1, r2, r3, r4, r5, r6, r7, r8, r9⟩ := spread_outer hz hn hr s _ ((List.replicate z.length (-1 : Int)).set s.toNat 0) [s] 0 rfl (Nat.zero_le _) (by rw [List.length_set, List.length_replicate])
    (fun k => by rw [hrs]; have := hrep k; simp only [List.length_singleton]; split <;> omega) (by rw [List.length_singleton]; omega) (by simp)
    (fun q hq => by rw [show q = s by simpa using hq]; exact ⟨hs0, hs1, by rw [hrs, if_pos rfl]; exact Int.le_refl _⟩)
    (fun k hk0 hk1 hk => by
      rw [hrs] at hk
      by_cases c : k.toNat = s.toNat
      · rw [show k = s by omega]; exact .head _
      · rw [if_neg c, hrep2 k hk0 hk1] at hk; omega)
    (fun q hq => by simp at hq) (fun P hP hs q hq => by rw [show q = s by simpa using hq]; exact hs) (by rw [hrs, if_pos rfl])
    (fun k hk0 hk1 hk => by
      rw [hrs] at hk
      by_cases c : k.toNat = s.toNat
      · exact .inl (by omega)
      · rw [if_neg c, hrep2 k hk0 hk1] at hk; omega)
  simp only [Int.natCast_zero, List.drop_zero] at r1 r2
  refine ⟨R, ?_, ?_, r3, r4, r5 s (by rw [hrs, if_pos rfl]; exact Int.le_refl _), r6, r7, r8, r9⟩
  · unfold impl_spread.f
    refine Ev.bindo (a := List.replicate z.length (-1)) ?_ ?_
    · unfold slices_Repeat_int_int.f
      rw [if_pos ⟨rfl, by omega, by omega⟩, Int.toNat_natCast]
      rfl
    · rw [List.length_replicate]
      refine Ev.pos hs0 ?_
      refine Ev.pos hs1 ?_
      exact r1
  · unfold spec_l2Spread.f
    refine Ev.pos (by omega) ?_
    refine Ev.pos (by omega) ?_
    rw [Int.toNat_natCast]
    have hfill := fill_loop (z := z) (R := R) s _ 0 (List.replicate z.length 0) rfl (Nat.zero_le _) (by rw [List.length_replicate]; exact hn) (by simp)
    simp only [Int.natCast_zero, List.length_replicate] at hfill
    refine hfill ?_
    refine Ev.step (fun k => by rw [spec_l2Spread.l0]) ?_
    refine Ev.neg (by rw [List.length_replicate]; omega) ?_
    rw [List.length_replicate]
    refine Ev.pos hs0 ?_
    refine Ev.pos hs1 ?_
    exact r2
end Go.Proofs.Ytmhoemdclnlgaaa.P
namespace Go.Proofs.Ytmhoemdclnlgaaa.P
open Go.RowKit Go.Proofs.YtmhoemdclnlgaaaW.PrintWords Go.Proofs.YtmhoemdclnlgaaaW.PrintLast Go.Proofs.YtmhoemdclnlgaaaW.PrintMore
set_option linter.unusedVariables false
set_option linter.unusedSimpArgs false

def free (l : List Bool) : Nat := l.countP fun x => !x
def symZ (z : List (List Int)) : Prop := ∀ i j, 0 ≤ i → i < (z.length : Int) → 0 ≤ j → j < (z.length : Int) → j ∈ rd_L1 z i → i ∈ rd_L1 z j
section
variable {z : List (List Int)} (hn : z.length ≤ 1048576)
include hn
variable (hz : okZ z) (hr : ∀ i, (rd_L1 z i).length ≤ 1048576)
include hz hr
end
section
variable {z : List (List Int)} (hn : z.length ≤ 1048576) (hz : okZ z) (hr : ∀ i, (rd_L1 z i).length ≤ 1048576) (hs : symZ z)
include hn hz hr hs
end
end Go.Proofs.Ytmhoemdclnlgaaa.P
namespace Go.Proofs.Ytmhoemdclnlgaaa.P
open Go.RowKit Go.Proofs.YtmhoemdclnlgaaaW.PrintWords Go.Proofs.YtmhoemdclnlgaaaW.PrintLast Go.Proofs.YtmhoemdclnlgaaaW.PrintMore
set_option linter.unusedVariables false
set_option linter.unusedSimpArgs false

theorem rowL_mem (e : List PrT) (i j : Int) : j ∈ rowL e i ↔ ∃ p ∈ e, (p.f0 = i ∧ p.f1 = j) ∨ (p.f0 ≠ i ∧ p.f1 = i ∧ p.f0 = j) := by
  unfold rowL
  rw [List.mem_filterMap]
  refine exists_congr fun p => and_congr_right fun _ => ?_
  unfold pickL
  by_cases c0 : p.f0 = i
  · rw [if_pos c0]; simp [c0]
  · rw [if_neg c0]
    by_cases c1 : p.f1 = i
    · rw [if_pos c1]; simp [c0, c1]
    · rw [if_neg c1]; simp [c0, c1]
section
variable (l : List (List Int)) (e : List PrT) (hm : modS l e) (hg : goodP (l.length : Int) none e = true)
include hm hg
theorem roadsL_ok : okZ (roadsL l e) := by
  have _hu := hm
  have ha := goodP_all (l.length : Int) e none hg
  intro i h0 h1 j hj
  rw [roadsL_len] at h1 ⊢
  unfold roadsL at hj
  rw [rowsOf_rd _ h0 h1, rowL_mem] at hj
  obtain ⟨p, hp, h⟩ := hj
  have := ha p hp
  omega
theorem roadsL_sym : symZ (roadsL l e) := by
  have _hu := hm
  have ha := goodP_all (l.length : Int) e none hg
  intro i j h0 h1 h2 h3 hj
  rw [roadsL_len] at h1 h3
  unfold roadsL at hj ⊢
  rw [rowsOf_rd _ h0 h1, rowL_mem] at hj
  rw [rowsOf_rd _ h2 h3, rowL_mem]
  obtain ⟨p, hp, h⟩ := hj
  refine ⟨p, hp, ?_⟩
  have := ha p hp
  omega
theorem roadsL_row (i : Int) : (rd_L1 (roadsL l e) i).length ≤ 1048576 := by
  have _hu := hg
  unfold rd_L1
  rw [List.getD_eq_getElem?_getD]
  cases h : (roadsL l e)[i.toNat]? with
  | none => exact Nat.zero_le _
  | some s =>
    have hs := List.mem_of_getElem? h
    unfold roadsL rowsOf at hs
    obtain ⟨q, _, rfl⟩ := List.mem_map.1 hs
    exact Nat.le_trans (rowL_le _ _) hm.2.2
end
end Go.Proofs.Ytmhoemdclnlgaaa.P
namespace Go.Proofs.Ytmhoemdclnlgaaa.P
open Go.RowKit Go.Proofs.YtmhoemdclnlgaaaW.PrintWords Go.Proofs.YtmhoemdclnlgaaaW.PrintLast Go.Proofs.YtmhoemdclnlgaaaW.PrintMore
set_option linter.unusedVariables false
set_option linter.unusedSimpArgs false

theorem place_at (n : Nat) (hn : n ≤ 1048576) (i : Int) : wrap64 ((n : Int) - 1) = (n : Int) - 1 := by unfold wrap64; omega
theorem l2Place_ev (l : List (List Int)) (e : List PrT) (hm : modS l e) (i : Int) : Ev (fun k => spec_l2Place.f k l e i) (okS l e && (decide (0 ≤ i) && decide (i ≤ (l.length : Int) - 1))) := by
  unfold spec_l2Place.f
  refine Ev.bind (l2Space_ev l e hm) ?_
  cases h : okS l e with
  | true =>
    refine Ev.pos rfl (Ev.bindo (in_at _ _ _) ?_)
    rw [place_at l.length hm.1 i, Bool.true_and]
    exact Ev.now _
  | false => exact Ev.neg (by decide) (Ev.now _)
theorem isPlace_at (l : List (List Int)) (e : List PrT) (hm : modS l e) (i : Int) : impl_Space_isPlace.f l e i = some (decide (0 ≤ i) && decide (i ≤ (l.length : Int) - 1)) := by
  unfold impl_Space_isPlace.f
  rw [place_at l.length hm.1 i, between_at, Option.bind_some]
end Go.Proofs.Ytmhoemdclnlgaaa.P
namespace Go.Proofs.Ytmhoemdclnlgaaa.P
open Go.RowKit Go.Proofs.YtmhoemdclnlgaaaW.PrintWords Go.Proofs.YtmhoemdclnlgaaaW.PrintLast Go.Proofs.YtmhoemdclnlgaaaW.PrintMore
set_option linter.unusedVariables false
set_option linter.unusedSimpArgs false

section
variable {z : List (List Int)} (hn : z.length ≤ 1048576) (hr : ∀ i, (rd_L1 z i).length ≤ 1048576) {D : List Int} (hD : D.length = z.length)
include hn hr hD
/-- From the first place of a row that is nearer by one, both sides go on. -/
theorem way_row (i j : Int) (hi : 0 ≤ i ∧ i < (z.length : Int)) (hz : ∀ q ∈ rd_L1 z i, 0 ≤ q ∧ q < (z.length : Int)) (hDi : 0 < rd D i ∧ rd D i ≤ 1048577) (acc : List Int) (ha : acc.length ≤ 4000000) (d : Nat) : ∀ (m : Nat), (rd_L1 z i).length - m = d → m ≤ (rd_L1 z i).length → (∃ q ∈ (rd_L1 z i).drop m, rd D q = rd D i - 1) →
    ∃ q, q ∈ rd_L1 z i ∧ rd D q = rd D i - 1 ∧
      (∀ R, Ev (fun k => spec_l2Walk.l0 k q j z D (acc ++ [q])) R → Ev (fun k => spec_l2Walk.l1 k i j z D acc (m : Int)) R) ∧
      (∀ R, Ev (fun k => impl_Space_firstWay.l0 k q j z D (acc ++ [q])) R → Ev (fun k => impl_Space_firstWay.l1 k i j z D acc (rd_L1 z i) ((rd_L1 z i).length : Int) (m : Int)) R) := by
  have hrl := hr i
  have _hu := hn
  have hw : wrap64 (rd D i - 1) = rd D i - 1 := wrap_nat (by omega) (by omega)
  have HW := Aside0.mk hw
  clear hw
  induction d with
  | zero =>
    intro m h0 h1 h2
    obtain ⟨q, hq, _⟩ := h2
    rw [List.drop_eq_nil_of_le (by omega)] at hq
    cases hq
  | succ d ih =>
    intro m h0 h1 h2
    have hm : m < (rd_L1 z i).length := by omega
    have hq := hz (rd_L1 z i)[m] (List.getElem_mem hm)
    by_cases c : rd D (rd_L1 z i)[m] = rd D i - 1
    · refine ⟨(rd_L1 z i)[m], List.getElem_mem hm, c, fun R hR => ?_, fun R hR => ?_⟩
      · refine Ev.step (fun k => by rw [spec_l2Walk.l1]) ?_
        refine Ev.pos hi.1 ?_
        refine Ev.pos hi.2 ?_
        refine Ev.pos (by omega) ?_
        refine Ev.pos (by omega) ?_
        rw [rd_at _ m hm]
        refine Ev.pos hq.1 ?_
        refine Ev.pos (by omega) ?_
        refine Ev.pos (by omega) ?_
        rw [HW.out]
        refine Ev.pos c ?_
        refine Ev.pos (by omega) ?_
        exact hR
      · refine Ev.step (fun k => by rw [impl_Space_firstWay.l1]) ?_
        refine Ev.pos (by omega) ?_
        refine Ev.pos (by omega) ?_
        refine Ev.pos (by omega) ?_
        rw [rd_at _ m hm]
        refine Ev.pos hq.1 ?_
        refine Ev.pos (by omega) ?_
        refine Ev.pos hi.1 ?_
        refine Ev.pos (by omega) ?_
        rw [HW.out]
        refine Ev.pos c ?_
        refine Ev.pos (by omega) ?_
        exact hR
    · obtain ⟨q, q1, q2, q3, q4⟩ := ih (m + 1) (by omega) (by omega) (by
        obtain ⟨q, hq', hq2⟩ := h2
        rw [List.drop_eq_getElem_cons hm] at hq'
        rcases List.mem_cons.1 hq' with rfl | hq'
        · exact absurd hq2 c
        · exact ⟨q, hq', hq2⟩)
      rw [← wrap_up hm (by omega)] at q3 q4
      refine ⟨q, q1, q2, fun R hR => ?_, fun R hR => ?_⟩
      · have e3 := q3 R hR
        refine Ev.step (fun k => by rw [spec_l2Walk.l1]) ?_
        refine Ev.pos hi.1 ?_
        refine Ev.pos hi.2 ?_
        refine Ev.pos (by omega) ?_
        refine Ev.pos (by omega) ?_
        rw [rd_at _ m hm]
        refine Ev.pos hq.1 ?_
        refine Ev.pos (by omega) ?_
        refine Ev.pos (by omega) ?_
        rw [HW.out]
        refine Ev.neg c ?_
        exact e3
      · have e4 := q4 R hR
        refine Ev.step (fun k => by rw [impl_Space_firstWay.l1]) ?_
        refine Ev.pos (by omega) ?_
        refine Ev.pos (by omega) ?_
        refine Ev.pos (by omega) ?_
        rw [rd_at _ m hm]
        refine Ev.pos hq.1 ?_
        refine Ev.pos (by omega) ?_
        refine Ev.pos hi.1 ?_
        refine Ev.pos (by omega) ?_
        rw [HW.out]
        refine Ev.neg c ?_
        exact e4
theorem way_loop (hz : okZ z) (hs : symZ z) (j : Int) (hb : ∀ k, rd D k ≤ 1048577) (h0 : rd D j = 0) (hE : ∀ k, 0 ≤ k → k < (z.length : Int) → 0 ≤ rd D k → k = j ∨ ∃ p, 0 ≤ p ∧ p < (z.length : Int) ∧ k ∈ rd_L1 z p ∧ 0 ≤ rd D p ∧ rd D k = rd D p + 1) (t : Nat) :
    ∀ (i : Int) (acc : List Int), 0 ≤ i → i < (z.length : Int) → rd D i = (t : Int) → acc.length + t ≤ 2000000 → 0 < acc.length → ∃ R : List Int, R.length = acc.length + t ∧ Ev (fun k => spec_l2Walk.l0 k i j z D acc) R ∧ Ev (fun k => impl_Space_firstWay.l0 k i j z D acc) (R, true) := by
  induction t with
  | zero =>
    intro i acc hi0 hi1 hd ha hp
    have hij : i = j := by
      rcases hE i hi0 hi1 (by omega) with e | ⟨p, p0, p1, p2, p3, p4⟩
      · exact e
      · omega
    refine ⟨acc, rfl, ?_, ?_⟩
    · refine Ev.step (fun k => by rw [spec_l2Walk.l0]) ?_
      exact Ev.pos hij (Ev.now _)
    · refine Ev.step (fun k => by rw [impl_Space_firstWay.l0]) ?_
      exact Ev.pos hij (Ev.now _)
  | succ t ih =>
    intro i acc hi0 hi1 hd ha hp
    have hij : i ≠ j := fun e => by rw [e, h0] at hd; omega
    obtain ⟨q, q1, q2, q3, q4⟩ := way_row hn hr hD i j ⟨hi0, hi1⟩ (hz i hi0 hi1) ⟨by omega, hb i⟩ acc (by omega) ((rd_L1 z i).length - 0) 0 rfl (Nat.zero_le _) (by
      rw [List.drop_zero]
      rcases hE i hi0 hi1 (by omega) with e | ⟨p, p0, p1, p2, p3, p4⟩
      · exact absurd e hij
      · exact ⟨p, hs p i p0 p1 hi0 hi1 p2, by omega⟩)
    simp only [Int.natCast_zero] at q3 q4
    have hq := hz i hi0 hi1 q q1
    obtain ⟨R, r0, r1, r2⟩ := ih q (acc ++ [q]) hq.1 hq.2 (by omega) (by rw [List.length_append, List.length_singleton]; omega) (by rw [List.length_append, List.length_singleton]; omega)
    refine ⟨R, by rw [r0, List.length_append, List.length_singleton]; omega, ?_, ?_⟩
    · have e3 := q3 R r1
      refine Ev.step (fun k => by rw [spec_l2Walk.l0]) ?_
      refine Ev.neg hij ?_
      exact e3
    · have e4 := q4 (R, true) r2
      refine Ev.step (fun k => by rw [impl_Space_firstWay.l0]) ?_
      refine Ev.neg hij ?_
      refine Ev.pos hi0 ?_
      refine Ev.pos hi1 ?_
      exact e4
end
theorem Both_FnExactFirstWay (l0_0 : List (List Int)) (l0_1 : List S79) (a1 : Int) (a2 : Int) (w0_0 : FitLL l0_0) (w0_1 : FitP l0_1) (w1 : (Lit.int .i64 a1).wf = true) (w2 : (Lit.int .i64 a2).wf = true) (hm0 : modS l0_0 l0_1) : ∃ (q0 : List Int) (q1 : Bool), Ev (fun k => spec_FirstWay.f k l0_0 l0_1 a1 a2) (q0, q1) ∧ Ev (fun k => impl_FirstWay.f k l0_0 l0_1 a1 a2) (q0, q1) ∧ q0.length ≤ 1048576 := by
  have hs1 := l2Place_ev l0_0 l0_1 hm0 a1
  have hi1 := isPlace_at l0_0 l0_1 hm0 a1
  have hs2 := l2Place_ev l0_0 l0_1 hm0 a2
  have hi2 := isPlace_at l0_0 l0_1 hm0 a2
  by_cases h : okS l0_0 l0_1 = true
  · have hg := okS_goodL h
    rw [h, Bool.true_and] at hs1 hs2
    by_cases hp : 0 ≤ a1 ∧ a1 ≤ (l0_0.length : Int) - 1
    · rw [decide_eq_true hp.1, decide_eq_true hp.2, Bool.true_and] at hs1 hi1
      by_cases hp2 : 0 ≤ a2 ∧ a2 ≤ (l0_0.length : Int) - 1
      · rw [decide_eq_true hp2.1, decide_eq_true hp2.2, Bool.true_and] at hs2 hi2
        have hlen := roadsL_len l0_0 l0_1
        have hm := hm0.1
        have hok := roadsL_ok l0_0 l0_1 hm0 hg.2
        have hrow := roadsL_row l0_0 l0_1 hm0 hg.2
        obtain ⟨D, e1, e2, e3, e4, e5, e6, e7, e8, e9⟩ := spread_both hok (by omega) hrow a2 hp2.1 (by omega)
        by_cases hd : rd D a1 < 0
        · refine ⟨[], false, ?_, ?_, Nat.zero_le _⟩
          · unfold spec_FirstWay.f
            refine Ev.bind hs1 ?_
            refine Ev.pos rfl ?_
            refine Ev.bind hs2 ?_
            refine Ev.pos rfl ?_
            refine Ev.bind (a := []) ?_ (Ev.now _)
            unfold spec_l2Walk.f
            refine Ev.bind (lists_ev l0_0 l0_1 hm0 hg.2) ?_
            refine Ev.bind e2 ?_
            refine Ev.pos hp.1 ?_
            refine Ev.pos (by omega) ?_
            exact Ev.pos hd (Ev.now _)
          · unfold impl_FirstWay.f
            refine Ev.bind (impl_IsSpace_ev l0_0 l0_1 hm0) ?_
            rw [h]
            refine Ev.pos rfl ?_
            refine Ev.bindo hi1 ?_
            refine Ev.pos rfl ?_
            refine Ev.bindo hi2 ?_
            refine Ev.pos rfl ?_
            refine Ev.bind (a := ([], false)) ?_ (Ev.now _)
            unfold impl_Space_firstWay.f
            refine Ev.bind (roads_ev l0_0 l0_1 hm0 hg.2) ?_
            refine Ev.bind e1 ?_
            refine Ev.pos hp.1 ?_
            refine Ev.pos (by omega) ?_
            exact Ev.pos hd (Ev.now _)
        · have hb := e4 a1
          obtain ⟨R, r0, r1, r2⟩ := way_loop (z := roadsL l0_0 l0_1) (by omega) hrow e3 hok (roadsL_sym l0_0 l0_1 hm0 hg.2) a2 (fun k => by have := e4 k; omega) e8 e9 (rd D a1).toNat a1 [a1] hp.1 (by omega) (by omega) (by rw [List.length_singleton]; omega) (by simp)
          have hRn : 0 < R.length := by rw [r0, List.length_singleton]; omega
          refine ⟨R, true, ?_, ?_, ?_⟩
          · unfold spec_FirstWay.f
            refine Ev.bind hs1 ?_
            refine Ev.pos rfl ?_
            refine Ev.bind hs2 ?_
            refine Ev.pos rfl ?_
            refine Ev.bind (a := R) ?_ ?_
            · unfold spec_l2Walk.f
              refine Ev.bind (lists_ev l0_0 l0_1 hm0 hg.2) ?_
              refine Ev.bind e2 ?_
              refine Ev.pos hp.1 ?_
              refine Ev.pos (by omega) ?_
              refine Ev.neg hd ?_
              exact r1
            · rw [decide_eq_true (show (R.length : Int) > 0 by omega)]
              exact Ev.now _
          · unfold impl_FirstWay.f
            refine Ev.bind (impl_IsSpace_ev l0_0 l0_1 hm0) ?_
            rw [h]
            refine Ev.pos rfl ?_
            refine Ev.bindo hi1 ?_
            refine Ev.pos rfl ?_
            refine Ev.bindo hi2 ?_
            refine Ev.pos rfl ?_
            refine Ev.bind (a := (R, true)) ?_ (Ev.now _)
            unfold impl_Space_firstWay.f
            refine Ev.bind (roads_ev l0_0 l0_1 hm0 hg.2) ?_
            refine Ev.bind e1 ?_
            refine Ev.pos hp.1 ?_
            refine Ev.pos (by omega) ?_
            refine Ev.neg hd ?_
            exact r2
          · rw [r0, List.length_singleton]; omega
      · have hd : (decide (0 ≤ a2) && decide (a2 ≤ (l0_0.length : Int) - 1)) = false := by
          rw [← Bool.not_eq_true, Bool.and_eq_true, decide_eq_true_eq, decide_eq_true_eq]
          exact hp2
        rw [hd] at hs2 hi2
        refine ⟨[], false, ?_, ?_, Nat.zero_le _⟩
        · unfold spec_FirstWay.f
          refine Ev.bind hs1 ?_
          refine Ev.pos rfl ?_
          refine Ev.bind hs2 ?_
          exact Ev.neg (by decide) (Ev.now _)
        · unfold impl_FirstWay.f
          refine Ev.bind (impl_IsSpace_ev l0_0 l0_1 hm0) ?_
          rw [h]
          refine Ev.pos rfl ?_
          refine Ev.bindo hi1 ?_
          refine Ev.pos rfl ?_
          refine Ev.bindo hi2 ?_
          exact Ev.neg (by decide) (Ev.now _)
    · have hd : (decide (0 ≤ a1) && decide (a1 ≤ (l0_0.length : Int) - 1)) = false := by
        rw [← Bool.not_eq_true, Bool.and_eq_true, decide_eq_true_eq, decide_eq_true_eq]
        exact hp
      rw [hd] at hs1 hi1
      refine ⟨[], false, ?_, ?_, Nat.zero_le _⟩
      · unfold spec_FirstWay.f
        refine Ev.bind hs1 ?_
        exact Ev.neg (by decide) (Ev.now _)
      · unfold impl_FirstWay.f
        refine Ev.bind (impl_IsSpace_ev l0_0 l0_1 hm0) ?_
        rw [h]
        refine Ev.pos rfl ?_
        refine Ev.bindo hi1 ?_
        exact Ev.neg (by decide) (Ev.now _)
  · rw [Bool.not_eq_true] at h
    rw [h, Bool.false_and] at hs1
    refine ⟨[], false, ?_, ?_, Nat.zero_le _⟩
    · unfold spec_FirstWay.f
      refine Ev.bind hs1 ?_
      exact Ev.neg (by decide) (Ev.now _)
    · unfold impl_FirstWay.f
      refine Ev.bind (impl_IsSpace_ev l0_0 l0_1 hm0) ?_
      rw [h]
      exact Ev.neg (by decide) (Ev.now _)
end Go.Proofs.Ytmhoemdclnlgaaa.P
namespace Go.Proofs.Ytmhoemdclnlgaaa.P
open Go.RowKit Go.Proofs.YtmhoemdclnlgaaaW.PrintWords Go.Proofs.YtmhoemdclnlgaaaW.PrintLast Go.Proofs.YtmhoemdclnlgaaaW.PrintMore
set_option linter.unusedVariables false
set_option linter.unusedSimpArgs false

def seqI : Nat → Int → List Int
  | 0, _ => []
  | n + 1, k => k :: seqI n (wrap64 (k + 1))
def endI : Nat → Int → Int
  | 0, k => k
  | n + 1, k => endI n (wrap64 (k + 1))
theorem seqI_len (n : Nat) : ∀ k, (seqI n k).length = n := by
  induction n with
  | zero => intro k; rfl
  | succ n ih => intro k; simp [seqI, ih]
theorem endI_at (n : Nat) : ∀ k, 0 ≤ k → k + (n : Int) ≤ 4611686018427387904 → endI n k = k + (n : Int) := by
  induction n with
  | zero => intro k h1 h2; simp [endI]
  | succ n ih =>
    intro k h1 h2
    have e1 : wrap64 (k + 1) = k + 1 := wrap_nat (by omega) (by omega)
    rw [endI, e1, ih (k + 1) (by omega) (by omega)]
    omega
theorem markInt_loop (d : Nat) : ∀ (done rest : List Int) (c : Int), rest.length = d → done.length + d ≤ 1048576 →
    Ev (fun k => laws_markIntS.l0 k (done ++ rest) c (done.length : Int)) (endI d c, done ++ seqI d c) := by
  induction d with
  | zero =>
    intro done rest c h0 h1
    refine Ev.step (fun k => by rw [laws_markIntS.l0]) ?_
    have : rest = [] := List.eq_nil_of_length_eq_zero h0
    subst this
    refine Ev.neg (by simp) ?_
    exact Ev.now _
  | succ d ih =>
    intro done rest c h0 h1
    obtain ⟨x, t, rfl⟩ : ∃ x t, rest = x :: t := by
      cases rest with
      | nil => simp at h0
      | cons x t => exact ⟨x, t, rfl⟩
    have h2 : t.length = d := by simpa using h0
    refine Ev.step (fun k => by rw [laws_markIntS.l0]) ?_
    refine Ev.pos (by simp; omega) (Ev.pos (by omega) ?_)
    have e : (done ++ x :: t).set ((done.length : Int)).toNat c = (done ++ [c]) ++ t := by
      rw [Int.toNat_natCast]
      simp
    have hw : wrap64 ((done.length : Int) + 1) = ((done ++ [c]).length : Int) := by
      rw [List.length_append, List.length_singleton]
      exact wrap_up (n := done.length + 1) (by omega) (by omega)
    rw [e, hw]
    have := ih (done ++ [c]) t (wrap64 (c + 1)) h2 (by rw [List.length_append, List.length_singleton]; omega)
    simpa only [seqI, endI, List.append_assoc, List.singleton_append] using this
theorem markInt_ev (l : List Int) (c : Int) (hl : l.length ≤ 1048576) : Ev (fun k => laws_markIntS.f k l c) (endI l.length c, seqI l.length c) := by
  unfold laws_markIntS.f
  have := markInt_loop l.length [] l c rfl (by simpa using hl)
  simpa only [List.nil_append, List.length_nil, Int.ofNat_eq_natCast, Int.natCast_zero] using this
theorem heldInt_loop (d : Nat) : ∀ (done : List Int) (c : Int), done.length + d ≤ 1048576 →
    Ev (fun k => laws_heldIntS.l0 k (done ++ seqI d c) c (done.length : Int)) (endI d c) := by
  induction d with
  | zero =>
    intro done c h1
    refine Ev.step (fun k => by rw [laws_heldIntS.l0]) ?_
    refine Ev.neg (by simp [seqI]) ?_
    exact Ev.now _
  | succ d ih =>
    intro done c h1
    refine Ev.step (fun k => by rw [laws_heldIntS.l0]) ?_
    have hlen : (done ++ seqI (d + 1) c).length = done.length + (d + 1) := by rw [List.length_append, seqI_len]
    refine Ev.pos (by rw [hlen]; omega) (Ev.pos (by omega) ?_)
    have hr : rd (done ++ seqI (d + 1) c) (done.length : Int) = c := by
      rw [rd_at _ _ (by rw [hlen]; omega)]
      simp [seqI]
    refine Ev.pos hr ?_
    have hw : wrap64 ((done.length : Int) + 1) = ((done ++ [c]).length : Int) := by
      rw [List.length_append, List.length_singleton]
      exact wrap_up (n := done.length + 1) (by omega) (by omega)
    rw [hw]
    have := ih (done ++ [c]) (wrap64 (c + 1)) (by rw [List.length_append, List.length_singleton]; omega)
    simpa only [seqI, endI, List.append_assoc, List.singleton_append] using this
theorem heldInt_ev (n : Nat) (c : Int) (hn : n ≤ 1048576) : Ev (fun k => laws_heldIntS.f k (seqI n c) c) (endI n c) := by
  unfold laws_heldIntS.f
  have := heldInt_loop n [] c (by simpa using hn)
  simpa only [List.nil_append, List.length_nil, Int.ofNat_eq_natCast, Int.natCast_zero] using this
theorem end1_pos (n : Nat) (hn : n ≤ 1048576) : ¬ endI n 1 < 0 := by rw [endI_at n 1 (by omega) (by omega)]; omega
end Go.Proofs.Ytmhoemdclnlgaaa.P
namespace Go.Proofs.Ytmhoemdclnlgaaa.P
open Go.RowKit Go.Proofs.YtmhoemdclnlgaaaW.PrintWords Go.Proofs.YtmhoemdclnlgaaaW.PrintLast Go.Proofs.YtmhoemdclnlgaaaW.PrintMore
set_option linter.unusedVariables false
set_option linter.unusedSimpArgs false

theorem endS_eq (n : Nat) : ∀ k, endS n k = endI n k := by
  induction n with
  | zero => intro k; rfl
  | succ n ih => intro k; simp only [endS, endI, ih]
theorem markSS_fst (l : List (List Int)) : ∀ (k : Int), (∀ s ∈ l, s.length ≤ 1048576) → 0 ≤ k → k + 1048576 * (l.length : Int) ≤ 2305843009213693952 → 0 ≤ (markSS l k).1 ∧ (markSS l k).1 ≤ k + 1048576 * (l.length : Int) := by
  induction l with
  | nil => intro k _ h0 h1; simp only [markSS, List.length_nil]; omega
  | cons s t ih =>
    intro k hs h0 h1
    have h2 := hs s (.head _)
    rw [List.length_cons] at h1 ⊢
    have e1 : endS s.length k = k + (s.length : Int) := by rw [endS_eq, endI_at s.length k h0 (by omega)]
    simp only [markSS, e1]
    have := ih (k + (s.length : Int)) (fun q hq => hs q (.tail _ hq)) (by omega) (by omega)
    omega
theorem markSpace_at (l : List (List Int)) (e : List S79) (k : Int) : laws_markSpace.f l e k = some ((mark2 e (markSS l k).1).1, (markSS l k).2, (mark2 e (markSS l k).1).2) := rfl
theorem markSpace_le (l : List (List Int)) (e : List S79) (h : modS l e) : 0 ≤ (mark2 e (markSS l 1).1).1 ∧ (mark2 e (markSS l 1).1).1 ≤ 1125899906842624 + 1125899906842624 := by
  have h1 := markSS_fst l 1 h.2.1 (by omega) (by have := h.1; omega)
  have h2 := h.1
  have h3 := h.2.2
  rw [mark2_fst e _ h1.1 (by omega)]
  omega
theorem markSpace_pos (l : List (List Int)) (e : List S79) (h : modS l e) : ¬ (mark2 e (markSS l 1).1).1 < 0 := by have := (markSpace_le l e h).1; omega
theorem markSpace_ex (l : List (List Int)) (e : List S79) (h : modS l e) : ∃ k a b, laws_markSpace.f l e 1 = some (k, a, b) ∧ ¬ k < 0 ∧ k ≤ 2251799813685248 := ⟨_, _, _, markSpace_at l e 1, markSpace_pos l e h, (markSpace_le l e h).2⟩
theorem markInt_held (l : List Int) (h : l.length ≤ 1048576) : ∃ k b n, laws_markIntS.f n l 1 = some (k, b) ∧ ∃ m, laws_heldIntS.f m b 1 = some k ∧ ¬ k < 0 := by
  obtain ⟨n, hn⟩ := Ev.rounds (markInt_ev l 1 h)
  obtain ⟨m, hm⟩ := Ev.rounds (heldInt_ev l.length 1 h)
  exact ⟨_, _, n, hn, m, hm, end1_pos _ h⟩
end Go.Proofs.Ytmhoemdclnlgaaa.P
namespace Go.Proofs.Ytmhoemdclnlgaaa.P
open Go.RowKit Go.Proofs.YtmhoemdclnlgaaaW.PrintWords Go.Proofs.YtmhoemdclnlgaaaW.PrintLast Go.Proofs.YtmhoemdclnlgaaaW.PrintMore
set_option linter.unusedVariables false
set_option maxHeartbeats 1000000 in
theorem Law_FnExactFirstWay (A0_0 : Option Addr) (c0_0 : Nat) (l0_0 : List (List Int)) (A0_1 : Option Addr) (c0_1 : Nat) (l0_1 : List (S79)) (a1 : Int) (a2 : Int) (w : World) (hr0_0 : Kd.C (Kd.slice 3 (Kd.int .i64)) w A0_0 l0_0.length l0_0) (hc0_0 : l0_0.length ≤ c0_0) (hr0_1 : Kd.C k79 w A0_1 l0_1.length l0_1) (hc0_1 : l0_1.length ≤ c0_1) (w0_0 : FitLL l0_0) (w0_1 : FitP l0_1) (w1 : (Lit.int .i64 a1).wf = true) (w2 : (Lit.int .i64 a2).wf = true) :
    Calls Try.prog 7 #[.agg #[.slice A0_0 l0_0.length c0_0, .slice A0_1 l0_1.length c0_1], .int .i64 a1, .int .i64 a2] w fun e w' => e = .returned (.bool true) ∧ Below w.heap.size w w' := by
  obtain ⟨t0, e0, m0⟩ := sz_space l0_0 l0_1 w0_0 w0_1.1
  obtain ⟨k0, h0⟩ := Ev.rounds e0
  by_cases c0 : t0 < 0
  · exact laws_FnExactFirstWay.exit0 A0_0 c0_0 l0_0 A0_1 c0_1 l0_1 a1 a2 k0 t0 w hr0_0 hc0_0 hr0_1 hc0_1 c0 h0
  have hm0 := m0.resolve_left c0
  obtain ⟨q0, q1, es, ei, hb1⟩ := Both_FnExactFirstWay l0_0 l0_1 a1 a2 w0_0 w0_1 w1 w2 hm0
  obtain ⟨k1, h1⟩ := Ev.rounds (toSpace_ev l0_0 l0_1 hm0)
  obtain ⟨k2, h2⟩ := Ev.rounds (es)
  obtain ⟨k3, h3⟩ := Ev.rounds (ei)
  obtain ⟨k4, h4⟩ := Ev.rounds (eqIntS_ev q0 hb1)
  obtain ⟨k5, h5⟩ := Ev.rounds (eqSpace_ev l0_0 l0_1 hm0)
  obtain ⟨kk0, mk0_0, mk0_1, h6, nkk0, pkk0⟩ := markSpace_ex l0_0 l0_1 hm0
  obtain ⟨kk1, mk1_0, k7, h7, k8, h8, nkk1⟩ := markInt_held q0 hb1
  exact laws_FnExactFirstWay.walk A0_0 c0_0 l0_0 A0_1 c0_1 l0_1 a1 a2 k0 k1 k2 k3 k4 k5 k7 k8 t0 q0 q1 kk0 mk0_0 mk0_1 kk1 mk1_0 w hr0_0 hc0_0 hr0_1 hc0_1 c0 h0 h1 h2 h3 h4 h5 h6 h7 h8 nkk0 nkk1
end Go.Proofs.Ytmhoemdclnlgaaa.P
