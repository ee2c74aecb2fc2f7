/- The lists of steps: both sides make the same rows, and each row is rising. -/
import Derived.Test.YtadjbmcfgjmhkaaGreatSlideWalkG24
namespace Go.Proofs.YtadjbmcfgjmhkaaGreat.P
open Go.RowKit YtadjbmcfgjmhkaaGreatW.PrintWords Go.Proofs.YtadjbmcfgjmhkaaGreatW.PrintLast Go.Proofs.YtadjbmcfgjmhkaaGreatW.PrintMore
set_option linter.unusedVariables false
set_option linter.unusedSimpArgs false
abbrev bM := S69
def bD (n : Nat) (f : Int → List Int) : List (List Int) := (List.range n).map fun (i : Nat) => f i
theorem d5 (n : Nat) (f : Int → List Int) : (bD n f).length = n := by simp [bD]
theorem ib {n : Nat} {f g : Int → List Int} (h : ∀ i : Nat, i < n → f i = g i) : bD n f = bD n g := by
 unfold bD
 exact List.map_congr_left fun i hi => h i (List.mem_range.1 hi)
theorem jc {n : Nat} (f : Int → List Int) (i : Nat) (h : i < n) (h' : i < (bD n f).length) : (bD n f)[i] = f i := by simp [bD]
theorem eH {n : Nat} (f : Int → List Int) {a : Int} (h0 : 0 ≤ a) (h1 : a < n) : af (bD n f) a = f a := by
 obtain ⟨i, rfl⟩ := Int.eq_ofNat_of_zero_le h0
 have hi : i < n := by omega
 unfold af
 rw [Int.toNat_natCast, List.getD_eq_getElem?_getD, List.getElem?_eq_getElem (by rw [d5]; exact hi), Option.getD_some, jc f i hi]
theorem ia {n : Nat} (f : Int → List Int) {a : Int} (h0 : 0 ≤ a) (h1 : a < n) (x : List Int) : (bD n f).set a.toNat x = bD n (fun i => if i = a then x else f i) := by
 obtain ⟨i, rfl⟩ := Int.eq_ofNat_of_zero_le h0
 refine List.ext_getElem (by rw [List.length_set, d5, d5]) fun j hj hj' => ?_
 have hjn : j < n := by rw [d5] at hj'; exact hj'
 rw [jc _ j hjn]
 simp only [Int.toNat_natCast, List.getElem_set]
 by_cases h : i = j
 · subst h; rw [if_pos rfl, if_pos rfl]
 · rw [if_neg h, if_neg (by omega), jc _ j hjn]
theorem kV (n : Nat) : List.replicate n ([] : List Int) = bD n (fun _ => []) := by
 unfold bD
 rw [List.map_const', List.length_range]
def cd (i : Int) (p : bM) : Option Int := if p.f0 = i then some p.f1 else none
def bB (i : Int) (p : bM) : Option Int := if p.f1 = i then some p.f0 else none
def bW (i : Int) (p : bM) : Option Int := if p.f0 = i then some p.f1 else if p.f1 = i then some p.f0 else none
def bZ (e : List bM) (i : Int) : List Int := e.filterMap (bW i)
theorem jO {α : Type} (f : bM → Option α) (e : List bM) (m : Nat) (hm : m < e.length) : (e.take (m + 1)).filterMap f = (e.take m).filterMap f ++ (f e[m]).toList := by
 rw [List.take_add_one, List.getElem?_eq_getElem hm, List.filterMap_append]
 cases h : f e[m] <;> simp [h]
theorem fL {α : Type} (f : bM → Option α) (e : List bM) (m : Nat) (he : e.length ≤ 1048576) : ((e.take m).filterMap f).length ≤ 1048576 := by
 have h1 := List.length_filterMap_le f (e.take m)
 have h2 := List.length_take_le m e
 have h3 : (e.take m).length ≤ e.length := by rw [List.length_take]; omega
 omega
theorem s6 {a b c : bM} (h : bF a b = true) (k : bF b c = true) : bF a c = true := by
 unfold bF at *
 simp only [Bool.or_eq_true, Bool.and_eq_true, decide_eq_true_eq] at *
 omega
theorem mg (n : Int) (l : List bM) : ∀ p, bL n p l = true → l.Pairwise (fun a b => bF a b = true) ∧ (∀ q, p = some q → ∀ s ∈ l, bF q s = true) := by
 induction l with
 | nil => intro p h; exact ⟨.nil, fun q _ s hs => by cases hs⟩
 | cons x t ih =>
  intro p h
  simp only [bL, Bool.and_eq_true, decide_eq_true_eq] at h
  obtain ⟨_, h4, h5⟩ := h
  obtain ⟨h1, h2⟩ := ih _ h5
  refine ⟨List.pairwise_cons.2 ⟨fun s hs => h2 x rfl s hs, h1⟩, fun q hq s hs => ?_⟩
  subst hq
  have hx : bF q x = true := h4
  rcases List.mem_cons.1 hs with rfl | hs
  · exact hx
  · exact s6 hx (h2 x rfl s hs)
theorem oO (i : Int) (e : List bM) : (∀ p ∈ e, p.f0 < p.f1) → e.Pairwise (fun a b => bF a b = true) → e.filterMap (bB i) ++ e.filterMap (cd i) = bZ e i := by
 induction e with
 | nil => intro _ _; rfl
 | cons p t ih =>
  intro hl hp
  obtain ⟨h1, h2⟩ := List.pairwise_cons.1 hp
  have ih' := ih (fun q hq => hl q (.tail _ hq)) h2
  have hpl := hl p (.head _)
  unfold bZ at ih' ⊢
  by_cases c0 : p.f0 = i
  · have e1 : bB i p = none := by unfold bB; rw [if_neg (by omega)]
    have e0 : cd i p = some p.f1 := by unfold cd; rw [if_pos c0]
    have eL : bW i p = some p.f1 := by unfold bW; rw [if_pos c0]
    have ht : t.filterMap (bB i) = [] := by
      rw [List.filterMap_eq_nil_iff]
      intro q hq
      have hb := h1 q hq
      have hq' := hl q (.tail _ hq)
      unfold bF at hb
      simp only [Bool.or_eq_true, Bool.and_eq_true, decide_eq_true_eq] at hb
      unfold bB
      rw [if_neg (by omega)]
    rw [ht, List.nil_append] at ih'
    rw [List.filterMap_cons_none e1, List.filterMap_cons_some e0, List.filterMap_cons_some eL, ht, List.nil_append, ih']
  · have e0 : cd i p = none := by unfold cd; rw [if_neg c0]
    by_cases c1 : p.f1 = i
    · have e1 : bB i p = some p.f0 := by unfold bB; rw [if_pos c1]
      have eL : bW i p = some p.f0 := by unfold bW; rw [if_neg c0, if_pos c1]
      rw [List.filterMap_cons_some e1, List.filterMap_cons_none e0, List.filterMap_cons_some eL, List.cons_append, ih']
    · have e1 : bB i p = none := by unfold bB; rw [if_neg c1]
      have eL : bW i p = none := by unfold bW; rw [if_neg c0, if_neg c1]
      rw [List.filterMap_cons_none e1, List.filterMap_cons_none e0, List.filterMap_cons_none eL, ih']
theorem oP (i : Int) (e : List bM) (hl : ∀ p ∈ e, p.f0 < p.f1) (hp : e.Pairwise (fun a b => bF a b = true)) : (bZ e i).Pairwise (· < ·) := by
 have hp2 : e.Pairwise (fun a b => bF a b = true ∧ a.f0 < a.f1 ∧ b.f0 < b.f1) := by
   refine List.Pairwise.imp_of_mem (fun {a b} ha hb h => ⟨h, hl a ha, hl b hb⟩) hp
 refine List.Pairwise.filterMap _ (fun a b h x hx y hy => ?_) hp2
 obtain ⟨h, ha, hb⟩ := h
 unfold bF at h
 simp only [Bool.or_eq_true, Bool.and_eq_true, decide_eq_true_eq] at h
 unfold bW at hx hy
 by_cases c0 : a.f0 = i
 · rw [if_pos c0] at hx
   by_cases d0 : b.f0 = i
   · rw [if_pos d0] at hy; simp at hx hy; omega
   · rw [if_neg d0] at hy
     by_cases d1 : b.f1 = i
     · rw [if_pos d1] at hy; simp at hx hy; omega
     · rw [if_neg d1] at hy; cases hy
 · rw [if_neg c0] at hx
   by_cases c1 : a.f1 = i
   · rw [if_pos c1] at hx
     by_cases d0 : b.f0 = i
     · rw [if_pos d0] at hy; simp at hx hy; omega
     · rw [if_neg d0] at hy
       by_cases d1 : b.f1 = i
       · rw [if_pos d1] at hy; simp at hx hy; omega
       · rw [if_neg d1] at hy; cases hy
   · rw [if_neg c1] at hx; cases hx
section
variable {l : List (List Int)} {e : List bM} (he : e.length ≤ 1048576) (hg : ∀ p ∈ e, 0 ≤ p.f0 ∧ p.f0 < p.f1 ∧ p.f1 < (l.length : Int))
include he hg
theorem oR (d : Nat) : ∀ (m : Nat), e.length - m = d → m ≤ e.length → Ev (fun k => b3 k (bD l.length (bZ (e.take m))) e (e.length : Int) (m : Int)) (bD l.length (bZ e)) := by
 induction d with
 | zero =>
  intro m h0 h1
  refine Ev.step (fun k => by rw [b3]) (Ev.neg (by omega) ?_)
  rw [List.take_of_length_le (by omega)]
  exact Ev.now _
 | succ d ih =>
  intro m h0 h1
  have hm : m < e.length := by omega
  have hp := hg e[m] (List.getElem_mem hm)
  have ihm := ih (m + 1) (by omega) (by omega)
  rw [← aY hm (by omega)] at ihm
  refine Ev.step (fun k => by rw [b3]) (Ev.pos (by omega) (Ev.pos (by omega) (Ev.pos (by omega) ?_)))
  rw [dd e m hm, d5, eH _ hp.1 (by omega), ia _ hp.1 (by omega)]
  refine Ev.pos hp.1 (Ev.pos (by omega) (Ev.pos (by have := fL (bW e[m].f0) e m he; unfold bZ; omega) (Ev.bindo rfl ?_)))
  rw [eH _ (by omega) hp.2.2, if_neg (by omega), ia _ (by omega) hp.2.2]
  refine Ev.pos (by omega) (Ev.pos (by omega) (Ev.pos (by have := fL (bW e[m].f1) e m he; unfold bZ; omega) ?_))
  rw [ib (g := bZ (e.take (m + 1))) (fun i hi => ?_)]
  · exact ihm
  · unfold bZ
    rw [jO (bW i) e m hm]
    by_cases c1 : (i : Int) = e[m].f1
    · rw [if_pos c1, c1]
      unfold bW
      rw [if_neg (by omega), if_pos rfl]
      rfl
    · rw [if_neg c1]
      by_cases c0 : (i : Int) = e[m].f0
      · rw [if_pos c0, c0]
        unfold bW
        rw [if_pos rfl]
        rfl
      · rw [if_neg c0]
        have : bW i e[m] = none := by unfold bW; rw [if_neg (by omega), if_neg (by omega)]
        rw [this]
        simp
theorem pK (d : Nat) : ∀ (m : Nat), e.length - m = d → m ≤ e.length → Ev (fun k => da k (bD l.length (fun i => e.filterMap (bB i) ++ (e.take m).filterMap (cd i))) (m : Int) l e) (bD l.length (fun i => e.filterMap (bB i) ++ e.filterMap (cd i))) := by
 induction d with
 | zero =>
  intro m h0 h1
  refine Ev.step (fun k => by rw [da]) (Ev.neg (by omega) ?_)
  rw [List.take_of_length_le (by omega)]
  exact Ev.now _
 | succ d ih =>
  intro m h0 h1
  have hm : m < e.length := by omega
  have hp := hg e[m] (List.getElem_mem hm)
  have ihm := ih (m + 1) (by omega) (by omega)
  rw [← aY hm (by omega)] at ihm
  refine Ev.step (fun k => by rw [da]) (Ev.pos (by omega) (Ev.pos (by omega) ?_))
  rw [dd e m hm, d5, eH _ hp.1 (by omega), ia _ hp.1 (by omega)]
  refine Ev.pos hp.1 (Ev.pos (by omega) (Ev.pos ?_ ?_))
  · have h1 := fL (cd e[m].f0) e m he
    have h2 := fL (bB e[m].f0) e e.length he
    rw [List.take_length] at h2
    rw [List.length_append]
    omega
  rw [ib (g := fun i => e.filterMap (bB i) ++ (e.take (m + 1)).filterMap (cd i)) (fun i hi => ?_)]
  · exact ihm
  · rw [jO (cd i) e m hm]
    by_cases c0 : (i : Int) = e[m].f0
    · rw [if_pos c0, c0]
      unfold cd
      rw [if_pos rfl, List.append_assoc]
      rfl
    · rw [if_neg c0]
      have : cd i e[m] = none := by unfold cd; rw [if_neg (by omega)]
      rw [this]
      simp
theorem pL {R : List (List Int)} (hR : Ev (fun k => da k (bD l.length (fun i => e.filterMap (bB i))) 0 l e) R) (d : Nat) : ∀ (m : Nat), e.length - m = d → m ≤ e.length → Ev (fun k => db k (bD l.length (fun i => (e.take m).filterMap (bB i))) (m : Int) l e) R := by
 induction d with
 | zero =>
  intro m h0 h1
  refine Ev.step (fun k => by rw [db]) (Ev.neg (by omega) ?_)
  rw [List.take_of_length_le (by omega)]
  exact hR
 | succ d ih =>
  intro m h0 h1
  have hm : m < e.length := by omega
  have hp := hg e[m] (List.getElem_mem hm)
  have ihm := ih (m + 1) (by omega) (by omega)
  rw [← aY hm (by omega)] at ihm
  refine Ev.step (fun k => by rw [db]) (Ev.pos (by omega) (Ev.pos (by omega) ?_))
  rw [dd e m hm, d5, eH _ (by omega) hp.2.2, ia _ (by omega) hp.2.2]
  refine Ev.pos (by omega) (Ev.pos (by omega) (Ev.pos (by have := fL (bB e[m].f1) e m he; omega) ?_))
  rw [ib (g := fun i => (e.take (m + 1)).filterMap (bB i)) (fun i hi => ?_)]
  · exact ihm
  · rw [jO (bB i) e m hm]
    by_cases c0 : (i : Int) = e[m].f1
    · rw [if_pos c0, c0]
      unfold bB
      rw [if_pos rfl]
      rfl
    · rw [if_neg c0]
      have : bB i e[m] = none := by unfold bB; rw [if_neg (by omega)]
      rw [this]
      simp
end
theorem oh {l : List Int} (h : l.Pairwise (· < ·)) : eG l = l := by
 unfold eG
 exact List.mergeSort_of_pairwise (h.imp fun hab => by simp; omega)
theorem oe (z : List (List Int)) (h : ∀ s ∈ z, s.Pairwise (· < ·) ∧ s.length < 4611686018427387904) : cM z = some z := by
 induction z with
 | nil => rfl
 | cons s t ih =>
  have hs := h s (.head _)
  rw [cM, show fk s = some s from by unfold fk; rw [if_pos hs.2, oh hs.1], Option.bind_some, ih (fun q hq => h q (.tail _ hq)), Option.bind_some]
section
variable (l : List (List Int)) (e : List bM) (hm : gj l e) (hg : bL (l.length : Int) none e = true)
include hm hg
def cA (l : List (List Int)) (e : List bM) : List (List Int) := bD l.length (bZ e)
theorem kY : Ev (fun k => ix k l e) (cA l e) := by
 have ha := gG (l.length : Int) e none hg
 have hp := (mg (l.length : Int) e none hg).1
 have hl := oR (l := l) hm.2.2 ha (e.length - 0) 0 rfl (Nat.zero_le _)
 unfold ix jE
 rw [show (fun k => ((if 0 ≤ (l.length : Int) then (if ((l.length : Int) : Int).toNat ≤ 11728124029610 then (b3 k (List.replicate ((l.length : Int) : Int).toNat []) e (e.length : Int) 0) else (none)) else (none)).bind cM)) = fun k => ((b3 k (List.replicate ((l.length : Int) : Int).toNat []) e (e.length : Int) 0).bind cM) from funext fun k => by rw [if_pos (by omega), if_pos (by have := hm.1; omega)]]
 rw [Int.toNat_natCast, kV]
 have e0 : bZ (e.take 0) = fun _ => [] := funext fun i => by simp [bZ]
 rw [e0] at hl
 refine Ev.bind hl (Ev.some ?_)
 refine oe _ fun s hs => ?_
 unfold cA bD at *
 obtain ⟨i, _, rfl⟩ := List.mem_map.1 hs
 refine ⟨oP _ e (fun p hp => (ha p hp).2.1) hp, ?_⟩
 have := fL (bW i) e e.length hm.2.2
 rw [List.take_length] at this
 unfold bZ
 omega
theorem lH : Ev (fun k => f5 k l e) (cA l e) := by
 have ha := gG (l.length : Int) e none hg
 have hp := (mg (l.length : Int) e none hg).1
 have h2 := pK (l := l) hm.2.2 ha (e.length - 0) 0 rfl (Nat.zero_le _)
 have e0 : (fun i => e.filterMap (bB i) ++ (e.take 0).filterMap (cd i)) = fun i => e.filterMap (bB i) := funext fun i => by simp
 rw [e0] at h2
 have h1 := pL (l := l) hm.2.2 ha h2 (e.length - 0) 0 rfl (Nat.zero_le _)
 have e1 : (fun i => (e.take 0).filterMap (bB i)) = fun _ => [] := funext fun i => by simp
 rw [e1] at h1
 unfold f5
 refine Ev.pos (by omega) (Ev.pos (by have := hm.1; omega) ?_)
 rw [Int.toNat_natCast, kV]
 rw [show cA l e = bD l.length (fun i => e.filterMap (bB i) ++ e.filterMap (cd i)) from ib fun i _ => (oO i e (fun p hp => (ha p hp).2.1) hp).symm]
 exact h1
end
theorem jf (l : List (List Int)) (e : List bM) : (cA l e).length = l.length := d5 _ _
theorem oQ (e : List bM) (i : Int) : (bZ e i).length ≤ e.length := List.length_filterMap_le _ _
theorem ll (l : List Int) (j k : Int) (v : Int) (h : j.toNat < l.length) : rd (l.set j.toNat v) k = if k.toNat = j.toNat then v else rd l k := by
 unfold rd
 rw [List.getD_eq_getElem?_getD, List.getD_eq_getElem?_getD, List.getElem?_set]
 by_cases c : j.toNat = k.toNat
 · rw [if_pos c, if_pos c.symm, if_pos h, Option.getD_some]
 · rw [if_neg c, if_neg (Ne.symm c)]
def dN (l : List Int) : Nat := l.countP fun x => decide (x < 0)
theorem lA (l : List Int) (j : Int) (v : Int) (h : j.toNat < l.length) (hj : rd l j < 0) (hv : 0 ≤ v) : dN (l.set j.toNat v) + 1 = dN l := by
 have e1 : rd l j = l[j.toNat] := by unfold rd; rw [List.getD_eq_getElem?_getD, List.getElem?_eq_getElem h, Option.getD_some]
 rw [e1] at hj
 unfold dN
 rw [List.countP_set h]
 have hp : 0 < l.countP (fun x => decide (x < 0)) := List.countP_pos_iff.2 ⟨_, List.getElem_mem h, ag hj⟩
 rw [if_pos (ag hj), if_neg (by simp; omega)]
 omega
def gP (z : List (List Int)) (P : Int → Prop) : Prop := ∀ i, 0 ≤ i → i < (z.length : Int) → P i → ∀ j ∈ af z i, P j
def fq (z : List (List Int)) : Prop := ∀ i, 0 ≤ i → i < (z.length : Int) → ∀ j ∈ af z i, 0 ≤ j ∧ j < (z.length : Int)
section
variable {z : List (List Int)} (hz : fq z) (hn : z.length ≤ 1048576) (hr : ∀ i, (af z i).length ≤ 1048576)
include hn
theorem nA {row : List Int} (hrow : ∀ j ∈ row, 0 ≤ j ∧ j < (z.length : Int)) (hrl : row.length ≤ 1048576) (i : Int) (hi : 0 ≤ i ∧ i < (z.length : Int)) (h : Nat) (d : Nat) :
  ∀ (m : Nat) (out Q : List Int), row.length - m = d → m ≤ row.length → out.length = z.length → h < Q.length → rd Q (h : Int) = i → 0 ≤ rd out i → (∀ k, rd out k < (Q.length : Int)) → dN out + Q.length ≤ 1048576 →
  ∃ (out' new : List Int), out'.length = z.length ∧ (∀ k, rd out' k < ((Q ++ new).length : Int)) ∧ dN out' + (Q ++ new).length = dN out + Q.length ∧ (∀ k, 0 ≤ rd out k → rd out' k = rd out k) ∧
    (∀ j ∈ row.drop m, 0 ≤ rd out' j) ∧ (∀ j ∈ new, j ∈ row ∧ rd out' j = rd out i + 1) ∧ (∀ k, 0 ≤ k → k < (z.length : Int) → 0 ≤ rd out' k → 0 ≤ rd out k ∨ k ∈ new) ∧
    (∀ R, Ev (fun k => cD k z out' ((Q ++ new).drop (h + 1))) R → Ev (fun k => cC k z out (Q.drop (h + 1)) i row (row.length : Int) (m : Int)) R) ∧
    (∀ R, Ev (fun k => cL k z out' (Q ++ new) (wrap64 ((h : Int) + 1))) R → Ev (fun k => cK k z out Q (h : Int) row (m : Int)) R) := by
 induction d with
 | zero =>
  intro m out Q h0 h1 h2 h3 h4 h5 h6 h7
  refine ⟨out, [], h2, by simpa using h6, by simp, fun _ _ => rfl, fun j hj => ?_, (fun j hj => by cases hj), fun k _ _ hk => .inl hk, fun R hR => ?_, fun R hR => ?_⟩
  · rw [List.drop_eq_nil_of_le (by omega)] at hj; cases hj
  · rw [List.append_nil] at hR
    refine Ev.step (fun k => by rw [cC]) ?_
    refine Ev.neg (by omega) ?_
    exact hR
  · rw [List.append_nil] at hR
    refine Ev.step (fun k => by rw [cK]) ?_
    refine Ev.neg (by omega) ?_
    exact hR
 | succ d ih =>
  intro m out Q h0 h1 h2 h3 h4 h5 h6 h7
  have hm : m < row.length := by omega
  have hj := hrow row[m] (List.getElem_mem hm)
  have hjl : row[m].toNat < out.length := by omega
  by_cases c : rd out row[m] < 0
  · have hv6 := h6 i
    have hw : wrap64 (rd out i + 1) = rd out i + 1 := b5 (by omega) (by omega)
    have hne : row[m].toNat ≠ i.toNat := fun e => by
      have : rd out row[m] = rd out i := by unfold rd; rw [e]
      omega
    have hrs : ∀ k, rd (out.set row[m].toNat (rd out i + 1)) k = if k.toNat = row[m].toNat then rd out i + 1 else rd out k := fun k => ll out row[m] k _ hjl
    have hng := lA out row[m] (rd out i + 1) hjl c (by omega)
    have hQ4 : rd (Q ++ [row[m]]) (h : Int) = i := by
      rw [← h4, bl _ h (by simp; omega), bl Q h h3, List.getElem_append_left h3]
    obtain ⟨out', new, a1, a2, a3, a4, a5, a6, a7, a8, a9⟩ := ih (m + 1) (out.set row[m].toNat (rd out i + 1)) (Q ++ [row[m]]) (by omega) (by omega) (by rw [List.length_set, h2]) (by simp; omega) hQ4
      (by rw [hrs, if_neg (Ne.symm hne)]; exact h5)
      (fun k => by rw [hrs, List.length_append, List.length_singleton]; have := h6 k; split <;> omega)
      (by rw [List.length_append, List.length_singleton]; omega)
    have hmono : ∀ k, 0 ≤ rd out k → rd (out.set row[m].toNat (rd out i + 1)) k = rd out k := fun k hk => by
      rw [hrs]
      by_cases ck : k.toNat = row[m].toNat
      · have : rd out k = rd out row[m] := by unfold rd; rw [ck]
        omega
      · rw [if_neg ck]
    have hself : rd out' row[m] = rd out i + 1 := by
      have e0 : rd (out.set row[m].toNat (rd out i + 1)) row[m] = rd out i + 1 := by rw [hrs, if_pos rfl]
      rw [a4 _ (by rw [e0]; omega), e0]
    have hap : Q ++ row[m] :: new = (Q ++ [row[m]]) ++ new := by simp
    refine ⟨out', row[m] :: new, a1, ?_, ?_, fun k hk => (a4 k (by rw [hmono k hk]; exact hk)).trans (hmono k hk), fun j hj' => ?_, fun j hj' => ?_, fun k hk0 hk1 hk => ?_, fun R hR => ?_, fun R hR => ?_⟩
    · rw [hap]; exact a2
    · rw [hap, a3, List.length_append, List.length_singleton]; omega
    · rw [List.drop_eq_getElem_cons hm] at hj'
      rcases List.mem_cons.1 hj' with rfl | hj'
      · rw [hself]; omega
      · exact a5 j hj'
    · rcases List.mem_cons.1 hj' with rfl | hj'
      · exact ⟨List.getElem_mem hm, hself⟩
      · exact ⟨(a6 j hj').1, by rw [(a6 j hj').2, hmono i h5]⟩
    · rcases a7 k hk0 hk1 hk with h' | h'
      · rw [hrs] at h'
        by_cases ck : k.toNat = row[m].toNat
        · right; rw [show k = row[m] by omega]; exact .head _
        · rw [if_neg ck] at h'; exact .inl h'
      · exact .inr (.tail _ h')
    · rw [hap] at hR
      have := a8 R hR
      rw [← aY hm (by omega), List.drop_append_of_le_length (by omega)] at this
      refine Ev.step (fun k => by rw [cC]) ?_
      refine Ev.pos (by omega) ?_
      refine Ev.pos (by omega) ?_
      refine Ev.pos (by omega) ?_
      rw [bl row m hm]
      refine Ev.pos hj.1 ?_
      refine Ev.pos (by omega) ?_
      refine Ev.pos c ?_
      refine Ev.pos hi.1 ?_
      refine Ev.pos (by omega) ?_
      refine Ev.pos (by rw [List.length_drop]; omega) ?_
      rw [hw]
      exact this
    · rw [hap] at hR
      have := a9 R hR
      rw [← aY hm (by omega)] at this
      refine Ev.step (fun k => by rw [cK]) ?_
      refine Ev.pos (by omega) ?_
      refine Ev.pos (by omega) ?_
      rw [bl row m hm, h4]
      refine Ev.pos hj.1 ?_
      refine Ev.pos (by omega) ?_
      refine Ev.pos c ?_
      refine Ev.pos (by omega) ?_
      refine Ev.pos (by omega) ?_
      refine Ev.pos hi.1 ?_
      refine Ev.pos (by omega) ?_
      refine Ev.pos (by omega) ?_
      rw [hw]
      exact this
  · obtain ⟨out', new, a1, a2, a3, a4, a5, a6, a7, a8, a9⟩ := ih (m + 1) out Q (by omega) (by omega) h2 h3 h4 h5 h6 h7
    refine ⟨out', new, a1, a2, a3, a4, fun j hj' => ?_, a6, a7, fun R hR => ?_, fun R hR => ?_⟩
    · rw [List.drop_eq_getElem_cons hm] at hj'
      rcases List.mem_cons.1 hj' with rfl | hj'
      · rw [a4 _ (by omega)]; omega
      · exact a5 j hj'
    · have := a8 R hR
      rw [← aY hm (by omega)] at this
      refine Ev.step (fun k => by rw [cC]) ?_
      refine Ev.pos (by omega) ?_
      refine Ev.pos (by omega) ?_
      refine Ev.pos (by omega) ?_
      rw [bl row m hm]
      refine Ev.pos hj.1 ?_
      refine Ev.pos (by omega) ?_
      refine Ev.neg c ?_
      exact this
    · have := a9 R hR
      rw [← aY hm (by omega)] at this
      refine Ev.step (fun k => by rw [cK]) ?_
      refine Ev.pos (by omega) ?_
      refine Ev.pos (by omega) ?_
      rw [bl row m hm]
      refine Ev.pos hj.1 ?_
      refine Ev.pos (by omega) ?_
      refine Ev.neg c ?_
      exact this
include hz hr
theorem nz (s : Int) (u : Nat) : ∀ (out Q : List Int) (h : Nat), dN out + (Q.length - h) = u → h ≤ Q.length → out.length = z.length → (∀ k, rd out k < (Q.length : Int)) → dN out + Q.length ≤ 1048576 → 0 < Q.length →
  (∀ q ∈ Q, 0 ≤ q ∧ q < (z.length : Int) ∧ 0 ≤ rd out q) → (∀ k, 0 ≤ k → k < (z.length : Int) → 0 ≤ rd out k → k ∈ Q) → (∀ q ∈ Q.take h, ∀ j ∈ af z q, 0 ≤ rd out j) → (∀ P, gP z P → P s → ∀ q ∈ Q, P q) → rd out s = 0 → (∀ k, 0 ≤ k → k < (z.length : Int) → 0 ≤ rd out k → k = s ∨ ∃ p, 0 ≤ p ∧ p < (z.length : Int) ∧ k ∈ af z p ∧ 0 ≤ rd out p ∧ rd out k = rd out p + 1) →
  ∃ R, Ev (fun k => cD k z out (Q.drop h)) R ∧ Ev (fun k => cL k z out Q (h : Int)) R ∧ R.length = z.length ∧ (∀ k, rd R k ≤ 1048575) ∧ (∀ k, 0 ≤ rd out k → 0 ≤ rd R k) ∧ gP z (fun k => 0 ≤ rd R k) ∧ (∀ P, gP z P → P s → ∀ k, 0 ≤ k → k < (z.length : Int) → 0 ≤ rd R k → P k) ∧ rd R s = 0 ∧ (∀ k, 0 ≤ k → k < (z.length : Int) → 0 ≤ rd R k → k = s ∨ ∃ p, 0 ≤ p ∧ p < (z.length : Int) ∧ k ∈ af z p ∧ 0 ≤ rd R p ∧ rd R k = rd R p + 1) := by
 induction u with
 | zero =>
  intro out Q h h0 h1 h2 h3 h4 hQ0 h5 h6 h7 h8 hS hE
  have he : h = Q.length := by omega
  refine ⟨out, ?_, ?_, h2, fun k => by have := h3 k; omega, fun _ hk => hk, fun i hi0 hi1 hi j hj => ?_, fun P hP hs k hk0 hk1 hk => h8 P hP hs k (h6 k hk0 hk1 hk), hS, hE⟩
  · rw [List.drop_eq_nil_of_le (by omega)]
    refine Ev.step (fun k => by rw [cD]) ?_
    refine Ev.neg (by simp) ?_
    exact (Ev.now _)
  · refine Ev.step (fun k => by rw [cL]) ?_
    refine Ev.neg (by omega) ?_
    exact (Ev.now _)
  · exact h7 i (by rw [List.take_of_length_le (by omega)]; exact h6 i hi0 hi1 hi) j hj
 | succ u ih =>
  intro out Q h h0 h1 h2 h3 h4 hQ0 h5 h6 h7 h8 hS hE
  by_cases ce : h = Q.length
  · refine ⟨out, ?_, ?_, h2, fun k => by have := h3 k; omega, fun _ hk => hk, fun i hi0 hi1 hi j hj => ?_, fun P hP hs k hk0 hk1 hk => h8 P hP hs k (h6 k hk0 hk1 hk), hS, hE⟩
    · rw [List.drop_eq_nil_of_le (by omega)]
      refine Ev.step (fun k => by rw [cD]) ?_
      refine Ev.neg (by simp) ?_
      exact (Ev.now _)
    · refine Ev.step (fun k => by rw [cL]) ?_
      refine Ev.neg (by omega) ?_
      exact (Ev.now _)
    · exact h7 i (by rw [List.take_of_length_le (by omega)]; exact h6 i hi0 hi1 hi) j hj
  have hh : h < Q.length := by omega
  obtain ⟨q0, q1, q2⟩ := h5 Q[h] (List.getElem_mem hh)
  have hrow := hz Q[h] q0 q1
  obtain ⟨out', new, a1, a2, a3, a4, a5, a6, a7, a8, a9⟩ := nA hn hrow (hr _) Q[h] ⟨q0, q1⟩ h ((af z Q[h]).length - 0) 0 out Q rfl (Nat.zero_le _) h2 hh (bl Q h hh) q2 h3 h4
  rw [List.drop_zero] at a5
  simp only [Int.natCast_zero] at a8 a9
  obtain ⟨R, r1, r2, r3, r4, r5, r6, r7, r8, r9⟩ := ih out' (Q ++ new) (h + 1) (by rw [List.length_append] at a3 ⊢; omega) (by rw [List.length_append]; omega) a1 a2 (by omega) (by rw [List.length_append]; omega)
    (fun q hq => by
      rcases List.mem_append.1 hq with hq | hq
      · obtain ⟨b0, b1, b2⟩ := h5 q hq; exact ⟨b0, b1, by rw [a4 q b2]; exact b2⟩
      · obtain ⟨b0, b1⟩ := a6 q hq; exact ⟨(hrow q b0).1, (hrow q b0).2, by rw [b1]; omega⟩)
    (fun k hk0 hk1 hk => by
      rcases a7 k hk0 hk1 hk with h' | h'
      · exact List.mem_append_left _ (h6 k hk0 hk1 h')
      · exact List.mem_append_right _ h')
    (fun q hq j hj => by
      rw [List.take_append_of_le_length (by omega), List.take_add_one, List.getElem?_eq_getElem hh] at hq
      rcases List.mem_append.1 hq with hq | hq
      · rw [a4 j (h7 q hq j hj)]; exact h7 q hq j hj
      · rw [show q = Q[h] by simpa using hq] at hj; exact a5 j hj)
    (fun P hP hs q hq => by
      rcases List.mem_append.1 hq with hq | hq
      · exact h8 P hP hs q hq
      · exact hP Q[h] q0 q1 (h8 P hP hs _ (List.getElem_mem hh)) q (a6 q hq).1)
    (by rw [a4 s (by omega)]; exact hS)
    (fun k hk0 hk1 hk => by
      rcases a7 k hk0 hk1 hk with h' | h'
      · rcases hE k hk0 hk1 h' with e | ⟨p, p0, p1, p2, p3, p4⟩
        · exact .inl e
        · exact .inr ⟨p, p0, p1, p2, by rw [a4 p p3]; exact p3, by rw [a4 p p3, a4 k h']; exact p4⟩
      · obtain ⟨b0, b1⟩ := a6 k h'
        exact .inr ⟨Q[h], q0, q1, b0, by rw [a4 _ q2]; exact q2, by rw [a4 _ q2]; exact b1⟩)
  refine ⟨R, ?_, ?_, r3, r4, fun k hk => r5 k (by rw [a4 k hk]; exact hk), r6, r7, r8, r9⟩
  · have e8 := a8 R r1
    rw [List.drop_eq_getElem_cons hh]
    refine Ev.step (fun k => by rw [cD]) ?_
    refine Ev.pos (by rw [List.length_cons]; omega) ?_
    refine Ev.pos (by rw [List.length_cons]; omega) ?_
    refine Ev.pos (by rw [List.length_cons]; omega) ?_
    have e1 : rd (Q[h] :: Q.drop (h + 1)) 0 = Q[h] := rfl
    have e2 : (Q[h] :: Q.drop (h + 1)).drop (1 : Int).toNat = Q.drop (h + 1) := rfl
    rw [e1, e2]
    refine Ev.pos q0 ?_
    refine Ev.pos q1 ?_
    exact e8
  · have hwh : wrap64 ((h : Int) + 1) = ((h + 1 : Nat) : Int) := aY hh (by omega)
    rw [hwh] at a9
    clear hwh
    have e9 := a9 R r2
    refine Ev.step (fun k => by rw [cL]) ?_
    refine Ev.pos (by omega) ?_
    refine Ev.pos (by omega) ?_
    rw [bl Q h hh]
    refine Ev.pos q0 ?_
    refine Ev.pos q1 ?_
    exact e9
end
theorem sg {z : List (List Int)} (i : Int) {R : List Int} (d : Nat) : ∀ (m : Nat) (out : List Int), out.length - m = d → m ≤ out.length → out.length ≤ 1048576 → out.take m = List.replicate m (-1) → Ev (fun k => cX k z i (List.replicate out.length (-1)) (out.length : Int)) R → Ev (fun k => cX k z i out (m : Int)) R := by
 induction d with
 | zero =>
  intro m out h0 h1 h2 h3 hR
  have he : m = out.length := by omega
  rw [he] at h3 ⊢
  rw [List.take_length] at h3
  rw [← h3] at hR
  exact hR
 | succ d ih =>
  intro m out h0 h1 h2 h3 hR
  have hm : m < out.length := by omega
  refine Ev.step (fun k => by rw [cX]) ?_
  refine Ev.pos (by omega) ?_
  refine Ev.pos (by omega) ?_
  have := ih (m + 1) (out.set m (-1)) (by rw [List.length_set]; omega) (by rw [List.length_set]; omega) (by rw [List.length_set]; exact h2) (by
   rw [List.take_add_one, List.getElem?_set_self hm, List.take_set_of_le (au _), h3, List.replicate_succ', Option.toList]) (by rw [List.length_set]; exact hR)
  rw [← aY hm (by omega)] at this
  rw [Int.toNat_natCast]
  exact this
theorem nB {z : List (List Int)} (hz : fq z) (hn : z.length ≤ 1048576) (hr : ∀ i, (af z i).length ≤ 1048576) (s : Int) (hs0 : 0 ≤ s) (hs1 : s < (z.length : Int)) :
   ∃ R, Ev (fun k => gC k z s) R ∧ Ev (fun k => fZ k z s) R ∧ R.length = z.length ∧ (∀ k, rd R k ≤ 1048575) ∧ 0 ≤ rd R s ∧ gP z (fun k => 0 ≤ rd R k) ∧ (∀ P, gP z P → P s → ∀ k, 0 ≤ k → k < (z.length : Int) → 0 ≤ rd R k → P k) ∧ rd R s = 0 ∧ (∀ k, 0 ≤ k → k < (z.length : Int) → 0 ≤ rd R k → k = s ∨ ∃ p, 0 ≤ p ∧ p < (z.length : Int) ∧ k ∈ af z p ∧ 0 ≤ rd R p ∧ rd R k = rd R p + 1) := by
 have hl : s.toNat < (List.replicate z.length (-1 : Int)).length := by rw [List.length_replicate]; omega
 have hrs : ∀ k, rd ((List.replicate z.length (-1 : Int)).set s.toNat 0) k = if k.toNat = s.toNat then 0 else rd (List.replicate z.length (-1)) k := fun k => ll _ s k 0 hl
 have hrep : ∀ k, rd (List.replicate z.length (-1 : Int)) k < 1 := fun k => by
   unfold rd; rw [List.getD_eq_getElem?_getD, List.getElem?_replicate]; split <;> simp
 have hrep2 : ∀ k : Int, 0 ≤ k → k < (z.length : Int) → rd (List.replicate z.length (-1 : Int)) k = -1 := fun k h0 h1 => by
   unfold rd; rw [List.getD_eq_getElem?_getD, List.getElem?_replicate, if_pos (by omega)]; rfl
 have hneg := lA (List.replicate z.length (-1 : Int)) s 0 hl (by rw [hrep2 s hs0 hs1]; decide) (Int.le_refl _)
 have hneg2 : dN (List.replicate z.length (-1 : Int)) ≤ z.length := by have := List.countP_le_length (p := fun x => decide (x < 0)) (l := List.replicate z.length (-1 : Int)); rw [List.length_replicate] at this; exact this
 obtain ⟨R, r1, r2, r3, r4, r5, r6, r7, r8, r9⟩ := nz hz hn hr s _ ((List.replicate z.length (-1 : Int)).set s.toNat 0) [s] 0 rfl (Nat.zero_le _) (by rw [List.length_set, List.length_replicate])
   (fun k => by rw [hrs]; have := hrep k; simp only [List.length_singleton]; split <;> omega) (by rw [List.length_singleton]; omega) (by simp)
   (fun q hq => by rw [show q = s by simpa using hq]; exact ⟨hs0, hs1, by rw [hrs, if_pos rfl]; exact Int.le_refl _⟩)
   (fun k hk0 hk1 hk => by
     rw [hrs] at hk
     by_cases c : k.toNat = s.toNat
     · rw [show k = s by omega]; exact .head _
     · rw [if_neg c, hrep2 k hk0 hk1] at hk; omega)
   (fun q hq => by simp at hq) (fun P hP hs q hq => by rw [show q = s by simpa using hq]; exact hs) (by rw [hrs, if_pos rfl])
   (fun k hk0 hk1 hk => by
     rw [hrs] at hk
     by_cases c : k.toNat = s.toNat
     · exact .inl (by omega)
     · rw [if_neg c, hrep2 k hk0 hk1] at hk; omega)
 simp only [Int.natCast_zero, List.drop_zero] at r1 r2
 refine ⟨R, ?_, ?_, r3, r4, r5 s (by rw [hrs, if_pos rfl]; exact Int.le_refl _), r6, r7, r8, r9⟩
 · unfold gC
   refine Ev.bindo (a := List.replicate z.length (-1)) ?_ ?_
   · unfold ga
     rw [if_pos ⟨rfl, by omega, by omega⟩, Int.toNat_natCast]
     rfl
   · rw [List.length_replicate]
     refine Ev.pos hs0 ?_
     refine Ev.pos hs1 ?_
     exact r1
 · unfold fZ
   refine Ev.pos (by omega) ?_
   refine Ev.pos (by omega) ?_
   rw [Int.toNat_natCast]
   have hfill := sg (z := z) (R := R) s _ 0 (List.replicate z.length 0) rfl (Nat.zero_le _) (by rw [List.length_replicate]; exact hn) (by simp)
   simp only [Int.natCast_zero, List.length_replicate] at hfill
   refine hfill ?_
   refine Ev.step (fun k => by rw [cX]) ?_
   refine Ev.neg (by rw [List.length_replicate]; omega) ?_
   rw [List.length_replicate]
   refine Ev.pos hs0 ?_
   refine Ev.pos hs1 ?_
   exact r2
def free (l : List Bool) : Nat := l.countP fun x => !x
def iT (z : List (List Int)) : Prop := ∀ i j, 0 ≤ i → i < (z.length : Int) → 0 ≤ j → j < (z.length : Int) → j ∈ af z i → i ∈ af z j
section
variable {z : List (List Int)} (hn : z.length ≤ 1048576)
include hn
variable (hz : fq z) (hr : ∀ i, (af z i).length ≤ 1048576)
include hz hr
end
section
variable {z : List (List Int)} (hn : z.length ≤ 1048576) (hz : fq z) (hr : ∀ i, (af z i).length ≤ 1048576) (hs : iT z)
include hn hz hr hs
end
theorem je (e : List bM) (i j : Int) : j ∈ bZ e i ↔ ∃ p ∈ e, (p.f0 = i ∧ p.f1 = j) ∨ (p.f0 ≠ i ∧ p.f1 = i ∧ p.f0 = j) := by
 unfold bZ
 rw [List.mem_filterMap]
 refine exists_congr fun p => and_congr_right fun _ => ?_
 unfold bW
 by_cases c0 : p.f0 = i
 · rw [if_pos c0]; simp [c0]
 · rw [if_neg c0]
   by_cases c1 : p.f1 = i
   · rw [if_pos c1]; simp [c0, c1]
   · rw [if_neg c1]; simp [c0, c1]
section
variable (l : List (List Int)) (e : List bM) (hm : gj l e) (hg : bL (l.length : Int) none e = true)
include hm hg
theorem oU : fq (cA l e) := by
 have _hu := hm
 have ha := gG (l.length : Int) e none hg
 intro i h0 h1 j hj
 rw [jf] at h1 ⊢
 unfold cA at hj
 rw [eH _ h0 h1, je] at hj
 obtain ⟨p, hp, h⟩ := hj
 have := ha p hp
 omega
theorem oS : iT (cA l e) := by
 have _hu := hm
 have ha := gG (l.length : Int) e none hg
 intro i j h0 h1 h2 h3 hj
 rw [jf] at h1 h3
 unfold cA at hj ⊢
 rw [eH _ h0 h1, je] at hj
 rw [eH _ h2 h3, je]
 obtain ⟨p, hp, h⟩ := hj
 refine ⟨p, hp, ?_⟩
 have := ha p hp
 omega
theorem oT (i : Int) : (af (cA l e) i).length ≤ 1048576 := by
 have _hu := hg
 unfold af
 rw [List.getD_eq_getElem?_getD]
 cases h : (cA l e)[i.toNat]? with
 | none => exact Nat.zero_le _
 | some s =>
  have hs := List.mem_of_getElem? h
  unfold cA bD at hs
  obtain ⟨q, _, rfl⟩ := List.mem_map.1 hs
  exact Nat.le_trans (oQ _ _) hm.2.2
end
theorem ij (l : List Int) (h : l.length ≤ 1048576) : cn l = some l := by
 unfold cn
 rw [Option.bind_some, List.length_nil, if_pos (by omega), List.nil_append]
theorem oK (x y : List Int) (hx : x.length ≤ 1048576) (hxy : x.length = y.length) (d : Nat) : ∀ (m : Nat), x.length - m = d → m ≤ x.length → Ev (fun k => dZ k x y (m : Int)) (decide (x.drop m = y.drop m)) := by
 induction d with
 | zero =>
  intro m h0 h1
  refine Ev.step (fun k => by rw [dZ]) (Ev.neg (by omega) ?_)
  rw [List.drop_eq_nil_of_le (by omega), List.drop_eq_nil_of_le (by omega), ag rfl]
  exact Ev.now _
 | succ d ih =>
  intro m h0 h1
  have hm : m < x.length := by omega
  have hy : m < y.length := by omega
  refine Ev.step (fun k => by rw [dZ]) (Ev.pos (by omega) (Ev.pos (by omega) (Ev.pos (by omega) ?_)))
  rw [bl x m hm, bl y m hy, List.drop_eq_getElem_cons hm, List.drop_eq_getElem_cons hy]
  by_cases c : x[m] = y[m]
  · have := ih (m + 1) (by omega) (by omega)
    rw [show decide (x[m] :: x.drop (m + 1) = y[m] :: y.drop (m + 1)) = decide (x.drop (m + 1) = y.drop (m + 1)) from by rw [decide_eq_decide, List.cons.injEq]; exact ⟨fun h => h.2, fun h => ⟨c, h⟩⟩, aY hm (by omega)]
    exact Ev.pos c this
  · rw [ar (fun h => c (by injection h))]
    exact Ev.neg c (Ev.now _)
theorem hU (x y : List Int) (hx : x.length ≤ 1048576) : Ev (fun k => eF k x y) (decide (x = y)) := by
 unfold eF
 by_cases c : x.length = y.length
 · have := oK x y hx c x.length 0 (by omega) (Nat.zero_le _)
   rw [List.drop_zero, List.drop_zero] at this
   exact Ev.pos (by omega) this
 · rw [ar (fun h => c (by rw [h]))]
   exact Ev.neg (by omega) (Ev.now _)
theorem lJ {o : List (List Int)} (h : LexS o) (s : List Int) (p : Nat) (h1 : ∀ x ∈ o.drop p, aE s x = true) (h2 : ∀ x ∈ o.take p, aE x s = true) :
   LexS (o.take p ++ [s] ++ o.drop p) ∧ ∀ x, x ∈ o.take p ++ [s] ++ o.drop p ↔ x ∈ o ∨ x = s := by
 have hm : ∀ x, x ∈ o ↔ x ∈ o.take p ∨ x ∈ o.drop p := fun x => by rw [← List.mem_append, List.take_append_drop]
 constructor
 · unfold LexS
   rw [List.append_assoc, List.singleton_append, List.pairwise_append, List.pairwise_cons]
   refine ⟨h.sublist (List.take_sublist ..), ⟨h1, h.sublist (List.drop_sublist ..)⟩, fun a ha b hb => ?_⟩
   rcases List.mem_cons.1 hb with rfl | hb
   · exact h2 a ha
   · exact gR _ _ _ (h2 a ha) (h1 b hb)
 · intro x
   rw [hm x]
   simp only [List.mem_append, List.mem_singleton]
   constructor
   · rintro ((h | h) | h)
     · exact .inl (.inl h)
     · exact .inr h
     · exact .inl (.inr h)
   · rintro ((h | h) | h)
     · exact .inl (.inl h)
     · exact .inr h
     · exact .inl (.inr h)
section
variable (ls : List (List Int)) (hls : ls.length ≤ 1048576) (hb : ∀ s ∈ ls, s.length ≤ 1048576)
include hls hb
theorem od (i : Nat) (hi : i < ls.length) (o : List (List Int)) (ho : LexS o) (hol : o.length ≤ i) (hob : ∀ x ∈ o, x.length ≤ 1048576) : ∀ p : Nat, p ≤ o.length → (∀ x ∈ o.drop p, aE ls[i] x = true) →
  ∃ R, LexS R ∧ R.length ≤ o.length + 1 ∧ (∀ x, x ∈ R ↔ x ∈ o ∨ x = ls[i]) ∧ ∀ F, Ev (fun k => bu k ls R (wrap64 ((i : Int) + 1))) F → Ev (fun k => cY k ls o (i : Int) (p : Int)) F := by
 have hs := hb ls[i] (List.getElem_mem hi)
 intro p
 induction p with
 | zero =>
  intro hp hd
  obtain ⟨g1, g2⟩ := lJ ho ls[i] 0 hd (fun x hx => by simp at hx)
  refine ⟨_, g1, by simp, g2, fun F hF => ?_⟩
  refine Ev.step (fun k => by rw [cY]) ?_
  refine Ev.neg (by omega) ?_
  refine Ev.step (fun k => by rw [dJ]) ?_
  refine Ev.pos rfl ?_
  refine Ev.bindo rfl ?_
  refine Ev.pos (by omega) ?_
  refine Ev.pos (by omega) ?_
  refine Ev.bindo rfl ?_
  refine Ev.pos (by simp) ?_
  refine Ev.bindo rfl ?_
  refine Ev.pos (by omega) ?_
  refine Ev.pos (by omega) ?_
  rw [bV ls i hi]
  refine Ev.bindo (ij _ hs) ?_
  refine Ev.pos (by simp) ?_
  refine Ev.bindo rfl ?_
  refine Ev.bindo rfl ?_
  refine Ev.pos (by simp; omega) ?_
  exact hF
 | succ p ih =>
  intro hp hd
  have hpl : p < o.length := by omega
  have hw : wrap64 (((p + 1 : Nat) : Int) - 1) = (p : Int) := by unfold wrap64; omega
  cases c : aE ls[i] o[p] with
  | true =>
   obtain ⟨R, r1, r2, r3, r4⟩ := ih (by omega) (fun x hx => by
     rw [List.drop_eq_getElem_cons hpl] at hx
     rcases List.mem_cons.1 hx with rfl | hx
     · exact c
     · exact hd x hx)
   refine ⟨R, r1, r2, r3, fun F hF => ?_⟩
   refine Ev.step (fun k => by rw [cY]) ?_
   refine Ev.pos (by omega) ?_
   refine Ev.pos (by omega) ?_
   refine Ev.pos (by omega) ?_
   rw [hw]
   refine Ev.pos (by omega) ?_
   refine Ev.pos (by omega) ?_
   rw [bV ls i hi, bV o p hpl]
   refine Ev.bind (jx _ _ hs (hob _ (List.getElem_mem hpl))) ?_
   refine Ev.pos c ?_
   exact r4 F hF
  | false =>
   by_cases e : o[p] = ls[i]
   · refine ⟨o, ho, by omega, fun x => ⟨.inl, fun h => h.elim id fun h => by rw [h, ← e]; exact List.getElem_mem hpl⟩, fun F hF => ?_⟩
     refine Ev.step (fun k => by rw [cY]) ?_
     refine Ev.pos (by omega) ?_
     refine Ev.pos (by omega) ?_
     refine Ev.pos (by omega) ?_
     rw [hw]
     refine Ev.pos (by omega) ?_
     refine Ev.pos (by omega) ?_
     rw [bV ls i hi, bV o p hpl]
     refine Ev.bind (jx _ _ hs (hob _ (List.getElem_mem hpl))) ?_
     refine Ev.neg (by rw [c]; decide) ?_
     refine Ev.step (fun k => by rw [dJ]) ?_
     refine Ev.neg (by omega) ?_
     rw [hw]
     refine Ev.pos (by omega) ?_
     refine Ev.pos (by omega) ?_
     refine Ev.pos (by omega) ?_
     refine Ev.pos (by omega) ?_
     rw [bV ls i hi, bV o p hpl]
     refine Ev.bind (hU _ _ (hob _ (List.getElem_mem hpl))) ?_
     refine Ev.pos (ag e) ?_
     exact hF
   · have hlt : aE o[p] ls[i] = true := by
       cases c2 : aE o[p] ls[i] with
       | true => rfl
       | false => exact absurd (iF _ _ c2 c) e
     obtain ⟨g1, g2⟩ := lJ ho ls[i] (p + 1) hd (fun x hx => by
       obtain ⟨q, hq, rfl⟩ := List.getElem_of_mem hx
       rw [List.length_take] at hq
       rw [List.getElem_take]
       by_cases hqp : q = p
       · subst hqp; exact hlt
       · exact gR _ _ _ (List.pairwise_iff_getElem.1 ho q p (by omega) hpl (by omega)) hlt)
     refine ⟨_, g1, by simp [List.length_take, List.length_drop]; omega, g2, fun F hF => ?_⟩
     refine Ev.step (fun k => by rw [cY]) ?_
     refine Ev.pos (by omega) ?_
     refine Ev.pos (by omega) ?_
     refine Ev.pos (by omega) ?_
     rw [hw]
     refine Ev.pos (by omega) ?_
     refine Ev.pos (by omega) ?_
     rw [bV ls i hi, bV o p hpl]
     refine Ev.bind (jx _ _ hs (hob _ (List.getElem_mem hpl))) ?_
     refine Ev.neg (by rw [c]; decide) ?_
     refine Ev.step (fun k => by rw [dJ]) ?_
     refine Ev.neg (by omega) ?_
     rw [hw]
     refine Ev.pos (by omega) ?_
     refine Ev.pos (by omega) ?_
     refine Ev.pos (by omega) ?_
     refine Ev.pos (by omega) ?_
     rw [bV ls i hi, bV o p hpl]
     refine Ev.bind (hU _ _ (hob _ (List.getElem_mem hpl))) ?_
     refine Ev.neg (by rw [ar e]; decide) ?_
     refine Ev.bindo rfl ?_
     refine Ev.pos (by omega) ?_
     refine Ev.pos (by omega) ?_
     refine Ev.bindo rfl ?_
     rw [Int.toNat_natCast]
     refine Ev.pos (by simp [List.length_take]; omega) ?_
     refine Ev.bindo rfl ?_
     refine Ev.bindo (ij _ hs) ?_
     refine Ev.pos (by simp [List.length_take]; omega) ?_
     refine Ev.bindo rfl ?_
     refine Ev.bindo rfl ?_
     refine Ev.pos (by simp [List.length_take, List.length_drop]; omega) ?_
     exact hF
theorem oc (d : Nat) : ∀ (m : Nat) (o : List (List Int)), ls.length - m = d → m ≤ ls.length → LexS o → o.length ≤ m → (∀ x, x ∈ o ↔ x ∈ ls.take m) →
  ∃ R, LexS R ∧ R.length ≤ ls.length ∧ (∀ x, x ∈ R ↔ x ∈ ls) ∧ Ev (fun k => bu k ls o (m : Int)) R := by
 induction d with
 | zero =>
  intro m o h0 h1 h2 h3 h4
  refine ⟨o, h2, by omega, fun x => by rw [h4 x, List.take_of_length_le (by omega)], ?_⟩
  refine Ev.step (fun k => by rw [bu]) ?_
  exact Ev.neg (by omega) (Ev.now _)
 | succ d ih =>
  intro m o h0 h1 h2 h3 h4
  have hm : m < ls.length := by omega
  obtain ⟨R, r1, r2, r3, r4⟩ := od ls hls hb m hm o h2 h3 (fun x hx => hb x (List.mem_of_mem_take ((h4 x).1 hx))) o.length (au _) (fun x hx => by rw [List.drop_length] at hx; simp at hx)
  obtain ⟨R', q1, q2, q3, q4⟩ := ih (m + 1) R (by omega) (by omega) r1 (by omega) (fun x => by
   rw [r3 x, h4 x, List.take_succ_eq_append_getElem hm, List.mem_append, List.mem_singleton])
  rw [← aY hm (by omega)] at q4
  refine ⟨R', q1, q2, q3, ?_⟩
  refine Ev.step (fun k => by rw [bu]) ?_
  refine Ev.pos (by omega) ?_
  exact r4 R' q4
end
theorem qe (ls : List (List Int)) (hls : ls.length ≤ 1048576) (hb : ∀ s ∈ ls, s.length ≤ 1048576) : ∃ R, LexS R ∧ R.length ≤ ls.length ∧ (∀ x, x ∈ R ↔ x ∈ ls) ∧ Ev (fun k => eD k ls) R := by
 obtain ⟨R, r1, r2, r3, r4⟩ := oc ls hls hb ls.length 0 [] (by omega) (Nat.zero_le _) List.Pairwise.nil (au _) (fun x => by simp)
 refine ⟨R, r1, r2, r3, ?_⟩
 unfold eD
 simpa only [Int.natCast_zero] using r4
theorem qd (ls : List (List Int)) (hls : ls.length ≤ 1048576) (hb : ∀ s ∈ ls, s.length ≤ 1048576) (hn : ls.Nodup) : Ev (fun k => eD k ls) (bJ ls) := by
 obtain ⟨R, r1, r2, r3, r4⟩ := qe ls hls hb
 rw [← lI R (bJ ls) r1 (i5 ls hn) (fun s => by rw [r3, hG])]
 exact r4
abbrev bX (b : Int) : List Int := aI (aJ b) 8 0
theorem rj : ∀ b : Fin 256, ∀ y : Fin 8, (Go.bits .and .i64 (cO .i64 b y) 1 == 1) = aJ b y := by decide +kernel
theorem mc {b y : Int} (hb : 0 ≤ b ∧ b < 256) (hy : 0 ≤ y ∧ y < 8) : (Go.bits .and .i64 (cO .i64 b y) 1 = 1) ↔ aJ b y = true := by
 obtain ⟨i, rfl⟩ := dD (n := 256) hb.1 hb.2
 obtain ⟨j, rfl⟩ := dD (n := 8) hy.1 hy.2
 have := rj i j
 rw [← this, beq_iff_eq]
theorem q7 : ∀ n : Fin 9, ∀ b : Fin 256, decide (b.val < 2 ^ n.val) = (List.range 8).all (fun y => decide (y < n.val) || !aJ b y) := by decide +kernel
theorem jJ {n : Nat} {b : Int} (hn : n ≤ 8) (hb : 0 ≤ b ∧ b < 256) : b < ((2 ^ n : Nat) : Int) ↔ ∀ y : Int, (n : Int) ≤ y → y < 8 → aJ b y = false := by
 obtain ⟨i, rfl⟩ := dD (n := 256) hb.1 hb.2
 have h := q7 ⟨n, by omega⟩ i
 have e1 : ((i.val : Int) < ((2 ^ n : Nat) : Int)) ↔ decide (i.val < 2 ^ n) = true := by rw [decide_eq_true_eq]; omega
 rw [e1, h, List.all_eq_true]
 constructor
 · intro h y h0 h1
   have := h y.toNat (by rw [List.mem_range]; omega)
   simp only [Bool.or_eq_true, decide_eq_true_eq, Bool.not_eq_true'] at this
   rw [show ((y.toNat : Nat) : Int) = y by omega] at this
   exact this.resolve_left (by omega)
 · intro h y hy
   rw [List.mem_range] at hy
   by_cases c : y < n
   · simp [c]
   · have := h (y : Int) (by omega) (by omega)
     simp [this]
theorem s9 : ∀ b : Fin 256, aZ 0 (aI (aJ b) 8 0) = b := by decide +kernel
theorem jZ {b : Int} (hb : 0 ≤ b ∧ b < 256) : aZ 0 (bX b) = b := by
 obtain ⟨i, rfl⟩ := dD (n := 256) hb.1 hb.2
 exact s9 i
theorem sU (n : Int) (b : Int) (hn : n ≤ 8) (hb : 0 ≤ b ∧ b < 256) (d : Nat) : ∀ (y : Int) (acc : List Int), (n - y).toNat = d → 0 ≤ y → acc.length + d ≤ 1000 → Ev (fun k => cy k n b acc y) (acc ++ aI (aJ b) d y) := by
 induction d with
 | zero =>
  intro y acc h0 h1 h2
  refine Ev.step (fun k => by rw [cy]) (Ev.neg (by omega) ?_)
  simp only [aI, List.append_nil]
  exact Ev.now _
 | succ d ih =>
  intro y acc h0 h1 h2
  refine Ev.step (fun k => by rw [cy]) (Ev.pos (by omega) (Ev.pos (by omega) ?_))
  have hw : wrap64 (y + 1) = y + 1 := b5 (by omega) (by omega)
  rw [hw, aI]
  by_cases c : aJ b y = true
  · rw [if_pos c, ← List.append_assoc]
    refine Ev.pos ((mc hb ⟨h1, by omega⟩).2 c) (Ev.pos (by omega) ?_)
    exact ih (y + 1) _ (by omega) (by omega) (by rw [List.length_append, List.length_singleton]; omega)
  · rw [if_neg c, List.nil_append]
    exact Ev.neg (fun h => c ((mc hb ⟨h1, by omega⟩).1 h)) (ih (y + 1) acc (by omega) (by omega) (by omega))
theorem sV (n : Nat) (b : Int) (hn : n ≤ 8) (hb : 0 ≤ b ∧ b < ((2 ^ n : Nat) : Int)) : Ev (fun k => fh k (n : Int) b) (bX b) := by
 have hpow : 2 ^ n ≤ 256 := Nat.pow_le_pow_right (n := 2) (by decide) (show n ≤ 8 from hn)
 have h := sU (n : Int) b (by omega) ⟨hb.1, by omega⟩ n 0 [] (by omega) (by omega) (by simp; omega)
 unfold fh
 have e : bX b = aI (aJ b) n 0 := by
  unfold bX
  rw [show 8 = n + (8 - n) by omega, kU, oG _ (8 - n), List.append_nil]
  intro z h0 h1
  exact (jJ hn ⟨hb.1, by omega⟩).1 hb.2 z (by omega) (by omega)
 rw [e]
 simpa only [List.nil_append] using h
def SetN (n : Nat) (s : List Int) : Prop := s.Pairwise (· < ·) ∧ ∀ x ∈ s, 0 ≤ x ∧ x < (n : Int)
theorem SetN.ris {n : Nat} {s : List Int} (h : SetN n s) : bA 0 ((n : Int) - 1) none s = true := oW _ _ s none h.1 (fun x hx => by have := h.2 x hx; omega) (fun q e => by cases e)
theorem SetN.of_ris {n : Nat} {s : List Int} (h : bA 0 ((n : Int) - 1) none s = true) : SetN n s := ⟨(la _ _ s none h).1, fun x hx => by have := jg _ _ s none h x hx; omega⟩
theorem SetN.wide {n m : Nat} {s : List Int} (h : SetN n s) (hm : n ≤ m) : SetN m s := ⟨h.1, fun x hx => by have := h.2 x hx; omega⟩
theorem hL (f : Int → Bool) (d : Nat) : ∀ y, (aI f d y).Pairwise (· < ·) := by
 induction d with
 | zero => intro y; exact List.Pairwise.nil
 | succ d ih =>
  intro y
  simp only [aI]
  by_cases c : f y = true
  · rw [if_pos c, List.singleton_append, List.pairwise_cons]
    exact ⟨fun z hz => by have := ((dc f d (y + 1) z).1 hz).1; omega, ih (y + 1)⟩
  · rw [if_neg c, List.nil_append]
    exact ih (y + 1)
theorem mG {n : Nat} {b : Int} (hn : n ≤ 8) (hb : 0 ≤ b ∧ b < ((2 ^ n : Nat) : Int)) : SetN n (bX b) := by
 have hpow : 2 ^ n ≤ 256 := Nat.pow_le_pow_right (n := 2) (by decide) (show n ≤ 8 from hn)
 refine ⟨hL _ _ _, fun x hx => ?_⟩
 obtain ⟨h1, h2⟩ := (dc _ _ _ _).1 hx
 have h3 := (jJ hn ⟨hb.1, by omega⟩).1 hb.2
 refine ⟨by omega, ?_⟩
 by_cases c : x < (n : Int)
 · exact c
 · have := h3 x (by omega) (by omega)
   rw [h2] at this
   exact absurd this (by decide)
theorem lu {l1 l2 : List Int} (h1 : l1.Pairwise (· < ·)) (h2 : l2.Pairwise (· < ·)) (h : ∀ x, x ∈ l1 ↔ x ∈ l2) : l1 = l2 := by
 induction l1 generalizing l2 with
 | nil =>
  cases l2 with
  | nil => rfl
  | cons b u => exact absurd ((h b).2 (List.mem_cons_self ..)) (by simp)
 | cons a t ih =>
  cases l2 with
  | nil => exact absurd ((h a).1 (List.mem_cons_self ..)) (by simp)
  | cons b u =>
   have p1 := List.pairwise_cons.1 h1
   have p2 := List.pairwise_cons.1 h2
   have hab : a = b := by
     rcases List.mem_cons.1 ((h a).1 (List.mem_cons_self ..)) with e | e
     · exact e
     · rcases List.mem_cons.1 ((h b).2 (List.mem_cons_self ..)) with e2 | e2
       · exact e2.symm
       · have := p1.1 b e2
         have := p2.1 a e
         omega
   subst hab
   rw [ih p1.2 p2.2 fun s => ?_]
   constructor
   · intro hs
     rcases List.mem_cons.1 ((h s).1 (List.mem_cons_of_mem _ hs)) with e | e
     · have := p1.1 s hs; omega
     · exact e
   · intro hs
     rcases List.mem_cons.1 ((h s).2 (List.mem_cons_of_mem _ hs)) with e | e
     · have := p2.1 s hs; omega
     · exact e
theorem s7 {l : List Int} (h : bA 0 (((8 : Nat) : Int) - 1) none l = true) : bX (aZ 0 l) = l := by
 have hp := la _ _ l none h
 have hx : ∀ x ∈ l, 0 ≤ x ∧ x < 8 := fun x hx => by have := jg _ _ l none h x hx; omega
 have hb := (j4 l 0 (by omega) hx).2
 refine lu (hL _ _ _) hp.1 fun x => ?_
 rw [dc]
 constructor
 · rintro ⟨h1, h2⟩
   rw [hb x (by omega) (by omega), iA (by omega) (by omega), Bool.false_or, decide_eq_true_eq] at h2
   exact h2
 · intro hx'
   have := hx x hx'
   refine ⟨by omega, ?_⟩
   rw [hb x (by omega) (by omega), iA (by omega) (by omega), Bool.false_or, decide_eq_true_eq]
   exact hx'
theorem SetN.code {n : Nat} {s : List Int} (hn : n ≤ 8) (h : SetN n s) : (0 ≤ aZ 0 s ∧ aZ 0 s < ((2 ^ n : Nat) : Int)) ∧ bX (aZ 0 s) = s := by
 have h8 := (h.wide hn).ris
 have hb := j4 s 0 (by omega) (fun x hx => by have := h.2 x hx; omega)
 refine ⟨⟨hb.1.1, (jJ hn hb.1).2 fun y h0 h1 => ?_⟩, s7 h8⟩
 rw [hb.2 y (by omega) h1, iA (by omega) h1, Bool.false_or, decide_eq_false_iff_not]
 intro hy
 have := h.2 y hy
 omega
theorem my {n : Nat} (hn : n ≤ 8) (p : Int → Bool) (s : List Int) : s ∈ bS p (2 ^ n) ↔ SetN n s ∧ p (aZ 0 s) = true := by
 have hpow : 2 ^ n ≤ 256 := Nat.pow_le_pow_right (n := 2) (by decide) (show n ≤ 8 from hn)
 unfold bS
 rw [List.mem_map]
 constructor
 · rintro ⟨b, hb, rfl⟩
   obtain ⟨h1, h2⟩ := (dc _ _ _ _).1 hb
   have h3 : 0 ≤ b ∧ b < ((2 ^ n : Nat) : Int) := ⟨h1.1, by omega⟩
   refine ⟨mG hn h3, ?_⟩
   rw [jZ ⟨h3.1, by omega⟩]
   exact h2
 · rintro ⟨h1, h2⟩
   have h3 := h1.code hn
   exact ⟨aZ 0 s, (dc _ _ _ _).2 ⟨by have := h3.1; omega, h2⟩, h3.2⟩
theorem mw {n : Nat} (hn : n ≤ 256) (p : Int → Bool) : (bS p n).Nodup := by
 unfold bS
 refine List.Pairwise.map _ ?_ (List.Pairwise.and_mem.1 (hL p n 0))
 rintro a b ⟨ha, hb, hab⟩ e
 have h1 := ((dc _ _ _ _).1 ha).1
 have h2 := ((dc _ _ _ _).1 hb).1
 have := congrArg (aZ 0) e
 rw [jZ ⟨by omega, by omega⟩, jZ ⟨by omega, by omega⟩] at this
 omega
theorem SetN.len {n : Nat} {s : List Int} (h : SetN n s) : s.length ≤ n := by
 have : ∀ (s : List Int) (a : Int), s.Pairwise (· < ·) → (∀ x ∈ s, a ≤ x ∧ x < (n : Int)) → (s.length : Int) ≤ (n : Int) - a ∨ s = [] := by
   intro s
   induction s with
   | nil => intro a _ _; exact .inr rfl
   | cons x t ih =>
    intro a h1 h2
    have p1 := List.pairwise_cons.1 h1
    have hx := h2 x (List.mem_cons_self ..)
    rcases ih (x + 1) p1.2 (fun y hy => ⟨by have := p1.1 y hy; omega, (h2 y (List.mem_cons_of_mem _ hy)).2⟩) with h3 | h3
    · exact .inl (by rw [List.length_cons]; omega)
    · subst h3
      exact .inl (by rw [List.length_singleton]; omega)
 rcases this s 0 h.1 h.2 with h3 | h3
 · omega
 · subst h3; exact Nat.zero_le _
def ep (e : List S69) (l : List Int) (r : Bool) : Nat → Nat → Bool
 | 0, _ => r
 | d + 1, i => if (l.take i).any (fun y => b4 e y (l[i]?.getD 0)) = true then false else ep e l r d (i + 1)
theorem rv (e : List S69) (l : List Int) (r : Bool) (d : Nat) : ∀ i, ep e l r d i = true ↔ r = true ∧ ∀ q, i ≤ q → q < i + d → ∀ y ∈ l.take q, ¬ b4 e y (l[q]?.getD 0) = true := by
 induction d with
 | zero => intro i; simp only [ep]; exact ⟨fun h => ⟨h, fun q h1 h2 => by omega⟩, fun h => h.1⟩
 | succ d ih =>
  intro i
  simp only [ep]
  by_cases c : (l.take i).any (fun y => b4 e y (l[i]?.getD 0)) = true
  · rw [if_pos c]
    refine ⟨fun h => by simp at h, fun h => ?_⟩
    obtain ⟨y, hy, hc⟩ := List.any_eq_true.1 c
    exact absurd hc (h.2 i (au _) (by omega) y hy)
  · rw [if_neg c, ih]
    refine and_congr_right fun _ => ⟨fun h q h1 h2 y hy hc => ?_, fun h q h1 h2 => h q (by omega) (by omega)⟩
    by_cases hq : q = i
    · subst hq
      exact c (List.any_eq_true.2 ⟨y, hy, hc⟩)
    · exact h q (by omega) (by omega) y hy hc
section
variable (a : Int) (e : List S69) (l : List Int) (he : e.length ≤ 1048576) (hl : l.length ≤ 1048576)
include he hl
theorem rn {R : Bool} (i : Nat) (hi : i < l.length) (d : Nat) : ∀ (j : Nat), i - j = d → j ≤ i → Ev (fun k => dI k l (wrap64 ((i : Int) + 1)) a e) R →
  Ev (fun k => dV k l (i : Int) (j : Int) a e) (if ((l.take i).drop j).any (fun y => b4 e y (l[i]?.getD 0)) = true then false else R) := by
 induction d with
 | zero =>
  intro j h0 h1 h
  refine Ev.step (fun k => by rw [dV]) (Ev.neg (by omega) ?_)
  rw [List.drop_eq_nil_of_le (by rw [List.length_take]; omega), List.any_nil, if_neg (by decide)]
  exact h
 | succ d ih =>
  intro j h0 h1 h
  have hj : j < l.length := by omega
  refine Ev.step (fun k => by rw [dV]) (Ev.pos (by omega) (Ev.pos (by omega) (Ev.pos (by omega) (Ev.pos (by omega) (Ev.pos (by omega) ?_)))))
  rw [bl l j hj, bl l i hi]
  refine Ev.bind (lC a e l[j] l[i] he) ?_
  have hd : (l.take i).drop j = l[j] :: (l.take i).drop (j + 1) := by
    rw [List.drop_eq_getElem_cons (by rw [List.length_take]; omega), List.getElem_take]
  rw [hd, List.any_cons, List.getElem?_eq_getElem hi, Option.getD_some]
  by_cases c : b4 e l[j] l[i] = true
  · rw [c, Bool.true_or, if_pos rfl]
    exact Ev.pos rfl (Ev.now _)
  · have c' : b4 e l[j] l[i] = false := by simpa using c
    rw [c', Bool.false_or, aY hj (by omega)]
    have := ih (j + 1) (by omega) (by omega) h
    rw [List.getElem?_eq_getElem hi, Option.getD_some] at this
    exact Ev.neg (by decide) this
theorem ro (d : Nat) : ∀ (i : Nat), l.length - i = d → i ≤ l.length → Ev (fun k => dI k l (i : Int) a e) (ep e l (bA 0 (wrap64 (a - 1)) none l) d i) := by
 induction d with
 | zero =>
  intro i h0 h1
  refine Ev.step (fun k => by rw [dI]) (Ev.neg (by omega) ?_)
  exact Ev.bind (qf a e l hl) (Ev.now _)
 | succ d ih =>
  intro i h0 h1
  have hi : i < l.length := by omega
  refine Ev.step (fun k => by rw [dI]) (Ev.pos (by omega) ?_)
  have h := ih (i + 1) (by omega) (by omega)
  rw [← aY hi (by omega)] at h
  have := rn a e l he hl i hi i 0 (by omega) (by omega) h
  simpa only [List.drop_zero, ep, Int.natCast_zero] using this
end
theorem lT (a : Int) (e : List S69) (l : List Int) (he : e.length ≤ 1048576) (hl : l.length ≤ 1048576) : Ev (fun k => dW k a e l) (ep e l (bA 0 (wrap64 (a - 1)) none l) l.length 0) :=
 ro a e l he hl l.length 0 (by omega) (Nat.zero_le _)
def de (e : List S69) (l : List Int) : Bool := !(e.any fun s => decide (s.f0 ∈ l) && decide (s.f1 ∈ l))
theorem jK (e : List S69) (x y : Int) : b4 e x y = true ↔ ∃ s ∈ e, (s.f0 = x ∧ s.f1 = y) ∨ (s.f0 = y ∧ s.f1 = x) := by
 unfold b4
 rw [List.any_eq_true]
 simp only [Bool.or_eq_true, Bool.and_eq_true, decide_eq_true_eq]
theorem mj (e : List S69) (l : List Int) (r : Bool) (hu : ∀ s ∈ e, s.f0 < s.f1) : ep e l r l.length 0 = (r && de e l) := by
 rw [Bool.eq_iff_iff, rv, Bool.and_eq_true]
 refine and_congr_right fun _ => ?_
 unfold de
 rw [Bool.not_eq_true', List.any_eq_false]
 simp only [Bool.and_eq_true, decide_eq_true_eq]
 constructor
 · intro h s hs hc
   obtain ⟨p, hp, h0⟩ := List.getElem_of_mem hc.1
   obtain ⟨q, hq, h1⟩ := List.getElem_of_mem hc.2
   have hne := hu s hs
   have hmem : ∀ p q (hp : p < l.length) (hq : q < l.length), p < q → l[p] ∈ l.take q := by
     intro p q hp hq hpq
     rw [List.mem_take_iff_getElem]
     exact ⟨p, by omega, rfl⟩
   rcases Nat.lt_trichotomy p q with hpq | hpq | hpq
   · refine h q (by omega) (by omega) l[p] (hmem p q hp hq hpq) ?_
     rw [List.getElem?_eq_getElem hq, Option.getD_some, jK]
     exact ⟨s, hs, .inl ⟨h0.symm, h1.symm⟩⟩
   · subst hpq
     rw [h0] at h1
     omega
   · refine h p (by omega) (by omega) l[q] (hmem q p hq hp hpq) ?_
     rw [List.getElem?_eq_getElem hp, Option.getD_some, jK]
     exact ⟨s, hs, .inr ⟨h0.symm, h1.symm⟩⟩
 · intro h q _ h2 y hy hc
   have hq : q < l.length := by omega
   rw [List.getElem?_eq_getElem hq, Option.getD_some, jK] at hc
   obtain ⟨s, hs, hc⟩ := hc
   have hy' : y ∈ l := List.mem_of_mem_take hy
   have hq' : l[q] ∈ l := List.getElem_mem hq
   refine h s hs ?_
   rcases hc with ⟨h0, h1⟩ | ⟨h0, h1⟩
   · exact ⟨h0 ▸ hy', h1 ▸ hq'⟩
   · exact ⟨h0 ▸ hq', h1 ▸ hy'⟩
theorem qv (a : Int) (e : List S69) (b : Int) (l : List Int) (he : ∀ s ∈ e, 0 ≤ s.f0 ∧ s.f0 < s.f1 ∧ s.f1 < 8) (hb : ∀ y, 0 ≤ y → y < 8 → aJ b y = decide (y ∈ l)) : en a e b = some (de e l) := by
 unfold en
 have h1 : e.all (fun s => (ct b s.f0).isSome && (ct b s.f1).isSome) = true := by
  rw [List.all_eq_true]
  intro s hs
  have := he s hs
  rw [ez (by omega), ez (by omega)]
  rfl
 rw [if_pos h1]
 unfold de
 congr 2
 refine j6 e _ _ fun s hs => ?_
 have := he s hs
 unfold dS
 rw [ez (by omega), ez (by omega), Option.getD_some, Option.getD_some, hb _ (by omega) (by omega), hb _ (by omega) (by omega)]
theorem lW (a : Int) (e : List S69) (l : List Int) (hl : l.length ≤ 1048576) (hg : bQ a e = true) :
  Ev (fun k => fK k a e l) (bA 0 (wrap64 (a - 1)) none l && de e l) := by
 have h1 := d7 hg
 have hw : wrap64 (a - 1) = a - 1 := b5 (by omega) (by omega)
 unfold fK
 refine Ev.bind (oV l a hl) ?_
 cases h : bA 0 (wrap64 (a - 1)) none l with
 | false => rw [Bool.false_and]; exact Ev.neg (by decide) (Ev.now _)
 | true =>
  have hx : ∀ x ∈ l, 0 ≤ x ∧ x < 8 := fun x hx => by
   have := jg _ _ l none h x hx
   omega
  have hb := (j4 l 0 (by omega) hx).2
  rw [Bool.true_and]
  refine Ev.pos rfl (Ev.bind (j3 l hl hx) (Ev.bindo (qv a e (aZ 0 l) l (fun s hs => by have := h1.2.2 s hs; omega) (fun y h0 h8 => by rw [hb y h0 h8, iA h0 h8, Bool.false_or])) (Ev.now _)))
end Go.Proofs.YtadjbmcfgjmhkaaGreat.P
