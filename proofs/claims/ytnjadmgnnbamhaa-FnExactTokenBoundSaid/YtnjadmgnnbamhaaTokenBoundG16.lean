/- Independent sets: no two nodes of a list are neighbours, as both sides test it. -/
import Derived.Test.YtnjadmgnnbamhaaTokenBoundG13
import Derived.Test.YtnjadmgnnbamhaaTokenBoundG9
import Derived.Test.YtnjadmgnnbamhaaTokenBoundG14
import Derived.Test.YtnjadmgnnbamhaaTokenBoundG12
import Derived.Test.YtnjadmgnnbamhaaTokenBoundG10
import Derived.Test.YtnjadmgnnbamhaaTokenBoundG8
import Derived.Test.YtnjadmgnnbamhaaTokenBoundG15
import Derived.Test.YtnjadmgnnbamhaaTokenBoundG11
namespace Go.Proofs.Ytnjadmgnnbamhaa.P
open Go.RowKit Go.Proofs.YtnjadmgnnbamhaaW.PrintWords Go.Proofs.YtnjadmgnnbamhaaW.PrintLast Go.Proofs.YtnjadmgnnbamhaaW.PrintMore
set_option linter.unusedVariables false

def freeN (e : List S50) (l : List Int) (r : Bool) : Nat → Nat → Bool
  | 0, _ => r
  | d + 1, i => if (l.take i).any (fun y => hasP e y (l[i]?.getD 0)) = true then false else freeN e l r d (i + 1)
theorem freeN_iff (e : List S50) (l : List Int) (r : Bool) (d : Nat) : ∀ i, freeN e l r d i = true ↔ r = true ∧ ∀ q, i ≤ q → q < i + d → ∀ y ∈ l.take q, ¬ hasP e y (l[q]?.getD 0) = true := by
  induction d with
  | zero => intro i; simp only [freeN]; exact ⟨fun h => ⟨h, fun q h1 h2 => by omega⟩, fun h => h.1⟩
  | succ d ih =>
    intro i
    simp only [freeN]
    by_cases c : (l.take i).any (fun y => hasP e y (l[i]?.getD 0)) = true
    · rw [if_pos c]
      refine ⟨fun h => by simp at h, fun h => ?_⟩
      obtain ⟨y, hy, hc⟩ := List.any_eq_true.1 c
      exact absurd hc (h.2 i (Nat.le_refl _) (by omega) y hy)
    · rw [if_neg c, ih]
      refine and_congr_right fun _ => ⟨fun h q h1 h2 y hy hc => ?_, fun h q h1 h2 => h q (by omega) (by omega)⟩
      by_cases hq : q = i
      · subst hq
        exact c (List.any_eq_true.2 ⟨y, hy, hc⟩)
      · exact h q (by omega) (by omega) y hy hc
section
variable (a : Int) (e : List S50) (l : List Int) (he : e.length ≤ 1048576) (hl : l.length ≤ 1048576)
include he hl
theorem free_row {R : Bool} (i : Nat) (hi : i < l.length) (d : Nat) : ∀ (j : Nat), i - j = d → j ≤ i → Ev (fun k => spec_l3Free.l0 k l (wrap64 ((i : Int) + 1)) a e) R →
    Ev (fun k => spec_l3Free.l1 k l (i : Int) (j : Int) a e) (if ((l.take i).drop j).any (fun y => hasP e y (l[i]?.getD 0)) = true then false else R) := by
  induction d with
  | zero =>
    intro j h0 h1 h
    refine Ev.step (fun k => by rw [spec_l3Free.l1]) (Ev.neg (by omega) ?_)
    rw [List.drop_eq_nil_of_le (by rw [List.length_take]; omega), List.any_nil, if_neg (by decide)]
    exact h
  | succ d ih =>
    intro j h0 h1 h
    have hj : j < l.length := by omega
    refine Ev.step (fun k => by rw [spec_l3Free.l1]) (Ev.pos (by omega) (Ev.pos (by omega) (Ev.pos (by omega) (Ev.pos (by omega) (Ev.pos (by omega) ?_)))))
    rw [rd_at l j hj, rd_at l i hi]
    refine Ev.bind (near_ev a e l[j] l[i] he) ?_
    have hd : (l.take i).drop j = l[j] :: (l.take i).drop (j + 1) := by
      rw [List.drop_eq_getElem_cons (by rw [List.length_take]; omega), List.getElem_take]
    rw [hd, List.any_cons, List.getElem?_eq_getElem hi, Option.getD_some]
    by_cases c : hasP e l[j] l[i] = true
    · rw [c, Bool.true_or, if_pos rfl]
      exact Ev.pos rfl (Ev.now _)
    · have c' : hasP e l[j] l[i] = false := by simpa using c
      rw [c', Bool.false_or, wrap_up hj (by omega)]
      have := ih (j + 1) (by omega) (by omega) h
      rw [List.getElem?_eq_getElem hi, Option.getD_some] at this
      exact Ev.neg (by decide) this
theorem free_loop (d : Nat) : ∀ (i : Nat), l.length - i = d → i ≤ l.length → Ev (fun k => spec_l3Free.l0 k l (i : Int) a e) (freeN e l (risI 0 (wrap64 (a - 1)) none l) d i) := by
  induction d with
  | zero =>
    intro i h0 h1
    refine Ev.step (fun k => by rw [spec_l3Free.l0]) (Ev.neg (by omega) ?_)
    exact Ev.bind (l2Set_ev a e l hl) (Ev.now _)
  | succ d ih =>
    intro i h0 h1
    have hi : i < l.length := by omega
    refine Ev.step (fun k => by rw [spec_l3Free.l0]) (Ev.pos (by omega) ?_)
    have h := ih (i + 1) (by omega) (by omega)
    rw [← wrap_up hi (by omega)] at h
    have := free_row a e l he hl i hi i 0 (by omega) (by omega) h
    simpa only [List.drop_zero, freeN, Int.natCast_zero] using this
end
theorem l3Free_ev (a : Int) (e : List S50) (l : List Int) (he : e.length ≤ 1048576) (hl : l.length ≤ 1048576) : Ev (fun k => spec_l3Free.f k a e l) (freeN e l (risI 0 (wrap64 (a - 1)) none l) l.length 0) :=
  free_loop a e l he hl l.length 0 (by omega) (Nat.zero_le _)
/-- No edge has both nodes in the set. -/
def freeI (e : List S50) (l : List Int) : Bool := !(e.any fun s => decide (s.f0 ∈ l) && decide (s.f1 ∈ l))
theorem hasP_iff (e : List S50) (x y : Int) : hasP e x y = true ↔ ∃ s ∈ e, (s.f0 = x ∧ s.f1 = y) ∨ (s.f0 = y ∧ s.f1 = x) := by
  unfold hasP
  rw [List.any_eq_true]
  simp only [Bool.or_eq_true, Bool.and_eq_true, decide_eq_true_eq]
theorem freeN_freeI (e : List S50) (l : List Int) (r : Bool) (hu : ∀ s ∈ e, s.f0 < s.f1) : freeN e l r l.length 0 = (r && freeI e l) := by
  rw [Bool.eq_iff_iff, freeN_iff, Bool.and_eq_true]
  refine and_congr_right fun _ => ?_
  unfold freeI
  rw [Bool.not_eq_true', List.any_eq_false]
  simp only [Bool.and_eq_true, decide_eq_true_eq]
  constructor
  · intro h s hs hc
    obtain ⟨p, hp, h0⟩ := List.getElem_of_mem hc.1
    obtain ⟨q, hq, h1⟩ := List.getElem_of_mem hc.2
    have hne := hu s hs
    have hmem : ∀ p q (hp : p < l.length) (hq : q < l.length), p < q → l[p] ∈ l.take q := by
      intro p q hp hq hpq
      rw [List.mem_take_iff_getElem]
      exact ⟨p, by omega, rfl⟩
    rcases Nat.lt_trichotomy p q with hpq | hpq | hpq
    · refine h q (by omega) (by omega) l[p] (hmem p q hp hq hpq) ?_
      rw [List.getElem?_eq_getElem hq, Option.getD_some, hasP_iff]
      exact ⟨s, hs, .inl ⟨h0.symm, h1.symm⟩⟩
    · subst hpq
      rw [h0] at h1
      omega
    · refine h p (by omega) (by omega) l[q] (hmem q p hq hp hpq) ?_
      rw [List.getElem?_eq_getElem hp, Option.getD_some, hasP_iff]
      exact ⟨s, hs, .inr ⟨h0.symm, h1.symm⟩⟩
  · intro h q _ h2 y hy hc
    have hq : q < l.length := by omega
    rw [List.getElem?_eq_getElem hq, Option.getD_some, hasP_iff] at hc
    obtain ⟨s, hs, hc⟩ := hc
    have hy' : y ∈ l := List.mem_of_mem_take hy
    have hq' : l[q] ∈ l := List.getElem_mem hq
    refine h s hs ?_
    rcases hc with ⟨h0, h1⟩ | ⟨h0, h1⟩
    · exact ⟨h0 ▸ hy', h1 ▸ hq'⟩
    · exact ⟨h0 ▸ hq', h1 ▸ hy'⟩
theorem isFree_at (a : Int) (e : List S50) (b : Int) (l : List Int) (he : ∀ s ∈ e, 0 ≤ s.f0 ∧ s.f0 < s.f1 ∧ s.f1 < 8) (hb : ∀ y, 0 ≤ y → y < 8 → hasI b y = decide (y ∈ l)) : impl_Graph_isFree.f a e b = some (freeI e l) := by
  unfold impl_Graph_isFree.f
  have h1 : e.all (fun s => (impl_bag_has.f b s.f0).isSome && (impl_bag_has.f b s.f1).isSome) = true := by
    rw [List.all_eq_true]
    intro s hs
    have := he s hs
    rw [bag_has_at (by omega), bag_has_at (by omega)]
    rfl
  rw [if_pos h1]
  unfold freeI
  congr 2
  refine any_congr e _ _ fun s hs => ?_
  have := he s hs
  unfold bothB
  rw [bag_has_at (by omega), bag_has_at (by omega), Option.getD_some, Option.getD_some, hb _ (by omega) (by omega), hb _ (by omega) (by omega)]
theorem isIndependent_ev (a : Int) (e : List S50) (l : List Int) (hl : l.length ≤ 1048576) (hg : okG a e = true) :
    Ev (fun k => impl_Graph_isIndependent.f k a e l) (risI 0 (wrap64 (a - 1)) none l && freeI e l) := by
  have h1 := okG_all hg
  have hw : wrap64 (a - 1) = a - 1 := wrap_nat (by omega) (by omega)
  unfold impl_Graph_isIndependent.f
  refine Ev.bind (rising_ev l a hl) ?_
  cases h : risI 0 (wrap64 (a - 1)) none l with
  | false => rw [Bool.false_and]; exact Ev.neg (by decide) (Ev.now _)
  | true =>
    have hx : ∀ x ∈ l, 0 ≤ x ∧ x < 8 := fun x hx => by
      have := risI_all _ _ l none h x hx
      omega
    have hb := (bagI_at l 0 (by omega) hx).2
    rw [Bool.true_and]
    refine Ev.pos rfl (Ev.bind (bagOf_ev l hl hx) (Ev.bindo (isFree_at a e (bagI 0 l) l (fun s hs => by have := h1.2.2 s hs; omega) (fun y h0 h8 => by rw [hb y h0 h8, hasI_nil h0 h8, Bool.false_or])) (Ev.now _)))
end Go.Proofs.Ytnjadmgnnbamhaa.P
namespace Go.Proofs.Ytnjadmgnnbamhaa.P
open Go.RowKit Go.Proofs.YtnjadmgnnbamhaaW.PrintWords Go.Proofs.YtnjadmgnnbamhaaW.PrintLast Go.Proofs.YtnjadmgnnbamhaaW.PrintMore
set_option linter.unusedVariables false
set_option linter.unusedSimpArgs false

def setOk (a : Int) (e : List S50) (l : List Int) : Bool := risI 0 (wrap64 (a - 1)) none l && freeI e l
def twoR (a : Int) (e : List S50) (x y : List Int) : Bool := okG a e && (setOk a e x && setOk a e y)
theorem freeS_ev_ (a : Int) (e : List S50) (l : List Int) (he : e.length ≤ 1048576) (hl : l.length ≤ 1048576) (hg : okG a e = true) : Ev (fun k => spec_l3Free.f k a e l) (setOk a e l) := by
  have h1 := okG_all hg
  have := l3Free_ev a e l he hl
  rw [freeN_freeI e l _ (fun s hs => (h1.2.2 s hs).2.1)] at this
  exact this
theorem setOk_set {n : Nat} {e : List S50} {l : List Int} (hn : n ≤ 8) (h : setOk (n : Int) e l = true) : SetN n l ∧ freeI e l = true := by
  unfold setOk at h
  rw [Bool.and_eq_true, wrap_nat (by omega) (by omega)] at h
  exact ⟨SetN.of_ris h.1, h.2⟩
theorem l3Both_ev (a : Int) (e : List S50) (x y : List Int) (he : e.length ≤ 1048576) (hx : x.length ≤ 1048576) (hy : y.length ≤ 1048576) : Ev (fun k => spec_l3Both.f k a e x y) (twoR a e x y) := by
  unfold spec_l3Both.f spec_l3Good.f twoR
  by_cases hg : okG a e = true
  · rw [hg, Bool.true_and]
    refine Ev.bind (a := setOk a e x) ?_ ?_
    · refine Ev.bind (l2Good_ev a e he) ?_
      refine Ev.pos hg ?_
      exact Ev.bind (freeS_ev_ a e x he hx hg) (Ev.now _)
    · cases c : setOk a e x with
      | true => exact Ev.pos rfl (Ev.bind (freeS_ev_ a e y he hy hg) (Ev.now _))
      | false => exact Ev.neg (by decide) (Ev.now _)
  · rw [Bool.eq_false_iff.mpr hg, Bool.false_and]
    refine Ev.bind (a := false) ?_ ?_
    · refine Ev.bind (l2Good_ev a e he) ?_
      exact Ev.neg hg (Ev.now _)
    · exact Ev.neg (by decide) (Ev.now _)
theorem twoSets_ev (a : Int) (e : List S50) (x y : List Int) (he : e.length ≤ 1048576) (hx : x.length ≤ 1048576) (hy : y.length ≤ 1048576) : Ev (fun k => impl_twoSets.f k a e x y) (twoR a e x y) := by
  unfold impl_twoSets.f twoR
  refine Ev.bind (impl_IsGraph_ev _ e he) ?_
  by_cases hg : okG a e = true
  · rw [hg, Bool.true_and]
    refine Ev.pos rfl ?_
    refine Ev.bind (a := setOk a e x) (isIndependent_ev a e x hx hg) ?_
    cases c : setOk a e x with
    | true => exact Ev.pos rfl (Ev.bind (a := setOk a e y) (isIndependent_ev a e y hy hg) (Ev.now _))
    | false => exact Ev.neg (by decide) (Ev.now _)
  · rw [Bool.eq_false_iff.mpr hg, Bool.false_and]
    exact Ev.neg (by decide) (Ev.now _)
end Go.Proofs.Ytnjadmgnnbamhaa.P
namespace Go.Proofs.Ytnjadmgnnbamhaa.P
open Go.RowKit Go.Proofs.YtnjadmgnnbamhaaW.PrintWords Go.Proofs.YtnjadmgnnbamhaaW.PrintLast Go.Proofs.YtnjadmgnnbamhaaW.PrintMore
set_option linter.unusedVariables false
set_option linter.unusedSimpArgs false

theorem rd_set (l : List Int) (j k : Int) (v : Int) (h : j.toNat < l.length) : rd (l.set j.toNat v) k = if k.toNat = j.toNat then v else rd l k := by
  unfold rd
  rw [List.getD_eq_getElem?_getD, List.getD_eq_getElem?_getD, List.getElem?_set]
  by_cases c : j.toNat = k.toNat
  · rw [if_pos c, if_pos c.symm, if_pos h, Option.getD_some]
  · rw [if_neg c, if_neg (Ne.symm c)]
def negs (l : List Int) : Nat := l.countP fun x => decide (x < 0)
theorem negs_set (l : List Int) (j : Int) (v : Int) (h : j.toNat < l.length) (hj : rd l j < 0) (hv : 0 ≤ v) : negs (l.set j.toNat v) + 1 = negs l := by
  have e1 : rd l j = l[j.toNat] := by unfold rd; rw [List.getD_eq_getElem?_getD, List.getElem?_eq_getElem h, Option.getD_some]
  rw [e1] at hj
  unfold negs
  rw [List.countP_set h]
  have hp : 0 < l.countP (fun x => decide (x < 0)) := List.countP_pos_iff.2 ⟨_, List.getElem_mem h, decide_eq_true hj⟩
  rw [if_pos (decide_eq_true hj), if_neg (by simp; omega)]
  omega
/-- A set of places that no row leads out of. -/
def closedZ (z : List (List Int)) (P : Int → Prop) : Prop := ∀ i, 0 ≤ i → i < (z.length : Int) → P i → ∀ j ∈ rd_L4 z i, P j
/-- Each row holds places. -/
def okZ (z : List (List Int)) : Prop := ∀ i, 0 ≤ i → i < (z.length : Int) → ∀ j ∈ rd_L4 z i, 0 ≤ j ∧ j < (z.length : Int)
section
variable {z : List (List Int)} (hz : okZ z) (hn : z.length ≤ 1048576) (hr : ∀ i, (rd_L4 z i).length ≤ 1048576)
include hn
theorem spread_inner {row : List Int} (hrow : ∀ j ∈ row, 0 ≤ j ∧ j < (z.length : Int)) (hrl : row.length ≤ 1048576) (i : Int) (hi : 0 ≤ i ∧ i < (z.length : Int)) (h : Nat) (d : Nat) :
    ∀ (m : Nat) (out Q : List Int), row.length - m = d → m ≤ row.length → out.length = z.length → h < Q.length → rd Q (h : Int) = i → 0 ≤ rd out i → (∀ k, rd out k < (Q.length : Int)) → negs out + Q.length ≤ 1048576 →
    ∃ (out' new : List Int), out'.length = z.length ∧ (∀ k, rd out' k < ((Q ++ new).length : Int)) ∧ negs out' + (Q ++ new).length = negs out + Q.length ∧ (∀ k, 0 ≤ rd out k → rd out' k = rd out k) ∧
      (∀ j ∈ row.drop m, 0 ≤ rd out' j) ∧ (∀ j ∈ new, j ∈ row ∧ rd out' j = rd out i + 1) ∧ (∀ k, 0 ≤ k → k < (z.length : Int) → 0 ≤ rd out' k → 0 ≤ rd out k ∨ k ∈ new) ∧
      (∀ R, Ev (fun k => impl_spread.l0 k z out' ((Q ++ new).drop (h + 1))) R → Ev (fun k => impl_spread.l1 k z out (Q.drop (h + 1)) i row (row.length : Int) (m : Int)) R) ∧
      (∀ R, Ev (fun k => spec_l2Spread.l1 k z out' (Q ++ new) (wrap64 ((h : Int) + 1))) R → Ev (fun k => spec_l2Spread.l2 k z out Q (h : Int) row (m : Int)) R) := by
  induction d with
  | zero =>
    intro m out Q h0 h1 h2 h3 h4 h5 h6 h7
    refine ⟨out, [], h2, by simpa using h6, by simp, fun _ _ => rfl, fun j hj => ?_, (fun j hj => by cases hj), fun k _ _ hk => .inl hk, fun R hR => ?_, fun R hR => ?_⟩
    · rw [List.drop_eq_nil_of_le (by omega)] at hj; cases hj
    · rw [List.append_nil] at hR
      refine Ev.step (fun k => by rw [impl_spread.l1]) ?_
      refine Ev.neg (by omega) ?_
      exact hR
    · rw [List.append_nil] at hR
      refine Ev.step (fun k => by rw [spec_l2Spread.l2]) ?_
      refine Ev.neg (by omega) ?_
      exact hR
  | succ d ih =>
    intro m out Q h0 h1 h2 h3 h4 h5 h6 h7
    have hm : m < row.length := by omega
    have hj := hrow row[m] (List.getElem_mem hm)
    have hjl : row[m].toNat < out.length := by omega
    by_cases c : rd out row[m] < 0
    · have hv6 := h6 i
      have hw : wrap64 (rd out i + 1) = rd out i + 1 := wrap_nat (by omega) (by omega)
      have hne : row[m].toNat ≠ i.toNat := fun e => by
        have : rd out row[m] = rd out i := by unfold rd; rw [e]
        omega
      have hrs : ∀ k, rd (out.set row[m].toNat (rd out i + 1)) k = if k.toNat = row[m].toNat then rd out i + 1 else rd out k := fun k => rd_set out row[m] k _ hjl
      have hng := negs_set out row[m] (rd out i + 1) hjl c (by omega)
      have hQ4 : rd (Q ++ [row[m]]) (h : Int) = i := by
        rw [← h4, rd_at _ h (by simp; omega), rd_at Q h h3, List.getElem_append_left h3]
      obtain ⟨out', new, a1, a2, a3, a4, a5, a6, a7, a8, a9⟩ := ih (m + 1) (out.set row[m].toNat (rd out i + 1)) (Q ++ [row[m]]) (by omega) (by omega) (by rw [List.length_set, h2]) (by simp; omega) hQ4
        (by rw [hrs, if_neg (Ne.symm hne)]; exact h5)
        (fun k => by rw [hrs, List.length_append, List.length_singleton]; have := h6 k; split <;> omega)
        (by rw [List.length_append, List.length_singleton]; omega)
      have hmono : ∀ k, 0 ≤ rd out k → rd (out.set row[m].toNat (rd out i + 1)) k = rd out k := fun k hk => by
        rw [hrs]
        by_cases ck : k.toNat = row[m].toNat
        · have : rd out k = rd out row[m] := by unfold rd; rw [ck]
          omega
        · rw [if_neg ck]
      have hself : rd out' row[m] = rd out i + 1 := by
        have e0 : rd (out.set row[m].toNat (rd out i + 1)) row[m] = rd out i + 1 := by rw [hrs, if_pos rfl]
        rw [a4 _ (by rw [e0]; omega), e0]
      have hap : Q ++ row[m] :: new = (Q ++ [row[m]]) ++ new := by simp
      refine ⟨out', row[m] :: new, a1, ?_, ?_, fun k hk => (a4 k (by rw [hmono k hk]; exact hk)).trans (hmono k hk), fun j hj' => ?_, fun j hj' => ?_, fun k hk0 hk1 hk => ?_, fun R hR => ?_, fun R hR => ?_⟩
      · rw [hap]; exact a2
      · rw [hap, a3, List.length_append, List.length_singleton]; omega
      · rw [List.drop_eq_getElem_cons hm] at hj'
        rcases List.mem_cons.1 hj' with rfl | hj'
        · rw [hself]; omega
        · exact a5 j hj'
      · rcases List.mem_cons.1 hj' with rfl | hj'
        · exact ⟨List.getElem_mem hm, hself⟩
        · exact ⟨(a6 j hj').1, by rw [(a6 j hj').2, hmono i h5]⟩
      · rcases a7 k hk0 hk1 hk with h' | h'
        · rw [hrs] at h'
          by_cases ck : k.toNat = row[m].toNat
          · right; rw [show k = row[m] by omega]; exact .head _
          · rw [if_neg ck] at h'; exact .inl h'
        · exact .inr (.tail _ h')
      · rw [hap] at hR
        have := a8 R hR
        rw [← wrap_up hm (by omega), List.drop_append_of_le_length (by omega)] at this
        refine Ev.step (fun k => by rw [impl_spread.l1]) ?_
        refine Ev.pos (by omega) ?_
        refine Ev.pos (by omega) ?_
        refine Ev.pos (by omega) ?_
        rw [rd_at row m hm]
        refine Ev.pos hj.1 ?_
        refine Ev.pos (by omega) ?_
        refine Ev.pos c ?_
        refine Ev.pos hi.1 ?_
        refine Ev.pos (by omega) ?_
        refine Ev.pos (by rw [List.length_drop]; omega) ?_
        rw [hw]
        exact this
      · rw [hap] at hR
        have := a9 R hR
        rw [← wrap_up hm (by omega)] at this
        refine Ev.step (fun k => by rw [spec_l2Spread.l2]) ?_
        refine Ev.pos (by omega) ?_
        refine Ev.pos (by omega) ?_
        rw [rd_at row m hm, h4]
        refine Ev.pos hj.1 ?_
        refine Ev.pos (by omega) ?_
        refine Ev.pos c ?_
        refine Ev.pos (by omega) ?_
        refine Ev.pos (by omega) ?_
        refine Ev.pos hi.1 ?_
        refine Ev.pos (by omega) ?_
        refine Ev.pos (by omega) ?_
        rw [hw]
        exact this
    · obtain ⟨out', new, a1, a2, a3, a4, a5, a6, a7, a8, a9⟩ := ih (m + 1) out Q (by omega) (by omega) h2 h3 h4 h5 h6 h7
      refine ⟨out', new, a1, a2, a3, a4, fun j hj' => ?_, a6, a7, fun R hR => ?_, fun R hR => ?_⟩
      · rw [List.drop_eq_getElem_cons hm] at hj'
        rcases List.mem_cons.1 hj' with rfl | hj'
        · rw [a4 _ (by omega)]; omega
        · exact a5 j hj'
      · have := a8 R hR
        rw [← wrap_up hm (by omega)] at this
        refine Ev.step (fun k => by rw [impl_spread.l1]) ?_
        refine Ev.pos (by omega) ?_
        refine Ev.pos (by omega) ?_
        refine Ev.pos (by omega) ?_
        rw [rd_at row m hm]
        refine Ev.pos hj.1 ?_
        refine Ev.pos (by omega) ?_
        refine Ev.neg c ?_
        exact this
      · have := a9 R hR
        rw [← wrap_up hm (by omega)] at this
        refine Ev.step (fun k => by rw [spec_l2Spread.l2]) ?_
        refine Ev.pos (by omega) ?_
        refine Ev.pos (by omega) ?_
        rw [rd_at row m hm]
        refine Ev.pos hj.1 ?_
        refine Ev.pos (by omega) ?_
        refine Ev.neg c ?_
        exact this
include hz hr
theorem spread_outer (s : Int) (u : Nat) : ∀ (out Q : List Int) (h : Nat), negs out + (Q.length - h) = u → h ≤ Q.length → out.length = z.length → (∀ k, rd out k < (Q.length : Int)) → negs out + Q.length ≤ 1048576 → 0 < Q.length →
    (∀ q ∈ Q, 0 ≤ q ∧ q < (z.length : Int) ∧ 0 ≤ rd out q) → (∀ k, 0 ≤ k → k < (z.length : Int) → 0 ≤ rd out k → k ∈ Q) → (∀ q ∈ Q.take h, ∀ j ∈ rd_L4 z q, 0 ≤ rd out j) → (∀ P, closedZ z P → P s → ∀ q ∈ Q, P q) → rd out s = 0 → (∀ k, 0 ≤ k → k < (z.length : Int) → 0 ≤ rd out k → k = s ∨ ∃ p, 0 ≤ p ∧ p < (z.length : Int) ∧ k ∈ rd_L4 z p ∧ 0 ≤ rd out p ∧ rd out k = rd out p + 1) →
    ∃ R, Ev (fun k => impl_spread.l0 k z out (Q.drop h)) R ∧ Ev (fun k => spec_l2Spread.l1 k z out Q (h : Int)) R ∧ R.length = z.length ∧ (∀ k, rd R k ≤ 1048575) ∧ (∀ k, 0 ≤ rd out k → 0 ≤ rd R k) ∧ closedZ z (fun k => 0 ≤ rd R k) ∧ (∀ P, closedZ z P → P s → ∀ k, 0 ≤ k → k < (z.length : Int) → 0 ≤ rd R k → P k) ∧ rd R s = 0 ∧ (∀ k, 0 ≤ k → k < (z.length : Int) → 0 ≤ rd R k → k = s ∨ ∃ p, 0 ≤ p ∧ p < (z.length : Int) ∧ k ∈ rd_L4 z p ∧ 0 ≤ rd R p ∧ rd R k = rd R p + 1) := by
  induction u with
  | zero =>
    intro out Q h h0 h1 h2 h3 h4 hQ0 h5 h6 h7 h8 hS hE
    have he : h = Q.length := by omega
    refine ⟨out, ?_, ?_, h2, fun k => by have := h3 k; omega, fun _ hk => hk, fun i hi0 hi1 hi j hj => ?_, fun P hP hs k hk0 hk1 hk => h8 P hP hs k (h6 k hk0 hk1 hk), hS, hE⟩
    · rw [List.drop_eq_nil_of_le (by omega)]
      refine Ev.step (fun k => by rw [impl_spread.l0]) ?_
      refine Ev.neg (by simp) ?_
      exact (Ev.now _)
    · refine Ev.step (fun k => by rw [spec_l2Spread.l1]) ?_
      refine Ev.neg (by omega) ?_
      exact (Ev.now _)
    · exact h7 i (by rw [List.take_of_length_le (by omega)]; exact h6 i hi0 hi1 hi) j hj
  | succ u ih =>
    intro out Q h h0 h1 h2 h3 h4 hQ0 h5 h6 h7 h8 hS hE
    by_cases ce : h = Q.length
    · refine ⟨out, ?_, ?_, h2, fun k => by have := h3 k; omega, fun _ hk => hk, fun i hi0 hi1 hi j hj => ?_, fun P hP hs k hk0 hk1 hk => h8 P hP hs k (h6 k hk0 hk1 hk), hS, hE⟩
      · rw [List.drop_eq_nil_of_le (by omega)]
        refine Ev.step (fun k => by rw [impl_spread.l0]) ?_
        refine Ev.neg (by simp) ?_
        exact (Ev.now _)
      · refine Ev.step (fun k => by rw [spec_l2Spread.l1]) ?_
        refine Ev.neg (by omega) ?_
        exact (Ev.now _)
      · exact h7 i (by rw [List.take_of_length_le (by omega)]; exact h6 i hi0 hi1 hi) j hj
    have hh : h < Q.length := by omega
    obtain ⟨q0, q1, q2⟩ := h5 Q[h] (List.getElem_mem hh)
    have hrow := hz Q[h] q0 q1
    obtain ⟨out', new, a1, a2, a3, a4, a5, a6, a7, a8, a9⟩ := spread_inner hn hrow (hr _) Q[h] ⟨q0, q1⟩ h ((rd_L4 z Q[h]).length - 0) 0 out Q rfl (Nat.zero_le _) h2 hh (rd_at Q h hh) q2 h3 h4
    rw [List.drop_zero] at a5
    simp only [Int.natCast_zero] at a8 a9
    obtain ⟨R, r1, r2, r3, r4, r5, r6, r7, r8, r9⟩ := ih out' (Q ++ new) (h + 1) (by rw [List.length_append] at a3 ⊢; omega) (by rw [List.length_append]; omega) a1 a2 (by omega) (by rw [List.length_append]; omega)
      (fun q hq => by
        rcases List.mem_append.1 hq with hq | hq
        · obtain ⟨b0, b1, b2⟩ := h5 q hq; exact ⟨b0, b1, by rw [a4 q b2]; exact b2⟩
        · obtain ⟨b0, b1⟩ := a6 q hq; exact ⟨(hrow q b0).1, (hrow q b0).2, by rw [b1]; omega⟩)
      (fun k hk0 hk1 hk => by
        rcases a7 k hk0 hk1 hk with h' | h'
        · exact List.mem_append_left _ (h6 k hk0 hk1 h')
        · exact List.mem_append_right _ h')
      (fun q hq j hj => by
        rw [List.take_append_of_le_length (by omega), List.take_add_one, List.getElem?_eq_getElem hh] at hq
        rcases List.mem_append.1 hq with hq | hq
        · rw [a4 j (h7 q hq j hj)]; exact h7 q hq j hj
        · rw [show q = Q[h] by simpa using hq] at hj; exact a5 j hj)
      (fun P hP hs q hq => by
        rcases List.mem_append.1 hq with hq | hq
        · exact h8 P hP hs q hq
        · exact hP Q[h] q0 q1 (h8 P hP hs _ (List.getElem_mem hh)) q (a6 q hq).1)
      (by rw [a4 s (by omega)]; exact hS)
      (fun k hk0 hk1 hk => by
        rcases a7 k hk0 hk1 hk with h' | h'
        · rcases hE k hk0 hk1 h' with e | ⟨p, p0, p1, p2, p3, p4⟩
          · exact .inl e
          · exact .inr ⟨p, p0, p1, p2, by rw [a4 p p3]; exact p3, by rw [a4 p p3, a4 k h']; exact p4⟩
        · obtain ⟨b0, b1⟩ := a6 k h'
          exact .inr ⟨Q[h], q0, q1, b0, by rw [a4 _ q2]; exact q2, by rw [a4 _ q2]; exact b1⟩)
    refine ⟨R, ?_, ?_, r3, r4, fun k hk => r5 k (by rw [a4 k hk]; exact hk), r6, r7, r8, r9⟩
    · have e8 := a8 R r1
      rw [List.drop_eq_getElem_cons hh]
      refine Ev.step (fun k => by rw [impl_spread.l0]) ?_
      refine Ev.pos (by rw [List.length_cons]; omega) ?_
      refine Ev.pos (by rw [List.length_cons]; omega) ?_
      refine Ev.pos (by rw [List.length_cons]; omega) ?_
      have e1 : rd (Q[h] :: Q.drop (h + 1)) 0 = Q[h] := rfl
      have e2 : (Q[h] :: Q.drop (h + 1)).drop (1 : Int).toNat = Q.drop (h + 1) := rfl
      rw [e1, e2]
      refine Ev.pos q0 ?_
      refine Ev.pos q1 ?_
      exact e8
    · have hwh : wrap64 ((h : Int) + 1) = ((h + 1 : Nat) : Int) := wrap_up hh (by omega)
      rw [hwh] at a9
      clear hwh
      have e9 := a9 R r2
      refine Ev.step (fun k => by rw [spec_l2Spread.l1]) ?_
      refine Ev.pos (by omega) ?_
      refine Ev.pos (by omega) ?_
      rw [rd_at Q h hh]
      refine Ev.pos q0 ?_
      refine Ev.pos q1 ?_
      exact e9
end
theorem fill_loop {z : List (List Int)} (i : Int) {R : List Int} (d : Nat) : ∀ (m : Nat) (out : List Int), out.length - m = d → m ≤ out.length → out.length ≤ 1048576 → out.take m = List.replicate m (-1) → Ev (fun k => spec_l2Spread.l0 k z i (List.replicate out.length (-1)) (out.length : Int)) R → Ev (fun k => spec_l2Spread.l0 k z i out (m : Int)) R := by
  induction d with
  | zero =>
    intro m out h0 h1 h2 h3 hR
    have he : m = out.length := by omega
    rw [he] at h3 ⊢
    rw [List.take_length] at h3
    rw [← h3] at hR
    exact hR
  | succ d ih =>
    intro m out h0 h1 h2 h3 hR
    have hm : m < out.length := by omega
    refine Ev.step (fun k => by rw [spec_l2Spread.l0]) ?_
    refine Ev.pos (by omega) ?_
    refine Ev.pos (by omega) ?_
    have := ih (m + 1) (out.set m (-1)) (by rw [List.length_set]; omega) (by rw [List.length_set]; omega) (by rw [List.length_set]; exact h2) (by
      rw [List.take_add_one, List.getElem?_set_self hm, List.take_set_of_le (Nat.le_refl _), h3, List.replicate_succ', Option.toList]) (by rw [List.length_set]; exact hR)
    rw [← wrap_up hm (by omega)] at this
    rw [Int.toNat_natCast]
    exact this
/-- What both sides' spread answers. -/
theorem spread_both {z : List (List Int)} (hz : okZ z) (hn : z.length ≤ 1048576) (hr : ∀ i, (rd_L4 z i).length ≤ 1048576) (s : Int) (hs0 : 0 ≤ s) (hs1 : s < (z.length : Int)) :
    ∃ R, Ev (fun k => impl_spread.f k z s) R ∧ Ev (fun k => spec_l2Spread.f k z s) R ∧ R.length = z.length ∧ (∀ k, rd R k ≤ 1048575) ∧ 0 ≤ rd R s ∧ closedZ z (fun k => 0 ≤ rd R k) ∧ (∀ P, closedZ z P → P s → ∀ k, 0 ≤ k → k < (z.length : Int) → 0 ≤ rd R k → P k) ∧ rd R s = 0 ∧ (∀ k, 0 ≤ k → k < (z.length : Int) → 0 ≤ rd R k → k = s ∨ ∃ p, 0 ≤ p ∧ p < (z.length : Int) ∧ k ∈ rd_L4 z p ∧ 0 ≤ rd R p ∧ rd R k = rd R p + 1) := by
  have hl : s.toNat < (List.replicate z.length (-1 : Int)).length := by rw [List.length_replicate]; omega
  have hrs : ∀ k, rd ((List.replicate z.length (-1 : Int)).set s.toNat 0) k = if k.toNat = s.toNat then 0 else rd (List.replicate z.length (-1)) k := fun k => rd_set _ s k 0 hl
  have hrep : ∀ k, rd (List.replicate z.length (-1 : Int)) k < 1 := fun k => by
    unfold rd; rw [List.getD_eq_getElem?_getD, List.getElem?_replicate]; split <;> simp
  have hrep2 : ∀ k : Int, 0 ≤ k → k < (z.length : Int) → rd (List.replicate z.length (-1 : Int)) k = -1 := fun k h0 h1 => by
    unfold rd; rw [List.getD_eq_getElem?_getD, List.getElem?_replicate, if_pos (by omega)]; rfl
  have hneg := negs_set (List.replicate z.length (-1 : Int)) s 0 hl (by rw [hrep2 s hs0 hs1]; decide) (Int.le_refl _)
  have hneg2 : negs (List.replicate z.length (-1 : Int)) ≤ z.length := by have := List.countP_le_length (p := fun x => decide (x < 0)) (l := List.replicate z.length (-1 : Int)); rw [List.length_replicate] at this; exact this
  obtain ⟨R, r1, r2, r3, r4, r5, r6, r7, r8, r9⟩ := spread_outer hz hn hr s _ ((List.replicate z.length (-1 : Int)).set s.toNat 0) [s] 0 rfl (Nat.zero_le _) (by rw [List.length_set, List.length_replicate])
    (fun k => by rw [hrs]; have := hrep k; simp only [List.length_singleton]; split <;> omega) (by rw [List.length_singleton]; omega) (by simp)
    (fun q hq => by rw [show q = s by simpa using hq]; exact ⟨hs0, hs1, by rw [hrs, if_pos rfl]; exact Int.le_refl _⟩)
    (fun k hk0 hk1 hk => by
      rw [hrs] at hk
      by_cases c : k.toNat = s.toNat
      · rw [show k = s by omega]; exact .head _
      · rw [if_neg c, hrep2 k hk0 hk1] at hk; omega)
    (fun q hq => by simp at hq) (fun P hP hs q hq => by rw [show q = s by simpa using hq]; exact hs) (by rw [hrs, if_pos rfl])
    (fun k hk0 hk1 hk => by
      rw [hrs] at hk
      by_cases c : k.toNat = s.toNat
      · exact .inl (by omega)
      · rw [if_neg c, hrep2 k hk0 hk1] at hk; omega)
  simp only [Int.natCast_zero, List.drop_zero] at r1 r2
  refine ⟨R, ?_, ?_, r3, r4, r5 s (by rw [hrs, if_pos rfl]; exact Int.le_refl _), r6, r7, r8, r9⟩
  · unfold impl_spread.f
    refine Ev.bindo (a := List.replicate z.length (-1)) ?_ ?_
    · unfold slices_Repeat_int_int.f
      rw [if_pos ⟨rfl, by omega, by omega⟩, Int.toNat_natCast]
      rfl
    · rw [List.length_replicate]
      refine Ev.pos hs0 ?_
      refine Ev.pos hs1 ?_
      exact r1
  · unfold spec_l2Spread.f
    refine Ev.pos (by omega) ?_
    refine Ev.pos (by omega) ?_
    rw [Int.toNat_natCast]
    have hfill := fill_loop (z := z) (R := R) s _ 0 (List.replicate z.length 0) rfl (Nat.zero_le _) (by rw [List.length_replicate]; exact hn) (by simp)
    simp only [Int.natCast_zero, List.length_replicate] at hfill
    refine hfill ?_
    refine Ev.step (fun k => by rw [spec_l2Spread.l0]) ?_
    refine Ev.neg (by rw [List.length_replicate]; omega) ?_
    rw [List.length_replicate]
    refine Ev.pos hs0 ?_
    refine Ev.pos hs1 ?_
    exact r2
end Go.Proofs.Ytnjadmgnnbamhaa.P
namespace Go.Proofs.Ytnjadmgnnbamhaa.P
open Go.RowKit Go.Proofs.YtnjadmgnnbamhaaW.PrintWords Go.Proofs.YtnjadmgnnbamhaaW.PrintLast Go.Proofs.YtnjadmgnnbamhaaW.PrintMore
set_option linter.unusedVariables false

def nbs (l : List S50) (x : Int) : Nat → Int → List Int
  | 0, _ => []
  | d + 1, y => (if hasP l x y = true then [y] else []) ++ nbs l x d (y + 1)
theorem nbs_len (l : List S50) (x : Int) (d : Nat) : ∀ y, (nbs l x d y).length ≤ d := by
  induction d with
  | zero => intro y; simp [nbs]
  | succ d ih =>
    intro y
    have := ih (y + 1)
    simp only [nbs, List.length_append]
    split <;> simp only [List.length_nil, List.length_cons] <;> omega
theorem hasP_self (l : List S50) (x : Int) (hu : ∀ e ∈ l, e.f0 < e.f1) : hasP l x x = false := by
  unfold hasP
  rw [List.any_eq_false]
  intro e he
  have := hu e he
  simp only [Bool.or_eq_true, Bool.and_eq_true, decide_eq_true_eq]
  omega
section
variable (a : Int) (l : List S50) (hl : l.length ≤ 1048576) (h8 : a ≤ 8) (x : Int)
include hl h8
theorem sNbs_loop (d : Nat) : ∀ (y : Int) (acc : List Int), (a - y).toNat = d → 0 ≤ y → acc.length + d ≤ 1000 →
    Ev (fun k => spec_l2Neighbors.l0 k x acc y a l) (acc ++ nbs l x d y) := by
  induction d with
  | zero =>
    intro y acc h0 h1 h2
    refine Ev.step (fun k => by rw [spec_l2Neighbors.l0]) (Ev.neg (by omega) ?_)
    simp only [nbs, List.append_nil]
    exact Ev.now _
  | succ d ih =>
    intro y acc h0 h1 h2
    refine Ev.step (fun k => by rw [spec_l2Neighbors.l0]) (Ev.pos (by omega) (Ev.bind (near_ev a l x y hl) ?_))
    have hw : wrap64 (y + 1) = y + 1 := wrap_nat (by omega) (by omega)
    rw [hw, nbs]
    by_cases c : hasP l x y = true
    · refine Ev.pos c (Ev.pos (by omega) ?_)
      rw [if_pos c, ← List.append_assoc]
      exact ih (y + 1) _ (by omega) (by omega) (by rw [List.length_append, List.length_singleton]; omega)
    · rw [if_neg c, List.nil_append]
      exact Ev.neg c (ih (y + 1) acc (by omega) (by omega) (by omega))
variable (hu : ∀ e ∈ l, e.f0 < e.f1)
include hu
theorem iNbs_loop (d : Nat) : ∀ (y : Int) (acc : List Int), (a - y).toNat = d → 0 ≤ y → acc.length + d ≤ 1000 →
    Ev (fun k => impl_Graph_neighbors.l0 k x acc a y a l) (acc ++ nbs l x d y) := by
  induction d with
  | zero =>
    intro y acc h0 h1 h2
    refine Ev.step (fun k => by rw [impl_Graph_neighbors.l0]) (Ev.neg (by omega) ?_)
    simp only [nbs, List.append_nil]
    exact Ev.now _
  | succ d ih =>
    intro y acc h0 h1 h2
    refine Ev.step (fun k => by rw [impl_Graph_neighbors.l0]) (Ev.pos (by omega) ?_)
    have hw : wrap64 (y + 1) = y + 1 := wrap_nat (by omega) (by omega)
    rw [hw, nbs]
    by_cases cx : y = x
    · have c : ¬ hasP l x y = true := by rw [cx, hasP_self l x hu]; decide
      rw [if_neg c, List.nil_append]
      exact Ev.pos cx (ih (y + 1) acc (by omega) (by omega) (by omega))
    · refine Ev.neg cx (Ev.bind (has_ev a l x y hl hu) ?_)
      by_cases c : hasP l x y = true
      · refine Ev.pos c (Ev.pos (by omega) ?_)
        rw [if_pos c, ← List.append_assoc]
        exact ih (y + 1) _ (by omega) (by omega) (by rw [List.length_append, List.length_singleton]; omega)
      · rw [if_neg c, List.nil_append]
        exact Ev.neg c (ih (y + 1) acc (by omega) (by omega) (by omega))
end
theorem l2Neighbors_ev (a : Int) (l : List S50) (x : Int) (hl : l.length ≤ 1048576) (h8 : a ≤ 8) : Ev (fun k => spec_l2Neighbors.f k a l x) (nbs l x a.toNat 0) := by
  unfold spec_l2Neighbors.f
  have := sNbs_loop a l hl h8 x a.toNat 0 [] (by omega) (by omega) (by simp; omega)
  simpa only [List.nil_append] using this
theorem neighbors_ev (a : Int) (l : List S50) (x : Int) (hl : l.length ≤ 1048576) (h8 : a ≤ 8) (hu : ∀ e ∈ l, e.f0 < e.f1) : Ev (fun k => impl_Graph_neighbors.f k a l x) (nbs l x a.toNat 0) := by
  unfold impl_Graph_neighbors.f
  have := iNbs_loop a l hl h8 x hu a.toNat 0 [] (by omega) (by omega) (by simp; omega)
  simpa only [List.nil_append] using this
end Go.Proofs.Ytnjadmgnnbamhaa.P
namespace Go.Proofs.Ytnjadmgnnbamhaa.P
open Go.RowKit Go.Proofs.YtnjadmgnnbamhaaW.PrintWords Go.Proofs.YtnjadmgnnbamhaaW.PrintLast Go.Proofs.YtnjadmgnnbamhaaW.PrintMore
set_option linter.unusedVariables false
set_option linter.unusedSimpArgs false
/-- A list without a number. -/
def wo (L : List Int) (y : Int) : List Int := L.filter (fun z => decide (z ≠ y))
def matchStep (far : List Int) (m : List Int → Int) (L : List Int) (acc y : Int) : Int := if 0 ≤ rd far y then (if 0 ≤ m (wo L y) ∧ (acc < 0 ∨ rd far y + m (wo L y) < acc) then rd far y + m (wo L y) else acc) else acc
/-- The least sum of distances, or -1. -/
def matchF : List (List Int) → List Int → Int
  | [], _ => 0
  | far :: F, L => L.foldl (matchStep far (matchF F) L) (-1)
def comb (best sum m : Int) : Int := if m < 0 then best else if best < 0 ∨ sum + m < best then sum + m else best
theorem comb_step (best sum acc d r : Int) (hs : 0 ≤ sum) (hd : 0 ≤ d) : comb (comb best sum acc) (sum + d) r = comb best sum (if 0 ≤ r ∧ (acc < 0 ∨ d + r < acc) then d + r else acc) := by
  unfold comb
  by_cases h1 : r < 0
  · rw [if_pos h1, if_neg (by omega : ¬ (0 ≤ r ∧ (acc < 0 ∨ d + r < acc)))]
  · rw [if_neg h1]
    by_cases h2 : acc < 0
    · rw [if_pos h2, if_pos (by omega : 0 ≤ r ∧ (acc < 0 ∨ d + r < acc)), if_neg (by omega : ¬ d + r < 0), show sum + d + r = sum + (d + r) by omega]
    · rw [if_neg h2]
      by_cases h3 : d + r < acc
      · rw [if_pos (by omega : 0 ≤ r ∧ (acc < 0 ∨ d + r < acc)), if_neg (by omega : ¬ d + r < 0)]
        by_cases h4 : best < 0 ∨ sum + acc < best
        · rw [if_pos h4, if_pos (by omega : sum + acc < 0 ∨ sum + d + r < sum + acc), if_pos (by omega : best < 0 ∨ sum + (d + r) < best)]
          omega
        · rw [if_neg h4]
          by_cases h5 : sum + (d + r) < best
          · rw [if_pos (by omega : best < 0 ∨ sum + d + r < best), if_pos (by omega : best < 0 ∨ sum + (d + r) < best)]
            omega
          · rw [if_neg (by omega : ¬ (best < 0 ∨ sum + d + r < best)), if_neg (by omega : ¬ (best < 0 ∨ sum + (d + r) < best))]
      · rw [if_neg (by omega : ¬ (0 ≤ r ∧ (acc < 0 ∨ d + r < acc))), if_neg h2]
        by_cases h4 : best < 0 ∨ sum + acc < best
        · rw [if_pos h4, if_neg (by omega : ¬ (sum + acc < 0 ∨ sum + d + r < sum + acc))]
        · rw [if_neg h4, if_neg (by omega : ¬ (best < 0 ∨ sum + d + r < best))]
theorem give_match : ∀ (F : List (List Int)) (b sum best : Int), (0 ≤ b ∧ b < 256) → 0 ≤ sum → giveB F b sum best = comb best sum (matchF F (bagL b))
  | [], b, sum, best, _, _ => by
    show (if best < 0 ∨ sum < best then sum else best) = comb best sum 0
    unfold comb
    rw [if_neg (show ¬ (0 : Int) < 0 by decide), Int.add_zero]
  | far :: F, b, sum, best, hb, hs => by
    have key : ∀ (ys : List Int), (∀ y ∈ ys, y ∈ bagL b) → ∀ (acc : Int), ys.foldl (fun bst y => if 0 ≤ rd far y then giveB F (bagWo b y) (sum + rd far y) bst else bst) (comb best sum acc) = comb best sum (ys.foldl (matchStep far (matchF F) (bagL b)) acc) := by
      intro ys
      induction ys with
      | nil => intro _ acc; rfl
      | cons y ys ih =>
        intro hy acc
        rw [List.foldl_cons, List.foldl_cons]
        have hm := (selI_mem _ _ _ _).1 (hy y (List.mem_cons_self ..))
        have hw := bagWo_at hb (y := y) (by omega)
        have e : (if 0 ≤ rd far y then giveB F (bagWo b y) (sum + rd far y) (comb best sum acc) else comb best sum acc) = comb best sum (matchStep far (matchF F) (bagL b) acc y) := by
          unfold matchStep
          by_cases h : 0 ≤ rd far y
          · rw [if_pos h, if_pos h, give_match F (bagWo b y) (sum + rd far y) _ hw.1 (by omega)]
            have e2 : bagL (bagWo b y) = wo (bagL b) y := hw.2
            rw [e2]
            exact comb_step best sum acc (rd far y) _ hs h
          · rw [if_neg h, if_neg h]
        rw [e]
        exact ih (fun z hz => hy z (List.mem_cons_of_mem _ hz)) _
    have h0 : comb best sum (-1) = best := by unfold comb; rw [if_pos (by decide)]
    have := key (bagL b) (fun _ h => h) (-1)
    rw [h0] at this
    exact this
theorem match_le : ∀ (F : List (List Int)) (L : List Int), (∀ far ∈ F, ∀ k, rd far k ≤ 1048575) → matchF F L ≤ 1048576 * (F.length : Int) ∧ -1 ≤ matchF F L
  | [], L, _ => by
    show (0 : Int) ≤ _ ∧ (-1 : Int) ≤ 0
    exact ⟨by simp, by decide⟩
  | far :: F, L, h => by
    have h1 := h far (List.mem_cons_self ..)
    have key : ∀ (ys : List Int) (acc : Int), acc ≤ 1048576 * ((far :: F).length : Int) → -1 ≤ acc → ys.foldl (matchStep far (matchF F) L) acc ≤ 1048576 * ((far :: F).length : Int) ∧ -1 ≤ ys.foldl (matchStep far (matchF F) L) acc := by
      intro ys
      induction ys with
      | nil => intro acc ha hb; exact ⟨ha, hb⟩
      | cons y ys ih =>
        intro acc ha hb
        rw [List.foldl_cons]
        have h2 := match_le F (wo L y) (fun f hf => h f (List.mem_cons_of_mem _ hf))
        have h3 := h1 y
        refine ih _ ?_ ?_
        · unfold matchStep
          rw [List.length_cons] at ha ⊢
          split
          · split <;> omega
          · exact ha
        · unfold matchStep
          split
          · split <;> omega
          · exact hb
    exact key L (-1) (by rw [List.length_cons]; omega) (Int.le_refl _)
theorem wo_at {L : List Int} (hp : L.Pairwise (· < ·)) (m : Nat) (hm : m < L.length) : L.take m ++ L.drop (m + 1) = wo L L[m] := by
  have hsub : (L.take m ++ L.drop (m + 1)).Sublist L := by
    have := (List.Sublist.refl (L.take m)).append (List.drop_sublist_drop_left L (Nat.le_succ m))
    rw [List.take_append_drop] at this
    exact this
  refine pw_unique (hp.sublist hsub) (hp.sublist List.filter_sublist) (fun x => ?_)
  rw [wo, List.mem_filter, decide_eq_true_eq, List.mem_append]
  rw [List.pairwise_iff_getElem] at hp
  constructor
  · rintro (h | h)
    · obtain ⟨i, hi, rfl⟩ := List.getElem_of_mem h
      rw [List.length_take] at hi
      rw [List.getElem_take]
      have := hp i m (by omega) hm (by omega)
      exact ⟨List.getElem_mem _, by omega⟩
    · obtain ⟨i, hi, rfl⟩ := List.getElem_of_mem h
      rw [List.length_drop] at hi
      rw [List.getElem_drop]
      have := hp m (m + 1 + i) hm (by omega) (by omega)
      exact ⟨List.getElem_mem _, by omega⟩
  · rintro ⟨h, hne⟩
    obtain ⟨i, hi, rfl⟩ := List.getElem_of_mem h
    rcases Nat.lt_trichotomy i m with q | q | q
    · exact .inl (List.mem_take_iff_getElem.2 ⟨i, by omega, rfl⟩)
    · subst q; exact absurd rfl hne
    · refine .inr (List.mem_drop_iff_getElem.2 ⟨i - (m + 1), by omega, ?_⟩)
      congr 1
      omega
section
variable (far : List (List Int)) (n : Nat) (hn : n ≤ 8) (hfl : far.length = n) (hrow : ∀ i : Int, 0 ≤ i → i < (n : Int) → (rd_L4 far i).length = n ∧ ∀ k, rd (rd_L4 far i) k ≤ 1048575)
include hn hfl hrow
theorem match_ev : ∀ (a : List Int) (L : List Int), (∀ x ∈ a, 0 ≤ x ∧ x < (n : Int)) → SetN n L → a.length ≤ 8 → Ev (fun k => spec_l3Match.f k far a L) (matchF (a.map (rd_L4 far)) L)
  | [], L, _, _, _ => by
    refine Ev.step (fun k => by rw [spec_l3Match.f]) ?_
    exact Ev.pos rfl (Ev.now _)
  | s :: a, L, ha, hL, hl => by
    have hs := ha s (List.mem_cons_self ..)
    have hr := hrow s hs.1 hs.2
    have hLl := hL.len
    have hle : ∀ y, matchF (a.map (rd_L4 far)) (wo L y) ≤ 1048576 * 8 ∧ -1 ≤ matchF (a.map (rd_L4 far)) (wo L y) := fun y => by
      have h := match_le (a.map (rd_L4 far)) (wo L y) (fun f hf => by
        obtain ⟨x, hx, rfl⟩ := List.mem_map.1 hf
        have := ha x (List.mem_cons_of_mem _ hx)
        exact (hrow x this.1 this.2).2)
      rw [List.length_map] at h
      rw [List.length_cons] at hl
      constructor
      · omega
      · exact h.2
    have ih : ∀ y, Ev (fun k => spec_l3Match.f k far a (wo L y)) (matchF (a.map (rd_L4 far)) (wo L y)) := fun y => match_ev a (wo L y) (fun x hx => ha x (List.mem_cons_of_mem _ hx)) ⟨hL.1.sublist List.filter_sublist, fun x hx => hL.2 x (List.mem_filter.1 hx).1⟩ (by rw [List.length_cons] at hl; omega)
    have loop : ∀ (d m : Nat) (acc : Int), L.length - m = d → m ≤ L.length → Ev (fun k => spec_l3Match.l0 k far (s :: a) L acc (m : Int)) ((L.drop m).foldl (matchStep (rd_L4 far s) (matchF (a.map (rd_L4 far))) L) acc) := by
      intro d
      induction d with
      | zero =>
        intro m acc h0 h1
        rw [List.drop_eq_nil_of_le (by omega)]
        refine Ev.step (fun k => by rw [spec_l3Match.l0]) ?_
        exact Ev.neg (by omega) (Ev.now _)
      | succ d ihd =>
        intro m acc h0 h1
        have hm : m < L.length := by omega
        have hy := hL.2 _ (List.getElem_mem hm)
        have hrd : rd L (m : Int) = L[m] := by simp [rd, List.getD_eq_getElem?_getD, List.getElem?_eq_getElem hm]
        have hs0 : rd (s :: a) 0 = s := rfl
        have hdr : (s :: a).drop 1 = a := rfl
        have hwo := wo_at hL.1 m hm
        rw [List.drop_eq_getElem_cons hm, List.foldl_cons]
        refine Ev.step (fun k => by rw [spec_l3Match.l0]) ?_
        rw [hs0, hrd, wrap_up hm (by omega), hdr, Int.toNat_natCast, Int.toNat_natCast]
        have hle2 := hle L[m]
        have ih2 := ih L[m]
        generalize hyy : L[m] = y at *
        have hd2 := hr.2 y
        refine Ev.pos (by omega) ?_
        refine Ev.pos (by rw [List.length_cons]; omega) ?_
        refine Ev.pos hs.1 ?_
        refine Ev.pos (by omega) ?_
        refine Ev.pos (by omega) ?_
        refine Ev.pos hy.1 ?_
        refine Ev.pos (by rw [hr.1]; omega) ?_
        by_cases hd : rd (rd_L4 far s) y < 0
        · refine Ev.pos hd ?_
          have e : matchStep (rd_L4 far s) (matchF (a.map (rd_L4 far))) L acc y = acc := if_neg (by omega)
          rw [e]
          exact ihd (m + 1) acc (by omega) (by omega)
        · refine Ev.neg hd ?_
          refine Ev.pos (by rw [List.length_cons]; omega) ?_
          refine Ev.pos (by omega) ?_
          refine Ev.bindo (own_at (L.take m) (by rw [List.length_take]; omega)) ?_
          refine Ev.pos (by omega) ?_
          refine Ev.pos (by omega) ?_
          refine Ev.pos (by rw [List.length_take, List.length_drop]; omega) ?_
          rw [hwo]
          refine Ev.bind ih2 ?_
          have hw : wrap64 (rd (rd_L4 far s) y + matchF (a.map (rd_L4 far)) (wo L y)) = rd (rd_L4 far s) y + matchF (a.map (rd_L4 far)) (wo L y) := wrap_nat (by omega) (by omega)
          rw [hw]
          have e : matchStep (rd_L4 far s) (matchF (a.map (rd_L4 far))) L acc y = if 0 ≤ matchF (a.map (rd_L4 far)) (wo L y) ∧ (acc < 0 ∨ rd (rd_L4 far s) y + matchF (a.map (rd_L4 far)) (wo L y) < acc) then rd (rd_L4 far s) y + matchF (a.map (rd_L4 far)) (wo L y) else acc := if_pos (by omega)
          rw [e]
          by_cases c1 : 0 ≤ matchF (a.map (rd_L4 far)) (wo L y)
          · refine Ev.pos c1 ?_
            by_cases c2 : acc < 0
            · rw [if_pos ⟨c1, .inl c2⟩]
              refine Ev.pos c2 ?_
              exact ihd (m + 1) _ (by omega) (by omega)
            · refine Ev.neg c2 ?_
              by_cases c3 : rd (rd_L4 far s) y + matchF (a.map (rd_L4 far)) (wo L y) < acc
              · rw [if_pos ⟨c1, .inr c3⟩]
                exact Ev.pos c3 (ihd (m + 1) _ (by omega) (by omega))
              · rw [if_neg (fun h => h.2.elim c2 c3)]
                exact Ev.neg c3 (ihd (m + 1) _ (by omega) (by omega))
          · rw [if_neg (fun h => c1 h.1)]
            exact Ev.neg c1 (ihd (m + 1) _ (by omega) (by omega))
    refine Ev.step (fun k => by rw [spec_l3Match.f]) ?_
    refine Ev.neg (by rw [List.length_cons]; omega) ?_
    exact loop L.length 0 (-1) rfl (Nat.zero_le _)
end
/-- The neighbours of each node. -/
def rowsG (n : Nat) (e : List S50) : List (List Int) := (List.range n).map fun (x : Nat) => nbs e (x : Int) n 0
theorem rowsG_len (n : Nat) (e : List S50) : (rowsG n e).length = n := by simp [rowsG]
theorem rowsG_at (n : Nat) (e : List S50) (i : Nat) (hi : i < n) : (rowsG n e)[i]'(by rw [rowsG_len]; exact hi) = nbs e (i : Int) n 0 := by simp [rowsG]
theorem nbs_in (l : List S50) (x : Int) (d : Nat) : ∀ y, ∀ z ∈ nbs l x d y, y ≤ z ∧ z < y + (d : Int) := by
  induction d with
  | zero => intro y z hz; simp [nbs] at hz
  | succ d ih =>
    intro y z hz
    rw [nbs] at hz
    rcases List.mem_append.1 hz with h | h
    · split at h
      · rw [List.mem_singleton.1 h]; omega
      · simp at h
    · have := ih (y + 1) z h
      omega
theorem rowsG_ok (n : Nat) (e : List S50) : okZ (rowsG n e) ∧ ∀ i, (rd_L4 (rowsG n e) i).length ≤ 1048576 + n := by
  constructor
  · intro i h0 h1 j hj
    rw [rowsG_len] at h1 ⊢
    obtain ⟨m, rfl⟩ := Int.eq_ofNat_of_zero_le h0
    rw [rdL_at _ m (by rw [rowsG_len]; omega), rowsG_at n e m (by omega)] at hj
    have := nbs_in e _ _ _ _ hj
    omega
  · intro i
    by_cases h : i.toNat < n
    · have e1 : rd_L4 (rowsG n e) i = nbs e (i.toNat : Int) n 0 := by
        have := rdL_at (rowsG n e) i.toNat (by rw [rowsG_len]; exact h)
        rw [rowsG_at n e i.toNat h] at this
        have e2 : rd_L4 (rowsG n e) i = rd_L4 (rowsG n e) (i.toNat : Int) := by unfold rd_L4; rw [Int.toNat_natCast]
        rw [e2, this]
      rw [e1]
      have := nbs_len e (i.toNat : Int) n 0
      omega
    · have e1 : rd_L4 (rowsG n e) i = [] := by
        unfold rd_L4
        rw [List.getD_eq_getElem?_getD, List.getElem?_eq_none (by rw [rowsG_len]; omega)]
        rfl
      rw [e1]
      exact Nat.zero_le _
section
variable (n : Nat) (hn : n ≤ 8) (e : List S50) (he : e.length ≤ 1048576)
include hn he
theorem roadsG_ev (hu : ∀ s ∈ e, s.f0 < s.f1) : Ev (fun k => impl_Graph_roads.f k (n : Int) e) (rowsG n e) := by
  have key : ∀ (d i : Nat) (acc : List (List Int)), n - i = d → i ≤ n → acc.length ≤ i → Ev (fun k => impl_Graph_roads.l0 k acc (n : Int) (i : Int) (n : Int) e) (acc ++ (rowsG n e).drop i) := by
    intro d
    induction d with
    | zero =>
      intro i acc h0 h1 h2
      rw [List.drop_eq_nil_of_le (by rw [rowsG_len]; omega), List.append_nil]
      refine Ev.step (fun k => by rw [impl_Graph_roads.l0]) ?_
      exact Ev.neg (by omega) (Ev.now _)
    | succ d ih =>
      intro i acc h0 h1 h2
      have hi : i < n := by omega
      rw [List.drop_eq_getElem_cons (by rw [rowsG_len]; exact hi), rowsG_at n e i hi]
      refine Ev.step (fun k => by rw [impl_Graph_roads.l0]) ?_
      refine Ev.pos (by omega) ?_
      have hnb := neighbors_ev (n : Int) e (i : Int) he (by omega) hu
      rw [Int.toNat_natCast] at hnb
      refine Ev.bind hnb ?_
      refine Ev.pos (by omega) ?_
      rw [wrap_up hi (by omega)]
      have := ih (i + 1) (acc ++ [nbs e (i : Int) n 0]) (by omega) (by omega) (by rw [List.length_append, List.length_singleton]; omega)
      rw [List.append_assoc] at this
      exact this
  have := key n 0 [] (by omega) (Nat.zero_le _) (Nat.zero_le _)
  rw [List.drop_zero, List.nil_append] at this
  exact this
theorem far_ev (s : Int) (R : List Int) (hR : Ev (fun k => spec_l2Spread.f k (rowsG n e) s) R) : Ev (fun k => spec_l3Far.f k (n : Int) e s) R := by
  have key : ∀ (d i : Nat), n - i = d → i ≤ n → Ev (fun k => spec_l3Far.l0 k s ((rowsG n e).take i ++ List.replicate (n - i) []) (i : Int) (n : Int) e) R := by
    intro d
    induction d with
    | zero =>
      intro i h0 h1
      rw [h0, List.take_of_length_le (by rw [rowsG_len]; omega), List.replicate_zero, List.append_nil]
      refine Ev.step (fun k => by rw [spec_l3Far.l0]) ?_
      refine Ev.neg (by omega) ?_
      exact Ev.bind hR (Ev.now _)
    | succ d ih =>
      intro i h0 h1
      have hi : i < n := by omega
      have hlt : ((rowsG n e).take i).length = i := by rw [List.length_take, rowsG_len]; omega
      refine Ev.step (fun k => by rw [spec_l3Far.l0]) ?_
      refine Ev.pos (by omega) ?_
      have hnb := l2Neighbors_ev (n : Int) e (i : Int) he (by omega)
      rw [Int.toNat_natCast] at hnb
      refine Ev.bind hnb ?_
      refine Ev.pos (by omega) ?_
      refine Ev.pos (by rw [List.length_append, hlt, List.length_replicate]; omega) ?_
      rw [wrap_up hi (by omega), Int.toNat_natCast]
      have hset : ((rowsG n e).take i ++ List.replicate (n - i) []).set i (nbs e (i : Int) n 0) = (rowsG n e).take (i + 1) ++ List.replicate (n - (i + 1)) [] := by
        rw [List.set_append_right _ _ (by rw [hlt]; exact Nat.le_refl _), hlt, Nat.sub_self, show n - i = (n - (i + 1)) + 1 by omega, List.replicate_succ, List.set_cons_zero, List.take_succ_eq_append_getElem (by rw [rowsG_len]; exact hi), rowsG_at n e i hi, List.append_assoc]
        rfl
      rw [hset]
      exact ih (i + 1) (by omega) (by omega)
  unfold spec_l3Far.f
  refine Ev.pos (by omega) ?_
  rw [Int.toNat_natCast]
  refine Ev.pos (by omega) ?_
  have := key n 0 (by omega) (Nat.zero_le _)
  rw [List.take_zero, List.nil_append, Nat.sub_zero] at this
  exact this
/-- The distances from each node: both sides spread alike. -/
theorem spreads : ∃ D : Int → List Int, ∀ s : Int, 0 ≤ s → s < (n : Int) → Ev (fun k => impl_spread.f k (rowsG n e) s) (D s) ∧ Ev (fun k => spec_l3Far.f k (n : Int) e s) (D s) ∧ (D s).length = n ∧ ∀ k, rd (D s) k ≤ 1048575 := by
  have key : ∀ s : Int, ∃ R : List Int, 0 ≤ s → s < (n : Int) → Ev (fun k => impl_spread.f k (rowsG n e) s) R ∧ Ev (fun k => spec_l3Far.f k (n : Int) e s) R ∧ R.length = n ∧ ∀ k, rd R k ≤ 1048575 := by
    intro s
    by_cases h : 0 ≤ s ∧ s < (n : Int)
    · have hz := rowsG_ok n e
      have hz2 : ∀ i, (rd_L4 (rowsG n e) i).length ≤ 1048576 := fun i => by
        by_cases hi : i.toNat < n
        · have e2 : rd_L4 (rowsG n e) i = rd_L4 (rowsG n e) (i.toNat : Int) := by unfold rd_L4; rw [Int.toNat_natCast]
          rw [e2, rdL_at (rowsG n e) i.toNat (by rw [rowsG_len]; exact hi), rowsG_at n e i.toNat hi]
          have := nbs_len e (i.toNat : Int) n 0
          omega
        · unfold rd_L4
          rw [List.getD_eq_getElem?_getD, List.getElem?_eq_none (by rw [rowsG_len]; omega)]
          exact Nat.zero_le _
      obtain ⟨R, r1, r2, r3, r4, _⟩ := spread_both hz.1 (by rw [rowsG_len]; omega) hz2 s h.1 (by rw [rowsG_len]; exact h.2)
      rw [rowsG_len] at r3
      exact ⟨R, fun _ _ => ⟨r1, far_ev n hn e he s R r2, r3, r4⟩⟩
    · exact ⟨[], fun h0 h1 => absurd ⟨h0, h1⟩ h⟩
  exact ⟨fun s => Classical.choose (key s), fun s h0 h1 => Classical.choose_spec (key s) h0 h1⟩
end
theorem farsF_ev (z : List (List Int)) (D : Int → List Int) : ∀ (a : List Int), (∀ s ∈ a, Ev (fun k => impl_spread.f k z s) (D s)) → Ev (fun k => farsF k z a) (a.map D)
  | [], _ => Ev.now _
  | x :: r, h => Ev.bind (h x (List.mem_cons_self ..)) (Ev.bind (farsF_ev z D r (fun s hs => h s (List.mem_cons_of_mem _ hs))) (Ev.now _))
theorem Both_FnExactTokenBound (a0_0 : Int) (l0_1 : List S50) (l1 l2 : List Int) (w0_0 : (Lit.int .i64 a0_0).wf = true) (w0_1 : FitP l0_1) (w1 : FitL l1) (w2 : FitL l2) (hn0 : l0_1.length ≤ 1048576) (hl1 : l1.length ≤ 1048576) (hl2 : l2.length ≤ 1048576) : ∃ (q0 : Int) (q1 : Bool), Ev (fun k => spec_TokenBound.f k a0_0 l0_1 l1 l2) (q0, q1) ∧ Ev (fun k => impl_TokenBound.f k a0_0 l0_1 l1 l2) (q0, q1) := by
  have hsB := l3Both_ev a0_0 l0_1 l1 l2 hn0 hl1 hl2
  have hiB := twoSets_ev a0_0 l0_1 l1 l2 hn0 hl1 hl2
  have hstop : ∀ b : Bool, b = true → Ev (fun k => spec_TokenBound.j0 k l1 l2 b a0_0 l0_1) (0, false) := fun b hb => by
    refine Ev.step (fun k => by rw [spec_TokenBound.j0]) ?_
    exact Ev.pos hb (Ev.now _)
  cases ht : twoR a0_0 l0_1 l1 l2 with
  | false =>
    rw [ht] at hsB hiB
    refine ⟨0, false, ?_, ?_⟩
    · unfold spec_TokenBound.f
      refine Ev.bind hsB ?_
      exact Ev.neg (by decide) (hstop true rfl)
    · unfold impl_TokenBound.f
      refine Ev.bind hiB ?_
      exact Ev.neg (by decide) (Ev.now _)
  | true =>
    rw [ht] at hsB hiB
    by_cases hlen : l1.length = l2.length
    case neg =>
      refine ⟨0, false, ?_, ?_⟩
      · unfold spec_TokenBound.f
        refine Ev.bind hsB ?_
        refine Ev.pos rfl ?_
        exact hstop _ (bne_iff_ne.mpr (by omega))
      · unfold impl_TokenBound.f
        refine Ev.bind hiB ?_
        refine Ev.pos rfl ?_
        exact Ev.neg hlen (Ev.now _)
    unfold twoR at ht
    rw [Bool.and_eq_true, Bool.and_eq_true] at ht
    have h1 := okG_all ht.1
    obtain ⟨n, rfl⟩ := Int.eq_ofNat_of_zero_le h1.1
    have hn : n ≤ 8 := by omega
    have hx := (setOk_set hn ht.2.1).1
    have hy := (setOk_set hn ht.2.2).1
    obtain ⟨D, hD⟩ := spreads n hn l0_1 hn0
    have hcode := SetN.code hn hy
    have hb : 0 ≤ bagI 0 l2 ∧ bagI 0 l2 < 256 := by
      have hpow : 2 ^ n ≤ 256 := Nat.pow_le_pow_right (n := 2) (by decide) (show n ≤ 8 from hn)
      omega
    obtain ⟨M, hM⟩ : ∃ M, matchF (l1.map D) l2 = M := ⟨_, rfl⟩
    have hG : giveB (l1.map D) (bagI 0 l2) 0 (-1) = comb (-1) 0 M := by
      rw [give_match _ _ _ _ hb (Int.le_refl 0), hcode.2, hM]
    refine ⟨if M < 0 then 0 else M, decide (0 ≤ M), ?_, ?_⟩
    · unfold spec_TokenBound.f
      refine Ev.bind hsB ?_
      refine Ev.pos rfl ?_
      have hb0 : ((l1.length : Int) != (l2.length : Int)) = false := by rw [hlen]; simp
      rw [hb0]
      refine Ev.step (fun k => by rw [spec_TokenBound.j0]) ?_
      refine Ev.neg (by decide) ?_
      obtain ⟨FR, hFR⟩ : ∃ FR, FR = (List.range n).map (fun (i : Nat) => D (i : Int)) := ⟨_, rfl⟩
      have hFRl : FR.length = n := by rw [hFR]; simp
      have hFRa : ∀ i : Nat, i < n → rd_L4 FR (i : Int) = D (i : Int) := fun i hi => by
        rw [rdL_at FR i (by rw [hFRl]; exact hi)]
        simp [hFR]
      have hmap : l1.map (rd_L4 FR) = l1.map D := List.map_congr_left (fun s hs => by
        have := hx.2 s hs
        obtain ⟨m, rfl⟩ := Int.eq_ofNat_of_zero_le this.1
        exact hFRa m (by omega))
      have hmatch := match_ev FR n hn hFRl (fun i i0 i1 => by
        obtain ⟨m, rfl⟩ := Int.eq_ofNat_of_zero_le i0
        rw [hFRa m (by omega)]
        exact (hD m (by omega) i1).2.2) l1 l2 (fun s hs => hx.2 s hs) hy (by have := hx.len; omega)
      rw [hmap, hM] at hmatch
      have key : ∀ (d i : Nat), n - i = d → i ≤ n → Ev (fun k => spec_TokenBound.l0 k l1 l2 (FR.take i) (i : Int) (n : Int) l0_1) (if M < 0 then 0 else M, decide (0 ≤ M)) := by
        intro d
        induction d with
        | zero =>
          intro i g0 g1
          rw [List.take_of_length_le (by rw [hFRl]; omega)]
          refine Ev.step (fun k => by rw [spec_TokenBound.l0]) ?_
          refine Ev.neg (by omega) ?_
          refine Ev.bind hmatch ?_
          by_cases c : M < 0
          · have e1 : (if M < 0 then (0 : Int) else M) = 0 := if_pos c
            rw [e1, decide_eq_false (by omega : ¬ 0 ≤ M)]
            exact Ev.pos c (Ev.now _)
          · have e1 : (if M < 0 then (0 : Int) else M) = M := if_neg c
            rw [e1, decide_eq_true (by omega : 0 ≤ M)]
            exact Ev.neg c (Ev.now _)
        | succ d ih =>
          intro i g0 g1
          have hi : i < n := by omega
          refine Ev.step (fun k => by rw [spec_TokenBound.l0]) ?_
          refine Ev.pos (by omega) ?_
          refine Ev.bind (hD (i : Int) (by omega) (by omega)).2.1 ?_
          refine Ev.pos (by rw [List.length_take, hFRl]; omega) ?_
          rw [wrap_up hi (by omega)]
          have e2 : FR.take i ++ [D (i : Int)] = FR.take (i + 1) := by
            rw [List.take_succ_eq_append_getElem (by rw [hFRl]; exact hi)]
            simp [hFR]
          rw [e2]
          exact ih (i + 1) (by omega) (by omega)
      exact key n 0 (by omega) (Nat.zero_le _)
    · unfold impl_TokenBound.f
      refine Ev.bind hiB ?_
      refine Ev.pos rfl ?_
      refine Ev.pos hlen ?_
      refine Ev.bind (roadsG_ev n hn l0_1 hn0 (fun s hs => (h1.2.2 s hs).2.1)) ?_
      refine Ev.bind (bagOf_ev l2 hl2 (fun s hs => by have := hy.2 s hs; omega)) ?_
      refine Ev.bind (farsF_ev _ D l1 (fun s hs => (hD s (hx.2 s hs).1 (hx.2 s hs).2).1)) ?_
      have hokg : okGive (l1.map D) (bagI 0 l2) ∧ l1.length ≤ 8 := by
        refine ⟨⟨hb, fun f hf y hy2 => ?_⟩, by have := hx.len; omega⟩
        obtain ⟨s, hs, rfl⟩ := List.mem_map.1 hf
        have hd := hD s (hx.2 s hs).1 (hx.2 s hs).2
        have e3 : selI (hasI (bagI 0 l2)) 8 0 = l2 := hcode.2
        rw [e3] at hy2
        have := hy.2 y hy2
        have h4 := hd.2.2.2 y
        exact ⟨by rw [hd.2.2.1]; exact this.2, by omega⟩
      refine Ev.pos hokg ?_
      rw [hG]
      have hres : (mx (comb (-1) 0 M) 0, decide (0 ≤ comb (-1) 0 M)) = (if M < 0 then 0 else M, decide (0 ≤ M)) := by
        by_cases c : M < 0
        · have e1 : comb (-1) 0 M = -1 := if_pos c
          have e2 : (if M < 0 then (0 : Int) else M) = 0 := if_pos c
          rw [e1, e2, decide_eq_false (by omega : ¬ 0 ≤ M)]
          rfl
        · have e1 : comb (-1) 0 M = M := by
            unfold comb
            rw [if_neg c, if_pos (Or.inl (by decide : (-1 : Int) < 0)), Int.zero_add]
          rw [e1]
          rfl
      rw [hres]
      exact Ev.now _
end Go.Proofs.Ytnjadmgnnbamhaa.P
namespace Go.Proofs.Ytnjadmgnnbamhaa.P
open Go.RowKit Go.Proofs.YtnjadmgnnbamhaaW.PrintWords Go.Proofs.YtnjadmgnnbamhaaW.PrintLast Go.Proofs.YtnjadmgnnbamhaaW.PrintMore
set_option linter.unusedVariables false
set_option maxHeartbeats 1000000 in
theorem Law_FnExactTokenBound (a0_0 : Int) (A0_1 : Option Addr) (ca0_1 : Nat) (l0_1 : List (S50)) (A1 : Option Addr) (ca1 : Nat) (l1 : List Int) (A2 : Option Addr) (ca2 : Nat) (l2 : List Int) (w : World) (hr0_1 : Kd.C k50 w A0_1 l0_1.length l0_1) (hc0_1 : l0_1.length ≤ ca0_1) (hr1 : Kd.C (Kd.int .i64) w A1 l1.length l1) (hc1 : l1.length ≤ ca1) (hr2 : Kd.C (Kd.int .i64) w A2 l2.length l2) (hc2 : l2.length ≤ ca2) (w0_0 : (Lit.int .i64 a0_0).wf = true) (w0_1 : FitP l0_1) (w1 : FitL l1) (w2 : FitL l2) :
    Calls Try.prog 3 #[.agg #[.int .i64 a0_0, .slice A0_1 l0_1.length ca0_1], .slice A1 l1.length ca1, .slice A2 l2.length ca2] w fun e w' => e = .returned (.bool true) ∧ Below w.heap.size w w' := by
  by_cases c0 : 1048576 < (l1.length : Int)
  · exact laws_FnExactTokenBound.exit0 a0_0 A0_1 ca0_1 l0_1 A1 ca1 l1 A2 ca2 l2 w hr0_1 hc0_1 hr1 hc1 hr2 hc2 c0
  have hl1 : l1.length ≤ 1048576 := by omega
  by_cases c1 : 1048576 < (l2.length : Int)
  · exact laws_FnExactTokenBound.exit1 a0_0 A0_1 ca0_1 l0_1 A1 ca1 l1 A2 ca2 l2 w hr0_1 hc0_1 hr1 hc1 hr2 hc2 c0 c1
  have hl2 : l2.length ≤ 1048576 := by omega
  obtain ⟨t0, h0, m2⟩ := sz_graph a0_0 l0_1 w0_1.1
  by_cases c2 : t0 < 0
  · exact laws_FnExactTokenBound.exit2 a0_0 A0_1 ca0_1 l0_1 A1 ca1 l1 A2 ca2 l2 t0 w hr0_1 hc0_1 hr1 hc1 hr2 hc2 c0 c1 c2 h0
  have hn0 := m2.resolve_left c2
  obtain ⟨q0, q1, es, ei⟩ := Both_FnExactTokenBound a0_0 l0_1 l1 l2 w0_0 w0_1 w1 w2 hn0 hl1 hl2
  obtain ⟨k1, h1⟩ := Ev.rounds (toGraph_ev a0_0 l0_1 hn0)
  obtain ⟨k2, h2⟩ := Ev.rounds (toIntS_ev l1 hl1)
  obtain ⟨k3, h3⟩ := Ev.rounds (toIntS_ev l2 hl2)
  obtain ⟨k4, h4⟩ := Ev.rounds (es)
  obtain ⟨k5, h5⟩ := Ev.rounds (ei)
  obtain ⟨k6, h6⟩ := Ev.rounds (eqGraph_ev a0_0 l0_1 hn0)
  obtain ⟨k7, h7⟩ := Ev.rounds (eqIntS_ev l1 hl1)
  obtain ⟨k8, h8⟩ := Ev.rounds (eqIntS_ev l2 hl2)
  exact laws_FnExactTokenBound.walk a0_0 A0_1 ca0_1 l0_1 A1 ca1 l1 A2 ca2 l2 k1 k2 k3 k4 k5 k6 k7 k8 t0 q0 q1 w hr0_1 hc0_1 hr1 hc1 hr2 hc2 c0 c1 c2 h0 h1 h2 h3 h4 h5 h6 h7 h8 
end Go.Proofs.Ytnjadmgnnbamhaa.P
