/- The lists of steps: both sides make the same rows, and each row is rising. -/
import Derived.Test.YtadjbmcfgjmhkaaGreatStuckSetsG21
namespace Go.Proofs.YtadjbmcfgjmhkaaGreat.P
open Go.RowKit YtadjbmcfgjmhkaaGreatW.PrintWords Go.Proofs.YtadjbmcfgjmhkaaGreatW.PrintLast Go.Proofs.YtadjbmcfgjmhkaaGreatW.PrintMore
set_option linter.unusedVariables false
set_option linter.unusedSimpArgs false
abbrev bP := S69
def bo (n : Nat) (f : Int → List Int) : List (List Int) := (List.range n).map fun (i : Nat) => f i
theorem dt (n : Nat) (f : Int → List Int) : (bo n f).length = n := by simp [bo]
theorem fT {n : Nat} {f g : Int → List Int} (h : ∀ i : Nat, i < n → f i = g i) : bo n f = bo n g := by
 unfold bo
 exact List.map_congr_left fun i hi => h i (List.mem_range.1 hi)
theorem g7 {n : Nat} (f : Int → List Int) (i : Nat) (h : i < n) (h' : i < (bo n f).length) : (bo n f)[i] = f i := by simp [bo]
theorem fS {n : Nat} (f : Int → List Int) {a : Int} (h0 : 0 ≤ a) (h1 : a < n) : ai (bo n f) a = f a := by
 obtain ⟨i, rfl⟩ := Int.eq_ofNat_of_zero_le h0
 have hi : i < n := by omega
 unfold ai
 rw [Int.toNat_natCast, List.getD_eq_getElem?_getD, List.getElem?_eq_getElem (by rw [dt]; exact hi), Option.getD_some, g7 f i hi]
theorem fR {n : Nat} (f : Int → List Int) {a : Int} (h0 : 0 ≤ a) (h1 : a < n) (x : List Int) : (bo n f).set a.toNat x = bo n (fun i => if i = a then x else f i) := by
 obtain ⟨i, rfl⟩ := Int.eq_ofNat_of_zero_le h0
 refine List.ext_getElem (by rw [List.length_set, dt, dt]) fun j hj hj' => ?_
 have hjn : j < n := by rw [dt] at hj'; exact hj'
 rw [g7 _ j hjn]
 simp only [Int.toNat_natCast, List.getElem_set]
 by_cases h : i = j
 · subst h; rw [if_pos rfl, if_pos rfl]
 · rw [if_neg h, if_neg (by omega), g7 _ j hjn]
theorem jx (n : Nat) : List.replicate n ([] : List Int) = bo n (fun _ => []) := by
 unfold bo
 rw [List.map_const', List.length_range]
def bT (i : Int) (p : bP) : Option Int := if p.f0 = i then some p.f1 else none
def bm (i : Int) (p : bP) : Option Int := if p.f1 = i then some p.f0 else none
def bK (i : Int) (p : bP) : Option Int := if p.f0 = i then some p.f1 else if p.f1 = i then some p.f0 else none
def b5 (e : List bP) (i : Int) : List Int := e.filterMap (bK i)
theorem iC {α : Type} (f : bP → Option α) (e : List bP) (m : Nat) (hm : m < e.length) : (e.take (m + 1)).filterMap f = (e.take m).filterMap f ++ (f e[m]).toList := by
 rw [List.take_add_one, List.getElem?_eq_getElem hm, List.filterMap_append]
 cases h : f e[m] <;> simp [h]
theorem eB {α : Type} (f : bP → Option α) (e : List bP) (m : Nat) (he : e.length ≤ 1048576) : ((e.take m).filterMap f).length ≤ 1048576 := by
 have h1 := List.length_filterMap_le f (e.take m)
 have h2 := List.length_take_le m e
 have h3 : (e.take m).length ≤ e.length := by rw [List.length_take]; omega
 omega
theorem qq {a b c : bP} (h : bn a b = true) (k : bn b c = true) : bn a c = true := by
 unfold bn at *
 simp only [Bool.or_eq_true, Bool.and_eq_true, decide_eq_true_eq] at *
 omega
theorem kg (n : Int) (l : List bP) : ∀ p, bC n p l = true → l.Pairwise (fun a b => bn a b = true) ∧ (∀ q, p = some q → ∀ s ∈ l, bn q s = true) := by
 induction l with
 | nil => intro p h; exact ⟨.nil, fun q _ s hs => by cases hs⟩
 | cons x t ih =>
  intro p h
  simp only [bC, Bool.and_eq_true, decide_eq_true_eq] at h
  obtain ⟨_, h4, h5⟩ := h
  obtain ⟨h1, h2⟩ := ih _ h5
  refine ⟨List.pairwise_cons.2 ⟨fun s hs => h2 x rfl s hs, h1⟩, fun q hq s hs => ?_⟩
  subst hq
  have hx : bn q x = true := h4
  rcases List.mem_cons.1 hs with rfl | hs
  · exact hx
  · exact qq hx (h2 x rfl s hs)
theorem mC (i : Int) (e : List bP) : (∀ p ∈ e, p.f0 < p.f1) → e.Pairwise (fun a b => bn a b = true) → e.filterMap (bm i) ++ e.filterMap (bT i) = b5 e i := by
 induction e with
 | nil => intro _ _; rfl
 | cons p t ih =>
  intro hl hp
  obtain ⟨h1, h2⟩ := List.pairwise_cons.1 hp
  have ih' := ih (fun q hq => hl q (.tail _ hq)) h2
  have hpl := hl p (.head _)
  unfold b5 at ih' ⊢
  by_cases c0 : p.f0 = i
  · have e1 : bm i p = none := by unfold bm; rw [if_neg (by omega)]
    have e0 : bT i p = some p.f1 := by unfold bT; rw [if_pos c0]
    have eL : bK i p = some p.f1 := by unfold bK; rw [if_pos c0]
    have ht : t.filterMap (bm i) = [] := by
      rw [List.filterMap_eq_nil_iff]
      intro q hq
      have hb := h1 q hq
      have hq' := hl q (.tail _ hq)
      unfold bn at hb
      simp only [Bool.or_eq_true, Bool.and_eq_true, decide_eq_true_eq] at hb
      unfold bm
      rw [if_neg (by omega)]
    rw [ht, List.nil_append] at ih'
    rw [List.filterMap_cons_none e1, List.filterMap_cons_some e0, List.filterMap_cons_some eL, ht, List.nil_append, ih']
  · have e0 : bT i p = none := by unfold bT; rw [if_neg c0]
    by_cases c1 : p.f1 = i
    · have e1 : bm i p = some p.f0 := by unfold bm; rw [if_pos c1]
      have eL : bK i p = some p.f0 := by unfold bK; rw [if_neg c0, if_pos c1]
      rw [List.filterMap_cons_some e1, List.filterMap_cons_none e0, List.filterMap_cons_some eL, List.cons_append, ih']
    · have e1 : bm i p = none := by unfold bm; rw [if_neg c1]
      have eL : bK i p = none := by unfold bK; rw [if_neg c0, if_neg c1]
      rw [List.filterMap_cons_none e1, List.filterMap_cons_none e0, List.filterMap_cons_none eL, ih']
theorem mD (i : Int) (e : List bP) (hl : ∀ p ∈ e, p.f0 < p.f1) (hp : e.Pairwise (fun a b => bn a b = true)) : (b5 e i).Pairwise (· < ·) := by
 have hp2 : e.Pairwise (fun a b => bn a b = true ∧ a.f0 < a.f1 ∧ b.f0 < b.f1) := by
   refine List.Pairwise.imp_of_mem (fun {a b} ha hb h => ⟨h, hl a ha, hl b hb⟩) hp
 refine List.Pairwise.filterMap _ (fun a b h x hx y hy => ?_) hp2
 obtain ⟨h, ha, hb⟩ := h
 unfold bn at h
 simp only [Bool.or_eq_true, Bool.and_eq_true, decide_eq_true_eq] at h
 unfold bK at hx hy
 by_cases c0 : a.f0 = i
 · rw [if_pos c0] at hx
   by_cases d0 : b.f0 = i
   · rw [if_pos d0] at hy; simp at hx hy; omega
   · rw [if_neg d0] at hy
     by_cases d1 : b.f1 = i
     · rw [if_pos d1] at hy; simp at hx hy; omega
     · rw [if_neg d1] at hy; cases hy
 · rw [if_neg c0] at hx
   by_cases c1 : a.f1 = i
   · rw [if_pos c1] at hx
     by_cases d0 : b.f0 = i
     · rw [if_pos d0] at hy; simp at hx hy; omega
     · rw [if_neg d0] at hy
       by_cases d1 : b.f1 = i
       · rw [if_pos d1] at hy; simp at hx hy; omega
       · rw [if_neg d1] at hy; cases hy
   · rw [if_neg c1] at hx; cases hx
section
variable {l : List (List Int)} {e : List bP} (he : e.length ≤ 1048576) (hg : ∀ p ∈ e, 0 ≤ p.f0 ∧ p.f0 < p.f1 ∧ p.f1 < (l.length : Int))
include he hg
theorem mE (d : Nat) : ∀ (m : Nat), e.length - m = d → m ≤ e.length → Ev (fun k => bU k (bo l.length (b5 (e.take m))) e (e.length : Int) (m : Int)) (bo l.length (b5 e)) := by
 induction d with
 | zero =>
  intro m h0 h1
  refine Ev.step (fun k => by rw [bU]) (Ev.neg (by omega) ?_)
  rw [List.take_of_length_le (by omega)]
  exact Ev.now _
 | succ d ih =>
  intro m h0 h1
  have hm : m < e.length := by omega
  have hp := hg e[m] (List.getElem_mem hm)
  have ihm := ih (m + 1) (by omega) (by omega)
  rw [← bk hm (by omega)] at ihm
  refine Ev.step (fun k => by rw [bU]) (Ev.pos (by omega) (Ev.pos (by omega) (Ev.pos (by omega) ?_)))
  rw [cE e m hm, dt, fS _ hp.1 (by omega), fR _ hp.1 (by omega)]
  refine Ev.pos hp.1 (Ev.pos (by omega) (Ev.pos (by have := eB (bK e[m].f0) e m he; unfold b5; omega) (Ev.bindo rfl ?_)))
  rw [fS _ (by omega) hp.2.2, if_neg (by omega), fR _ (by omega) hp.2.2]
  refine Ev.pos (by omega) (Ev.pos (by omega) (Ev.pos (by have := eB (bK e[m].f1) e m he; unfold b5; omega) ?_))
  rw [fT (g := b5 (e.take (m + 1))) (fun i hi => ?_)]
  · exact ihm
  · unfold b5
    rw [iC (bK i) e m hm]
    by_cases c1 : (i : Int) = e[m].f1
    · rw [if_pos c1, c1]
      unfold bK
      rw [if_neg (by omega), if_pos rfl]
      rfl
    · rw [if_neg c1]
      by_cases c0 : (i : Int) = e[m].f0
      · rw [if_pos c0, c0]
        unfold bK
        rw [if_pos rfl]
        rfl
      · rw [if_neg c0]
        have : bK i e[m] = none := by unfold bK; rw [if_neg (by omega), if_neg (by omega)]
        rw [this]
        simp
theorem ny (d : Nat) : ∀ (m : Nat), e.length - m = d → m ≤ e.length → Ev (fun k => cz k (bo l.length (fun i => e.filterMap (bm i) ++ (e.take m).filterMap (bT i))) (m : Int) l e) (bo l.length (fun i => e.filterMap (bm i) ++ e.filterMap (bT i))) := by
 induction d with
 | zero =>
  intro m h0 h1
  refine Ev.step (fun k => by rw [cz]) (Ev.neg (by omega) ?_)
  rw [List.take_of_length_le (by omega)]
  exact Ev.now _
 | succ d ih =>
  intro m h0 h1
  have hm : m < e.length := by omega
  have hp := hg e[m] (List.getElem_mem hm)
  have ihm := ih (m + 1) (by omega) (by omega)
  rw [← bk hm (by omega)] at ihm
  refine Ev.step (fun k => by rw [cz]) (Ev.pos (by omega) (Ev.pos (by omega) ?_))
  rw [cE e m hm, dt, fS _ hp.1 (by omega), fR _ hp.1 (by omega)]
  refine Ev.pos hp.1 (Ev.pos (by omega) (Ev.pos ?_ ?_))
  · have h1 := eB (bT e[m].f0) e m he
    have h2 := eB (bm e[m].f0) e e.length he
    rw [List.take_length] at h2
    rw [List.length_append]
    omega
  rw [fT (g := fun i => e.filterMap (bm i) ++ (e.take (m + 1)).filterMap (bT i)) (fun i hi => ?_)]
  · exact ihm
  · rw [iC (bT i) e m hm]
    by_cases c0 : (i : Int) = e[m].f0
    · rw [if_pos c0, c0]
      unfold bT
      rw [if_pos rfl, List.append_assoc]
      rfl
    · rw [if_neg c0]
      have : bT i e[m] = none := by unfold bT; rw [if_neg (by omega)]
      rw [this]
      simp
theorem nz {R : List (List Int)} (hR : Ev (fun k => cz k (bo l.length (fun i => e.filterMap (bm i))) 0 l e) R) (d : Nat) : ∀ (m : Nat), e.length - m = d → m ≤ e.length → Ev (fun k => cA k (bo l.length (fun i => (e.take m).filterMap (bm i))) (m : Int) l e) R := by
 induction d with
 | zero =>
  intro m h0 h1
  refine Ev.step (fun k => by rw [cA]) (Ev.neg (by omega) ?_)
  rw [List.take_of_length_le (by omega)]
  exact hR
 | succ d ih =>
  intro m h0 h1
  have hm : m < e.length := by omega
  have hp := hg e[m] (List.getElem_mem hm)
  have ihm := ih (m + 1) (by omega) (by omega)
  rw [← bk hm (by omega)] at ihm
  refine Ev.step (fun k => by rw [cA]) (Ev.pos (by omega) (Ev.pos (by omega) ?_))
  rw [cE e m hm, dt, fS _ (by omega) hp.2.2, fR _ (by omega) hp.2.2]
  refine Ev.pos (by omega) (Ev.pos (by omega) (Ev.pos (by have := eB (bm e[m].f1) e m he; omega) ?_))
  rw [fT (g := fun i => (e.take (m + 1)).filterMap (bm i)) (fun i hi => ?_)]
  · exact ihm
  · rw [iC (bm i) e m hm]
    by_cases c0 : (i : Int) = e[m].f1
    · rw [if_pos c0, c0]
      unfold bm
      rw [if_pos rfl]
      rfl
    · rw [if_neg c0]
      have : bm i e[m] = none := by unfold bm; rw [if_neg (by omega)]
      rw [this]
      simp
end
theorem l7 {l : List Int} (h : l.Pairwise (· < ·)) : dM l = l := by
 unfold dM
 exact List.mergeSort_of_pairwise (h.imp fun hab => by simp; omega)
theorem l5 (z : List (List Int)) (h : ∀ s ∈ z, s.Pairwise (· < ·) ∧ s.length < 4611686018427387904) : ce z = some z := by
 induction z with
 | nil => rfl
 | cons s t ih =>
  have hs := h s (.head _)
  rw [ce, show dN s = some s from by unfold dN; rw [if_pos hs.2, l7 hs.1], Option.bind_some, ih (fun q hq => h q (.tail _ hq)), Option.bind_some]
section
variable (l : List (List Int)) (e : List bP) (hm : hX l e) (hg : bC (l.length : Int) none e = true)
include hm hg
def d9 (l : List (List Int)) (e : List bP) : List (List Int) := bo l.length (b5 e)
theorem mF : Ev (fun k => gf k l e) (d9 l e) := by
 have ha := iA (l.length : Int) e none hg
 have hp := (kg (l.length : Int) e none hg).1
 have hl := mE (l := l) hm.2.2 ha (e.length - 0) 0 rfl (Nat.zero_le _)
 unfold gf im
 rw [show (fun k => ((if 0 ≤ (l.length : Int) then (if ((l.length : Int) : Int).toNat ≤ 11728124029610 then (bU k (List.replicate ((l.length : Int) : Int).toNat []) e (e.length : Int) 0) else (none)) else (none)).bind ce)) = fun k => ((bU k (List.replicate ((l.length : Int) : Int).toNat []) e (e.length : Int) 0).bind ce) from funext fun k => by rw [if_pos (by omega), if_pos (by have := hm.1; omega)]]
 rw [Int.toNat_natCast, jx]
 have e0 : b5 (e.take 0) = fun _ => [] := funext fun i => by simp [b5]
 rw [e0] at hl
 refine Ev.bind hl (Ev.some ?_)
 refine l5 _ fun s hs => ?_
 unfold d9 bo at *
 obtain ⟨i, _, rfl⟩ := List.mem_map.1 hs
 refine ⟨mD _ e (fun p hp => (ha p hp).2.1) hp, ?_⟩
 have := eB (bK i) e e.length hm.2.2
 rw [List.take_length] at this
 unfold b5
 omega
theorem nA : Ev (fun k => d3 k l e) (d9 l e) := by
 have ha := iA (l.length : Int) e none hg
 have hp := (kg (l.length : Int) e none hg).1
 have h2 := ny (l := l) hm.2.2 ha (e.length - 0) 0 rfl (Nat.zero_le _)
 have e0 : (fun i => e.filterMap (bm i) ++ (e.take 0).filterMap (bT i)) = fun i => e.filterMap (bm i) := funext fun i => by simp
 rw [e0] at h2
 have h1 := nz (l := l) hm.2.2 ha h2 (e.length - 0) 0 rfl (Nat.zero_le _)
 have e1 : (fun i => (e.take 0).filterMap (bm i)) = fun _ => [] := funext fun i => by simp
 rw [e1] at h1
 unfold d3
 refine Ev.pos (by omega) (Ev.pos (by have := hm.1; omega) ?_)
 rw [Int.toNat_natCast, jx]
 rw [show d9 l e = bo l.length (fun i => e.filterMap (bm i) ++ e.filterMap (bT i)) from fT fun i _ => (mC i e (fun p hp => (ha p hp).2.1) hp).symm]
 exact h1
end
theorem mG (l : List (List Int)) (e : List bP) : (d9 l e).length = l.length := dt _ _
theorem oZ (n : Int) (l : List S69) : ∀ p, (∀ e ∈ l, 0 ≤ e.f0 ∧ e.f0 < e.f1 ∧ e.f1 < n) → l.Pairwise (fun a b => bn a b = true) → (∀ q, p = some q → ∀ s ∈ l, bn q s = true) → bC n p l = true := by
 induction l with
 | nil => intro p _ _ _; rfl
 | cons x t ih =>
  intro p h1 h2 h3
  have h4 := h1 x (List.mem_cons_self ..)
  rw [List.pairwise_cons] at h2
  have h5 := ih (some x) (fun e he => h1 e (List.mem_cons_of_mem _ he)) h2.2 (fun q hq s hs => by injection hq with hq; subst hq; exact h2.1 s hs)
  simp only [bC, Bool.and_eq_true, decide_eq_true_eq]
  refine ⟨⟨⟨h4.1, h4.2.1⟩, h4.2.2⟩, ?_, h5⟩
  cases p with
  | none => rfl
  | some q => exact h3 q rfl x (List.mem_cons_self ..)
theorem g9 (st : List Int → List Int → Bool) (a : List Int) (i : Nat) (t : List (List Int)) : ∀ k, ∀ e ∈ bJ st a i k t, e.f0 = (i : Int) ∧ (k : Int) ≤ e.f1 ∧ e.f1 < ((k + t.length : Nat) : Int) := by
 induction t with
 | nil => intro k e he; cases he
 | cons b t ih =>
  intro k e he
  simp only [bJ, List.mem_append] at he
  rcases he with he | he
  · split at he
    · rw [List.mem_singleton] at he
      subst he
      exact ⟨rfl, Int.le_refl _, by rw [List.length_cons]; show (k : Int) < _; omega⟩
    · cases he
  · have := ih (k + 1) e he
    rw [List.length_cons]
    exact ⟨this.1, by omega, by omega⟩
theorem mA (st : List Int → List Int → Bool) (a : List Int) (i : Nat) (t : List (List Int)) : ∀ k, (bJ st a i k t).Pairwise (fun a b => a.f0 = b.f0 ∧ a.f1 < b.f1) := by
 induction t with
 | nil => intro k; exact .nil
 | cons b t ih =>
  intro k
  simp only [bJ]
  rw [List.pairwise_append]
  refine ⟨by split <;> simp, ih (k + 1), fun x hx y hy => ?_⟩
  have h2 := g9 st a i t (k + 1) y hy
  split at hx
  · rw [List.mem_singleton] at hx
    subst hx
    exact ⟨h2.1.symm, by show (k : Int) < _; omega⟩
  · cases hx
theorem kM (st : List Int → List Int → Bool) (t : List (List Int)) : ∀ i, ∀ e ∈ aQ st i t, (i : Int) ≤ e.f0 ∧ e.f0 < e.f1 ∧ e.f1 < ((i + t.length : Nat) : Int) := by
 induction t with
 | nil => intro i e he; cases he
 | cons b t ih =>
  intro i e he
  simp only [aQ, List.mem_append] at he
  rw [List.length_cons]
  rcases he with he | he
  · have := g9 st b i t (i + 1) e he
    exact ⟨by omega, by omega, by omega⟩
  · have := ih (i + 1) e he
    exact ⟨by omega, by omega, by omega⟩
theorem qA (st : List Int → List Int → Bool) (t : List (List Int)) : ∀ i, (aQ st i t).Pairwise (fun a b => a.f0 < b.f0 ∨ (a.f0 = b.f0 ∧ a.f1 < b.f1)) := by
 induction t with
 | nil => intro i; exact .nil
 | cons b t ih =>
  intro i
  simp only [aQ]
  rw [List.pairwise_append]
  refine ⟨(mA st b i t (i + 1)).imp fun h => .inr h, ih (i + 1), fun x hx y hy => .inl ?_⟩
  have h1 := g9 st b i t (i + 1) x hx
  have h2 := kM st t (i + 1) y hy
  omega
theorem qB (st : List Int → List Int → Bool) (t : List (List Int)) : bC (t.length : Int) none (aQ st 0 t) = true := by
 refine oZ _ _ _ (fun e he => ?_) ((qA st t 0).imp fun {a b} h => ?_) (fun q hq => by cases hq)
 · have := kM st t 0 e he
   exact ⟨by omega, by omega, by omega⟩
 · unfold bn
   rcases h with h | h
   · simp [h]
   · simp [h.1, h.2]
theorem ln {n : Nat} (hn : n ≤ 8) (e : List S69) (lo hi kind : Int) : hX (aN n e lo hi) (aQ (bI e kind) 0 (aN n e lo hi)) := by
 have h2 := iB hn e lo hi
 have h3 := iM (bI e kind) (aN n e lo hi) 0
 have h4 : (aN n e lo hi).length * (aN n e lo hi).length ≤ 256 * 256 := Nat.mul_le_mul h2 h2
 exact ⟨by omega, fun s hs => by have := e4 (fw hn hs); omega, by omega⟩
theorem lB (z : List (List Int)) : ∀ ls, ∀ s ∈ bz z ls, s ∈ ls := by
 induction z with
 | nil => intro ls s hs; simp [bz] at hs
 | cons a z ih =>
  intro ls s hs
  cases ls with
  | nil => simp [bz] at hs
  | cons b ls =>
   rw [bz, List.mem_append] at hs
   rcases hs with hs | hs
   · split at hs
     · rw [List.mem_singleton] at hs
       exact hs ▸ List.mem_cons_self ..
     · cases hs
   · exact List.mem_cons_of_mem _ (ih ls s hs)
theorem lC (z : List (List Int)) : ∀ ls, (bz z ls).length ≤ ls.length := by
 induction z with
 | nil => intro ls; simp [bz]
 | cons a z ih =>
  intro ls
  cases ls with
  | nil => simp [bz]
  | cons b ls =>
   have := ih ls
   rw [bz, List.length_append, List.length_cons]
   split <;> simp <;> omega
section
variable (z ls : List (List Int)) (e : List S69) (hl : z.length = ls.length) (hn : ls.length ≤ 1048576)
include hl hn
theorem lG (d : Nat) : ∀ (m : Nat) (acc : List (List Int)), ls.length - m = d → m ≤ ls.length → acc.length ≤ m → Ev (fun k => cC k acc z (m : Int) ls e) (acc ++ bz (z.drop m) (ls.drop m), true) := by
 induction d with
 | zero =>
  intro m acc h0 h1 h2
  rw [List.drop_eq_nil_of_le (show z.length ≤ m by omega), bz, List.append_nil]
  · refine Ev.step (fun k => by rw [cC]) (Ev.neg (by omega) (Ev.now _))
  · intro a b c d h; cases h
 | succ d ih =>
  intro m acc h0 h1 h2
  have hm : m < ls.length := by omega
  have hmz : m < z.length := by omega
  refine Ev.step (fun k => by rw [cC]) (Ev.pos (by omega) (Ev.pos (by omega) ?_))
  rw [bE z m hmz, bE ls m hm, bk hm (by omega), List.drop_eq_getElem_cons hm, List.drop_eq_getElem_cons hmz, bz]
  by_cases c : z[m].length = 0
  · rw [if_pos c, ← List.append_assoc]
    refine Ev.pos (by omega) (Ev.pos (by omega) (Ev.pos (by omega) ?_))
    exact ih (m + 1) _ (by omega) (by omega) (by rw [List.length_append, List.length_singleton]; omega)
  · rw [if_neg c, List.nil_append]
    refine Ev.neg (by omega) ?_
    exact ih (m + 1) _ (by omega) (by omega) (by omega)
end
theorem ri (a0_0 : Int) (l0_1 : List S69) (a1 : Int) (w0_0 : (Lit.int .i64 a0_0).wf = true) (w0_1 : iU l0_1) (w1 : (Lit.int .i64 a1).wf = true) (hn0 : l0_1.length ≤ 1048576) : ∃ (q0 : List (List Int)) (q1 : Bool), Ev (fun k => d7 k a0_0 l0_1 a1) (q0, q1) ∧ Ev (fun k => ey k a0_0 l0_1 a1) (q0, q1) ∧ (q0.length ≤ 1048576 ∧ ∀ s ∈ q0, s.length ≤ 1048576) := by
 have hi := oH a0_0 l0_1 a1 hn0
 unfold gF at hi
 by_cases c : (bL a0_0 l0_1 && (decide (0 ≤ a1) && decide (a1 ≤ 8))) = true
 · rw [if_pos c] at hi
   have hg := ((Bool.and_eq_true _ _).mp c).1
   have h1 := ed hg
   obtain ⟨n, rfl⟩ := Int.eq_ofNat_of_zero_le h1.1
   have hn : n ≤ 8 := by omega
   rw [Int.toNat_natCast] at hi
   have hm := ln hn l0_1 a1 a1 0
   have hgo := qB (bI l0_1 0) (aN n l0_1 a1 a1)
   have hz := mG (aN n l0_1 a1 a1) (aQ (bI l0_1 0) 0 (aN n l0_1 a1 a1))
   refine ⟨bz (d9 (aN n l0_1 a1 a1) (aQ (bI l0_1 0) 0 (aN n l0_1 a1 a1))) (aN n l0_1 a1 a1), true, ?_, ?_, ?_, ?_⟩
   · unfold d7
     refine Ev.bindo rfl ?_
     refine Ev.bind (j4 _ l0_1 a1 hn0) ?_
     refine Ev.pos c ?_
     refine Ev.bind (nS n hn l0_1 hn0 hg _ _) ?_
     refine Ev.bind (nP n hn l0_1 hn0 _ _ _) ?_
     refine Ev.bind (nA _ _ hm hgo) ?_
     have := lG _ _ (aQ (bI l0_1 0) 0 (aN n l0_1 a1 a1)) hz hm.1 _ 0 [] rfl (Nat.zero_le _) (Nat.zero_le _)
     simpa only [List.nil_append, List.drop_zero, Int.natCast_zero] using this
   · unfold ey
     refine Ev.bind hi ?_
     refine Ev.pos rfl ?_
     refine Ev.bind (mF _ _ hm hgo) ?_
     exact Ev.pos ⟨hz, hm.1⟩ (Ev.now _)
   · exact Nat.le_trans (lC _ _) hm.1
   · exact fun s hs => hm.2.1 s (lB _ _ s hs)
 · rw [if_neg c] at hi
   refine ⟨[], false, ?_, ?_, Nat.zero_le _, fun s hs => by cases hs⟩
   · unfold d7
     refine Ev.bindo rfl ?_
     refine Ev.bind (j4 _ l0_1 a1 hn0) ?_
     exact Ev.neg c (Ev.now _)
   · unfold ey
     refine Ev.bind hi ?_
     exact Ev.neg (by decide) (Ev.now _)
set_option maxHeartbeats 1000000 in
theorem Law_FnExactStuckSets (a0_0 : Int) (A0_1 : Option Addr) (ca0_1 : Nat) (l0_1 : List (S69)) (a1 : Int) (w : World) (hr0_1 : Kd.C k69 w A0_1 l0_1.length l0_1) (hc0_1 : l0_1.length ≤ ca0_1) (w0_0 : (Lit.int .i64 a0_0).wf = true) (w0_1 : iU l0_1) (w1 : (Lit.int .i64 a1).wf = true) :
   Calls Tryz.prog 5 #[.agg #[.int .i64 a0_0, .slice A0_1 l0_1.length ca0_1], .int .i64 a1] w fun e w' => e = .returned (.bool true) ∧ Below w.heap.size w w' := by
 obtain ⟨t0, h0, m0⟩ := lx a0_0 l0_1 w0_1.1
 by_cases c0 : t0 < 0
 · exact nM a0_0 A0_1 ca0_1 l0_1 a1 t0 w hr0_1 hc0_1 c0 h0
 have hn0 := m0.resolve_left c0
 obtain ⟨q0, q1, es, ei, hb1⟩ := ri a0_0 l0_1 a1 w0_0 w0_1 w1 hn0
 obtain ⟨k1, h1⟩ := Ev.rounds (lr a0_0 l0_1 hn0)
 obtain ⟨k2, h2⟩ := Ev.rounds (es)
 obtain ⟨k3, h3⟩ := Ev.rounds (ei)
 obtain ⟨k4, h4⟩ := Ev.rounds (pR q0 hb1.1 hb1.2)
 obtain ⟨k5, h5⟩ := Ev.rounds (pU a0_0 l0_1 hn0)
 obtain ⟨kk0, mk0_0, h6, nkk0, pkk0⟩ := nv a0_0 l0_1 hn0
 obtain ⟨kk1, mk1_0, h7, k8, h8, nkk1⟩ := nr q0 hb1
 exact nL a0_0 A0_1 ca0_1 l0_1 a1 k1 k2 k3 k4 k5 k8 t0 q0 q1 kk0 mk0_0 kk1 mk1_0 w hr0_1 hc0_1 c0 h0 h1 h2 h3 h4 h5 h6 h7 h8 nkk0 nkk1
end Go.Proofs.YtadjbmcfgjmhkaaGreat.P
