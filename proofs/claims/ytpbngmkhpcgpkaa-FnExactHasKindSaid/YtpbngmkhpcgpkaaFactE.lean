/- Independent sets: no two nodes of a list are neighbours, as both sides test it. -/
import Derived.Test.YtpbngmkhpcgpkaaFactB
import Derived.Test.YtpbngmkhpcgpkaaExtI
import Derived.Test.YtpbngmkhpcgpkaaPx16
import Derived.Test.YtpbngmkhpcgpkaaPx17
namespace Go.Proofs.Ytpbngmkhpcgpkaa.P
open Go.RowKit Go.Proofs.YtpbngmkhpcgpkaaW.PrintWords Go.Proofs.YtpbngmkhpcgpkaaW.PrintLast Go.Proofs.YtpbngmkhpcgpkaaW.PrintMore
set_option linter.unusedVariables false

def freeN (e : List S68) (l : List Int) (r : Bool) : Nat → Nat → Bool
  | 0, _ => r
  | d + 1, i => if (l.take i).any (fun y => hasP e y (l[i]?.getD 0)) = true then false else freeN e l r d (i + 1)
theorem freeN_iff (e : List S68) (l : List Int) (r : Bool) (d : Nat) : ∀ i, freeN e l r d i = true ↔ r = true ∧ ∀ q, i ≤ q → q < i + d → ∀ y ∈ l.take q, ¬ hasP e y (l[q]?.getD 0) = true := by
  induction d with
  | zero => intro i; simp only [freeN]; exact ⟨fun h => ⟨h, fun q h1 h2 => by omega⟩, fun h => h.1⟩
  | succ d ih =>
    intro i
    simp only [freeN]
    by_cases c : (l.take i).any (fun y => hasP e y (l[i]?.getD 0)) = true
    · rw [if_pos c]
      refine ⟨fun h => by simp at h, fun h => ?_⟩
      obtain ⟨y, hy, hc⟩ := List.any_eq_true.1 c
      exact absurd hc (h.2 i (Nat.le_refl _) (by omega) y hy)
    · rw [if_neg c, ih]
      refine and_congr_right fun _ => ⟨fun h q h1 h2 y hy hc => ?_, fun h q h1 h2 => h q (by omega) (by omega)⟩
      by_cases hq : q = i
      · subst hq
        exact c (List.any_eq_true.2 ⟨y, hy, hc⟩)
      · exact h q (by omega) (by omega) y hy hc
section
variable (a : Int) (e : List S68) (l : List Int) (he : e.length ≤ 1048576) (hl : l.length ≤ 1048576)
include he hl
theorem free_row {R : Bool} (i : Nat) (hi : i < l.length) (d : Nat) : ∀ (j : Nat), i - j = d → j ≤ i → Ev (fun k => spec_l3Free.l0 k l (wrap64 ((i : Int) + 1)) a e) R →
    Ev (fun k => spec_l3Free.l1 k l (i : Int) (j : Int) a e) (if ((l.take i).drop j).any (fun y => hasP e y (l[i]?.getD 0)) = true then false else R) := by
  induction d with
  | zero =>
    intro j h0 h1 h
    refine Ev.step (fun k => by rw [spec_l3Free.l1]) (Ev.neg (by omega) ?_)
    rw [List.drop_eq_nil_of_le (by rw [List.length_take]; omega), List.any_nil, if_neg (by decide)]
    exact h
  | succ d ih =>
    intro j h0 h1 h
    have hj : j < l.length := by omega
    refine Ev.step (fun k => by rw [spec_l3Free.l1]) (Ev.pos (by omega) (Ev.pos (by omega) (Ev.pos (by omega) (Ev.pos (by omega) (Ev.pos (by omega) ?_)))))
    rw [rd_at l j hj, rd_at l i hi]
    refine Ev.bind (near_ev a e l[j] l[i] he) ?_
    have hd : (l.take i).drop j = l[j] :: (l.take i).drop (j + 1) := by
      rw [List.drop_eq_getElem_cons (by rw [List.length_take]; omega), List.getElem_take]
    rw [hd, List.any_cons, List.getElem?_eq_getElem hi, Option.getD_some]
    by_cases c : hasP e l[j] l[i] = true
    · rw [c, Bool.true_or, if_pos rfl]
      exact Ev.pos rfl (Ev.now _)
    · have c' : hasP e l[j] l[i] = false := by simpa using c
      rw [c', Bool.false_or, wrap_up hj (by omega)]
      have := ih (j + 1) (by omega) (by omega) h
      rw [List.getElem?_eq_getElem hi, Option.getD_some] at this
      exact Ev.neg (by decide) this
theorem free_loop (d : Nat) : ∀ (i : Nat), l.length - i = d → i ≤ l.length → Ev (fun k => spec_l3Free.l0 k l (i : Int) a e) (freeN e l (risI 0 (wrap64 (a - 1)) none l) d i) := by
  induction d with
  | zero =>
    intro i h0 h1
    refine Ev.step (fun k => by rw [spec_l3Free.l0]) (Ev.neg (by omega) ?_)
    exact Ev.bind (l2Set_ev a e l hl) (Ev.now _)
  | succ d ih =>
    intro i h0 h1
    have hi : i < l.length := by omega
    refine Ev.step (fun k => by rw [spec_l3Free.l0]) (Ev.pos (by omega) ?_)
    have h := ih (i + 1) (by omega) (by omega)
    rw [← wrap_up hi (by omega)] at h
    have := free_row a e l he hl i hi i 0 (by omega) (by omega) h
    simpa only [List.drop_zero, freeN, Int.natCast_zero] using this
end
theorem l3Free_ev (a : Int) (e : List S68) (l : List Int) (he : e.length ≤ 1048576) (hl : l.length ≤ 1048576) : Ev (fun k => spec_l3Free.f k a e l) (freeN e l (risI 0 (wrap64 (a - 1)) none l) l.length 0) :=
  free_loop a e l he hl l.length 0 (by omega) (Nat.zero_le _)
/-- No edge has both nodes in the set. -/
def freeI (e : List S68) (l : List Int) : Bool := !(e.any fun s => decide (s.f0 ∈ l) && decide (s.f1 ∈ l))
theorem hasP_iff (e : List S68) (x y : Int) : hasP e x y = true ↔ ∃ s ∈ e, (s.f0 = x ∧ s.f1 = y) ∨ (s.f0 = y ∧ s.f1 = x) := by
  unfold hasP
  rw [List.any_eq_true]
  simp only [Bool.or_eq_true, Bool.and_eq_true, decide_eq_true_eq]
theorem freeN_freeI (e : List S68) (l : List Int) (r : Bool) (hu : ∀ s ∈ e, s.f0 < s.f1) : freeN e l r l.length 0 = (r && freeI e l) := by
  rw [Bool.eq_iff_iff, freeN_iff, Bool.and_eq_true]
  refine and_congr_right fun _ => ?_
  unfold freeI
  rw [Bool.not_eq_true', List.any_eq_false]
  simp only [Bool.and_eq_true, decide_eq_true_eq]
  constructor
  · intro h s hs hc
    obtain ⟨p, hp, h0⟩ := List.getElem_of_mem hc.1
    obtain ⟨q, hq, h1⟩ := List.getElem_of_mem hc.2
    have hne := hu s hs
    have hmem : ∀ p q (hp : p < l.length) (hq : q < l.length), p < q → l[p] ∈ l.take q := by
      intro p q hp hq hpq
      rw [List.mem_take_iff_getElem]
      exact ⟨p, by omega, rfl⟩
    rcases Nat.lt_trichotomy p q with hpq | hpq | hpq
    · refine h q (by omega) (by omega) l[p] (hmem p q hp hq hpq) ?_
      rw [List.getElem?_eq_getElem hq, Option.getD_some, hasP_iff]
      exact ⟨s, hs, .inl ⟨h0.symm, h1.symm⟩⟩
    · subst hpq
      rw [h0] at h1
      omega
    · refine h p (by omega) (by omega) l[q] (hmem q p hq hp hpq) ?_
      rw [List.getElem?_eq_getElem hp, Option.getD_some, hasP_iff]
      exact ⟨s, hs, .inr ⟨h0.symm, h1.symm⟩⟩
  · intro h q _ h2 y hy hc
    have hq : q < l.length := by omega
    rw [List.getElem?_eq_getElem hq, Option.getD_some, hasP_iff] at hc
    obtain ⟨s, hs, hc⟩ := hc
    have hy' : y ∈ l := List.mem_of_mem_take hy
    have hq' : l[q] ∈ l := List.getElem_mem hq
    refine h s hs ?_
    rcases hc with ⟨h0, h1⟩ | ⟨h0, h1⟩
    · exact ⟨h0 ▸ hy', h1 ▸ hq'⟩
    · exact ⟨h0 ▸ hq', h1 ▸ hy'⟩
theorem isFree_at (a : Int) (e : List S68) (b : Int) (l : List Int) (he : ∀ s ∈ e, 0 ≤ s.f0 ∧ s.f0 < s.f1 ∧ s.f1 < 8) (hb : ∀ y, 0 ≤ y → y < 8 → hasI b y = decide (y ∈ l)) : impl_Graph_isFree.f a e b = some (freeI e l) := by
  unfold impl_Graph_isFree.f
  have h1 : e.all (fun s => (impl_bag_has.f b s.f0).isSome && (impl_bag_has.f b s.f1).isSome) = true := by
    rw [List.all_eq_true]
    intro s hs
    have := he s hs
    rw [bag_has_at (by omega), bag_has_at (by omega)]
    rfl
  rw [if_pos h1]
  unfold freeI
  congr 2
  refine any_congr e _ _ fun s hs => ?_
  have := he s hs
  unfold bothB
  rw [bag_has_at (by omega), bag_has_at (by omega), Option.getD_some, Option.getD_some, hb _ (by omega) (by omega), hb _ (by omega) (by omega)]
theorem isIndependent_ev (a : Int) (e : List S68) (l : List Int) (hl : l.length ≤ 1048576) (hg : okG a e = true) :
    Ev (fun k => impl_Graph_isIndependent.f k a e l) (risI 0 (wrap64 (a - 1)) none l && freeI e l) := by
  have h1 := okG_all hg
  have hw : wrap64 (a - 1) = a - 1 := wrap_nat (by omega) (by omega)
  unfold impl_Graph_isIndependent.f
  refine Ev.bind (rising_ev l a hl) ?_
  cases h : risI 0 (wrap64 (a - 1)) none l with
  | false => rw [Bool.false_and]; exact Ev.neg (by decide) (Ev.now _)
  | true =>
    have hx : ∀ x ∈ l, 0 ≤ x ∧ x < 8 := fun x hx => by
      have := risI_all _ _ l none h x hx
      omega
    have hb := (bagI_at l 0 (by omega) hx).2
    rw [Bool.true_and]
    refine Ev.pos rfl (Ev.bind (bagOf_ev l hl hx) (Ev.bindo (isFree_at a e (bagI 0 l) l (fun s hs => by have := h1.2.2 s hs; omega) (fun y h0 h8 => by rw [hb y h0 h8, hasI_nil h0 h8, Bool.false_or])) (Ev.now _)))
end Go.Proofs.Ytpbngmkhpcgpkaa.P
