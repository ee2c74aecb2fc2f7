/- Independent sets: no two nodes of a list are neighbours, as both sides test it. -/
import Derived.Test.YtadjbmcfgjmhkaaIndependentSetsG13
import Derived.Test.YtadjbmcfgjmhkaaIndependentSetsG10
import Derived.Test.YtadjbmcfgjmhkaaIndependentSetsG14
import Derived.Test.YtadjbmcfgjmhkaaIndependentSetsG11
import Derived.Test.YtadjbmcfgjmhkaaIndependentSetsG12
namespace Go.Proofs.Ytadjbmcfgjmhkaa.P
open Go.RowKit Go.Proofs.YtadjbmcfgjmhkaaW.PrintWords Go.Proofs.YtadjbmcfgjmhkaaW.PrintLast Go.Proofs.YtadjbmcfgjmhkaaW.PrintMore
set_option linter.unusedVariables false

def freeN (e : List S70) (l : List Int) (r : Bool) : Nat → Nat → Bool
  | 0, _ => r
  | d + 1, i => if (l.take i).any (fun y => hasP e y (l[i]?.getD 0)) = true then false else freeN e l r d (i + 1)
theorem freeN_iff (e : List S70) (l : List Int) (r : Bool) (d : Nat) : ∀ i, freeN e l r d i = true ↔ r = true ∧ ∀ q, i ≤ q → q < i + d → ∀ y ∈ l.take q, ¬ hasP e y (l[q]?.getD 0) = true := by
  induction d with
  | zero => intro i; simp only [freeN]; exact ⟨fun h => ⟨h, fun q h1 h2 => by omega⟩, fun h => h.1⟩
  | succ d ih =>
    intro i
    simp only [freeN]
    by_cases c : (l.take i).any (fun y => hasP e y (l[i]?.getD 0)) = true
    · rw [if_pos c]
      refine ⟨fun h => by simp at h, fun h => ?_⟩
      obtain ⟨y, hy, hc⟩ := List.any_eq_true.1 c
      exact absurd hc (h.2 i (Nat.le_refl _) (by omega) y hy)
    · rw [if_neg c, ih]
      refine and_congr_right fun _ => ⟨fun h q h1 h2 y hy hc => ?_, fun h q h1 h2 => h q (by omega) (by omega)⟩
      by_cases hq : q = i
      · subst hq
        exact c (List.any_eq_true.2 ⟨y, hy, hc⟩)
      · exact h q (by omega) (by omega) y hy hc
section
variable (a : Int) (e : List S70) (l : List Int) (he : e.length ≤ 1048576) (hl : l.length ≤ 1048576)
include he hl
theorem free_row {R : Bool} (i : Nat) (hi : i < l.length) (d : Nat) : ∀ (j : Nat), i - j = d → j ≤ i → Ev (fun k => spec_l3Free.l0 k l (wrap64 ((i : Int) + 1)) a e) R →
    Ev (fun k => spec_l3Free.l1 k l (i : Int) (j : Int) a e) (if ((l.take i).drop j).any (fun y => hasP e y (l[i]?.getD 0)) = true then false else R) := by
  induction d with
  | zero =>
    intro j h0 h1 h
    refine Ev.step (fun k => by rw [spec_l3Free.l1]) (Ev.neg (by omega) ?_)
    rw [List.drop_eq_nil_of_le (by rw [List.length_take]; omega), List.any_nil, if_neg (by decide)]
    exact h
  | succ d ih =>
    intro j h0 h1 h
    have hj : j < l.length := by omega
    refine Ev.step (fun k => by rw [spec_l3Free.l1]) (Ev.pos (by omega) (Ev.pos (by omega) (Ev.pos (by omega) (Ev.pos (by omega) (Ev.pos (by omega) ?_)))))
    rw [rd_at l j hj, rd_at l i hi]
    refine Ev.bind (near_ev a e l[j] l[i] he) ?_
    have hd : (l.take i).drop j = l[j] :: (l.take i).drop (j + 1) := by
      rw [List.drop_eq_getElem_cons (by rw [List.length_take]; omega), List.getElem_take]
    rw [hd, List.any_cons, List.getElem?_eq_getElem hi, Option.getD_some]
    by_cases c : hasP e l[j] l[i] = true
    · rw [c, Bool.true_or, if_pos rfl]
      exact Ev.pos rfl (Ev.now _)
    · have c' : hasP e l[j] l[i] = false := by simpa using c
      rw [c', Bool.false_or, wrap_up hj (by omega)]
      have := ih (j + 1) (by omega) (by omega) h
      rw [List.getElem?_eq_getElem hi, Option.getD_some] at this
      exact Ev.neg (by decide) this
theorem free_loop (d : Nat) : ∀ (i : Nat), l.length - i = d → i ≤ l.length → Ev (fun k => spec_l3Free.l0 k l (i : Int) a e) (freeN e l (risI 0 (wrap64 (a - 1)) none l) d i) := by
  induction d with
  | zero =>
    intro i h0 h1
    refine Ev.step (fun k => by rw [spec_l3Free.l0]) (Ev.neg (by omega) ?_)
    exact Ev.bind (l2Set_ev a e l hl) (Ev.now _)
  | succ d ih =>
    intro i h0 h1
    have hi : i < l.length := by omega
    refine Ev.step (fun k => by rw [spec_l3Free.l0]) (Ev.pos (by omega) ?_)
    have h := ih (i + 1) (by omega) (by omega)
    rw [← wrap_up hi (by omega)] at h
    have := free_row a e l he hl i hi i 0 (by omega) (by omega) h
    simpa only [List.drop_zero, freeN, Int.natCast_zero] using this
end
theorem l3Free_ev (a : Int) (e : List S70) (l : List Int) (he : e.length ≤ 1048576) (hl : l.length ≤ 1048576) : Ev (fun k => spec_l3Free.f k a e l) (freeN e l (risI 0 (wrap64 (a - 1)) none l) l.length 0) :=
  free_loop a e l he hl l.length 0 (by omega) (Nat.zero_le _)
/-- No edge has both nodes in the set. -/
def freeI (e : List S70) (l : List Int) : Bool := !(e.any fun s => decide (s.f0 ∈ l) && decide (s.f1 ∈ l))
theorem hasP_iff (e : List S70) (x y : Int) : hasP e x y = true ↔ ∃ s ∈ e, (s.f0 = x ∧ s.f1 = y) ∨ (s.f0 = y ∧ s.f1 = x) := by
  unfold hasP
  rw [List.any_eq_true]
  simp only [Bool.or_eq_true, Bool.and_eq_true, decide_eq_true_eq]
theorem freeN_freeI (e : List S70) (l : List Int) (r : Bool) (hu : ∀ s ∈ e, s.f0 < s.f1) : freeN e l r l.length 0 = (r && freeI e l) := by
  rw [Bool.eq_iff_iff, freeN_iff, Bool.and_eq_true]
  refine and_congr_right fun _ => ?_
  unfold freeI
  rw [Bool.not_eq_true', List.any_eq_false]
  simp only [Bool.and_eq_true, decide_eq_true_eq]
  constructor
  · intro h s hs hc
    obtain ⟨p, hp, h0⟩ := List.getElem_of_mem hc.1
    obtain ⟨q, hq, h1⟩ := List.getElem_of_mem hc.2
    have hne := hu s hs
    have hmem : ∀ p q (hp : p < l.length) (hq : q < l.length), p < q → l[p] ∈ l.take q := by
      intro p q hp hq hpq
      rw [List.mem_take_iff_getElem]
      exact ⟨p, by omega, rfl⟩
    rcases Nat.lt_trichotomy p q with hpq | hpq | hpq
    · refine h q (by omega) (by omega) l[p] (hmem p q hp hq hpq) ?_
      rw [List.getElem?_eq_getElem hq, Option.getD_some, hasP_iff]
      exact ⟨s, hs, .inl ⟨h0.symm, h1.symm⟩⟩
    · subst hpq
      rw [h0] at h1
      omega
    · refine h p (by omega) (by omega) l[q] (hmem q p hq hp hpq) ?_
      rw [List.getElem?_eq_getElem hp, Option.getD_some, hasP_iff]
      exact ⟨s, hs, .inr ⟨h0.symm, h1.symm⟩⟩
  · intro h q _ h2 y hy hc
    have hq : q < l.length := by omega
    rw [List.getElem?_eq_getElem hq, Option.getD_some, hasP_iff] at hc
    obtain ⟨s, hs, hc⟩ := hc
    have hy' : y ∈ l := List.mem_of_mem_take hy
    have hq' : l[q] ∈ l := List.getElem_mem hq
    refine h s hs ?_
    rcases hc with ⟨h0, h1⟩ | ⟨h0, h1⟩
    · exact ⟨h0 ▸ hy', h1 ▸ hq'⟩
    · exact ⟨h0 ▸ hq', h1 ▸ hy'⟩
end Go.Proofs.Ytadjbmcfgjmhkaa.P
namespace Go.Proofs.Ytadjbmcfgjmhkaa.P
open Go.RowKit Go.Proofs.YtadjbmcfgjmhkaaW.PrintWords Go.Proofs.YtadjbmcfgjmhkaaW.PrintLast Go.Proofs.YtadjbmcfgjmhkaaW.PrintMore
set_option linter.unusedVariables false
set_option linter.unusedSimpArgs false

def freeQ (e : List S70) (lo hi b : Int) : Bool := (decide (lo ≤ ((bagL b).length : Int)) && decide (((bagL b).length : Int) ≤ hi)) && freeI e (bagL b)
/-- The independent sets with lo to hi nodes, in order. -/
def freeS (n : Nat) (e : List S70) (lo hi : Int) : List (List Int) := sortLL (codesL (freeQ e lo hi) (2 ^ n))
theorem freeS_mem {n : Nat} (hn : n ≤ 8) (e : List S70) (lo hi : Int) (s : List Int) : s ∈ freeS n e lo hi ↔ SetN n s ∧ (lo ≤ (s.length : Int) ∧ (s.length : Int) ≤ hi) ∧ freeI e s = true := by
  unfold freeS
  rw [sortLL_mem, codes_mem hn]
  refine and_congr_right fun h => ?_
  unfold freeQ
  rw [(h.code hn).2, Bool.and_eq_true, Bool.and_eq_true, decide_eq_true_eq, decide_eq_true_eq]
theorem freeS_len {n : Nat} (hn : n ≤ 8) (e : List S70) (lo hi : Int) : (freeS n e lo hi).length ≤ 256 := by
  unfold freeS
  rw [sortLL_len]
  exact Nat.le_trans (codesL_len _ _) (Nat.pow_le_pow_right (n := 2) (by decide) (show n ≤ 8 from hn))
section
variable (n : Nat) (hn : n ≤ 8) (e : List S70) (he : e.length ≤ 1048576) (hg : okG (n : Int) e = true) (lo hi : Int)
include hn he hg
theorem freeP_eq (b : Int) (hb : 0 ≤ b ∧ b < 256) : freeP e lo hi b = freeQ e lo hi b := by
  have _hu := he
  have h1 := okG_all hg
  unfold freeP freeQ freeI
  congr 2
  refine any_congr e _ _ fun s hs => ?_
  have h2 := h1.2.2 s hs
  unfold bothB
  rw [bag_has_at (by omega), bag_has_at (by omega), Option.getD_some, Option.getD_some]
  have hm : ∀ x : Int, 0 ≤ x → x < 8 → hasI b x = decide (x ∈ bagL b) := fun x h0 h8 => by
    rw [Bool.eq_iff_iff, decide_eq_true_eq, selI_mem]
    exact ⟨fun h => ⟨by omega, h⟩, fun h => h.2⟩
  rw [hm _ (by omega) (by omega), hm _ (by omega) (by omega)]
theorem free_ev : impl_Graph_free.f (n : Int) e lo hi = some (freeS n e lo hi) := by
  have h1 := okG_all hg
  have hpow : 2 ^ n ≤ 256 := Nat.pow_le_pow_right (n := 2) (by decide) (show n ≤ 8 from hn)
  unfold impl_Graph_free.f freeS
  rw [if_pos ⟨by omega, by
    unfold edgesOk
    rw [List.all_eq_true]
    intro s hs
    have := h1.2.2 s hs
    rw [decide_eq_true (show 0 ≤ s.f0 by omega), decide_eq_true (show 0 ≤ s.f1 by omega)]
    rfl⟩, Int.toNat_natCast]
  unfold codesL
  rw [selI_congr (freeP e lo hi) (freeQ e lo hi) (2 ^ n) 0 fun z h0 h2 => freeP_eq n hn e he hg lo hi z ⟨h0, by omega⟩]
theorem l3_codes (d : Nat) : ∀ m : Nat, 2 ^ n - m = d → m ≤ 2 ^ n → Ev (fun k => spec_l3Sets.l0 k lo hi (codesL (freeQ e lo hi) m) (m : Int) (n : Int) e) (freeS n e lo hi) := by
  have hpow : 2 ^ n ≤ 256 := Nat.pow_le_pow_right (n := 2) (by decide) (show n ≤ 8 from hn)
  have h1 := okG_all hg
  have hu : ∀ s ∈ e, s.f0 < s.f1 := fun s hs => (h1.2.2 s hs).2.1
  have hw : wrap64 ((n : Int) - 1) = (n : Int) - 1 := wrap_nat (by omega) (by omega)
  have hsh : shl .i64 1 (n : Int) = ((2 ^ n : Nat) : Int) := by
    have : ∀ i : Fin 9, shl .i64 1 i = ((2 ^ i.val : Nat) : Int) := by decide +kernel
    exact this ⟨n, by omega⟩
  induction d with
  | zero =>
    intro m h0 h1
    have hm : m = 2 ^ n := by omega
    subst hm
    refine Ev.step (fun k => by rw [spec_l3Sets.l0]) ?_
    refine Ev.pos (by omega) ?_
    rw [hsh]
    refine Ev.neg (by omega) ?_
    refine Ev.bind (l2Sorted_nodup _ (by have := codesL_len (freeQ e lo hi) (2 ^ n); omega) (fun s hs => by
      have := (((codes_mem hn _ s).1 hs).1).len
      omega) (codes_nodup hpow _)) (Ev.now _)
  | succ d ih =>
    intro m h0 h1
    have hb : 0 ≤ (m : Int) ∧ (m : Int) < ((2 ^ n : Nat) : Int) := by omega
    have hset := bagL_set hn hb
    have hlen := hset.len
    have h5 := ih (m + 1) (by omega) (by omega)
    rw [codesL_succ, ← wrap_up (show m < 2 ^ n by omega) (by omega)] at h5
    have hcl := codesL_len (freeQ e lo hi) m
    have hf := l3Free_ev (n : Int) e (bagL (m : Int)) he (by omega)
    rw [freeN_freeI e _ _ hu, hw, hset.ris, Bool.true_and] at hf
    refine Ev.step (fun k => by rw [spec_l3Sets.l0]) ?_
    refine Ev.pos (by omega) ?_
    rw [hsh]
    refine Ev.pos hb.2 ?_
    refine Ev.bind (bits_ev n (m : Int) hn hb) ?_
    refine Ev.bindo (in_at _ _ _) ?_
    cases c1 : (decide (lo ≤ ((bagL (m : Int)).length : Int)) && decide (((bagL (m : Int)).length : Int) ≤ hi)) with
    | true =>
      refine Ev.pos rfl ?_
      refine Ev.bind hf ?_
      cases c2 : freeI e (bagL (m : Int)) with
      | true =>
        rw [if_pos (by unfold freeQ; rw [c1, c2]; rfl)] at h5
        refine Ev.pos rfl ?_
        refine Ev.pos (by omega) ?_
        exact h5
      | false =>
        rw [if_neg (by unfold freeQ; rw [c2, Bool.and_false]; decide), List.append_nil] at h5
        refine Ev.neg (by decide) ?_
        exact h5
    | false =>
      rw [if_neg (by unfold freeQ; rw [c1, Bool.false_and]; decide), List.append_nil] at h5
      refine Ev.neg (by decide) ?_
      exact h5
theorem l3Sets_ev : Ev (fun k => spec_l3Sets.f k (n : Int) e lo hi) (freeS n e lo hi) := by
  have h := l3_codes n hn e he hg lo hi (2 ^ n) 0 (Nat.sub_zero _) (Nat.zero_le _)
  unfold spec_l3Sets.f
  rw [show codesL (freeQ e lo hi) 0 = [] from rfl] at h
  simpa only [Int.natCast_zero] using h
end
end Go.Proofs.Ytadjbmcfgjmhkaa.P
namespace Go.Proofs.Ytadjbmcfgjmhkaa.P
open Go.RowKit Go.Proofs.YtadjbmcfgjmhkaaW.PrintWords Go.Proofs.YtadjbmcfgjmhkaaW.PrintLast Go.Proofs.YtadjbmcfgjmhkaaW.PrintMore
set_option linter.unusedVariables false
set_option linter.unusedSimpArgs false

theorem l3Ask_ev (a : Int) (e : List S70) (k0 : Int) (he : e.length ≤ 1048576) : Ev (fun k => spec_l3Ask.f k a e k0) (okG a e && (decide (0 ≤ k0) && decide (k0 ≤ 8))) := by
  unfold spec_l3Ask.f
  refine Ev.bind (l2Good_ev a e he) ?_
  cases h : okG a e with
  | true => exact Ev.pos rfl (Ev.bindo (in_at _ _ _) (by rw [Bool.true_and]; exact Ev.now _))
  | false => exact Ev.neg (by decide) (Ev.now _)
/-- What IndependentSets answers. -/
def indR (a : Int) (e : List S70) (k0 : Int) : List (List Int) × Bool := if (okG a e && (decide (0 ≤ k0) && decide (k0 ≤ 8))) = true then (freeS a.toNat e k0 k0, true) else ([], false)
theorem spec_ind_ev (a : Int) (e : List S70) (k0 : Int) (he : e.length ≤ 1048576) : Ev (fun k => spec_IndependentSets.f k a e k0) (indR a e k0) := by
  unfold spec_IndependentSets.f indR
  refine Ev.bind (l3Ask_ev a e k0 he) ?_
  by_cases c : (okG a e && (decide (0 ≤ k0) && decide (k0 ≤ 8))) = true
  · rw [if_pos c]
    have hg := ((Bool.and_eq_true _ _).mp c).1
    have h1 := okG_all hg
    obtain ⟨n, rfl⟩ := Int.eq_ofNat_of_zero_le h1.1
    refine Ev.pos c ?_
    rw [Int.toNat_natCast]
    exact Ev.bind (l3Sets_ev n (by omega) e he hg k0 k0) (Ev.now _)
  · rw [if_neg c]
    exact Ev.neg c (Ev.now _)
theorem indR_pos {a : Int} {e : List S70} {k0 : Int} (hg : okG a e = true) (c : (decide (0 ≤ k0) && decide (k0 ≤ 8)) = true) : indR a e k0 = (freeS a.toNat e k0 k0, true) := if_pos (by rw [hg, c]; rfl)
theorem indR_neg {a : Int} {e : List S70} {k0 : Int} (c : ¬ (okG a e && (decide (0 ≤ k0) && decide (k0 ≤ 8))) = true) : indR a e k0 = ([], false) := if_neg c
theorem impl_ind_ev (a : Int) (e : List S70) (k0 : Int) (he : e.length ≤ 1048576) : Ev (fun k => impl_IndependentSets.f k a e k0) (indR a e k0) := by
  by_cases hg : okG a e = true
  · have h1 := okG_all hg
    by_cases c : (decide (0 ≤ k0) && decide (k0 ≤ 8)) = true
    · rw [indR_pos hg c]
      obtain ⟨n, rfl⟩ := Int.eq_ofNat_of_zero_le h1.1
      unfold impl_IndependentSets.f
      refine Ev.bind (impl_IsGraph_ev _ e he) ?_
      refine Ev.pos hg ?_
      refine Ev.bindo (between_at _ _ _) ?_
      refine Ev.pos c ?_
      rw [Int.toNat_natCast]
      exact Ev.bindo (free_ev n (by omega) e he hg k0 k0) (Ev.now _)
    · rw [indR_neg (by rw [hg, Bool.true_and]; exact c)]
      unfold impl_IndependentSets.f
      refine Ev.bind (impl_IsGraph_ev _ e he) ?_
      refine Ev.pos hg ?_
      refine Ev.bindo (between_at _ _ _) ?_
      exact Ev.neg c (Ev.now _)
  · rw [indR_neg (by rw [Bool.and_eq_true]; exact fun h => hg h.1)]
    unfold impl_IndependentSets.f
    refine Ev.bind (impl_IsGraph_ev _ e he) ?_
    exact Ev.neg hg (Ev.now _)
theorem indR_len (a : Int) (e : List S70) (k0 : Int) : (indR a e k0).1.length ≤ 1048576 ∧ ∀ s ∈ (indR a e k0).1, s.length ≤ 1048576 := by
  unfold indR
  by_cases c : (okG a e && (decide (0 ≤ k0) && decide (k0 ≤ 8))) = true
  · rw [if_pos c]
    have hg := ((Bool.and_eq_true _ _).mp c).1
    have h1 := okG_all hg
    have h2 := freeS_len (n := a.toNat) (by omega) e k0 k0
    exact ⟨by show (freeS _ _ _ _).length ≤ _; omega, fun s hs => by
      have := ((freeS_mem (by omega) e k0 k0 s).1 hs).1.len
      omega⟩
  · rw [if_neg c]
    exact ⟨Nat.zero_le _, fun s hs => by cases hs⟩
theorem Both_FnExactIndependentSets (a0_0 : Int) (l0_1 : List S70) (a1 : Int) (w0_0 : (Lit.int .i64 a0_0).wf = true) (w0_1 : FitP l0_1) (w1 : (Lit.int .i64 a1).wf = true) (hn0 : l0_1.length ≤ 1048576) : ∃ (q0 : List (List Int)) (q1 : Bool), Ev (fun k => spec_IndependentSets.f k a0_0 l0_1 a1) (q0, q1) ∧ Ev (fun k => impl_IndependentSets.f k a0_0 l0_1 a1) (q0, q1) ∧ (q0.length ≤ 1048576 ∧ ∀ s ∈ q0, s.length ≤ 1048576) :=
  ⟨(indR a0_0 l0_1 a1).1, (indR a0_0 l0_1 a1).2, spec_ind_ev _ _ _ hn0, impl_ind_ev _ _ _ hn0, indR_len _ _ _⟩
end Go.Proofs.Ytadjbmcfgjmhkaa.P
namespace Go.Proofs.Ytadjbmcfgjmhkaa.P
open Go.RowKit Go.Proofs.YtadjbmcfgjmhkaaW.PrintWords Go.Proofs.YtadjbmcfgjmhkaaW.PrintLast Go.Proofs.YtadjbmcfgjmhkaaW.PrintMore
set_option linter.unusedVariables false
set_option linter.unusedSimpArgs false

def seqI : Nat → Int → List Int
  | 0, _ => []
  | n + 1, k => k :: seqI n (wrap64 (k + 1))
def endI : Nat → Int → Int
  | 0, k => k
  | n + 1, k => endI n (wrap64 (k + 1))
theorem seqI_len (n : Nat) : ∀ k, (seqI n k).length = n := by
  induction n with
  | zero => intro k; rfl
  | succ n ih => intro k; simp [seqI, ih]
theorem endI_at (n : Nat) : ∀ k, 0 ≤ k → k + (n : Int) ≤ 4611686018427387904 → endI n k = k + (n : Int) := by
  induction n with
  | zero => intro k h1 h2; simp [endI]
  | succ n ih =>
    intro k h1 h2
    have e1 : wrap64 (k + 1) = k + 1 := wrap_nat (by omega) (by omega)
    rw [endI, e1, ih (k + 1) (by omega) (by omega)]
    omega
theorem heldInt_loop (d : Nat) : ∀ (done : List Int) (c : Int), done.length + d ≤ 1048576 →
    Ev (fun k => laws_heldIntS.l0 k (done ++ seqI d c) c (done.length : Int)) (endI d c) := by
  induction d with
  | zero =>
    intro done c h1
    refine Ev.step (fun k => by rw [laws_heldIntS.l0]) ?_
    refine Ev.neg (by simp [seqI]) ?_
    exact Ev.now _
  | succ d ih =>
    intro done c h1
    refine Ev.step (fun k => by rw [laws_heldIntS.l0]) ?_
    have hlen : (done ++ seqI (d + 1) c).length = done.length + (d + 1) := by rw [List.length_append, seqI_len]
    refine Ev.pos (by rw [hlen]; omega) (Ev.pos (by omega) ?_)
    have hr : rd (done ++ seqI (d + 1) c) (done.length : Int) = c := by
      rw [rd_at _ _ (by rw [hlen]; omega)]
      simp [seqI]
    refine Ev.pos hr ?_
    have hw : wrap64 ((done.length : Int) + 1) = ((done ++ [c]).length : Int) := by
      rw [List.length_append, List.length_singleton]
      exact wrap_up (n := done.length + 1) (by omega) (by omega)
    rw [hw]
    have := ih (done ++ [c]) (wrap64 (c + 1)) (by rw [List.length_append, List.length_singleton]; omega)
    simpa only [seqI, endI, List.append_assoc, List.singleton_append] using this
theorem heldInt_ev (n : Nat) (c : Int) (hn : n ≤ 1048576) : Ev (fun k => laws_heldIntS.f k (seqI n c) c) (endI n c) := by
  unfold laws_heldIntS.f
  have := heldInt_loop n [] c (by simpa using hn)
  simpa only [List.nil_append, List.length_nil, Int.ofNat_eq_natCast, Int.natCast_zero] using this
end Go.Proofs.Ytadjbmcfgjmhkaa.P
namespace Go.Proofs.Ytadjbmcfgjmhkaa.P
open Go.RowKit Go.Proofs.YtadjbmcfgjmhkaaW.PrintWords Go.Proofs.YtadjbmcfgjmhkaaW.PrintLast Go.Proofs.YtadjbmcfgjmhkaaW.PrintMore
set_option linter.unusedVariables false
set_option linter.unusedSimpArgs false

theorem seqS_eq (n : Nat) : ∀ k, seqS n k = seqI n k := by
  induction n with
  | zero => intro k; rfl
  | succ n ih => intro k; simp only [seqS, seqI, ih]
theorem endS_eq (n : Nat) : ∀ k, endS n k = endI n k := by
  induction n with
  | zero => intro k; rfl
  | succ n ih => intro k; simp only [endS, endI, ih]
theorem markSS_fst (l : List (List Int)) : ∀ (k : Int), (∀ s ∈ l, s.length ≤ 1048576) → 0 ≤ k → k + 1048576 * (l.length : Int) ≤ 2305843009213693952 → 0 ≤ (markSS l k).1 ∧ (markSS l k).1 ≤ k + 1048576 * (l.length : Int) := by
  induction l with
  | nil => intro k _ h0 h1; simp only [markSS, List.length_nil]; omega
  | cons s t ih =>
    intro k hs h0 h1
    have h2 := hs s (.head _)
    rw [List.length_cons] at h1 ⊢
    have e1 : endS s.length k = k + (s.length : Int) := by rw [endS_eq, endI_at s.length k h0 (by omega)]
    simp only [markSS, e1]
    have := ih (k + (s.length : Int)) (fun q hq => hs q (.tail _ hq)) (by omega) (by omega)
    omega
theorem markSS_at (l : List (List Int)) (k : Int) : laws_markIntSS.f l k = some ((markSS l k).1, (markSS l k).2) := rfl
theorem markSS_pos (l : List (List Int)) (h0 : l.length ≤ 1048576) (h : ∀ s ∈ l, s.length ≤ 1048576) : ¬ (markSS l 1).1 < 0 := by
  have h1 := markSS_fst l 1 h (by omega) (by omega)
  omega
theorem markGraph_ex (a : Int) (l : List S70) (h : l.length ≤ 1048576) : ∃ k b, laws_markGraph.f a l 1 = some (k, b) ∧ ¬ k < 0 ∧ k ≤ 2251799813685248 := ⟨_, _, markGraph_at a l 1, mark1_pos l h, by rw [mark2_fst l 1 (by omega) (by omega)]; omega⟩
theorem heldSS_loop (done : List (List Int)) : ∀ (t : List (List Int)) (k : Int), (∀ s ∈ t, s.length ≤ 1048576) → 0 ≤ k → k + 1048576 * (t.length : Int) ≤ 2305843009213693952 → done.length + t.length ≤ 1048576 → Ev (fun n => laws_heldIntSS.l0 n (done ++ (markSS t k).2) k (done.length : Int)) (markSS t k).1 := by
  intro t
  induction t generalizing done with
  | nil =>
    intro k _ h0 h1 h2
    refine Ev.step (fun n => by rw [laws_heldIntSS.l0]) (Ev.neg (by simp [markSS]) ?_)
    exact Ev.now _
  | cons s t ih =>
    intro k hs h0 h1 h2
    have h3 := hs s (.head _)
    rw [List.length_cons] at h1 h2
    have e1 : endS s.length k = k + (s.length : Int) := by rw [endS_eq, endI_at s.length k h0 (by omega)]
    simp only [markSS, e1]
    have hlen : done.length < (done ++ seqS s.length k :: (markSS t (k + (s.length : Int))).2).length := by simp
    refine Ev.step (fun n => by rw [laws_heldIntSS.l0]) (Ev.pos (by omega) (Ev.pos (by omega) ?_))
    rw [rdL_at _ done.length hlen, List.getElem_append_right (Nat.le_refl _)]
    simp only [Nat.sub_self, List.getElem_cons_zero]
    have hh := heldInt_ev s.length k h3
    rw [← seqS_eq, ← endS_eq, e1] at hh
    refine Ev.bind hh (Ev.neg (by omega) ?_)
    have := ih (done ++ [seqS s.length k]) (k + (s.length : Int)) (fun q hq => hs q (.tail _ hq)) (by omega) (by omega) (by simp; omega)
    rw [List.append_assoc, List.singleton_append] at this
    have ew : wrap64 ((done.length : Int) + 1) = ((done ++ [seqS s.length k]).length : Int) := by
      rw [List.length_append, List.length_singleton]; unfold wrap64; omega
    rw [ew]
    exact this
theorem heldSS_ev (t : List (List Int)) (h : ∀ s ∈ t, s.length ≤ 1048576) (hl : t.length ≤ 1048576) : Ev (fun n => laws_heldIntSS.f n (markSS t 1).2 1) (markSS t 1).1 := by
  have := heldSS_loop [] t 1 h (by omega) (by omega) (by simpa using hl)
  simpa [laws_heldIntSS.f] using this
theorem markSS_held (l : List (List Int)) (h : l.length ≤ 1048576 ∧ ∀ s ∈ l, s.length ≤ 1048576) : ∃ k b, laws_markIntSS.f l 1 = some (k, b) ∧ ∃ m, laws_heldIntSS.f m b 1 = some k ∧ ¬ k < 0 := by
  obtain ⟨m, hm⟩ := Ev.rounds (heldSS_ev l h.2 h.1)
  exact ⟨_, _, markSS_at l 1, m, hm, markSS_pos l h.1 h.2⟩
end Go.Proofs.Ytadjbmcfgjmhkaa.P
namespace Go.Proofs.Ytadjbmcfgjmhkaa.P
open Go.RowKit Go.Proofs.YtadjbmcfgjmhkaaW.PrintWords Go.Proofs.YtadjbmcfgjmhkaaW.PrintLast Go.Proofs.YtadjbmcfgjmhkaaW.PrintMore
set_option linter.unusedVariables false
set_option maxHeartbeats 1000000 in
theorem Law_FnExactIndependentSets (a0_0 : Int) (A0_1 : Option Addr) (ca0_1 : Nat) (l0_1 : List (S70)) (a1 : Int) (w : World) (hr0_1 : Kd.C k70 w A0_1 l0_1.length l0_1) (hc0_1 : l0_1.length ≤ ca0_1) (w0_0 : (Lit.int .i64 a0_0).wf = true) (w0_1 : FitP l0_1) (w1 : (Lit.int .i64 a1).wf = true) :
    Calls Try.prog 4 #[.agg #[.int .i64 a0_0, .slice A0_1 l0_1.length ca0_1], .int .i64 a1] w fun e w' => e = .returned (.bool true) ∧ Below w.heap.size w w' := by
  obtain ⟨t0, h0, m0⟩ := sz_graph a0_0 l0_1 w0_1.1
  by_cases c0 : t0 < 0
  · exact laws_FnExactIndependentSets.exit0 a0_0 A0_1 ca0_1 l0_1 a1 t0 w hr0_1 hc0_1 c0 h0
  have hn0 := m0.resolve_left c0
  obtain ⟨q0, q1, es, ei, hb1⟩ := Both_FnExactIndependentSets a0_0 l0_1 a1 w0_0 w0_1 w1 hn0
  obtain ⟨k1, h1⟩ := Ev.rounds (toGraph_ev a0_0 l0_1 hn0)
  obtain ⟨k2, h2⟩ := Ev.rounds (es)
  obtain ⟨k3, h3⟩ := Ev.rounds (ei)
  obtain ⟨k4, h4⟩ := Ev.rounds (eqIntSS_ev q0 hb1.1 hb1.2)
  obtain ⟨k5, h5⟩ := Ev.rounds (eqGraph_ev a0_0 l0_1 hn0)
  obtain ⟨kk0, mk0_0, h6, nkk0, pkk0⟩ := markGraph_ex a0_0 l0_1 hn0
  obtain ⟨kk1, mk1_0, h7, k8, h8, nkk1⟩ := markSS_held q0 hb1
  exact laws_FnExactIndependentSets.walk a0_0 A0_1 ca0_1 l0_1 a1 k1 k2 k3 k4 k5 k8 t0 q0 q1 kk0 mk0_0 kk1 mk1_0 w hr0_1 hc0_1 c0 h0 h1 h2 h3 h4 h5 h6 h7 h8 nkk0 nkk1
end Go.Proofs.Ytadjbmcfgjmhkaa.P
