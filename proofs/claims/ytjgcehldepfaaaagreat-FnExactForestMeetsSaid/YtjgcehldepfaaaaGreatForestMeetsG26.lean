/- The parts of places, as both sides count them: classes of what can be reached past what is left out. -/
import Derived.Test.YtjgcehldepfaaaaGreatForestMeetsG25
namespace Go.Proofs.YtjgcehldepfaaaaGreat.P
open Go.RowKit YtjgcehldepfaaaaGreatW.PrintWords Go.Proofs.YtjgcehldepfaaaaGreatW.PrintLast Go.Proofs.YtjgcehldepfaaaaGreatW.PrintMore
set_option linter.unusedVariables false
set_option linter.unusedSimpArgs false
section
variable {z : List (List Int)} (hn : z.length ≤ 1048576)
include hn
theorem tE {row : List Int} (hrow : ∀ j ∈ row, 0 ≤ j ∧ j < (z.length : Int)) (hrl : row.length ≤ 1048576) (out : List (List Int)) (kk i N : Int) (d : Nat) :
  ∀ (m : Nat) (seen : List Bool) (part : List Int), row.length - m = d → m ≤ row.length → seen.length = z.length → free seen + part.length ≤ 1048577 → part.Nodup → (∀ q ∈ part, aV false seen q = true ∧ 0 ≤ q ∧ q < (z.length : Int)) →
  ∃ (seen' : List Bool) (new : List Int), seen'.length = z.length ∧ free seen' + (part ++ new).length = free seen + part.length ∧ (part ++ new).Nodup ∧ (∀ k, aV false seen k = true → aV false seen' k = true) ∧
    (∀ j ∈ row.drop m, aV false seen' j = true) ∧ (∀ j ∈ new, j ∈ row ∧ aV false seen' j = true ∧ aV false seen j = false) ∧ (∀ k, 0 ≤ k → k < (z.length : Int) → aV false seen' k = true → aV false seen k = true ∨ k ∈ new) ∧
    (∀ R, Ev (fun k => dd k z out seen' (part ++ new) (wrap64 (kk + 1)) N i) R → Ev (fun k => cR k z out seen part kk N i row (row.length : Int) (m : Int)) R) := by
 have _hu := hn
 induction d with
 | zero =>
  intro m seen part h0 h1 h2 h3 h4 h5
  refine ⟨seen, [], h2, by simp, by simpa using h4, fun _ hk => hk, fun j hj => ?_, (fun j hj => by cases hj), fun k _ _ hk => .inl hk, fun R hR => ?_⟩
  · rw [List.drop_eq_nil_of_le (by omega)] at hj; cases hj
  · rw [List.append_nil] at hR
    refine Ev.step (fun k => by rw [cR]) ?_
    refine Ev.neg (by omega) ?_
    exact hR
 | succ d ih =>
  intro m seen part h0 h1 h2 h3 h4 h5
  have hm : m < row.length := by omega
  have hj := hrow row[m] (List.getElem_mem hm)
  have hjl : row[m].toNat < seen.length := by omega
  cases c : aV false seen row[m] with
  | true =>
    obtain ⟨seen', new, a1, a2, a3, a4, a5, a6, a7, a8⟩ := ih (m + 1) seen part (by omega) (by omega) h2 h3 h4 h5
    refine ⟨seen', new, a1, a2, a3, a4, fun j hj' => ?_, a6, a7, fun R hR => ?_⟩
    · rw [List.drop_eq_getElem_cons hm] at hj'
      rcases List.mem_cons.1 hj' with rfl | hj'
      · exact a4 _ c
      · exact a5 j hj'
    · have := a8 R hR
      rw [← aJ hm (by omega)] at this
      refine Ev.step (fun k => by rw [cR]) ?_
      refine Ev.pos (by omega) ?_
      refine Ev.pos (by omega) ?_
      refine Ev.pos (by omega) ?_
      rw [aM row m hm]
      refine Ev.pos hj.1 ?_
      refine Ev.pos (by omega) ?_
      refine Ev.pos c ?_
      exact this
  | false =>
    have hrs : ∀ k, aV false (seen.set row[m].toNat true) k = if k.toNat = row[m].toNat then true else aV false seen k := fun k => mc seen row[m] k true hjl
    have hfr := nt seen row[m] hjl c
    have hnot : row[m] ∉ part := fun hq => by have := (h5 _ hq).1; rw [c] at this; cases this
    obtain ⟨seen', new, a1, a2, a3, a4, a5, a6, a7, a8⟩ := ih (m + 1) (seen.set row[m].toNat true) (part ++ [row[m]]) (by omega) (by omega) (by rw [List.length_set, h2]) (by rw [List.length_append, List.length_singleton]; omega)
      (by rw [List.nodup_append]; exact ⟨h4, by simp, fun a ha b hb => by rw [show b = row[m] by simpa using hb]; exact fun e => hnot (e ▸ ha)⟩)
      (fun q hq => by
        rcases List.mem_append.1 hq with hq | hq
        · have := h5 q hq; exact ⟨by rw [hrs]; split <;> simp [this.1], this.2⟩
        · rw [show q = row[m] by simpa using hq]; exact ⟨by rw [hrs, if_pos rfl], hj⟩)
    have hself : aV false seen' row[m] = true := a4 _ (by rw [hrs, if_pos rfl])
    have hap : part ++ row[m] :: new = (part ++ [row[m]]) ++ new := by simp
    refine ⟨seen', row[m] :: new, a1, ?_, ?_, fun k hk => a4 k (by rw [hrs]; split <;> simp [hk]), fun j hj' => ?_, fun j hj' => ?_, fun k hk0 hk1 hk => ?_, fun R hR => ?_⟩
    · rw [hap, a2, List.length_append, List.length_singleton]; omega
    · rw [hap]; exact a3
    · rw [List.drop_eq_getElem_cons hm] at hj'
      rcases List.mem_cons.1 hj' with rfl | hj'
      · exact hself
      · exact a5 j hj'
    · rcases List.mem_cons.1 hj' with rfl | hj'
      · exact ⟨List.getElem_mem hm, hself, c⟩
      · refine ⟨(a6 j hj').1, (a6 j hj').2.1, ?_⟩
        have hq := (a6 j hj').2.2
        rw [hrs] at hq
        by_cases ck : j.toNat = row[m].toNat
        · rw [if_pos ck] at hq; cases hq
        · rwa [if_neg ck] at hq
    · rcases a7 k hk0 hk1 hk with h' | h'
      · rw [hrs] at h'
        by_cases ck : k.toNat = row[m].toNat
        · right; rw [show k = row[m] by omega]; exact .head _
        · rw [if_neg ck] at h'; exact .inl h'
      · exact .inr (.tail _ h')
    · rw [hap] at hR
      have := a8 R hR
      rw [← aJ hm (by omega)] at this
      refine Ev.step (fun k => by rw [cR]) ?_
      refine Ev.pos (by omega) ?_
      refine Ev.pos (by omega) ?_
      refine Ev.pos (by omega) ?_
      rw [aM row m hm]
      refine Ev.pos hj.1 ?_
      refine Ev.pos (by omega) ?_
      refine Ev.neg (by rw [c]; decide) ?_
      refine Ev.pos (by omega) ?_
      exact this
variable (hz : cH z) (hr : ∀ i, (ai z i).length ≤ 1048576)
include hz hr
theorem tD (out : List (List Int)) (ho : out.length ≤ 1048576) (s i N : Int) (seen0 : Int → Prop) (u : Nat) : ∀ (seen : List Bool) (part : List Int) (h : Nat), free seen + (part.length - h) = u → h ≤ part.length → seen.length = z.length → free seen + part.length ≤ 1048577 → part.Nodup →
  (∀ q ∈ part, aV false seen q = true ∧ 0 ≤ q ∧ q < (z.length : Int)) → (∀ k, 0 ≤ k → k < (z.length : Int) → (aV false seen k = true ↔ seen0 k ∨ k ∈ part)) → (∀ q ∈ part.take h, ∀ j ∈ ai z q, aV false seen j = true) → (∀ P : Int → Prop, (∀ a, 0 ≤ a → a < (z.length : Int) → P a → ∀ j ∈ ai z a, ¬ seen0 j → P j) → P s → ∀ q ∈ part, P q) → s ∈ part →
  ∃ (seen' : List Bool) (part' : List Int), seen'.length = z.length ∧ part'.Nodup ∧ (∀ q ∈ part', 0 ≤ q ∧ q < (z.length : Int)) ∧ s ∈ part' ∧ (∀ k, 0 ≤ k → k < (z.length : Int) → (aV false seen' k = true ↔ seen0 k ∨ k ∈ part')) ∧
    (∀ q ∈ part', ∀ j ∈ ai z q, seen0 j ∨ j ∈ part') ∧ (∀ P : Int → Prop, (∀ a, 0 ≤ a → a < (z.length : Int) → P a → ∀ j ∈ ai z a, ¬ seen0 j → P j) → P s → ∀ q ∈ part', P q) ∧
    (∀ R, Ev (fun k => de k z (out ++ [cN part']) seen' N (wrap64 (i + 1))) R → Ev (fun k => dd k z out seen part (h : Int) N i) R) := by
 induction u with
 | zero =>
  intro seen part h h0 h1 h2 h3 h4 h5 h6 h7 h8 h9
  refine ⟨seen, part, h2, h4, fun q hq => (h5 q hq).2, h9, h6, fun q hq j hj => ?_, h8, fun R hR => ?_⟩
  · have hq' := h7 q (by rw [List.take_of_length_le (by omega)]; exact hq) j hj
    have hb := hz q (h5 q hq).2.1 (h5 q hq).2.2 j hj
    exact (h6 j hb.1 hb.2).1 hq'
  · refine Ev.step (fun k => by rw [dd]) ?_
    refine Ev.neg (by omega) ?_
    refine Ev.bindo (by unfold eB; rw [if_pos (by omega)]) ?_
    refine Ev.pos (by omega) ?_
    exact hR
 | succ u ih =>
  intro seen part h h0 h1 h2 h3 h4 h5 h6 h7 h8 h9
  by_cases ce : h = part.length
  · refine ⟨seen, part, h2, h4, fun q hq => (h5 q hq).2, h9, h6, fun q hq j hj => ?_, h8, fun R hR => ?_⟩
    · have hq' := h7 q (by rw [List.take_of_length_le (by omega)]; exact hq) j hj
      have hb := hz q (h5 q hq).2.1 (h5 q hq).2.2 j hj
      exact (h6 j hb.1 hb.2).1 hq'
    · refine Ev.step (fun k => by rw [dd]) ?_
      refine Ev.neg (by omega) ?_
      refine Ev.bindo (by unfold eB; rw [if_pos (by omega)]) ?_
      refine Ev.pos (by omega) ?_
      exact hR
  have hh : h < part.length := by omega
  obtain ⟨q2, q0, q1⟩ := h5 part[h] (List.getElem_mem hh)
  have hrow := hz part[h] q0 q1
  obtain ⟨seen', new, a1, a2, a3, a4, a5, a6, a7, a8⟩ := tE hn hrow (hr _) out (h : Int) i N ((ai z part[h]).length - 0) 0 seen part rfl (Nat.zero_le _) h2 h3 h4 h5
  rw [List.drop_zero] at a5
  simp only [Int.natCast_zero] at a8
  obtain ⟨S', p', b1, b2, b3, b4, b5, b6, b7, b8⟩ := ih seen' (part ++ new) (h + 1) (by rw [List.length_append] at a2 ⊢; omega) (by rw [List.length_append]; omega) a1 (by omega) a3
    (fun q hq => by
      rcases List.mem_append.1 hq with hq | hq
      · exact ⟨a4 q (h5 q hq).1, (h5 q hq).2⟩
      · exact ⟨(a6 q hq).2.1, hrow q (a6 q hq).1⟩)
    (fun k hk0 hk1 => by
      constructor
      · intro hk
        rcases a7 k hk0 hk1 hk with h' | h'
        · rcases (h6 k hk0 hk1).1 h' with h' | h'
          · exact .inl h'
          · exact .inr (List.mem_append_left _ h')
        · exact .inr (List.mem_append_right _ h')
      · intro hk
        rcases hk with hk | hk
        · exact a4 k ((h6 k hk0 hk1).2 (.inl hk))
        · rcases List.mem_append.1 hk with hk | hk
          · exact a4 k (h5 k hk).1
          · exact (a6 k hk).2.1)
    (fun q hq j hj => by
      rw [List.take_append_of_le_length (by omega), List.take_add_one, List.getElem?_eq_getElem hh] at hq
      rcases List.mem_append.1 hq with hq | hq
      · exact a4 j (h7 q hq j hj)
      · rw [show q = part[h] by simpa using hq] at hj; exact a5 j hj)
    (fun P hP hs q hq => by
      rcases List.mem_append.1 hq with hq | hq
      · exact h8 P hP hs q hq
      · refine hP part[h] q0 q1 (h8 P hP hs _ (List.getElem_mem hh)) q (a6 q hq).1 (fun h0' => ?_)
        have hb := hrow q (a6 q hq).1
        have := (h6 q hb.1 hb.2).2 (.inl h0')
        rw [(a6 q hq).2.2] at this
        cases this)
    (List.mem_append_left _ h9)
  refine ⟨S', p', b1, b2, b3, b4, b5, b6, b7, fun R hR => ?_⟩
  have hwh : wrap64 ((h : Int) + 1) = ((h + 1 : Nat) : Int) := aJ hh (by omega)
  have e1 := b8 R hR
  rw [← hwh] at e1
  clear hwh
  have e2 := a8 R e1
  refine Ev.step (fun k => by rw [dd]) ?_
  refine Ev.pos (by omega) ?_
  refine Ev.pos (by omega) ?_
  rw [aM part h hh]
  refine Ev.pos q0 ?_
  refine Ev.pos q1 ?_
  exact e2
end
def bn (z : List (List Int)) (out : Int → Prop) (i j : Int) : Prop := ∀ P : Int → Prop, (∀ a, 0 ≤ a → a < (z.length : Int) → P a → ∀ b ∈ ai z a, ¬ out b → P b) → P i → P j
theorem eD {z : List (List Int)} {o : Int → Prop} (i : Int) : bn z o i i := fun _ _ h => h
theorem gx {z : List (List Int)} {o : Int → Prop} {i j k : Int} (h1 : bn z o i j) (h2 : bn z o j k) : bn z o i k := fun P hP h => h2 P hP (h1 P hP h)
theorem fg {z : List (List Int)} {o : Int → Prop} {i j k : Int} (h1 : bn z o i j) (h0 : 0 ≤ j) (hj : j < (z.length : Int)) (hk : k ∈ ai z j) (ho : ¬ o k) : bn z o i k := fun P hP h => hP j h0 hj (h1 P hP h) k hk ho
theorem ja {z : List (List Int)} {o : Int → Prop} (hz : cH z) {i j : Int} (h0 : 0 ≤ i) (h1 : i < (z.length : Int)) (hi : ¬ o i) (h : bn z o i j) : (0 ≤ j ∧ j < (z.length : Int)) ∧ ¬ o j :=
 h (fun k => (0 ≤ k ∧ k < (z.length : Int)) ∧ ¬ o k) (fun a a0 a1 _ b hb ho => ⟨hz a a0 a1 b hb, ho⟩) ⟨⟨h0, h1⟩, hi⟩
theorem l6 {z : List (List Int)} {o : Int → Prop} (hz : cH z) (hs : eQ z) {i j : Int} (h0 : 0 ≤ i) (h1 : i < (z.length : Int)) (hi : ¬ o i) (h : bn z o i j) : bn z o j i := by
 have key := h (fun k => ((0 ≤ k ∧ k < (z.length : Int)) ∧ ¬ o k) ∧ bn z o k i) (fun a a0 a1 ha b hb ho => by
  have hbr := hz a a0 a1 b hb
  refine ⟨⟨hbr, ho⟩, ?_⟩
  have hab : a ∈ ai z b := hs a b a0 a1 hbr.1 hbr.2 hb
  exact gx (fg (eD b) hbr.1 hbr.2 hab ha.1.2) ha.2) ⟨⟨⟨h0, h1⟩, hi⟩, eD i⟩
 exact key.2
open Classical in
noncomputable def bo (z : List (List Int)) (o : Int → Prop) (i : Int) : List Int := ((List.range z.length).filter (fun (k : Nat) => decide (bn z o i (k : Int)))).map (fun (k : Nat) => (k : Int))
open Classical in
theorem ed (z : List (List Int)) (o : Int → Prop) (i x : Int) : x ∈ bo z o i ↔ (0 ≤ x ∧ x < (z.length : Int)) ∧ bn z o i x := by
 unfold bo
 rw [List.mem_map]
 constructor
 · rintro ⟨k, hk, rfl⟩
   rw [List.mem_filter, List.mem_range, decide_eq_true_eq] at hk
   exact ⟨by omega, hk.2⟩
 · rintro ⟨h0, h1⟩
   refine ⟨x.toNat, ?_, by omega⟩
   rw [List.mem_filter, List.mem_range, decide_eq_true_eq]
   refine ⟨by omega, ?_⟩
   rw [show ((x.toNat : Nat) : Int) = x by omega]
   exact h1
open Classical in
theorem gU (z : List (List Int)) (o : Int → Prop) (i : Int) : (bo z o i).Pairwise (· < ·) := by
 unfold bo
 rw [List.pairwise_map]
 refine List.Pairwise.imp ?_ (List.Pairwise.sublist List.filter_sublist List.pairwise_lt_range)
 intro a b h
 omega
def bO (z : List (List Int)) (o : Int → Prop) (i : Nat) : Prop := ¬ o (i : Int) ∧ ∀ i' : Nat, i' < i → ¬ o (i' : Int) → ¬ bn z o (i' : Int) (i : Int)
open Classical in
noncomputable def bF (z : List (List Int)) (o : Int → Prop) : Nat → Nat → List Nat
 | 0, _ => []
 | d + 1, m => (if bO z o m then [m] else []) ++ bF z o d (m + 1)
section
variable {z : List (List Int)} (hn : z.length ≤ 1048576) (hz : cH z) (hr : ∀ i, (ai z i).length ≤ 1048576) (hs : eQ z) (o : Int → Prop)
include hn hz hr hs
theorem qm (d : Nat) : ∀ (m : Nat) (out : List (List Int)) (seen : List Bool), z.length - m = d → m ≤ z.length → out.length ≤ m → seen.length = z.length →
  (∀ k, 0 ≤ k → k < (z.length : Int) → (aV false seen k = true ↔ o k ∨ ∃ i' : Nat, i' < m ∧ ¬ o (i' : Int) ∧ bn z o (i' : Int) k)) →
  Ev (fun k => de k z out seen (z.length : Int) (m : Int)) (out ++ (bF z o d m).map (fun (i : Nat) => bo z o (i : Int))) := by
 induction d with
 | zero =>
  intro m out seen h0 h1 h2 h3 h4
  rw [bF, List.map_nil, List.append_nil]
  exact Ev.step (fun k => by rw [de]) (Ev.neg (by omega) (Ev.now _))
 | succ d ih =>
  intro m out seen h0 h1 h2 h3 h4
  have hm : m < z.length := by omega
  have hml : ((m : Int)).toNat < seen.length := by omega
  rw [bF]
  cases c : aV false seen (m : Int) with
  | true =>
   have hrep : ¬ bO z o m := by
    intro hq
    rcases (h4 (m : Int) (by omega) (by omega)).1 c with q | ⟨i', q1, q2, q3⟩
    · exact hq.1 q
    · exact hq.2 i' q1 q2 q3
   rw [if_neg hrep, List.nil_append]
   have a1 := ih (m + 1) out seen (by omega) (by omega) (by omega) h3 (fun k hk0 hk1 => by
    rw [h4 k hk0 hk1]
    constructor
    · rintro (q | ⟨i', q1, q2, q3⟩)
      · exact .inl q
      · exact .inr ⟨i', by omega, q2, q3⟩
    · rintro (q | ⟨i', q1, q2, q3⟩)
      · exact .inl q
      · by_cases e : i' = m
        · subst e
          rcases (h4 (i' : Int) (by omega) (by omega)).1 c with p | ⟨i2, p1, p2, p3⟩
          · exact absurd p q2
          · exact .inr ⟨i2, p1, p2, gx p3 q3⟩
        · exact .inr ⟨i', by omega, q2, q3⟩)
   rw [← aJ hm (by omega)] at a1
   exact Ev.step (fun k => by rw [de]) (Ev.pos (by omega) (Ev.pos (by omega) (Ev.pos (by omega) (Ev.pos c a1))))
  | false =>
   have hno : ¬ o (m : Int) ∧ ∀ i' : Nat, i' < m → ¬ o (i' : Int) → ¬ bn z o (i' : Int) (m : Int) := by
    constructor
    · intro q
      have := (h4 (m : Int) (by omega) (by omega)).2 (.inl q)
      rw [c] at this; cases this
    · intro i' q1 q2 q3
      have := (h4 (m : Int) (by omega) (by omega)).2 (.inr ⟨i', q1, q2, q3⟩)
      rw [c] at this; cases this
   rw [if_pos (show bO z o m from hno)]
   have hrs : ∀ k, aV false (seen.set ((m : Int)).toNat true) k = if k.toNat = ((m : Int)).toNat then true else aV false seen k := fun k => mc seen (m : Int) k true hml
   have hfr := nt seen (m : Int) hml c
   have hfl : free seen ≤ z.length := by have := List.countP_le_length (p := fun x => !x) (l := seen); unfold free; omega
   obtain ⟨seen', part', p1, p2, p3, p4, p5, p6, p7, p8⟩ := tD hn hz hr out (by omega) (m : Int) (m : Int) (z.length : Int) (fun k => aV false seen k = true) _ (seen.set ((m : Int)).toNat true) [(m : Int)] 0 rfl (Nat.zero_le _) (by rw [List.length_set, h3]) (by rw [List.length_singleton]; omega) (by simp)
    (fun q hq => by rw [show q = (m : Int) by simpa using hq]; exact ⟨by rw [hrs, if_pos rfl], by omega, by omega⟩)
    (fun k hk0 hk1 => by
      rw [hrs]
      by_cases ck : k.toNat = ((m : Int)).toNat
      · rw [if_pos ck]; exact ⟨fun _ => .inr (by rw [show k = (m : Int) by omega]; exact .head _), fun _ => rfl⟩
      · rw [if_neg ck]
        exact ⟨fun h => .inl h, fun h => h.elim id fun h => absurd (show k.toNat = ((m : Int)).toNat by rw [show k = (m : Int) by simpa using h]) ck⟩)
    (fun q hq => by simp at hq) (fun P hP hs' q hq => by rw [show q = (m : Int) by simpa using hq]; exact hs') (.head _)
   simp only [Int.natCast_zero] at p8
   have hsub : ∀ q ∈ part', bn z o (m : Int) q := fun q hq => p7 (fun k => bn z o (m : Int) k) (fun a a0 a1 ha j hj hns => by
    have hb := hz a a0 a1 j hj
    exact fg ha a0 a1 hj (fun ho => hns ((h4 j hb.1 hb.2).2 (.inl ho)))) (eD _) q hq
   have hsup : ∀ k, bn z o (m : Int) k → k ∈ part' := fun k hk => by
    have := hk (fun k => k ∈ part') (fun a a0 a1 ha j hj ho => by
      rcases p6 a ha j hj with q | q
      · have hb := hz a a0 a1 j hj
        rcases (h4 j hb.1 hb.2).1 q with q | ⟨i', q1, q2, q3⟩
        · exact absurd q ho
        · have ha2 := hsub a ha
          have hio := ja hz (by omega) (by omega) hno.1 ha2
          have e1 : a ∈ ai z j := hs a j a0 a1 hb.1 hb.2 hj
          have e2 : bn z o (i' : Int) a := fg q3 hb.1 hb.2 e1 hio.2
          have e3 : bn z o a (m : Int) := l6 hz hs (by omega) (by omega) hno.1 ha2
          exact absurd (gx e2 e3) (hno.2 i' q1 q2)
      · exact q) p4
    exact this
   have hpart : cN part' = bo z o (m : Int) := by
    refine fy (pd p2) (gU _ _ _) fun x => ?_
    rw [pf, ed]
    exact ⟨fun hx => ⟨p3 x hx, hsub x hx⟩, fun hx => hsup x hx.2⟩
   have a1 := ih (m + 1) (out ++ [cN part']) seen' (by omega) (by omega) (by simp; omega) p1 (fun k hk0 hk1 => by
    rw [p5 k hk0 hk1]
    constructor
    · rintro (q | q)
      · rcases (h4 k hk0 hk1).1 q with q | ⟨i', q1, q2, q3⟩
        · exact .inl q
        · exact .inr ⟨i', by omega, q2, q3⟩
      · exact .inr ⟨m, by omega, hno.1, hsub k q⟩
    · rintro (q | ⟨i', q1, q2, q3⟩)
      · exact .inl ((h4 k hk0 hk1).2 (.inl q))
      · by_cases e : i' = m
        · subst e; exact .inr (hsup k q3)
        · exact .inl ((h4 k hk0 hk1).2 (.inr ⟨i', by omega, q2, q3⟩)))
   have e1 : out ++ ([m] ++ bF z o d (m + 1)).map (fun (i : Nat) => bo z o (i : Int)) = (out ++ [cN part']) ++ (bF z o d (m + 1)).map (fun (i : Nat) => bo z o (i : Int)) := by
    rw [hpart]; simp
   rw [e1]
   rw [← aJ hm (by omega)] at a1
   have a2 := p8 _ a1
   refine Ev.step (fun k => by rw [de]) ?_
   refine Ev.pos (by omega) (Ev.pos (by omega) (Ev.pos (by omega) (Ev.neg (by rw [c]; decide) ?_)))
   exact a2
end
open Classical in
theorem cX (z : List (List Int)) (o : Int → Prop) : ∀ (d m : Nat), bF z o d m = (List.range' m d).filter (fun i => decide (bO z o i))
 | 0, m => rfl
 | d + 1, m => by
  rw [bF, List.range'_succ, List.filter_cons, cX z o d (m + 1)]
  by_cases h : bO z o m
  · rw [if_pos h, if_pos (af h)]; rfl
  · rw [if_neg h, if_neg (by simpa using h)]; rfl
theorem qY {p : Nat → Prop} {n : Nat} (h : p n) : ∃ m, m ≤ n ∧ p m ∧ ∀ i, i < m → ¬ p i := by
 induction n using Nat.strongRecOn with
 | ind n ih =>
  by_cases c : ∃ i, i < n ∧ p i
  · obtain ⟨i, hi, hp⟩ := c
    obtain ⟨m, h1, h2, h3⟩ := ih i hi hp
    exact ⟨m, by omega, h2, h3⟩
  · exact ⟨n, ar n, h, fun i hi hp => c ⟨i, hi, hp⟩⟩
section
variable {z : List (List Int)} (hz : cH z) (hs : eQ z) (w : Nat) (hw : w < z.length)
include hz hs hw
end
def bc (l : List S63) (x : Int) : Nat → Int → List Int
 | 0, _ => []
 | d + 1, y => (if aW l x y = true then [y] else []) ++ bc l x d (y + 1)
theorem fJ (l : List S63) (x : Int) (d : Nat) : ∀ y, (bc l x d y).length ≤ d := by
 induction d with
 | zero => intro y; simp [bc]
 | succ d ih =>
  intro y
  have := ih (y + 1)
  simp only [bc, List.length_append]
  split <;> simp only [List.length_nil, List.length_cons] <;> omega
theorem sn (l : List S63) (x : Int) (hu : ∀ e ∈ l, e.f0 < e.f1) : aW l x x = false := by
 unfold aW
 rw [List.any_eq_false]
 intro e he
 have := hu e he
 simp only [Bool.or_eq_true, Bool.and_eq_true, decide_eq_true_eq]
 omega
section
variable (a : Int) (l : List S63) (hl : l.length ≤ 1048576) (h8 : a ≤ 8) (x : Int)
include hl h8
theorem pA (d : Nat) : ∀ (y : Int) (acc : List Int), (a - y).toNat = d → 0 ≤ y → acc.length + d ≤ 1000 →
  Ev (fun k => dB k x acc y a l) (acc ++ bc l x d y) := by
 induction d with
 | zero =>
  intro y acc h0 h1 h2
  refine Ev.step (fun k => by rw [dB]) (Ev.neg (by omega) ?_)
  simp only [bc, List.append_nil]
  exact Ev.now _
 | succ d ih =>
  intro y acc h0 h1 h2
  refine Ev.step (fun k => by rw [dB]) (Ev.pos (by omega) (Ev.bind (jg a l x y hl) ?_))
  have hw : wrap64 (y + 1) = y + 1 := cL (by omega) (by omega)
  rw [hw, bc]
  by_cases c : aW l x y = true
  · refine Ev.pos c (Ev.pos (by omega) ?_)
    rw [if_pos c, ← List.append_assoc]
    exact ih (y + 1) _ (by omega) (by omega) (by rw [List.length_append, List.length_singleton]; omega)
  · rw [if_neg c, List.nil_append]
    exact Ev.neg c (ih (y + 1) acc (by omega) (by omega) (by omega))
variable (hu : ∀ e ∈ l, e.f0 < e.f1)
include hu
theorem sh (d : Nat) : ∀ (y : Int) (acc : List Int), (a - y).toNat = d → 0 ≤ y → acc.length + d ≤ 1000 →
  Ev (fun k => dr k x acc a y a l) (acc ++ bc l x d y) := by
 induction d with
 | zero =>
  intro y acc h0 h1 h2
  refine Ev.step (fun k => by rw [dr]) (Ev.neg (by omega) ?_)
  simp only [bc, List.append_nil]
  exact Ev.now _
 | succ d ih =>
  intro y acc h0 h1 h2
  refine Ev.step (fun k => by rw [dr]) (Ev.pos (by omega) ?_)
  have hw : wrap64 (y + 1) = y + 1 := cL (by omega) (by omega)
  rw [hw, bc]
  by_cases cx : y = x
  · have c : ¬ aW l x y = true := by rw [cx, sn l x hu]; decide
    rw [if_neg c, List.nil_append]
    exact Ev.pos cx (ih (y + 1) acc (by omega) (by omega) (by omega))
  · refine Ev.neg cx (Ev.bind (nm a l x y hl hu) ?_)
    by_cases c : aW l x y = true
    · refine Ev.pos c (Ev.pos (by omega) ?_)
      rw [if_pos c, ← List.append_assoc]
      exact ih (y + 1) _ (by omega) (by omega) (by rw [List.length_append, List.length_singleton]; omega)
    · rw [if_neg c, List.nil_append]
      exact Ev.neg c (ih (y + 1) acc (by omega) (by omega) (by omega))
end
theorem ki (a : Int) (l : List S63) (x : Int) (hl : l.length ≤ 1048576) (h8 : a ≤ 8) : Ev (fun k => fE k a l x) (bc l x a.toNat 0) := by
 unfold fE
 have := pA a l hl h8 x a.toNat 0 [] (by omega) (by omega) (by simp; omega)
 simpa only [List.nil_append] using this
theorem mA (a : Int) (l : List S63) (x : Int) (hl : l.length ≤ 1048576) (h8 : a ≤ 8) (hu : ∀ e ∈ l, e.f0 < e.f1) : Ev (fun k => gP k a l x) (bc l x a.toNat 0) := by
 unfold gP
 have := sh a l hl h8 x hu a.toNat 0 [] (by omega) (by omega) (by simp; omega)
 simpa only [List.nil_append] using this
theorem py (x y : List Int) (hx : x.length ≤ 1048576) (hxy : x.length = y.length) (d : Nat) : ∀ (m : Nat), x.length - m = d → m ≤ x.length → Ev (fun k => eY k x y (m : Int)) (decide (x.drop m = y.drop m)) := by
 induction d with
 | zero =>
  intro m h0 h1
  refine Ev.step (fun k => by rw [eY]) (Ev.neg (by omega) ?_)
  rw [List.drop_eq_nil_of_le (by omega), List.drop_eq_nil_of_le (by omega), af rfl]
  exact Ev.now _
 | succ d ih =>
  intro m h0 h1
  have hm : m < x.length := by omega
  have hy : m < y.length := by omega
  refine Ev.step (fun k => by rw [eY]) (Ev.pos (by omega) (Ev.pos (by omega) (Ev.pos (by omega) ?_)))
  rw [aM x m hm, aM y m hy, List.drop_eq_getElem_cons hm, List.drop_eq_getElem_cons hy]
  by_cases c : x[m] = y[m]
  · have := ih (m + 1) (by omega) (by omega)
    rw [show decide (x[m] :: x.drop (m + 1) = y[m] :: y.drop (m + 1)) = decide (x.drop (m + 1) = y.drop (m + 1)) from by rw [decide_eq_decide, List.cons.injEq]; exact ⟨fun h => h.2, fun h => ⟨c, h⟩⟩, aJ hm (by omega)]
    exact Ev.pos c this
  · rw [ao (fun h => c (by injection h))]
    exact Ev.neg c (Ev.now _)
theorem pz (x y : List Int) (hx : x.length ≤ 1048576) : Ev (fun k => hZ k x y) (decide (x = y)) := by
 unfold hZ
 by_cases c : x.length = y.length
 · have := py x y hx c x.length 0 (by omega) (Nat.zero_le _)
   rw [List.drop_zero, List.drop_zero] at this
   exact Ev.pos (by omega) this
 · rw [ao (fun h => c (by rw [h]))]
   exact Ev.neg (by omega) (Ev.now _)
section
variable (ls : List (List Int)) (hls : ls.length ≤ 1048576) (hb : ∀ s ∈ ls, s.length ≤ 1048576)
include hls hb
end
abbrev bS (b : Int) : List Int := aI (aA b) 8 0
theorem sq : ∀ b : Fin 256, ∀ y : Fin 8, (Go.bits .and .i64 (dn .i64 b y) 1 == 1) = aA b y := by decide +kernel
theorem np {b y : Int} (hb : 0 ≤ b ∧ b < 256) (hy : 0 ≤ y ∧ y < 8) : (Go.bits .and .i64 (dn .i64 b y) 1 = 1) ↔ aA b y = true := by
 obtain ⟨i, rfl⟩ := d9 (n := 256) hb.1 hb.2
 obtain ⟨j, rfl⟩ := d9 (n := 8) hy.1 hy.2
 have := sq i j
 rw [← this, beq_iff_eq]
theorem si : ∀ n : Fin 9, ∀ b : Fin 256, decide (b.val < 2 ^ n.val) = (List.range 8).all (fun y => decide (y < n.val) || !aA b y) := by decide +kernel
theorem kx {n : Nat} {b : Int} (hn : n ≤ 8) (hb : 0 ≤ b ∧ b < 256) : b < ((2 ^ n : Nat) : Int) ↔ ∀ y : Int, (n : Int) ≤ y → y < 8 → aA b y = false := by
 obtain ⟨i, rfl⟩ := d9 (n := 256) hb.1 hb.2
 have h := si ⟨n, by omega⟩ i
 have e1 : ((i.val : Int) < ((2 ^ n : Nat) : Int)) ↔ decide (i.val < 2 ^ n) = true := by rw [decide_eq_true_eq]; omega
 rw [e1, h, List.all_eq_true]
 constructor
 · intro h y h0 h1
   have := h y.toNat (by rw [List.mem_range]; omega)
   simp only [Bool.or_eq_true, decide_eq_true_eq, Bool.not_eq_true'] at this
   rw [show ((y.toNat : Nat) : Int) = y by omega] at this
   exact this.resolve_left (by omega)
 · intro h y hy
   rw [List.mem_range] at hy
   by_cases c : y < n
   · simp [c]
   · have := h (y : Int) (by omega) (by omega)
     simp [this]
theorem uj : ∀ b : Fin 256, aE 0 (aI (aA b) 8 0) = b := by decide +kernel
theorem kM {b : Int} (hb : 0 ≤ b ∧ b < 256) : aE 0 (bS b) = b := by
 obtain ⟨i, rfl⟩ := d9 (n := 256) hb.1 hb.2
 exact uj i
theorem ua (n : Int) (b : Int) (hn : n ≤ 8) (hb : 0 ≤ b ∧ b < 256) (d : Nat) : ∀ (y : Int) (acc : List Int), (n - y).toNat = d → 0 ≤ y → acc.length + d ≤ 1000 → Ev (fun k => cW k n b acc y) (acc ++ aI (aA b) d y) := by
 induction d with
 | zero =>
  intro y acc h0 h1 h2
  refine Ev.step (fun k => by rw [cW]) (Ev.neg (by omega) ?_)
  simp only [aI, List.append_nil]
  exact Ev.now _
 | succ d ih =>
  intro y acc h0 h1 h2
  refine Ev.step (fun k => by rw [cW]) (Ev.pos (by omega) (Ev.pos (by omega) ?_))
  have hw : wrap64 (y + 1) = y + 1 := cL (by omega) (by omega)
  rw [hw, aI]
  by_cases c : aA b y = true
  · rw [if_pos c, ← List.append_assoc]
    refine Ev.pos ((np hb ⟨h1, by omega⟩).2 c) (Ev.pos (by omega) ?_)
    exact ih (y + 1) _ (by omega) (by omega) (by rw [List.length_append, List.length_singleton]; omega)
  · rw [if_neg c, List.nil_append]
    exact Ev.neg (fun h => c ((np hb ⟨h1, by omega⟩).1 h)) (ih (y + 1) acc (by omega) (by omega) (by omega))
theorem ub (n : Nat) (b : Int) (hn : n ≤ 8) (hb : 0 ≤ b ∧ b < ((2 ^ n : Nat) : Int)) : Ev (fun k => gp k (n : Int) b) (bS b) := by
 have hpow : 2 ^ n ≤ 256 := Nat.pow_le_pow_right (n := 2) (by decide) (show n ≤ 8 from hn)
 have h := ua (n : Int) b (by omega) ⟨hb.1, by omega⟩ n 0 [] (by omega) (by omega) (by simp; omega)
 unfold gp
 have e : bS b = aI (aA b) n 0 := by
  unfold bS
  rw [show 8 = n + (8 - n) by omega, lO, pr _ (8 - n), List.append_nil]
  intro z h0 h1
  exact (kx hn ⟨hb.1, by omega⟩).1 hb.2 z (by omega) (by omega)
 rw [e]
 simpa only [List.nil_append] using h
def SetN (n : Nat) (s : List Int) : Prop := s.Pairwise (· < ·) ∧ ∀ x ∈ s, 0 ≤ x ∧ x < (n : Int)
theorem SetN.ris {n : Nat} {s : List Int} (h : SetN n s) : bE 0 ((n : Int) - 1) none s = true := pO _ _ s none h.1 (fun x hx => by have := h.2 x hx; omega) (fun q e => by cases e)
theorem SetN.of_ris {n : Nat} {s : List Int} (h : bE 0 ((n : Int) - 1) none s = true) : SetN n s := ⟨(lW _ _ s none h).1, fun x hx => by have := j8 _ _ s none h x hx; omega⟩
theorem SetN.wide {n m : Nat} {s : List Int} (h : SetN n s) (hm : n ≤ m) : SetN m s := ⟨h.1, fun x hx => by have := h.2 x hx; omega⟩
theorem fF (f : Int → Bool) (d : Nat) : ∀ y, (aI f d y).Pairwise (· < ·) := by
 induction d with
 | zero => intro y; exact List.Pairwise.nil
 | succ d ih =>
  intro y
  simp only [aI]
  by_cases c : f y = true
  · rw [if_pos c, List.singleton_append, List.pairwise_cons]
    exact ⟨fun z hz => by have := ((cD f d (y + 1) z).1 hz).1; omega, ih (y + 1)⟩
  · rw [if_neg c, List.nil_append]
    exact ih (y + 1)
theorem ul {n : Nat} {b : Int} (hn : n ≤ 8) (hb : 0 ≤ b ∧ b < ((2 ^ n : Nat) : Int)) : SetN n (bS b) := by
 have hpow : 2 ^ n ≤ 256 := Nat.pow_le_pow_right (n := 2) (by decide) (show n ≤ 8 from hn)
 refine ⟨fF _ _ _, fun x hx => ?_⟩
 obtain ⟨h1, h2⟩ := (cD _ _ _ _).1 hx
 have h3 := (kx hn ⟨hb.1, by omega⟩).1 hb.2
 refine ⟨by omega, ?_⟩
 by_cases c : x < (n : Int)
 · exact c
 · have := h3 x (by omega) (by omega)
   rw [h2] at this
   exact absurd this (by decide)
theorem jc {l1 l2 : List Int} (h1 : l1.Pairwise (· < ·)) (h2 : l2.Pairwise (· < ·)) (h : ∀ x, x ∈ l1 ↔ x ∈ l2) : l1 = l2 := by
 induction l1 generalizing l2 with
 | nil =>
  cases l2 with
  | nil => rfl
  | cons b u => exact absurd ((h b).2 (List.mem_cons_self ..)) (by simp)
 | cons a t ih =>
  cases l2 with
  | nil => exact absurd ((h a).1 (List.mem_cons_self ..)) (by simp)
  | cons b u =>
   have p1 := List.pairwise_cons.1 h1
   have p2 := List.pairwise_cons.1 h2
   have hab : a = b := by
     rcases List.mem_cons.1 ((h a).1 (List.mem_cons_self ..)) with e | e
     · exact e
     · rcases List.mem_cons.1 ((h b).2 (List.mem_cons_self ..)) with e2 | e2
       · exact e2.symm
       · have := p1.1 b e2
         have := p2.1 a e
         omega
   subst hab
   rw [ih p1.2 p2.2 fun s => ?_]
   constructor
   · intro hs
     rcases List.mem_cons.1 ((h s).1 (List.mem_cons_of_mem _ hs)) with e | e
     · have := p1.1 s hs; omega
     · exact e
   · intro hs
     rcases List.mem_cons.1 ((h s).2 (List.mem_cons_of_mem _ hs)) with e | e
     · have := p2.1 s hs; omega
     · exact e
theorem uh {l : List Int} (h : bE 0 (((8 : Nat) : Int) - 1) none l = true) : bS (aE 0 l) = l := by
 have hp := lW _ _ l none h
 have hx : ∀ x ∈ l, 0 ≤ x ∧ x < 8 := fun x hx => by have := j8 _ _ l none h x hx; omega
 have hb := (jF l 0 (by omega) hx).2
 refine jc (fF _ _ _) hp.1 fun x => ?_
 rw [cD]
 constructor
 · rintro ⟨h1, h2⟩
   rw [hb x (by omega) (by omega), iC (by omega) (by omega), Bool.false_or, decide_eq_true_eq] at h2
   exact h2
 · intro hx'
   have := hx x hx'
   refine ⟨by omega, ?_⟩
   rw [hb x (by omega) (by omega), iC (by omega) (by omega), Bool.false_or, decide_eq_true_eq]
   exact hx'
theorem SetN.code {n : Nat} {s : List Int} (hn : n ≤ 8) (h : SetN n s) : (0 ≤ aE 0 s ∧ aE 0 s < ((2 ^ n : Nat) : Int)) ∧ bS (aE 0 s) = s := by
 have h8 := (h.wide hn).ris
 have hb := jF s 0 (by omega) (fun x hx => by have := h.2 x hx; omega)
 refine ⟨⟨hb.1.1, (kx hn hb.1).2 fun y h0 h1 => ?_⟩, uh h8⟩
 rw [hb.2 y (by omega) h1, iC (by omega) h1, Bool.false_or, decide_eq_false_iff_not]
 intro hy
 have := h.2 y hy
 omega
theorem tM {n : Nat} (hn : n ≤ 8) (p : Int → Bool) (s : List Int) : s ∈ cA p (2 ^ n) ↔ SetN n s ∧ p (aE 0 s) = true := by
 have hpow : 2 ^ n ≤ 256 := Nat.pow_le_pow_right (n := 2) (by decide) (show n ≤ 8 from hn)
 unfold cA
 rw [List.mem_map]
 constructor
 · rintro ⟨b, hb, rfl⟩
   obtain ⟨h1, h2⟩ := (cD _ _ _ _).1 hb
   have h3 : 0 ≤ b ∧ b < ((2 ^ n : Nat) : Int) := ⟨h1.1, by omega⟩
   refine ⟨ul hn h3, ?_⟩
   rw [kM ⟨h3.1, by omega⟩]
   exact h2
 · rintro ⟨h1, h2⟩
   have h3 := h1.code hn
   exact ⟨aE 0 s, (cD _ _ _ _).2 ⟨by have := h3.1; omega, h2⟩, h3.2⟩
theorem tL {n : Nat} (hn : n ≤ 256) (p : Int → Bool) : (cA p n).Nodup := by
 unfold cA
 refine List.Pairwise.map _ ?_ (List.Pairwise.and_mem.1 (fF p n 0))
 rintro a b ⟨ha, hb, hab⟩ e
 have h1 := ((cD _ _ _ _).1 ha).1
 have h2 := ((cD _ _ _ _).1 hb).1
 have := congrArg (aE 0) e
 rw [kM ⟨by omega, by omega⟩, kM ⟨by omega, by omega⟩] at this
 omega
theorem SetN.len {n : Nat} {s : List Int} (h : SetN n s) : s.length ≤ n := by
 have : ∀ (s : List Int) (a : Int), s.Pairwise (· < ·) → (∀ x ∈ s, a ≤ x ∧ x < (n : Int)) → (s.length : Int) ≤ (n : Int) - a ∨ s = [] := by
   intro s
   induction s with
   | nil => intro a _ _; exact .inr rfl
   | cons x t ih =>
    intro a h1 h2
    have p1 := List.pairwise_cons.1 h1
    have hx := h2 x (List.mem_cons_self ..)
    rcases ih (x + 1) p1.2 (fun y hy => ⟨by have := p1.1 y hy; omega, (h2 y (List.mem_cons_of_mem _ hy)).2⟩) with h3 | h3
    · exact .inl (by rw [List.length_cons]; omega)
    · subst h3
      exact .inl (by rw [List.length_singleton]; omega)
 rcases this s 0 h.1 h.2 with h3 | h3
 · omega
 · subst h3; exact Nat.zero_le _
end Go.Proofs.YtjgcehldepfaaaaGreat.P
namespace Go.Proofs.YtjgcehldepfaaaaGreat.FPure
def Adj (E : List (Int × Int)) (x y : Int) : Prop := (x, y) ∈ E ∨ (y, x) ∈ E
inductive Conn (E : List (Int × Int)) : Int → Int → Prop
 | refl (x : Int) : Conn E x x
 | step {x y z : Int} : Conn E x y → Adj E y z → Conn E x z
inductive Av (E : List (Int × Int)) (u : Int) : Int → Int → Prop
 | refl {x : Int} : x ≠ u → Av E u x x
 | step {x y z : Int} : Av E u x y → Adj E y z → z ≠ u → Av E u x z
theorem Adj.symm {E : List (Int × Int)} {x y : Int} (h : Adj E x y) : Adj E y x := h.elim .inr .inl
theorem Conn.trans {E : List (Int × Int)} {x y z : Int} (h : Conn E x y) (k : Conn E y z) : Conn E x z := by
 induction k with
 | refl => exact h
 | step _ a ih => exact .step ih a
theorem Conn.symm {E : List (Int × Int)} {x y : Int} (h : Conn E x y) : Conn E y x := by
 induction h with
 | refl => exact .refl _
 | step _ a ih => exact (Conn.step (.refl _) a.symm).trans ih
theorem Av.trans {E : List (Int × Int)} {u x y z : Int} (h : Av E u x y) (k : Av E u y z) : Av E u x z := by
 induction k with
 | refl => exact h
 | step _ a n ih => exact .step ih a n
theorem Av.ne {E : List (Int × Int)} {u x y : Int} (h : Av E u x y) : y ≠ u := by cases h <;> assumption
theorem Av.ne0 {E : List (Int × Int)} {u x y : Int} (h : Av E u x y) : x ≠ u := by
 induction h with
 | refl h => exact h
 | step _ _ _ ih => exact ih
theorem Av.symm {E : List (Int × Int)} {u x y : Int} (h : Av E u x y) : Av E u y x := by
 induction h with
 | refl h => exact .refl h
 | step h a n ih => exact (Av.step (.refl n) a.symm h.ne).trans ih
theorem subset_len : ∀ {V L : List Int}, V.Nodup → (∀ v ∈ V, v ∈ L) → V.length ≤ L.length
 | [], _, _, _ => Nat.zero_le _
 | v :: V, L, hn, hs => by
  rw [List.nodup_cons] at hn
  have h1 : v ∈ L := hs v (.head _)
  have h2 := subset_len (V := V) (L := L.erase v) hn.2 (fun z hz => (List.mem_erase_of_ne (fun e => hn.1 (by rw [← e]; exact hz))).2 (hs z (.tail _ hz)))
  rw [List.length_erase_of_mem h1] at h2
  have := List.length_pos_of_mem h1
  rw [List.length_cons]
  omega
theorem tH {x y : Int} (h : Conn [] x y) : x = y := by
 induction h with
 | refl => rfl
 | step _ a _ => rcases a with a | a <;> cases a
theorem kC {a b : Int} {E : List (Int × Int)} {x y : Int} (h : Conn ((a, b) :: E) x y) : Conn E x y ∨ ((Conn E x a ∨ Conn E x b) ∧ (Conn E a y ∨ Conn E b y)) := by
 induction h with
 | refl => exact .inl (.refl _)
 | @step y z _ k ih =>
  have k2 : Adj E y z ∨ (y = a ∧ z = b) ∨ (y = b ∧ z = a) := by
    rcases k with k | k <;> rcases List.mem_cons.1 k with e | e
    · injection e with e1 e2; exact .inr (.inl ⟨e1, e2⟩)
    · exact .inl (.inl e)
    · injection e with e1 e2; exact .inr (.inr ⟨e2, e1⟩)
    · exact .inl (.inr e)
  rcases k2 with k2 | ⟨rfl, rfl⟩ | ⟨rfl, rfl⟩
  · rcases ih with ih | ⟨h1, h2⟩
    · exact .inl (.step ih k2)
    · exact .inr ⟨h1, h2.imp (.step · k2) (.step · k2)⟩
  · rcases ih with ih | ⟨h1, _⟩
    · exact .inr ⟨.inl ih, .inr (.refl _)⟩
    · exact .inr ⟨h1, .inr (.refl _)⟩
  · rcases ih with ih | ⟨h1, _⟩
    · exact .inr ⟨.inr ih, .inl (.refl _)⟩
    · exact .inr ⟨h1, .inl (.refl _)⟩
theorem nD : ∀ (E : List (Int × Int)) (V L : List Int), V.Nodup → (∀ v ∈ V, ∃ r ∈ L, Conn E v r) → V.length ≤ E.length + L.length
 | [], V, L, hn, hc => by
  rw [List.length_nil, Nat.zero_add]
  refine subset_len hn (fun v hv => ?_)
  obtain ⟨r, hr, h⟩ := hc v hv
  rw [tH h]; exact hr
 | (a, b) :: E, V, L, hn, hc => by
  rw [List.length_cons]
  have key : ∃ c, ∀ v ∈ V, ∃ r ∈ c :: L, Conn E v r := by
   by_cases h1 : ∃ r ∈ L, Conn E a r
   · obtain ⟨r0, hr0, h0⟩ := h1
     refine ⟨b, fun v hv => ?_⟩
     obtain ⟨r, hr, h⟩ := hc v hv
     rcases kC h with h | ⟨h | h, _⟩
     · exact ⟨r, .tail _ hr, h⟩
     · exact ⟨r0, .tail _ hr0, h.trans h0⟩
     · exact ⟨b, .head _, h⟩
   · by_cases h2 : ∃ r ∈ L, Conn E b r
     · obtain ⟨r0, hr0, h0⟩ := h2
       refine ⟨a, fun v hv => ?_⟩
       obtain ⟨r, hr, h⟩ := hc v hv
       rcases kC h with h | ⟨h | h, _⟩
       · exact ⟨r, .tail _ hr, h⟩
       · exact ⟨a, .head _, h⟩
       · exact ⟨r0, .tail _ hr0, h.trans h0⟩
     · refine ⟨a, fun v hv => ?_⟩
       obtain ⟨r, hr, h⟩ := hc v hv
       rcases kC h with h | ⟨_, h | h⟩
       · exact ⟨r, .tail _ hr, h⟩
       · exact absurd ⟨r, hr, h⟩ h1
       · exact absurd ⟨r, hr, h⟩ h2
  obtain ⟨c, hcv⟩ := key
  have := nD E V (c :: L) hn hcv
  rw [List.length_cons] at this
  omega
theorem key_of {E : List (Int × Int)} {V L : List Int} (hn : V.Nodup) (hc : ∀ v ∈ V, ∃ r ∈ L, Conn E v r) (hl : E.length + L.length ≤ V.length) {u a b : Int} (ha : Adj E u a) (hb : Adj E u b) (hab : Av E u a b) : a = b := by
 refine Classical.byContradiction fun hne => ?_
 have hau := hab.ne0
 obtain ⟨e, he, hd⟩ : ∃ e, e ∈ E ∧ (e = (u, a) ∨ e = (a, u)) := by
  rcases ha with h | h
  · exact ⟨_, h, .inl rfl⟩
  · exact ⟨_, h, .inr rfl⟩
 have keep : ∀ {x y : Int}, Adj E x y → ¬ (x = u ∧ y = a) → ¬ (x = a ∧ y = u) → Adj (E.erase e) x y := by
  intro x y h h1 h2
  have : ∀ p q : Int, ¬ (p = u ∧ q = a) → ¬ (p = a ∧ q = u) → (p, q) ∈ E → (p, q) ∈ E.erase e := by
    intro p q g1 g2 hpq
    refine (List.mem_erase_of_ne (fun h3 => ?_)).2 hpq
    rw [← h3] at hd
    rcases hd with hd | hd <;> injection hd with d1 d2
    · exact g1 ⟨d1, d2⟩
    · exact g2 ⟨d1, d2⟩
  rcases h with h | h
  · exact .inl (this _ _ h1 h2 h)
  · exact .inr (this _ _ (fun g => h2 ⟨g.2, g.1⟩) (fun g => h1 ⟨g.2, g.1⟩) h)
 have way : ∀ {x y : Int}, Av E u x y → Conn (E.erase e) x y := by
  intro x y h
  induction h with
  | refl => exact .refl _
  | @step y z h k n ih => exact .step ih (keep k (fun g => h.ne g.1) (fun g => n g.2))
 have hbe : Adj (E.erase e) u b := keep hb (fun g => hne g.2.symm) (fun g => hau g.1.symm)
 have hua : Conn (E.erase e) u a := (Conn.step (.refl _) hbe).trans (way hab.symm)
 have all : ∀ {x y : Int}, Conn E x y → Conn (E.erase e) x y := by
  intro x y h
  induction h with
  | refl => exact .refl _
  | @step y z _ k ih =>
    by_cases h1 : y = u ∧ z = a
    · rw [h1.1] at ih; rw [h1.2]; exact ih.trans hua
    · by_cases h2 : y = a ∧ z = u
      · rw [h2.1] at ih; rw [h2.2]; exact ih.trans hua.symm
      · exact .step ih (keep k h1 h2)
 have := nD (E.erase e) V L hn (fun v hv => by obtain ⟨r, hr, h⟩ := hc v hv; exact ⟨r, hr, all h⟩)
 rw [List.length_erase_of_mem he] at this
 have := List.length_pos_of_mem he
 omega
section
variable {E : List (Int × Int)}
def Tree (E : List (Int × Int)) : Prop := ∀ u a b, Adj E u a → Adj E u b → Av E u a b → a = b
theorem jO (hT : Tree E) (hI : ∀ z, ¬ Adj E z z) {x g u w y : Int} (hg : Adj E g x ∨ ∀ z, ¬ Adj E z g) (hxg : x ≠ g) (hxu : Adj E x u) (hug : u ≠ g) (huw : Adj E u w) (hwx : w ≠ x) (h : Av E u w y) : Av E g x y := by
 have hux : x ≠ u := fun e => hI u (by rw [e] at hxu; exact hxu)
 induction h with
 | refl hw =>
  refine .step (.step (.refl hxg) hxu hug) huw ?_
  rintro rfl
  rcases hg with hg | hg
  · exact hwx (hT u w x huw hxu.symm (.step (.refl hw) hg hux))
  · exact hg _ huw
 | @step y z h k n ih =>
  refine .step ih k ?_
  rintro rfl
  rcases hg with hg | hg
  · exact hwx (hT u w x huw hxu.symm (.step (.step h k n) hg hux))
  · exact hg _ k
def St (E : List (Int × Int)) (S : Int → Prop) : Nat → Int → Int → Prop
 | 0, _, _ => False
 | n + 1, x, g => ∀ v, Adj E x v → v ≠ g → ∃ w, Adj E v w ∧ w ≠ x ∧ S w ∧ St E S n w v
def Nst (E : List (Int × Int)) (S : Int → Prop) : Nat → Int → Int → Prop
 | 0, _, _ => False
 | n + 1, x, g => ∃ v, Adj E x v ∧ v ≠ g ∧ ∀ w, Adj E v w → w ≠ x → S w → Nst E S n w v
def Ind (E : List (Int × Int)) (S : Int → Prop) : Prop := ∀ x y, S x → S y → ¬ Adj E x y
def Slide (E : List (Int × Int)) (S T : Int → Prop) : Prop := ∃ a b, S a ∧ ¬ S b ∧ Adj E a b ∧ (∀ z, T z ↔ (S z ∧ z ≠ a) ∨ z = b) ∧ Ind E T
inductive Reach (E : List (Int × Int)) (S : Int → Prop) : (Int → Prop) → Prop
 | refl : Reach E S S
 | step {T U : Int → Prop} : Reach E S T → Slide E T U → Reach E S U
theorem Reach.trans {S T U : Int → Prop} (h : Reach E S T) (k : Reach E T U) : Reach E S U := by
 induction k with
 | refl => exact h
 | step _ s ih => exact .step ih s
theorem Reach.ind {S T : Int → Prop} (h : Reach E S T) (hS : Ind E S) : Ind E T := by
 cases h with
 | refl => exact hS
 | step _ s => obtain ⟨_, _, _, _, _, _, h⟩ := s; exact h
inductive Lean1 (E : List (Int × Int)) (S : Int → Prop) (x0 g0 : Int) : Int → Int → Prop
 | root : (∃ n, St E S n x0 g0) → Lean1 E S x0 g0 x0 g0
 | step {a g v w : Int} : Lean1 E S x0 g0 a g → Adj E a v → v ≠ g → Adj E v w → w ≠ a → S w → (∃ n, St E S n w v) → Lean1 E S x0 g0 w v
theorem Lean1.st {S : Int → Prop} {x0 g0 w v : Int} (h : Lean1 E S x0 g0 w v) : ∃ n, St E S n w v := by cases h <;> assumption
theorem oH {S T : Int → Prop} {x0 g0 : Int} (hg : ∀ z, ¬ Adj E z g0) (hx : S x0) (hn : ∃ n, St E S n x0 g0) (h : Reach E S T) : T x0 := by
 have key : ∀ T, Reach E S T → ∀ w v, Lean1 E S x0 g0 w v → T w := by
  intro T h
  induction h with
  | refl =>
   intro w v hw
   cases hw with
   | root _ => exact hx
   | step _ _ _ _ _ h _ => exact h
  | @step T U hr hs ih =>
   intro w v hw
   obtain ⟨a, b, ha, hb, hab, hU, hI⟩ := hs
   by_cases hwa : w = a
   · exfalso
     subst hwa
     by_cases hbv : b = v
     · subst hbv
       cases hw with
       | root _ => exact hg _ hab
       | @step a' g' _ _ h1 h2 h3 h4 h5 h6 h7 =>
        have := ih _ _ h1
        exact hI a' b ((hU _).2 (.inl ⟨this, fun e => h5 e.symm⟩)) ((hU _).2 (.inr rfl)) h2
     · obtain ⟨n, hst⟩ := hw.st
       cases n with
       | zero => exact hst
       | succ n =>
        obtain ⟨w', h1, h2, h3, h4⟩ := hst b hab hbv
        have := ih _ _ (.step hw hab hbv h1 h2 h3 ⟨n, h4⟩)
        exact hI b w' ((hU _).2 (.inr rfl)) ((hU _).2 (.inl ⟨this, h2⟩)) h1
   · exact (hU _).2 (.inl ⟨ih _ _ hw, hwa⟩)
 exact key T h x0 g0 (.root hn)
theorem mz (hT : Tree E) (hI : ∀ z, ¬ Adj E z z) {S S1 : Int → Prop} : ∀ (n : Nat) {w v : Int}, (Adj E v w ∨ ∀ z, ¬ Adj E z v) → w ≠ v → (∀ z, Av E v w z → (S1 z ↔ S z)) → Nst E S n w v → Nst E S1 n w v
 | 0, _, _, _, _, _, h => h
 | n + 1, w, v, hg, hwv, ha, h => by
  obtain ⟨u, h1, h2, h3⟩ := h
  refine ⟨u, h1, h2, fun y hy hyw hSy => ?_⟩
  have hyu : y ≠ u := fun e => hI u (by rw [e] at hy; exact hy)
  have hsub : ∀ z, Av E u y z → Av E v w z := fun z hz => jO hT hI hg hwv h1 h2 hy hyw hz
  have hSy' := (ha y (hsub y (.refl hyu))).1 hSy
  exact mz hT hI n (.inl hy) hyu (fun z hz => ha z (hsub z hz)) (h3 y hy hyw hSy')
theorem mD (hT : Tree E) (hI : ∀ z, ¬ Adj E z z) {V : List Int} (hV : ∀ x y, Adj E x y → y ∈ V) (hVn : V.Nodup) : ∀ (n : Nat) {x g : Int} {S : Int → Prop}, (Adj E g x ∨ ∀ z, ¬ Adj E z g) → x ≠ g → Nst E S n x g → S x → Ind E S →
  ∃ S', Reach E S S' ∧ ¬ S' x ∧ ∀ z, ¬ Av E g x z → (S' z ↔ S z)
 | 0, _, _, _, _, _, h, _, _ => h.elim
 | n + 1, x, g, S, hg, hxg, h, hx, hS => by
  obtain ⟨v, h1, h2, h3⟩ := h
  have hirr : ∀ {a b : Int}, Adj E a b → a ≠ b := fun h e => hI _ (by rw [e] at h; exact h)
  have part : ∀ l : List Int, l.Nodup → (∀ w ∈ l, Adj E v w ∧ w ≠ x) → ∃ S', Reach E S S' ∧ (∀ w ∈ l, ¬ S' w) ∧ ∀ z, (∀ w ∈ l, ¬ Av E v w z) → (S' z ↔ S z) := by
    intro l
    induction l with
    | nil => intro _ _; exact ⟨S, .refl, (fun w hw => by cases hw), fun z _ => Iff.rfl⟩
    | cons w l ih =>
      intro hnd hl
      rw [List.nodup_cons] at hnd
      obtain ⟨S1, r1, n1, a1⟩ := ih hnd.2 (fun y hy => hl y (.tail _ hy))
      obtain ⟨hw1, hw2⟩ := hl w (.head _)
      have hwv : w ≠ v := fun e => hirr hw1 e.symm
      have hag : ∀ z, Av E v w z → (S1 z ↔ S z) := fun z hz => a1 z (fun y hy hy2 => hnd.1 (by
        have := hT v w y hw1 (hl y (.tail _ hy)).1 (hz.trans hy2.symm)
        rw [this]; exact hy))
      by_cases hs : S1 w
      · have hsw := (hag w (.refl hwv)).1 hs
        obtain ⟨S2, r2, n2, a2⟩ := mD hT hI hV hVn n (.inl hw1) hwv (mz hT hI n (.inl hw1) hwv hag (h3 w hw1 hw2 hsw)) hs (r1.ind hS)
        refine ⟨S2, r1.trans r2, ?_, ?_⟩
        · intro y hy
          rcases List.mem_cons.1 hy with rfl | hy
          · exact n2
          · intro hy2
            refine n1 y hy ((a2 y (fun hav => hnd.1 ?_)).1 hy2)
            have := hT v w y hw1 (hl y (.tail _ hy)).1 hav
            rw [this]; exact hy
        · intro z hz
          exact (a2 z (hz w (.head _))).trans (a1 z (fun y hy => hz y (.tail _ hy)))
      · refine ⟨S1, r1, ?_, fun z hz => a1 z (fun y hy => hz y (.tail _ hy))⟩
        intro y hy
        rcases List.mem_cons.1 hy with rfl | hy
        · exact hs
        · exact n1 y hy
  open Classical in
  obtain ⟨S1, r1, n1, a1⟩ := part (V.filter fun w => decide (Adj E v w ∧ w ≠ x)) (hVn.filter _) (fun w hw => by simpa using (List.mem_filter.1 hw).2)
  have hmem : ∀ w, Adj E v w → w ≠ x → ¬ S1 w := fun w hw hwx => n1 w (List.mem_filter.2 ⟨hV v w hw, by simpa using ⟨hw, hwx⟩⟩)
  have hxv : x ≠ v := hirr h1
  have hs1x : S1 x := (a1 x (fun w hw hav => by
    have hw2 : Adj E v w ∧ w ≠ x := by simpa using (List.mem_filter.1 hw).2
    exact hw2.2 (hT v w x hw2.1 h1.symm hav))).2 hx
  have hI1 := r1.ind hS
  have hv1 : ¬ S1 v := fun hv => hI1 x v hs1x hv h1
  refine ⟨fun z => (S1 z ∧ z ≠ x) ∨ z = v, .step r1 ⟨x, v, hs1x, hv1, h1, fun z => Iff.rfl, ?_⟩, ?_, ?_⟩
  · intro p q hp hq hpq
    rcases hp with ⟨hp, hpx⟩ | rfl
    · rcases hq with ⟨hq, hqx⟩ | rfl
      · exact hI1 p q hp hq hpq
      · exact hmem p hpq.symm hpx hp
    · rcases hq with ⟨hq, hqx⟩ | rfl
      · exact hmem q hpq hqx hq
      · exact hI _ hpq
  · rintro (⟨_, h⟩ | h)
    · exact h rfl
    · exact hxv h
  · intro z hz
    have hzv : z ≠ v := by rintro rfl; exact hz (.step (.refl hxg) h1 h2)
    have hzx : z ≠ x := by rintro rfl; exact hz (.refl hxg)
    have := a1 z (fun w hw hav => by
      have hw2 : Adj E v w ∧ w ≠ x := by simpa using (List.mem_filter.1 hw).2
      exact hz (jO hT hI hg hxg h1 h2 hw2.1 hw2.2 hav))
    constructor
    · rintro (⟨h, _⟩ | h)
      · exact this.1 h
      · exact absurd h hzv
    · intro h; exact .inl ⟨this.2 h, hzx⟩
theorem rule {V : List Int} (hT : Tree E) (hI : ∀ z, ¬ Adj E z z) (hV : ∀ x y, Adj E x y → y ∈ V) (hVn : V.Nodup) {S : Int → Prop} {x g : Int} (hg : ∀ z, ¬ Adj E z g) (hxg : x ≠ g) (hx : S x) (hS : Ind E S) :
  ((∃ n, St E S n x g) → ∀ T, Reach E S T → T x) ∧ ((∃ n, Nst E S n x g) → ∃ T, Reach E S T ∧ ¬ T x) := by
 refine ⟨fun h T hr => oH hg hx h hr, fun h => ?_⟩
 obtain ⟨n, h⟩ := h
 obtain ⟨S', h1, h2, _⟩ := mD hT hI hV hVn n (.inr hg) hxg h hx hS
 exact ⟨S', h1, h2⟩
open Classical in
noncomputable def cnt (E : List (Int × Int)) (V : List Int) (x g : Int) : Nat := (V.filter fun z => decide (Av E g x z)).length
theorem tk {V : List Int} {p q : Int → Bool} (h : ∀ z ∈ V, p z = true → q z = true) {x : Int} (hx : x ∈ V) (h1 : q x = true) (h2 : p x = false) : (V.filter p).length < (V.filter q).length := by
 induction V with
 | nil => cases hx
 | cons y V ih =>
  have hle : (V.filter p).length ≤ (V.filter q).length := by
    clear ih hx
    induction V with
    | nil => exact Nat.le.refl
    | cons z V ih =>
      have ih2 := ih (fun t ht => by
        rcases List.mem_cons.1 ht with rfl | ht
        · exact h t (.head _)
        · exact h t (.tail _ (.tail _ ht)))
      have hz := h z (.tail _ (.head _))
      rw [List.filter_cons, List.filter_cons]
      cases hp : p z
      · cases hq : q z <;> simp <;> omega
      · rw [hz hp]; simpa using ih2
  have hy := h y (.head _)
  rw [List.filter_cons, List.filter_cons]
  rcases List.mem_cons.1 hx with rfl | hx
  · rw [h1, h2]; simp; omega
  · have ih2 := ih (fun z hz => h z (.tail _ hz)) hx
    cases hp : p y
    · cases hq : q y <;> simp <;> omega
    · rw [hy hp]; simpa using ih2
open Classical in
theorem cnt_lt {V : List Int} (hT : Tree E) (hI : ∀ z, ¬ Adj E z z) {x g u w : Int} (hxV : x ∈ V) (hg : Adj E g x ∨ ∀ z, ¬ Adj E z g) (hxg : x ≠ g) (hxu : Adj E x u) (hug : u ≠ g) (huw : Adj E u w) (hwx : w ≠ x) : cnt E V w u < cnt E V x g := by
 refine tk (x := x) (fun z _ hz => ?_) hxV ?_ ?_
 · simp only [decide_eq_true_eq] at hz ⊢
   exact jO hT hI hg hxg hxu hug huw hwx hz
 · simp only [decide_eq_true_eq]
   exact .refl hxg
 · simp only [decide_eq_false_iff_not]
   exact fun h => hwx (hT u w x huw hxu.symm h)
end
end Go.Proofs.YtjgcehldepfaaaaGreat.FPure
