/- Both sides part the places alike. -/
import Derived.Test.YthnojbafclglpaaParityOfG22
import Derived.Test.YthnojbafclglpaaParityOfG16
import Derived.Test.YthnojbafclglpaaParityOfG11
import Derived.Test.YthnojbafclglpaaParityOfG12
import Derived.Test.YthnojbafclglpaaParityOfG19
import Derived.Test.YthnojbafclglpaaParityOfG20
import Derived.Test.YthnojbafclglpaaParityOfG21
import Derived.Test.YthnojbafclglpaaParityOfG5
import Derived.Test.YthnojbafclglpaaParityOfG7
namespace Go.Proofs.Ythnojbafclglpaa.P
open Go.RowKit Go.Proofs.YthnojbafclglpaaW.PrintWords Go.Proofs.YthnojbafclglpaaW.PrintLast Go.Proofs.YthnojbafclglpaaW.PrintMore
set_option linter.unusedVariables false
set_option linter.unusedSimpArgs false

theorem rdB_set (l : List Bool) (j k : Int) (v : Bool) (h : j.toNat < l.length) : rdOf false (l.set j.toNat v) k = if k.toNat = j.toNat then v else rdOf false l k := by
  unfold rdOf
  rw [List.getD_eq_getElem?_getD, List.getD_eq_getElem?_getD, List.getElem?_set]
  by_cases c : j.toNat = k.toNat
  · rw [if_pos c, if_pos c.symm, if_pos h, Option.getD_some]
  · rw [if_neg c, if_neg (Ne.symm c)]
def free (l : List Bool) : Nat := l.countP fun x => !x
theorem free_set (l : List Bool) (j : Int) (h : j.toNat < l.length) (hj : rdOf false l j = false) : free (l.set j.toNat true) + 1 = free l := by
  have e1 : rdOf false l j = l[j.toNat] := by unfold rdOf; rw [List.getD_eq_getElem?_getD, List.getElem?_eq_getElem h, Option.getD_some]
  rw [e1] at hj
  unfold free
  rw [List.countP_set h]
  have hp : 0 < l.countP (fun x => !x) := List.countP_pos_iff.2 ⟨_, List.getElem_mem h, by rw [hj]; rfl⟩
  rw [if_pos (by rw [hj]; rfl), if_neg (by simp)]
  omega
theorem listB_ext {l m : List Bool} (hl : l.length = m.length) (h : ∀ k : Int, 0 ≤ k → k < (l.length : Int) → rdOf false l k = rdOf false m k) : l = m := by
  refine List.ext_getElem hl fun i h1 h2 => ?_
  have := h (i : Int) (by omega) (by omega)
  unfold rdOf at this
  rw [Int.toNat_natCast, List.getD_eq_getElem?_getD, List.getD_eq_getElem?_getD, List.getElem?_eq_getElem h1, List.getElem?_eq_getElem h2, Option.getD_some, Option.getD_some] at this
  exact this
theorem strict_ext : ∀ {l m : List Int}, l.Pairwise (· < ·) → m.Pairwise (· < ·) → (∀ x, x ∈ l ↔ x ∈ m) → l = m
  | [], [], _, _, _ => rfl
  | [], y :: t, _, _, h => by have := (h y).2 (.head _); cases this
  | x :: s, [], _, _, h => by have := (h x).1 (.head _); cases this
  | x :: s, y :: t, hl, hm, h => by
    obtain ⟨h1, h2⟩ := List.pairwise_cons.1 hl
    obtain ⟨h3, h4⟩ := List.pairwise_cons.1 hm
    have e : x = y := by
      rcases List.mem_cons.1 ((h x).1 (.head _)) with e | hx
      · exact e
      rcases List.mem_cons.1 ((h y).2 (.head _)) with e | hy
      · exact e.symm
      have := h3 x hx
      have := h1 y hy
      omega
    subst e
    rw [strict_ext h2 h4 fun z => ⟨fun hz => ?_, fun hz => ?_⟩]
    · rcases List.mem_cons.1 ((h z).1 (.tail _ hz)) with e | hz'
      · have := h1 z hz; omega
      · exact hz'
    · rcases List.mem_cons.1 ((h z).2 (.tail _ hz)) with e | hz'
      · have := h3 z hz; omega
      · exact hz'
theorem sortL_strict {l : List Int} (h : l.Nodup) : (sortL l).Pairwise (· < ·) := by
  unfold sortL
  have hs : (l.mergeSort fun x y => decide (x ≤ y)).Pairwise (fun a b => decide (a ≤ b) = true) := List.pairwise_mergeSort (fun a b c h1 h2 => by simp at *; omega) (fun a b => by simp; omega) l
  have hd : (l.mergeSort fun x y => decide (x ≤ y)).Nodup := (List.mergeSort_perm l _).nodup_iff.2 h
  exact (List.Pairwise.and hs hd).imp fun hab => by obtain ⟨h1, h2⟩ := hab; simp at h1; omega
theorem sortL_mem (l : List Int) (x : Int) : x ∈ sortL l ↔ x ∈ l := (List.mergeSort_perm l _).mem_iff
def symZ (z : List (List Int)) : Prop := ∀ i j, 0 ≤ i → i < (z.length : Int) → 0 ≤ j → j < (z.length : Int) → j ∈ rd_L4 z i → i ∈ rd_L4 z j
section
variable {z : List (List Int)} (hn : z.length ≤ 1048576)
include hn
theorem part_inner {row : List Int} (hrow : ∀ j ∈ row, 0 ≤ j ∧ j < (z.length : Int)) (hrl : row.length ≤ 1048576) (out : List (List Int)) (kk i N : Int) (d : Nat) :
    ∀ (m : Nat) (seen : List Bool) (part : List Int), row.length - m = d → m ≤ row.length → seen.length = z.length → free seen + part.length ≤ 1048577 → part.Nodup → (∀ q ∈ part, rdOf false seen q = true ∧ 0 ≤ q ∧ q < (z.length : Int)) →
    ∃ (seen' : List Bool) (new : List Int), seen'.length = z.length ∧ free seen' + (part ++ new).length = free seen + part.length ∧ (part ++ new).Nodup ∧ (∀ k, rdOf false seen k = true → rdOf false seen' k = true) ∧
      (∀ j ∈ row.drop m, rdOf false seen' j = true) ∧ (∀ j ∈ new, j ∈ row ∧ rdOf false seen' j = true) ∧ (∀ k, 0 ≤ k → k < (z.length : Int) → rdOf false seen' k = true → rdOf false seen k = true ∨ k ∈ new) ∧
      (∀ R, Ev (fun k => impl_parts.l1 k z out seen' (part ++ new) (wrap64 (kk + 1)) N i) R → Ev (fun k => impl_parts.l2 k z out seen part kk N i row (row.length : Int) (m : Int)) R) := by
  have _hu := hn
  induction d with
  | zero =>
    intro m seen part h0 h1 h2 h3 h4 h5
    refine ⟨seen, [], h2, by simp, by simpa using h4, fun _ hk => hk, fun j hj => ?_, (fun j hj => by cases hj), fun k _ _ hk => .inl hk, fun R hR => ?_⟩
    · rw [List.drop_eq_nil_of_le (by omega)] at hj; cases hj
    · rw [List.append_nil] at hR
      refine Ev.step (fun k => by rw [impl_parts.l2]) ?_
      refine Ev.neg (by omega) ?_
      exact hR
  | succ d ih =>
    intro m seen part h0 h1 h2 h3 h4 h5
    have hm : m < row.length := by omega
    have hj := hrow row[m] (List.getElem_mem hm)
    have hjl : row[m].toNat < seen.length := by omega
    cases c : rdOf false seen row[m] with
    | true =>
      obtain ⟨seen', new, a1, a2, a3, a4, a5, a6, a7, a8⟩ := ih (m + 1) seen part (by omega) (by omega) h2 h3 h4 h5
      refine ⟨seen', new, a1, a2, a3, a4, fun j hj' => ?_, a6, a7, fun R hR => ?_⟩
      · rw [List.drop_eq_getElem_cons hm] at hj'
        rcases List.mem_cons.1 hj' with rfl | hj'
        · exact a4 _ c
        · exact a5 j hj'
      · have := a8 R hR
        rw [← wrap_up hm (by omega)] at this
        refine Ev.step (fun k => by rw [impl_parts.l2]) ?_
        refine Ev.pos (by omega) ?_
        refine Ev.pos (by omega) ?_
        refine Ev.pos (by omega) ?_
        rw [rd_at row m hm]
        refine Ev.pos hj.1 ?_
        refine Ev.pos (by omega) ?_
        refine Ev.pos c ?_
        exact this
    | false =>
      have hrs : ∀ k, rdOf false (seen.set row[m].toNat true) k = if k.toNat = row[m].toNat then true else rdOf false seen k := fun k => rdB_set seen row[m] k true hjl
      have hfr := free_set seen row[m] hjl c
      have hnot : row[m] ∉ part := fun hq => by have := (h5 _ hq).1; rw [c] at this; cases this
      obtain ⟨seen', new, a1, a2, a3, a4, a5, a6, a7, a8⟩ := ih (m + 1) (seen.set row[m].toNat true) (part ++ [row[m]]) (by omega) (by omega) (by rw [List.length_set, h2]) (by rw [List.length_append, List.length_singleton]; omega)
        (by rw [List.nodup_append]; exact ⟨h4, by simp, fun a ha b hb => by rw [show b = row[m] by simpa using hb]; exact fun e => hnot (e ▸ ha)⟩)
        (fun q hq => by
          rcases List.mem_append.1 hq with hq | hq
          · have := h5 q hq; exact ⟨by rw [hrs]; split <;> simp [this.1], this.2⟩
          · rw [show q = row[m] by simpa using hq]; exact ⟨by rw [hrs, if_pos rfl], hj⟩)
      have hself : rdOf false seen' row[m] = true := a4 _ (by rw [hrs, if_pos rfl])
      have hap : part ++ row[m] :: new = (part ++ [row[m]]) ++ new := by simp
      refine ⟨seen', row[m] :: new, a1, ?_, ?_, fun k hk => a4 k (by rw [hrs]; split <;> simp [hk]), fun j hj' => ?_, fun j hj' => ?_, fun k hk0 hk1 hk => ?_, fun R hR => ?_⟩
      · rw [hap, a2, List.length_append, List.length_singleton]; omega
      · rw [hap]; exact a3
      · rw [List.drop_eq_getElem_cons hm] at hj'
        rcases List.mem_cons.1 hj' with rfl | hj'
        · exact hself
        · exact a5 j hj'
      · rcases List.mem_cons.1 hj' with rfl | hj'
        · exact ⟨List.getElem_mem hm, hself⟩
        · exact a6 j hj'
      · rcases a7 k hk0 hk1 hk with h' | h'
        · rw [hrs] at h'
          by_cases ck : k.toNat = row[m].toNat
          · right; rw [show k = row[m] by omega]; exact .head _
          · rw [if_neg ck] at h'; exact .inl h'
        · exact .inr (.tail _ h')
      · rw [hap] at hR
        have := a8 R hR
        rw [← wrap_up hm (by omega)] at this
        refine Ev.step (fun k => by rw [impl_parts.l2]) ?_
        refine Ev.pos (by omega) ?_
        refine Ev.pos (by omega) ?_
        refine Ev.pos (by omega) ?_
        rw [rd_at row m hm]
        refine Ev.pos hj.1 ?_
        refine Ev.pos (by omega) ?_
        refine Ev.neg (by rw [c]; decide) ?_
        refine Ev.pos (by omega) ?_
        exact this
variable (hz : okZ z) (hr : ∀ i, (rd_L4 z i).length ≤ 1048576)
include hz hr
theorem part_outer (out : List (List Int)) (ho : out.length ≤ 1048576) (s i N : Int) (seen0 : Int → Prop) (u : Nat) : ∀ (seen : List Bool) (part : List Int) (h : Nat), free seen + (part.length - h) = u → h ≤ part.length → seen.length = z.length → free seen + part.length ≤ 1048577 → part.Nodup →
    (∀ q ∈ part, rdOf false seen q = true ∧ 0 ≤ q ∧ q < (z.length : Int)) → (∀ k, 0 ≤ k → k < (z.length : Int) → (rdOf false seen k = true ↔ seen0 k ∨ k ∈ part)) → (∀ q ∈ part.take h, ∀ j ∈ rd_L4 z q, rdOf false seen j = true) → (∀ P, closedZ z P → P s → ∀ q ∈ part, P q) → s ∈ part →
    ∃ (seen' : List Bool) (part' : List Int), seen'.length = z.length ∧ part'.Nodup ∧ (∀ q ∈ part', 0 ≤ q ∧ q < (z.length : Int)) ∧ s ∈ part' ∧ (∀ k, 0 ≤ k → k < (z.length : Int) → (rdOf false seen' k = true ↔ seen0 k ∨ k ∈ part')) ∧
      (∀ q ∈ part', ∀ j ∈ rd_L4 z q, seen0 j ∨ j ∈ part') ∧ (∀ P, closedZ z P → P s → ∀ q ∈ part', P q) ∧
      (∀ R, Ev (fun k => impl_parts.l0 k z (out ++ [sortL part']) seen' N (wrap64 (i + 1))) R → Ev (fun k => impl_parts.l1 k z out seen part (h : Int) N i) R) := by
  induction u with
  | zero =>
    intro seen part h h0 h1 h2 h3 h4 h5 h6 h7 h8 h9
    refine ⟨seen, part, h2, h4, fun q hq => (h5 q hq).2, h9, h6, fun q hq j hj => ?_, h8, fun R hR => ?_⟩
    · have hq' := h7 q (by rw [List.take_of_length_le (by omega)]; exact hq) j hj
      have hb := hz q (h5 q hq).2.1 (h5 q hq).2.2 j hj
      exact (h6 j hb.1 hb.2).1 hq'
    · refine Ev.step (fun k => by rw [impl_parts.l1]) ?_
      refine Ev.neg (by omega) ?_
      refine Ev.bindo (by unfold slices_Sort_int_int.f; rw [if_pos (by omega)]) ?_
      refine Ev.pos (by omega) ?_
      exact hR
  | succ u ih =>
    intro seen part h h0 h1 h2 h3 h4 h5 h6 h7 h8 h9
    by_cases ce : h = part.length
    · refine ⟨seen, part, h2, h4, fun q hq => (h5 q hq).2, h9, h6, fun q hq j hj => ?_, h8, fun R hR => ?_⟩
      · have hq' := h7 q (by rw [List.take_of_length_le (by omega)]; exact hq) j hj
        have hb := hz q (h5 q hq).2.1 (h5 q hq).2.2 j hj
        exact (h6 j hb.1 hb.2).1 hq'
      · refine Ev.step (fun k => by rw [impl_parts.l1]) ?_
        refine Ev.neg (by omega) ?_
        refine Ev.bindo (by unfold slices_Sort_int_int.f; rw [if_pos (by omega)]) ?_
        refine Ev.pos (by omega) ?_
        exact hR
    have hh : h < part.length := by omega
    obtain ⟨q2, q0, q1⟩ := h5 part[h] (List.getElem_mem hh)
    have hrow := hz part[h] q0 q1
    obtain ⟨seen', new, a1, a2, a3, a4, a5, a6, a7, a8⟩ := part_inner hn hrow (hr _) out (h : Int) i N ((rd_L4 z part[h]).length - 0) 0 seen part rfl (Nat.zero_le _) h2 h3 h4 h5
    rw [List.drop_zero] at a5
    simp only [Int.natCast_zero] at a8
    obtain ⟨S', p', b1, b2, b3, b4, b5, b6, b7, b8⟩ := ih seen' (part ++ new) (h + 1) (by rw [List.length_append] at a2 ⊢; omega) (by rw [List.length_append]; omega) a1 (by omega) a3
      (fun q hq => by
        rcases List.mem_append.1 hq with hq | hq
        · exact ⟨a4 q (h5 q hq).1, (h5 q hq).2⟩
        · exact ⟨(a6 q hq).2, hrow q (a6 q hq).1⟩)
      (fun k hk0 hk1 => by
        constructor
        · intro hk
          rcases a7 k hk0 hk1 hk with h' | h'
          · rcases (h6 k hk0 hk1).1 h' with h' | h'
            · exact .inl h'
            · exact .inr (List.mem_append_left _ h')
          · exact .inr (List.mem_append_right _ h')
        · intro hk
          rcases hk with hk | hk
          · exact a4 k ((h6 k hk0 hk1).2 (.inl hk))
          · rcases List.mem_append.1 hk with hk | hk
            · exact a4 k (h5 k hk).1
            · exact (a6 k hk).2)
      (fun q hq j hj => by
        rw [List.take_append_of_le_length (by omega), List.take_add_one, List.getElem?_eq_getElem hh] at hq
        rcases List.mem_append.1 hq with hq | hq
        · exact a4 j (h7 q hq j hj)
        · rw [show q = part[h] by simpa using hq] at hj; exact a5 j hj)
      (fun P hP hs q hq => by
        rcases List.mem_append.1 hq with hq | hq
        · exact h8 P hP hs q hq
        · exact hP part[h] q0 q1 (h8 P hP hs _ (List.getElem_mem hh)) q (a6 q hq).1)
      (List.mem_append_left _ h9)
    refine ⟨S', p', b1, b2, b3, b4, b5, b6, b7, fun R hR => ?_⟩
    have hwh : wrap64 ((h : Int) + 1) = ((h + 1 : Nat) : Int) := wrap_up hh (by omega)
    have e1 := b8 R hR
    rw [← hwh] at e1
    clear hwh
    have e2 := a8 R e1
    refine Ev.step (fun k => by rw [impl_parts.l1]) ?_
    refine Ev.pos (by omega) ?_
    refine Ev.pos (by omega) ?_
    rw [rd_at part h hh]
    refine Ev.pos q0 ?_
    refine Ev.pos q1 ?_
    exact e2
end
/-- The places of a list that is not below zero there. -/
def selD (dist : List Int) : Nat → Nat → List Int
  | 0, _ => []
  | d + 1, m => if 0 ≤ rd dist (m : Int) then (m : Int) :: selD dist d (m + 1) else selD dist d (m + 1)
theorem selD_mem (dist : List Int) (d : Nat) : ∀ (m : Nat) (x : Int), x ∈ selD dist d m ↔ (m : Int) ≤ x ∧ x < ((m + d : Nat) : Int) ∧ 0 ≤ rd dist x := by
  induction d with
  | zero => intro m x; simp only [selD]; constructor
            · intro h; cases h
            · intro h; omega
  | succ d ih =>
    intro m x
    have := ih (m + 1) x
    unfold selD
    by_cases c : 0 ≤ rd dist (m : Int)
    · rw [if_pos c, List.mem_cons, this]
      constructor
      · rintro (rfl | h)
        · exact ⟨Int.le_refl _, by omega, c⟩
        · exact ⟨by omega, by omega, h.2.2⟩
      · intro h
        by_cases e : x = (m : Int)
        · exact .inl e
        · exact .inr ⟨by omega, by omega, h.2.2⟩
    · rw [if_neg c, this]
      constructor
      · intro h; exact ⟨by omega, by omega, h.2.2⟩
      · intro h
        have : x ≠ (m : Int) := fun e => c (e ▸ h.2.2)
        exact ⟨by omega, by omega, h.2.2⟩
theorem selD_strict (dist : List Int) (d : Nat) : ∀ (m : Nat), (selD dist d m).Pairwise (· < ·) := by
  induction d with
  | zero => intro m; exact .nil
  | succ d ih =>
    intro m
    unfold selD
    split
    · refine List.pairwise_cons.2 ⟨fun x hx => ?_, ih (m + 1)⟩
      have := (selD_mem dist d (m + 1) x).1 hx
      omega
    · exact ih (m + 1)
theorem spart_loop {z out : List (List Int)} (ho : out.length ≤ 1048576) (i : Int) (dist : List Int) (hd : dist.length = z.length) (hn : z.length ≤ 1048576) (d : Nat) : ∀ (m : Nat) (seen : List Bool) (acc : List Int), dist.length - m = d → m ≤ dist.length → seen.length = z.length → acc.length ≤ m →
    ∃ seen' : List Bool, seen'.length = z.length ∧ (∀ k, 0 ≤ k → k < (z.length : Int) → (rdOf false seen' k = true ↔ rdOf false seen k = true ∨ ((m : Int) ≤ k ∧ 0 ≤ rd dist k))) ∧
      ∀ R, Ev (fun k => spec_l2Parts.l0 k (out ++ [acc ++ selD dist d m]) z seen' (wrap64 (i + 1))) R → Ev (fun k => spec_l2Parts.l1 k out z seen i acc dist (m : Int)) R := by
  induction d with
  | zero =>
    intro m seen acc h0 h1 h2 h3
    refine ⟨seen, h2, fun k hk0 hk1 => ⟨fun h => .inl h, fun h => h.elim id fun h => ?_⟩, fun R hR => ?_⟩
    · omega
    · rw [selD, List.append_nil] at hR
      refine Ev.step (fun k => by rw [spec_l2Parts.l1]) ?_
      refine Ev.neg (by omega) ?_
      refine Ev.pos (by omega) ?_
      exact hR
  | succ d ih =>
    intro m seen acc h0 h1 h2 h3
    have hm : m < dist.length := by omega
    by_cases c : 0 ≤ rd dist (m : Int)
    · have hml : ((m : Int)).toNat < seen.length := by omega
      have hrs : ∀ k, rdOf false (seen.set ((m : Int)).toNat true) k = if k.toNat = ((m : Int)).toNat then true else rdOf false seen k := fun k => rdB_set seen (m : Int) k true hml
      obtain ⟨seen', a1, a2, a3⟩ := ih (m + 1) (seen.set ((m : Int)).toNat true) (acc ++ [(m : Int)]) (by omega) (by omega) (by rw [List.length_set, h2]) (by simp; omega)
      refine ⟨seen', a1, fun k hk0 hk1 => ?_, fun R hR => ?_⟩
      · rw [a2 k hk0 hk1, hrs]
        by_cases ck : k.toNat = ((m : Int)).toNat
        · rw [if_pos ck]
          have : k = (m : Int) := by omega
          subst this
          exact ⟨fun _ => .inr ⟨Int.le_refl _, c⟩, fun _ => .inl rfl⟩
        · rw [if_neg ck]
          constructor
          · rintro (h | h)
            · exact .inl h
            · exact .inr ⟨by omega, h.2⟩
          · rintro (h | h)
            · exact .inl h
            · exact .inr ⟨by omega, h.2⟩
      · have := a3 R (by rw [List.append_assoc, List.singleton_append]; unfold selD at hR; rw [if_pos c] at hR; exact hR)
        rw [← wrap_up hm (by omega)] at this
        refine Ev.step (fun k => by rw [spec_l2Parts.l1]) ?_
        refine Ev.pos (by omega) ?_
        refine Ev.pos (by omega) ?_
        refine Ev.pos c ?_
        refine Ev.pos (by omega) ?_
        refine Ev.pos (by omega) ?_
        exact this
    · obtain ⟨seen', a1, a2, a3⟩ := ih (m + 1) seen acc (by omega) (by omega) h2 (by omega)
      refine ⟨seen', a1, fun k hk0 hk1 => ?_, fun R hR => ?_⟩
      · rw [a2 k hk0 hk1]
        constructor
        · rintro (h | h)
          · exact .inl h
          · exact .inr ⟨by omega, h.2⟩
        · rintro (h | h)
          · exact .inl h
          · have : k ≠ (m : Int) := fun e => c (e ▸ h.2)
            exact .inr ⟨by omega, h.2⟩
      · have := a3 R (by unfold selD at hR; rw [if_neg c] at hR; exact hR)
        rw [← wrap_up hm (by omega)] at this
        refine Ev.step (fun k => by rw [spec_l2Parts.l1]) ?_
        refine Ev.pos (by omega) ?_
        refine Ev.pos (by omega) ?_
        refine Ev.neg c ?_
        exact this
section
variable {z : List (List Int)} (hn : z.length ≤ 1048576) (hz : okZ z) (hr : ∀ i, (rd_L4 z i).length ≤ 1048576) (hs : symZ z)
include hn hz hr hs
/-- Both sides, from a place on. -/
theorem parts_loop (d : Nat) : ∀ (m : Nat) (out : List (List Int)) (seen : List Bool), z.length - m = d → m ≤ z.length → out.length ≤ m → seen.length = z.length → closedZ z (fun k => rdOf false seen k = true) → (∀ s ∈ out, s.length ≤ 1048576 ∧ ∀ x ∈ s, 0 ≤ x ∧ x < (z.length : Int)) → (∀ s ∈ out, 0 < s.length) →
    ∃ R, Ev (fun k => impl_parts.l0 k z out seen (z.length : Int) (m : Int)) R ∧ Ev (fun k => spec_l2Parts.l0 k out z seen (m : Int)) R ∧ R.length ≤ z.length ∧ (∀ s ∈ R, s.length ≤ 1048576 ∧ ∀ x ∈ s, 0 ≤ x ∧ x < (z.length : Int)) ∧ (∀ s ∈ R, 0 < s.length) := by
  induction d with
  | zero =>
    intro m out seen h0 h1 h2 h3 h4 h5 h6
    exact ⟨out, Ev.step (fun k => by rw [impl_parts.l0]) (Ev.neg (by omega) (Ev.now _)), Ev.step (fun k => by rw [spec_l2Parts.l0]) (Ev.neg (by omega) (Ev.now _)), by omega, h5, h6⟩
  | succ d ih =>
    intro m out seen h0 h1 h2 h3 h4 h5 h6
    have hm : m < z.length := by omega
    have hml : ((m : Int)).toNat < seen.length := by omega
    cases c : rdOf false seen (m : Int) with
    | true =>
      obtain ⟨R, a1, a2, a3, a4⟩ := ih (m + 1) out seen (by omega) (by omega) (by omega) h3 h4 h5 h6
      rw [← wrap_up hm (by omega)] at a1 a2
      exact ⟨R, Ev.step (fun k => by rw [impl_parts.l0]) (Ev.pos (by omega) (Ev.pos (by omega) (Ev.pos (by omega) (Ev.pos c a1)))), Ev.step (fun k => by rw [spec_l2Parts.l0]) (Ev.pos (by omega) (Ev.pos (by omega) (Ev.pos (by omega) (Ev.pos c a2)))), a3, a4⟩
    | false =>
      obtain ⟨D, e1, e2, e3, e4, e5, e6, e7, _⟩ := spread_both hz hn hr (m : Int) (by omega) (by omega)
      have hrs : ∀ k, rdOf false (seen.set ((m : Int)).toNat true) k = if k.toNat = ((m : Int)).toNat then true else rdOf false seen k := fun k => rdB_set seen (m : Int) k true hml
      have hfr := free_set seen (m : Int) hml c
      have hfl : free seen ≤ z.length := by have := List.countP_le_length (p := fun x => !x) (l := seen); unfold free; omega
      obtain ⟨seen', part', p1, p2, p3, p4, p5, p6, p7, p8⟩ := part_outer hn hz hr out (by omega) (m : Int) (m : Int) (z.length : Int) (fun k => rdOf false seen k = true) _ (seen.set ((m : Int)).toNat true) [(m : Int)] 0 rfl (Nat.zero_le _) (by rw [List.length_set, h3]) (by rw [List.length_singleton]; omega) (by simp)
        (fun q hq => by rw [show q = (m : Int) by simpa using hq]; exact ⟨by rw [hrs, if_pos rfl], by omega, by omega⟩)
        (fun k hk0 hk1 => by
          rw [hrs]
          by_cases ck : k.toNat = ((m : Int)).toNat
          · rw [if_pos ck]; exact ⟨fun _ => .inr (by rw [show k = (m : Int) by omega]; exact .head _), fun _ => rfl⟩
          · rw [if_neg ck]
            exact ⟨fun h => .inl h, fun h => h.elim id fun h => absurd (show k.toNat = ((m : Int)).toNat by rw [show k = (m : Int) by simpa using h]) ck⟩)
        (fun q hq => by simp at hq) (fun P hP hs' q hq => by rw [show q = (m : Int) by simpa using hq]; exact hs') (.head _)
      obtain ⟨seenF, f1, f2, f3⟩ := spart_loop (z := z) (out := out) (by omega) (m : Int) D e3 hn (D.length - 0) 0 seen [] rfl (Nat.zero_le _) h3 (Nat.zero_le _)
      simp only [Int.natCast_zero] at p8 f3
      -- what is reached was not seen before
      have hdis : ∀ k, 0 ≤ k → k < (z.length : Int) → 0 ≤ rd D k → rdOf false seen k = false := by
        have hP : closedZ z (fun k => 0 ≤ rd D k ∧ rdOf false seen k = false) := by
          intro a a0 a1 ⟨h', h''⟩ j hj
          have hb := hz a a0 a1 j hj
          refine ⟨e6 a a0 a1 h' j hj, ?_⟩
          cases cj : rdOf false seen j with
          | false => rfl
          | true =>
            have h3' : rdOf false seen a = true := h4 j hb.1 hb.2 cj a (hs a j a0 a1 hb.1 hb.2 hj)
            rw [h''] at h3'
            cases h3'
        exact fun k hk0 hk1 hk => (e7 _ hP ⟨e5, c⟩ k hk0 hk1 hk).2
      have hsub : ∀ q ∈ part', 0 ≤ rd D q := fun q hq => p7 (fun k => 0 ≤ rd D k) e6 e5 q hq
      have hsup : ∀ k, 0 ≤ k → k < (z.length : Int) → 0 ≤ rd D k → k ∈ part' := by
        have hP : closedZ z (fun k => k ∈ part') := by
          intro a a0 a1 ha j hj
          have hb := hz a a0 a1 j hj
          rcases p6 a ha j hj with h' | h'
          · have := hdis j hb.1 hb.2 (e6 a a0 a1 (hsub a ha) j hj)
            rw [this] at h'
            cases h'
          · exact h'
        exact fun k hk0 hk1 hk => e7 _ hP p4 k hk0 hk1 hk
      have hpart : sortL part' = selD D (D.length - 0) 0 := by
        refine strict_ext (sortL_strict p2) (selD_strict _ _ _) fun x => ?_
        rw [sortL_mem, selD_mem]
        constructor
        · intro hx; exact ⟨by have := (p3 x hx).1; omega, by have := (p3 x hx).2; omega, hsub x hx⟩
        · intro hx; exact hsup x (by omega) (by omega) hx.2.2
      have hseen : seen' = seenF := by
        refine listB_ext (by omega) fun k hk0 hk1 => ?_
        rw [Bool.eq_iff_iff, p5 k hk0 (by omega), f2 k hk0 (by omega)]
        constructor
        · rintro (h | h)
          · exact .inl h
          · exact .inr ⟨by omega, hsub k h⟩
        · rintro (h | h)
          · exact .inl h
          · exact .inr (hsup k hk0 (by omega) h.2)
      obtain ⟨R, a1, a2, a3, a4⟩ := ih (m + 1) (out ++ [sortL part']) seen' (by omega) (by omega) (by simp; omega) p1
        (fun a a0 a1 ha j hj => by
          have hb := hz a a0 a1 j hj
          rcases (p5 a a0 a1).1 ha with h' | h'
          · exact (p5 j hb.1 hb.2).2 (.inl (h4 a a0 a1 h' j hj))
          · exact (p5 j hb.1 hb.2).2 (p6 a h' j hj))
        (fun s hs' => by
          rcases List.mem_append.1 hs' with hs' | hs'
          · exact h5 s hs'
          · rw [show s = sortL part' by simpa using hs', sortL_len]
            refine ⟨?_, fun x hx => p3 x ((sortL_mem _ _).1 hx)⟩
            have hb : part'.length ≤ z.length := by
              rw [← sortL_len, hpart]
              have : ∀ (d m : Nat), (selD D d m).length ≤ d := by
                intro d
                induction d with
                | zero => intro m; exact Nat.le_refl _
                | succ d ihd => intro m; have := ihd (m + 1); unfold selD; split <;> (try simp only [List.length_cons]) <;> omega
              have := this (D.length - 0) 0
              omega
            omega)
        (fun s hs' => by
          rcases List.mem_append.1 hs' with hs' | hs'
          · exact h6 s hs'
          · rw [show s = sortL part' by simpa using hs', sortL_len]
            exact List.length_pos_of_mem p4)
      rw [← wrap_up hm (by omega)] at a1 a2
      refine ⟨R, ?_, ?_, a3, a4⟩
      · refine Ev.step (fun k => by rw [impl_parts.l0]) ?_
        refine Ev.pos (by omega) ?_
        refine Ev.pos (by omega) ?_
        refine Ev.pos (by omega) ?_
        refine Ev.neg (by rw [c]; decide) ?_
        exact p8 R a1
      · refine Ev.step (fun k => by rw [spec_l2Parts.l0]) ?_
        refine Ev.pos (by omega) ?_
        refine Ev.pos (by omega) ?_
        refine Ev.pos (by omega) ?_
        refine Ev.neg (by rw [c]; decide) ?_
        refine Ev.bind e2 (f3 R ?_)
        rw [List.nil_append, ← hpart, ← hseen]
        exact a2
end
end Go.Proofs.Ythnojbafclglpaa.P
namespace Go.Proofs.Ythnojbafclglpaa.P
open Go.RowKit Go.Proofs.YthnojbafclglpaaW.PrintWords Go.Proofs.YthnojbafclglpaaW.PrintLast Go.Proofs.YthnojbafclglpaaW.PrintMore
set_option linter.unusedVariables false
set_option linter.unusedSimpArgs false

theorem rowL_mem (e : List PrT) (i j : Int) : j ∈ rowL e i ↔ ∃ p ∈ e, (p.f0 = i ∧ p.f1 = j) ∨ (p.f0 ≠ i ∧ p.f1 = i ∧ p.f0 = j) := by
  unfold rowL
  rw [List.mem_filterMap]
  refine exists_congr fun p => and_congr_right fun _ => ?_
  unfold pickL
  by_cases c0 : p.f0 = i
  · rw [if_pos c0]; simp [c0]
  · rw [if_neg c0]
    by_cases c1 : p.f1 = i
    · rw [if_pos c1]; simp [c0, c1]
    · rw [if_neg c1]; simp [c0, c1]
section
variable (l : List (List Int)) (e : List PrT) (hm : modS l e) (hg : goodP (l.length : Int) none e = true)
include hm hg
theorem roadsL_ok : okZ (roadsL l e) := by
  have _hu := hm
  have ha := goodP_all (l.length : Int) e none hg
  intro i h0 h1 j hj
  rw [roadsL_len] at h1 ⊢
  unfold roadsL at hj
  rw [rowsOf_rd _ h0 h1, rowL_mem] at hj
  obtain ⟨p, hp, h⟩ := hj
  have := ha p hp
  omega
theorem roadsL_sym : symZ (roadsL l e) := by
  have _hu := hm
  have ha := goodP_all (l.length : Int) e none hg
  intro i j h0 h1 h2 h3 hj
  rw [roadsL_len] at h1 h3
  unfold roadsL at hj ⊢
  rw [rowsOf_rd _ h0 h1, rowL_mem] at hj
  rw [rowsOf_rd _ h2 h3, rowL_mem]
  obtain ⟨p, hp, h⟩ := hj
  refine ⟨p, hp, ?_⟩
  have := ha p hp
  omega
theorem roadsL_row (i : Int) : (rd_L4 (roadsL l e) i).length ≤ 1048576 := by
  have _hu := hg
  unfold rd_L4
  rw [List.getD_eq_getElem?_getD]
  cases h : (roadsL l e)[i.toNat]? with
  | none => exact Nat.zero_le _
  | some s =>
    have hs := List.mem_of_getElem? h
    unfold roadsL rowsOf at hs
    obtain ⟨q, _, rfl⟩ := List.mem_map.1 hs
    exact Nat.le_trans (rowL_le _ _) hm.2.2
theorem parts_both : ∃ R, Ev (fun k => impl_parts.f k (roadsL l e) (-1)) R ∧ Ev (fun k => spec_l2Parts.f k l e) R ∧ R.length ≤ l.length ∧ (∀ s ∈ R, s.length ≤ 1048576 ∧ ∀ x ∈ s, 0 ≤ x ∧ x < (l.length : Int)) ∧ (∀ s ∈ R, 0 < s.length) := by
  have hn : (roadsL l e).length ≤ 1048576 := by rw [roadsL_len]; exact hm.1
  have hrep : ∀ k, rdOf false (List.replicate (roadsL l e).length false) k = false := fun k => by
    unfold rdOf; rw [List.getD_eq_getElem?_getD, List.getElem?_replicate]; split <;> rfl
  obtain ⟨R, r1, r2, r3, r4, r5⟩ := parts_loop hn (roadsL_ok l e hm hg) (roadsL_row l e hm hg) (roadsL_sym l e hm hg) ((roadsL l e).length - 0) 0 [] (List.replicate (roadsL l e).length false) rfl (Nat.zero_le _) (Nat.zero_le _) (List.length_replicate ..)
    (fun i _ _ hi j _ => by have h3 : rdOf false (List.replicate (roadsL l e).length false) i = true := hi; rw [hrep] at h3; cases h3) (fun s hs => by cases hs) (fun s hs => by cases hs)
  simp only [Int.natCast_zero] at r1 r2
  refine ⟨R, ?_, ?_, by rw [roadsL_len] at r3; exact r3, fun s hs => by have := r4 s hs; rw [roadsL_len] at this; exact this, r5⟩
  · unfold impl_parts.f
    refine Ev.bindo rfl ?_
    refine Ev.pos (by omega) ?_
    refine Ev.pos (by rw [Int.toNat_natCast]; omega) ?_
    refine Ev.bindo rfl ?_
    refine Ev.neg (by decide) ?_
    rw [Int.toNat_natCast]
    refine Ev.step (fun k => by rw [impl_parts.j0]) ?_
    exact r1
  · unfold spec_l2Parts.f
    refine Ev.bind (lists_ev l e hm hg) ?_
    refine Ev.pos (by omega) ?_
    refine Ev.pos (by rw [Int.toNat_natCast]; omega) ?_
    rw [Int.toNat_natCast]
    exact r2
end
end Go.Proofs.Ythnojbafclglpaa.P
namespace Go.Proofs.Ythnojbafclglpaa.P
open Go.RowKit Go.Proofs.YthnojbafclglpaaW.PrintWords Go.Proofs.YthnojbafclglpaaW.PrintLast Go.Proofs.YthnojbafclglpaaW.PrintMore
set_option linter.unusedVariables false
set_option linter.unusedSimpArgs false

section
variable (l : List (List Int)) (e : List S64) (x5 z : List (List Int)) (n : Nat) (hz : z.length ≤ 1048576) (hr : ∀ s ∈ z, s.length ≤ 1048576 ∧ ∀ x ∈ s, 0 ≤ x ∧ x < (n : Int))
include hz hr
theorem par_inner (i : Nat) (hi : i < z.length) (D : List Int) (hD : D.length = n) (d : Nat) : ∀ (m : Nat) (out : List Int), z[i].length - m = d → m ≤ z[i].length → out.length = n →
    ∃ out' : List Int, out'.length = n ∧ (∀ R, Ev (fun k => spec_ParityOf.l0 k out' x5 z (wrap64 ((i : Int) + 1)) l e) R → Ev (fun k => spec_ParityOf.l1 k out x5 z (i : Int) D (m : Int) l e) R) ∧
      (∀ R, Ev (fun k => impl_ParityOf.l0 k out' x5 z (z.length : Int) (wrap64 ((i : Int) + 1)) l e) R → Ev (fun k => impl_ParityOf.l1 k out x5 D z (z.length : Int) (i : Int) z[i] (z[i].length : Int) (m : Int) l e) R) := by
  have _hu := hz
  have hrow := hr z[i] (List.getElem_mem hi)
  have hrd := rdL_at z i hi
  induction d with
  | zero =>
    intro m out h0 h1 h2
    refine ⟨out, h2, fun R hR => ?_, fun R hR => ?_⟩
    · refine Ev.step (fun k => by rw [spec_ParityOf.l1]) ?_
      refine Ev.pos (by omega) ?_
      refine Ev.pos (by omega) ?_
      rw [hrd]
      exact Ev.neg (by omega) hR
    · refine Ev.step (fun k => by rw [impl_ParityOf.l1]) ?_
      exact Ev.neg (by omega) hR
  | succ d ih =>
    intro m out h0 h1 h2
    have hm : m < z[i].length := by omega
    have hx := hrow.2 z[i][m] (List.getElem_mem hm)
    obtain ⟨out', a0, a1, a2⟩ := ih (m + 1) (out.set z[i][m].toNat (Int.tmod (rd D z[i][m]) 2)) (by omega) (by omega) (by rw [List.length_set, h2])
    rw [← wrap_up hm (by omega)] at a1 a2
    refine ⟨out', a0, fun R hR => ?_, fun R hR => ?_⟩
    · have h3 := a1 R hR
      refine Ev.step (fun k => by rw [spec_ParityOf.l1]) ?_
      refine Ev.pos (by omega) ?_
      refine Ev.pos (by omega) ?_
      rw [hrd]
      refine Ev.pos (by omega) ?_
      refine Ev.pos (by omega) ?_
      rw [rd_at z[i] m hm]
      refine Ev.pos hx.1 ?_
      refine Ev.pos (by omega) ?_
      refine Ev.pos (by omega) ?_
      exact h3
    · have h3 := a2 R hR
      refine Ev.step (fun k => by rw [impl_ParityOf.l1]) ?_
      refine Ev.pos (by omega) ?_
      refine Ev.pos (by omega) ?_
      refine Ev.pos (by omega) ?_
      rw [rd_at z[i] m hm]
      refine Ev.pos hx.1 ?_
      refine Ev.pos (by omega) ?_
      refine Ev.pos (by omega) ?_
      exact h3
theorem par_outer (hx : x5.length = n) (hn : n ≤ 1048576) (hok : okZ x5) (hrl : ∀ i, (rd_L4 x5 i).length ≤ 1048576) (hne : ∀ s ∈ z, 0 < s.length) (d : Nat) : ∀ (m : Nat) (out : List Int), z.length - m = d → m ≤ z.length → out.length = n →
    ∃ out' : List Int, out'.length = n ∧ (∀ R, Ev (fun k => spec_ParityOf.l2 k out' 0 l e) R → Ev (fun k => spec_ParityOf.l0 k out x5 z (m : Int) l e) R) ∧
      (∀ R, Ev (fun k => impl_ParityOf.l2 k out' e (e.length : Int) 0) R → Ev (fun k => impl_ParityOf.l0 k out x5 z (z.length : Int) (m : Int) l e) R) := by
  induction d with
  | zero =>
    intro m out h0 h1 h2
    refine ⟨out, h2, fun R hR => ?_, fun R hR => ?_⟩
    · refine Ev.step (fun k => by rw [spec_ParityOf.l0]) ?_
      exact Ev.neg (by omega) hR
    · refine Ev.step (fun k => by rw [impl_ParityOf.l0]) ?_
      exact Ev.neg (by omega) hR
  | succ d ih =>
    intro m out h0 h1 h2
    have hm : m < z.length := by omega
    have hrow := hr z[m] (List.getElem_mem hm)
    have hpos := hne z[m] (List.getElem_mem hm)
    have hs := hrow.2 z[m][0] (List.getElem_mem hpos)
    have h00 := rd_at z[m] 0 hpos
    simp only [Int.natCast_zero] at h00
    obtain ⟨D, e1, e2, e3, _⟩ := spread_both hok (by omega) hrl z[m][0] hs.1 (by omega)
    obtain ⟨out1, a0, a1, a2⟩ := par_inner l e x5 z n hz hr m hm D (by omega) (z[m].length - 0) 0 out rfl (Nat.zero_le _) h2
    obtain ⟨out', b0, b1, b2⟩ := ih (m + 1) out1 (by omega) (by omega) a0
    rw [← wrap_up hm (by omega)] at b1 b2
    simp only [Int.natCast_zero] at a1 a2
    refine ⟨out', b0, fun R hR => ?_, fun R hR => ?_⟩
    · have h3 := a1 R (b1 R hR)
      refine Ev.step (fun k => by rw [spec_ParityOf.l0]) ?_
      refine Ev.pos (by omega) ?_
      refine Ev.pos (by omega) ?_
      rw [rdL_at z m hm]
      refine Ev.pos (by omega) ?_
      rw [h00]
      refine Ev.bind e2 ?_
      exact h3
    · have h3 := a2 R (b2 R hR)
      refine Ev.step (fun k => by rw [impl_ParityOf.l0]) ?_
      refine Ev.pos (by omega) ?_
      refine Ev.pos (by omega) ?_
      refine Ev.pos (by omega) ?_
      rw [rdL_at z m hm]
      refine Ev.pos (by omega) ?_
      rw [h00]
      refine Ev.bind e1 ?_
      exact h3
omit hz hr in
theorem par_check (he : e.length ≤ 1048576) (hn : n ≤ 1048576) (hg : goodP (n : Int) none e = true) (out : List Int) (ho : out.length = n) (d : Nat) : ∀ (m : Nat), e.length - m = d → m ≤ e.length →
    ∃ (q0 : List Int) (q1 : Bool), q0.length ≤ 1048576 ∧ Ev (fun k => spec_ParityOf.l2 k out (m : Int) l e) (q0, q1) ∧ Ev (fun k => impl_ParityOf.l2 k out e (e.length : Int) (m : Int)) (q0, q1) := by
  induction d with
  | zero =>
    intro m h0 h1
    refine ⟨out, true, by omega, ?_, ?_⟩
    · refine Ev.step (fun k => by rw [spec_ParityOf.l2]) ?_
      exact Ev.neg (by omega) (Ev.now _)
    · refine Ev.step (fun k => by rw [impl_ParityOf.l2]) ?_
      exact Ev.neg (by omega) (Ev.now _)
  | succ d ih =>
    intro m h0 h1
    have hm : m < e.length := by omega
    have hs := goodP_all _ e none hg e[m] (List.getElem_mem hm)
    by_cases c : rd out e[m].f0 = rd out e[m].f1
    · refine ⟨[], false, Nat.zero_le _, ?_, ?_⟩
      · refine Ev.step (fun k => by rw [spec_ParityOf.l2]) ?_
        refine Ev.pos (by omega) ?_
        refine Ev.pos (by omega) ?_
        rw [rdT_at e m hm]
        refine Ev.pos (by omega) ?_
        refine Ev.pos (by omega) ?_
        refine Ev.pos (by omega) ?_
        refine Ev.pos (by omega) ?_
        exact Ev.pos c (Ev.now _)
      · refine Ev.step (fun k => by rw [impl_ParityOf.l2]) ?_
        refine Ev.pos (by omega) ?_
        refine Ev.pos (by omega) ?_
        refine Ev.pos (by omega) ?_
        rw [rdT_at e m hm]
        refine Ev.pos (by omega) ?_
        refine Ev.pos (by omega) ?_
        refine Ev.pos (by omega) ?_
        refine Ev.pos (by omega) ?_
        exact Ev.pos c (Ev.now _)
    · obtain ⟨q0, q1, a0, a1, a2⟩ := ih (m + 1) (by omega) (by omega)
      rw [← wrap_up hm (by omega)] at a1 a2
      refine ⟨q0, q1, a0, ?_, ?_⟩
      · refine Ev.step (fun k => by rw [spec_ParityOf.l2]) ?_
        refine Ev.pos (by omega) ?_
        refine Ev.pos (by omega) ?_
        rw [rdT_at e m hm]
        refine Ev.pos (by omega) ?_
        refine Ev.pos (by omega) ?_
        refine Ev.pos (by omega) ?_
        refine Ev.pos (by omega) ?_
        exact Ev.neg c a1
      · refine Ev.step (fun k => by rw [impl_ParityOf.l2]) ?_
        refine Ev.pos (by omega) ?_
        refine Ev.pos (by omega) ?_
        refine Ev.pos (by omega) ?_
        rw [rdT_at e m hm]
        refine Ev.pos (by omega) ?_
        refine Ev.pos (by omega) ?_
        refine Ev.pos (by omega) ?_
        refine Ev.pos (by omega) ?_
        exact Ev.neg c a2
end
theorem Both_FnExactParityOf (l0_0 : List (List Int)) (l0_1 : List S64) (w0_0 : FitLL l0_0) (w0_1 : FitP l0_1) (hm0 : modS l0_0 l0_1) : ∃ (q0 : List Int) (q1 : Bool), Ev (fun k => spec_ParityOf.f k l0_0 l0_1) (q0, q1) ∧ Ev (fun k => impl_ParityOf.f k l0_0 l0_1) (q0, q1) ∧ q0.length ≤ 1048576 := by
  have hm := hm0.1
  have hs := l2Space_ev l0_0 l0_1 hm0
  have hi := impl_IsSpace_ev l0_0 l0_1 hm0
  cases h : okS l0_0 l0_1 with
  | true =>
    rw [h] at hs hi
    have hg := okS_goodL h
    obtain ⟨Z, r1, r2, r3, r4, r5⟩ := parts_both l0_0 l0_1 hm0 hg.2
    obtain ⟨out, a0, a1, a2⟩ := par_outer l0_0 l0_1 (roadsL l0_0 l0_1) Z l0_0.length (by omega) r4 (roadsL_len l0_0 l0_1) hm (roadsL_ok l0_0 l0_1 hm0 hg.2) (roadsL_row l0_0 l0_1 hm0 hg.2) r5 (Z.length - 0) 0 (List.replicate l0_0.length 0) rfl (Nat.zero_le _) (List.length_replicate ..)
    obtain ⟨q0, q1, b0, b1, b2⟩ := par_check l0_0 l0_1 l0_0.length hm0.2.2 hm hg.2 out a0 (l0_1.length - 0) 0 rfl (Nat.zero_le _)
    simp only [Int.natCast_zero] at a1 a2 b1 b2
    refine ⟨q0, q1, ?_, ?_, b0⟩
    · have h3 := a1 _ b1
      unfold spec_ParityOf.f
      refine Ev.bind hs ?_
      refine Ev.pos rfl ?_
      refine Ev.pos (by omega) ?_
      refine Ev.pos (by rw [Int.toNat_natCast]; omega) ?_
      rw [Int.toNat_natCast]
      refine Ev.bind (lists_ev l0_0 l0_1 hm0 hg.2) ?_
      refine Ev.bind r2 ?_
      exact h3
    · have h3 := a2 _ b2
      unfold impl_ParityOf.f
      refine Ev.bind hi ?_
      refine Ev.pos rfl ?_
      refine Ev.pos (by omega) ?_
      refine Ev.pos (by rw [Int.toNat_natCast]; omega) ?_
      rw [Int.toNat_natCast]
      refine Ev.bind (roads_ev l0_0 l0_1 hm0 hg.2) ?_
      refine Ev.bind r1 ?_
      exact h3
  | false =>
    rw [h] at hs hi
    refine ⟨[], false, ?_, ?_, Nat.zero_le _⟩
    · unfold spec_ParityOf.f
      refine Ev.bind hs ?_
      exact Ev.neg (by decide) (Ev.now _)
    · unfold impl_ParityOf.f
      refine Ev.bind hi ?_
      exact Ev.neg (by decide) (Ev.now _)
end Go.Proofs.Ythnojbafclglpaa.P
namespace Go.Proofs.Ythnojbafclglpaa.P
open Go.RowKit Go.Proofs.YthnojbafclglpaaW.PrintWords Go.Proofs.YthnojbafclglpaaW.PrintLast Go.Proofs.YthnojbafclglpaaW.PrintMore
set_option linter.unusedVariables false
set_option linter.unusedSimpArgs false

def seqI : Nat → Int → List Int
  | 0, _ => []
  | n + 1, k => k :: seqI n (wrap64 (k + 1))
def endI : Nat → Int → Int
  | 0, k => k
  | n + 1, k => endI n (wrap64 (k + 1))
theorem seqI_len (n : Nat) : ∀ k, (seqI n k).length = n := by
  induction n with
  | zero => intro k; rfl
  | succ n ih => intro k; simp [seqI, ih]
theorem endI_at (n : Nat) : ∀ k, 0 ≤ k → k + (n : Int) ≤ 4611686018427387904 → endI n k = k + (n : Int) := by
  induction n with
  | zero => intro k h1 h2; simp [endI]
  | succ n ih =>
    intro k h1 h2
    have e1 : wrap64 (k + 1) = k + 1 := wrap_nat (by omega) (by omega)
    rw [endI, e1, ih (k + 1) (by omega) (by omega)]
    omega
theorem markInt_loop (d : Nat) : ∀ (done rest : List Int) (c : Int), rest.length = d → done.length + d ≤ 1048576 →
    Ev (fun k => laws_markIntS.l0 k (done ++ rest) c (done.length : Int)) (endI d c, done ++ seqI d c) := by
  induction d with
  | zero =>
    intro done rest c h0 h1
    refine Ev.step (fun k => by rw [laws_markIntS.l0]) ?_
    have : rest = [] := List.eq_nil_of_length_eq_zero h0
    subst this
    refine Ev.neg (by simp) ?_
    exact Ev.now _
  | succ d ih =>
    intro done rest c h0 h1
    obtain ⟨x, t, rfl⟩ : ∃ x t, rest = x :: t := by
      cases rest with
      | nil => simp at h0
      | cons x t => exact ⟨x, t, rfl⟩
    have h2 : t.length = d := by simpa using h0
    refine Ev.step (fun k => by rw [laws_markIntS.l0]) ?_
    refine Ev.pos (by simp; omega) (Ev.pos (by omega) ?_)
    have e : (done ++ x :: t).set ((done.length : Int)).toNat c = (done ++ [c]) ++ t := by
      rw [Int.toNat_natCast]
      simp
    have hw : wrap64 ((done.length : Int) + 1) = ((done ++ [c]).length : Int) := by
      rw [List.length_append, List.length_singleton]
      exact wrap_up (n := done.length + 1) (by omega) (by omega)
    rw [e, hw]
    have := ih (done ++ [c]) t (wrap64 (c + 1)) h2 (by rw [List.length_append, List.length_singleton]; omega)
    simpa only [seqI, endI, List.append_assoc, List.singleton_append] using this
theorem markInt_ev (l : List Int) (c : Int) (hl : l.length ≤ 1048576) : Ev (fun k => laws_markIntS.f k l c) (endI l.length c, seqI l.length c) := by
  unfold laws_markIntS.f
  have := markInt_loop l.length [] l c rfl (by simpa using hl)
  simpa only [List.nil_append, List.length_nil, Int.ofNat_eq_natCast, Int.natCast_zero] using this
theorem heldInt_loop (d : Nat) : ∀ (done : List Int) (c : Int), done.length + d ≤ 1048576 →
    Ev (fun k => laws_heldIntS.l0 k (done ++ seqI d c) c (done.length : Int)) (endI d c) := by
  induction d with
  | zero =>
    intro done c h1
    refine Ev.step (fun k => by rw [laws_heldIntS.l0]) ?_
    refine Ev.neg (by simp [seqI]) ?_
    exact Ev.now _
  | succ d ih =>
    intro done c h1
    refine Ev.step (fun k => by rw [laws_heldIntS.l0]) ?_
    have hlen : (done ++ seqI (d + 1) c).length = done.length + (d + 1) := by rw [List.length_append, seqI_len]
    refine Ev.pos (by rw [hlen]; omega) (Ev.pos (by omega) ?_)
    have hr : rd (done ++ seqI (d + 1) c) (done.length : Int) = c := by
      rw [rd_at _ _ (by rw [hlen]; omega)]
      simp [seqI]
    refine Ev.pos hr ?_
    have hw : wrap64 ((done.length : Int) + 1) = ((done ++ [c]).length : Int) := by
      rw [List.length_append, List.length_singleton]
      exact wrap_up (n := done.length + 1) (by omega) (by omega)
    rw [hw]
    have := ih (done ++ [c]) (wrap64 (c + 1)) (by rw [List.length_append, List.length_singleton]; omega)
    simpa only [seqI, endI, List.append_assoc, List.singleton_append] using this
theorem heldInt_ev (n : Nat) (c : Int) (hn : n ≤ 1048576) : Ev (fun k => laws_heldIntS.f k (seqI n c) c) (endI n c) := by
  unfold laws_heldIntS.f
  have := heldInt_loop n [] c (by simpa using hn)
  simpa only [List.nil_append, List.length_nil, Int.ofNat_eq_natCast, Int.natCast_zero] using this
theorem end1_pos (n : Nat) (hn : n ≤ 1048576) : ¬ endI n 1 < 0 := by rw [endI_at n 1 (by omega) (by omega)]; omega
end Go.Proofs.Ythnojbafclglpaa.P
namespace Go.Proofs.Ythnojbafclglpaa.P
open Go.RowKit Go.Proofs.YthnojbafclglpaaW.PrintWords Go.Proofs.YthnojbafclglpaaW.PrintLast Go.Proofs.YthnojbafclglpaaW.PrintMore
set_option linter.unusedVariables false
set_option linter.unusedSimpArgs false

theorem endS_eq (n : Nat) : ∀ k, endS n k = endI n k := by
  induction n with
  | zero => intro k; rfl
  | succ n ih => intro k; simp only [endS, endI, ih]
theorem markSS_fst (l : List (List Int)) : ∀ (k : Int), (∀ s ∈ l, s.length ≤ 1048576) → 0 ≤ k → k + 1048576 * (l.length : Int) ≤ 2305843009213693952 → 0 ≤ (markSS l k).1 ∧ (markSS l k).1 ≤ k + 1048576 * (l.length : Int) := by
  induction l with
  | nil => intro k _ h0 h1; simp only [markSS, List.length_nil]; omega
  | cons s t ih =>
    intro k hs h0 h1
    have h2 := hs s (.head _)
    rw [List.length_cons] at h1 ⊢
    have e1 : endS s.length k = k + (s.length : Int) := by rw [endS_eq, endI_at s.length k h0 (by omega)]
    simp only [markSS, e1]
    have := ih (k + (s.length : Int)) (fun q hq => hs q (.tail _ hq)) (by omega) (by omega)
    omega
theorem markSpace_at (l : List (List Int)) (e : List S64) (k : Int) : laws_markSpace.f l e k = some ((mark2 e (markSS l k).1).1, (markSS l k).2, (mark2 e (markSS l k).1).2) := rfl
theorem markSpace_le (l : List (List Int)) (e : List S64) (h : modS l e) : 0 ≤ (mark2 e (markSS l 1).1).1 ∧ (mark2 e (markSS l 1).1).1 ≤ 1125899906842624 + 1125899906842624 := by
  have h1 := markSS_fst l 1 h.2.1 (by omega) (by have := h.1; omega)
  have h2 := h.1
  have h3 := h.2.2
  rw [mark2_fst e _ h1.1 (by omega)]
  omega
theorem markSpace_pos (l : List (List Int)) (e : List S64) (h : modS l e) : ¬ (mark2 e (markSS l 1).1).1 < 0 := by have := (markSpace_le l e h).1; omega
theorem markSpace_ex (l : List (List Int)) (e : List S64) (h : modS l e) : ∃ k a b, laws_markSpace.f l e 1 = some (k, a, b) ∧ ¬ k < 0 ∧ k ≤ 2251799813685248 := ⟨_, _, _, markSpace_at l e 1, markSpace_pos l e h, (markSpace_le l e h).2⟩
theorem markInt_held (l : List Int) (h : l.length ≤ 1048576) : ∃ k b n, laws_markIntS.f n l 1 = some (k, b) ∧ ∃ m, laws_heldIntS.f m b 1 = some k ∧ ¬ k < 0 := by
  obtain ⟨n, hn⟩ := Ev.rounds (markInt_ev l 1 h)
  obtain ⟨m, hm⟩ := Ev.rounds (heldInt_ev l.length 1 h)
  exact ⟨_, _, n, hn, m, hm, end1_pos _ h⟩
end Go.Proofs.Ythnojbafclglpaa.P
namespace Go.Proofs.Ythnojbafclglpaa.P
open Go.RowKit Go.Proofs.YthnojbafclglpaaW.PrintWords Go.Proofs.YthnojbafclglpaaW.PrintLast Go.Proofs.YthnojbafclglpaaW.PrintMore
set_option linter.unusedVariables false
set_option maxHeartbeats 1000000 in
theorem Law_FnExactParityOf (A0_0 : Option Addr) (ca0_0 : Nat) (l0_0 : List (List Int)) (A0_1 : Option Addr) (ca0_1 : Nat) (l0_1 : List (S64)) (w : World) (hr0_0 : Kd.C (Kd.slice 3 (Kd.int .i64)) w A0_0 l0_0.length l0_0) (hc0_0 : l0_0.length ≤ ca0_0) (hr0_1 : Kd.C k64 w A0_1 l0_1.length l0_1) (hc0_1 : l0_1.length ≤ ca0_1) (w0_0 : FitLL l0_0) (w0_1 : FitP l0_1) :
    Calls Try.prog 7 #[.agg #[.slice A0_0 l0_0.length ca0_0, .slice A0_1 l0_1.length ca0_1]] w fun e w' => e = .returned (.bool true) ∧ Below w.heap.size w w' := by
  obtain ⟨t0, e0, m0⟩ := sz_space l0_0 l0_1 w0_0 w0_1.1
  obtain ⟨k0, h0⟩ := Ev.rounds e0
  by_cases c0 : t0 < 0
  · exact laws_FnExactParityOf.exit0 A0_0 ca0_0 l0_0 A0_1 ca0_1 l0_1 k0 t0 w hr0_0 hc0_0 hr0_1 hc0_1 c0 h0
  have hm0 := m0.resolve_left c0
  obtain ⟨q0, q1, es, ei, hb1⟩ := Both_FnExactParityOf l0_0 l0_1 w0_0 w0_1 hm0
  obtain ⟨k1, h1⟩ := Ev.rounds (toSpace_ev l0_0 l0_1 hm0)
  obtain ⟨k2, h2⟩ := Ev.rounds (es)
  obtain ⟨k3, h3⟩ := Ev.rounds (ei)
  obtain ⟨k4, h4⟩ := Ev.rounds (eqIntS_ev q0 hb1)
  obtain ⟨k5, h5⟩ := Ev.rounds (eqSpace_ev l0_0 l0_1 hm0)
  obtain ⟨kk0, mk0_0, mk0_1, h6, nkk0, pkk0⟩ := markSpace_ex l0_0 l0_1 hm0
  obtain ⟨kk1, mk1_0, k7, h7, k8, h8, nkk1⟩ := markInt_held q0 hb1
  exact laws_FnExactParityOf.walk A0_0 ca0_0 l0_0 A0_1 ca0_1 l0_1 k0 k1 k2 k3 k4 k5 k7 k8 t0 q0 q1 kk0 mk0_0 mk0_1 kk1 mk1_0 w hr0_0 hc0_0 hr0_1 hc0_1 c0 h0 h1 h2 h3 h4 h5 h6 h7 h8 nkk0 nkk1
end Go.Proofs.Ythnojbafclglpaa.P
