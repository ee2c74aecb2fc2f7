/- Both sides part the places alike. -/
import Derived.Test.YtaemfocjokkopaaCutPlacesG20
import Derived.Test.YtaemfocjokkopaaCutPlacesG16
import Derived.Test.YtaemfocjokkopaaCutPlacesG12
import Derived.Test.YtaemfocjokkopaaCutPlacesG18
namespace Go.Proofs.Ytaemfocjokkopaa.P
open Go.RowKit Go.Proofs.YtaemfocjokkopaaW.PrintWords Go.Proofs.YtaemfocjokkopaaW.PrintLast Go.Proofs.YtaemfocjokkopaaW.PrintMore
set_option linter.unusedVariables false
set_option linter.unusedSimpArgs false

theorem rdB_set (l : List Bool) (j k : Int) (v : Bool) (h : j.toNat < l.length) : rdOf false (l.set j.toNat v) k = if k.toNat = j.toNat then v else rdOf false l k := by
  unfold rdOf
  rw [List.getD_eq_getElem?_getD, List.getD_eq_getElem?_getD, List.getElem?_set]
  by_cases c : j.toNat = k.toNat
  · rw [if_pos c, if_pos c.symm, if_pos h, Option.getD_some]
  · rw [if_neg c, if_neg (Ne.symm c)]
def free (l : List Bool) : Nat := l.countP fun x => !x
theorem free_set (l : List Bool) (j : Int) (h : j.toNat < l.length) (hj : rdOf false l j = false) : free (l.set j.toNat true) + 1 = free l := by
  have e1 : rdOf false l j = l[j.toNat] := by unfold rdOf; rw [List.getD_eq_getElem?_getD, List.getElem?_eq_getElem h, Option.getD_some]
  rw [e1] at hj
  unfold free
  rw [List.countP_set h]
  have hp : 0 < l.countP (fun x => !x) := List.countP_pos_iff.2 ⟨_, List.getElem_mem h, by rw [hj]; rfl⟩
  rw [if_pos (by rw [hj]; rfl), if_neg (by simp)]
  omega
theorem listB_ext {l m : List Bool} (hl : l.length = m.length) (h : ∀ k : Int, 0 ≤ k → k < (l.length : Int) → rdOf false l k = rdOf false m k) : l = m := by
  refine List.ext_getElem hl fun i h1 h2 => ?_
  have := h (i : Int) (by omega) (by omega)
  unfold rdOf at this
  rw [Int.toNat_natCast, List.getD_eq_getElem?_getD, List.getD_eq_getElem?_getD, List.getElem?_eq_getElem h1, List.getElem?_eq_getElem h2, Option.getD_some, Option.getD_some] at this
  exact this
theorem strict_ext : ∀ {l m : List Int}, l.Pairwise (· < ·) → m.Pairwise (· < ·) → (∀ x, x ∈ l ↔ x ∈ m) → l = m
  | [], [], _, _, _ => rfl
  | [], y :: t, _, _, h => by have := (h y).2 (.head _); cases this
  | x :: s, [], _, _, h => by have := (h x).1 (.head _); cases this
  | x :: s, y :: t, hl, hm, h => by
    obtain ⟨h1, h2⟩ := List.pairwise_cons.1 hl
    obtain ⟨h3, h4⟩ := List.pairwise_cons.1 hm
    have e : x = y := by
      rcases List.mem_cons.1 ((h x).1 (.head _)) with e | hx
      · exact e
      rcases List.mem_cons.1 ((h y).2 (.head _)) with e | hy
      · exact e.symm
      have := h3 x hx
      have := h1 y hy
      omega
    subst e
    rw [strict_ext h2 h4 fun z => ⟨fun hz => ?_, fun hz => ?_⟩]
    · rcases List.mem_cons.1 ((h z).1 (.tail _ hz)) with e | hz'
      · have := h1 z hz; omega
      · exact hz'
    · rcases List.mem_cons.1 ((h z).2 (.tail _ hz)) with e | hz'
      · have := h3 z hz; omega
      · exact hz'
theorem sortL_strict {l : List Int} (h : l.Nodup) : (sortL l).Pairwise (· < ·) := by
  unfold sortL
  have hs : (l.mergeSort fun x y => decide (x ≤ y)).Pairwise (fun a b => decide (a ≤ b) = true) := List.pairwise_mergeSort (fun a b c h1 h2 => by simp at *; omega) (fun a b => by simp; omega) l
  have hd : (l.mergeSort fun x y => decide (x ≤ y)).Nodup := (List.mergeSort_perm l _).nodup_iff.2 h
  exact (List.Pairwise.and hs hd).imp fun hab => by obtain ⟨h1, h2⟩ := hab; simp at h1; omega
theorem sortL_mem (l : List Int) (x : Int) : x ∈ sortL l ↔ x ∈ l := (List.mergeSort_perm l _).mem_iff
def symZ (z : List (List Int)) : Prop := ∀ i j, 0 ≤ i → i < (z.length : Int) → 0 ≤ j → j < (z.length : Int) → j ∈ rd_L1 z i → i ∈ rd_L1 z j
section
variable {z : List (List Int)} (hn : z.length ≤ 1048576)
include hn
theorem part_inner {row : List Int} (hrow : ∀ j ∈ row, 0 ≤ j ∧ j < (z.length : Int)) (hrl : row.length ≤ 1048576) (out : List (List Int)) (kk i N : Int) (d : Nat) :
    ∀ (m : Nat) (seen : List Bool) (part : List Int), row.length - m = d → m ≤ row.length → seen.length = z.length → free seen + part.length ≤ 1048577 → part.Nodup → (∀ q ∈ part, rdOf false seen q = true ∧ 0 ≤ q ∧ q < (z.length : Int)) →
    ∃ (seen' : List Bool) (new : List Int), seen'.length = z.length ∧ free seen' + (part ++ new).length = free seen + part.length ∧ (part ++ new).Nodup ∧ (∀ k, rdOf false seen k = true → rdOf false seen' k = true) ∧
      (∀ j ∈ row.drop m, rdOf false seen' j = true) ∧ (∀ j ∈ new, j ∈ row ∧ rdOf false seen' j = true) ∧ (∀ k, 0 ≤ k → k < (z.length : Int) → rdOf false seen' k = true → rdOf false seen k = true ∨ k ∈ new) ∧
      (∀ R, Ev (fun k => impl_parts.l1 k z out seen' (part ++ new) (wrap64 (kk + 1)) N i) R → Ev (fun k => impl_parts.l2 k z out seen part kk N i row (row.length : Int) (m : Int)) R) := by
  have _hu := hn
  induction d with
  | zero =>
    intro m seen part h0 h1 h2 h3 h4 h5
    refine ⟨seen, [], h2, by simp, by simpa using h4, fun _ hk => hk, fun j hj => ?_, (fun j hj => by cases hj), fun k _ _ hk => .inl hk, fun R hR => ?_⟩
    · rw [List.drop_eq_nil_of_le (by omega)] at hj; cases hj
    · rw [List.append_nil] at hR
      refine Ev.step (fun k => by rw [impl_parts.l2]) ?_
      refine Ev.neg (by omega) ?_
      exact hR
  | succ d ih =>
    intro m seen part h0 h1 h2 h3 h4 h5
    have hm : m < row.length := by omega
    have hj := hrow row[m] (List.getElem_mem hm)
    have hjl : row[m].toNat < seen.length := by omega
    cases c : rdOf false seen row[m] with
    | true =>
      obtain ⟨seen', new, a1, a2, a3, a4, a5, a6, a7, a8⟩ := ih (m + 1) seen part (by omega) (by omega) h2 h3 h4 h5
      refine ⟨seen', new, a1, a2, a3, a4, fun j hj' => ?_, a6, a7, fun R hR => ?_⟩
      · rw [List.drop_eq_getElem_cons hm] at hj'
        rcases List.mem_cons.1 hj' with rfl | hj'
        · exact a4 _ c
        · exact a5 j hj'
      · have := a8 R hR
        rw [← wrap_up hm (by omega)] at this
        refine Ev.step (fun k => by rw [impl_parts.l2]) ?_
        refine Ev.pos (by omega) ?_
        refine Ev.pos (by omega) ?_
        refine Ev.pos (by omega) ?_
        rw [rd_at row m hm]
        refine Ev.pos hj.1 ?_
        refine Ev.pos (by omega) ?_
        refine Ev.pos c ?_
        exact this
    | false =>
      have hrs : ∀ k, rdOf false (seen.set row[m].toNat true) k = if k.toNat = row[m].toNat then true else rdOf false seen k := fun k => rdB_set seen row[m] k true hjl
      have hfr := free_set seen row[m] hjl c
      have hnot : row[m] ∉ part := fun hq => by have := (h5 _ hq).1; rw [c] at this; cases this
      obtain ⟨seen', new, a1, a2, a3, a4, a5, a6, a7, a8⟩ := ih (m + 1) (seen.set row[m].toNat true) (part ++ [row[m]]) (by omega) (by omega) (by rw [List.length_set, h2]) (by rw [List.length_append, List.length_singleton]; omega)
        (by rw [List.nodup_append]; exact ⟨h4, by simp, fun a ha b hb => by rw [show b = row[m] by simpa using hb]; exact fun e => hnot (e ▸ ha)⟩)
        (fun q hq => by
          rcases List.mem_append.1 hq with hq | hq
          · have := h5 q hq; exact ⟨by rw [hrs]; split <;> simp [this.1], this.2⟩
          · rw [show q = row[m] by simpa using hq]; exact ⟨by rw [hrs, if_pos rfl], hj⟩)
      have hself : rdOf false seen' row[m] = true := a4 _ (by rw [hrs, if_pos rfl])
      have hap : part ++ row[m] :: new = (part ++ [row[m]]) ++ new := by simp
      refine ⟨seen', row[m] :: new, a1, ?_, ?_, fun k hk => a4 k (by rw [hrs]; split <;> simp [hk]), fun j hj' => ?_, fun j hj' => ?_, fun k hk0 hk1 hk => ?_, fun R hR => ?_⟩
      · rw [hap, a2, List.length_append, List.length_singleton]; omega
      · rw [hap]; exact a3
      · rw [List.drop_eq_getElem_cons hm] at hj'
        rcases List.mem_cons.1 hj' with rfl | hj'
        · exact hself
        · exact a5 j hj'
      · rcases List.mem_cons.1 hj' with rfl | hj'
        · exact ⟨List.getElem_mem hm, hself⟩
        · exact a6 j hj'
      · rcases a7 k hk0 hk1 hk with h' | h'
        · rw [hrs] at h'
          by_cases ck : k.toNat = row[m].toNat
          · right; rw [show k = row[m] by omega]; exact .head _
          · rw [if_neg ck] at h'; exact .inl h'
        · exact .inr (.tail _ h')
      · rw [hap] at hR
        have := a8 R hR
        rw [← wrap_up hm (by omega)] at this
        refine Ev.step (fun k => by rw [impl_parts.l2]) ?_
        refine Ev.pos (by omega) ?_
        refine Ev.pos (by omega) ?_
        refine Ev.pos (by omega) ?_
        rw [rd_at row m hm]
        refine Ev.pos hj.1 ?_
        refine Ev.pos (by omega) ?_
        refine Ev.neg (by rw [c]; decide) ?_
        refine Ev.pos (by omega) ?_
        exact this
variable (hz : okZ z) (hr : ∀ i, (rd_L1 z i).length ≤ 1048576)
include hz hr
theorem part_outer (out : List (List Int)) (ho : out.length ≤ 1048576) (s i N : Int) (seen0 : Int → Prop) (u : Nat) : ∀ (seen : List Bool) (part : List Int) (h : Nat), free seen + (part.length - h) = u → h ≤ part.length → seen.length = z.length → free seen + part.length ≤ 1048577 → part.Nodup →
    (∀ q ∈ part, rdOf false seen q = true ∧ 0 ≤ q ∧ q < (z.length : Int)) → (∀ k, 0 ≤ k → k < (z.length : Int) → (rdOf false seen k = true ↔ seen0 k ∨ k ∈ part)) → (∀ q ∈ part.take h, ∀ j ∈ rd_L1 z q, rdOf false seen j = true) → (∀ P, closedZ z P → P s → ∀ q ∈ part, P q) → s ∈ part →
    ∃ (seen' : List Bool) (part' : List Int), seen'.length = z.length ∧ part'.Nodup ∧ (∀ q ∈ part', 0 ≤ q ∧ q < (z.length : Int)) ∧ s ∈ part' ∧ (∀ k, 0 ≤ k → k < (z.length : Int) → (rdOf false seen' k = true ↔ seen0 k ∨ k ∈ part')) ∧
      (∀ q ∈ part', ∀ j ∈ rd_L1 z q, seen0 j ∨ j ∈ part') ∧ (∀ P, closedZ z P → P s → ∀ q ∈ part', P q) ∧
      (∀ R, Ev (fun k => impl_parts.l0 k z (out ++ [sortL part']) seen' N (wrap64 (i + 1))) R → Ev (fun k => impl_parts.l1 k z out seen part (h : Int) N i) R) := by
  induction u with
  | zero =>
    intro seen part h h0 h1 h2 h3 h4 h5 h6 h7 h8 h9
    refine ⟨seen, part, h2, h4, fun q hq => (h5 q hq).2, h9, h6, fun q hq j hj => ?_, h8, fun R hR => ?_⟩
    · have hq' := h7 q (by rw [List.take_of_length_le (by omega)]; exact hq) j hj
      have hb := hz q (h5 q hq).2.1 (h5 q hq).2.2 j hj
      exact (h6 j hb.1 hb.2).1 hq'
    · refine Ev.step (fun k => by rw [impl_parts.l1]) ?_
      refine Ev.neg (by omega) ?_
      refine Ev.bindo (by unfold slices_Sort_int_int.f; rw [if_pos (by omega)]) ?_
      refine Ev.pos (by omega) ?_
      exact hR
  | succ u ih =>
    intro seen part h h0 h1 h2 h3 h4 h5 h6 h7 h8 h9
    by_cases ce : h = part.length
    · refine ⟨seen, part, h2, h4, fun q hq => (h5 q hq).2, h9, h6, fun q hq j hj => ?_, h8, fun R hR => ?_⟩
      · have hq' := h7 q (by rw [List.take_of_length_le (by omega)]; exact hq) j hj
        have hb := hz q (h5 q hq).2.1 (h5 q hq).2.2 j hj
        exact (h6 j hb.1 hb.2).1 hq'
      · refine Ev.step (fun k => by rw [impl_parts.l1]) ?_
        refine Ev.neg (by omega) ?_
        refine Ev.bindo (by unfold slices_Sort_int_int.f; rw [if_pos (by omega)]) ?_
        refine Ev.pos (by omega) ?_
        exact hR
    have hh : h < part.length := by omega
    obtain ⟨q2, q0, q1⟩ := h5 part[h] (List.getElem_mem hh)
    have hrow := hz part[h] q0 q1
    obtain ⟨seen', new, a1, a2, a3, a4, a5, a6, a7, a8⟩ := part_inner hn hrow (hr _) out (h : Int) i N ((rd_L1 z part[h]).length - 0) 0 seen part rfl (Nat.zero_le _) h2 h3 h4 h5
    rw [List.drop_zero] at a5
    simp only [Int.natCast_zero] at a8
    obtain ⟨S', p', b1, b2, b3, b4, b5, b6, b7, b8⟩ := ih seen' (part ++ new) (h + 1) (by rw [List.length_append] at a2 ⊢; omega) (by rw [List.length_append]; omega) a1 (by omega) a3
      (fun q hq => by
        rcases List.mem_append.1 hq with hq | hq
        · exact ⟨a4 q (h5 q hq).1, (h5 q hq).2⟩
        · exact ⟨(a6 q hq).2, hrow q (a6 q hq).1⟩)
      (fun k hk0 hk1 => by
        constructor
        · intro hk
          rcases a7 k hk0 hk1 hk with h' | h'
          · rcases (h6 k hk0 hk1).1 h' with h' | h'
            · exact .inl h'
            · exact .inr (List.mem_append_left _ h')
          · exact .inr (List.mem_append_right _ h')
        · intro hk
          rcases hk with hk | hk
          · exact a4 k ((h6 k hk0 hk1).2 (.inl hk))
          · rcases List.mem_append.1 hk with hk | hk
            · exact a4 k (h5 k hk).1
            · exact (a6 k hk).2)
      (fun q hq j hj => by
        rw [List.take_append_of_le_length (by omega), List.take_add_one, List.getElem?_eq_getElem hh] at hq
        rcases List.mem_append.1 hq with hq | hq
        · exact a4 j (h7 q hq j hj)
        · rw [show q = part[h] by simpa using hq] at hj; exact a5 j hj)
      (fun P hP hs q hq => by
        rcases List.mem_append.1 hq with hq | hq
        · exact h8 P hP hs q hq
        · exact hP part[h] q0 q1 (h8 P hP hs _ (List.getElem_mem hh)) q (a6 q hq).1)
      (List.mem_append_left _ h9)
    refine ⟨S', p', b1, b2, b3, b4, b5, b6, b7, fun R hR => ?_⟩
    have hwh : wrap64 ((h : Int) + 1) = ((h + 1 : Nat) : Int) := wrap_up hh (by omega)
    have e1 := b8 R hR
    rw [← hwh] at e1
    clear hwh
    have e2 := a8 R e1
    refine Ev.step (fun k => by rw [impl_parts.l1]) ?_
    refine Ev.pos (by omega) ?_
    refine Ev.pos (by omega) ?_
    rw [rd_at part h hh]
    refine Ev.pos q0 ?_
    refine Ev.pos q1 ?_
    exact e2
end
/-- The places of a list that is not below zero there. -/
def selD (dist : List Int) : Nat → Nat → List Int
  | 0, _ => []
  | d + 1, m => if 0 ≤ rd dist (m : Int) then (m : Int) :: selD dist d (m + 1) else selD dist d (m + 1)
theorem selD_mem (dist : List Int) (d : Nat) : ∀ (m : Nat) (x : Int), x ∈ selD dist d m ↔ (m : Int) ≤ x ∧ x < ((m + d : Nat) : Int) ∧ 0 ≤ rd dist x := by
  induction d with
  | zero => intro m x; simp only [selD]; constructor
            · intro h; cases h
            · intro h; omega
  | succ d ih =>
    intro m x
    have := ih (m + 1) x
    unfold selD
    by_cases c : 0 ≤ rd dist (m : Int)
    · rw [if_pos c, List.mem_cons, this]
      constructor
      · rintro (rfl | h)
        · exact ⟨Int.le_refl _, by omega, c⟩
        · exact ⟨by omega, by omega, h.2.2⟩
      · intro h
        by_cases e : x = (m : Int)
        · exact .inl e
        · exact .inr ⟨by omega, by omega, h.2.2⟩
    · rw [if_neg c, this]
      constructor
      · intro h; exact ⟨by omega, by omega, h.2.2⟩
      · intro h
        have : x ≠ (m : Int) := fun e => c (e ▸ h.2.2)
        exact ⟨by omega, by omega, h.2.2⟩
theorem selD_strict (dist : List Int) (d : Nat) : ∀ (m : Nat), (selD dist d m).Pairwise (· < ·) := by
  induction d with
  | zero => intro m; exact .nil
  | succ d ih =>
    intro m
    unfold selD
    split
    · refine List.pairwise_cons.2 ⟨fun x hx => ?_, ih (m + 1)⟩
      have := (selD_mem dist d (m + 1) x).1 hx
      omega
    · exact ih (m + 1)
theorem spart_loop {z out : List (List Int)} (ho : out.length ≤ 1048576) (i : Int) (dist : List Int) (hd : dist.length = z.length) (hn : z.length ≤ 1048576) (d : Nat) : ∀ (m : Nat) (seen : List Bool) (acc : List Int), dist.length - m = d → m ≤ dist.length → seen.length = z.length → acc.length ≤ m →
    ∃ seen' : List Bool, seen'.length = z.length ∧ (∀ k, 0 ≤ k → k < (z.length : Int) → (rdOf false seen' k = true ↔ rdOf false seen k = true ∨ ((m : Int) ≤ k ∧ 0 ≤ rd dist k))) ∧
      ∀ R, Ev (fun k => spec_l2Parts.l0 k (out ++ [acc ++ selD dist d m]) z seen' (wrap64 (i + 1))) R → Ev (fun k => spec_l2Parts.l1 k out z seen i acc dist (m : Int)) R := by
  induction d with
  | zero =>
    intro m seen acc h0 h1 h2 h3
    refine ⟨seen, h2, fun k hk0 hk1 => ⟨fun h => .inl h, fun h => h.elim id fun h => ?_⟩, fun R hR => ?_⟩
    · omega
    · rw [selD, List.append_nil] at hR
      refine Ev.step (fun k => by rw [spec_l2Parts.l1]) ?_
      refine Ev.neg (by omega) ?_
      refine Ev.pos (by omega) ?_
      exact hR
  | succ d ih =>
    intro m seen acc h0 h1 h2 h3
    have hm : m < dist.length := by omega
    by_cases c : 0 ≤ rd dist (m : Int)
    · have hml : ((m : Int)).toNat < seen.length := by omega
      have hrs : ∀ k, rdOf false (seen.set ((m : Int)).toNat true) k = if k.toNat = ((m : Int)).toNat then true else rdOf false seen k := fun k => rdB_set seen (m : Int) k true hml
      obtain ⟨seen', a1, a2, a3⟩ := ih (m + 1) (seen.set ((m : Int)).toNat true) (acc ++ [(m : Int)]) (by omega) (by omega) (by rw [List.length_set, h2]) (by simp; omega)
      refine ⟨seen', a1, fun k hk0 hk1 => ?_, fun R hR => ?_⟩
      · rw [a2 k hk0 hk1, hrs]
        by_cases ck : k.toNat = ((m : Int)).toNat
        · rw [if_pos ck]
          have : k = (m : Int) := by omega
          subst this
          exact ⟨fun _ => .inr ⟨Int.le_refl _, c⟩, fun _ => .inl rfl⟩
        · rw [if_neg ck]
          constructor
          · rintro (h | h)
            · exact .inl h
            · exact .inr ⟨by omega, h.2⟩
          · rintro (h | h)
            · exact .inl h
            · exact .inr ⟨by omega, h.2⟩
      · have := a3 R (by rw [List.append_assoc, List.singleton_append]; unfold selD at hR; rw [if_pos c] at hR; exact hR)
        rw [← wrap_up hm (by omega)] at this
        refine Ev.step (fun k => by rw [spec_l2Parts.l1]) ?_
        refine Ev.pos (by omega) ?_
        refine Ev.pos (by omega) ?_
        refine Ev.pos c ?_
        refine Ev.pos (by omega) ?_
        refine Ev.pos (by omega) ?_
        exact this
    · obtain ⟨seen', a1, a2, a3⟩ := ih (m + 1) seen acc (by omega) (by omega) h2 (by omega)
      refine ⟨seen', a1, fun k hk0 hk1 => ?_, fun R hR => ?_⟩
      · rw [a2 k hk0 hk1]
        constructor
        · rintro (h | h)
          · exact .inl h
          · exact .inr ⟨by omega, h.2⟩
        · rintro (h | h)
          · exact .inl h
          · have : k ≠ (m : Int) := fun e => c (e ▸ h.2)
            exact .inr ⟨by omega, h.2⟩
      · have := a3 R (by unfold selD at hR; rw [if_neg c] at hR; exact hR)
        rw [← wrap_up hm (by omega)] at this
        refine Ev.step (fun k => by rw [spec_l2Parts.l1]) ?_
        refine Ev.pos (by omega) ?_
        refine Ev.pos (by omega) ?_
        refine Ev.neg c ?_
        exact this
section
variable {z : List (List Int)} (hn : z.length ≤ 1048576) (hz : okZ z) (hr : ∀ i, (rd_L1 z i).length ≤ 1048576) (hs : symZ z)
include hn hz hr hs
/-- Both sides, from a place on. -/
theorem parts_loop (d : Nat) : ∀ (m : Nat) (out : List (List Int)) (seen : List Bool), z.length - m = d → m ≤ z.length → out.length ≤ m → seen.length = z.length → closedZ z (fun k => rdOf false seen k = true) → (∀ s ∈ out, s.length ≤ 1048576 ∧ ∀ x ∈ s, 0 ≤ x ∧ x < (z.length : Int)) → (∀ s ∈ out, 0 < s.length) →
    ∃ R, Ev (fun k => impl_parts.l0 k z out seen (z.length : Int) (m : Int)) R ∧ Ev (fun k => spec_l2Parts.l0 k out z seen (m : Int)) R ∧ R.length ≤ z.length ∧ (∀ s ∈ R, s.length ≤ 1048576 ∧ ∀ x ∈ s, 0 ≤ x ∧ x < (z.length : Int)) ∧ (∀ s ∈ R, 0 < s.length) := by
  induction d with
  | zero =>
    intro m out seen h0 h1 h2 h3 h4 h5 h6
    exact ⟨out, Ev.step (fun k => by rw [impl_parts.l0]) (Ev.neg (by omega) (Ev.now _)), Ev.step (fun k => by rw [spec_l2Parts.l0]) (Ev.neg (by omega) (Ev.now _)), by omega, h5, h6⟩
  | succ d ih =>
    intro m out seen h0 h1 h2 h3 h4 h5 h6
    have hm : m < z.length := by omega
    have hml : ((m : Int)).toNat < seen.length := by omega
    cases c : rdOf false seen (m : Int) with
    | true =>
      obtain ⟨R, a1, a2, a3, a4⟩ := ih (m + 1) out seen (by omega) (by omega) (by omega) h3 h4 h5 h6
      rw [← wrap_up hm (by omega)] at a1 a2
      exact ⟨R, Ev.step (fun k => by rw [impl_parts.l0]) (Ev.pos (by omega) (Ev.pos (by omega) (Ev.pos (by omega) (Ev.pos c a1)))), Ev.step (fun k => by rw [spec_l2Parts.l0]) (Ev.pos (by omega) (Ev.pos (by omega) (Ev.pos (by omega) (Ev.pos c a2)))), a3, a4⟩
    | false =>
      obtain ⟨D, e1, e2, e3, e4, e5, e6, e7, _⟩ := spread_both hz hn hr (m : Int) (by omega) (by omega)
      have hrs : ∀ k, rdOf false (seen.set ((m : Int)).toNat true) k = if k.toNat = ((m : Int)).toNat then true else rdOf false seen k := fun k => rdB_set seen (m : Int) k true hml
      have hfr := free_set seen (m : Int) hml c
      have hfl : free seen ≤ z.length := by have := List.countP_le_length (p := fun x => !x) (l := seen); unfold free; omega
      obtain ⟨seen', part', p1, p2, p3, p4, p5, p6, p7, p8⟩ := part_outer hn hz hr out (by omega) (m : Int) (m : Int) (z.length : Int) (fun k => rdOf false seen k = true) _ (seen.set ((m : Int)).toNat true) [(m : Int)] 0 rfl (Nat.zero_le _) (by rw [List.length_set, h3]) (by rw [List.length_singleton]; omega) (by simp)
        (fun q hq => by rw [show q = (m : Int) by simpa using hq]; exact ⟨by rw [hrs, if_pos rfl], by omega, by omega⟩)
        (fun k hk0 hk1 => by
          rw [hrs]
          by_cases ck : k.toNat = ((m : Int)).toNat
          · rw [if_pos ck]; exact ⟨fun _ => .inr (by rw [show k = (m : Int) by omega]; exact .head _), fun _ => rfl⟩
          · rw [if_neg ck]
            exact ⟨fun h => .inl h, fun h => h.elim id fun h => absurd (show k.toNat = ((m : Int)).toNat by rw [show k = (m : Int) by simpa using h]) ck⟩)
        (fun q hq => by simp at hq) (fun P hP hs' q hq => by rw [show q = (m : Int) by simpa using hq]; exact hs') (.head _)
      obtain ⟨seenF, f1, f2, f3⟩ := spart_loop (z := z) (out := out) (by omega) (m : Int) D e3 hn (D.length - 0) 0 seen [] rfl (Nat.zero_le _) h3 (Nat.zero_le _)
      simp only [Int.natCast_zero] at p8 f3
      -- what is reached was not seen before
      have hdis : ∀ k, 0 ≤ k → k < (z.length : Int) → 0 ≤ rd D k → rdOf false seen k = false := by
        have hP : closedZ z (fun k => 0 ≤ rd D k ∧ rdOf false seen k = false) := by
          intro a a0 a1 ⟨h', h''⟩ j hj
          have hb := hz a a0 a1 j hj
          refine ⟨e6 a a0 a1 h' j hj, ?_⟩
          cases cj : rdOf false seen j with
          | false => rfl
          | true =>
            have h3' : rdOf false seen a = true := h4 j hb.1 hb.2 cj a (hs a j a0 a1 hb.1 hb.2 hj)
            rw [h''] at h3'
            cases h3'
        exact fun k hk0 hk1 hk => (e7 _ hP ⟨e5, c⟩ k hk0 hk1 hk).2
      have hsub : ∀ q ∈ part', 0 ≤ rd D q := fun q hq => p7 (fun k => 0 ≤ rd D k) e6 e5 q hq
      have hsup : ∀ k, 0 ≤ k → k < (z.length : Int) → 0 ≤ rd D k → k ∈ part' := by
        have hP : closedZ z (fun k => k ∈ part') := by
          intro a a0 a1 ha j hj
          have hb := hz a a0 a1 j hj
          rcases p6 a ha j hj with h' | h'
          · have := hdis j hb.1 hb.2 (e6 a a0 a1 (hsub a ha) j hj)
            rw [this] at h'
            cases h'
          · exact h'
        exact fun k hk0 hk1 hk => e7 _ hP p4 k hk0 hk1 hk
      have hpart : sortL part' = selD D (D.length - 0) 0 := by
        refine strict_ext (sortL_strict p2) (selD_strict _ _ _) fun x => ?_
        rw [sortL_mem, selD_mem]
        constructor
        · intro hx; exact ⟨by have := (p3 x hx).1; omega, by have := (p3 x hx).2; omega, hsub x hx⟩
        · intro hx; exact hsup x (by omega) (by omega) hx.2.2
      have hseen : seen' = seenF := by
        refine listB_ext (by omega) fun k hk0 hk1 => ?_
        rw [Bool.eq_iff_iff, p5 k hk0 (by omega), f2 k hk0 (by omega)]
        constructor
        · rintro (h | h)
          · exact .inl h
          · exact .inr ⟨by omega, hsub k h⟩
        · rintro (h | h)
          · exact .inl h
          · exact .inr (hsup k hk0 (by omega) h.2)
      obtain ⟨R, a1, a2, a3, a4⟩ := ih (m + 1) (out ++ [sortL part']) seen' (by omega) (by omega) (by simp; omega) p1
        (fun a a0 a1 ha j hj => by
          have hb := hz a a0 a1 j hj
          rcases (p5 a a0 a1).1 ha with h' | h'
          · exact (p5 j hb.1 hb.2).2 (.inl (h4 a a0 a1 h' j hj))
          · exact (p5 j hb.1 hb.2).2 (p6 a h' j hj))
        (fun s hs' => by
          rcases List.mem_append.1 hs' with hs' | hs'
          · exact h5 s hs'
          · rw [show s = sortL part' by simpa using hs', sortL_len]
            refine ⟨?_, fun x hx => p3 x ((sortL_mem _ _).1 hx)⟩
            have hb : part'.length ≤ z.length := by
              rw [← sortL_len, hpart]
              have : ∀ (d m : Nat), (selD D d m).length ≤ d := by
                intro d
                induction d with
                | zero => intro m; exact Nat.le_refl _
                | succ d ihd => intro m; have := ihd (m + 1); unfold selD; split <;> (try simp only [List.length_cons]) <;> omega
              have := this (D.length - 0) 0
              omega
            omega)
        (fun s hs' => by
          rcases List.mem_append.1 hs' with hs' | hs'
          · exact h6 s hs'
          · rw [show s = sortL part' by simpa using hs', sortL_len]
            exact List.length_pos_of_mem p4)
      rw [← wrap_up hm (by omega)] at a1 a2
      refine ⟨R, ?_, ?_, a3, a4⟩
      · refine Ev.step (fun k => by rw [impl_parts.l0]) ?_
        refine Ev.pos (by omega) ?_
        refine Ev.pos (by omega) ?_
        refine Ev.pos (by omega) ?_
        refine Ev.neg (by rw [c]; decide) ?_
        exact p8 R a1
      · refine Ev.step (fun k => by rw [spec_l2Parts.l0]) ?_
        refine Ev.pos (by omega) ?_
        refine Ev.pos (by omega) ?_
        refine Ev.pos (by omega) ?_
        refine Ev.neg (by rw [c]; decide) ?_
        refine Ev.bind e2 (f3 R ?_)
        rw [List.nil_append, ← hpart, ← hseen]
        exact a2
end
end Go.Proofs.Ytaemfocjokkopaa.P
namespace Go.Proofs.Ytaemfocjokkopaa.P
open Go.RowKit Go.Proofs.YtaemfocjokkopaaW.PrintWords Go.Proofs.YtaemfocjokkopaaW.PrintLast Go.Proofs.YtaemfocjokkopaaW.PrintMore
set_option linter.unusedVariables false
set_option linter.unusedSimpArgs false

theorem rowL_mem (e : List PrT) (i j : Int) : j ∈ rowL e i ↔ ∃ p ∈ e, (p.f0 = i ∧ p.f1 = j) ∨ (p.f0 ≠ i ∧ p.f1 = i ∧ p.f0 = j) := by
  unfold rowL
  rw [List.mem_filterMap]
  refine exists_congr fun p => and_congr_right fun _ => ?_
  unfold pickL
  by_cases c0 : p.f0 = i
  · rw [if_pos c0]; simp [c0]
  · rw [if_neg c0]
    by_cases c1 : p.f1 = i
    · rw [if_pos c1]; simp [c0, c1]
    · rw [if_neg c1]; simp [c0, c1]
section
variable (l : List (List Int)) (e : List PrT) (hm : modS l e) (hg : goodP (l.length : Int) none e = true)
include hm hg
theorem roadsL_ok : okZ (roadsL l e) := by
  have _hu := hm
  have ha := goodP_all (l.length : Int) e none hg
  intro i h0 h1 j hj
  rw [roadsL_len] at h1 ⊢
  unfold roadsL at hj
  rw [rowsOf_rd _ h0 h1, rowL_mem] at hj
  obtain ⟨p, hp, h⟩ := hj
  have := ha p hp
  omega
theorem roadsL_sym : symZ (roadsL l e) := by
  have _hu := hm
  have ha := goodP_all (l.length : Int) e none hg
  intro i j h0 h1 h2 h3 hj
  rw [roadsL_len] at h1 h3
  unfold roadsL at hj ⊢
  rw [rowsOf_rd _ h0 h1, rowL_mem] at hj
  rw [rowsOf_rd _ h2 h3, rowL_mem]
  obtain ⟨p, hp, h⟩ := hj
  refine ⟨p, hp, ?_⟩
  have := ha p hp
  omega
theorem roadsL_row (i : Int) : (rd_L1 (roadsL l e) i).length ≤ 1048576 := by
  have _hu := hg
  unfold rd_L1
  rw [List.getD_eq_getElem?_getD]
  cases h : (roadsL l e)[i.toNat]? with
  | none => exact Nat.zero_le _
  | some s =>
    have hs := List.mem_of_getElem? h
    unfold roadsL rowsOf at hs
    obtain ⟨q, _, rfl⟩ := List.mem_map.1 hs
    exact Nat.le_trans (rowL_le _ _) hm.2.2
theorem parts_both : ∃ R, Ev (fun k => impl_parts.f k (roadsL l e) (-1)) R ∧ Ev (fun k => spec_l2Parts.f k l e) R ∧ R.length ≤ l.length ∧ (∀ s ∈ R, s.length ≤ 1048576 ∧ ∀ x ∈ s, 0 ≤ x ∧ x < (l.length : Int)) ∧ (∀ s ∈ R, 0 < s.length) := by
  have hn : (roadsL l e).length ≤ 1048576 := by rw [roadsL_len]; exact hm.1
  have hrep : ∀ k, rdOf false (List.replicate (roadsL l e).length false) k = false := fun k => by
    unfold rdOf; rw [List.getD_eq_getElem?_getD, List.getElem?_replicate]; split <;> rfl
  obtain ⟨R, r1, r2, r3, r4, r5⟩ := parts_loop hn (roadsL_ok l e hm hg) (roadsL_row l e hm hg) (roadsL_sym l e hm hg) ((roadsL l e).length - 0) 0 [] (List.replicate (roadsL l e).length false) rfl (Nat.zero_le _) (Nat.zero_le _) (List.length_replicate ..)
    (fun i _ _ hi j _ => by have h3 : rdOf false (List.replicate (roadsL l e).length false) i = true := hi; rw [hrep] at h3; cases h3) (fun s hs => by cases hs) (fun s hs => by cases hs)
  simp only [Int.natCast_zero] at r1 r2
  refine ⟨R, ?_, ?_, by rw [roadsL_len] at r3; exact r3, fun s hs => by have := r4 s hs; rw [roadsL_len] at this; exact this, r5⟩
  · unfold impl_parts.f
    refine Ev.bindo rfl ?_
    refine Ev.pos (by omega) ?_
    refine Ev.pos (by rw [Int.toNat_natCast]; omega) ?_
    refine Ev.bindo rfl ?_
    refine Ev.neg (by decide) ?_
    rw [Int.toNat_natCast]
    refine Ev.step (fun k => by rw [impl_parts.j0]) ?_
    exact r1
  · unfold spec_l2Parts.f
    refine Ev.bind (lists_ev l e hm hg) ?_
    refine Ev.pos (by omega) ?_
    refine Ev.pos (by rw [Int.toNat_natCast]; omega) ?_
    rw [Int.toNat_natCast]
    exact r2
end
end Go.Proofs.Ytaemfocjokkopaa.P
namespace Go.Proofs.Ytaemfocjokkopaa.P
open Go.RowKit Go.Proofs.YtaemfocjokkopaaW.PrintWords Go.Proofs.YtaemfocjokkopaaW.PrintLast Go.Proofs.YtaemfocjokkopaaW.PrintMore
set_option linter.unusedVariables false
set_option linter.unusedSimpArgs false
section
variable {z : List (List Int)} (hn : z.length ≤ 1048576)
include hn
theorem cut_inner {row : List Int} (hrow : ∀ j ∈ row, 0 ≤ j ∧ j < (z.length : Int)) (hrl : row.length ≤ 1048576) (out : List (List Int)) (kk i N : Int) (d : Nat) :
    ∀ (m : Nat) (seen : List Bool) (part : List Int), row.length - m = d → m ≤ row.length → seen.length = z.length → free seen + part.length ≤ 1048577 → part.Nodup → (∀ q ∈ part, rdOf false seen q = true ∧ 0 ≤ q ∧ q < (z.length : Int)) →
    ∃ (seen' : List Bool) (new : List Int), seen'.length = z.length ∧ free seen' + (part ++ new).length = free seen + part.length ∧ (part ++ new).Nodup ∧ (∀ k, rdOf false seen k = true → rdOf false seen' k = true) ∧
      (∀ j ∈ row.drop m, rdOf false seen' j = true) ∧ (∀ j ∈ new, j ∈ row ∧ rdOf false seen' j = true ∧ rdOf false seen j = false) ∧ (∀ k, 0 ≤ k → k < (z.length : Int) → rdOf false seen' k = true → rdOf false seen k = true ∨ k ∈ new) ∧
      (∀ R, Ev (fun k => impl_parts.l1 k z out seen' (part ++ new) (wrap64 (kk + 1)) N i) R → Ev (fun k => impl_parts.l2 k z out seen part kk N i row (row.length : Int) (m : Int)) R) := by
  have _hu := hn
  induction d with
  | zero =>
    intro m seen part h0 h1 h2 h3 h4 h5
    refine ⟨seen, [], h2, by simp, by simpa using h4, fun _ hk => hk, fun j hj => ?_, (fun j hj => by cases hj), fun k _ _ hk => .inl hk, fun R hR => ?_⟩
    · rw [List.drop_eq_nil_of_le (by omega)] at hj; cases hj
    · rw [List.append_nil] at hR
      refine Ev.step (fun k => by rw [impl_parts.l2]) ?_
      refine Ev.neg (by omega) ?_
      exact hR
  | succ d ih =>
    intro m seen part h0 h1 h2 h3 h4 h5
    have hm : m < row.length := by omega
    have hj := hrow row[m] (List.getElem_mem hm)
    have hjl : row[m].toNat < seen.length := by omega
    cases c : rdOf false seen row[m] with
    | true =>
      obtain ⟨seen', new, a1, a2, a3, a4, a5, a6, a7, a8⟩ := ih (m + 1) seen part (by omega) (by omega) h2 h3 h4 h5
      refine ⟨seen', new, a1, a2, a3, a4, fun j hj' => ?_, a6, a7, fun R hR => ?_⟩
      · rw [List.drop_eq_getElem_cons hm] at hj'
        rcases List.mem_cons.1 hj' with rfl | hj'
        · exact a4 _ c
        · exact a5 j hj'
      · have := a8 R hR
        rw [← wrap_up hm (by omega)] at this
        refine Ev.step (fun k => by rw [impl_parts.l2]) ?_
        refine Ev.pos (by omega) ?_
        refine Ev.pos (by omega) ?_
        refine Ev.pos (by omega) ?_
        rw [rd_at row m hm]
        refine Ev.pos hj.1 ?_
        refine Ev.pos (by omega) ?_
        refine Ev.pos c ?_
        exact this
    | false =>
      have hrs : ∀ k, rdOf false (seen.set row[m].toNat true) k = if k.toNat = row[m].toNat then true else rdOf false seen k := fun k => rdB_set seen row[m] k true hjl
      have hfr := free_set seen row[m] hjl c
      have hnot : row[m] ∉ part := fun hq => by have := (h5 _ hq).1; rw [c] at this; cases this
      obtain ⟨seen', new, a1, a2, a3, a4, a5, a6, a7, a8⟩ := ih (m + 1) (seen.set row[m].toNat true) (part ++ [row[m]]) (by omega) (by omega) (by rw [List.length_set, h2]) (by rw [List.length_append, List.length_singleton]; omega)
        (by rw [List.nodup_append]; exact ⟨h4, by simp, fun a ha b hb => by rw [show b = row[m] by simpa using hb]; exact fun e => hnot (e ▸ ha)⟩)
        (fun q hq => by
          rcases List.mem_append.1 hq with hq | hq
          · have := h5 q hq; exact ⟨by rw [hrs]; split <;> simp [this.1], this.2⟩
          · rw [show q = row[m] by simpa using hq]; exact ⟨by rw [hrs, if_pos rfl], hj⟩)
      have hself : rdOf false seen' row[m] = true := a4 _ (by rw [hrs, if_pos rfl])
      have hap : part ++ row[m] :: new = (part ++ [row[m]]) ++ new := by simp
      refine ⟨seen', row[m] :: new, a1, ?_, ?_, fun k hk => a4 k (by rw [hrs]; split <;> simp [hk]), fun j hj' => ?_, fun j hj' => ?_, fun k hk0 hk1 hk => ?_, fun R hR => ?_⟩
      · rw [hap, a2, List.length_append, List.length_singleton]; omega
      · rw [hap]; exact a3
      · rw [List.drop_eq_getElem_cons hm] at hj'
        rcases List.mem_cons.1 hj' with rfl | hj'
        · exact hself
        · exact a5 j hj'
      · rcases List.mem_cons.1 hj' with rfl | hj'
        · exact ⟨List.getElem_mem hm, hself, c⟩
        · refine ⟨(a6 j hj').1, (a6 j hj').2.1, ?_⟩
          have hq := (a6 j hj').2.2
          rw [hrs] at hq
          by_cases ck : j.toNat = row[m].toNat
          · rw [if_pos ck] at hq; cases hq
          · rwa [if_neg ck] at hq
      · rcases a7 k hk0 hk1 hk with h' | h'
        · rw [hrs] at h'
          by_cases ck : k.toNat = row[m].toNat
          · right; rw [show k = row[m] by omega]; exact .head _
          · rw [if_neg ck] at h'; exact .inl h'
        · exact .inr (.tail _ h')
      · rw [hap] at hR
        have := a8 R hR
        rw [← wrap_up hm (by omega)] at this
        refine Ev.step (fun k => by rw [impl_parts.l2]) ?_
        refine Ev.pos (by omega) ?_
        refine Ev.pos (by omega) ?_
        refine Ev.pos (by omega) ?_
        rw [rd_at row m hm]
        refine Ev.pos hj.1 ?_
        refine Ev.pos (by omega) ?_
        refine Ev.neg (by rw [c]; decide) ?_
        refine Ev.pos (by omega) ?_
        exact this
variable (hz : okZ z) (hr : ∀ i, (rd_L1 z i).length ≤ 1048576)
include hz hr
theorem cut_outer (out : List (List Int)) (ho : out.length ≤ 1048576) (s i N : Int) (seen0 : Int → Prop) (u : Nat) : ∀ (seen : List Bool) (part : List Int) (h : Nat), free seen + (part.length - h) = u → h ≤ part.length → seen.length = z.length → free seen + part.length ≤ 1048577 → part.Nodup →
    (∀ q ∈ part, rdOf false seen q = true ∧ 0 ≤ q ∧ q < (z.length : Int)) → (∀ k, 0 ≤ k → k < (z.length : Int) → (rdOf false seen k = true ↔ seen0 k ∨ k ∈ part)) → (∀ q ∈ part.take h, ∀ j ∈ rd_L1 z q, rdOf false seen j = true) → (∀ P : Int → Prop, (∀ a, 0 ≤ a → a < (z.length : Int) → P a → ∀ j ∈ rd_L1 z a, ¬ seen0 j → P j) → P s → ∀ q ∈ part, P q) → s ∈ part →
    ∃ (seen' : List Bool) (part' : List Int), seen'.length = z.length ∧ part'.Nodup ∧ (∀ q ∈ part', 0 ≤ q ∧ q < (z.length : Int)) ∧ s ∈ part' ∧ (∀ k, 0 ≤ k → k < (z.length : Int) → (rdOf false seen' k = true ↔ seen0 k ∨ k ∈ part')) ∧
      (∀ q ∈ part', ∀ j ∈ rd_L1 z q, seen0 j ∨ j ∈ part') ∧ (∀ P : Int → Prop, (∀ a, 0 ≤ a → a < (z.length : Int) → P a → ∀ j ∈ rd_L1 z a, ¬ seen0 j → P j) → P s → ∀ q ∈ part', P q) ∧
      (∀ R, Ev (fun k => impl_parts.l0 k z (out ++ [sortL part']) seen' N (wrap64 (i + 1))) R → Ev (fun k => impl_parts.l1 k z out seen part (h : Int) N i) R) := by
  induction u with
  | zero =>
    intro seen part h h0 h1 h2 h3 h4 h5 h6 h7 h8 h9
    refine ⟨seen, part, h2, h4, fun q hq => (h5 q hq).2, h9, h6, fun q hq j hj => ?_, h8, fun R hR => ?_⟩
    · have hq' := h7 q (by rw [List.take_of_length_le (by omega)]; exact hq) j hj
      have hb := hz q (h5 q hq).2.1 (h5 q hq).2.2 j hj
      exact (h6 j hb.1 hb.2).1 hq'
    · refine Ev.step (fun k => by rw [impl_parts.l1]) ?_
      refine Ev.neg (by omega) ?_
      refine Ev.bindo (by unfold slices_Sort_int_int.f; rw [if_pos (by omega)]) ?_
      refine Ev.pos (by omega) ?_
      exact hR
  | succ u ih =>
    intro seen part h h0 h1 h2 h3 h4 h5 h6 h7 h8 h9
    by_cases ce : h = part.length
    · refine ⟨seen, part, h2, h4, fun q hq => (h5 q hq).2, h9, h6, fun q hq j hj => ?_, h8, fun R hR => ?_⟩
      · have hq' := h7 q (by rw [List.take_of_length_le (by omega)]; exact hq) j hj
        have hb := hz q (h5 q hq).2.1 (h5 q hq).2.2 j hj
        exact (h6 j hb.1 hb.2).1 hq'
      · refine Ev.step (fun k => by rw [impl_parts.l1]) ?_
        refine Ev.neg (by omega) ?_
        refine Ev.bindo (by unfold slices_Sort_int_int.f; rw [if_pos (by omega)]) ?_
        refine Ev.pos (by omega) ?_
        exact hR
    have hh : h < part.length := by omega
    obtain ⟨q2, q0, q1⟩ := h5 part[h] (List.getElem_mem hh)
    have hrow := hz part[h] q0 q1
    obtain ⟨seen', new, a1, a2, a3, a4, a5, a6, a7, a8⟩ := cut_inner hn hrow (hr _) out (h : Int) i N ((rd_L1 z part[h]).length - 0) 0 seen part rfl (Nat.zero_le _) h2 h3 h4 h5
    rw [List.drop_zero] at a5
    simp only [Int.natCast_zero] at a8
    obtain ⟨S', p', b1, b2, b3, b4, b5, b6, b7, b8⟩ := ih seen' (part ++ new) (h + 1) (by rw [List.length_append] at a2 ⊢; omega) (by rw [List.length_append]; omega) a1 (by omega) a3
      (fun q hq => by
        rcases List.mem_append.1 hq with hq | hq
        · exact ⟨a4 q (h5 q hq).1, (h5 q hq).2⟩
        · exact ⟨(a6 q hq).2.1, hrow q (a6 q hq).1⟩)
      (fun k hk0 hk1 => by
        constructor
        · intro hk
          rcases a7 k hk0 hk1 hk with h' | h'
          · rcases (h6 k hk0 hk1).1 h' with h' | h'
            · exact .inl h'
            · exact .inr (List.mem_append_left _ h')
          · exact .inr (List.mem_append_right _ h')
        · intro hk
          rcases hk with hk | hk
          · exact a4 k ((h6 k hk0 hk1).2 (.inl hk))
          · rcases List.mem_append.1 hk with hk | hk
            · exact a4 k (h5 k hk).1
            · exact (a6 k hk).2.1)
      (fun q hq j hj => by
        rw [List.take_append_of_le_length (by omega), List.take_add_one, List.getElem?_eq_getElem hh] at hq
        rcases List.mem_append.1 hq with hq | hq
        · exact a4 j (h7 q hq j hj)
        · rw [show q = part[h] by simpa using hq] at hj; exact a5 j hj)
      (fun P hP hs q hq => by
        rcases List.mem_append.1 hq with hq | hq
        · exact h8 P hP hs q hq
        · refine hP part[h] q0 q1 (h8 P hP hs _ (List.getElem_mem hh)) q (a6 q hq).1 (fun h0' => ?_)
          have hb := hrow q (a6 q hq).1
          have := (h6 q hb.1 hb.2).2 (.inl h0')
          rw [(a6 q hq).2.2] at this
          cases this)
      (List.mem_append_left _ h9)
    refine ⟨S', p', b1, b2, b3, b4, b5, b6, b7, fun R hR => ?_⟩
    have hwh : wrap64 ((h : Int) + 1) = ((h + 1 : Nat) : Int) := wrap_up hh (by omega)
    have e1 := b8 R hR
    rw [← hwh] at e1
    clear hwh
    have e2 := a8 R e1
    refine Ev.step (fun k => by rw [impl_parts.l1]) ?_
    refine Ev.pos (by omega) ?_
    refine Ev.pos (by omega) ?_
    rw [rd_at part h hh]
    refine Ev.pos q0 ?_
    refine Ev.pos q1 ?_
    exact e2
end
/-- What can be reached from i by steps to places that are not left out. -/
def reachZ (z : List (List Int)) (out : Int → Prop) (i j : Int) : Prop := ∀ P : Int → Prop, (∀ a, 0 ≤ a → a < (z.length : Int) → P a → ∀ b ∈ rd_L1 z a, ¬ out b → P b) → P i → P j
theorem reach_refl {z : List (List Int)} {o : Int → Prop} (i : Int) : reachZ z o i i := fun _ _ h => h
theorem reach_trans {z : List (List Int)} {o : Int → Prop} {i j k : Int} (h1 : reachZ z o i j) (h2 : reachZ z o j k) : reachZ z o i k := fun P hP h => h2 P hP (h1 P hP h)
theorem reach_step {z : List (List Int)} {o : Int → Prop} {i j k : Int} (h1 : reachZ z o i j) (h0 : 0 ≤ j) (hj : j < (z.length : Int)) (hk : k ∈ rd_L1 z j) (ho : ¬ o k) : reachZ z o i k := fun P hP h => hP j h0 hj (h1 P hP h) k hk ho
theorem reach_in {z : List (List Int)} {o : Int → Prop} (hz : okZ z) {i j : Int} (h0 : 0 ≤ i) (h1 : i < (z.length : Int)) (hi : ¬ o i) (h : reachZ z o i j) : (0 ≤ j ∧ j < (z.length : Int)) ∧ ¬ o j :=
  h (fun k => (0 ≤ k ∧ k < (z.length : Int)) ∧ ¬ o k) (fun a a0 a1 _ b hb ho => ⟨hz a a0 a1 b hb, ho⟩) ⟨⟨h0, h1⟩, hi⟩
theorem reach_symm {z : List (List Int)} {o : Int → Prop} (hz : okZ z) (hs : symZ z) {i j : Int} (h0 : 0 ≤ i) (h1 : i < (z.length : Int)) (hi : ¬ o i) (h : reachZ z o i j) : reachZ z o j i := by
  have key := h (fun k => ((0 ≤ k ∧ k < (z.length : Int)) ∧ ¬ o k) ∧ reachZ z o k i) (fun a a0 a1 ha b hb ho => by
    have hbr := hz a a0 a1 b hb
    refine ⟨⟨hbr, ho⟩, ?_⟩
    have hab : a ∈ rd_L1 z b := hs a b a0 a1 hbr.1 hbr.2 hb
    exact reach_trans (reach_step (reach_refl b) hbr.1 hbr.2 hab ha.1.2) ha.2) ⟨⟨⟨h0, h1⟩, hi⟩, reach_refl i⟩
  exact key.2
open Classical in
/-- All that can be reached from i, in order. -/
noncomputable def clsL (z : List (List Int)) (o : Int → Prop) (i : Int) : List Int := ((List.range z.length).filter (fun (k : Nat) => decide (reachZ z o i (k : Int)))).map (fun (k : Nat) => (k : Int))
open Classical in
theorem clsL_mem (z : List (List Int)) (o : Int → Prop) (i x : Int) : x ∈ clsL z o i ↔ (0 ≤ x ∧ x < (z.length : Int)) ∧ reachZ z o i x := by
  unfold clsL
  rw [List.mem_map]
  constructor
  · rintro ⟨k, hk, rfl⟩
    rw [List.mem_filter, List.mem_range, decide_eq_true_eq] at hk
    exact ⟨by omega, hk.2⟩
  · rintro ⟨h0, h1⟩
    refine ⟨x.toNat, ?_, by omega⟩
    rw [List.mem_filter, List.mem_range, decide_eq_true_eq]
    refine ⟨by omega, ?_⟩
    rw [show ((x.toNat : Nat) : Int) = x by omega]
    exact h1
open Classical in
theorem clsL_strict (z : List (List Int)) (o : Int → Prop) (i : Int) : (clsL z o i).Pairwise (· < ·) := by
  unfold clsL
  rw [List.pairwise_map]
  refine List.Pairwise.imp ?_ (List.Pairwise.sublist List.filter_sublist List.pairwise_lt_range)
  intro a b h
  omega
/-- The first of its class. -/
def isRep (z : List (List Int)) (o : Int → Prop) (i : Nat) : Prop := ¬ o (i : Int) ∧ ∀ i' : Nat, i' < i → ¬ o (i' : Int) → ¬ reachZ z o (i' : Int) (i : Int)
open Classical in
noncomputable def repsF (z : List (List Int)) (o : Int → Prop) : Nat → Nat → List Nat
  | 0, _ => []
  | d + 1, m => (if isRep z o m then [m] else []) ++ repsF z o d (m + 1)
section
variable {z : List (List Int)} (hn : z.length ≤ 1048576) (hz : okZ z) (hr : ∀ i, (rd_L1 z i).length ≤ 1048576) (hs : symZ z) (o : Int → Prop)
include hn hz hr hs
theorem parts_reps (d : Nat) : ∀ (m : Nat) (out : List (List Int)) (seen : List Bool), z.length - m = d → m ≤ z.length → out.length ≤ m → seen.length = z.length →
    (∀ k, 0 ≤ k → k < (z.length : Int) → (rdOf false seen k = true ↔ o k ∨ ∃ i' : Nat, i' < m ∧ ¬ o (i' : Int) ∧ reachZ z o (i' : Int) k)) →
    Ev (fun k => impl_parts.l0 k z out seen (z.length : Int) (m : Int)) (out ++ (repsF z o d m).map (fun (i : Nat) => clsL z o (i : Int))) := by
  induction d with
  | zero =>
    intro m out seen h0 h1 h2 h3 h4
    rw [repsF, List.map_nil, List.append_nil]
    exact Ev.step (fun k => by rw [impl_parts.l0]) (Ev.neg (by omega) (Ev.now _))
  | succ d ih =>
    intro m out seen h0 h1 h2 h3 h4
    have hm : m < z.length := by omega
    have hml : ((m : Int)).toNat < seen.length := by omega
    rw [repsF]
    cases c : rdOf false seen (m : Int) with
    | true =>
      have hrep : ¬ isRep z o m := by
        intro hq
        rcases (h4 (m : Int) (by omega) (by omega)).1 c with q | ⟨i', q1, q2, q3⟩
        · exact hq.1 q
        · exact hq.2 i' q1 q2 q3
      rw [if_neg hrep, List.nil_append]
      have a1 := ih (m + 1) out seen (by omega) (by omega) (by omega) h3 (fun k hk0 hk1 => by
        rw [h4 k hk0 hk1]
        constructor
        · rintro (q | ⟨i', q1, q2, q3⟩)
          · exact .inl q
          · exact .inr ⟨i', by omega, q2, q3⟩
        · rintro (q | ⟨i', q1, q2, q3⟩)
          · exact .inl q
          · by_cases e : i' = m
            · subst e
              rcases (h4 (i' : Int) (by omega) (by omega)).1 c with p | ⟨i2, p1, p2, p3⟩
              · exact absurd p q2
              · exact .inr ⟨i2, p1, p2, reach_trans p3 q3⟩
            · exact .inr ⟨i', by omega, q2, q3⟩)
      rw [← wrap_up hm (by omega)] at a1
      exact Ev.step (fun k => by rw [impl_parts.l0]) (Ev.pos (by omega) (Ev.pos (by omega) (Ev.pos (by omega) (Ev.pos c a1))))
    | false =>
      have hno : ¬ o (m : Int) ∧ ∀ i' : Nat, i' < m → ¬ o (i' : Int) → ¬ reachZ z o (i' : Int) (m : Int) := by
        constructor
        · intro q
          have := (h4 (m : Int) (by omega) (by omega)).2 (.inl q)
          rw [c] at this; cases this
        · intro i' q1 q2 q3
          have := (h4 (m : Int) (by omega) (by omega)).2 (.inr ⟨i', q1, q2, q3⟩)
          rw [c] at this; cases this
      rw [if_pos (show isRep z o m from hno)]
      have hrs : ∀ k, rdOf false (seen.set ((m : Int)).toNat true) k = if k.toNat = ((m : Int)).toNat then true else rdOf false seen k := fun k => rdB_set seen (m : Int) k true hml
      have hfr := free_set seen (m : Int) hml c
      have hfl : free seen ≤ z.length := by have := List.countP_le_length (p := fun x => !x) (l := seen); unfold free; omega
      obtain ⟨seen', part', p1, p2, p3, p4, p5, p6, p7, p8⟩ := cut_outer hn hz hr out (by omega) (m : Int) (m : Int) (z.length : Int) (fun k => rdOf false seen k = true) _ (seen.set ((m : Int)).toNat true) [(m : Int)] 0 rfl (Nat.zero_le _) (by rw [List.length_set, h3]) (by rw [List.length_singleton]; omega) (by simp)
        (fun q hq => by rw [show q = (m : Int) by simpa using hq]; exact ⟨by rw [hrs, if_pos rfl], by omega, by omega⟩)
        (fun k hk0 hk1 => by
          rw [hrs]
          by_cases ck : k.toNat = ((m : Int)).toNat
          · rw [if_pos ck]; exact ⟨fun _ => .inr (by rw [show k = (m : Int) by omega]; exact .head _), fun _ => rfl⟩
          · rw [if_neg ck]
            exact ⟨fun h => .inl h, fun h => h.elim id fun h => absurd (show k.toNat = ((m : Int)).toNat by rw [show k = (m : Int) by simpa using h]) ck⟩)
        (fun q hq => by simp at hq) (fun P hP hs' q hq => by rw [show q = (m : Int) by simpa using hq]; exact hs') (.head _)
      simp only [Int.natCast_zero] at p8
      -- what was seen is shut, but for what is left out
      have hsub : ∀ q ∈ part', reachZ z o (m : Int) q := fun q hq => p7 (fun k => reachZ z o (m : Int) k) (fun a a0 a1 ha j hj hns => by
        have hb := hz a a0 a1 j hj
        exact reach_step ha a0 a1 hj (fun ho => hns ((h4 j hb.1 hb.2).2 (.inl ho)))) (reach_refl _) q hq
      have hsup : ∀ k, reachZ z o (m : Int) k → k ∈ part' := fun k hk => by
        have := hk (fun k => k ∈ part') (fun a a0 a1 ha j hj ho => by
          rcases p6 a ha j hj with q | q
          · have hb := hz a a0 a1 j hj
            rcases (h4 j hb.1 hb.2).1 q with q | ⟨i', q1, q2, q3⟩
            · exact absurd q ho
            · have ha2 := hsub a ha
              have hio := reach_in hz (by omega) (by omega) hno.1 ha2
              have e1 : a ∈ rd_L1 z j := hs a j a0 a1 hb.1 hb.2 hj
              have e2 : reachZ z o (i' : Int) a := reach_step q3 hb.1 hb.2 e1 hio.2
              have e3 : reachZ z o a (m : Int) := reach_symm hz hs (by omega) (by omega) hno.1 ha2
              exact absurd (reach_trans e2 e3) (hno.2 i' q1 q2)
          · exact q) p4
        exact this
      have hpart : sortL part' = clsL z o (m : Int) := by
        refine strict_ext (sortL_strict p2) (clsL_strict _ _ _) fun x => ?_
        rw [sortL_mem, clsL_mem]
        exact ⟨fun hx => ⟨p3 x hx, hsub x hx⟩, fun hx => hsup x hx.2⟩
      have a1 := ih (m + 1) (out ++ [sortL part']) seen' (by omega) (by omega) (by simp; omega) p1 (fun k hk0 hk1 => by
        rw [p5 k hk0 hk1]
        constructor
        · rintro (q | q)
          · rcases (h4 k hk0 hk1).1 q with q | ⟨i', q1, q2, q3⟩
            · exact .inl q
            · exact .inr ⟨i', by omega, q2, q3⟩
          · exact .inr ⟨m, by omega, hno.1, hsub k q⟩
        · rintro (q | ⟨i', q1, q2, q3⟩)
          · exact .inl ((h4 k hk0 hk1).2 (.inl q))
          · by_cases e : i' = m
            · subst e; exact .inr (hsup k q3)
            · exact .inl ((h4 k hk0 hk1).2 (.inr ⟨i', by omega, q2, q3⟩)))
      have e1 : out ++ ([m] ++ repsF z o d (m + 1)).map (fun (i : Nat) => clsL z o (i : Int)) = (out ++ [sortL part']) ++ (repsF z o d (m + 1)).map (fun (i : Nat) => clsL z o (i : Int)) := by
        rw [hpart]; simp
      rw [e1]
      rw [← wrap_up hm (by omega)] at a1
      have a2 := p8 _ a1
      refine Ev.step (fun k => by rw [impl_parts.l0]) ?_
      refine Ev.pos (by omega) (Ev.pos (by omega) (Ev.pos (by omega) (Ev.neg (by rw [c]; decide) ?_)))
      exact a2
end
end Go.Proofs.Ytaemfocjokkopaa.P
namespace Go.Proofs.Ytaemfocjokkopaa.P
open Go.RowKit Go.Proofs.YtaemfocjokkopaaW.PrintWords Go.Proofs.YtaemfocjokkopaaW.PrintLast Go.Proofs.YtaemfocjokkopaaW.PrintMore
set_option linter.unusedVariables false
set_option linter.unusedSimpArgs false
open Classical in
theorem repsF_eq (z : List (List Int)) (o : Int → Prop) : ∀ (d m : Nat), repsF z o d m = (List.range' m d).filter (fun i => decide (isRep z o i))
  | 0, m => rfl
  | d + 1, m => by
    rw [repsF, List.range'_succ, List.filter_cons, repsF_eq z o d (m + 1)]
    by_cases h : isRep z o m
    · rw [if_pos h, if_pos (decide_eq_true h)]; rfl
    · rw [if_neg h, if_neg (by simpa using h)]; rfl
/-- How many numbers of a list there are of which something is so. -/
noncomputable def cntL (p : Nat → Prop) (l : List Nat) : Nat := l.countP (fun i => @decide (p i) (Classical.propDecidable _))
/-- How many parts there are past what is left out. -/
noncomputable def cntZ (z : List (List Int)) (o : Int → Prop) : Nat := cntL (isRep z o) (List.range z.length)
theorem repsF_len (z : List (List Int)) (o : Int → Prop) : (repsF z o z.length 0).length = cntZ z o := by
  rw [repsF_eq, ← List.range_eq_range', cntZ, cntL, List.countP_eq_length_filter]
theorem cntL_pos {p : Nat → Prop} {x : Nat} {l : List Nat} (h : p x) : cntL p (x :: l) = cntL p l + 1 := by
  unfold cntL
  rw [List.countP_cons, if_pos (by simpa using h)]
theorem cntL_neg {p : Nat → Prop} {x : Nat} {l : List Nat} (h : ¬ p x) : cntL p (x :: l) = cntL p l := by
  unfold cntL
  rw [List.countP_cons, if_neg (by simpa using h), Nat.add_zero]
theorem count_split (p q : Nat → Prop) : ∀ l : List Nat, cntL p l = cntL (fun i => p i ∧ q i) l + cntL (fun i => p i ∧ ¬ q i) l
  | [] => rfl
  | x :: l => by
    have ih := count_split p q l
    by_cases h1 : p x
    · by_cases h2 : q x
      · rw [cntL_pos h1, cntL_pos (p := fun i => p i ∧ q i) ⟨h1, h2⟩, cntL_neg (p := fun i => p i ∧ ¬ q i) (fun h => h.2 h2), ih]; omega
      · rw [cntL_pos h1, cntL_neg (p := fun i => p i ∧ q i) (fun h => h2 h.2), cntL_pos (p := fun i => p i ∧ ¬ q i) ⟨h1, h2⟩, ih]; omega
    · rw [cntL_neg h1, cntL_neg (p := fun i => p i ∧ q i) (fun h => h1 h.1), cntL_neg (p := fun i => p i ∧ ¬ q i) (fun h => h1 h.1), ih]
theorem count_congr {p q : Nat → Prop} : ∀ {l : List Nat}, (∀ i ∈ l, p i ↔ q i) → cntL p l = cntL q l
  | [], _ => rfl
  | x :: l, h => by
    have ih := count_congr (p := p) (q := q) (l := l) (fun i hi => h i (List.mem_cons_of_mem _ hi))
    by_cases c : p x
    · rw [cntL_pos c, cntL_pos ((h x (List.mem_cons_self ..)).1 c), ih]
    · rw [cntL_neg c, cntL_neg (fun q => c ((h x (List.mem_cons_self ..)).2 q)), ih]
theorem count_le {p q : Nat → Prop} : ∀ {l : List Nat}, (∀ i ∈ l, p i → q i) → cntL p l ≤ cntL q l
  | [], _ => Nat.le_refl _
  | x :: l, h => by
    have ih := count_le (p := p) (q := q) (l := l) (fun i hi => h i (List.mem_cons_of_mem _ hi))
    by_cases c : p x
    · rw [cntL_pos c, cntL_pos (h x (List.mem_cons_self ..) c)]; omega
    · rw [cntL_neg c]
      by_cases c2 : q x
      · rw [cntL_pos c2]; omega
      · rw [cntL_neg c2]; exact ih
theorem count_none {p : Nat → Prop} : ∀ {l : List Nat}, (∀ i ∈ l, ¬ p i) → cntL p l = 0
  | [], _ => rfl
  | x :: l, h => by rw [cntL_neg (h x (List.mem_cons_self ..)), count_none (fun i hi => h i (List.mem_cons_of_mem _ hi))]
theorem count_one {a : Nat} : ∀ {l : List Nat}, l.Nodup → a ∈ l → cntL (fun i => i = a) l = 1
  | [], _, ha => absurd ha (by simp)
  | x :: l, hl, ha => by
    rw [List.nodup_cons] at hl
    by_cases h : x = a
    · rw [cntL_pos (p := fun i => i = a) h, count_none (fun y hy e => hl.1 (by rw [h]; rw [← e]; exact hy))]
    · have ha2 : a ∈ l := by
        rcases List.mem_cons.1 ha with q | q
        · exact absurd q.symm h
        · exact q
      rw [cntL_neg (p := fun i => i = a) h, count_one hl.2 ha2]
/-- The least number of which something is so. -/
theorem least_of {p : Nat → Prop} {n : Nat} (h : p n) : ∃ m, m ≤ n ∧ p m ∧ ∀ i, i < m → ¬ p i := by
  induction n using Nat.strongRecOn with
  | ind n ih =>
    by_cases c : ∃ i, i < n ∧ p i
    · obtain ⟨i, hi, hp⟩ := c
      obtain ⟨m, h1, h2, h3⟩ := ih i hi hp
      exact ⟨m, by omega, h2, h3⟩
    · exact ⟨n, Nat.le_refl n, h, fun i hi hp => c ⟨i, hi, hp⟩⟩
section
variable {z : List (List Int)} (hz : okZ z) (hs : symZ z) (w : Nat) (hw : w < z.length)
include hz hs hw
/-- The parts without w: the others, and the pieces of w's own part. -/
theorem cut_count : cntZ z (fun k => k = (w : Int)) + 1 = cntZ z (fun _ => False) + cntL (fun i => isRep z (fun k => k = (w : Int)) i ∧ reachZ z (fun _ => False) (w : Int) (i : Int)) (List.range z.length) := by
  have hmono : ∀ i j : Int, reachZ z (fun k => k = (w : Int)) i j → reachZ z (fun _ => False) i j := fun i j h P hP hi => h P (fun a a0 a1 ha b hb _ => hP a a0 a1 ha b hb (fun f => f)) hi
  -- past w's part nothing changes
  have hsame : ∀ i j : Nat, i < z.length → ¬ reachZ z (fun _ => False) (w : Int) (j : Int) → reachZ z (fun _ => False) (i : Int) (j : Int) → reachZ z (fun k => k = (w : Int)) (i : Int) (j : Int) := by
    intro i j hi hj h
    have hiw : ¬ reachZ z (fun _ => False) (w : Int) (i : Int) := fun q => hj (reach_trans q h)
    have key := h (fun k => reachZ z (fun k => k = (w : Int)) (i : Int) k ∧ reachZ z (fun _ => False) (i : Int) k) (fun a a0 a1 ha b hb _ => by
      have h2 := reach_step ha.2 a0 a1 hb (fun f => f)
      refine ⟨reach_step ha.1 a0 a1 hb (fun e => ?_), h2⟩
      subst e
      exact hiw (reach_symm hz hs (by omega) (by omega) (fun f => f) h2)) ⟨reach_refl _, reach_refl _⟩
    exact key.1
  have hrep : ∀ i ∈ List.range z.length, (isRep z (fun k => k = (w : Int)) i ∧ ¬ reachZ z (fun _ => False) (w : Int) (i : Int)) ↔ (isRep z (fun _ => False) i ∧ ¬ reachZ z (fun _ => False) (w : Int) (i : Int)) := by
    intro i hi
    rw [List.mem_range] at hi
    constructor
    · rintro ⟨h1, h2⟩
      refine ⟨⟨fun f => f, fun i' hlt _ h => ?_⟩, h2⟩
      have h3 := hsame i' i (by omega) h2 h
      refine h1.2 i' hlt (fun e => ?_) h3
      have e : (i' : Int) = (w : Int) := e
      rw [e] at h
      exact h2 h
    · rintro ⟨h1, h2⟩
      refine ⟨⟨fun e => ?_, fun i' hlt _ h => h1.2 i' hlt (fun f => f) (hmono _ _ h)⟩, h2⟩
      have e : (i : Int) = (w : Int) := e
      rw [e] at h2
      exact h2 (reach_refl _)
  obtain ⟨m0, m1, m2, m3⟩ := least_of (p := fun i : Nat => reachZ z (fun _ => False) (w : Int) (i : Int)) (n := w) (reach_refl _)
  have hone : ∀ i ∈ List.range z.length, (isRep z (fun _ => False) i ∧ reachZ z (fun _ => False) (w : Int) (i : Int)) ↔ i = m0 := by
    intro i hi
    rw [List.mem_range] at hi
    constructor
    · rintro ⟨h1, h2⟩
      rcases Nat.lt_trichotomy i m0 with q | q | q
      · exact absurd h2 (m3 i q)
      · exact q
      · exact absurd (reach_trans (reach_symm hz hs (by omega) (by omega) (fun f => f) m2) h2) (h1.2 m0 q (fun f => f))
    · intro e
      subst e
      exact ⟨⟨fun f => f, fun i' hlt _ h => m3 i' hlt (reach_trans m2 (reach_symm hz hs (by omega) (by omega) (fun f => f) h))⟩, m2⟩
  have e1 := count_split (isRep z (fun k => k = (w : Int))) (fun i => reachZ z (fun _ => False) (w : Int) (i : Int)) (List.range z.length)
  have e2 := count_split (isRep z (fun _ => False)) (fun i => reachZ z (fun _ => False) (w : Int) (i : Int)) (List.range z.length)
  have e3 := count_congr hrep
  have e4 := count_congr hone
  have e5 := e4.trans (count_one (a := m0) List.nodup_range (List.mem_range.2 (by omega)))
  unfold cntZ
  omega
/-- Where w has one neighbour at most, its part without it is whole. -/
theorem cut_leaf (hd : (rd_L1 z (w : Int)).length ≤ 1) : cntL (fun i => isRep z (fun k => k = (w : Int)) i ∧ reachZ z (fun _ => False) (w : Int) (i : Int)) (List.range z.length) ≤ 1 := by
  -- each place of the part but w is reached from a neighbour of w
  have hnb : ∀ i : Int, reachZ z (fun _ => False) (w : Int) i → i = (w : Int) ∨ ∃ b ∈ rd_L1 z (w : Int), b ≠ (w : Int) ∧ reachZ z (fun k => k = (w : Int)) b i := fun i h =>
    h (fun k => k = (w : Int) ∨ ∃ b ∈ rd_L1 z (w : Int), b ≠ (w : Int) ∧ reachZ z (fun k => k = (w : Int)) b k) (fun a a0 a1 ha b hb _ => by
      by_cases e : b = (w : Int)
      · exact .inl e
      · right
        rcases ha with rfl | ⟨c, c1, c2, c3⟩
        · exact ⟨b, hb, e, reach_refl _⟩
        · exact ⟨c, c1, c2, reach_step c3 a0 a1 hb e⟩) (.inl rfl)
  by_cases h0 : ∃ i ∈ List.range z.length, isRep z (fun k => k = (w : Int)) i ∧ reachZ z (fun _ => False) (w : Int) (i : Int)
  · obtain ⟨i0, hi0, r0, q0⟩ := h0
    have hle : ∀ i ∈ List.range z.length, (isRep z (fun k => k = (w : Int)) i ∧ reachZ z (fun _ => False) (w : Int) (i : Int)) → i = i0 := by
      intro i hi ⟨r1, q1⟩
      rw [List.mem_range] at hi hi0
      rcases hnb _ q1 with e | ⟨b, b1, b2, b3⟩
      · exact absurd e r1.1
      rcases hnb _ q0 with e | ⟨c, c1, c2, c3⟩
      · exact absurd e r0.1
      have hbc : b = c := by
        generalize rd_L1 z (w : Int) = row at hd b1 c1
        match row, hd with
        | [], _ => simp at b1
        | [x], _ => rw [List.mem_singleton] at b1 c1; rw [b1, c1]
      subst hbc
      have hbr := hz (w : Int) (by omega) (by omega) b b1
      rcases Nat.lt_trichotomy i i0 with q | q | q
      · exact absurd (reach_trans (reach_symm hz hs hbr.1 hbr.2 b2 b3) c3) (r0.2 i q r1.1)
      · exact q
      · exact absurd (reach_trans (reach_symm hz hs hbr.1 hbr.2 b2 c3) b3) (r1.2 i0 q r0.1)
    have e1 := count_le (p := fun i => isRep z (fun k => k = (w : Int)) i ∧ reachZ z (fun _ => False) (w : Int) (i : Int)) (q := fun i => i = i0) (l := List.range z.length) hle
    rw [count_one List.nodup_range hi0] at e1
    exact e1
  · have := count_none (p := fun i => isRep z (fun k => k = (w : Int)) i ∧ reachZ z (fun _ => False) (w : Int) (i : Int)) (l := List.range z.length) (fun i hi h => h0 ⟨i, hi, h⟩)
    omega
end
end Go.Proofs.Ytaemfocjokkopaa.P
namespace Go.Proofs.Ytaemfocjokkopaa.P
open Go.RowKit Go.Proofs.YtaemfocjokkopaaW.PrintWords Go.Proofs.YtaemfocjokkopaaW.PrintLast Go.Proofs.YtaemfocjokkopaaW.PrintMore
set_option linter.unusedVariables false
set_option linter.unusedSimpArgs false
/-- The pieces of w's part without w. -/
noncomputable def pieces (z : List (List Int)) (w : Nat) : Nat := cntL (fun i => isRep z (fun k => k = (w : Int)) i ∧ reachZ z (fun _ => False) (w : Int) (i : Int)) (List.range z.length)
def isCut (z : List (List Int)) (w : Nat) : Prop := 1 < pieces z w
open Classical in
noncomputable def cutF (z : List (List Int)) : Nat → Nat → List Int
  | 0, _ => []
  | d + 1, m => (if isCut z m then [(m : Int)] else []) ++ cutF z d (m + 1)
open Classical in
theorem cutF_mem (z : List (List Int)) : ∀ (d m : Nat) (x : Int), x ∈ cutF z d m ↔ ((m : Int) ≤ x ∧ x < ((m + d : Nat) : Int)) ∧ isCut z x.toNat
  | 0, m, x => by
    rw [cutF]
    constructor
    · intro h; simp at h
    · intro h; omega
  | d + 1, m, x => by
    rw [cutF, List.mem_append, cutF_mem z d (m + 1) x]
    by_cases c : isCut z m
    · rw [if_pos c, List.mem_singleton]
      constructor
      · rintro (h | h)
        · subst h; exact ⟨by omega, by rw [Int.toNat_natCast]; exact c⟩
        · exact ⟨by omega, h.2⟩
      · intro h
        by_cases e : x = (m : Int)
        · exact .inl e
        · exact .inr ⟨by omega, h.2⟩
    · rw [if_neg c]
      constructor
      · rintro (h | h)
        · simp at h
        · exact ⟨by omega, h.2⟩
      · intro h
        by_cases e : x = (m : Int)
        · subst e; rw [Int.toNat_natCast] at h; exact absurd h.2 c
        · exact .inr ⟨by omega, h.2⟩
open Classical in
theorem cutF_strict (z : List (List Int)) : ∀ (d m : Nat), (cutF z d m).Pairwise (· < ·)
  | 0, m => List.Pairwise.nil
  | d + 1, m => by
    rw [cutF]
    have ih := cutF_strict z d (m + 1)
    by_cases c : isCut z m
    · rw [if_pos c]
      refine List.pairwise_cons.2 ⟨fun y hy => ?_, ih⟩
      have := (cutF_mem z d (m + 1) y).1 hy
      omega
    · rw [if_neg c]
      exact ih
section
variable {z : List (List Int)} (hn : z.length ≤ 1048576) (hz : okZ z) (hr : ∀ i, (rd_L1 z i).length ≤ 1048576) (hs : symZ z)
include hn hz hr hs
theorem parts_all : Ev (fun k => impl_parts.f k z (-1)) ((repsF z (fun _ => False) z.length 0).map (fun (i : Nat) => clsL z (fun _ => False) (i : Int))) := by
  have hrep : ∀ k, rdOf false (List.replicate z.length false) k = false := fun k => by
    unfold rdOf; rw [List.getD_eq_getElem?_getD, List.getElem?_replicate]; split <;> rfl
  have h := parts_reps hn hz hr hs (fun _ => False) z.length 0 [] (List.replicate z.length false) (Nat.sub_zero _) (Nat.zero_le _) (Nat.le_refl _) (List.length_replicate ..) (fun k _ _ => by
    rw [hrep]
    constructor
    · intro h; cases h
    · rintro (h | ⟨i', h, _⟩)
      · exact h.elim
      · omega)
  rw [List.nil_append] at h
  unfold impl_parts.f
  refine Ev.bindo rfl ?_
  refine Ev.pos (by omega) ?_
  refine Ev.pos (by rw [Int.toNat_natCast]; omega) ?_
  refine Ev.bindo rfl ?_
  refine Ev.neg (by decide) ?_
  rw [Int.toNat_natCast]
  refine Ev.step (fun k => by rw [impl_parts.j0]) ?_
  exact h
theorem parts_but (w : Nat) (hw : w < z.length) : Ev (fun k => impl_parts.f k z (w : Int)) ((repsF z (fun k => k = (w : Int)) z.length 0).map (fun (i : Nat) => clsL z (fun k => k = (w : Int)) (i : Int))) := by
  have hrep : ∀ k, rdOf false (List.replicate z.length false) k = false := fun k => by
    unfold rdOf; rw [List.getD_eq_getElem?_getD, List.getElem?_replicate]; split <;> rfl
  have hl : ((w : Int)).toNat < (List.replicate z.length false).length := by rw [List.length_replicate]; omega
  have h := parts_reps hn hz hr hs (fun k => k = (w : Int)) z.length 0 [] ((List.replicate z.length false).set ((w : Int)).toNat true) (Nat.sub_zero _) (Nat.zero_le _) (Nat.le_refl _) (by rw [List.length_set, List.length_replicate]) (fun k hk0 hk1 => by
    rw [rdB_set _ (w : Int) k true hl]
    constructor
    · intro h
      by_cases c : k.toNat = ((w : Int)).toNat
      · exact .inl (by omega)
      · rw [if_neg c, hrep] at h; cases h
    · rintro (h | ⟨i', h, _⟩)
      · have h : k = (w : Int) := h
        rw [h, if_pos rfl]
      · omega)
  rw [List.nil_append] at h
  unfold impl_parts.f
  refine Ev.bindo rfl ?_
  refine Ev.pos (by omega) ?_
  refine Ev.pos (by rw [Int.toNat_natCast]; omega) ?_
  refine Ev.bindo rfl ?_
  refine Ev.pos (by omega) ?_
  refine Ev.pos (by omega) ?_
  rw [Int.toNat_natCast z.length]
  refine Ev.pos (by rw [List.length_replicate]; omega) ?_
  refine Ev.step (fun k => by rw [impl_parts.j0]) ?_
  exact h
omit hn hr in
theorem cut_iff (w : Nat) (hw : w < z.length) : (1 < (rd_L1 z (w : Int)).length ∧ cntZ z (fun _ => False) < cntZ z (fun k => k = (w : Int))) ↔ isCut z w := by
  have h1 := cut_count hz hs w hw
  unfold isCut pieces
  constructor
  · rintro ⟨_, h⟩
    omega
  · intro h
    refine ⟨?_, by omega⟩
    by_cases c : (rd_L1 z (w : Int)).length ≤ 1
    · have := cut_leaf hz hs w hw c
      omega
    · omega
theorem cuts_loop (d : Nat) : ∀ (m : Nat) (acc : List Int), z.length - m = d → m ≤ z.length → acc.length ≤ m → Ev (fun k => impl_CutPlaces.l0 k z acc (cntZ z (fun _ => False) : Int) z (z.length : Int) (m : Int)) (acc ++ cutF z d m, true) := by
  induction d with
  | zero =>
    intro m acc h0 h1 h2
    rw [cutF, List.append_nil]
    refine Ev.step (fun k => by rw [impl_CutPlaces.l0]) ?_
    exact Ev.neg (by omega) (Ev.now _)
  | succ d ih =>
    intro m acc h0 h1 h2
    have hm : m < z.length := by omega
    have hb := parts_but hn hz hr hs m hm
    have hbl : ((repsF z (fun k => k = (m : Int)) z.length 0).map (fun (i : Nat) => clsL z (fun k => k = (m : Int)) (i : Int))).length = cntZ z (fun k => k = (m : Int)) := by rw [List.length_map, repsF_len]
    have hi := cut_iff hz hs m hm
    rw [cutF]
    refine Ev.step (fun k => by rw [impl_CutPlaces.l0]) ?_
    refine Ev.pos (by omega) ?_
    refine Ev.pos (by omega) ?_
    refine Ev.pos (by omega) ?_
    rw [wrap_up hm (by omega)]
    by_cases c1 : 1 < (rd_L1 z (m : Int)).length
    · refine Ev.pos (by omega) ?_
      refine Ev.bind hb ?_
      rw [hbl]
      by_cases c2 : cntZ z (fun _ => False) < cntZ z (fun k => k = (m : Int))
      · rw [if_pos (hi.1 ⟨c1, c2⟩)]
        refine Ev.pos (by omega) ?_
        refine Ev.pos (by omega) ?_
        have := ih (m + 1) (acc ++ [(m : Int)]) (by omega) (by omega) (by rw [List.length_append, List.length_singleton]; omega)
        rw [List.append_assoc] at this
        exact this
      · rw [if_neg (fun h => c2 (hi.2 h).2), List.nil_append]
        refine Ev.neg (by omega) ?_
        exact ih (m + 1) acc (by omega) (by omega) (by omega)
    · rw [if_neg (fun h => c1 (hi.2 h).1), List.nil_append]
      refine Ev.neg (by omega) ?_
      exact ih (m + 1) acc (by omega) (by omega) (by omega)
end
end Go.Proofs.Ytaemfocjokkopaa.P
