/- Both sides spread from a place alike: the same distances; what is reached is the least closed set that holds the place. -/
import Derived.Test.YtjgcehldepfaaaaGreatForestLockedG21
import Derived.Test.YtjgcehldepfaaaaGreatForestLockedG14
import Derived.Test.YtjgcehldepfaaaaGreatForestLockedG15
import Derived.Test.YtjgcehldepfaaaaGreatForestLockedG18
import Derived.Test.YtjgcehldepfaaaaGreatForestLockedG11
import Derived.Test.YtjgcehldepfaaaaGreatForestLockedG9
import Derived.Test.YtjgcehldepfaaaaGreatForestLockedG19
import Derived.Test.YtjgcehldepfaaaaGreatForestLockedG8
namespace Go.Proofs.YtjgcehldepfaaaaGreat.P
open Go.RowKit YtjgcehldepfaaaaGreatW.PrintWords Go.Proofs.YtjgcehldepfaaaaGreatW.PrintLast Go.Proofs.YtjgcehldepfaaaaGreatW.PrintMore
set_option linter.unusedVariables false
set_option linter.unusedSimpArgs false

mutual
def fp : Nat → List (List Int) → Int → List Int → Int → Option (List Int)
 | 0, _, _, _, _ => none
 | k + 1, x0, x1, x5, x6 => if x6 < (x5.length : Int) then (if 0 ≤ x6 then (fp k x0 x1 (x5.set (x6 : Int).toNat (-1)) (wrap64 (x6 + 1))) else (none)) else (if 0 ≤ x1 then (if x1 < (x5.length : Int) then (eK k x0 (x5.set (x1 : Int).toNat 0) (([x1] : List Int)) 0) else (none)) else (none))
def eK : Nat → List (List Int) → List Int → List Int → Int → Option (List Int)
 | 0, _, _, _, _ => none
 | k + 1, x0, x5, x7, x8 => if x8 < (x7.length : Int) then (if 0 ≤ x8 then (if 0 ≤ (rd x7 x8) then (if (rd x7 x8) < (x0.length : Int) then (eJ k x0 x5 x7 x8 (al x0 (rd x7 x8)) 0) else (none)) else (none)) else (none)) else (some x5)
def eJ : Nat → List (List Int) → List Int → List Int → Int → List Int → Int → Option (List Int)
 | 0, _, _, _, _, _, _ => none
 | k + 1, x0, x5, x7, x8, x9, x10 => if x10 < (x9.length : Int) then (if 0 ≤ x10 then (if 0 ≤ (rd x9 x10) then (if (rd x9 x10) < (x5.length : Int) then (if (rd x5 (rd x9 x10)) < 0 then (if 0 ≤ x8 then (if x8 < (x7.length : Int) then (if 0 ≤ (rd x7 x8) then (if (rd x7 x8) < (x5.length : Int) then (if x7.length < 17592186044416 then (eJ k x0 (x5.set ((rd x9 x10) : Int).toNat (wrap64 ((rd x5 (rd x7 x8)) + 1))) (x7 ++ [rd x9 x10]) x8 x9 (wrap64 (x10 + 1))) else (none)) else (none)) else (none)) else (none)) else (none)) else (eJ k x0 x5 x7 x8 x9 (wrap64 (x10 + 1)))) else (none)) else (none)) else (none)) else (eK k x0 x5 x7 (wrap64 (x8 + 1)))
end
def kv (k : Nat) (l0 : List (List Int)) (a1 : Int) : Option (List Int) := if 0 ≤ (l0.length : Int) then (if ((l0.length : Int) : Int).toNat ≤ 35184372088832 then (fp k l0 a1 (List.replicate ((l0.length : Int) : Int).toNat 0) 0) else (none)) else (none)
theorem lg (l : List Int) (j k : Int) (v : Int) (h : j.toNat < l.length) : rd (l.set j.toNat v) k = if k.toNat = j.toNat then v else rd l k := by
  unfold rd
  rw [List.getD_eq_getElem?_getD, List.getD_eq_getElem?_getD, List.getElem?_set]
  by_cases c : j.toNat = k.toNat
  · rw [if_pos c, if_pos c.symm, if_pos h, Option.getD_some]
  · rw [if_neg c, if_neg (Ne.symm c)]
def d5 (l : List Int) : Nat := l.countP fun x => decide (x < 0)
theorem lC (l : List Int) (j : Int) (v : Int) (h : j.toNat < l.length) (hj : rd l j < 0) (hv : 0 ≤ v) : d5 (l.set j.toNat v) + 1 = d5 l := by
  have e1 : rd l j = l[j.toNat] := by unfold rd; rw [List.getD_eq_getElem?_getD, List.getElem?_eq_getElem h, Option.getD_some]
  rw [e1] at hj
  unfold d5
  rw [List.countP_set h]
  have hp : 0 < l.countP (fun x => decide (x < 0)) := List.countP_pos_iff.2 ⟨_, List.getElem_mem h, af hj⟩
  rw [if_pos (af hj), if_neg (by simp; omega)]
  omega
/-- A set of places that no row leads out of. -/
def ff (z : List (List Int)) (P : Int → Prop) : Prop := ∀ i, 0 ≤ i → i < (z.length : Int) → P i → ∀ j ∈ al z i, P j
/-- Each row holds places. -/
def di (z : List (List Int)) : Prop := ∀ i, 0 ≤ i → i < (z.length : Int) → ∀ j ∈ al z i, 0 ≤ j ∧ j < (z.length : Int)
section
variable {z : List (List Int)} (hz : di z) (hn : z.length ≤ 1048576) (hr : ∀ i, (al z i).length ≤ 1048576)
include hn
theorem nt {row : List Int} (hrow : ∀ j ∈ row, 0 ≤ j ∧ j < (z.length : Int)) (hrl : row.length ≤ 1048576) (i : Int) (hi : 0 ≤ i ∧ i < (z.length : Int)) (h : Nat) (d : Nat) :
    ∀ (m : Nat) (out Q : List Int), row.length - m = d → m ≤ row.length → out.length = z.length → h < Q.length → rd Q (h : Int) = i → 0 ≤ rd out i → (∀ k, rd out k < (Q.length : Int)) → d5 out + Q.length ≤ 1048576 →
    ∃ (out' new : List Int), out'.length = z.length ∧ (∀ k, rd out' k < ((Q ++ new).length : Int)) ∧ d5 out' + (Q ++ new).length = d5 out + Q.length ∧ (∀ k, 0 ≤ rd out k → rd out' k = rd out k) ∧
      (∀ j ∈ row.drop m, 0 ≤ rd out' j) ∧ (∀ j ∈ new, j ∈ row ∧ rd out' j = rd out i + 1) ∧ (∀ k, 0 ≤ k → k < (z.length : Int) → 0 ≤ rd out' k → 0 ≤ rd out k ∨ k ∈ new) ∧
      (∀ R, Ev (fun k => cF k z out' ((Q ++ new).drop (h + 1))) R → Ev (fun k => cV k z out (Q.drop (h + 1)) i row (row.length : Int) (m : Int)) R) ∧
      (∀ R, Ev (fun k => eK k z out' (Q ++ new) (wrap64 ((h : Int) + 1))) R → Ev (fun k => eJ k z out Q (h : Int) row (m : Int)) R) := by
  induction d with
  | zero =>
    intro m out Q h0 h1 h2 h3 h4 h5 h6 h7
    refine ⟨out, [], h2, by simpa using h6, by simp, fun _ _ => rfl, fun j hj => ?_, (fun j hj => by cases hj), fun k _ _ hk => .inl hk, fun R hR => ?_, fun R hR => ?_⟩
    · rw [List.drop_eq_nil_of_le (by omega)] at hj; cases hj
    · rw [List.append_nil] at hR
      refine Ev.step (fun k => by rw [cV]) ?_
      refine Ev.neg (by omega) ?_
      exact hR
    · rw [List.append_nil] at hR
      refine Ev.step (fun k => by rw [eJ]) ?_
      refine Ev.neg (by omega) ?_
      exact hR
  | succ d ih =>
    intro m out Q h0 h1 h2 h3 h4 h5 h6 h7
    have hm : m < row.length := by omega
    have hj := hrow row[m] (List.getElem_mem hm)
    have hjl : row[m].toNat < out.length := by omega
    by_cases c : rd out row[m] < 0
    · have hv6 := h6 i
      have hw : wrap64 (rd out i + 1) = rd out i + 1 := bV (by omega) (by omega)
      have hne : row[m].toNat ≠ i.toNat := fun e => by
        have : rd out row[m] = rd out i := by unfold rd; rw [e]
        omega
      have hrs : ∀ k, rd (out.set row[m].toNat (rd out i + 1)) k = if k.toNat = row[m].toNat then rd out i + 1 else rd out k := fun k => lg out row[m] k _ hjl
      have hng := lC out row[m] (rd out i + 1) hjl c (by omega)
      have hQ4 : rd (Q ++ [row[m]]) (h : Int) = i := by
        rw [← h4, aK _ h (by simp; omega), aK Q h h3, List.getElem_append_left h3]
      obtain ⟨out', new, a1, a2, a3, a4, a5, a6, a7, a8, a9⟩ := ih (m + 1) (out.set row[m].toNat (rd out i + 1)) (Q ++ [row[m]]) (by omega) (by omega) (by rw [List.length_set, h2]) (by simp; omega) hQ4
        (by rw [hrs, if_neg (Ne.symm hne)]; exact h5)
        (fun k => by rw [hrs, List.length_append, List.length_singleton]; have := h6 k; split <;> omega)
        (by rw [List.length_append, List.length_singleton]; omega)
      have hmono : ∀ k, 0 ≤ rd out k → rd (out.set row[m].toNat (rd out i + 1)) k = rd out k := fun k hk => by
        rw [hrs]
        by_cases ck : k.toNat = row[m].toNat
        · have : rd out k = rd out row[m] := by unfold rd; rw [ck]
          omega
        · rw [if_neg ck]
      have hself : rd out' row[m] = rd out i + 1 := by
        have e0 : rd (out.set row[m].toNat (rd out i + 1)) row[m] = rd out i + 1 := by rw [hrs, if_pos rfl]
        rw [a4 _ (by rw [e0]; omega), e0]
      have hap : Q ++ row[m] :: new = (Q ++ [row[m]]) ++ new := by simp
      refine ⟨out', row[m] :: new, a1, ?_, ?_, fun k hk => (a4 k (by rw [hmono k hk]; exact hk)).trans (hmono k hk), fun j hj' => ?_, fun j hj' => ?_, fun k hk0 hk1 hk => ?_, fun R hR => ?_, fun R hR => ?_⟩
      · rw [hap]; exact a2
      · rw [hap, a3, List.length_append, List.length_singleton]; omega
      · rw [List.drop_eq_getElem_cons hm] at hj'
        rcases List.mem_cons.1 hj' with rfl | hj'
        · rw [hself]; omega
        · exact a5 j hj'
      · rcases List.mem_cons.1 hj' with rfl | hj'
        · exact ⟨List.getElem_mem hm, hself⟩
        · exact ⟨(a6 j hj').1, by rw [(a6 j hj').2, hmono i h5]⟩
      · rcases a7 k hk0 hk1 hk with h' | h'
        · rw [hrs] at h'
          by_cases ck : k.toNat = row[m].toNat
          · right; rw [show k = row[m] by omega]; exact .head _
          · rw [if_neg ck] at h'; exact .inl h'
        · exact .inr (.tail _ h')
      · rw [hap] at hR
        have := a8 R hR
        rw [← aH hm (by omega), List.drop_append_of_le_length (by omega)] at this
        refine Ev.step (fun k => by rw [cV]) ?_
        refine Ev.pos (by omega) ?_
        refine Ev.pos (by omega) ?_
        refine Ev.pos (by omega) ?_
        rw [aK row m hm]
        refine Ev.pos hj.1 ?_
        refine Ev.pos (by omega) ?_
        refine Ev.pos c ?_
        refine Ev.pos hi.1 ?_
        refine Ev.pos (by omega) ?_
        refine Ev.pos (by rw [List.length_drop]; omega) ?_
        rw [hw]
        exact this
      · rw [hap] at hR
        have := a9 R hR
        rw [← aH hm (by omega)] at this
        refine Ev.step (fun k => by rw [eJ]) ?_
        refine Ev.pos (by omega) ?_
        refine Ev.pos (by omega) ?_
        rw [aK row m hm, h4]
        refine Ev.pos hj.1 ?_
        refine Ev.pos (by omega) ?_
        refine Ev.pos c ?_
        refine Ev.pos (by omega) ?_
        refine Ev.pos (by omega) ?_
        refine Ev.pos hi.1 ?_
        refine Ev.pos (by omega) ?_
        refine Ev.pos (by omega) ?_
        rw [hw]
        exact this
    · obtain ⟨out', new, a1, a2, a3, a4, a5, a6, a7, a8, a9⟩ := ih (m + 1) out Q (by omega) (by omega) h2 h3 h4 h5 h6 h7
      refine ⟨out', new, a1, a2, a3, a4, fun j hj' => ?_, a6, a7, fun R hR => ?_, fun R hR => ?_⟩
      · rw [List.drop_eq_getElem_cons hm] at hj'
        rcases List.mem_cons.1 hj' with rfl | hj'
        · rw [a4 _ (by omega)]; omega
        · exact a5 j hj'
      · have := a8 R hR
        rw [← aH hm (by omega)] at this
        refine Ev.step (fun k => by rw [cV]) ?_
        refine Ev.pos (by omega) ?_
        refine Ev.pos (by omega) ?_
        refine Ev.pos (by omega) ?_
        rw [aK row m hm]
        refine Ev.pos hj.1 ?_
        refine Ev.pos (by omega) ?_
        refine Ev.neg c ?_
        exact this
      · have := a9 R hR
        rw [← aH hm (by omega)] at this
        refine Ev.step (fun k => by rw [eJ]) ?_
        refine Ev.pos (by omega) ?_
        refine Ev.pos (by omega) ?_
        rw [aK row m hm]
        refine Ev.pos hj.1 ?_
        refine Ev.pos (by omega) ?_
        refine Ev.neg c ?_
        exact this
include hz hr
theorem nr (s : Int) (u : Nat) : ∀ (out Q : List Int) (h : Nat), d5 out + (Q.length - h) = u → h ≤ Q.length → out.length = z.length → (∀ k, rd out k < (Q.length : Int)) → d5 out + Q.length ≤ 1048576 → 0 < Q.length →
    (∀ q ∈ Q, 0 ≤ q ∧ q < (z.length : Int) ∧ 0 ≤ rd out q) → (∀ k, 0 ≤ k → k < (z.length : Int) → 0 ≤ rd out k → k ∈ Q) → (∀ q ∈ Q.take h, ∀ j ∈ al z q, 0 ≤ rd out j) → (∀ P, ff z P → P s → ∀ q ∈ Q, P q) → rd out s = 0 → (∀ k, 0 ≤ k → k < (z.length : Int) → 0 ≤ rd out k → k = s ∨ ∃ p, 0 ≤ p ∧ p < (z.length : Int) ∧ k ∈ al z p ∧ 0 ≤ rd out p ∧ rd out k = rd out p + 1) →
    ∃ R, Ev (fun k => cF k z out (Q.drop h)) R ∧ Ev (fun k => eK k z out Q (h : Int)) R ∧ R.length = z.length ∧ (∀ k, rd R k ≤ 1048575) ∧ (∀ k, 0 ≤ rd out k → 0 ≤ rd R k) ∧ ff z (fun k => 0 ≤ rd R k) ∧ (∀ P, ff z P → P s → ∀ k, 0 ≤ k → k < (z.length : Int) → 0 ≤ rd R k → P k) ∧ rd R s = 0 ∧ (∀ k, 0 ≤ k → k < (z.length : Int) → 0 ≤ rd R k → k = s ∨ ∃ p, 0 ≤ p ∧ p < (z.length : Int) ∧ k ∈ al z p ∧ 0 ≤ rd R p ∧ rd R k = rd R p + 1) := by
  induction u with
  | zero =>
    intro out Q h h0 h1 h2 h3 h4 hQ0 h5 h6 h7 h8 hS hE
    have he : h = Q.length := by omega
    refine ⟨out, ?_, ?_, h2, fun k => by have := h3 k; omega, fun _ hk => hk, fun i hi0 hi1 hi j hj => ?_, fun P hP hs k hk0 hk1 hk => h8 P hP hs k (h6 k hk0 hk1 hk), hS, hE⟩
    · rw [List.drop_eq_nil_of_le (by omega)]
      refine Ev.step (fun k => by rw [cF]) ?_
      refine Ev.neg (by simp) ?_
      exact (Ev.now _)
    · refine Ev.step (fun k => by rw [eK]) ?_
      refine Ev.neg (by omega) ?_
      exact (Ev.now _)
    · exact h7 i (by rw [List.take_of_length_le (by omega)]; exact h6 i hi0 hi1 hi) j hj
  | succ u ih =>
    intro out Q h h0 h1 h2 h3 h4 hQ0 h5 h6 h7 h8 hS hE
    by_cases ce : h = Q.length
    · refine ⟨out, ?_, ?_, h2, fun k => by have := h3 k; omega, fun _ hk => hk, fun i hi0 hi1 hi j hj => ?_, fun P hP hs k hk0 hk1 hk => h8 P hP hs k (h6 k hk0 hk1 hk), hS, hE⟩
      · rw [List.drop_eq_nil_of_le (by omega)]
        refine Ev.step (fun k => by rw [cF]) ?_
        refine Ev.neg (by simp) ?_
        exact (Ev.now _)
      · refine Ev.step (fun k => by rw [eK]) ?_
        refine Ev.neg (by omega) ?_
        exact (Ev.now _)
      · exact h7 i (by rw [List.take_of_length_le (by omega)]; exact h6 i hi0 hi1 hi) j hj
    have hh : h < Q.length := by omega
    obtain ⟨q0, q1, q2⟩ := h5 Q[h] (List.getElem_mem hh)
    have hrow := hz Q[h] q0 q1
    obtain ⟨out', new, a1, a2, a3, a4, a5, a6, a7, a8, a9⟩ := nt hn hrow (hr _) Q[h] ⟨q0, q1⟩ h ((al z Q[h]).length - 0) 0 out Q rfl (Nat.zero_le _) h2 hh (aK Q h hh) q2 h3 h4
    rw [List.drop_zero] at a5
    simp only [Int.natCast_zero] at a8 a9
    obtain ⟨R, r1, r2, r3, r4, r5, r6, r7, r8, r9⟩ := ih out' (Q ++ new) (h + 1) (by rw [List.length_append] at a3 ⊢; omega) (by rw [List.length_append]; omega) a1 a2 (by omega) (by rw [List.length_append]; omega)
      (fun q hq => by
        rcases List.mem_append.1 hq with hq | hq
        · obtain ⟨b0, b1, b2⟩ := h5 q hq; exact ⟨b0, b1, by rw [a4 q b2]; exact b2⟩
        · obtain ⟨b0, b1⟩ := a6 q hq; exact ⟨(hrow q b0).1, (hrow q b0).2, by rw [b1]; omega⟩)
      (fun k hk0 hk1 hk => by
        rcases a7 k hk0 hk1 hk with h' | h'
        · exact List.mem_append_left _ (h6 k hk0 hk1 h')
        · exact List.mem_append_right _ h')
      (fun q hq j hj => by
        rw [List.take_append_of_le_length (by omega), List.take_add_one, List.getElem?_eq_getElem hh] at hq
        rcases List.mem_append.1 hq with hq | hq
        · rw [a4 j (h7 q hq j hj)]; exact h7 q hq j hj
        · rw [show q = Q[h] by simpa using hq] at hj; exact a5 j hj)
      (fun P hP hs q hq => by
        rcases List.mem_append.1 hq with hq | hq
        · exact h8 P hP hs q hq
        · exact hP Q[h] q0 q1 (h8 P hP hs _ (List.getElem_mem hh)) q (a6 q hq).1)
      (by rw [a4 s (by omega)]; exact hS)
      (fun k hk0 hk1 hk => by
        rcases a7 k hk0 hk1 hk with h' | h'
        · rcases hE k hk0 hk1 h' with e | ⟨p, p0, p1, p2, p3, p4⟩
          · exact .inl e
          · exact .inr ⟨p, p0, p1, p2, by rw [a4 p p3]; exact p3, by rw [a4 p p3, a4 k h']; exact p4⟩
        · obtain ⟨b0, b1⟩ := a6 k h'
          exact .inr ⟨Q[h], q0, q1, b0, by rw [a4 _ q2]; exact q2, by rw [a4 _ q2]; exact b1⟩)
    refine ⟨R, ?_, ?_, r3, r4, fun k hk => r5 k (by rw [a4 k hk]; exact hk), r6, r7, r8, r9⟩
    · have e8 := a8 R r1
      rw [List.drop_eq_getElem_cons hh]
      refine Ev.step (fun k => by rw [cF]) ?_
      refine Ev.pos (by rw [List.length_cons]; omega) ?_
      refine Ev.pos (by rw [List.length_cons]; omega) ?_
      refine Ev.pos (by rw [List.length_cons]; omega) ?_
      have e1 : rd (Q[h] :: Q.drop (h + 1)) 0 = Q[h] := rfl
      have e2 : (Q[h] :: Q.drop (h + 1)).drop (1 : Int).toNat = Q.drop (h + 1) := rfl
      rw [e1, e2]
      refine Ev.pos q0 ?_
      refine Ev.pos q1 ?_
      exact e8
    · have hwh : wrap64 ((h : Int) + 1) = ((h + 1 : Nat) : Int) := aH hh (by omega)
      rw [hwh] at a9
      clear hwh
      have e9 := a9 R r2
      refine Ev.step (fun k => by rw [eK]) ?_
      refine Ev.pos (by omega) ?_
      refine Ev.pos (by omega) ?_
      rw [aK Q h hh]
      refine Ev.pos q0 ?_
      refine Ev.pos q1 ?_
      exact e9
end
theorem sj {z : List (List Int)} (i : Int) {R : List Int} (d : Nat) : ∀ (m : Nat) (out : List Int), out.length - m = d → m ≤ out.length → out.length ≤ 1048576 → out.take m = List.replicate m (-1) → Ev (fun k => fp k z i (List.replicate out.length (-1)) (out.length : Int)) R → Ev (fun k => fp k z i out (m : Int)) R := by
  induction d with
  | zero =>
    intro m out h0 h1 h2 h3 hR
    have he : m = out.length := by omega
    rw [he] at h3 ⊢
    rw [List.take_length] at h3
    rw [← h3] at hR
    exact hR
  | succ d ih =>
    intro m out h0 h1 h2 h3 hR
    have hm : m < out.length := by omega
    refine Ev.step (fun k => by rw [fp]) ?_
    refine Ev.pos (by omega) ?_
    refine Ev.pos (by omega) ?_
    have := ih (m + 1) (out.set m (-1)) (by rw [List.length_set]; omega) (by rw [List.length_set]; omega) (by rw [List.length_set]; exact h2) (by
      rw [List.take_add_one, List.getElem?_set_self hm, List.take_set_of_le (av _), h3, List.replicate_succ', Option.toList]) (by rw [List.length_set]; exact hR)
    rw [← aH hm (by omega)] at this
    rw [Int.toNat_natCast]
    exact this
/-- What both sides' spread answers. -/
theorem nu {z : List (List Int)} (hz : di z) (hn : z.length ≤ 1048576) (hr : ∀ i, (al z i).length ≤ 1048576) (s : Int) (hs0 : 0 ≤ s) (hs1 : s < (z.length : Int)) :
    ∃ R, Ev (fun k => eQ k z s) R ∧ Ev (fun k => kv k z s) R ∧ R.length = z.length ∧ (∀ k, rd R k ≤ 1048575) ∧ 0 ≤ rd R s ∧ ff z (fun k => 0 ≤ rd R k) ∧ (∀ P, ff z P → P s → ∀ k, 0 ≤ k → k < (z.length : Int) → 0 ≤ rd R k → P k) ∧ rd R s = 0 ∧ (∀ k, 0 ≤ k → k < (z.length : Int) → 0 ≤ rd R k → k = s ∨ ∃ p, 0 ≤ p ∧ p < (z.length : Int) ∧ k ∈ al z p ∧ 0 ≤ rd R p ∧ rd R k = rd R p + 1) := by
  have hl : s.toNat < (List.replicate z.length (-1 : Int)).length := by rw [List.length_replicate]; omega
  have hrs : ∀ k, rd ((List.replicate z.length (-1 : Int)).set s.toNat 0) k = if k.toNat = s.toNat then 0 else rd (List.replicate z.length (-1)) k := fun k => lg _ s k 0 hl
  have hrep : ∀ k, rd (List.replicate z.length (-1 : Int)) k < 1 := fun k => by
    unfold rd; rw [List.getD_eq_getElem?_getD, List.getElem?_replicate]; split <;> simp
  have hrep2 : ∀ k : Int, 0 ≤ k → k < (z.length : Int) → rd (List.replicate z.length (-1 : Int)) k = -1 := fun k h0 h1 => by
    unfold rd; rw [List.getD_eq_getElem?_getD, List.getElem?_replicate, if_pos (by omega)]; rfl
  have hneg := lC (List.replicate z.length (-1 : Int)) s 0 hl (by rw [hrep2 s hs0 hs1]; decide) (Int.le_refl _)
  have hneg2 : d5 (List.replicate z.length (-1 : Int)) ≤ z.length := by have := List.countP_le_length (p := fun x => decide (x < 0)) (l := List.replicate z.length (-1 : Int)); rw [List.length_replicate] at this; exact this
  obtain ⟨R, r1, r2, r3, r4, r5, r6, r7, r8, r9⟩ := nr hz hn hr s _ ((List.replicate z.length (-1 : Int)).set s.toNat 0) [s] 0 rfl (Nat.zero_le _) (by rw [List.length_set, List.length_replicate])
    (fun k => by rw [hrs]; have := hrep k; simp only [List.length_singleton]; split <;> omega) (by rw [List.length_singleton]; omega) (by simp)
    (fun q hq => by rw [show q = s by simpa using hq]; exact ⟨hs0, hs1, by rw [hrs, if_pos rfl]; exact Int.le_refl _⟩)
    (fun k hk0 hk1 hk => by
      rw [hrs] at hk
      by_cases c : k.toNat = s.toNat
      · rw [show k = s by omega]; exact .head _
      · rw [if_neg c, hrep2 k hk0 hk1] at hk; omega)
    (fun q hq => by simp at hq) (fun P hP hs q hq => by rw [show q = s by simpa using hq]; exact hs) (by rw [hrs, if_pos rfl])
    (fun k hk0 hk1 hk => by
      rw [hrs] at hk
      by_cases c : k.toNat = s.toNat
      · exact .inl (by omega)
      · rw [if_neg c, hrep2 k hk0 hk1] at hk; omega)
  simp only [Int.natCast_zero, List.drop_zero] at r1 r2
  refine ⟨R, ?_, ?_, r3, r4, r5 s (by rw [hrs, if_pos rfl]; exact Int.le_refl _), r6, r7, r8, r9⟩
  · unfold eQ
    refine Ev.bindo (a := List.replicate z.length (-1)) ?_ ?_
    · unfold fB
      rw [if_pos ⟨rfl, by omega, by omega⟩, Int.toNat_natCast]
      rfl
    · rw [List.length_replicate]
      refine Ev.pos hs0 ?_
      refine Ev.pos hs1 ?_
      exact r1
  · unfold kv
    refine Ev.pos (by omega) ?_
    refine Ev.pos (by omega) ?_
    rw [Int.toNat_natCast]
    have hfill := sj (z := z) (R := R) s _ 0 (List.replicate z.length 0) rfl (Nat.zero_le _) (by rw [List.length_replicate]; exact hn) (by simp)
    simp only [Int.natCast_zero, List.length_replicate] at hfill
    refine hfill ?_
    refine Ev.step (fun k => by rw [fp]) ?_
    refine Ev.neg (by rw [List.length_replicate]; omega) ?_
    rw [List.length_replicate]
    refine Ev.pos hs0 ?_
    refine Ev.pos hs1 ?_
    exact r2
end Go.Proofs.YtjgcehldepfaaaaGreat.P
namespace Go.Proofs.YtjgcehldepfaaaaGreat.P
open Go.RowKit YtjgcehldepfaaaaGreatW.PrintWords Go.Proofs.YtjgcehldepfaaaaGreatW.PrintLast Go.Proofs.YtjgcehldepfaaaaGreatW.PrintMore
set_option linter.unusedVariables false
set_option linter.unusedSimpArgs false

theorem lh (l : List Bool) (j k : Int) (v : Bool) (h : j.toNat < l.length) : aV false (l.set j.toNat v) k = if k.toNat = j.toNat then v else aV false l k := by
  unfold aV
  rw [List.getD_eq_getElem?_getD, List.getD_eq_getElem?_getD, List.getElem?_set]
  by_cases c : j.toNat = k.toNat
  · rw [if_pos c, if_pos c.symm, if_pos h, Option.getD_some]
  · rw [if_neg c, if_neg (Ne.symm c)]
def free (l : List Bool) : Nat := l.countP fun x => !x
theorem mg (l : List Bool) (j : Int) (h : j.toNat < l.length) (hj : aV false l j = false) : free (l.set j.toNat true) + 1 = free l := by
  have e1 : aV false l j = l[j.toNat] := by unfold aV; rw [List.getD_eq_getElem?_getD, List.getElem?_eq_getElem h, Option.getD_some]
  rw [e1] at hj
  unfold free
  rw [List.countP_set h]
  have hp : 0 < l.countP (fun x => !x) := List.countP_pos_iff.2 ⟨_, List.getElem_mem h, by rw [hj]; rfl⟩
  rw [if_pos (by rw [hj]; rfl), if_neg (by simp)]
  omega
theorem fo : ∀ {l m : List Int}, l.Pairwise (· < ·) → m.Pairwise (· < ·) → (∀ x, x ∈ l ↔ x ∈ m) → l = m
  | [], [], _, _, _ => rfl
  | [], y :: t, _, _, h => by have := (h y).2 (.head _); cases this
  | x :: s, [], _, _, h => by have := (h x).1 (.head _); cases this
  | x :: s, y :: t, hl, hm, h => by
    obtain ⟨h1, h2⟩ := List.pairwise_cons.1 hl
    obtain ⟨h3, h4⟩ := List.pairwise_cons.1 hm
    have e : x = y := by
      rcases List.mem_cons.1 ((h x).1 (.head _)) with e | hx
      · exact e
      rcases List.mem_cons.1 ((h y).2 (.head _)) with e | hy
      · exact e.symm
      have := h3 x hx
      have := h1 y hy
      omega
    subst e
    rw [fo h2 h4 fun z => ⟨fun hz => ?_, fun hz => ?_⟩]
    · rcases List.mem_cons.1 ((h z).1 (.tail _ hz)) with e | hz'
      · have := h1 z hz; omega
      · exact hz'
    · rcases List.mem_cons.1 ((h z).2 (.tail _ hz)) with e | hz'
      · have := h3 z hz; omega
      · exact hz'
theorem nU {l : List Int} (h : l.Nodup) : (cz l).Pairwise (· < ·) := by
  unfold cz
  have hs : (l.mergeSort fun x y => decide (x ≤ y)).Pairwise (fun a b => decide (a ≤ b) = true) := List.pairwise_mergeSort (fun a b c h1 h2 => by simp at *; omega) (fun a b => by simp; omega) l
  have hd : (l.mergeSort fun x y => decide (x ≤ y)).Nodup := (List.mergeSort_perm l _).nodup_iff.2 h
  exact (List.Pairwise.and hs hd).imp fun hab => by obtain ⟨h1, h2⟩ := hab; simp at h1; omega
theorem nW (l : List Int) (x : Int) : x ∈ cz l ↔ x ∈ l := (List.mergeSort_perm l _).mem_iff
def fm (z : List (List Int)) : Prop := ∀ i j, 0 ≤ i → i < (z.length : Int) → 0 ≤ j → j < (z.length : Int) → j ∈ al z i → i ∈ al z j
section
variable {z : List (List Int)} (hn : z.length ≤ 1048576)
include hn
variable (hz : di z) (hr : ∀ i, (al z i).length ≤ 1048576)
include hz hr
end
section
variable {z : List (List Int)} (hn : z.length ≤ 1048576) (hz : di z) (hr : ∀ i, (al z i).length ≤ 1048576) (hs : fm z)
include hn hz hr hs
end
end Go.Proofs.YtjgcehldepfaaaaGreat.P
namespace Go.Proofs.YtjgcehldepfaaaaGreat.P
open Go.RowKit YtjgcehldepfaaaaGreatW.PrintWords Go.Proofs.YtjgcehldepfaaaaGreatW.PrintLast Go.Proofs.YtjgcehldepfaaaaGreatW.PrintMore
set_option linter.unusedVariables false
set_option linter.unusedSimpArgs false

theorem jp (e : List ch) (i j : Int) : j ∈ bY e i ↔ ∃ p ∈ e, (p.f0 = i ∧ p.f1 = j) ∨ (p.f0 ≠ i ∧ p.f1 = i ∧ p.f0 = j) := by
  unfold bY
  rw [List.mem_filterMap]
  refine exists_congr fun p => and_congr_right fun _ => ?_
  unfold dz
  by_cases c0 : p.f0 = i
  · rw [if_pos c0]; simp [c0]
  · rw [if_neg c0]
    by_cases c1 : p.f1 = i
    · rw [if_pos c1]; simp [c0, c1]
    · rw [if_neg c1]; simp [c0, c1]
section
variable (l : List (List Int)) (e : List ch) (hm : gz l e) (hg : bM (l.length : Int) none e = true)
include hm hg
theorem oD : di (cB l e) := by
  have _hu := hm
  have ha := jM (l.length : Int) e none hg
  intro i h0 h1 j hj
  rw [jq] at h1 ⊢
  unfold cB at hj
  rw [gv _ h0 h1, jp] at hj
  obtain ⟨p, hp, h⟩ := hj
  have := ha p hp
  omega
theorem oC (i : Int) : (al (cB l e) i).length ≤ 1048576 := by
  have _hu := hg
  unfold al
  rw [List.getD_eq_getElem?_getD]
  cases h : (cB l e)[i.toNat]? with
  | none => exact Nat.zero_le _
  | some s =>
    have hs := List.mem_of_getElem? h
    unfold cB bO at hs
    obtain ⟨q, _, rfl⟩ := List.mem_map.1 hs
    exact Nat.le_trans (oz _ _) hm.2.2
end
end Go.Proofs.YtjgcehldepfaaaaGreat.P
namespace Go.Proofs.YtjgcehldepfaaaaGreat.P
open Go.RowKit YtjgcehldepfaaaaGreatW.PrintWords Go.Proofs.YtjgcehldepfaaaaGreatW.PrintLast Go.Proofs.YtjgcehldepfaaaaGreatW.PrintMore
set_option linter.unusedVariables false
set_option linter.unusedSimpArgs false
section
variable {z : List (List Int)} (hn : z.length ≤ 1048576)
include hn
theorem sC {row : List Int} (hrow : ∀ j ∈ row, 0 ≤ j ∧ j < (z.length : Int)) (hrl : row.length ≤ 1048576) (out : List (List Int)) (kk i N : Int) (d : Nat) :
    ∀ (m : Nat) (seen : List Bool) (part : List Int), row.length - m = d → m ≤ row.length → seen.length = z.length → free seen + part.length ≤ 1048577 → part.Nodup → (∀ q ∈ part, aV false seen q = true ∧ 0 ≤ q ∧ q < (z.length : Int)) →
    ∃ (seen' : List Bool) (new : List Int), seen'.length = z.length ∧ free seen' + (part ++ new).length = free seen + part.length ∧ (part ++ new).Nodup ∧ (∀ k, aV false seen k = true → aV false seen' k = true) ∧
      (∀ j ∈ row.drop m, aV false seen' j = true) ∧ (∀ j ∈ new, j ∈ row ∧ aV false seen' j = true ∧ aV false seen j = false) ∧ (∀ k, 0 ≤ k → k < (z.length : Int) → aV false seen' k = true → aV false seen k = true ∨ k ∈ new) ∧
      (∀ R, Ev (fun k => cG k z out seen' (part ++ new) (wrap64 (kk + 1)) N i) R → Ev (fun k => ct k z out seen part kk N i row (row.length : Int) (m : Int)) R) := by
  have _hu := hn
  induction d with
  | zero =>
    intro m seen part h0 h1 h2 h3 h4 h5
    refine ⟨seen, [], h2, by simp, by simpa using h4, fun _ hk => hk, fun j hj => ?_, (fun j hj => by cases hj), fun k _ _ hk => .inl hk, fun R hR => ?_⟩
    · rw [List.drop_eq_nil_of_le (by omega)] at hj; cases hj
    · rw [List.append_nil] at hR
      refine Ev.step (fun k => by rw [ct]) ?_
      refine Ev.neg (by omega) ?_
      exact hR
  | succ d ih =>
    intro m seen part h0 h1 h2 h3 h4 h5
    have hm : m < row.length := by omega
    have hj := hrow row[m] (List.getElem_mem hm)
    have hjl : row[m].toNat < seen.length := by omega
    cases c : aV false seen row[m] with
    | true =>
      obtain ⟨seen', new, a1, a2, a3, a4, a5, a6, a7, a8⟩ := ih (m + 1) seen part (by omega) (by omega) h2 h3 h4 h5
      refine ⟨seen', new, a1, a2, a3, a4, fun j hj' => ?_, a6, a7, fun R hR => ?_⟩
      · rw [List.drop_eq_getElem_cons hm] at hj'
        rcases List.mem_cons.1 hj' with rfl | hj'
        · exact a4 _ c
        · exact a5 j hj'
      · have := a8 R hR
        rw [← aH hm (by omega)] at this
        refine Ev.step (fun k => by rw [ct]) ?_
        refine Ev.pos (by omega) ?_
        refine Ev.pos (by omega) ?_
        refine Ev.pos (by omega) ?_
        rw [aK row m hm]
        refine Ev.pos hj.1 ?_
        refine Ev.pos (by omega) ?_
        refine Ev.pos c ?_
        exact this
    | false =>
      have hrs : ∀ k, aV false (seen.set row[m].toNat true) k = if k.toNat = row[m].toNat then true else aV false seen k := fun k => lh seen row[m] k true hjl
      have hfr := mg seen row[m] hjl c
      have hnot : row[m] ∉ part := fun hq => by have := (h5 _ hq).1; rw [c] at this; cases this
      obtain ⟨seen', new, a1, a2, a3, a4, a5, a6, a7, a8⟩ := ih (m + 1) (seen.set row[m].toNat true) (part ++ [row[m]]) (by omega) (by omega) (by rw [List.length_set, h2]) (by rw [List.length_append, List.length_singleton]; omega)
        (by rw [List.nodup_append]; exact ⟨h4, by simp, fun a ha b hb => by rw [show b = row[m] by simpa using hb]; exact fun e => hnot (e ▸ ha)⟩)
        (fun q hq => by
          rcases List.mem_append.1 hq with hq | hq
          · have := h5 q hq; exact ⟨by rw [hrs]; split <;> simp [this.1], this.2⟩
          · rw [show q = row[m] by simpa using hq]; exact ⟨by rw [hrs, if_pos rfl], hj⟩)
      have hself : aV false seen' row[m] = true := a4 _ (by rw [hrs, if_pos rfl])
      have hap : part ++ row[m] :: new = (part ++ [row[m]]) ++ new := by simp
      refine ⟨seen', row[m] :: new, a1, ?_, ?_, fun k hk => a4 k (by rw [hrs]; split <;> simp [hk]), fun j hj' => ?_, fun j hj' => ?_, fun k hk0 hk1 hk => ?_, fun R hR => ?_⟩
      · rw [hap, a2, List.length_append, List.length_singleton]; omega
      · rw [hap]; exact a3
      · rw [List.drop_eq_getElem_cons hm] at hj'
        rcases List.mem_cons.1 hj' with rfl | hj'
        · exact hself
        · exact a5 j hj'
      · rcases List.mem_cons.1 hj' with rfl | hj'
        · exact ⟨List.getElem_mem hm, hself, c⟩
        · refine ⟨(a6 j hj').1, (a6 j hj').2.1, ?_⟩
          have hq := (a6 j hj').2.2
          rw [hrs] at hq
          by_cases ck : j.toNat = row[m].toNat
          · rw [if_pos ck] at hq; cases hq
          · rwa [if_neg ck] at hq
      · rcases a7 k hk0 hk1 hk with h' | h'
        · rw [hrs] at h'
          by_cases ck : k.toNat = row[m].toNat
          · right; rw [show k = row[m] by omega]; exact .head _
          · rw [if_neg ck] at h'; exact .inl h'
        · exact .inr (.tail _ h')
      · rw [hap] at hR
        have := a8 R hR
        rw [← aH hm (by omega)] at this
        refine Ev.step (fun k => by rw [ct]) ?_
        refine Ev.pos (by omega) ?_
        refine Ev.pos (by omega) ?_
        refine Ev.pos (by omega) ?_
        rw [aK row m hm]
        refine Ev.pos hj.1 ?_
        refine Ev.pos (by omega) ?_
        refine Ev.neg (by rw [c]; decide) ?_
        refine Ev.pos (by omega) ?_
        exact this
variable (hz : di z) (hr : ∀ i, (al z i).length ≤ 1048576)
include hz hr
theorem sB (out : List (List Int)) (ho : out.length ≤ 1048576) (s i N : Int) (seen0 : Int → Prop) (u : Nat) : ∀ (seen : List Bool) (part : List Int) (h : Nat), free seen + (part.length - h) = u → h ≤ part.length → seen.length = z.length → free seen + part.length ≤ 1048577 → part.Nodup →
    (∀ q ∈ part, aV false seen q = true ∧ 0 ≤ q ∧ q < (z.length : Int)) → (∀ k, 0 ≤ k → k < (z.length : Int) → (aV false seen k = true ↔ seen0 k ∨ k ∈ part)) → (∀ q ∈ part.take h, ∀ j ∈ al z q, aV false seen j = true) → (∀ P : Int → Prop, (∀ a, 0 ≤ a → a < (z.length : Int) → P a → ∀ j ∈ al z a, ¬ seen0 j → P j) → P s → ∀ q ∈ part, P q) → s ∈ part →
    ∃ (seen' : List Bool) (part' : List Int), seen'.length = z.length ∧ part'.Nodup ∧ (∀ q ∈ part', 0 ≤ q ∧ q < (z.length : Int)) ∧ s ∈ part' ∧ (∀ k, 0 ≤ k → k < (z.length : Int) → (aV false seen' k = true ↔ seen0 k ∨ k ∈ part')) ∧
      (∀ q ∈ part', ∀ j ∈ al z q, seen0 j ∨ j ∈ part') ∧ (∀ P : Int → Prop, (∀ a, 0 ≤ a → a < (z.length : Int) → P a → ∀ j ∈ al z a, ¬ seen0 j → P j) → P s → ∀ q ∈ part', P q) ∧
      (∀ R, Ev (fun k => cW k z (out ++ [cz part']) seen' N (wrap64 (i + 1))) R → Ev (fun k => cG k z out seen part (h : Int) N i) R) := by
  induction u with
  | zero =>
    intro seen part h h0 h1 h2 h3 h4 h5 h6 h7 h8 h9
    refine ⟨seen, part, h2, h4, fun q hq => (h5 q hq).2, h9, h6, fun q hq j hj => ?_, h8, fun R hR => ?_⟩
    · have hq' := h7 q (by rw [List.take_of_length_le (by omega)]; exact hq) j hj
      have hb := hz q (h5 q hq).2.1 (h5 q hq).2.2 j hj
      exact (h6 j hb.1 hb.2).1 hq'
    · refine Ev.step (fun k => by rw [cG]) ?_
      refine Ev.neg (by omega) ?_
      refine Ev.bindo (by unfold dZ; rw [if_pos (by omega)]) ?_
      refine Ev.pos (by omega) ?_
      exact hR
  | succ u ih =>
    intro seen part h h0 h1 h2 h3 h4 h5 h6 h7 h8 h9
    by_cases ce : h = part.length
    · refine ⟨seen, part, h2, h4, fun q hq => (h5 q hq).2, h9, h6, fun q hq j hj => ?_, h8, fun R hR => ?_⟩
      · have hq' := h7 q (by rw [List.take_of_length_le (by omega)]; exact hq) j hj
        have hb := hz q (h5 q hq).2.1 (h5 q hq).2.2 j hj
        exact (h6 j hb.1 hb.2).1 hq'
      · refine Ev.step (fun k => by rw [cG]) ?_
        refine Ev.neg (by omega) ?_
        refine Ev.bindo (by unfold dZ; rw [if_pos (by omega)]) ?_
        refine Ev.pos (by omega) ?_
        exact hR
    have hh : h < part.length := by omega
    obtain ⟨q2, q0, q1⟩ := h5 part[h] (List.getElem_mem hh)
    have hrow := hz part[h] q0 q1
    obtain ⟨seen', new, a1, a2, a3, a4, a5, a6, a7, a8⟩ := sC hn hrow (hr _) out (h : Int) i N ((al z part[h]).length - 0) 0 seen part rfl (Nat.zero_le _) h2 h3 h4 h5
    rw [List.drop_zero] at a5
    simp only [Int.natCast_zero] at a8
    obtain ⟨S', p', b1, b2, b3, b4, b5, b6, b7, b8⟩ := ih seen' (part ++ new) (h + 1) (by rw [List.length_append] at a2 ⊢; omega) (by rw [List.length_append]; omega) a1 (by omega) a3
      (fun q hq => by
        rcases List.mem_append.1 hq with hq | hq
        · exact ⟨a4 q (h5 q hq).1, (h5 q hq).2⟩
        · exact ⟨(a6 q hq).2.1, hrow q (a6 q hq).1⟩)
      (fun k hk0 hk1 => by
        constructor
        · intro hk
          rcases a7 k hk0 hk1 hk with h' | h'
          · rcases (h6 k hk0 hk1).1 h' with h' | h'
            · exact .inl h'
            · exact .inr (List.mem_append_left _ h')
          · exact .inr (List.mem_append_right _ h')
        · intro hk
          rcases hk with hk | hk
          · exact a4 k ((h6 k hk0 hk1).2 (.inl hk))
          · rcases List.mem_append.1 hk with hk | hk
            · exact a4 k (h5 k hk).1
            · exact (a6 k hk).2.1)
      (fun q hq j hj => by
        rw [List.take_append_of_le_length (by omega), List.take_add_one, List.getElem?_eq_getElem hh] at hq
        rcases List.mem_append.1 hq with hq | hq
        · exact a4 j (h7 q hq j hj)
        · rw [show q = part[h] by simpa using hq] at hj; exact a5 j hj)
      (fun P hP hs q hq => by
        rcases List.mem_append.1 hq with hq | hq
        · exact h8 P hP hs q hq
        · refine hP part[h] q0 q1 (h8 P hP hs _ (List.getElem_mem hh)) q (a6 q hq).1 (fun h0' => ?_)
          have hb := hrow q (a6 q hq).1
          have := (h6 q hb.1 hb.2).2 (.inl h0')
          rw [(a6 q hq).2.2] at this
          cases this)
      (List.mem_append_left _ h9)
    refine ⟨S', p', b1, b2, b3, b4, b5, b6, b7, fun R hR => ?_⟩
    have hwh : wrap64 ((h : Int) + 1) = ((h + 1 : Nat) : Int) := aH hh (by omega)
    have e1 := b8 R hR
    rw [← hwh] at e1
    clear hwh
    have e2 := a8 R e1
    refine Ev.step (fun k => by rw [cG]) ?_
    refine Ev.pos (by omega) ?_
    refine Ev.pos (by omega) ?_
    rw [aK part h hh]
    refine Ev.pos q0 ?_
    refine Ev.pos q1 ?_
    exact e2
end
/-- What can be reached from i by steps to places that are not left out. -/
def br (z : List (List Int)) (out : Int → Prop) (i j : Int) : Prop := ∀ P : Int → Prop, (∀ a, 0 ≤ a → a < (z.length : Int) → P a → ∀ b ∈ al z a, ¬ out b → P b) → P i → P j
theorem eO {z : List (List Int)} {o : Int → Prop} (i : Int) : br z o i i := fun _ _ h => h
theorem fH {z : List (List Int)} {o : Int → Prop} {i j k : Int} (h1 : br z o i j) (h2 : br z o j k) : br z o i k := fun P hP h => h2 P hP (h1 P hP h)
theorem fI {z : List (List Int)} {o : Int → Prop} {i j k : Int} (h1 : br z o i j) (h0 : 0 ≤ j) (hj : j < (z.length : Int)) (hk : k ∈ al z j) (ho : ¬ o k) : br z o i k := fun P hP h => hP j h0 hj (h1 P hP h) k hk ho
theorem js {z : List (List Int)} {o : Int → Prop} (hz : di z) {i j : Int} (h0 : 0 ≤ i) (h1 : i < (z.length : Int)) (hi : ¬ o i) (h : br z o i j) : (0 ≤ j ∧ j < (z.length : Int)) ∧ ¬ o j :=
  h (fun k => (0 ≤ k ∧ k < (z.length : Int)) ∧ ¬ o k) (fun a a0 a1 _ b hb ho => ⟨hz a a0 a1 b hb, ho⟩) ⟨⟨h0, h1⟩, hi⟩
theorem k8 {z : List (List Int)} {o : Int → Prop} (hz : di z) (hs : fm z) {i j : Int} (h0 : 0 ≤ i) (h1 : i < (z.length : Int)) (hi : ¬ o i) (h : br z o i j) : br z o j i := by
  have key := h (fun k => ((0 ≤ k ∧ k < (z.length : Int)) ∧ ¬ o k) ∧ br z o k i) (fun a a0 a1 ha b hb ho => by
    have hbr := hz a a0 a1 b hb
    refine ⟨⟨hbr, ho⟩, ?_⟩
    have hab : a ∈ al z b := hs a b a0 a1 hbr.1 hbr.2 hb
    exact fH (fI (eO b) hbr.1 hbr.2 hab ha.1.2) ha.2) ⟨⟨⟨h0, h1⟩, hi⟩, eO i⟩
  exact key.2
open Classical in
/-- All that can be reached from i, in order. -/
noncomputable def bR (z : List (List Int)) (o : Int → Prop) (i : Int) : List Int := ((List.range z.length).filter (fun (k : Nat) => decide (br z o i (k : Int)))).map (fun (k : Nat) => (k : Int))
open Classical in
theorem gU (z : List (List Int)) (o : Int → Prop) (i x : Int) : x ∈ bR z o i ↔ (0 ≤ x ∧ x < (z.length : Int)) ∧ br z o i x := by
  unfold bR
  rw [List.mem_map]
  constructor
  · rintro ⟨k, hk, rfl⟩
    rw [List.mem_filter, List.mem_range, decide_eq_true_eq] at hk
    exact ⟨by omega, hk.2⟩
  · rintro ⟨h0, h1⟩
    refine ⟨x.toNat, ?_, by omega⟩
    rw [List.mem_filter, List.mem_range, decide_eq_true_eq]
    refine ⟨by omega, ?_⟩
    rw [show ((x.toNat : Nat) : Int) = x by omega]
    exact h1
open Classical in
theorem jT (z : List (List Int)) (o : Int → Prop) (i : Int) : (bR z o i).Pairwise (· < ·) := by
  unfold bR
  rw [List.pairwise_map]
  refine List.Pairwise.imp ?_ (List.Pairwise.sublist List.filter_sublist List.pairwise_lt_range)
  intro a b h
  omega
/-- The first of its class. -/
def cE (z : List (List Int)) (o : Int → Prop) (i : Nat) : Prop := ¬ o (i : Int) ∧ ∀ i' : Nat, i' < i → ¬ o (i' : Int) → ¬ br z o (i' : Int) (i : Int)
open Classical in
noncomputable def bP (z : List (List Int)) (o : Int → Prop) : Nat → Nat → List Nat
  | 0, _ => []
  | d + 1, m => (if cE z o m then [m] else []) ++ bP z o d (m + 1)
section
variable {z : List (List Int)} (hn : z.length ≤ 1048576) (hz : di z) (hr : ∀ i, (al z i).length ≤ 1048576) (hs : fm z) (o : Int → Prop)
include hn hz hr hs
theorem o8 (d : Nat) : ∀ (m : Nat) (out : List (List Int)) (seen : List Bool), z.length - m = d → m ≤ z.length → out.length ≤ m → seen.length = z.length →
    (∀ k, 0 ≤ k → k < (z.length : Int) → (aV false seen k = true ↔ o k ∨ ∃ i' : Nat, i' < m ∧ ¬ o (i' : Int) ∧ br z o (i' : Int) k)) →
    Ev (fun k => cW k z out seen (z.length : Int) (m : Int)) (out ++ (bP z o d m).map (fun (i : Nat) => bR z o (i : Int))) := by
  induction d with
  | zero =>
    intro m out seen h0 h1 h2 h3 h4
    rw [bP, List.map_nil, List.append_nil]
    exact Ev.step (fun k => by rw [cW]) (Ev.neg (by omega) (Ev.now _))
  | succ d ih =>
    intro m out seen h0 h1 h2 h3 h4
    have hm : m < z.length := by omega
    have hml : ((m : Int)).toNat < seen.length := by omega
    rw [bP]
    cases c : aV false seen (m : Int) with
    | true =>
      have hrep : ¬ cE z o m := by
        intro hq
        rcases (h4 (m : Int) (by omega) (by omega)).1 c with q | ⟨i', q1, q2, q3⟩
        · exact hq.1 q
        · exact hq.2 i' q1 q2 q3
      rw [if_neg hrep, List.nil_append]
      have a1 := ih (m + 1) out seen (by omega) (by omega) (by omega) h3 (fun k hk0 hk1 => by
        rw [h4 k hk0 hk1]
        constructor
        · rintro (q | ⟨i', q1, q2, q3⟩)
          · exact .inl q
          · exact .inr ⟨i', by omega, q2, q3⟩
        · rintro (q | ⟨i', q1, q2, q3⟩)
          · exact .inl q
          · by_cases e : i' = m
            · subst e
              rcases (h4 (i' : Int) (by omega) (by omega)).1 c with p | ⟨i2, p1, p2, p3⟩
              · exact absurd p q2
              · exact .inr ⟨i2, p1, p2, fH p3 q3⟩
            · exact .inr ⟨i', by omega, q2, q3⟩)
      rw [← aH hm (by omega)] at a1
      exact Ev.step (fun k => by rw [cW]) (Ev.pos (by omega) (Ev.pos (by omega) (Ev.pos (by omega) (Ev.pos c a1))))
    | false =>
      have hno : ¬ o (m : Int) ∧ ∀ i' : Nat, i' < m → ¬ o (i' : Int) → ¬ br z o (i' : Int) (m : Int) := by
        constructor
        · intro q
          have := (h4 (m : Int) (by omega) (by omega)).2 (.inl q)
          rw [c] at this; cases this
        · intro i' q1 q2 q3
          have := (h4 (m : Int) (by omega) (by omega)).2 (.inr ⟨i', q1, q2, q3⟩)
          rw [c] at this; cases this
      rw [if_pos (show cE z o m from hno)]
      have hrs : ∀ k, aV false (seen.set ((m : Int)).toNat true) k = if k.toNat = ((m : Int)).toNat then true else aV false seen k := fun k => lh seen (m : Int) k true hml
      have hfr := mg seen (m : Int) hml c
      have hfl : free seen ≤ z.length := by have := List.countP_le_length (p := fun x => !x) (l := seen); unfold free; omega
      obtain ⟨seen', part', p1, p2, p3, p4, p5, p6, p7, p8⟩ := sB hn hz hr out (by omega) (m : Int) (m : Int) (z.length : Int) (fun k => aV false seen k = true) _ (seen.set ((m : Int)).toNat true) [(m : Int)] 0 rfl (Nat.zero_le _) (by rw [List.length_set, h3]) (by rw [List.length_singleton]; omega) (by simp)
        (fun q hq => by rw [show q = (m : Int) by simpa using hq]; exact ⟨by rw [hrs, if_pos rfl], by omega, by omega⟩)
        (fun k hk0 hk1 => by
          rw [hrs]
          by_cases ck : k.toNat = ((m : Int)).toNat
          · rw [if_pos ck]; exact ⟨fun _ => .inr (by rw [show k = (m : Int) by omega]; exact .head _), fun _ => rfl⟩
          · rw [if_neg ck]
            exact ⟨fun h => .inl h, fun h => h.elim id fun h => absurd (show k.toNat = ((m : Int)).toNat by rw [show k = (m : Int) by simpa using h]) ck⟩)
        (fun q hq => by simp at hq) (fun P hP hs' q hq => by rw [show q = (m : Int) by simpa using hq]; exact hs') (.head _)
      simp only [Int.natCast_zero] at p8
      -- what was seen is shut, but for what is left out
      have hsub : ∀ q ∈ part', br z o (m : Int) q := fun q hq => p7 (fun k => br z o (m : Int) k) (fun a a0 a1 ha j hj hns => by
        have hb := hz a a0 a1 j hj
        exact fI ha a0 a1 hj (fun ho => hns ((h4 j hb.1 hb.2).2 (.inl ho)))) (eO _) q hq
      have hsup : ∀ k, br z o (m : Int) k → k ∈ part' := fun k hk => by
        have := hk (fun k => k ∈ part') (fun a a0 a1 ha j hj ho => by
          rcases p6 a ha j hj with q | q
          · have hb := hz a a0 a1 j hj
            rcases (h4 j hb.1 hb.2).1 q with q | ⟨i', q1, q2, q3⟩
            · exact absurd q ho
            · have ha2 := hsub a ha
              have hio := js hz (by omega) (by omega) hno.1 ha2
              have e1 : a ∈ al z j := hs a j a0 a1 hb.1 hb.2 hj
              have e2 : br z o (i' : Int) a := fI q3 hb.1 hb.2 e1 hio.2
              have e3 : br z o a (m : Int) := k8 hz hs (by omega) (by omega) hno.1 ha2
              exact absurd (fH e2 e3) (hno.2 i' q1 q2)
          · exact q) p4
        exact this
      have hpart : cz part' = bR z o (m : Int) := by
        refine fo (nU p2) (jT _ _ _) fun x => ?_
        rw [nW, gU]
        exact ⟨fun hx => ⟨p3 x hx, hsub x hx⟩, fun hx => hsup x hx.2⟩
      have a1 := ih (m + 1) (out ++ [cz part']) seen' (by omega) (by omega) (by simp; omega) p1 (fun k hk0 hk1 => by
        rw [p5 k hk0 hk1]
        constructor
        · rintro (q | q)
          · rcases (h4 k hk0 hk1).1 q with q | ⟨i', q1, q2, q3⟩
            · exact .inl q
            · exact .inr ⟨i', by omega, q2, q3⟩
          · exact .inr ⟨m, by omega, hno.1, hsub k q⟩
        · rintro (q | ⟨i', q1, q2, q3⟩)
          · exact .inl ((h4 k hk0 hk1).2 (.inl q))
          · by_cases e : i' = m
            · subst e; exact .inr (hsup k q3)
            · exact .inl ((h4 k hk0 hk1).2 (.inr ⟨i', by omega, q2, q3⟩)))
      have e1 : out ++ ([m] ++ bP z o d (m + 1)).map (fun (i : Nat) => bR z o (i : Int)) = (out ++ [cz part']) ++ (bP z o d (m + 1)).map (fun (i : Nat) => bR z o (i : Int)) := by
        rw [hpart]; simp
      rw [e1]
      rw [← aH hm (by omega)] at a1
      have a2 := p8 _ a1
      refine Ev.step (fun k => by rw [cW]) ?_
      refine Ev.pos (by omega) (Ev.pos (by omega) (Ev.pos (by omega) (Ev.neg (by rw [c]; decide) ?_)))
      exact a2
end
end Go.Proofs.YtjgcehldepfaaaaGreat.P
namespace Go.Proofs.YtjgcehldepfaaaaGreat.P
open Go.RowKit YtjgcehldepfaaaaGreatW.PrintWords Go.Proofs.YtjgcehldepfaaaaGreatW.PrintLast Go.Proofs.YtjgcehldepfaaaaGreatW.PrintMore
set_option linter.unusedVariables false
set_option linter.unusedSimpArgs false
open Classical in
theorem et (z : List (List Int)) (o : Int → Prop) : ∀ (d m : Nat), bP z o d m = (List.range' m d).filter (fun i => decide (cE z o i))
  | 0, m => rfl
  | d + 1, m => by
    rw [bP, List.range'_succ, List.filter_cons, et z o d (m + 1)]
    by_cases h : cE z o m
    · rw [if_pos h, if_pos (af h)]; rfl
    · rw [if_neg h, if_neg (by simpa using h)]; rfl
/-- The least number of which something is so. -/
theorem pJ {p : Nat → Prop} {n : Nat} (h : p n) : ∃ m, m ≤ n ∧ p m ∧ ∀ i, i < m → ¬ p i := by
  induction n using Nat.strongRecOn with
  | ind n ih =>
    by_cases c : ∃ i, i < n ∧ p i
    · obtain ⟨i, hi, hp⟩ := c
      obtain ⟨m, h1, h2, h3⟩ := ih i hi hp
      exact ⟨m, by omega, h2, h3⟩
    · exact ⟨n, av n, h, fun i hi hp => c ⟨i, hi, hp⟩⟩
section
variable {z : List (List Int)} (hz : di z) (hs : fm z) (w : Nat) (hw : w < z.length)
include hz hs hw
end
end Go.Proofs.YtjgcehldepfaaaaGreat.P
namespace Go.Proofs.YtjgcehldepfaaaaGreat.P
open Go.RowKit YtjgcehldepfaaaaGreatW.PrintWords Go.Proofs.YtjgcehldepfaaaaGreatW.PrintLast Go.Proofs.YtjgcehldepfaaaaGreatW.PrintMore
set_option linter.unusedVariables false

def bn (l : List S63) (x : Int) : Nat → Int → List Int
  | 0, _ => []
  | d + 1, y => (if aW l x y = true then [y] else []) ++ bn l x d (y + 1)
theorem iq (l : List S63) (x : Int) (d : Nat) : ∀ y, (bn l x d y).length ≤ d := by
  induction d with
  | zero => intro y; simp [bn]
  | succ d ih =>
    intro y
    have := ih (y + 1)
    simp only [bn, List.length_append]
    split <;> simp only [List.length_nil, List.length_cons] <;> omega
theorem re (l : List S63) (x : Int) (hu : ∀ e ∈ l, e.f0 < e.f1) : aW l x x = false := by
  unfold aW
  rw [List.any_eq_false]
  intro e he
  have := hu e he
  simp only [Bool.or_eq_true, Bool.and_eq_true, decide_eq_true_eq]
  omega
section
variable (a : Int) (l : List S63) (hl : l.length ≤ 1048576) (h8 : a ≤ 8) (x : Int)
include hl h8
theorem oo (d : Nat) : ∀ (y : Int) (acc : List Int), (a - y).toNat = d → 0 ≤ y → acc.length + d ≤ 1000 →
    Ev (fun k => cP k x acc y a l) (acc ++ bn l x d y) := by
  induction d with
  | zero =>
    intro y acc h0 h1 h2
    refine Ev.step (fun k => by rw [cP]) (Ev.neg (by omega) ?_)
    simp only [bn, List.append_nil]
    exact Ev.now _
  | succ d ih =>
    intro y acc h0 h1 h2
    refine Ev.step (fun k => by rw [cP]) (Ev.pos (by omega) (Ev.bind (ip a l x y hl) ?_))
    have hw : wrap64 (y + 1) = y + 1 := bV (by omega) (by omega)
    rw [hw, bn]
    by_cases c : aW l x y = true
    · refine Ev.pos c (Ev.pos (by omega) ?_)
      rw [if_pos c, ← List.append_assoc]
      exact ih (y + 1) _ (by omega) (by omega) (by rw [List.length_append, List.length_singleton]; omega)
    · rw [if_neg c, List.nil_append]
      exact Ev.neg c (ih (y + 1) acc (by omega) (by omega) (by omega))
variable (hu : ∀ e ∈ l, e.f0 < e.f1)
include hu
theorem qW (d : Nat) : ∀ (y : Int) (acc : List Int), (a - y).toNat = d → 0 ≤ y → acc.length + d ≤ 1000 →
    Ev (fun k => cJ k x acc a y a l) (acc ++ bn l x d y) := by
  induction d with
  | zero =>
    intro y acc h0 h1 h2
    refine Ev.step (fun k => by rw [cJ]) (Ev.neg (by omega) ?_)
    simp only [bn, List.append_nil]
    exact Ev.now _
  | succ d ih =>
    intro y acc h0 h1 h2
    refine Ev.step (fun k => by rw [cJ]) (Ev.pos (by omega) ?_)
    have hw : wrap64 (y + 1) = y + 1 := bV (by omega) (by omega)
    rw [hw, bn]
    by_cases cx : y = x
    · have c : ¬ aW l x y = true := by rw [cx, re l x hu]; decide
      rw [if_neg c, List.nil_append]
      exact Ev.pos cx (ih (y + 1) acc (by omega) (by omega) (by omega))
    · refine Ev.neg cx (Ev.bind (mb a l x y hl hu) ?_)
      by_cases c : aW l x y = true
      · refine Ev.pos c (Ev.pos (by omega) ?_)
        rw [if_pos c, ← List.append_assoc]
        exact ih (y + 1) _ (by omega) (by omega) (by rw [List.length_append, List.length_singleton]; omega)
      · rw [if_neg c, List.nil_append]
        exact Ev.neg c (ih (y + 1) acc (by omega) (by omega) (by omega))
end
theorem lT (a : Int) (l : List S63) (x : Int) (hl : l.length ≤ 1048576) (h8 : a ≤ 8) : Ev (fun k => fw k a l x) (bn l x a.toNat 0) := by
  unfold fw
  have := oo a l hl h8 x a.toNat 0 [] (by omega) (by omega) (by simp; omega)
  simpa only [List.nil_append] using this
theorem po (a : Int) (l : List S63) (x : Int) (hl : l.length ≤ 1048576) (h8 : a ≤ 8) (hu : ∀ e ∈ l, e.f0 < e.f1) : Ev (fun k => iO k a l x) (bn l x a.toNat 0) := by
  unfold iO
  have := qW a l hl h8 x hu a.toNat 0 [] (by omega) (by omega) (by simp; omega)
  simpa only [List.nil_append] using this
end Go.Proofs.YtjgcehldepfaaaaGreat.P
namespace Go.Proofs.YtjgcehldepfaaaaGreat.P
open Go.RowKit YtjgcehldepfaaaaGreatW.PrintWords Go.Proofs.YtjgcehldepfaaaaGreatW.PrintLast Go.Proofs.YtjgcehldepfaaaaGreatW.PrintMore
set_option linter.unusedVariables false
set_option linter.unusedSimpArgs false

abbrev bN (b : Int) : List Int := aI (aG b) 8 0
theorem rh : ∀ b : Fin 256, ∀ y : Fin 8, (Go.bits .and .i64 (cQ .i64 b y) 1 == 1) = aG b y := by decide +kernel
theorem mc {b y : Int} (hb : 0 ≤ b ∧ b < 256) (hy : 0 ≤ y ∧ y < 8) : (Go.bits .and .i64 (cQ .i64 b y) 1 = 1) ↔ aG b y = true := by
  obtain ⟨i, rfl⟩ := dT (n := 256) hb.1 hb.2
  obtain ⟨j, rfl⟩ := dT (n := 8) hy.1 hy.2
  have := rh i j
  rw [← this, beq_iff_eq]
theorem qX : ∀ n : Fin 9, ∀ b : Fin 256, decide (b.val < 2 ^ n.val) = (List.range 8).all (fun y => decide (y < n.val) || !aG b y) := by decide +kernel
theorem jL {n : Nat} {b : Int} (hn : n ≤ 8) (hb : 0 ≤ b ∧ b < 256) : b < ((2 ^ n : Nat) : Int) ↔ ∀ y : Int, (n : Int) ≤ y → y < 8 → aG b y = false := by
  obtain ⟨i, rfl⟩ := dT (n := 256) hb.1 hb.2
  have h := qX ⟨n, by omega⟩ i
  have e1 : ((i.val : Int) < ((2 ^ n : Nat) : Int)) ↔ decide (i.val < 2 ^ n) = true := by rw [decide_eq_true_eq]; omega
  rw [e1, h, List.all_eq_true]
  constructor
  · intro h y h0 h1
    have := h y.toNat (by rw [List.mem_range]; omega)
    simp only [Bool.or_eq_true, decide_eq_true_eq, Bool.not_eq_true'] at this
    rw [show ((y.toNat : Nat) : Int) = y by omega] at this
    exact this.resolve_left (by omega)
  · intro h y hy
    rw [List.mem_range] at hy
    by_cases c : y < n
    · simp [c]
    · have := h (y : Int) (by omega) (by omega)
      simp [this]
theorem tg : ∀ b : Fin 256, aJ 0 (aI (aG b) 8 0) = b := by decide +kernel
theorem j2 {b : Int} (hb : 0 ≤ b ∧ b < 256) : aJ 0 (bN b) = b := by
  obtain ⟨i, rfl⟩ := dT (n := 256) hb.1 hb.2
  exact tg i
theorem s7 (n : Int) (b : Int) (hn : n ≤ 8) (hb : 0 ≤ b ∧ b < 256) (d : Nat) : ∀ (y : Int) (acc : List Int), (n - y).toNat = d → 0 ≤ y → acc.length + d ≤ 1000 → Ev (fun k => cy k n b acc y) (acc ++ aI (aG b) d y) := by
  induction d with
  | zero =>
    intro y acc h0 h1 h2
    refine Ev.step (fun k => by rw [cy]) (Ev.neg (by omega) ?_)
    simp only [aI, List.append_nil]
    exact Ev.now _
  | succ d ih =>
    intro y acc h0 h1 h2
    refine Ev.step (fun k => by rw [cy]) (Ev.pos (by omega) (Ev.pos (by omega) ?_))
    have hw : wrap64 (y + 1) = y + 1 := bV (by omega) (by omega)
    rw [hw, aI]
    by_cases c : aG b y = true
    · rw [if_pos c, ← List.append_assoc]
      refine Ev.pos ((mc hb ⟨h1, by omega⟩).2 c) (Ev.pos (by omega) ?_)
      exact ih (y + 1) _ (by omega) (by omega) (by rw [List.length_append, List.length_singleton]; omega)
    · rw [if_neg c, List.nil_append]
      exact Ev.neg (fun h => c ((mc hb ⟨h1, by omega⟩).1 h)) (ih (y + 1) acc (by omega) (by omega) (by omega))
theorem s8 (n : Nat) (b : Int) (hn : n ≤ 8) (hb : 0 ≤ b ∧ b < ((2 ^ n : Nat) : Int)) : Ev (fun k => fy k (n : Int) b) (bN b) := by
  have hpow : 2 ^ n ≤ 256 := Nat.pow_le_pow_right (n := 2) (by decide) (show n ≤ 8 from hn)
  have h := s7 (n : Int) b (by omega) ⟨hb.1, by omega⟩ n 0 [] (by omega) (by omega) (by simp; omega)
  unfold fy
  have e : bN b = aI (aG b) n 0 := by
    unfold bN
    rw [show 8 = n + (8 - n) by omega, kO, oe _ (8 - n), List.append_nil]
    intro z h0 h1
    exact (jL hn ⟨hb.1, by omega⟩).1 hb.2 z (by omega) (by omega)
  rw [e]
  simpa only [List.nil_append] using h
/-- A set of nodes. -/
def SetN (n : Nat) (s : List Int) : Prop := s.Pairwise (· < ·) ∧ ∀ x ∈ s, 0 ≤ x ∧ x < (n : Int)
theorem SetN.ris {n : Nat} {s : List Int} (h : SetN n s) : bz 0 ((n : Int) - 1) none s = true := oG _ _ s none h.1 (fun x hx => by have := h.2 x hx; omega) (fun q e => by cases e)
theorem SetN.of_ris {n : Nat} {s : List Int} (h : bz 0 ((n : Int) - 1) none s = true) : SetN n s := ⟨(kW _ _ s none h).1, fun x hx => by have := jr _ _ s none h x hx; omega⟩
theorem SetN.wide {n m : Nat} {s : List Int} (h : SetN n s) (hm : n ≤ m) : SetN m s := ⟨h.1, fun x hx => by have := h.2 x hx; omega⟩
theorem gu (f : Int → Bool) (d : Nat) : ∀ y, (aI f d y).Pairwise (· < ·) := by
  induction d with
  | zero => intro y; exact List.Pairwise.nil
  | succ d ih =>
    intro y
    simp only [aI]
    by_cases c : f y = true
    · rw [if_pos c, List.singleton_append, List.pairwise_cons]
      exact ⟨fun z hz => by have := ((cT f d (y + 1) z).1 hz).1; omega, ih (y + 1)⟩
    · rw [if_neg c, List.nil_append]
      exact ih (y + 1)
theorem ti {n : Nat} {b : Int} (hn : n ≤ 8) (hb : 0 ≤ b ∧ b < ((2 ^ n : Nat) : Int)) : SetN n (bN b) := by
  have hpow : 2 ^ n ≤ 256 := Nat.pow_le_pow_right (n := 2) (by decide) (show n ≤ 8 from hn)
  refine ⟨gu _ _ _, fun x hx => ?_⟩
  obtain ⟨h1, h2⟩ := (cT _ _ _ _).1 hx
  have h3 := (jL hn ⟨hb.1, by omega⟩).1 hb.2
  refine ⟨by omega, ?_⟩
  by_cases c : x < (n : Int)
  · exact c
  · have := h3 x (by omega) (by omega)
    rw [h2] at this
    exact absurd this (by decide)
theorem jv {l1 l2 : List Int} (h1 : l1.Pairwise (· < ·)) (h2 : l2.Pairwise (· < ·)) (h : ∀ x, x ∈ l1 ↔ x ∈ l2) : l1 = l2 := by
  induction l1 generalizing l2 with
  | nil =>
    cases l2 with
    | nil => rfl
    | cons b u => exact absurd ((h b).2 (List.mem_cons_self ..)) (by simp)
  | cons a t ih =>
    cases l2 with
    | nil => exact absurd ((h a).1 (List.mem_cons_self ..)) (by simp)
    | cons b u =>
      have p1 := List.pairwise_cons.1 h1
      have p2 := List.pairwise_cons.1 h2
      have hab : a = b := by
        rcases List.mem_cons.1 ((h a).1 (List.mem_cons_self ..)) with e | e
        · exact e
        · rcases List.mem_cons.1 ((h b).2 (List.mem_cons_self ..)) with e2 | e2
          · exact e2.symm
          · have := p1.1 b e2
            have := p2.1 a e
            omega
      subst hab
      rw [ih p1.2 p2.2 fun s => ?_]
      constructor
      · intro hs
        rcases List.mem_cons.1 ((h s).1 (List.mem_cons_of_mem _ hs)) with e | e
        · have := p1.1 s hs; omega
        · exact e
      · intro hs
        rcases List.mem_cons.1 ((h s).2 (List.mem_cons_of_mem _ hs)) with e | e
        · have := p2.1 s hs; omega
        · exact e
theorem te {l : List Int} (h : bz 0 (((8 : Nat) : Int) - 1) none l = true) : bN (aJ 0 l) = l := by
  have hp := kW _ _ l none h
  have hx : ∀ x ∈ l, 0 ≤ x ∧ x < 8 := fun x hx => by have := jr _ _ l none h x hx; omega
  have hb := (j4 l 0 (by omega) hx).2
  refine jv (gu _ _ _) hp.1 fun x => ?_
  rw [cT]
  constructor
  · rintro ⟨h1, h2⟩
    rw [hb x (by omega) (by omega), iP (by omega) (by omega), Bool.false_or, decide_eq_true_eq] at h2
    exact h2
  · intro hx'
    have := hx x hx'
    refine ⟨by omega, ?_⟩
    rw [hb x (by omega) (by omega), iP (by omega) (by omega), Bool.false_or, decide_eq_true_eq]
    exact hx'
theorem SetN.code {n : Nat} {s : List Int} (hn : n ≤ 8) (h : SetN n s) : (0 ≤ aJ 0 s ∧ aJ 0 s < ((2 ^ n : Nat) : Int)) ∧ bN (aJ 0 s) = s := by
  have h8 := (h.wide hn).ris
  have hb := j4 s 0 (by omega) (fun x hx => by have := h.2 x hx; omega)
  refine ⟨⟨hb.1.1, (jL hn hb.1).2 fun y h0 h1 => ?_⟩, te h8⟩
  rw [hb.2 y (by omega) h1, iP (by omega) h1, Bool.false_or, decide_eq_false_iff_not]
  intro hy
  have := h.2 y hy
  omega
theorem sJ {n : Nat} (hn : n ≤ 8) (p : Int → Bool) (s : List Int) : s ∈ ca p (2 ^ n) ↔ SetN n s ∧ p (aJ 0 s) = true := by
  have hpow : 2 ^ n ≤ 256 := Nat.pow_le_pow_right (n := 2) (by decide) (show n ≤ 8 from hn)
  unfold ca
  rw [List.mem_map]
  constructor
  · rintro ⟨b, hb, rfl⟩
    obtain ⟨h1, h2⟩ := (cT _ _ _ _).1 hb
    have h3 : 0 ≤ b ∧ b < ((2 ^ n : Nat) : Int) := ⟨h1.1, by omega⟩
    refine ⟨ti hn h3, ?_⟩
    rw [j2 ⟨h3.1, by omega⟩]
    exact h2
  · rintro ⟨h1, h2⟩
    have h3 := h1.code hn
    exact ⟨aJ 0 s, (cT _ _ _ _).2 ⟨by have := h3.1; omega, h2⟩, h3.2⟩
theorem sI {n : Nat} (hn : n ≤ 256) (p : Int → Bool) : (ca p n).Nodup := by
  unfold ca
  refine List.Pairwise.map _ ?_ (List.Pairwise.and_mem.1 (gu p n 0))
  rintro a b ⟨ha, hb, hab⟩ e
  have h1 := ((cT _ _ _ _).1 ha).1
  have h2 := ((cT _ _ _ _).1 hb).1
  have := congrArg (aJ 0) e
  rw [j2 ⟨by omega, by omega⟩, j2 ⟨by omega, by omega⟩] at this
  omega
theorem SetN.len {n : Nat} {s : List Int} (h : SetN n s) : s.length ≤ n := by
  have : ∀ (s : List Int) (a : Int), s.Pairwise (· < ·) → (∀ x ∈ s, a ≤ x ∧ x < (n : Int)) → (s.length : Int) ≤ (n : Int) - a ∨ s = [] := by
    intro s
    induction s with
    | nil => intro a _ _; exact .inr rfl
    | cons x t ih =>
      intro a h1 h2
      have p1 := List.pairwise_cons.1 h1
      have hx := h2 x (List.mem_cons_self ..)
      rcases ih (x + 1) p1.2 (fun y hy => ⟨by have := p1.1 y hy; omega, (h2 y (List.mem_cons_of_mem _ hy)).2⟩) with h3 | h3
      · exact .inl (by rw [List.length_cons]; omega)
      · subst h3
        exact .inl (by rw [List.length_singleton]; omega)
  rcases this s 0 h.1 h.2 with h3 | h3
  · omega
  · subst h3; exact Nat.zero_le _
end Go.Proofs.YtjgcehldepfaaaaGreat.P
