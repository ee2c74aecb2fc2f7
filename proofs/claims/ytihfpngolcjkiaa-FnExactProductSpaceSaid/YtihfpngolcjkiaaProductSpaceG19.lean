/- Both sides make the same product of two spaces. -/
import Derived.Test.YtihfpngolcjkiaaProductSpaceG14
import Derived.Test.YtihfpngolcjkiaaProductSpaceG10
import Derived.Test.YtihfpngolcjkiaaProductSpaceG11
import Derived.Test.YtihfpngolcjkiaaProductSpaceG18
import Derived.Test.YtihfpngolcjkiaaProductSpaceG8
import Derived.Test.YtihfpngolcjkiaaProductSpaceG12
import Derived.Test.YtihfpngolcjkiaaProductSpaceG15
import Derived.Test.YtihfpngolcjkiaaProductSpaceG16
import Derived.Test.YtihfpngolcjkiaaProductSpaceG17
namespace Go.Proofs.Ytihfpngolcjkiaa.P
open Go.RowKit Go.Proofs.YtihfpngolcjkiaaW.PrintWords Go.Proofs.YtihfpngolcjkiaaW.PrintLast Go.Proofs.YtihfpngolcjkiaaW.PrintMore
set_option linter.unusedVariables false
set_option linter.unusedSimpArgs false
theorem rdT_atP (l : List S41) (m : Nat) (h : m < l.length) : rd_T41 l (m : Int) = l[m] := by
  simp [rd_T41, List.getD_eq_getElem?_getD, List.getElem?_eq_getElem h]
theorem rdL_atP (l : List (List Int)) (m : Nat) (h : m < l.length) : rd_L1 l (m : Int) = l[m] := by
  simp [rd_L1, List.getD_eq_getElem?_getD, List.getElem?_eq_getElem h]
theorem mul_le300 {a n : Nat} (ha : a ≤ 300) (hn : n ≤ 300) : (a : Int) * (n : Int) ≤ 90000 ∧ 0 ≤ (a : Int) * (n : Int) := by
  have h := Nat.mul_le_mul ha hn
  have e : ((a * n : Nat) : Int) = (a : Int) * (n : Int) := Int.natCast_mul a n
  omega
theorem wrap_mulP {a n : Int} (ha0 : 0 ≤ a) (ha : a ≤ 300) (hn0 : 0 ≤ n) (hn : n ≤ 300) : wrap64 (a * n) = a * n := by
  have h := @mul_le300 a.toNat n.toNat (by omega) (by omega)
  rw [Int.toNat_of_nonneg ha0, Int.toNat_of_nonneg hn0] at h
  unfold wrap64; omega
theorem wrap_addP {a n b : Int} (ha0 : 0 ≤ a) (ha : a ≤ 300) (hn0 : 0 ≤ n) (hn : n ≤ 300) (hb0 : 0 ≤ b) (hb : b ≤ 100000) : wrap64 (a * n + b) = a * n + b := by
  have h := @mul_le300 a.toNat n.toNat (by omega) (by omega)
  rw [Int.toNat_of_nonneg ha0, Int.toNat_of_nonneg hn0] at h
  unfold wrap64; omega
theorem cat_ev (a b : List Int) (ha : a.length ≤ 1000) (hb : b.length ≤ 1000) : Ev (fun k => slices_Concat_int_int.f k [a, b]) (a ++ b) := by
  have h0 : rd_L1 [a, b] 0 = a := rfl
  have h1 : rd_L1 [a, b] 1 = b := rfl
  have w1 := Aside0.mk (show wrap64 (0 + (a.length : Int)) = (a.length : Int) by unfold wrap64; omega)
  have w2 := Aside0.mk (show wrap64 ((a.length : Int) + (b.length : Int)) = (a.length : Int) + (b.length : Int) by unfold wrap64; omega)
  have w3 := Aside0.mk (show wrap64 (0 + 1) = 1 by unfold wrap64; omega)
  have w4 := Aside0.mk (show wrap64 (1 + 1) = 2 by unfold wrap64; omega)
  unfold slices_Concat_int_int.f
  have hl : (([a, b] : List (List Int)).length : Int) = 2 := rfl
  rw [hl]
  refine Ev.step (fun k => by rw [slices_Concat_int_int.l0]) ?_
  refine Ev.pos (by decide) ?_
  refine Ev.pos (by decide) ?_
  refine Ev.pos (by rw [hl]; decide) ?_
  rw [h0, w1.out, w3.out]
  refine Ev.neg (by omega) ?_
  refine Ev.step (fun k => by rw [slices_Concat_int_int.l0]) ?_
  refine Ev.pos (by decide) ?_
  refine Ev.pos (by decide) ?_
  refine Ev.pos (by rw [hl]; decide) ?_
  rw [h1, w2.out, w4.out]
  refine Ev.neg (by omega) ?_
  refine Ev.step (fun k => by rw [slices_Concat_int_int.l0]) ?_
  refine Ev.neg (by decide) ?_
  refine Ev.pos (by omega) ?_
  refine Ev.pos (by omega) ?_
  rw [hl]
  refine Ev.step (fun k => by rw [slices_Concat_int_int.l1]) ?_
  refine Ev.pos (by decide) ?_
  refine Ev.pos (by decide) ?_
  refine Ev.pos (by rw [hl]; decide) ?_
  rw [h0, w3.out]
  refine Ev.pos (by rw [List.length_nil]; omega) ?_
  refine Ev.step (fun k => by rw [slices_Concat_int_int.l1]) ?_
  refine Ev.pos (by decide) ?_
  refine Ev.pos (by decide) ?_
  refine Ev.pos (by rw [hl]; decide) ?_
  rw [h1, w4.out, List.nil_append]
  refine Ev.pos (by omega) ?_
  refine Ev.step (fun k => by rw [slices_Concat_int_int.l1]) ?_
  exact Ev.neg (by decide) (Ev.now _)
theorem drop_consP {α : Type} (l : List α) (m : Nat) (h : m < l.length) : l.drop m = l[m] :: l.drop (m + 1) := List.drop_eq_getElem_cons h
section
variable {l m : List (List Int)} {e g : List S41} (hl : l.length ≤ 300) (hm : m.length ≤ 300) (he : ∀ s ∈ e, 0 ≤ s.f0 ∧ s.f0 < s.f1 ∧ s.f1 < (l.length : Int)) (hg : ∀ s ∈ g, 0 ≤ s.f0 ∧ s.f0 < s.f1 ∧ s.f1 < (m.length : Int)) (hel : e.length ≤ 1048576) (hgl : g.length ≤ 1048576)
include hl hm he hg hel hgl
/-- The program's steps over the second space's own, at one place of the first. -/
theorem im_l2 (i : Nat) (hi : i < l.length) (S : List (List Int)) {R : List (List Int) × List S41 × Bool} (d : Nat) : ∀ (t : Nat) (P : List S41), g.length - t = d → t ≤ g.length → P.length ≤ i * 1048576 + t →
    Ev (fun k => impl_ProductSpace.l0 k (m.length : Int) l (l.length : Int) ((i + 1 : Nat) : Int) l e m g S (P ++ (g.drop t).map fun s => (⟨(i : Int) * (m.length : Int) + s.f0, (i : Int) * (m.length : Int) + s.f1⟩ : S41))) R → Ev (fun k => impl_ProductSpace.l2 k (m.length : Int) (i : Int) l (l.length : Int) (i : Int) g (g.length : Int) (t : Int) l e m g S P) R := by
  have hwi := Aside0.mk (show wrap64 ((i : Int) + 1) = ((i + 1 : Nat) : Int) by unfold wrap64; omega)
  have _uhe := he
  have _uhel := hel
  induction d with
  | zero =>
    intro t P h0 h1 h2 h3
    rw [List.drop_eq_nil_of_le (by omega), List.map_nil, List.append_nil] at h3
    refine Ev.step (fun k => by rw [impl_ProductSpace.l2]) ?_
    refine Ev.neg (by omega) ?_
    rw [hwi.out]
    exact h3
  | succ d ih =>
    intro t P h0 h1 h2 h3
    have ht : t < g.length := by omega
    have hs := hg _ (List.getElem_mem ht)
    rw [drop_consP _ _ ht, List.map_cons] at h3
    refine Ev.step (fun k => by rw [impl_ProductSpace.l2]) ?_
    refine Ev.pos (by omega) ?_
    refine Ev.pos (by omega) ?_
    refine Ev.pos (by omega) ?_
    refine Ev.pos (by omega) ?_
    rw [rdT_atP g t ht, wrap_up ht (by omega), wrap_mulP (by omega) (by omega) (by omega) (by omega), wrap_addP (by omega) (by omega) (by omega) (by omega) hs.1 (by omega), wrap_addP (by omega) (by omega) (by omega) (by omega) (by omega) (by omega)]
    refine ih (t + 1) _ (by omega) (by omega) (by rw [List.length_append, List.length_singleton]; omega) ?_
    rw [List.append_assoc]
    exact h3
/-- The program's states at one place of the first space. -/
theorem im_l1 (hok : ∀ a ∈ l, ∀ b ∈ m, a.length + b.length ≤ 24) (i : Nat) (hi : i < l.length) (P : List S41) {R : List (List Int) × List S41 × Bool} (d : Nat) : ∀ (t : Nat) (S : List (List Int)), m.length - t = d → t ≤ m.length → S.length ≤ i * 300 + t →
    Ev (fun k => impl_ProductSpace.l2 k (m.length : Int) (i : Int) l (l.length : Int) (i : Int) g (g.length : Int) 0 l e m g (S ++ (m.drop t).map fun b => l[i] ++ b) P) R → Ev (fun k => impl_ProductSpace.l1 k (m.length : Int) (i : Int) l[i] l (l.length : Int) (i : Int) m (m.length : Int) (t : Int) l e m g S P) R := by
  have _uhe := he
  have _uhg := hg
  have _uhel := hel
  have _uhgl := hgl
  induction d with
  | zero =>
    intro t S h0 h1 h2 h3
    rw [List.drop_eq_nil_of_le (by omega), List.map_nil, List.append_nil] at h3
    refine Ev.step (fun k => by rw [impl_ProductSpace.l1]) ?_
    refine Ev.neg (by omega) ?_
    exact h3
  | succ d ih =>
    intro t S h0 h1 h2 h3
    have ht : t < m.length := by omega
    have hb := hok _ (List.getElem_mem hi) _ (List.getElem_mem ht)
    have hw := Aside0.mk (show wrap64 ((l[i].length : Int) + (m[t].length : Int)) = (l[i].length : Int) + (m[t].length : Int) by unfold wrap64; omega)
    rw [drop_consP _ _ ht, List.map_cons] at h3
    refine Ev.step (fun k => by rw [impl_ProductSpace.l1]) ?_
    refine Ev.pos (by omega) ?_
    refine Ev.pos (by omega) ?_
    refine Ev.pos (by omega) ?_
    rw [rdL_atP m t ht, hw.out]
    refine Ev.neg (by omega) ?_
    refine Ev.bind (cat_ev l[i] m[t] (by omega) (by omega)) ?_
    refine Ev.pos (by omega) ?_
    rw [wrap_up ht (by omega)]
    refine ih (t + 1) _ (by omega) (by omega) (by rw [List.length_append, List.length_singleton]; omega) ?_
    rw [List.append_assoc]
    exact h3
/-- Where a state would be too long, the program answers nothing. -/
theorem im_bad (i : Nat) (hi : i < l.length) (hla : l[i].length ≤ 24) (P : List S41) (d : Nat) : ∀ (t : Nat) (S : List (List Int)), m.length - t = d → t ≤ m.length → S.length ≤ i * 300 + t → (∀ b ∈ m, b.length ≤ 24) → (∃ b ∈ m.drop t, 24 < l[i].length + b.length) →
    Ev (fun k => impl_ProductSpace.l1 k (m.length : Int) (i : Int) l[i] l (l.length : Int) (i : Int) m (m.length : Int) (t : Int) l e m g S P) ([], [], false) := by
  have _uhe := he
  have _uhg := hg
  have _uhel := hel
  have _uhgl := hgl
  induction d with
  | zero =>
    intro t S h0 h1 h2 h4 h3
    rw [List.drop_eq_nil_of_le (by omega)] at h3
    obtain ⟨b, hb, _⟩ := h3
    cases hb
  | succ d ih =>
    intro t S h0 h1 h2 h4 h3
    have ht : t < m.length := by omega
    have hb := h4 _ (List.getElem_mem ht)
    have hw := Aside0.mk (show wrap64 ((l[i].length : Int) + (m[t].length : Int)) = (l[i].length : Int) + (m[t].length : Int) by unfold wrap64; omega)
    refine Ev.step (fun k => by rw [impl_ProductSpace.l1]) ?_
    refine Ev.pos (by omega) ?_
    refine Ev.pos (by omega) ?_
    refine Ev.pos (by omega) ?_
    rw [rdL_atP m t ht, hw.out]
    by_cases c : 24 < l[i].length + m[t].length
    · exact Ev.pos (by omega) (Ev.now _)
    · refine Ev.neg (by omega) ?_
      refine Ev.bind (cat_ev l[i] m[t] (by omega) (by omega)) ?_
      refine Ev.pos (by omega) ?_
      rw [wrap_up ht (by omega)]
      refine ih (t + 1) _ (by omega) (by omega) (by rw [List.length_append, List.length_singleton]; omega) h4 ?_
      obtain ⟨b, hb2, h5⟩ := h3
      rw [drop_consP _ _ ht] at hb2
      rcases List.mem_cons.1 hb2 with rfl | hb2
      · exact absurd h5 c
      · exact ⟨b, hb2, h5⟩
/-- The program's steps over the first space's own, at one of them. -/
theorem im_l4 (t : Nat) (ht : t < e.length) (S : List (List Int)) {R : List (List Int) × List S41 × Bool} (d : Nat) : ∀ (q : Nat) (P : List S41), m.length - q = d → q ≤ m.length → P.length ≤ 314572800 + t * 300 + q →
    Ev (fun k => impl_ProductSpace.l3 k (m.length : Int) e (e.length : Int) ((t + 1 : Nat) : Int) S (P ++ (List.range' q (m.length - q)).map fun (k : Nat) => (⟨e[t].f0 * (m.length : Int) + (k : Int), e[t].f1 * (m.length : Int) + (k : Int)⟩ : S41))) R → Ev (fun k => impl_ProductSpace.l4 k (m.length : Int) e (e.length : Int) (t : Int) (m.length : Int) (q : Int) S P e[t].f0 e[t].f1) R := by
  have hs := he _ (List.getElem_mem ht)
  have _uhg := hg
  have _uhgl := hgl
  induction d with
  | zero =>
    intro q P h0 h1 h2 h3
    rw [show m.length - q = 0 by omega, List.range'_zero, List.map_nil, List.append_nil] at h3
    refine Ev.step (fun k => by rw [impl_ProductSpace.l4]) ?_
    refine Ev.neg (by omega) ?_
    rw [wrap_up ht (by omega)]
    exact h3
  | succ d ih =>
    intro q P h0 h1 h2 h3
    have hq : q < m.length := by omega
    rw [show m.length - q = (m.length - (q + 1)) + 1 by omega, List.range'_succ, List.map_cons] at h3
    refine Ev.step (fun k => by rw [impl_ProductSpace.l4]) ?_
    refine Ev.pos (by omega) ?_
    refine Ev.pos (by omega) ?_
    rw [wrap_up hq (by omega), wrap_mulP hs.1 (by omega) (by omega) (by omega), wrap_mulP (by omega) (by omega) (by omega) (by omega), wrap_addP hs.1 (by omega) (by omega) (by omega) (by omega) (by omega), wrap_addP (by omega) (by omega) (by omega) (by omega) (by omega) (by omega)]
    refine ih (q + 1) _ (by omega) (by omega) (by rw [List.length_append, List.length_singleton]; omega) ?_
    rw [List.append_assoc]
    exact h3
theorem im_l3 (S : List (List Int)) (d : Nat) : ∀ (t : Nat) (P : List S41), e.length - t = d → t ≤ e.length → P.length ≤ 314572800 + t * 300 →
    Ev (fun k => impl_ProductSpace.l3 k (m.length : Int) e (e.length : Int) (t : Int) S P) (S, sortP (P ++ (e.drop t).flatMap fun s => (List.range m.length).map fun (k : Nat) => (⟨s.f0 * (m.length : Int) + (k : Int), s.f1 * (m.length : Int) + (k : Int)⟩ : S41)), true) := by
  induction d with
  | zero =>
    intro t P h0 h1 h2
    rw [List.drop_eq_nil_of_le (by omega), List.flatMap_nil, List.append_nil]
    refine Ev.step (fun k => by rw [impl_ProductSpace.l3]) ?_
    refine Ev.neg (by omega) ?_
    exact Ev.pos (by omega) (Ev.now _)
  | succ d ih =>
    intro t P h0 h1 h2
    have ht : t < e.length := by omega
    rw [drop_consP _ _ ht, List.flatMap_cons, ← List.append_assoc]
    refine Ev.step (fun k => by rw [impl_ProductSpace.l3]) ?_
    refine Ev.pos (by omega) ?_
    refine Ev.pos (by omega) ?_
    refine Ev.pos (by omega) ?_
    rw [rdT_atP e t ht]
    have h := im_l4 hl hm he hg hel hgl t ht S (R := (S, sortP ((P ++ (List.range m.length).map fun (k : Nat) => (⟨e[t].f0 * (m.length : Int) + (k : Int), e[t].f1 * (m.length : Int) + (k : Int)⟩ : S41)) ++ (e.drop (t + 1)).flatMap fun s => (List.range m.length).map fun (k : Nat) => (⟨s.f0 * (m.length : Int) + (k : Int), s.f1 * (m.length : Int) + (k : Int)⟩ : S41)), true)) _ 0 P rfl (Nat.zero_le _) (by omega)
    rw [Int.natCast_zero, Nat.sub_zero, ← List.range_eq_range'] at h
    refine h (ih (t + 1) _ (by omega) (by omega) ?_)
    rw [List.length_append, List.length_map, List.length_range]
    omega
/-- All of the program's walk, where no state is too long. -/
theorem im_l0 (hok : ∀ a ∈ l, ∀ b ∈ m, a.length + b.length ≤ 24) (d : Nat) : ∀ (i : Nat) (S : List (List Int)) (P : List S41), l.length - i = d → i ≤ l.length → S.length ≤ i * 300 → P.length ≤ i * 1048576 →
    Ev (fun k => impl_ProductSpace.l0 k (m.length : Int) l (l.length : Int) (i : Int) l e m g S P) (S ++ (l.drop i).flatMap (fun a => m.map fun b => a ++ b), sortP ((P ++ (List.range' i (l.length - i)).flatMap fun (i : Nat) => g.map fun s => (⟨(i : Int) * (m.length : Int) + s.f0, (i : Int) * (m.length : Int) + s.f1⟩ : S41)) ++ (e.flatMap fun s => (List.range m.length).map fun (k : Nat) => (⟨s.f0 * (m.length : Int) + (k : Int), s.f1 * (m.length : Int) + (k : Int)⟩ : S41))), true) := by
  induction d with
  | zero =>
    intro i S P h0 h1 h2 h3
    rw [List.drop_eq_nil_of_le (by omega), List.flatMap_nil, List.append_nil, show l.length - i = 0 by omega, List.range'_zero, List.flatMap_nil, List.append_nil]
    refine Ev.step (fun k => by rw [impl_ProductSpace.l0]) ?_
    refine Ev.neg (by omega) ?_
    have h := im_l3 hl hm he hg hel hgl S _ 0 P rfl (Nat.zero_le _) (by omega)
    rw [Int.natCast_zero, List.drop_zero] at h
    exact h
  | succ d ih =>
    intro i S P h0 h1 h2 h3
    have hi : i < l.length := by omega
    rw [drop_consP _ _ hi, List.flatMap_cons, ← List.append_assoc, show l.length - i = (l.length - (i + 1)) + 1 by omega, List.range'_succ, List.flatMap_cons, ← List.append_assoc]
    refine Ev.step (fun k => by rw [impl_ProductSpace.l0]) ?_
    refine Ev.pos (by omega) ?_
    refine Ev.pos (by omega) ?_
    refine Ev.pos (by omega) ?_
    rw [rdL_atP l i hi]
    refine im_l1 hl hm he hg hel hgl hok i hi P _ 0 S rfl (Nat.zero_le _) (Nat.le_trans h2 (Nat.le_add_right _ _)) ?_
    rw [List.drop_zero]
    refine im_l2 hl hm he hg hel hgl i hi (S ++ m.map fun b => l[i] ++ b) _ 0 P rfl (Nat.zero_le _) (Nat.le_trans h3 (Nat.le_add_right _ _)) ?_
    rw [List.drop_zero]
    refine ih (i + 1) _ _ (by omega) (by omega) ?_ ?_
    · rw [List.length_append, List.length_map]; omega
    · rw [List.length_append, List.length_map]; omega
end
theorem own_atP (l : List Int) (h : l.length ≤ 1048576) : spec_l1Own.f l = some l := by
  unfold spec_l1Own.f
  rw [Option.bind_some, if_pos (by rw [List.length_nil]; omega), List.nil_append]
theorem filter_dropP (p : Int → Bool) (f : Int → S41) (L : List Int) (k : Nat) (h : k < L.length) : ((L.drop k).filter p).map f = (if p L[k] = true then [f L[k]] else []) ++ ((L.drop (k + 1)).filter p).map f := by
  rw [drop_consP _ _ h]
  by_cases c : p L[k] = true
  · rw [if_pos c, List.filter_cons_of_pos c]; rfl
  · rw [if_neg c, List.filter_cons_of_neg c]; rfl
section
variable {l m : List (List Int)} {e g : List S41} {zl zm : List (List Int)} (hl : l.length ≤ 300) (hm : m.length ≤ 300) (hzl : zl.length = l.length) (hzm : zm.length = m.length)
  (hrl : ∀ i : Nat, i < l.length → rd_L1 zl (i : Int) = rowL e (i : Int)) (hrm : ∀ i : Nat, i < m.length → rd_L1 zm (i : Int) = rowL g (i : Int))
  (he : ∀ i q : Int, q ∈ rowL e i → 0 ≤ q ∧ q < (l.length : Int)) (hg : ∀ i q : Int, q ∈ rowL g i → 0 ≤ q ∧ q < (m.length : Int)) (hel : e.length ≤ 1048576) (hgl : g.length ≤ 1048576)
include hl hm hzl hzm hrl hrm he hg hel hgl
/-- The reference's steps of the first space, at one place of the product. -/
theorem sp_l3 (i j : Nat) (hi : i < l.length) (hj : j < m.length) (S : List (List Int)) {R : List (List Int) × List S41 × Bool} (d : Nat) : ∀ (k0 : Nat) (P : List S41), (rowL e (i : Int)).length - k0 = d → k0 ≤ (rowL e (i : Int)).length → P.length ≤ (i * 300 + j) * 2097152 + 1048576 + k0 →
    Ev (fun k => spec_ProductSpace.l1 k (m.length : Int) zl zm (i : Int) ((j + 1 : Nat) : Int) l e m g S (P ++ (((rowL e (i : Int)).drop k0).filter (fun q => decide (q > (i : Int)))).map (fun q => (⟨(i : Int) * (m.length : Int) + (j : Int), q * (m.length : Int) + (j : Int)⟩ : S41)))) R → Ev (fun k => spec_ProductSpace.l3 k (m.length : Int) zl zm (i : Int) (j : Int) (k0 : Int) l e m g S P) R := by
  have _u1 := hzm
  have _u2 := hrm
  have _u3 := hg
  have _u4 := hgl
  have hrle : (rowL e (i : Int)).length ≤ e.length := rowL_le e _
  induction d with
  | zero =>
    intro k0 P h0 h1 h2 h3
    rw [List.drop_eq_nil_of_le (by omega), List.filter_nil, List.map_nil, List.append_nil] at h3
    refine Ev.step (fun k => by rw [spec_ProductSpace.l3]) ?_
    refine Ev.pos (by omega) ?_
    refine Ev.pos (by omega) ?_
    rw [hrl i hi]
    refine Ev.neg (by omega) ?_
    rw [wrap_up hj (by omega)]
    exact h3
  | succ d ih =>
    intro k0 P h0 h1 h2 h3
    have hk : k0 < (rowL e (i : Int)).length := by omega
    have hq := he _ _ (List.getElem_mem hk)
    rw [filter_dropP _ _ _ _ hk, ← List.append_assoc] at h3
    refine Ev.step (fun k => by rw [spec_ProductSpace.l3]) ?_
    refine Ev.pos (by omega) ?_
    refine Ev.pos (by omega) ?_
    rw [hrl i hi]
    refine Ev.pos (by omega) ?_
    refine Ev.pos (by omega) ?_
    rw [rd_at _ k0 hk, wrap_up hk (by omega)]
    generalize (rowL e (i : Int))[k0] = q at hq h3
    by_cases c : q > (i : Int)
    · rw [if_pos (by simpa using c)] at h3
      refine Ev.pos c ?_
      refine Ev.pos (by omega) ?_
      rw [wrap_mulP (by omega) (by omega) (by omega) (by omega), wrap_mulP hq.1 (by omega) (by omega) (by omega), wrap_addP (by omega) (by omega) (by omega) (by omega) (by omega) (by omega), wrap_addP hq.1 (by omega) (by omega) (by omega) (by omega) (by omega)]
      exact ih (k0 + 1) _ (by omega) (by omega) (by rw [List.length_append, List.length_singleton]; omega) h3
    · rw [if_neg (by simpa using c), List.append_nil] at h3
      refine Ev.neg c ?_
      exact ih (k0 + 1) _ (by omega) (by omega) (by omega) h3
/-- The reference's steps of the second space, at one place of the product. -/
theorem sp_l2 (i j : Nat) (hi : i < l.length) (hj : j < m.length) (S : List (List Int)) {R : List (List Int) × List S41 × Bool} (d : Nat) : ∀ (k0 : Nat) (P : List S41), (rowL g (j : Int)).length - k0 = d → k0 ≤ (rowL g (j : Int)).length → P.length ≤ (i * 300 + j) * 2097152 + k0 →
    Ev (fun k => spec_ProductSpace.l3 k (m.length : Int) zl zm (i : Int) (j : Int) 0 l e m g S (P ++ (((rowL g (j : Int)).drop k0).filter (fun q => decide (q > (j : Int)))).map (fun q => (⟨(i : Int) * (m.length : Int) + (j : Int), (i : Int) * (m.length : Int) + q⟩ : S41)))) R → Ev (fun k => spec_ProductSpace.l2 k (m.length : Int) zl zm (i : Int) (j : Int) (k0 : Int) l e m g S P) R := by
  have _u1 := hzl
  have _u2 := hrl
  have _u3 := he
  have _u4 := hel
  have hrle : (rowL g (j : Int)).length ≤ g.length := rowL_le g _
  induction d with
  | zero =>
    intro k0 P h0 h1 h2 h3
    rw [List.drop_eq_nil_of_le (by omega), List.filter_nil, List.map_nil, List.append_nil] at h3
    refine Ev.step (fun k => by rw [spec_ProductSpace.l2]) ?_
    refine Ev.pos (by omega) ?_
    refine Ev.pos (by omega) ?_
    rw [hrm j hj]
    refine Ev.neg (by omega) ?_
    exact h3
  | succ d ih =>
    intro k0 P h0 h1 h2 h3
    have hk : k0 < (rowL g (j : Int)).length := by omega
    have hq := hg _ _ (List.getElem_mem hk)
    rw [filter_dropP _ _ _ _ hk, ← List.append_assoc] at h3
    refine Ev.step (fun k => by rw [spec_ProductSpace.l2]) ?_
    refine Ev.pos (by omega) ?_
    refine Ev.pos (by omega) ?_
    rw [hrm j hj]
    refine Ev.pos (by omega) ?_
    refine Ev.pos (by omega) ?_
    rw [rd_at _ k0 hk, wrap_up hk (by omega)]
    generalize (rowL g (j : Int))[k0] = q at hq h3
    by_cases c : q > (j : Int)
    · rw [if_pos (by simpa using c)] at h3
      refine Ev.pos c ?_
      refine Ev.pos (by omega) ?_
      rw [wrap_mulP (by omega) (by omega) (by omega) (by omega), wrap_addP (by omega) (by omega) (by omega) (by omega) (by omega) (by omega), wrap_addP (by omega) (by omega) (by omega) (by omega) hq.1 (by omega)]
      exact ih (k0 + 1) _ (by omega) (by omega) (by rw [List.length_append, List.length_singleton]; omega) h3
    · rw [if_neg (by simpa using c), List.append_nil] at h3
      refine Ev.neg c ?_
      exact ih (k0 + 1) _ (by omega) (by omega) (by omega) h3
/-- The reference's row of the product. -/
theorem sp_l1 (hal : ∀ a ∈ l, a.length ≤ 1000) (hbl : ∀ b ∈ m, b.length ≤ 1000) (i : Nat) (hi : i < l.length) {R : List (List Int) × List S41 × Bool} (d : Nat) : ∀ (j : Nat) (S : List (List Int)) (P : List S41), m.length - j = d → j ≤ m.length → S.length ≤ i * 300 + j → P.length ≤ (i * 300 + j) * 2097152 →
    (∀ P2 : List S41, P2.length ≤ ((i + 1) * 300) * 2097152 → P2 = P ++ (List.range' j (m.length - j)).flatMap (fun (j : Nat) => spRow (m.length : Int) (rowL e) (rowL g) (i : Int) (j : Int)) → Ev (fun k => spec_ProductSpace.l0 k (m.length : Int) zl zm ((i + 1 : Nat) : Int) l e m g (S ++ (m.drop j).map fun b => l[i] ++ b) P2) R) → Ev (fun k => spec_ProductSpace.l1 k (m.length : Int) zl zm (i : Int) (j : Int) l e m g S P) R := by
  have hwi := Aside0.mk (show wrap64 ((i : Int) + 1) = ((i + 1 : Nat) : Int) by unfold wrap64; omega)
  induction d with
  | zero =>
    intro j S P h0 h1 h2 h4 h3
    have hP : P.length ≤ ((i + 1) * 300) * 2097152 := Nat.le_trans h4 (Nat.mul_le_mul_right _ (by omega))
    have h3 := h3 P hP (by rw [show m.length - j = 0 by omega, List.range'_zero, List.flatMap_nil, List.append_nil])
    rw [List.drop_eq_nil_of_le (by omega), List.map_nil, List.append_nil] at h3
    refine Ev.step (fun k => by rw [spec_ProductSpace.l1]) ?_
    refine Ev.neg (by omega) ?_
    rw [hwi.out]
    exact h3
  | succ d ih =>
    intro j S P h0 h1 h2 h4 h3
    have hj : j < m.length := by omega
    have ha := hal _ (List.getElem_mem hi)
    have hb := hbl _ (List.getElem_mem hj)
    have hrg : (rowL g (j : Int)).length ≤ g.length := rowL_le g _
    have hre : (rowL e (i : Int)).length ≤ e.length := rowL_le e _
    refine Ev.step (fun k => by rw [spec_ProductSpace.l1]) ?_
    refine Ev.pos (by omega) ?_
    refine Ev.pos (by omega) ?_
    refine Ev.pos (by omega) ?_
    rw [rdL_atP l i hi, rdL_atP m j hj]
    refine Ev.bindo (own_atP _ (by omega)) ?_
    refine Ev.pos (by omega) ?_
    refine Ev.pos (by omega) ?_
    refine Ev.pos (by omega) ?_
    refine Ev.pos (by omega) ?_
    refine sp_l2 hl hm hzl hzm hrl hrm he hg hel hgl i j hi hj (S ++ [l[i] ++ m[j]]) _ 0 P rfl (Nat.zero_le _) (Nat.le_trans h4 (Nat.le_add_right _ _)) ?_
    rw [List.drop_zero]
    have hl1 : ((((rowL g (j : Int)).filter (fun q => decide (q > (j : Int)))).map (fun q => (⟨(i : Int) * (m.length : Int) + (j : Int), (i : Int) * (m.length : Int) + q⟩ : S41)))).length ≤ 1048576 := by
      rw [List.length_map]; exact Nat.le_trans (List.length_filter_le _ _) (by omega)
    have hl2 : ((((rowL e (i : Int)).filter (fun q => decide (q > (i : Int)))).map (fun q => (⟨(i : Int) * (m.length : Int) + (j : Int), q * (m.length : Int) + (j : Int)⟩ : S41)))).length ≤ 1048576 := by
      rw [List.length_map]; exact Nat.le_trans (List.length_filter_le _ _) (by omega)
    refine sp_l3 hl hm hzl hzm hrl hrm he hg hel hgl i j hi hj (S ++ [l[i] ++ m[j]]) _ 0 _ rfl (Nat.zero_le _) (by rw [List.length_append]; omega) ?_
    rw [List.drop_zero]
    refine ih (j + 1) _ _ (by omega) (by omega) (by rw [List.length_append, List.length_singleton]; omega) (by rw [List.length_append, List.length_append]; omega) (fun P2 hP2 e2 => ?_)
    have h5 := h3 P2 hP2 (by
      rw [e2, show m.length - j = (m.length - (j + 1)) + 1 by omega, List.range'_succ, List.flatMap_cons]
      unfold spRow
      simp only [List.append_assoc])
    rw [drop_consP _ _ hj, List.map_cons] at h5
    rw [List.append_assoc]
    exact h5
/-- The reference's walk. -/
theorem sp_l0 (hal : ∀ a ∈ l, a.length ≤ 1000) (hbl : ∀ b ∈ m, b.length ≤ 1000) (d : Nat) : ∀ (i : Nat) (S : List (List Int)) (P : List S41), l.length - i = d → i ≤ l.length → S.length ≤ i * 300 → P.length ≤ (i * 300) * 2097152 →
    Ev (fun k => spec_ProductSpace.l0 k (m.length : Int) zl zm (i : Int) l e m g S P) (S ++ (l.drop i).flatMap (fun a => m.map fun b => a ++ b), P ++ (List.range' i (l.length - i)).flatMap (fun (i : Nat) => (List.range m.length).flatMap (fun (j : Nat) => spRow (m.length : Int) (rowL e) (rowL g) (i : Int) (j : Int))), true) := by
  induction d with
  | zero =>
    intro i S P h0 h1 h2 h3
    rw [List.drop_eq_nil_of_le (by omega), List.flatMap_nil, List.append_nil, show l.length - i = 0 by omega, List.range'_zero, List.flatMap_nil, List.append_nil]
    refine Ev.step (fun k => by rw [spec_ProductSpace.l0]) ?_
    exact Ev.neg (by omega) (Ev.now _)
  | succ d ih =>
    intro i S P h0 h1 h2 h3
    have hi : i < l.length := by omega
    rw [drop_consP _ _ hi, List.flatMap_cons, ← List.append_assoc, show l.length - i = (l.length - (i + 1)) + 1 by omega, List.range'_succ, List.flatMap_cons, ← List.append_assoc]
    refine Ev.step (fun k => by rw [spec_ProductSpace.l0]) ?_
    refine Ev.pos (by omega) ?_
    refine sp_l1 hl hm hzl hzm hrl hrm he hg hel hgl hal hbl i hi _ 0 S P rfl (Nat.zero_le _) (Nat.le_trans h2 (Nat.le_add_right _ _)) (by rw [Nat.add_zero]; exact h3) (fun P2 hP2 e2 => ?_)
    rw [List.drop_zero]
    rw [Nat.sub_zero, ← List.range_eq_range'] at e2
    rw [← e2]
    exact ih (i + 1) _ _ (by omega) (by omega) (by rw [List.length_append, List.length_map]; omega) hP2
end
theorem flenP {α β : Type} (f : α → List β) (c : Nat) : ∀ (l : List α), (∀ x ∈ l, (f x).length = c) → (l.flatMap f).length = l.length * c
  | [], _ => by simp
  | x :: l, h => by
    rw [List.flatMap_cons, List.length_append, flenP f c l (fun y hy => h y (List.mem_cons_of_mem _ hy)), h x (List.mem_cons_self ..), List.length_cons, Nat.add_mul, Nat.one_mul, Nat.add_comm]
theorem imAll_len (n1 n2 : Nat) (e g : List S41) : (imAll n1 n2 e g).length = n1 * g.length + e.length * n2 := by
  unfold imAll
  rw [List.length_append, flenP _ g.length _ (fun x _ => by rw [List.length_map]), flenP _ n2 _ (fun x _ => by rw [List.length_map, List.length_range]), List.length_range]
theorem even_loopP (l : List (List Int)) (e : List S41) (hl : l.length ≤ 300) (d : Nat) : ∀ (t : Nat), l.length - t = d → t ≤ l.length → (∀ a ∈ l.take t, unlike l a = false) → Ev (fun k => spec_l2Even.l0 k (t : Int) l e) (!uneven l) := by
  induction d with
  | zero =>
    intro t h0 h1 h2
    rw [List.take_of_length_le (by omega)] at h2
    have hu : uneven l = false := by
      unfold uneven
      rw [List.any_eq_false]
      intro x hx
      rw [h2 x hx]; decide
    rw [hu]
    refine Ev.step (fun k => by rw [spec_l2Even.l0]) ?_
    exact Ev.neg (by omega) (Ev.now _)
  | succ d ih =>
    intro t h0 h1 h2
    have ht : t < l.length := by omega
    refine Ev.step (fun k => by rw [spec_l2Even.l0]) ?_
    refine Ev.pos (by omega) ?_
    refine Ev.pos (by omega) ?_
    refine Ev.pos (by omega) ?_
    rw [rdL_atP l t ht, wrap_up ht (by omega)]
    by_cases c : (l[t].length : Int) = ((rd_L1 l 0).length : Int)
    · refine Ev.pos c ?_
      refine ih (t + 1) (by omega) (by omega) (fun a ha => ?_)
      rw [List.take_succ_eq_append_getElem ht, List.mem_append, List.mem_singleton] at ha
      rcases ha with ha | rfl
      · exact h2 a ha
      · unfold unlike; simp [c]
    · have hu : uneven l = true := by
        unfold uneven
        rw [List.any_eq_true]
        exact ⟨l[t], List.getElem_mem ht, by unfold unlike; simpa using c⟩
      rw [hu]
      exact Ev.neg c (Ev.now _)
theorem uneven_none {l : List (List Int)} (h : uneven l = false) : ∀ a ∈ l, a.length = (rd_L1 l 0).length := fun a ha => by
  unfold uneven at h
  rw [List.any_eq_false] at h
  have := h a ha
  unfold unlike at this
  have h2 : (a.length : Int) = ((rd_L1 l 0).length : Int) := by simpa using this
  omega
theorem most_atP (a b : Int) : spec_l1Most.f a b = some (if a > b then a else b) := by
  unfold spec_l1Most.f
  by_cases h : a > b
  · rw [if_pos h, if_pos h]
  · rw [if_neg h, if_neg h]
theorem long_loopP (l : List (List Int)) (e : List S41) (hl : l.length ≤ 300) (d : Nat) : ∀ (t : Nat) (x : Int), l.length - t = d → t ≤ l.length → ∃ r : Int, Ev (fun k => spec_l2Longest.l0 k x (t : Int) l e) r ∧ x ≤ r ∧ (∀ a ∈ l.drop t, (a.length : Int) ≤ r) ∧ (r = x ∨ ∃ a ∈ l.drop t, (a.length : Int) = r) := by
  induction d with
  | zero =>
    intro t x h0 h1
    rw [List.drop_eq_nil_of_le (by omega)]
    refine ⟨x, ?_, Int.le_refl _, (fun a ha => by cases ha), .inl rfl⟩
    refine Ev.step (fun k => by rw [spec_l2Longest.l0]) ?_
    exact Ev.neg (by omega) (Ev.now _)
  | succ d ih =>
    intro t x h0 h1
    have ht : t < l.length := by omega
    obtain ⟨r, r1, r2, r3, r4⟩ := ih (t + 1) (if x > (l[t].length : Int) then x else (l[t].length : Int)) (by omega) (by omega)
    have hx : x ≤ (if x > (l[t].length : Int) then x else (l[t].length : Int)) ∧ (l[t].length : Int) ≤ (if x > (l[t].length : Int) then x else (l[t].length : Int)) := by split <;> omega
    rw [drop_consP _ _ ht]
    refine ⟨r, ?_, by omega, fun a ha => ?_, ?_⟩
    · refine Ev.step (fun k => by rw [spec_l2Longest.l0]) ?_
      refine Ev.pos (by omega) ?_
      refine Ev.pos (by omega) ?_
      rw [rdL_atP l t ht, wrap_up ht (by omega)]
      exact Ev.bindo (most_atP _ _) r1
    · rcases List.mem_cons.1 ha with rfl | ha
      · omega
      · exact r3 a ha
    · rcases r4 with r4 | ⟨a, ha, r4⟩
      · by_cases c : x > (l[t].length : Int)
        · rw [if_pos c] at r4; exact .inl r4
        · rw [if_neg c] at r4; exact .inr ⟨l[t], List.mem_cons_self .., r4.symm⟩
      · exact .inr ⟨a, List.mem_cons_of_mem _ ha, r4⟩
theorem goodS_len : ∀ (l : List (List Int)) (p : Option (List Int)), goodS p l = true → ∀ s ∈ l, s.length ≤ 24
  | [], _, _ => fun s hs => by cases hs
  | x :: l, p, h => fun s hs => by
    have h1 : (okState x && ((match p with | none => true | some q => befL q x) && goodS (some x) l)) = true := by
      cases p <;> exact h
    have h2 : okState x = true ∧ goodS (some x) l = true := by
      simp only [Bool.and_eq_true] at h1
      exact ⟨h1.1, h1.2.2⟩
    rcases List.mem_cons.1 hs with rfl | hs
    · have := h2.1
      unfold okState at this
      simp only [Bool.and_eq_true, decide_eq_true_eq] at this
      omega
    · exact goodS_len l _ h2.2 s hs
theorem okS_all {l : List (List Int)} {e : List S41} (h : okS l e = true) : l.length ≤ 300 ∧ e.length ≤ 6000 ∧ (∀ s ∈ l, s.length ≤ 24) ∧ (∀ s ∈ e, 0 ≤ s.f0 ∧ s.f0 < s.f1 ∧ s.f1 < (l.length : Int)) ∧ e.Pairwise (fun a b => befP a b = true) ∧ goodP (l.length : Int) none e = true := by
  unfold okS at h
  simp only [Bool.and_eq_true, decide_eq_true_eq] at h
  obtain ⟨⟨h1, h2⟩, h3, h4⟩ := h
  exact ⟨by omega, by omega, goodS_len l _ h3, goodP_all _ e _ h4, (goodP_pw _ e _ h4).1, h4⟩
theorem Both_FnExactProductSpace (l0_0 : List (List Int)) (l0_1 : List S41) (l1_0 : List (List Int)) (l1_1 : List S41) (w0_0 : FitLL l0_0) (w0_1 : FitP l0_1) (w1_0 : FitLL l1_0) (w1_1 : FitP l1_1) (hm0 : modS l0_0 l0_1) (hm1 : modS l1_0 l1_1) : ∃ (q0 : List (List Int)) (q1 : List S41) (q2 : Bool), Ev (fun k => spec_ProductSpace.f k l0_0 l0_1 l1_0 l1_1) (q0, q1, q2) ∧ Ev (fun k => impl_ProductSpace.f k l0_0 l0_1 l1_0 l1_1) (q0, q1, q2) ∧ modS q0 q1 := by
  have hnil : modS ([] : List (List Int)) ([] : List S41) := ⟨Nat.zero_le _, (fun s hs => by cases hs), Nat.zero_le _⟩
  have sj : Ev (fun k => spec_ProductSpace.j0 k true l0_0 l0_1 l1_0 l1_1) ([], [], false) := by
    refine Ev.step (fun k => by rw [spec_ProductSpace.j0]) ?_
    exact Ev.pos rfl (Ev.now _)
  have ij : Ev (fun k => impl_ProductSpace.j0 k true l0_0 l0_1 l1_0 l1_1) ([], [], false) := by
    refine Ev.step (fun k => by rw [impl_ProductSpace.j0]) ?_
    exact Ev.pos rfl (Ev.now _)
  have sj1 : ∀ x, Ev (fun k => spec_ProductSpace.j1 k x true l0_0 l0_1 l1_0 l1_1) ([], [], false) := fun x => by
    refine Ev.step (fun k => by rw [spec_ProductSpace.j1]) ?_
    exact Ev.pos rfl (Ev.now _)
  have ij1 : ∀ x, Ev (fun k => impl_ProductSpace.j1 k x true l0_0 l0_1 l1_0 l1_1) ([], [], false) := fun x => by
    refine Ev.step (fun k => by rw [impl_ProductSpace.j1]) ?_
    exact Ev.pos rfl (Ev.now _)
  by_cases h0 : okS l0_0 l0_1 = true
  case neg =>
    rw [Bool.not_eq_true] at h0
    refine ⟨[], [], false, ?_, ?_, hnil⟩
    · unfold spec_ProductSpace.f
      refine Ev.bind (l2Space_ev l0_0 l0_1 hm0) ?_
      rw [h0]
      exact Ev.neg (by decide) sj
    · unfold impl_ProductSpace.f
      refine Ev.bind (impl_IsSpace_ev l0_0 l0_1 hm0) ?_
      rw [h0]
      exact Ev.neg (by decide) ij
  by_cases h1 : okS l1_0 l1_1 = true
  case neg =>
    rw [Bool.not_eq_true] at h1
    refine ⟨[], [], false, ?_, ?_, hnil⟩
    · unfold spec_ProductSpace.f
      refine Ev.bind (l2Space_ev l0_0 l0_1 hm0) ?_
      rw [h0]
      refine Ev.pos rfl ?_
      refine Ev.bind (l2Space_ev l1_0 l1_1 hm1) ?_
      rw [h1]
      exact Ev.neg (by decide) sj
    · unfold impl_ProductSpace.f
      refine Ev.bind (impl_IsSpace_ev l0_0 l0_1 hm0) ?_
      rw [h0]
      refine Ev.pos rfl ?_
      refine Ev.bind (impl_IsSpace_ev l1_0 l1_1 hm1) ?_
      rw [h1]
      exact Ev.neg (by decide) ij
  obtain ⟨hl, hel, hla, he, hep, hge⟩ := okS_all h0
  obtain ⟨hm, hgl, hma, hg, hgp, hgg⟩ := okS_all h1
  have hhas : slices_ContainsFunc_int_int.f l0_0 = some (uneven l0_0) := by
    unfold slices_ContainsFunc_int_int.f
    rw [if_pos (by omega)]
  have hev := even_loopP l0_0 l0_1 hl _ 0 rfl (Nat.zero_le _) (fun a ha => by simp at ha)
  rw [Int.natCast_zero] at hev
  have bs : ∀ {q : List (List Int) × List S41 × Bool}, Ev (fun k => spec_ProductSpace.j0 k (decide ((wrap64 ((l0_0.length : Int) * (l1_0.length : Int))) > 300)) l0_0 l0_1 l1_0 l1_1) q → uneven l0_0 = false → Ev (fun k => spec_ProductSpace.f k l0_0 l0_1 l1_0 l1_1) q := fun hq hu => by
    unfold spec_ProductSpace.f
    refine Ev.bind (l2Space_ev l0_0 l0_1 hm0) ?_
    rw [h0]
    refine Ev.pos rfl ?_
    refine Ev.bind (l2Space_ev l1_0 l1_1 hm1) ?_
    rw [h1]
    refine Ev.pos rfl ?_
    refine Ev.bind (a := true) (by unfold spec_l2Even.f; rw [hu] at hev; exact hev) ?_
    exact Ev.pos rfl hq
  have bi : ∀ {q : List (List Int) × List S41 × Bool}, Ev (fun k => impl_ProductSpace.j0 k (uneven l0_0) l0_0 l0_1 l1_0 l1_1) q → Ev (fun k => impl_ProductSpace.f k l0_0 l0_1 l1_0 l1_1) q := fun hq => by
    unfold impl_ProductSpace.f
    refine Ev.bind (impl_IsSpace_ev l0_0 l0_1 hm0) ?_
    rw [h0]
    refine Ev.pos rfl ?_
    refine Ev.bind (impl_IsSpace_ev l1_0 l1_1 hm1) ?_
    rw [h1]
    refine Ev.pos rfl ?_
    exact Ev.bindo hhas hq
  by_cases hu : uneven l0_0 = true
  · refine ⟨[], [], false, ?_, bi (by rw [hu]; exact ij), hnil⟩
    unfold spec_ProductSpace.f
    refine Ev.bind (l2Space_ev l0_0 l0_1 hm0) ?_
    rw [h0]
    refine Ev.pos rfl ?_
    refine Ev.bind (l2Space_ev l1_0 l1_1 hm1) ?_
    rw [h1]
    refine Ev.pos rfl ?_
    refine Ev.bind (a := false) (by unfold spec_l2Even.f; rw [hu] at hev; exact hev) ?_
    exact Ev.neg (by decide) sj
  rw [Bool.not_eq_true] at hu
  have hnm := @mul_le300 l0_0.length l1_0.length hl hm
  have hw := Aside0.mk (wrap_mulP (a := (l0_0.length : Int)) (n := (l1_0.length : Int)) (by omega) (by omega) (by omega) (by omega))
  have hA : ∀ a b : Nat, a ≤ 6000 → b ≤ 300 → (a : Int) * (b : Int) ≤ 1800000 ∧ 0 ≤ (a : Int) * (b : Int) := fun a b ha hb => by
    have h := Nat.mul_le_mul ha hb
    have e : ((a * b : Nat) : Int) = (a : Int) * (b : Int) := Int.natCast_mul a b
    omega
  have hA1 := hA _ _ hel hm
  have hA2 := hA _ _ hgl hl
  have hB1 : (l0_0.length : Int) * (l1_1.length : Int) = (l1_1.length : Int) * (l0_0.length : Int) := Int.mul_comm _ _
  have hB2 : (l1_0.length : Int) * (l0_1.length : Int) = (l0_1.length : Int) * (l1_0.length : Int) := Int.mul_comm _ _
  obtain ⟨T1, hT1⟩ : ∃ T, T = (l0_1.length : Int) * (l1_0.length : Int) := ⟨_, rfl⟩
  obtain ⟨T2, hT2⟩ : ∃ T, T = (l1_1.length : Int) * (l0_0.length : Int) := ⟨_, rfl⟩
  rw [← hT1] at hA1 hB2
  rw [← hT2] at hA2 hB1
  have x1 := Aside0.mk (show wrap64 T1 = T1 by unfold wrap64; omega)
  have x2 := Aside0.mk (show wrap64 T2 = T2 by unfold wrap64; omega)
  have x3 := Aside0.mk (show wrap64 (T1 + T2) = T1 + T2 by unfold wrap64; omega)
  have x4 := Aside0.mk (show wrap64 (T2 + T1) = T1 + T2 by unfold wrap64; omega)
  by_cases c300 : (l0_0.length : Int) * (l1_0.length : Int) > 300
  · refine ⟨[], [], false, bs ?_ hu, bi ?_, hnil⟩
    · rw [hw.out, decide_eq_true c300]; exact sj
    · rw [hu]
      refine Ev.step (fun k => by rw [impl_ProductSpace.j0]) ?_
      refine Ev.neg (by decide) ?_
      rw [hw.out]
      exact Ev.pos c300 (ij1 _)
  obtain ⟨r1, a1, a2, a3, a4⟩ := long_loopP l0_0 l0_1 hl _ 0 0 rfl (Nat.zero_le _)
  obtain ⟨r2, b1, b2, b3, b4⟩ := long_loopP l1_0 l1_1 hm _ 0 0 rfl (Nat.zero_le _)
  rw [List.drop_zero] at a3 a4 b3 b4
  rw [Int.natCast_zero] at a1 b1
  have hr1 : r1 ≤ 24 := by
    rcases a4 with q | ⟨a, ha, q⟩
    · omega
    · have := hla a ha; omega
  have hr2 : r2 ≤ 24 := by
    rcases b4 with q | ⟨b, hb, q⟩
    · omega
    · have := hma b hb; omega
  have x5 := Aside0.mk (show wrap64 (r1 + r2) = r1 + r2 by unfold wrap64; omega)
  -- the reference, behind its first tests
  have sb : ∀ {q : List (List Int) × List S41 × Bool}, ((l0_0.length : Int) * (l1_0.length : Int) > 0 → ¬ r1 + r2 > 24) → Ev (fun k => spec_ProductSpace.j1 k (l1_0.length : Int) (decide (T1 + T2 > 6000)) l0_0 l0_1 l1_0 l1_1) q → Ev (fun k => spec_ProductSpace.f k l0_0 l0_1 l1_0 l1_1) q := fun hlen hq => bs (by
    rw [hw.out, decide_eq_false c300]
    refine Ev.step (fun k => by rw [spec_ProductSpace.j0]) ?_
    refine Ev.neg (by decide) ?_
    rw [hw.out, ← hT1, ← hT2, x1.out, x2.out, x3.out]
    by_cases c : (l0_0.length : Int) * (l1_0.length : Int) > 0
    · refine Ev.pos c ?_
      refine Ev.bind (a := r1) (by unfold spec_l2Longest.f; exact a1) ?_
      refine Ev.bind (a := r2) (by unfold spec_l2Longest.f; exact b1) ?_
      rw [x5.out]
      exact Ev.neg (hlen c) hq
    · exact Ev.neg c hq) hu
  have ib : ∀ {q : List (List Int) × List S41 × Bool}, Ev (fun k => impl_ProductSpace.j1 k (l1_0.length : Int) (decide (T1 + T2 > 6000)) l0_0 l0_1 l1_0 l1_1) q → Ev (fun k => impl_ProductSpace.f k l0_0 l0_1 l1_0 l1_1) q := fun hq => bi (by
    rw [hu]
    refine Ev.step (fun k => by rw [impl_ProductSpace.j0]) ?_
    refine Ev.neg (by decide) ?_
    rw [hw.out, hB1, hB2, x1.out, x2.out, x4.out]
    exact Ev.neg c300 hq)
  by_cases clong : (l0_0.length : Int) * (l1_0.length : Int) > 0 ∧ r1 + r2 > 24
  · -- some state is too long
    have hne : 0 < l0_0.length ∧ 0 < l1_0.length := by
      constructor
      · rcases Nat.eq_zero_or_pos l0_0.length with q | q
        · rw [q] at clong; simp at clong
        · exact q
      · rcases Nat.eq_zero_or_pos l1_0.length with q | q
        · rw [q] at clong; simp at clong
        · exact q
    refine ⟨[], [], false, bs ?_ hu, ib ?_, hnil⟩
    · rw [hw.out, decide_eq_false c300]
      refine Ev.step (fun k => by rw [spec_ProductSpace.j0]) ?_
      refine Ev.neg (by decide) ?_
      rw [hw.out]
      refine Ev.pos clong.1 ?_
      refine Ev.bind (a := r1) (by unfold spec_l2Longest.f; exact a1) ?_
      refine Ev.bind (a := r2) (by unfold spec_l2Longest.f; exact b1) ?_
      rw [x5.out]
      exact Ev.pos clong.2 (sj1 _)
    · by_cases c6 : T1 + T2 > 6000
      · rw [decide_eq_true c6]; exact ij1 _
      · rw [decide_eq_false c6]
        refine Ev.step (fun k => by rw [impl_ProductSpace.j1]) ?_
        refine Ev.neg (by decide) ?_
        refine Ev.step (fun k => by rw [impl_ProductSpace.l0]) ?_
        refine Ev.pos (by omega) ?_
        refine Ev.pos (by omega) ?_
        refine Ev.pos (by omega) ?_
        have e0 : rd_L1 l0_0 0 = l0_0[0]'hne.1 := rdL_atP l0_0 0 hne.1
        rw [e0]
        have hall := uneven_none hu
        have ha0 : ((l0_0[0]'hne.1).length : Int) = r1 := by
          have h5 := a3 _ (List.getElem_mem hne.1)
          rcases a4 with q | ⟨a, ha, q⟩
          · omega
          · have h6 := hall a ha
            rw [e0] at h6
            omega
        have hb0 : ∃ b ∈ l1_0.drop 0, 24 < (l0_0[0]'hne.1).length + b.length := by
          rw [List.drop_zero]
          rcases b4 with q | ⟨b, hb, q⟩
          · refine ⟨_, List.getElem_mem hne.2, ?_⟩
            have := clong.2
            omega
          · refine ⟨b, hb, ?_⟩
            have := clong.2
            omega
        have h := im_bad (l := l0_0) (m := l1_0) (e := l0_1) (g := l1_1) hl hm he hg (by omega) (by omega) 0 hne.1 (hla _ (List.getElem_mem hne.1)) [] _ 0 [] rfl (Nat.zero_le _) (Nat.zero_le _) hma hb0
        rw [Int.natCast_zero] at h
        exact h
  have hok : ∀ a ∈ l0_0, ∀ b ∈ l1_0, a.length + b.length ≤ 24 := fun a ha b hb => by
    have h5 := a3 a ha
    have h6 := b3 b hb
    have h7 : (l0_0.length : Int) * (l1_0.length : Int) > 0 := by
      have q1 := List.length_pos_of_mem ha
      have q2 := List.length_pos_of_mem hb
      exact Int.mul_pos (by omega) (by omega)
    have : ¬ r1 + r2 > 24 := fun q => clong ⟨h7, q⟩
    omega
  have hlong : (l0_0.length : Int) * (l1_0.length : Int) > 0 → ¬ r1 + r2 > 24 := fun q1 q2 => clong ⟨q1, q2⟩
  by_cases c6 : T1 + T2 > 6000
  · refine ⟨[], [], false, sb hlong ?_, ib ?_, hnil⟩
    · rw [decide_eq_true c6]; exact sj1 _
    · rw [decide_eq_true c6]; exact ij1 _
  have hsteps := prod_steps (n1 := l0_0.length) (n2 := l1_0.length) he hg hep hgp
  have hlenP : (sortP (imAll l0_0.length l1_0.length l0_1 l1_1)).length ≤ 6000 := by
    rw [(sortP_perm _).length_eq, imAll_len]
    have e1 : ((l0_0.length * l1_1.length : Nat) : Int) = (l0_0.length : Int) * (l1_1.length : Int) := Int.natCast_mul _ _
    have e2 : ((l0_1.length * l1_0.length : Nat) : Int) = (l0_1.length : Int) * (l1_0.length : Int) := Int.natCast_mul _ _
    rw [← hT1] at e2
    rw [hB1] at e1
    omega
  have hlenS : (l0_0.flatMap (fun a => l1_0.map fun b => a ++ b)).length ≤ 1048576 := by
    rw [flenP _ l1_0.length _ (fun a _ => by rw [List.length_map])]
    have e1 : ((l0_0.length * l1_0.length : Nat) : Int) = (l0_0.length : Int) * (l1_0.length : Int) := Int.natCast_mul _ _
    omega
  refine ⟨l0_0.flatMap (fun a => l1_0.map fun b => a ++ b), sortP (imAll l0_0.length l1_0.length l0_1 l1_1), true, sb hlong ?_, ib ?_, ⟨hlenS, fun s hs => ?_, by omega⟩⟩
  · rw [decide_eq_false c6]
    refine Ev.step (fun k => by rw [spec_ProductSpace.j1]) ?_
    refine Ev.neg (by decide) ?_
    refine Ev.bind (lists_ev l0_0 l0_1 hm0 hge) ?_
    refine Ev.bind (lists_ev l1_0 l1_1 hm1 hgg) ?_
    have hmem : ∀ {e : List S41} {n : Int}, (∀ s ∈ e, 0 ≤ s.f0 ∧ s.f0 < s.f1 ∧ s.f1 < n) → ∀ i q : Int, q ∈ rowL e i → 0 ≤ q ∧ q < n := fun {e n} he i q hq => by
      rw [rowL_memP] at hq
      obtain ⟨p, hp, hpq⟩ := hq
      have := he p hp
      omega
    have h := sp_l0 (l := l0_0) (m := l1_0) (e := l0_1) (g := l1_1) (zl := roadsL l0_0 l0_1) (zm := roadsL l1_0 l1_1) hl hm (roadsL_len _ _) (roadsL_len _ _) (fun i hi => by unfold roadsL; exact rowsOf_rd _ (by omega) (by omega)) (fun i hi => by unfold roadsL; exact rowsOf_rd _ (by omega) (by omega)) (hmem he) (hmem hg) (by omega) (by omega) (fun a ha => by have := hla a ha; omega) (fun b hb => by have := hma b hb; omega) _ 0 [] [] rfl (Nat.zero_le _) (Nat.zero_le _) (Nat.zero_le _)
    rw [Int.natCast_zero, List.drop_zero, List.nil_append, List.nil_append, Nat.sub_zero, ← List.range_eq_range'] at h
    rw [hsteps]
    exact h
  · rw [decide_eq_false c6]
    refine Ev.step (fun k => by rw [impl_ProductSpace.j1]) ?_
    refine Ev.neg (by decide) ?_
    have h := im_l0 (l := l0_0) (m := l1_0) (e := l0_1) (g := l1_1) hl hm he hg (by omega) (by omega) hok _ 0 [] [] rfl (Nat.zero_le _) (Nat.zero_le _) (Nat.zero_le _)
    rw [Int.natCast_zero, List.drop_zero, List.nil_append, List.nil_append, Nat.sub_zero, ← List.range_eq_range'] at h
    exact h
  · obtain ⟨a, ha, hs⟩ := List.mem_flatMap.1 hs
    obtain ⟨b, hb, rfl⟩ := List.mem_map.1 hs
    have := hok a ha b hb
    rw [List.length_append]
    omega
end Go.Proofs.Ytihfpngolcjkiaa.P
namespace Go.Proofs.Ytihfpngolcjkiaa.P
open Go.RowKit Go.Proofs.YtihfpngolcjkiaaW.PrintWords Go.Proofs.YtihfpngolcjkiaaW.PrintLast Go.Proofs.YtihfpngolcjkiaaW.PrintMore
set_option linter.unusedVariables false
set_option linter.unusedSimpArgs false

def seqI : Nat → Int → List Int
  | 0, _ => []
  | n + 1, k => k :: seqI n (wrap64 (k + 1))
def endI : Nat → Int → Int
  | 0, k => k
  | n + 1, k => endI n (wrap64 (k + 1))
theorem seqI_len (n : Nat) : ∀ k, (seqI n k).length = n := by
  induction n with
  | zero => intro k; rfl
  | succ n ih => intro k; simp [seqI, ih]
theorem endI_at (n : Nat) : ∀ k, 0 ≤ k → k + (n : Int) ≤ 4611686018427387904 → endI n k = k + (n : Int) := by
  induction n with
  | zero => intro k h1 h2; simp [endI]
  | succ n ih =>
    intro k h1 h2
    have e1 : wrap64 (k + 1) = k + 1 := wrap_nat (by omega) (by omega)
    rw [endI, e1, ih (k + 1) (by omega) (by omega)]
    omega
theorem heldInt_loop (d : Nat) : ∀ (done : List Int) (c : Int), done.length + d ≤ 1048576 →
    Ev (fun k => laws_heldIntS.l0 k (done ++ seqI d c) c (done.length : Int)) (endI d c) := by
  induction d with
  | zero =>
    intro done c h1
    refine Ev.step (fun k => by rw [laws_heldIntS.l0]) ?_
    refine Ev.neg (by simp [seqI]) ?_
    exact Ev.now _
  | succ d ih =>
    intro done c h1
    refine Ev.step (fun k => by rw [laws_heldIntS.l0]) ?_
    have hlen : (done ++ seqI (d + 1) c).length = done.length + (d + 1) := by rw [List.length_append, seqI_len]
    refine Ev.pos (by rw [hlen]; omega) (Ev.pos (by omega) ?_)
    have hr : rd (done ++ seqI (d + 1) c) (done.length : Int) = c := by
      rw [rd_at _ _ (by rw [hlen]; omega)]
      simp [seqI]
    refine Ev.pos hr ?_
    have hw : wrap64 ((done.length : Int) + 1) = ((done ++ [c]).length : Int) := by
      rw [List.length_append, List.length_singleton]
      exact wrap_up (n := done.length + 1) (by omega) (by omega)
    rw [hw]
    have := ih (done ++ [c]) (wrap64 (c + 1)) (by rw [List.length_append, List.length_singleton]; omega)
    simpa only [seqI, endI, List.append_assoc, List.singleton_append] using this
theorem heldInt_ev (n : Nat) (c : Int) (hn : n ≤ 1048576) : Ev (fun k => laws_heldIntS.f k (seqI n c) c) (endI n c) := by
  unfold laws_heldIntS.f
  have := heldInt_loop n [] c (by simpa using hn)
  simpa only [List.nil_append, List.length_nil, Int.ofNat_eq_natCast, Int.natCast_zero] using this
end Go.Proofs.Ytihfpngolcjkiaa.P
namespace Go.Proofs.Ytihfpngolcjkiaa.P
open Go.RowKit Go.Proofs.YtihfpngolcjkiaaW.PrintWords Go.Proofs.YtihfpngolcjkiaaW.PrintLast Go.Proofs.YtihfpngolcjkiaaW.PrintMore
set_option linter.unusedVariables false
set_option linter.unusedSimpArgs false

theorem seqS_eq (n : Nat) : ∀ k, seqS n k = seqI n k := by
  induction n with
  | zero => intro k; rfl
  | succ n ih => intro k; simp only [seqS, seqI, ih]
theorem endS_eq (n : Nat) : ∀ k, endS n k = endI n k := by
  induction n with
  | zero => intro k; rfl
  | succ n ih => intro k; simp only [endS, endI, ih]
theorem markSS_fst (l : List (List Int)) : ∀ (k : Int), (∀ s ∈ l, s.length ≤ 1048576) → 0 ≤ k → k + 1048576 * (l.length : Int) ≤ 2305843009213693952 → 0 ≤ (markSS l k).1 ∧ (markSS l k).1 ≤ k + 1048576 * (l.length : Int) := by
  induction l with
  | nil => intro k _ h0 h1; simp only [markSS, List.length_nil]; omega
  | cons s t ih =>
    intro k hs h0 h1
    have h2 := hs s (.head _)
    rw [List.length_cons] at h1 ⊢
    have e1 : endS s.length k = k + (s.length : Int) := by rw [endS_eq, endI_at s.length k h0 (by omega)]
    simp only [markSS, e1]
    have := ih (k + (s.length : Int)) (fun q hq => hs q (.tail _ hq)) (by omega) (by omega)
    omega
theorem markSpace_at (l : List (List Int)) (e : List S41) (k : Int) : laws_markSpace.f l e k = some ((mark2 e (markSS l k).1).1, (markSS l k).2, (mark2 e (markSS l k).1).2) := rfl
theorem markSpace_le (l : List (List Int)) (e : List S41) (h : modS l e) : 0 ≤ (mark2 e (markSS l 1).1).1 ∧ (mark2 e (markSS l 1).1).1 ≤ 1125899906842624 + 1125899906842624 := by
  have h1 := markSS_fst l 1 h.2.1 (by omega) (by have := h.1; omega)
  have h2 := h.1
  have h3 := h.2.2
  rw [mark2_fst e _ h1.1 (by omega)]
  omega
theorem markSpace_pos (l : List (List Int)) (e : List S41) (h : modS l e) : ¬ (mark2 e (markSS l 1).1).1 < 0 := by have := (markSpace_le l e h).1; omega
theorem markSS_pos (l : List (List Int)) (h0 : l.length ≤ 1048576) (h : ∀ s ∈ l, s.length ≤ 1048576) : ¬ (markSS l 1).1 < 0 := by
  have h1 := markSS_fst l 1 h (by omega) (by omega)
  omega
theorem markSpace_ex (l : List (List Int)) (e : List S41) (h : modS l e) : ∃ k a b, laws_markSpace.f l e 1 = some (k, a, b) ∧ ¬ k < 0 ∧ k ≤ 2251799813685248 := ⟨_, _, _, markSpace_at l e 1, markSpace_pos l e h, (markSpace_le l e h).2⟩
theorem markSpace_ex2 (l : List (List Int)) (e : List S41) (c : Int) (h : modS l e) (hc : 0 ≤ c ∧ c ≤ 2251799813685248) : ∃ k a b, laws_markSpace.f l e c = some (k, a, b) ∧ ¬ k < 0 := by
  refine ⟨_, _, _, markSpace_at l e c, ?_⟩
  have h1 := markSS_fst l c h.2.1 hc.1 (by have := h.1; omega)
  have h2 := h.1
  have h3 := h.2.2
  rw [mark2_fst e _ h1.1 (by omega)]
  omega
theorem heldSS_loop (done : List (List Int)) : ∀ (t : List (List Int)) (k : Int), (∀ s ∈ t, s.length ≤ 1048576) → 0 ≤ k → k + 1048576 * (t.length : Int) ≤ 2305843009213693952 → done.length + t.length ≤ 1048576 → Ev (fun n => laws_heldIntSS.l0 n (done ++ (markSS t k).2) k (done.length : Int)) (markSS t k).1 := by
  intro t
  induction t generalizing done with
  | nil =>
    intro k _ h0 h1 h2
    refine Ev.step (fun n => by rw [laws_heldIntSS.l0]) (Ev.neg (by simp [markSS]) ?_)
    exact Ev.now _
  | cons s t ih =>
    intro k hs h0 h1 h2
    have h3 := hs s (.head _)
    rw [List.length_cons] at h1 h2
    have e1 : endS s.length k = k + (s.length : Int) := by rw [endS_eq, endI_at s.length k h0 (by omega)]
    simp only [markSS, e1]
    have hlen : done.length < (done ++ seqS s.length k :: (markSS t (k + (s.length : Int))).2).length := by simp
    refine Ev.step (fun n => by rw [laws_heldIntSS.l0]) (Ev.pos (by omega) (Ev.pos (by omega) ?_))
    rw [rdL_at _ done.length hlen, List.getElem_append_right (Nat.le_refl _)]
    simp only [Nat.sub_self, List.getElem_cons_zero]
    have hh := heldInt_ev s.length k h3
    rw [← seqS_eq, ← endS_eq, e1] at hh
    refine Ev.bind hh (Ev.neg (by omega) ?_)
    have := ih (done ++ [seqS s.length k]) (k + (s.length : Int)) (fun q hq => hs q (.tail _ hq)) (by omega) (by omega) (by simp; omega)
    rw [List.append_assoc, List.singleton_append] at this
    have ew : wrap64 ((done.length : Int) + 1) = ((done ++ [seqS s.length k]).length : Int) := by
      rw [List.length_append, List.length_singleton]; unfold wrap64; omega
    rw [ew]
    exact this
theorem heldSS_ev (t : List (List Int)) (h : ∀ s ∈ t, s.length ≤ 1048576) (hl : t.length ≤ 1048576) : Ev (fun n => laws_heldIntSS.f n (markSS t 1).2 1) (markSS t 1).1 := by
  have := heldSS_loop [] t 1 h (by omega) (by omega) (by simpa using hl)
  simpa [laws_heldIntSS.f] using this
theorem heldSpace_ev (l : List (List Int)) (e : List S41) (h : modS l e) : Ev (fun n => laws_heldSpace.f n (markSS l 1).2 (mark2 e (markSS l 1).1).2 1) (mark2 e (markSS l 1).1).1 := by
  unfold laws_heldSpace.f
  refine Ev.bind (heldSS_ev l h.2.1 h.1) (Ev.neg (markSS_pos l h.1 h.2.1) ?_)
  refine Ev.bindo (show laws_heldIntA2S.f (mark2 e (markSS l 1).1).2 (markSS l 1).1 = some (mark2 e (markSS l 1).1).1 from ?_) (Ev.neg (markSpace_pos l e h) (Ev.now _))
  unfold laws_heldIntA2S.f
  rw [held_mark2]
theorem heldSpace_of (l : List (List Int)) (e : List S41) (h : modS l e) {k : Int} {a : List (List Int)} {b : List S41} (hk : laws_markSpace.f l e 1 = some (k, a, b)) : Ev (fun n => laws_heldSpace.f n a b 1) k := by
  rw [markSpace_at] at hk
  injection hk with hk
  injection hk with h1 h2
  injection h2 with h2 h3
  subst h1; subst h2; subst h3
  exact heldSpace_ev l e h
end Go.Proofs.Ytihfpngolcjkiaa.P
namespace Go.Proofs.Ytihfpngolcjkiaa.P
open Go.RowKit Go.Proofs.YtihfpngolcjkiaaW.PrintWords Go.Proofs.YtihfpngolcjkiaaW.PrintLast Go.Proofs.YtihfpngolcjkiaaW.PrintMore
set_option linter.unusedVariables false
set_option maxHeartbeats 1000000 in
theorem Law_FnExactProductSpace (A0_0 : Option Addr) (ca0_0 : Nat) (l0_0 : List (List Int)) (A0_1 : Option Addr) (ca0_1 : Nat) (l0_1 : List (S41)) (A1_0 : Option Addr) (ca1_0 : Nat) (l1_0 : List (List Int)) (A1_1 : Option Addr) (ca1_1 : Nat) (l1_1 : List (S41)) (w : World) (hr0_0 : Kd.C (Kd.slice 3 (Kd.int .i64)) w A0_0 l0_0.length l0_0) (hc0_0 : l0_0.length ≤ ca0_0) (hr0_1 : Kd.C k41 w A0_1 l0_1.length l0_1) (hc0_1 : l0_1.length ≤ ca0_1) (hr1_0 : Kd.C (Kd.slice 3 (Kd.int .i64)) w A1_0 l1_0.length l1_0) (hc1_0 : l1_0.length ≤ ca1_0) (hr1_1 : Kd.C k41 w A1_1 l1_1.length l1_1) (hc1_1 : l1_1.length ≤ ca1_1) (w0_0 : FitLL l0_0) (w0_1 : FitP l0_1) (w1_0 : FitLL l1_0) (w1_1 : FitP l1_1) :
    Calls Try.prog 3 #[.agg #[.slice A0_0 l0_0.length ca0_0, .slice A0_1 l0_1.length ca0_1], .agg #[.slice A1_0 l1_0.length ca1_0, .slice A1_1 l1_1.length ca1_1]] w fun e w' => e = .returned (.bool true) ∧ Below w.heap.size w w' := by
  obtain ⟨t0, e0, m0⟩ := sz_spaceC l0_0 l0_1 1048576 w0_0 w0_1.1 (by omega)
  obtain ⟨k0, h0⟩ := Ev.rounds e0
  by_cases c0 : t0 < 0
  · exact laws_FnExactProductSpace.exit0 A0_0 ca0_0 l0_0 A0_1 ca0_1 l0_1 A1_0 ca1_0 l1_0 A1_1 ca1_1 l1_1 k0 t0 w hr0_0 hc0_0 hr0_1 hc0_1 hr1_0 hc1_0 hr1_1 hc1_1 c0 h0
  have hm0 := (m0.resolve_left c0).1; have bb0 := (m0.resolve_left c0).2
  obtain ⟨t1, e1, m1⟩ := sz_spaceC l1_0 l1_1 t0 w1_0 w1_1.1 (by omega)
  obtain ⟨k1, h1⟩ := Ev.rounds e1
  by_cases c1 : t1 < 0
  · exact laws_FnExactProductSpace.exit1 A0_0 ca0_0 l0_0 A0_1 ca0_1 l0_1 A1_0 ca1_0 l1_0 A1_1 ca1_1 l1_1 k0 k1 t0 t1 w hr0_0 hc0_0 hr0_1 hc0_1 hr1_0 hc1_0 hr1_1 hc1_1 c0 c1 h0 h1
  have hm1 := (m1.resolve_left c1).1; have bb1 := (m1.resolve_left c1).2
  obtain ⟨q0, q1, q2, es, ei, hb1⟩ := Both_FnExactProductSpace l0_0 l0_1 l1_0 l1_1 w0_0 w0_1 w1_0 w1_1 hm0 hm1
  obtain ⟨k2, h2⟩ := Ev.rounds (toSpace_ev l0_0 l0_1 hm0)
  obtain ⟨k3, h3⟩ := Ev.rounds (toSpace_ev l1_0 l1_1 hm1)
  obtain ⟨k4, h4⟩ := Ev.rounds (es)
  obtain ⟨k5, h5⟩ := Ev.rounds (ei)
  obtain ⟨k6, h6⟩ := Ev.rounds (eqSpace_ev q0 q1 hb1)
  obtain ⟨k7, h7⟩ := Ev.rounds (eqSpace_ev l0_0 l0_1 hm0)
  obtain ⟨k8, h8⟩ := Ev.rounds (eqSpace_ev l1_0 l1_1 hm1)
  obtain ⟨kk0, mk0_0, mk0_1, h9, nkk0, pkk0⟩ := markSpace_ex l0_0 l0_1 hm0
  obtain ⟨kk1, mk1_0, mk1_1, h10, nkk1⟩ := markSpace_ex2 l1_0 l1_1 kk0 hm1 ⟨by omega, pkk0⟩
  obtain ⟨kk2, mk2_0, mk2_1, h11, nkk2, pkk2⟩ := markSpace_ex q0 q1 hb1
  obtain ⟨k12, h12⟩ := Ev.rounds (heldSpace_of q0 q1 hb1 h11)
  exact laws_FnExactProductSpace.walk A0_0 ca0_0 l0_0 A0_1 ca0_1 l0_1 A1_0 ca1_0 l1_0 A1_1 ca1_1 l1_1 k0 k1 k2 k3 k4 k5 k6 k7 k8 k12 t0 t1 q0 q1 q2 kk0 mk0_0 mk0_1 kk1 mk1_0 mk1_1 kk2 mk2_0 mk2_1 w hr0_0 hc0_0 hr0_1 hc0_1 hr1_0 hc1_0 hr1_1 hc1_1 c0 c1 h0 h1 h2 h3 h4 h5 h6 h7 h8 h9 h10 h11 h12 nkk1 nkk2
end Go.Proofs.Ytihfpngolcjkiaa.P
