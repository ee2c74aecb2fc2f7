-- Written by a program of this session (the kit's print, turned: wip/print/patch.py) out of the translation. Not trusted: Lean checks it.
import Derived.Test.YtnlmijnbfdhdkaaPartsOfG4
import Derived.Test.YtnlmijnbfdhdkaaPartsOfG10
import Derived.Handy
import Derived.Test.YtnlmijnbfdhdkaaPartsOfG7
import Derived.Test.YtnlmijnbfdhdkaaPartsOfG9
import Derived.Test.YtnlmijnbfdhdkaaPartsOfG12
import Derived.Test.YtnlmijnbfdhdkaaPartsOfG11
namespace Go.Proofs.Ytnlmijnbfdhdkaa.P
open Go.RowKit Go.Proofs.YtnlmijnbfdhdkaaW.PrintWords Go.Proofs.YtnlmijnbfdhdkaaW.PrintLast Go.Proofs.YtnlmijnbfdhdkaaW.PrintMore
attribute [local go_sem] max2_int min2_int max_two min_two max_three min_three max_four min_four   -- for this text's walks alone
set_option linter.unusedVariables false
set_option linter.unusedSimpArgs false

/-! ### impl_parts: function 101 -/
mutual
def impl_parts.j0 : Nat → List (List Int) → List (List Int) → List Bool → Option ((List (List Int)))
 | 0, _, _, _ => none
 | k + 1, x0, x5, x6 => impl_parts.l0 k x0 x5 x6 (x0.length : Int) 0
def impl_parts.l0 : Nat → List (List Int) → List (List Int) → List Bool → Int → Int → Option ((List (List Int)))
 | 0, _, _, _, _, _ => none
 | k + 1, x0, x5, x6, x22, x23 => if x23 < x22 then (if 0 ≤ x23 then (if x23 < (x6.length : Int) then (if rdOf false x6 x23 = true then (impl_parts.l0 k x0 x5 x6 x22 (wrap64 (x23 + 1))) else (impl_parts.l1 k x0 x5 (x6.set (x23 : Int).toNat true) (([x23] : List Int)) 0 x22 x23)) else (none)) else (none)) else (some x5)
def impl_parts.l1 : Nat → List (List Int) → List (List Int) → List Bool → List Int → Int → Int → Int → Option ((List (List Int)))
 | 0, _, _, _, _, _, _, _ => none
 | k + 1, x0, x5, x6, x8, x9, x22, x23 => if x9 < (x8.length : Int) then (if 0 ≤ x9 then (if 0 ≤ (rd x8 x9) then (if (rd x8 x9) < (x0.length : Int) then (impl_parts.l2 k x0 x5 x6 x8 x9 x22 x23 (rd_L4 x0 (rd x8 x9)) ((rd_L4 x0 (rd x8 x9)).length : Int) 0) else (none)) else (none)) else (none)) else ((slices_Sort_int_int.f x8).bind fun t1009 => (if x5.length < 5864062014805 then (impl_parts.l0 k x0 (x5 ++ [t1009]) x6 x22 (wrap64 (x23 + 1))) else (none)))
def impl_parts.l2 : Nat → List (List Int) → List (List Int) → List Bool → List Int → Int → Int → Int → List Int → Int → Int → Option ((List (List Int)))
 | 0, _, _, _, _, _, _, _, _, _, _ => none
 | k + 1, x0, x5, x6, x8, x9, x22, x23, x47, x48, x49 => if x49 < x48 then (if 0 ≤ x49 then (if x49 < (x47.length : Int) then (if 0 ≤ (rd x47 x49) then (if (rd x47 x49) < (x6.length : Int) then (if (rdOf false x6 (rd x47 x49) = true) then (impl_parts.l2 k x0 x5 x6 x8 x9 x22 x23 x47 x48 (wrap64 (x49 + 1))) else (if x8.length < 17592186044416 then (impl_parts.l2 k x0 x5 (x6.set ((rd x47 x49) : Int).toNat true) (x8 ++ [rd x47 x49]) x9 x22 x23 x47 x48 (wrap64 (x49 + 1))) else (none))) else (none)) else (none)) else (none)) else (none)) else (impl_parts.l1 k x0 x5 x6 x8 (wrap64 (x9 + 1)) x22 x23)
end
def impl_parts.f (k : Nat) (l0 : List (List Int)) (a1 : Int) : Option ((List (List Int))) := (some (([] : List (List Int)) : List (List Int))).bind fun y997 => (if 0 ≤ (l0.length : Int) then (if ((l0.length : Int) : Int).toNat ≤ 281474976710656 then ((some (List.replicate ((l0.length : Int) : Int).toNat false : List Bool)).bind fun y1000 => (if a1 ≥ 0 then (if 0 ≤ a1 then (if a1 < (y1000.length : Int) then (impl_parts.j0 k l0 y997 (y1000.set (a1 : Int).toNat true)) else (none)) else (none)) else (impl_parts.j0 k l0 y997 y1000))) else (none)) else (none))
set_option maxHeartbeats 8000000 in
set_option maxRecDepth 100000 in
theorem impl_parts.calls (k : Nat) (A0 : Option Addr) (c0 : Nat) (l0 : List (List Int)) (a1 : Int) (r : List (List Int)) (w : World) (hr0 : Kd.C (Kd.slice 3 (Kd.int .i64)) w A0 l0.length l0) (hc0 : l0.length ≤ c0) (h : impl_parts.f k l0 a1 = some r) :
 Calls Try.prog 101 #[.slice A0 l0.length c0, .int .i64 a1] w fun e w' => ∃ v0_ : Value, e = .returned (v0_) ∧ Kd.S (Kd.slice 3 (Kd.int .i64)) 25 w' w.heap.size (fun _ => True) v0_ r ∧ Below w.heap.size w w' := by
 have HR0 := Aside0.mk hr0
 have HC0 := Aside0.mk hc0
 clear hr0 hc0
 have HB := zM (Below.refl w.heap.size w)
 have H : ((some (([] : List (List Int)) : List (List Int))).bind fun y997 => (if 0 ≤ (l0.length : Int) then (if ((l0.length : Int) : Int).toNat ≤ 281474976710656 then ((some (List.replicate ((l0.length : Int) : Int).toNat false : List Bool)).bind fun y1000 => (if a1 ≥ 0 then (if 0 ≤ a1 then (if a1 < (y1000.length : Int) then (impl_parts.j0 k l0 y997 (y1000.set (a1 : Int).toNat true)) else (none)) else (none)) else (impl_parts.j0 k l0 y997 y1000))) else (none)) else (none))) = some r := h
 clear h
 obtain ⟨y997, hy997⟩ : ∃ y_ : List (List Int), y_ = (([] : List (List Int))) := ⟨_, rfl⟩
 replace H : (if 0 ≤ (l0.length : Int) then (if ((l0.length : Int) : Int).toNat ≤ 281474976710656 then ((some (List.replicate ((l0.length : Int) : Int).toNat false : List Bool)).bind fun y1000 => (if a1 ≥ 0 then (if 0 ≤ a1 then (if a1 < (y1000.length : Int) then (impl_parts.j0 k l0 y997 (y1000.set (a1 : Int).toNat true)) else (none)) else (none)) else (impl_parts.j0 k l0 y997 y1000))) else (none)) else (none)) = some r := by first | (rw [hy997]; with_reducible exact H) | (have H2_ := (Option.bind_some _ _).symm.trans H; rw [hy997]; with_reducible exact H2_) | (have H2_ := (Option.bind_some _ _).symm.trans H; with_reducible exact H2_) | with_reducible exact H | (rw [hy997]; exact H) | exact H
 have Ny997 := Aside0.mk hy997
 clear hy997
 by_cases c3 : 0 ≤ (l0.length : Int)
 · rw [if_pos c3] at H
   have c3b0 := eq_true c3
   have c3b1 : decide (0 ≤ (l0.length : Int)) = true := decide_eq_true c3
   clear c3
   by_cases c4 : ((l0.length : Int) : Int).toNat ≤ 281474976710656
   · rw [if_pos c4] at H
     have c4b0 := eq_true c4
     have c4b1 : decide (((l0.length : Int) : Int).toNat ≤ 281474976710656) = true := decide_eq_true c4
     clear c4
     obtain ⟨y1000, hy1000⟩ : ∃ y_ : List Bool, y_ = (List.replicate ((l0.length : Int) : Int).toNat false) := ⟨_, rfl⟩
     replace H : (if a1 ≥ 0 then (if 0 ≤ a1 then (if a1 < (y1000.length : Int) then (impl_parts.j0 k l0 y997 (y1000.set (a1 : Int).toNat true)) else (none)) else (none)) else (impl_parts.j0 k l0 y997 y1000)) = some r := by first | (rw [hy1000]; with_reducible exact H) | (have H2_ := (Option.bind_some _ _).symm.trans H; rw [hy1000]; with_reducible exact H2_) | (have H2_ := (Option.bind_some _ _).symm.trans H; with_reducible exact H2_) | with_reducible exact H | (rw [hy1000]; exact H) | exact H
     have Ny1000 := Aside0.mk hy1000
     clear hy1000
     have HC5 := Aside0.mk H
     clear H
     go_enter Try.func101, Try.ntmps101
     try go_wp2
     replace HB := zM (below_drew1 HB.out)
     refine zs (n := 6) (fun w' => True) trivial (fun hHeld => ?_)
     generalize w.drew = w6 at HB hHeld ⊢
     refine zq 1 13 ?_
     refine zq 2 14 ?_
     refine join_ (σ := Value × Value) 1 #[true, true, true, true, true, false] (fun s_ => [(12, s_.1), (15, s_.2), (5, s_.1)]) (fun s_ w' => (Kd.R Kd.bool 4 w' w.heap.size (fun _ => True) s_.2 y1000) ∧ (Kd.S (Kd.slice 3 (Kd.int .i64)) 25 w' w.heap.size (fun _ => True) s_.1 y997) ∧ (Below w.heap.size w w')) ?_ ?_
     rotate_left
     · intro hCont
       refine two_ (i := 0) (j := 3) (Ni := some 12) (Nj := some 15) #[true, true, true, false, false, false] #[false, true, true, true, false, false] rfl rfl rfl rfl (by kernel_rfl) (by decide) (by decide) (fun K hK => ?_) (fun K hK => ?_)
       · skip
         refine Kd.S_lit_step (Kd.slice 3 (Kd.int .i64)) _ 25 ?hg (N := 12) ?hd (xs := ([] : List (List Int))) (inner := []) (ok := fun _ => True) (okp := fun _ => True) ?hr ?hp (fun _ hk => hk) trivial (Below.refl _ _) (Nat.le_refl _) (by simp) ?_; (case hd => rfl); (case hg => rfl); (case hr => first | (go_simp; done) | (go_simp; rfl)); (case hp => exact (Reps.none _ _))
         intro v998 w7 ho8 hb hg_ hnew_
         clear hg_ hnew_
         (first | rw [← Ny997.out] at ho8 | (simp only [Int.reduceToNat] at ho8; rw [← Ny997.out] at ho8))
         have HO999 := zM (Kd.S_lower ho8 (below_size zB))
         replace HB := zM (below_step zB hb)
         clear hb ho8
         refine hK.out _ _ trivial (fun hHeld => ?_)
         clear hK K
         refine zn 12 ?_
         refine zq 4 5 ?_
         refine one_ (i := 3) (N := some 15) #[true, true, true, true, true, false] rfl rfl (by kernel_rfl) (by decide) (fun K hK => ?_)
         refine Kd.R_make_step Kd.bool _ 4 (by rfl) (N := 15) rfl 116 _ _ rfl (l0.length : Int) rfl rfl Try.underlying116 (.bool false) 1 info4 rfl (by decide) (by omega) false (ok := fun _ => True) (okp := fun _ => True) rfl (fun _ hk => hk) trivial (of_decide_eq_true zA) (Nat.le_trans (Nat.mul_le_mul_right _ (of_decide_eq_true zA : (l0.length : Int).toNat ≤ 281474976710656)) (by omega)) (Below.refl _ _) (Nat.le_refl _) ?_
         intro v1001 w9 ho10 hb hg_ hnew_
         clear hg_ hnew_
         (first | rw [← Ny1000.out] at ho10 | (simp only [Int.reduceToNat] at ho10; rw [← Ny1000.out] at ho10))
         replace HO999 := zM (Kd.S_below (by (with_reducible repeat (first | apply Kd.S_alloc | apply Kd.S_drewN | apply Kd.S_drew)); exact HO999.out) hb)
         have HO1002 := zM (Kd.R_lower ho10 (below_size zB))
         replace HB := zM (below_step zB hb)
         clear hb ho10
         refine hK.out _ _ trivial (fun hHeld => ?_)
         clear hK K
         refine zn 15 ?_
         exact norm_ (by simp only [putAll, Act.put, List.setIfInBounds_toArray, List.set_cons_zero, List.set_cons_succ]) (hCont (v998, v1001) _ ⟨(zR HO1002.out), (by (with_reducible repeat (first | apply Kd.S_alloc | apply Kd.S_drewN | apply Kd.S_drew)); exact HO999.out), zB⟩)
       · skip
         refine Kd.R_make_step Kd.bool _ 4 (by rfl) (N := 15) rfl 116 _ _ rfl (l0.length : Int) rfl rfl Try.underlying116 (.bool false) 1 info4 rfl (by decide) (by omega) false (ok := fun _ => True) (okp := fun _ => True) rfl (fun _ hk => hk) trivial (of_decide_eq_true zA) (Nat.le_trans (Nat.mul_le_mul_right _ (of_decide_eq_true zA : (l0.length : Int).toNat ≤ 281474976710656)) (by omega)) (Below.refl _ _) (Nat.le_refl _) ?_
         intro v1001 w7 ho8 hb hg_ hnew_
         clear hg_ hnew_
         (first | rw [← Ny1000.out] at ho8 | (simp only [Int.reduceToNat] at ho8; rw [← Ny1000.out] at ho8))
         have HO1002 := zM (Kd.R_lower ho8 (below_size zB))
         replace HB := zM (below_step zB hb)
         clear hb ho8
         refine hK.out _ _ trivial (fun hHeld => ?_)
         clear hK K
         refine zn 15 ?_
         refine one_ (i := 0) (N := some 12) #[true, true, true, true, false, false] rfl rfl (by kernel_rfl) (by decide) (fun K hK => ?_)
         refine Kd.S_lit_step (Kd.slice 3 (Kd.int .i64)) _ 25 ?hg (N := 12) ?hd (xs := ([] : List (List Int))) (inner := []) (ok := fun _ => True) (okp := fun _ => True) ?hr ?hp (fun _ hk => hk) trivial (Below.refl _ _) (Nat.le_refl _) (by simp) ?_; (case hd => rfl); (case hg => rfl); (case hr => first | (go_simp; done) | (go_simp; rfl)); (case hp => exact (Reps.none _ _))
         intro v998 w9 ho10 hb hg_ hnew_
         clear hg_ hnew_
         (first | rw [← Ny997.out] at ho10 | (simp only [Int.reduceToNat] at ho10; rw [← Ny997.out] at ho10))
         replace HO1002 := zM (Kd.R_below (zR HO1002.out) hb)
         have HO999 := zM (Kd.S_lower ho10 (below_size zB))
         replace HB := zM (below_step zB hb)
         clear hb ho10
         refine hK.out _ _ trivial (fun hHeld => ?_)
         clear hK K
         refine zn 12 ?_
         refine zq 4 5 ?_
         exact norm_ (by simp only [putAll, Act.put, List.setIfInBounds_toArray, List.set_cons_zero, List.set_cons_succ]) (hCont (v998, v1001) _ ⟨(zR HO1002.out), (by (with_reducible repeat (first | apply Kd.S_alloc | apply Kd.S_drewN | apply Kd.S_drew)); exact HO999.out), zB⟩)
     rintro ⟨v998, v1001⟩ w11 ⟨h0_, h1_, h2_⟩
     have n0_ : Aside0 (Kd.R Kd.bool 4 w11 w.heap.size (fun _ => True) v1001 y1000) := ⟨h0_⟩
     have n1_ : Aside0 (Kd.S (Kd.slice 3 (Kd.int .i64)) 25 w11 w.heap.size (fun _ => True) v998 y997) := ⟨h1_⟩
     have n2_ : Aside0 (Below w.heap.size w w11) := ⟨h2_⟩
     clear HB
     clear h0_ h1_ h2_
     have HO1002 := n0_
     have HO999 := n1_
     have HB := n2_
     clear n0_ n1_ n2_
     have hHeld := trivial
     refine norm_ (a' := ?_) ?_ ?_
     rotate_left
     · simp only [putAll, Act.put, List.setIfInBounds_toArray, List.set_cons_zero, List.set_cons_succ]
       rfl
     refine zq 5 6 ?_
     refine zx ?_
     go_upto_if 17 with (fail)
     go_cut [] (fun wc => ∃ (kq : Nat) (x6_4 : List Bool), Aside0 (impl_parts.j0 kq l0 y997 x6_4 = some r) ∧ Aside0 (kq ≤ k) ∧ Aside0 (Kd.S (Kd.slice 3 (Kd.int .i64)) 25 wc w.heap.size (fun _ => True) v998 y997) ∧ Aside0 (Kd.R Kd.bool 4 wc w.heap.size (fun _ => True) v1001 x6_4) ∧ Aside0 (Below w.heap.size w wc))
     case first =>
      have H := HC5.out
      clear HC5
      by_cases c12 : a1 ≥ 0
      · rw [if_pos c12] at H
        have c12b0 : decide (0 ≤ a1) = true := decide_eq_true c12
        clear c12
        (first | rw [c12b0] | (simp only [i64_w, i32_w]; rw [c12b0]) | skip)
        by_cases c13 : 0 ≤ a1
        · rw [if_pos c13] at H
          have c13b0 := decide_eq_true c13
          clear c13
          by_cases c14 : a1 < (y1000.length : Int)
          · rw [if_pos c14] at H
            have c14b0 := decide_eq_true c14
            clear c14
            obtain ⟨y1003, hy1003⟩ : ∃ y_ : List Bool, y_ = (y1000.set (a1 : Int).toNat true) := ⟨_, rfl⟩
            replace H : (impl_parts.j0 k l0 y997 y1003) = some r := by first | (rw [hy1003]; with_reducible exact H) | (have H2_ := (Option.bind_some _ _).symm.trans H; rw [hy1003]; with_reducible exact H2_) | (have H2_ := (Option.bind_some _ _).symm.trans H; with_reducible exact H2_) | with_reducible exact H | (rw [hy1003]; exact H) | exact H
            have Ny1003 := Aside0.mk hy1003
            clear hy1003
            have H' := Aside0.mk H
            clear H
            have p15 : 0 ≤ (a1 : Int) := of_decide_eq_true zA
            have q15 : (a1 : Int) < ((y1000.length : Int) : Int) := of_decide_eq_true zA
            obtain ⟨go15, co15, eo15, gb15, gl15, cl15, HG15⟩ := Kd.R_form HO1002.out (by omega)
            (first | cases eo15 | (injection eo15 with ea_ en_ ec_; (first | subst ea_ | (injection ea_ with ea_; subst ea_)); subst ec_; clear en_))
            have GB15 := Aside0.mk gb15
            have GG15 := Aside0.mk HG15
            clear gb15 gl15 HG15
            obtain ⟨hx15_0, hf15_0⟩ := Kd.R_celln false HO1002.out (a1 : Int) p15 q15
            replace p15 := eq_true p15
            replace q15 := eq_true q15
            have HP16 := Kd.R_putg HO1002.out (a1 : Int) true
            go_wp2_with (first | ((with_reducible refine gate_store (t := 4) (p := 20) rfl ?_); refine store_event (t := 4) (p := 20) (v := ?vo_w17) (w1 := (w11.setCell ⟨go15, (a1 : Int).toNat, none⟩ (.bool true))) ?hg ?ho ?hn ?hr ?_; (case ho => rfl); (case hg => rfl); (case hn => rfl); (case hr => first | (go_simp; done) | (go_simp; rfl)); intro w17 hw; have hg : w11.grownBy w17 (some go15) := (by rw [hw]; exact HP16.2); have hp_ : Kd.R Kd.bool 4 w17 w.heap.size (fun _ => True) (.slice (some ⟨go15, 0, none⟩) y1000.length co15) y1003 := (by rw [hw, Ny1003.out]; exact HP16.1); clear HP16; replace HO999 := zM (Kd.S_over' (v := (.slice (some ⟨go15, 0, none⟩) y1000.length co15)) (by (with_reducible repeat (first | apply Kd.S_alloc | apply Kd.S_drewN | apply Kd.S_drew)); exact HO999.out) (Kd.R_typed HO1002.out) (by decide) hg); replace HO1002 := zM (hp_); replace HB := zM ((by rw [hw]; exact below_set (HB.out) GB15.out : Below w.heap.size w w17)); clear hg hw hp_))
            go_meet
            case rel => exact ⟨_, (y1003), H', ⟨by first | omega | exact Nat.le_refl _⟩, ⟨by (with_reducible repeat (first | apply Kd.S_alloc | apply Kd.S_drewN | apply Kd.S_drew)); exact HO999.out⟩, ⟨zR HO1002.out⟩, ⟨zB⟩⟩
          · rw [if_neg c14] at H
            exact absurd H (by simp)
        · rw [if_neg c13] at H
          exact absurd H (by simp)
      · rw [if_neg c12] at H
        have c12b0 : decide (0 ≤ a1) = false := decide_eq_false c12
        clear c12
        (first | rw [c12b0] | (simp only [i64_w, i32_w]; rw [c12b0]) | skip)
        have H' := Aside0.mk H
        clear H
        go_wp2
        go_meet
        case rel => exact ⟨_, (y1000), H', ⟨by first | omega | exact Nat.le_refl _⟩, ⟨by (with_reducible repeat (first | apply Kd.S_alloc | apply Kd.S_drewN | apply Kd.S_drew)); exact HO999.out⟩, ⟨zR HO1002.out⟩, ⟨zB⟩⟩
     case rest =>
      clear HC5
      try clear c1
      try clear p1
      try clear q1
      try clear hx1
      try clear p2
      try clear c3
      try clear c3b0
      try clear c3b1
      try clear c4
      try clear c4b0
      try clear c4b1
      try clear c10
      try clear c12
      try clear c12b0
      try clear c13
      try clear c13b0
      try clear c14
      try clear c14b0
      try clear p15
      try clear q15
      try clear hx15
      try clear hf15
      try clear hx15_0
      try clear p15
      try clear q15
      obtain ⟨kq, x6_4, HA, HJ4, HO_5, HO_6, HB⟩ := hcut
      cases kq with
      | zero => exact absurd HA.out (by simp [impl_parts.j0])
      | succ kj4 =>
       have H := HA.out
       clear HA
       simp only [impl_parts.j0] at H
       have H' := Aside0.mk H
       clear H
       go_wp2
       go_loopg [5, 23] kj4 (fun kq v5 v23 w' => ∃ (x5_2 : List (List Int)) (x6_2 : List Bool) (x23_2 : Int), v23 = .int .i64 x23_2 ∧ Aside0 (impl_parts.l0 kq l0 x5_2 x6_2 (l0.length : Int) x23_2 = some r) ∧ Aside0 (kq ≤ kj4) ∧ Aside0 (Kd.S (Kd.slice 3 (Kd.int .i64)) 25 w' w.heap.size (fun _ => True) v5 x5_2) ∧ Aside0 (Kd.R Kd.bool 4 w' w.heap.size (fun _ => True) v1001 x6_2) ∧ Aside0 (Below w.heap.size w w'))
       case atStart => exact ⟨(y997), (x6_4), (0), (by first | rfl | (simp; done) | (simp [*]; done)), H', ⟨Nat.le_refl _⟩, ⟨by (with_reducible repeat (first | apply Kd.S_alloc | apply Kd.S_drewN | apply Kd.S_drew)); exact HO_5.out⟩, ⟨zR HO_6.out⟩, ⟨zB⟩⟩
       case round =>
        clear H'
        try clear c1
        try clear p1
        try clear q1
        try clear hx1
        try clear p2
        try clear c3
        try clear c3b0
        try clear c3b1
        try clear c4
        try clear c4b0
        try clear c4b1
        try clear c10
        try clear c12
        try clear c12b0
        try clear c13
        try clear c13b0
        try clear c14
        try clear c14b0
        try clear p15
        try clear q15
        try clear hx15
        try clear hf15
        try clear hx15_0
        try clear p1
        try clear p15
        try clear p2
        try clear q1
        try clear q15
        obtain ⟨x5_2, x6_2, x23_2, rfl, HA, HK2, HO_5, HO_6, HB⟩ := hrel
        cases gk with
        | zero => exact absurd HA.out (by simp [impl_parts.l0])
        | succ k2 =>
         have H := HA.out
         clear HA
         simp only [impl_parts.l0] at H
         by_cases c18 : x23_2 < (l0.length : Int)
         · rw [if_pos c18] at H
           have c18b0 := decide_eq_true c18
           clear c18
           by_cases c19 : 0 ≤ x23_2
           · rw [if_pos c19] at H
             have c19b0 := decide_eq_true c19
             clear c19
             by_cases c20 : x23_2 < (x6_2.length : Int)
             · rw [if_pos c20] at H
               have c20b0 := decide_eq_true c20
               clear c20
               obtain ⟨bq21, hbq21⟩ : ∃ b_ : Bool, b_ = (rdOf false x6_2 x23_2) := ⟨_, rfl⟩
               replace H : (if bq21 = true then (impl_parts.l0 k2 l0 x5_2 x6_2 (l0.length : Int) (wrap64 (x23_2 + 1))) else (impl_parts.l1 k2 l0 x5_2 (x6_2.set (x23_2 : Int).toNat true) (([x23_2] : List Int)) 0 (l0.length : Int) x23_2)) = some r := by rw [← hbq21] at H; exact H
               have Nbq21 := Aside0.mk hbq21
               clear hbq21
               by_cases c22 : bq21 = true
               · subst c22
                 rw [if_pos rfl] at H
                 have H' := Aside0.mk H
                 clear H
                 obtain ⟨Ao23, co23, eo23⟩ := Kd.R_slice HO_6.out
                 subst eo23
                 have p1004 : 0 ≤ (x23_2 : Int) := of_decide_eq_true zA
                 have q1004 : x23_2 < (x6_2.length : Int) := of_decide_eq_true zA
                 obtain ⟨ad1004, e1004, hx1004_0⟩ := Kd.at_bool (Kd.R_reads' HO_6.out).2.2 x23_2 p1004 q1004
                 (try rw [← Nbq21.out] at hx1004_0)
                 cases e1004
                 replace p1004 := eq_true p1004
                 replace q1004 := eq_true q1004
                 go_wp2
                 go_roundg k2
                 case measure => have := HJ4.out; have := HK2.out; omega
                 case rel => exact ⟨(x5_2), (x6_2), (wrap64 (x23_2 + 1)), (by first | rfl | (simp; done) | (simp [*]; done)), H', ⟨by have := HJ4.out; have := HK2.out; omega⟩, ⟨by (with_reducible repeat (first | apply Kd.S_alloc | apply Kd.S_drewN | apply Kd.S_drew)); exact HO_5.out⟩, ⟨zR HO_6.out⟩, ⟨zB⟩⟩
               · replace c22 := Bool.eq_false_iff.mpr c22
                 subst c22
                 have H1 : (impl_parts.l1 k2 l0 x5_2 (x6_2.set (x23_2 : Int).toNat true) (([x23_2] : List Int)) 0 (l0.length : Int) x23_2) = some r := by rw [if_neg (show ¬ (false = true) by decide)] at H; exact H
                 clear H
                 have H := H1
                 clear H1
                 obtain ⟨y1005, hy1005⟩ : ∃ y_ : List Bool, y_ = (x6_2.set (x23_2 : Int).toNat true) := ⟨_, rfl⟩
                 replace H : (impl_parts.l1 k2 l0 x5_2 y1005 (([x23_2] : List Int)) 0 (l0.length : Int) x23_2) = some r := by first | (rw [hy1005]; with_reducible exact H) | (have H2_ := (Option.bind_some _ _).symm.trans H; rw [hy1005]; with_reducible exact H2_) | (have H2_ := (Option.bind_some _ _).symm.trans H; with_reducible exact H2_) | with_reducible exact H | (rw [hy1005]; exact H) | exact H
                 have Ny1005 := Aside0.mk hy1005
                 clear hy1005
                 obtain ⟨y1006, hy1006⟩ : ∃ y_ : List Int, y_ = (([x23_2] : List Int)) := ⟨_, rfl⟩
                 replace H : (impl_parts.l1 k2 l0 x5_2 y1005 y1006 0 (l0.length : Int) x23_2) = some r := by first | (rw [hy1006]; with_reducible exact H) | (have H2_ := (Option.bind_some _ _).symm.trans H; rw [hy1006]; with_reducible exact H2_) | (have H2_ := (Option.bind_some _ _).symm.trans H; with_reducible exact H2_) | with_reducible exact H | (rw [hy1006]; exact H) | exact H
                 have Ny1006 := Aside0.mk hy1006
                 clear hy1006
                 have H' := Aside0.mk H
                 clear H
                 obtain ⟨Ao25, co25, eo25⟩ := Kd.R_slice HO_6.out
                 subst eo25
                 have p1004 : 0 ≤ (x23_2 : Int) := of_decide_eq_true zA
                 have q1004 : x23_2 < (x6_2.length : Int) := of_decide_eq_true zA
                 obtain ⟨ad1004, e1004, hx1004_0⟩ := Kd.at_bool (Kd.R_reads' HO_6.out).2.2 x23_2 p1004 q1004
                 (try rw [← Nbq21.out] at hx1004_0)
                 cases e1004
                 replace p1004 := eq_true p1004
                 replace q1004 := eq_true q1004
                 have p24 : 0 ≤ (x23_2 : Int) := of_decide_eq_true zA
                 have q24 : (x23_2 : Int) < ((x6_2.length : Int) : Int) := of_decide_eq_true zA
                 obtain ⟨go24, co24, eo24, gb24, gl24, cl24, HG24⟩ := Kd.R_form HO_6.out (by omega)
                 (first | cases eo24 | (injection eo24 with ea_ en_ ec_; (first | subst ea_ | (injection ea_ with ea_; subst ea_)); subst ec_; clear en_))
                 have GB24 := Aside0.mk gb24
                 have GG24 := Aside0.mk HG24
                 clear gb24 gl24 HG24
                 (first | simp only [add_plain] at hx1004_0 | skip)
                 obtain ⟨hx24_0, hf24_0⟩ := Kd.R_celln false HO_6.out (x23_2 : Int) p24 q24
                 replace p24 := eq_true p24
                 replace q24 := eq_true q24
                 have HP26 := Kd.R_putg HO_6.out (x23_2 : Int) true
                 go_wp2_with (first | ((with_reducible refine gate_store (t := 4) (p := 32) rfl ?_); refine store_event (t := 4) (p := 32) (v := ?vo_w27) (w1 := (wr.setCell ⟨go24, (x23_2 : Int).toNat, none⟩ (.bool true))) ?hg ?ho ?hn ?hr ?_; (case ho => rfl); (case hg => rfl); (case hn => rfl); (case hr => first | (go_simp; done) | (go_simp; rfl)); intro w27 hw; have hg : wr.grownBy w27 (some go24) := (by rw [hw]; exact HP26.2); have hp_ : Kd.R Kd.bool 4 w27 w.heap.size (fun _ => True) (.slice (some ⟨go24, 0, none⟩) x6_2.length co25) y1005 := (by rw [hw, Ny1005.out]; exact HP26.1); clear HP26; replace HO_5 := zM (Kd.S_over' (v := (.slice (some ⟨go24, 0, none⟩) x6_2.length co25)) (by (with_reducible repeat (first | apply Kd.S_alloc | apply Kd.S_drewN | apply Kd.S_drew)); exact HO_5.out) (Kd.R_typed HO_6.out) (by decide) hg); replace HO_6 := zM (hp_); replace HB := zM ((by rw [hw]; exact below_set (HB.out) GB24.out : Below w.heap.size w w27)); clear hg hw hp_) | ((with_reducible refine gate_dst (N := 34) rfl ?_); refine Kd.R_lit (Kd.int .i64) _ 3 ?hg (N := 34) ?hd (xs := ([x23_2] : List Int)) (inner := [.int .i64 x23_2]) (ok := fun _ => True) (okp := fun _ => True) ?hr ?hp (fun _ hk => hk) trivial (Below.refl _ _) (Nat.le_refl _) (by simp) ?_; (case hd => rfl); (case hg => rfl); (case hr => first | (go_simp; done) | (go_simp; rfl)); (case hp => exact (Reps.one (show Kd.M (Kd.int .i64) _ _ _ x23_2 [.int .i64 x23_2] from rfl) (Reps.none _ _))); intro v1007 w28 ho29 hb hg_ hnew_; clear hg_ hnew_; (first | rw [← Ny1006.out] at ho29 | (simp only [Int.reduceToNat] at ho29; rw [← Ny1006.out] at ho29)); replace HO_5 := zM (Kd.S_elder' (by (with_reducible repeat (first | apply Kd.S_alloc | apply Kd.S_drewN | apply Kd.S_drew)); exact HO_5.out) (Kd.R_base ho29) hb); replace HO_6 := zM (Kd.R_below (zR HO_6.out) hb); have HO1008 := zM (Kd.R_lower ho29 (below_size zB)); replace HB := zM (below_step zB hb); clear hb ho29))
                 go_loopg [8, 9] k2 (fun kq v8 v9 w' => ∃ (x6_3 : List Bool) (x8_3 : List Int) (x9_3 : Int), v9 = .int .i64 x9_3 ∧ Aside0 (impl_parts.l1 kq l0 x5_2 x6_3 x8_3 x9_3 (l0.length : Int) x23_2 = some r) ∧ Aside0 (kq ≤ k2) ∧ Aside0 (Kd.S (Kd.slice 3 (Kd.int .i64)) 25 w' w.heap.size (fun k_ => some k_ ≠ (v8 : Value).ownBlock) u5 x5_2) ∧ Aside0 (Kd.R Kd.bool 4 w' w.heap.size (fun _ => True) (.slice (some ⟨go24, 0, none⟩) x6_2.length co25) x6_3) ∧ Aside0 (Kd.R (Kd.int .i64) 3 w' w.heap.size (fun _ => True) v8 x8_3) ∧ Aside0 (Below w.heap.size w w'))
                 case atStart => exact ⟨(y1005), (y1006), (0), (by first | rfl | (simp; done) | (simp [*]; done)), H', ⟨Nat.le_refl _⟩, ⟨by (with_reducible repeat (first | apply Kd.S_alloc | apply Kd.S_drewN | apply Kd.S_drew)); exact Kd.S_mono HO_5.out (fun _ hk => hk.2)⟩, ⟨zR HO_6.out⟩, ⟨zR HO1008.out⟩, ⟨zB⟩⟩
                 case round =>
                  clear H'
                  try clear c1
                  try clear p1
                  try clear q1
                  try clear hx1
                  try clear c2
                  try clear p2
                  try clear q2
                  try clear hx2
                  try clear hf2
                  try clear c3
                  try clear c3b0
                  try clear c3b1
                  try clear c4
                  try clear c4b0
                  try clear c4b1
                  try clear p6
                  try clear c10
                  try clear p10
                  try clear q10
                  try clear hx10
                  try clear c12
                  try clear c12b0
                  try clear c13
                  try clear c13b0
                  try clear c14
                  try clear c14b0
                  try clear p15
                  try clear q15
                  try clear hx15
                  try clear hf15
                  try clear c18
                  try clear c18b0
                  try clear c19
                  try clear c19b0
                  try clear c20
                  try clear c20b0
                  try clear q21
                  try clear c22
                  try clear p24
                  try clear q24
                  try clear hx24
                  try clear hf24
                  try clear hx1004_0
                  try clear hx15_0
                  try clear hx24_0
                  try clear p1
                  try clear p1004
                  try clear p15
                  try clear p2
                  try clear p24
                  try clear q1
                  try clear q1004
                  try clear q15
                  try clear q24
                  obtain ⟨x6_3, x8_3, x9_3, rfl, HA, HK3, HO_5, HO_6, HO_8, HB⟩ := hrel
                  have hl6_3 := (Kd.R_reads' HO_6.out).1
                  rw [hl6_3] at HO_6
                  (try simp only [hl6_3])
                  (try simp only [hl6_3] at HO_5)
                  (try simp only [hl6_3] at HO_8)
                  cases gk with
                  | zero => exact absurd HA.out (by simp [impl_parts.l1])
                  | succ k3 =>
                   have H := HA.out
                   clear HA
                   simp only [impl_parts.l1] at H
                   by_cases c30 : x9_3 < (x8_3.length : Int)
                   · rw [if_pos c30] at H
                     have c30b0 := decide_eq_true c30
                     clear c30
                     by_cases c31 : 0 ≤ x9_3
                     · rw [if_pos c31] at H
                       have c31b0 := decide_eq_true c31
                       clear c31
                       by_cases c32 : 0 ≤ (rd x8_3 x9_3)
                       · rw [if_pos c32] at H
                         have c32b0 := decide_eq_true c32
                         clear c32
                         by_cases c33 : (rd x8_3 x9_3) < (l0.length : Int)
                         · rw [if_pos c33] at H
                           have c33b0 := decide_eq_true c33
                           clear c33
                           have H' := Aside0.mk H
                           clear H
                           obtain ⟨Ao34, co34, eo34⟩ := Kd.R_slice HO_8.out
                           subst eo34
                           have p1013 : 0 ≤ (x9_3 : Int) := of_decide_eq_true zA
                           have q1013 : x9_3 < (x8_3.length : Int) := of_decide_eq_true zA
                           obtain ⟨ad1013, e1013, hx1013_0⟩ := Kd.at_int (Kd.R_reads' HO_8.out).2.2 x9_3 p1013 q1013
                           cases e1013
                           replace p1013 := eq_true p1013
                           replace q1013 := eq_true q1013
                           have p1014 : 0 ≤ ((rd x8_3 x9_3) : Int) := of_decide_eq_true zA
                           have q1014 : (rd x8_3 x9_3) < (l0.length : Int) := of_decide_eq_true zA
                           obtain ⟨ad1014, A1014_0, c1014_0, e1014, hx1014_0, hl1014_0, hi1014_0⟩ := at_L4 HR0.out (rd x8_3 x9_3) p1014 q1014
                           cases e1014
                           (try replace hx1014_0 := (HB.out.cell (World.block_lt_of_cell? w _ hx1014_0)).trans hx1014_0)
                           have HR1014_0 := Aside0.mk hi1014_0
                           have HC1014_0 := Aside0.mk hl1014_0
                           clear hi1014_0 hl1014_0
                           replace p1014 := eq_true p1014
                           replace q1014 := eq_true q1014
                           go_wp2
                           go_loopg [8, 49] k3 (fun kq v8 v49 w' => ∃ (x6_4 : List Bool) (x8_4 : List Int) (x49_4 : Int), v49 = .int .i64 x49_4 ∧ Aside0 (impl_parts.l2 kq l0 x5_2 x6_4 x8_4 x9_3 (l0.length : Int) x23_2 (rd_L4 l0 (rd x8_3 x9_3)) ((rd_L4 l0 (rd x8_3 x9_3)).length : Int) x49_4 = some r) ∧ Aside0 (kq ≤ k3) ∧ Aside0 (Kd.S (Kd.slice 3 (Kd.int .i64)) 25 w' w.heap.size (fun k_ => some k_ ≠ (v8 : Value).ownBlock) u5 x5_2) ∧ Aside0 (Kd.R Kd.bool 4 w' w.heap.size (fun _ => True) (.slice (some ⟨go24, 0, none⟩) x6_3.length co25) x6_4) ∧ Aside0 (Kd.R (Kd.int .i64) 3 w' w.heap.size (fun _ => True) v8 x8_4) ∧ Aside0 (Below w.heap.size w w'))
                           case atStart => exact ⟨(x6_3), (x8_3), (0), (by first | rfl | (simp; done) | (simp [*]; done)), H', ⟨Nat.le_refl _⟩, ⟨by (try simp only [hl6_3]); (with_reducible repeat (first | apply Kd.S_alloc | apply Kd.S_drewN | apply Kd.S_drew)); exact HO_5.out⟩, ⟨by (try simp only [hl6_3]); (with_reducible repeat (first | apply Kd.R_alloc | apply Kd.R_drewN | apply Kd.R_drew)); exact HO_6.out⟩, ⟨by (try simp only [hl6_3]); (with_reducible repeat (first | apply Kd.R_alloc | apply Kd.R_drewN | apply Kd.R_drew)); exact HO_8.out⟩, ⟨zB⟩⟩
                           case round =>
                            clear H'
                            try clear c1
                            try clear p1
                            try clear q1
                            try clear hx1
                            try clear c2
                            try clear p2
                            try clear q2
                            try clear hx2
                            try clear hf2
                            try clear c3
                            try clear c3b0
                            try clear c3b1
                            try clear c4
                            try clear c4b0
                            try clear c4b1
                            try clear p6
                            try clear c10
                            try clear p10
                            try clear q10
                            try clear hx10
                            try clear c12
                            try clear c12b0
                            try clear c13
                            try clear c13b0
                            try clear c14
                            try clear c14b0
                            try clear p15
                            try clear q15
                            try clear hx15
                            try clear hf15
                            try clear c18
                            try clear c18b0
                            try clear c19
                            try clear c19b0
                            try clear c20
                            try clear c20b0
                            try clear q21
                            try clear c22
                            try clear p24
                            try clear q24
                            try clear hx24
                            try clear hf24
                            try clear c30
                            try clear c30b0
                            try clear c31
                            try clear c31b0
                            try clear c32
                            try clear c32b0
                            try clear c33
                            try clear c33b0
                            try clear hx1004_0
                            try clear hx1013_0
                            try clear hx1014_0
                            try clear hx15_0
                            try clear hx24_0
                            try clear p1
                            try clear p10
                            try clear p1004
                            try clear p1013
                            try clear p1014
                            try clear p15
                            try clear p2
                            try clear p24
                            try clear p6
                            try clear q1
                            try clear q10
                            try clear q1004
                            try clear q1013
                            try clear q1014
                            try clear q15
                            try clear q2
                            try clear q21
                            try clear q24
                            obtain ⟨x6_4, x8_4, x49_4, rfl, HA, HK4, HO_5, HO_6, HO_8, HB⟩ := hrel
                            have hl6_4 := (Kd.R_reads' HO_6.out).1
                            rw [hl6_4] at HO_6
                            (try simp only [hl6_4])
                            (try simp only [hl6_4] at HO_5)
                            (try simp only [hl6_4] at HO_8)
                            cases gk with
                            | zero => exact absurd HA.out (by simp [impl_parts.l2])
                            | succ k4 =>
                             have H := HA.out
                             clear HA
                             simp only [impl_parts.l2] at H
                             by_cases c35 : x49_4 < ((rd_L4 l0 (rd x8_3 x9_3)).length : Int)
                             · rw [if_pos c35] at H
                               have c35b0 := decide_eq_true c35
                               clear c35
                               by_cases c36 : 0 ≤ x49_4
                               · rw [if_pos c36] at H
                                 have c36b0 := decide_eq_true c36
                                 clear c36
                                 by_cases c37 : x49_4 < ((rd_L4 l0 (rd x8_3 x9_3)).length : Int)
                                 · rw [if_pos c37] at H
                                   have c37b0 := decide_eq_true c37
                                   clear c37
                                   by_cases c38 : 0 ≤ (rd (rd_L4 l0 (rd x8_3 x9_3)) x49_4)
                                   · rw [if_pos c38] at H
                                     have c38b0 := decide_eq_true c38
                                     clear c38
                                     by_cases c39 : (rd (rd_L4 l0 (rd x8_3 x9_3)) x49_4) < (x6_4.length : Int)
                                     · rw [if_pos c39] at H
                                       have c39b0 := decide_eq_true c39
                                       clear c39
                                       obtain ⟨bq40, hbq40⟩ : ∃ b_ : Bool, b_ = (rdOf false x6_4 (rd (rd_L4 l0 (rd x8_3 x9_3)) x49_4)) := ⟨_, rfl⟩
                                       replace H : (if (bq40 = true) then (impl_parts.l2 k4 l0 x5_2 x6_4 x8_4 x9_3 (l0.length : Int) x23_2 (rd_L4 l0 (rd x8_3 x9_3)) ((rd_L4 l0 (rd x8_3 x9_3)).length : Int) (wrap64 (x49_4 + 1))) else (if x8_4.length < 17592186044416 then (impl_parts.l2 k4 l0 x5_2 (x6_4.set ((rd (rd_L4 l0 (rd x8_3 x9_3)) x49_4) : Int).toNat true) (x8_4 ++ [rd (rd_L4 l0 (rd x8_3 x9_3)) x49_4]) x9_3 (l0.length : Int) x23_2 (rd_L4 l0 (rd x8_3 x9_3)) ((rd_L4 l0 (rd x8_3 x9_3)).length : Int) (wrap64 (x49_4 + 1))) else (none))) = some r := by rw [← hbq40] at H; exact H
                                       have Nbq40 := Aside0.mk hbq40
                                       clear hbq40
                                       by_cases c41 : (bq40 = true)
                                       · subst c41
                                         rw [if_pos rfl] at H
                                         have H' := Aside0.mk H
                                         clear H
                                         have p1015 : 0 ≤ (x49_4 : Int) := of_decide_eq_true zA
                                         have q1015 : x49_4 < ((rd_L4 l0 (rd x8_3 x9_3)).length : Int) := of_decide_eq_true zA
                                         obtain ⟨ad1015, e1015, hx1015_0⟩ := Kd.at_int HR1014_0.out x49_4 p1015 q1015
                                         cases e1015
                                         (try replace hx1015_0 := (HB.out.cell (World.block_lt_of_cell? w _ hx1015_0)).trans hx1015_0)
                                         replace p1015 := eq_true p1015
                                         replace q1015 := eq_true q1015
                                         have p1016 : 0 ≤ ((rd (rd_L4 l0 (rd x8_3 x9_3)) x49_4) : Int) := of_decide_eq_true zA
                                         have q1016 : (rd (rd_L4 l0 (rd x8_3 x9_3)) x49_4) < (x6_4.length : Int) := of_decide_eq_true zA
                                         obtain ⟨ad1016, e1016, hx1016_0⟩ := Kd.at_bool (Kd.R_reads' HO_6.out).2.2 (rd (rd_L4 l0 (rd x8_3 x9_3)) x49_4) p1016 q1016
                                         (try rw [← Nbq21.out] at hx1016_0)
                                         (try rw [← Nbq40.out] at hx1016_0)
                                         obtain rfl : (⟨go24, 0, none⟩ : Addr) = ad1016 := (by injection e1016)
                                         (first | simp only [add_plain] at hx1016_0 | simp only [add_at] at hx1016_0 | simp only [Addr.add, Nat.zero_add] at hx1016_0 | skip)
                                         replace p1016 := eq_true p1016
                                         replace q1016 := eq_true q1016
                                         go_wp2
                                         (try simp only [← hl6_4])
                                         go_roundg k4
                                         case measure => have := HJ4.out; have := HK2.out; have := HK3.out; have := HK4.out; omega
                                         case rel => exact ⟨(x6_4), (x8_4), (wrap64 (x49_4 + 1)), (by first | rfl | (simp; done) | (simp [*]; done)), H', ⟨by have := HJ4.out; have := HK2.out; have := HK3.out; have := HK4.out; omega⟩, ⟨by (try simp only [hl6_3]); (try simp only [hl6_4]); (with_reducible repeat (first | apply Kd.S_alloc | apply Kd.S_drewN | apply Kd.S_drew)); exact HO_5.out⟩, ⟨by (try simp only [hl6_3]); (try simp only [hl6_4]); (with_reducible repeat (first | apply Kd.R_alloc | apply Kd.R_drewN | apply Kd.R_drew)); exact HO_6.out⟩, ⟨by (try simp only [hl6_3]); (try simp only [hl6_4]); (with_reducible repeat (first | apply Kd.R_alloc | apply Kd.R_drewN | apply Kd.R_drew)); exact HO_8.out⟩, ⟨zB⟩⟩
                                       · replace c41 := Bool.eq_false_iff.mpr c41
                                         subst c41
                                         have H1 : (if x8_4.length < 17592186044416 then (impl_parts.l2 k4 l0 x5_2 (x6_4.set ((rd (rd_L4 l0 (rd x8_3 x9_3)) x49_4) : Int).toNat true) (x8_4 ++ [rd (rd_L4 l0 (rd x8_3 x9_3)) x49_4]) x9_3 (l0.length : Int) x23_2 (rd_L4 l0 (rd x8_3 x9_3)) ((rd_L4 l0 (rd x8_3 x9_3)).length : Int) (wrap64 (x49_4 + 1))) else (none)) = some r := by rw [if_neg (show ¬ (false = true) by decide)] at H; exact H
                                         clear H
                                         have H := H1
                                         clear H1
                                         obtain ⟨y1017, hy1017⟩ : ∃ y_ : List Bool, y_ = (x6_4.set ((rd (rd_L4 l0 (rd x8_3 x9_3)) x49_4) : Int).toNat true) := ⟨_, rfl⟩
                                         replace H : (if x8_4.length < 17592186044416 then (impl_parts.l2 k4 l0 x5_2 y1017 (x8_4 ++ [rd (rd_L4 l0 (rd x8_3 x9_3)) x49_4]) x9_3 (l0.length : Int) x23_2 (rd_L4 l0 (rd x8_3 x9_3)) ((rd_L4 l0 (rd x8_3 x9_3)).length : Int) (wrap64 (x49_4 + 1))) else (none)) = some r := by first | (rw [hy1017]; with_reducible exact H) | (have H2_ := (Option.bind_some _ _).symm.trans H; rw [hy1017]; with_reducible exact H2_) | (have H2_ := (Option.bind_some _ _).symm.trans H; with_reducible exact H2_) | with_reducible exact H | (rw [hy1017]; exact H) | exact H
                                         have Ny1017 := Aside0.mk hy1017
                                         clear hy1017
                                         by_cases c43 : x8_4.length < 17592186044416
                                         · rw [if_pos c43] at H
                                           have LMc43 := Aside0.mk c43
                                           clear c43
                                           obtain ⟨y1018, hy1018⟩ : ∃ y_ : List Int, y_ = (x8_4 ++ [rd (rd_L4 l0 (rd x8_3 x9_3)) x49_4]) := ⟨_, rfl⟩
                                           replace H : (impl_parts.l2 k4 l0 x5_2 y1017 y1018 x9_3 (l0.length : Int) x23_2 (rd_L4 l0 (rd x8_3 x9_3)) ((rd_L4 l0 (rd x8_3 x9_3)).length : Int) (wrap64 (x49_4 + 1))) = some r := by first | (rw [hy1018]; with_reducible exact H) | (have H2_ := (Option.bind_some _ _).symm.trans H; rw [hy1018]; with_reducible exact H2_) | (have H2_ := (Option.bind_some _ _).symm.trans H; with_reducible exact H2_) | with_reducible exact H | (rw [hy1018]; exact H) | exact H
                                           have Ny1018 := Aside0.mk hy1018
                                           clear hy1018
                                           have H' := Aside0.mk H
                                           clear H
                                           have p1015 : 0 ≤ (x49_4 : Int) := of_decide_eq_true zA
                                           have q1015 : x49_4 < ((rd_L4 l0 (rd x8_3 x9_3)).length : Int) := of_decide_eq_true zA
                                           obtain ⟨ad1015, e1015, hx1015_0⟩ := Kd.at_int HR1014_0.out x49_4 p1015 q1015
                                           cases e1015
                                           (try replace hx1015_0 := (HB.out.cell (World.block_lt_of_cell? w _ hx1015_0)).trans hx1015_0)
                                           replace p1015 := eq_true p1015
                                           replace q1015 := eq_true q1015
                                           have p1016 : 0 ≤ ((rd (rd_L4 l0 (rd x8_3 x9_3)) x49_4) : Int) := of_decide_eq_true zA
                                           have q1016 : (rd (rd_L4 l0 (rd x8_3 x9_3)) x49_4) < (x6_4.length : Int) := of_decide_eq_true zA
                                           obtain ⟨ad1016, e1016, hx1016_0⟩ := Kd.at_bool (Kd.R_reads' HO_6.out).2.2 (rd (rd_L4 l0 (rd x8_3 x9_3)) x49_4) p1016 q1016
                                           (try rw [← Nbq21.out] at hx1016_0)
                                           (try rw [← Nbq40.out] at hx1016_0)
                                           obtain rfl : (⟨go24, 0, none⟩ : Addr) = ad1016 := (by injection e1016)
                                           (first | simp only [add_plain] at hx1016_0 | simp only [add_at] at hx1016_0 | simp only [Addr.add, Nat.zero_add] at hx1016_0 | skip)
                                           replace p1016 := eq_true p1016
                                           replace q1016 := eq_true q1016
                                           have p42 : 0 ≤ ((rd (rd_L4 l0 (rd x8_3 x9_3)) x49_4) : Int) := of_decide_eq_true zA
                                           have q42 : ((rd (rd_L4 l0 (rd x8_3 x9_3)) x49_4) : Int) < ((x6_4.length : Int) : Int) := of_decide_eq_true zA
                                           obtain ⟨hx42_0, hf42_0⟩ := Kd.R_celln false HO_6.out ((rd (rd_L4 l0 (rd x8_3 x9_3)) x49_4) : Int) p42 q42
                                           replace p42 := eq_true p42
                                           replace q42 := eq_true q42
                                           have HP44 := Kd.R_putg HO_6.out ((rd (rd_L4 l0 (rd x8_3 x9_3)) x49_4) : Int) true
                                           go_wp2_with (first | ((with_reducible refine gate_store (t := 4) (p := 60) rfl ?_); refine store_event (t := 4) (p := 60) (v := ?vo_w45) (w1 := (wr.setCell ⟨go24, ((rd (rd_L4 l0 (rd x8_3 x9_3)) x49_4) : Int).toNat, none⟩ (.bool true))) ?hg ?ho ?hn ?hr ?_; (case ho => rfl); (case hg => rfl); (case hn => rfl); (case hr => first | (go_simp; done) | (go_simp; rfl)); intro w45 hw; have hg : wr.grownBy w45 (some go24) := (by rw [hw]; exact HP44.2); have hp_ : Kd.R Kd.bool 4 w45 w.heap.size (fun _ => True) (.slice (some ⟨go24, 0, none⟩) x6_4.length co25) y1017 := (by rw [hw, Ny1017.out]; exact HP44.1); clear HP44; replace HO_5 := zM (Kd.S_over' (v := (.slice (some ⟨go24, 0, none⟩) x6_4.length co25)) (by (with_reducible repeat (first | apply Kd.S_alloc | apply Kd.S_drewN | apply Kd.S_drew)); exact HO_5.out) (Kd.R_typed HO_6.out) (by decide) hg); replace HO_8 := zM (Kd.R_over' (v := (.slice (some ⟨go24, 0, none⟩) x6_4.length co25)) (zR HO_8.out) (Kd.R_typed HO_6.out) (by decide) hg); replace HO_6 := zM (hp_); replace HB := zM ((by rw [hw]; exact below_set (HB.out) GB24.out : Below w.heap.size w w45)); clear hg hw hp_) | ((with_reducible refine gate_builtin (b := .append) (xs := #[.tmp 61, .tmp 63]) rfl ?_); at_builtin; refine Kd.R_append (Kd.int .i64) (w0 := w) w.heap.size rfl (.tmp 61) (.tmp 63) 25 3 (.int .i64 0) 8 rfl Try.underlying25 info3 rfl (by decide) (by omega) u8 x8_4 (rd (rd_L4 l0 (rd x8_3 x9_3)) x49_4) [.int .i64 (rd (rd_L4 l0 (rd x8_3 x9_3)) x49_4)] (fun _ => True) (fun _ => False) rfl rfl ?aP (fun _ hk => hk.elim) ?aF ?aO ?aB ?aS ?aL ?_; (case aP => exact rfl); (case aB => exact zB); (case aF => exact (fun _ _ => trivial)); (case aO => exact (zR HO_8.out)); (case aS => exact (below_size zB)); (case aL => have := LMc43.out; omega); intro v1019 w46 ho hb hg hat; rw [← Ny1018.out] at ho; replace HO_5 := zM (Kd.S_after (ok := (fun _ => True)) (by (with_reducible repeat (first | apply Kd.S_alloc | apply Kd.S_drewN | apply Kd.S_drew)); exact Kd.S_mono HO_5.out (fun _ hk => ⟨trivial, hk⟩)) hg hat); replace HO_6 := zM (Kd.R_over' (zR HO_6.out) (Kd.R_typed (zR HO_8.out)) (by decide) hg); replace HB := zM (hb); have HO1020 := zM (ho); clear HO_8; clear ho hb hg hat))
                                           (try simp only [← hl6_4])
                                           go_roundg k4
                                           case measure => have := HJ4.out; have := HK2.out; have := HK3.out; have := HK4.out; omega
                                           case rel => exact ⟨(y1017), (y1018), (wrap64 (x49_4 + 1)), (by first | rfl | (simp; done) | (simp [*]; done)), H', ⟨by have := HJ4.out; have := HK2.out; have := HK3.out; have := HK4.out; omega⟩, ⟨by (try simp only [hl6_3]); (try simp only [hl6_4]); (with_reducible repeat (first | apply Kd.S_alloc | apply Kd.S_drewN | apply Kd.S_drew)); exact Kd.S_mono HO_5.out (fun _ hk => hk.2)⟩, ⟨by (try simp only [hl6_3]); (try simp only [hl6_4]); (with_reducible repeat (first | apply Kd.R_alloc | apply Kd.R_drewN | apply Kd.R_drew)); exact HO_6.out⟩, ⟨by (try simp only [hl6_3]); (try simp only [hl6_4]); (with_reducible repeat (first | apply Kd.R_alloc | apply Kd.R_drewN | apply Kd.R_drew)); exact HO1020.out⟩, ⟨zB⟩⟩
                                         · rw [if_neg c43] at H
                                           exact absurd H (by simp)
                                     · rw [if_neg c39] at H
                                       exact absurd H (by simp)
                                   · rw [if_neg c38] at H
                                     exact absurd H (by simp)
                                 · rw [if_neg c37] at H
                                   exact absurd H (by simp)
                               · rw [if_neg c36] at H
                                 exact absurd H (by simp)
                             · rw [if_neg c35] at H
                               have c35b0 : decide (x49_4 < ((rd_L4 l0 (rd x8_3 x9_3)).length : Int)) = false := decide_eq_false c35
                               clear c35
                               have H' := Aside0.mk H
                               clear H
                               go_wp2
                               (try simp only [← hl6_3, ← hl6_4])
                               go_roundg k4
                               case measure => have := HJ4.out; have := HK2.out; have := HK3.out; have := HK4.out; omega
                               case rel => exact ⟨(x6_4), (x8_4), (wrap64 (x9_3 + 1)), (by first | rfl | (simp; done) | (simp [*]; done)), H', ⟨by have := HJ4.out; have := HK2.out; have := HK3.out; have := HK4.out; omega⟩, ⟨by (try simp only [hl6_3]); (try simp only [hl6_4]); (with_reducible repeat (first | apply Kd.S_alloc | apply Kd.S_drewN | apply Kd.S_drew)); exact HO_5.out⟩, ⟨by (try simp only [hl6_3]); (try simp only [hl6_4]); (with_reducible repeat (first | apply Kd.R_alloc | apply Kd.R_drewN | apply Kd.R_drew)); exact HO_6.out⟩, ⟨by (try simp only [hl6_3]); (try simp only [hl6_4]); (with_reducible repeat (first | apply Kd.R_alloc | apply Kd.R_drewN | apply Kd.R_drew)); exact HO_8.out⟩, ⟨zB⟩⟩
                         · rw [if_neg c33] at H
                           exact absurd H (by simp)
                       · rw [if_neg c32] at H
                         exact absurd H (by simp)
                     · rw [if_neg c31] at H
                       exact absurd H (by simp)
                   · rw [if_neg c30] at H
                     have c30b0 : decide (x9_3 < (x8_3.length : Int)) = false := decide_eq_false c30
                     clear c30
                     replace H := Option.bind_eq_some_iff.mp H
                     obtain ⟨t1009, A470, H⟩ := H
                     have A47 := Aside0.mk A470
                     clear A470
                     by_cases c48 : x5_2.length < 5864062014805
                     · rw [if_pos c48] at H
                       have LMc48 := Aside0.mk c48
                       clear c48
                       obtain ⟨y1010, hy1010⟩ : ∃ y_ : List (List Int), y_ = (x5_2 ++ [t1009]) := ⟨_, rfl⟩
                       replace H : (impl_parts.l0 k3 l0 y1010 x6_3 (l0.length : Int) (wrap64 (x23_2 + 1))) = some r := by first | (rw [hy1010]; with_reducible exact H) | (have H2_ := (Option.bind_some _ _).symm.trans H; rw [hy1010]; with_reducible exact H2_) | (have H2_ := (Option.bind_some _ _).symm.trans H; with_reducible exact H2_) | with_reducible exact H | (rw [hy1010]; exact H) | exact H
                       have Ny1010 := Aside0.mk hy1010
                       clear hy1010
                       have H' := Aside0.mk H
                       clear H
                       obtain ⟨Ao49, co49, eo49⟩ := Kd.R_slice HO_8.out
                       subst eo49
                       go_wp2_with (first | ((with_reducible refine gate_callee (f := 131) rfl ?_); refine zc 67 Try.func131 #[.slice Ao49 x8_3.length co49] ?_; (with_reducible refine (slices_Sort_int_int.calls (fun k_ => some k_ = (.slice Ao49 x8_3.length co49 : Value).ownBlock) (.slice Ao49 x8_3.length co49) x8_3 t1009 w _ ?side1 ?side2 A47.out).mono ?_); (case side1 => repeat (first | (with_reducible first | exact HB.out | apply below_alloc | apply pw_below_drewN | apply below_drew1) | exact HB.out)); (case side2 => exact Kd.R_tight rfl HO_8.out); rintro e w50 ⟨rfl, hy0, hb, hkp⟩; refine ⟨_, rfl, ?_⟩; replace HO_5 := zM (Kd.S_mono (ok' := fun k_ => some k_ ≠ (.slice Ao49 x8_3.length co49 : Value).ownBlock) (Kd.S_keptB (HO_5.out) hkp (fun k_ hk_ hs_ => (hk_) hs_)) (fun k_ hk_ => hk_.1)); replace HO_6 := zM (Kd.R_mono (ok' := fun k_ => True) (Kd.R_keptB ((Kd.R_apart' HO_6.out (Kd.R_typed HO_8.out) (by decide))) hkp (fun k_ hk_ hs_ => (hk_.2) hs_)) (fun k_ hk_ => trivial)); replace HO_8 := zM (Kd.R_reok rfl hy0 (fun k_ e_ => HO_8.out.1 k_ e_)); replace HB := zM (hb); (try clear hb); (try clear hkp); (try clear hy0)) | ((with_reducible refine gate_builtin (b := .append) (xs := #[.tmp 68, .tmp 70]) rfl ?_); at_builtin; refine Kd.S_append (Kd.slice 3 (Kd.int .i64)) (w0 := w) w.heap.size rfl (.tmp 68) (.tmp 70) 42 25 (.slice none 0 0) 24 rfl Try.underlying42 info25 rfl (by decide) (by omega) u5 x5_2 t1009 [.slice Ao49 x8_3.length co49] (fun _ => True) (fun k_ => some k_ = (.slice Ao49 x8_3.length co49 : Value).ownBlock) rfl rfl ?aP (fun k_ hk_ => ((Kd.R_mono (ok' := fun k_ => ((fun _ => True)) k_ ∧ some k_ ≠ (u5 : Value).ownBlock) (Kd.R_apart' (HO_8.out) (Kd.S_typed HO_5.out) (by decide)) (fun k_ hk => ⟨trivial, hk.2⟩))).1 k_ hk_.symm) ?aF ?aO ?aB ?aS ?aL ?_; (case aP => exact Kd.M_row (Kd.R_mono (Kd.R_tight rfl (Kd.R_mono (ok' := fun k_ => ((fun _ => True)) k_ ∧ some k_ ≠ (u5 : Value).ownBlock) (Kd.R_apart' (HO_8.out) (Kd.S_typed HO_5.out) (by decide)) (fun k_ hk => ⟨trivial, hk.2⟩))) (fun _ h_ => h_))); (case aB => exact zB); (case aF => exact (fun _ _ => trivial)); (case aO => exact (by (with_reducible repeat (first | apply Kd.S_alloc | apply Kd.S_drewN | apply Kd.S_drew)); exact Kd.S_mono HO_5.out (fun k_ hk => ⟨trivial, fun e_ => hk e_⟩))); (case aS => exact (below_size zB)); (case aL => have := LMc48.out; omega); intro v1011 w51 ho hb hg hat; rw [← Ny1010.out] at ho; replace HO_6 := zM (Kd.R_over' (zR HO_6.out) (Kd.S_typed (by (with_reducible repeat (first | apply Kd.S_alloc | apply Kd.S_drewN | apply Kd.S_drew)); exact HO_5.out)) (by decide) hg); replace HB := zM (hb); have HO1012 := zM (ho); clear HO_5 HO_8; clear ho hb hg hat))
                       (try simp only [← hl6_3])
                       go_roundg k3
                       case measure => have := HJ4.out; have := HK2.out; have := HK3.out; omega
                       case rel => exact ⟨(y1010), (x6_3), (wrap64 (x23_2 + 1)), (by first | rfl | (simp; done) | (simp [*]; done)), H', ⟨by have := HJ4.out; have := HK2.out; have := HK3.out; omega⟩, ⟨by (try simp only [hl6_3]); (with_reducible repeat (first | apply Kd.S_alloc | apply Kd.S_drewN | apply Kd.S_drew)); exact HO1012.out⟩, ⟨by (try simp only [hl6_3]); (with_reducible repeat (first | apply Kd.R_alloc | apply Kd.R_drewN | apply Kd.R_drew)); exact HO_6.out⟩, ⟨zB⟩⟩
                     · rw [if_neg c48] at H
                       exact absurd H (by simp)
             · rw [if_neg c20] at H
               exact absurd H (by simp)
           · rw [if_neg c19] at H
             exact absurd H (by simp)
         · rw [if_neg c18] at H
           have c18b0 : decide (x23_2 < (l0.length : Int)) = false := decide_eq_false c18
           clear c18
           obtain rfl := Option.some.inj H
           go_wp2
           go_ret
           exact ⟨_, by first | rfl | (simp [errW_none, errW_some] <;> rfl) | (simp [*, errW_none, errW_some] <;> rfl), by (with_reducible repeat (first | apply Kd.S_alloc | apply Kd.S_drewN | apply Kd.S_drew)); exact HO_5.out, zB⟩
   · rw [if_neg c4] at H
     exact absurd H (by simp)
 · rw [if_neg c3] at H
   exact absurd H (by simp)

end Go.Proofs.Ytnlmijnbfdhdkaa.P
namespace Go.Proofs.Ytnlmijnbfdhdkaa.P
open Go.RowKit Go.Proofs.YtnlmijnbfdhdkaaW.PrintWords Go.Proofs.YtnlmijnbfdhdkaaW.PrintLast Go.Proofs.YtnlmijnbfdhdkaaW.PrintMore
set_option linter.unusedVariables false
set_option linter.unusedSimpArgs false
def slices_Repeat_int_int.f (l : List Int) (n : Int) : Option (List Int) := if l.length = 1 ∧ 0 ≤ n ∧ n ≤ 1048576 then some (List.replicate n.toNat (l.headD 0)) else none
end Go.Proofs.Ytnlmijnbfdhdkaa.P
namespace Go.Proofs.Ytnlmijnbfdhdkaa.P
open Go.RowKit Go.Proofs.YtnlmijnbfdhdkaaW.PrintWords Go.Proofs.YtnlmijnbfdhdkaaW.PrintLast Go.Proofs.YtnlmijnbfdhdkaaW.PrintMore
attribute [local go_sem] max2_int min2_int max_two min_two max_three min_three max_four min_four   -- for this text's walks alone
set_option linter.unusedVariables false
set_option linter.unusedSimpArgs false

/-! ### impl_PartsOf: function 50 -/
def impl_PartsOf.f (k : Nat) (l0_0 : List (List Int)) (l0_1 : List (S88)) : Option ((List (List Int)) × Bool) := (impl_IsSpace.f k l0_0 l0_1).bind fun t1022 => (if t1022 = true then ((impl_Space_roads.f k l0_0 l0_1).bind fun t1023 => ((impl_parts.f k t1023 (-1)).bind fun t1026 => (some (t1026, true)))) else (some (([] : List (List Int)), false)))
set_option maxHeartbeats 8000000 in
set_option maxRecDepth 100000 in
theorem impl_PartsOf.calls (k : Nat) (A0_0 : Option Addr) (c0_0 : Nat) (l0_0 : List (List Int)) (A0_1 : Option Addr) (c0_1 : Nat) (l0_1 : List (S88)) (r1 : List (List Int)) (r2 : Bool) (w : World) (hr0_0 : Kd.C (Kd.slice 3 (Kd.int .i64)) w A0_0 l0_0.length l0_0) (hc0_0 : l0_0.length ≤ c0_0) (hr0_1 : Kd.C k88 w A0_1 l0_1.length l0_1) (hc0_1 : l0_1.length ≤ c0_1) (h : impl_PartsOf.f k l0_0 l0_1 = some (r1, r2)) :
 Calls Try.prog 50 #[.agg #[.slice A0_0 l0_0.length c0_0, .slice A0_1 l0_1.length c0_1]] w fun e w' => ∃ v0_ : Value, e = .returned (.tuple #[v0_, .bool r2]) ∧ Kd.S (Kd.slice 3 (Kd.int .i64)) 25 w' w.heap.size (fun _ => True) v0_ r1 ∧ Below w.heap.size w w' := by
 have hu46 := Try.underlying46
 have HR0_0 := Aside0.mk hr0_0
 have HC0_0 := Aside0.mk hc0_0
 clear hr0_0 hc0_0
 have HR0_1 := Aside0.mk hr0_1
 have HC0_1 := Aside0.mk hc0_1
 clear hr0_1 hc0_1
 have HB := zM (Below.refl w.heap.size w)
 have H : ((impl_IsSpace.f k l0_0 l0_1).bind fun t1022 => (if t1022 = true then ((impl_Space_roads.f k l0_0 l0_1).bind fun t1023 => ((impl_parts.f k t1023 (-1)).bind fun t1026 => (some (t1026, true)))) else (some (([] : List (List Int)), false)))) = some (r1, r2) := h
 clear h
 replace H := Option.bind_eq_some_iff.mp H
 obtain ⟨t1022, A20, H⟩ := H
 replace H : (if t1022 = true then ((impl_Space_roads.f k l0_0 l0_1).bind fun t1023 => ((impl_parts.f k t1023 (-1)).bind fun t1026 => (some (t1026, true)))) else (some (([] : List (List Int)), false))) = some (r1, r2) := H
 have A2 := Aside0.mk A20
 clear A20
 by_cases c3 : t1022 = true
 · subst c3
   have H1 : ((impl_Space_roads.f k l0_0 l0_1).bind fun t1023 => ((impl_parts.f k t1023 (-1)).bind fun t1026 => (some (t1026, true)))) = some (r1, r2) := by rw [if_pos rfl] at H; exact H
   clear H
   have H := H1
   clear H1
   replace H := Option.bind_eq_some_iff.mp H
   obtain ⟨t1023, A40, H⟩ := H
   replace H : ((impl_parts.f k t1023 (-1)).bind fun t1026 => (some (t1026, true))) = some (r1, r2) := H
   have A4 := Aside0.mk A40
   clear A40
   replace H := Option.bind_eq_some_iff.mp H
   obtain ⟨t1026, A50, H⟩ := H
   replace H : (some (t1026, true)) = some (r1, r2) := H
   have A5 := Aside0.mk A50
   clear A50
   simp only [Option.some.injEq, Prod.mk.injEq] at H
   obtain ⟨rfl, rfl⟩ := H
   go_enter Try.func50, Try.ntmps50
   go_wp2_with (first | ((with_reducible refine gate_dst (N := 1) rfl ?_); refine zb (w := w) 1 #[.slice A0_0 l0_0.length c0_0, .slice A0_1 l0_1.length c0_1] 46 zB ?_; clear HB; intro gb1021 w6 HB BK1021 GW1021; have GE1021 := GW1021; have hcz7_0 := zy BK1021 0; have hcz7_1 := zy BK1021 1; have hfz7_0 := blk_frozen BK1021.out 0; have hfz7_1 := blk_frozen BK1021.out 1) | ((with_reducible refine gate_callee (f := 83) rfl ?_); refine zc 5 Try.func83 #[.agg #[.slice A0_0 l0_0.length c0_0, .slice A0_1 l0_1.length c0_1]] ?_; (with_reducible refine (impl_IsSpace.calls k _ _ l0_0 _ _ l0_1 true _ ?side1 ?side2 ?side3 ?side4 A2.out).mono ?_); (case side1 => exact zC (Kd.C_below HR0_0.out HB.out)); (case side2 => exact HC0_0.out); (case side3 => exact zC (Kd.C_below HR0_1.out HB.out)); (case side4 => exact HC0_1.out); rintro e w8 ⟨rfl, hb⟩; refine ⟨_, rfl, ?_⟩; replace BK1021 := zM (blk_below (g := gb1021) (o := .cells #[.slice A0_0 l0_0.length c0_0, .slice A0_1 l0_1.length c0_1] 46 (0, 0)) (zK BK1021.out) hb); replace HB := zM (below_step zB hb); (try clear hb); (try clear hb2); (try clear hk); (try clear hi); have hcz9_0 := zy BK1021 0; have hcz9_1 := zy BK1021 1; have hfz9_0 := blk_frozen BK1021.out 0; have hfz9_1 := blk_frozen BK1021.out 1) | ((with_reducible refine gate_callee (f := 91) rfl ?_); refine zc 8 Try.func91 #[.agg #[.slice A0_0 l0_0.length c0_0, .slice A0_1 l0_1.length c0_1]] ?_; (with_reducible refine (impl_Space_roads.calls k _ _ l0_0 _ _ l0_1 t1023 _ ?side1 ?side2 ?side3 ?side4 A4.out).mono ?_); (case side1 => exact zC (Kd.C_below HR0_0.out HB.out)); (case side2 => exact HC0_0.out); (case side3 => exact zC (Kd.C_below HR0_1.out HB.out)); (case side4 => exact HC0_1.out); rintro e w10 ⟨v1024, rfl, ho0, hb⟩; refine ⟨_, rfl, ?_⟩; have HO1025 := zM (Kd.S_lower ho0 (below_size zB)); replace BK1021 := zM (blk_below (g := gb1021) (o := .cells #[.slice A0_0 l0_0.length c0_0, .slice A0_1 l0_1.length c0_1] 46 (0, 0)) (zK BK1021.out) hb); replace HB := zM (below_step zB hb); (try clear hb); (try clear hb2); (try clear hk); (try clear hi); (try clear ho0); obtain ⟨Ao11, co11, eo11⟩ := Kd.S_slice HO1025.out; subst eo11) | ((with_reducible refine gate_callee (f := 101) rfl ?_); refine zc 9 Try.func101 #[.slice Ao11 t1023.length co11, .int .i64 (-1)] ?_; (with_reducible refine (impl_parts.calls k _ _ t1023 (-1) t1026 _ ?side1 ?side2 A5.out).mono ?_); (case side1 => exact zC (Kd.S_reads' HO1025.out).2.2); (case side2 => exact (Kd.S_reads' HO1025.out).2.1); rintro e w12 ⟨v1027, rfl, ho0, hb⟩; refine ⟨_, rfl, ?_⟩; have HO1028 := zM (Kd.S_lower (Kd.S_new' ho0 (Kd.S_lt (by (with_reducible repeat (first | apply Kd.S_alloc | apply Kd.S_drewN | apply Kd.S_drew)); exact HO1025.out))) (below_size zB)); replace HO1025 := zM (Kd.S_elder' (by (with_reducible repeat (first | apply Kd.S_alloc | apply Kd.S_drewN | apply Kd.S_drew)); exact HO1025.out) (Kd.S_base ho0) hb); replace BK1021 := zM (blk_below (g := gb1021) (o := .cells #[.slice A0_0 l0_0.length c0_0, .slice A0_1 l0_1.length c0_1] 46 (0, 0)) (zK BK1021.out) hb); replace HB := zM (below_step zB hb); (try clear hb); (try clear hb2); (try clear hk); (try clear hi); (try clear ho0)))
   go_ret2
   exact ⟨_, by first | rfl | (simp [errW_none, errW_some] <;> rfl) | (simp [*, errW_none, errW_some] <;> rfl), by (with_reducible repeat (first | apply Kd.S_alloc | apply Kd.S_drewN | apply Kd.S_drew)); exact Kd.S_mono HO1028.out (fun _ hk => trivial), zB⟩
 · replace c3 := Bool.eq_false_iff.mpr c3
   subst c3
   have H1 : (some (([] : List (List Int)), false)) = some (r1, r2) := by rw [if_neg (show ¬ (false = true) by decide)] at H; exact H
   clear H
   have H := H1
   clear H1
   simp only [Option.some.injEq, Prod.mk.injEq] at H
   obtain ⟨rfl, rfl⟩ := H
   go_enter Try.func50, Try.ntmps50
   go_wp2_with (first | ((with_reducible refine gate_dst (N := 1) rfl ?_); refine zb (w := w) 1 #[.slice A0_0 l0_0.length c0_0, .slice A0_1 l0_1.length c0_1] 46 zB ?_; clear HB; intro gb1021 w13 HB BK1021 GW1021; have GE1021 := GW1021; have hcz14_0 := zy BK1021 0; have hcz14_1 := zy BK1021 1; have hfz14_0 := blk_frozen BK1021.out 0; have hfz14_1 := blk_frozen BK1021.out 1) | ((with_reducible refine gate_callee (f := 83) rfl ?_); refine zc 5 Try.func83 #[.agg #[.slice A0_0 l0_0.length c0_0, .slice A0_1 l0_1.length c0_1]] ?_; (with_reducible refine (impl_IsSpace.calls k _ _ l0_0 _ _ l0_1 false _ ?side1 ?side2 ?side3 ?side4 A2.out).mono ?_); (case side1 => exact zC (Kd.C_below HR0_0.out HB.out)); (case side2 => exact HC0_0.out); (case side3 => exact zC (Kd.C_below HR0_1.out HB.out)); (case side4 => exact HC0_1.out); rintro e w15 ⟨rfl, hb⟩; refine ⟨_, rfl, ?_⟩; replace BK1021 := zM (blk_below (g := gb1021) (o := .cells #[.slice A0_0 l0_0.length c0_0, .slice A0_1 l0_1.length c0_1] 46 (0, 0)) (zK BK1021.out) hb); replace HB := zM (below_step zB hb); (try clear hb); (try clear hb2); (try clear hk); (try clear hi)))
   go_ret2
   exact ⟨_, by first | rfl | (simp [errW_none, errW_some] <;> rfl) | (simp [*, errW_none, errW_some] <;> rfl), by first | exact Kd.S_nil _ _ _ _ _ | exact Kd.N_nil _ _ _ _ _ | exact Kd.V_nil _ _ _ _ _ | exact Kd.Q_nil _ _ _ _ _ | exact Kd.R_nil _ _ _ _ _, zB⟩

-- NOT PRINTED: function 12 (laws_FnExactPartsOf)

/-! ### spec_DiameterOf: function 51 -/
/-! ### impl_spread: function 77 -/
mutual
def impl_spread.l0 : Nat → List (List Int) → List Int → List Int → Option (List Int)
 | 0, _, _, _ => none
 | k + 1, x0, x5, x6 => if (x6.length : Int) > 0 then (if 0 < (x6.length : Int) then (if 1 ≤ (x6.length : Int) then (if 0 ≤ (rd x6 0) then (if (rd x6 0) < (x0.length : Int) then (impl_spread.l1 k x0 x5 (x6.drop (1 : Int).toNat) (rd x6 0) (rd_L4 x0 (rd x6 0)) ((rd_L4 x0 (rd x6 0)).length : Int) 0) else (none)) else (none)) else (none)) else (none)) else (some x5)
def impl_spread.l1 : Nat → List (List Int) → List Int → List Int → Int → List Int → Int → Int → Option (List Int)
 | 0, _, _, _, _, _, _, _ => none
 | k + 1, x0, x5, x6, x7, x30, x31, x32 => if x32 < x31 then (if 0 ≤ x32 then (if x32 < (x30.length : Int) then (if 0 ≤ (rd x30 x32) then (if (rd x30 x32) < (x5.length : Int) then (if (rd x5 (rd x30 x32)) < 0 then (if 0 ≤ x7 then (if x7 < (x5.length : Int) then (if x6.length < 17592186044416 then (impl_spread.l1 k x0 (x5.set ((rd x30 x32) : Int).toNat (wrap64 ((rd x5 x7) + 1))) (x6 ++ [rd x30 x32]) x7 x30 x31 (wrap64 (x32 + 1))) else (none)) else (none)) else (none)) else (impl_spread.l1 k x0 x5 x6 x7 x30 x31 (wrap64 (x32 + 1)))) else (none)) else (none)) else (none)) else (none)) else (impl_spread.l0 k x0 x5 x6)
end
def impl_spread.f (k : Nat) (l0 : List (List Int)) (a1 : Int) : Option (List Int) := (slices_Repeat_int_int.f (([(-1)] : List Int)) (l0.length : Int)).bind fun t1073 => (if 0 ≤ a1 then (if a1 < (t1073.length : Int) then (impl_spread.l0 k l0 (t1073.set (a1 : Int).toNat 0) (([a1] : List Int))) else (none)) else (none))
end Go.Proofs.Ytnlmijnbfdhdkaa.P
