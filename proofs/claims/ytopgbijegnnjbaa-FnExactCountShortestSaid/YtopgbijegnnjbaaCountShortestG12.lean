-- Written by a program of this session (the kit's print, turned: wip/print/patch.py) out of the translation. Not trusted: Lean checks it.
import Derived.Test.YtopgbijegnnjbaaCountShortestG5
namespace Go.Proofs.Ytopgbijegnnjbaa.P
open Go.RowKit Go.Proofs.YtopgbijegnnjbaaW.PrintWords Go.Proofs.YtopgbijegnnjbaaW.PrintLast Go.Proofs.YtopgbijegnnjbaaW.PrintMore
attribute [local go_sem] max2_int min2_int max_two min_two max_three min_three max_four min_four   -- for this text's walks alone
set_option linter.unusedVariables false
set_option linter.unusedSimpArgs false

/-! ### spec_l2Lists: function 12 -/
mutual
def spec_l2Lists.l0 : Nat → List (List Int) → Int → List (List Int) → List (S50) → Option ((List (List Int)))
 | 0, _, _, _, _ => none
 | k + 1, x3, x4, x220000, x220001 => if x4 < (x220001.length : Int) then (if 0 ≤ x4 then (if 0 ≤ ((rd_T50 x220001 x4).f1) then (if ((rd_T50 x220001 x4).f1) < (x3.length : Int) then (if (rd_L1 x3 ((rd_T50 x220001 x4).f1)).length < 17592186044416 then (spec_l2Lists.l0 k (x3.set (((rd_T50 x220001 x4).f1) : Int).toNat ((rd_L1 x3 ((rd_T50 x220001 x4).f1)) ++ [(rd_T50 x220001 x4).f0])) (wrap64 (x4 + 1)) x220000 x220001) else (none)) else (none)) else (none)) else (none)) else (spec_l2Lists.l1 k x3 0 x220000 x220001)
def spec_l2Lists.l1 : Nat → List (List Int) → Int → List (List Int) → List (S50) → Option ((List (List Int)))
 | 0, _, _, _, _ => none
 | k + 1, x3, x7, x220000, x220001 => if x7 < (x220001.length : Int) then (if 0 ≤ x7 then (if 0 ≤ ((rd_T50 x220001 x7).f0) then (if ((rd_T50 x220001 x7).f0) < (x3.length : Int) then (if (rd_L1 x3 ((rd_T50 x220001 x7).f0)).length < 17592186044416 then (spec_l2Lists.l1 k (x3.set (((rd_T50 x220001 x7).f0) : Int).toNat ((rd_L1 x3 ((rd_T50 x220001 x7).f0)) ++ [(rd_T50 x220001 x7).f1])) (wrap64 (x7 + 1)) x220000 x220001) else (none)) else (none)) else (none)) else (none)) else (some x3)
end
def spec_l2Lists.f (k : Nat) (l0_0 : List (List Int)) (l0_1 : List (S50)) : Option ((List (List Int))) := if 0 ≤ (l0_0.length : Int) then (if ((l0_0.length : Int) : Int).toNat ≤ 11728124029610 then (spec_l2Lists.l0 k (List.replicate ((l0_0.length : Int) : Int).toNat []) 0 l0_0 l0_1) else (none)) else (none)
set_option maxHeartbeats 8000000 in
set_option maxRecDepth 100000 in
theorem spec_l2Lists.calls (k : Nat) (A0_0 : Option Addr) (c0_0 : Nat) (l0_0 : List (List Int)) (A0_1 : Option Addr) (c0_1 : Nat) (l0_1 : List (S50)) (r : List (List Int)) (w : World) (hr0_0 : Kd.C (Kd.slice 3 (Kd.int .i64)) w A0_0 l0_0.length l0_0) (hc0_0 : l0_0.length ≤ c0_0) (hr0_1 : Kd.C k50 w A0_1 l0_1.length l0_1) (hc0_1 : l0_1.length ≤ c0_1) (h : spec_l2Lists.f k l0_0 l0_1 = some r) :
 Calls Try.prog 12 #[.agg #[.slice A0_0 l0_0.length c0_0, .slice A0_1 l0_1.length c0_1]] w fun e w' => ∃ v0_ : Value, e = .returned (v0_) ∧ Kd.S (Kd.slice 3 (Kd.int .i64)) 37 w' w.heap.size (fun _ => True) v0_ r ∧ Below w.heap.size w w' := by
 have hu29 := Try.underlying29
 have HR0_0 := Aside0.mk hr0_0
 have HC0_0 := Aside0.mk hc0_0
 clear hr0_0 hc0_0
 have HR0_1 := Aside0.mk hr0_1
 have HC0_1 := Aside0.mk hc0_1
 clear hr0_1 hc0_1
 have HB := zM (Below.refl w.heap.size w)
 have H : (if 0 ≤ (l0_0.length : Int) then (if ((l0_0.length : Int) : Int).toNat ≤ 11728124029610 then (spec_l2Lists.l0 k (List.replicate ((l0_0.length : Int) : Int).toNat []) 0 l0_0 l0_1) else (none)) else (none)) = some r := h
 clear h
 by_cases c2 : 0 ≤ (l0_0.length : Int)
 · rw [if_pos c2] at H
   have c2b0 := eq_true c2
   have c2b1 : decide (0 ≤ (l0_0.length : Int)) = true := decide_eq_true c2
   clear c2
   by_cases c3 : ((l0_0.length : Int) : Int).toNat ≤ 11728124029610
   · rw [if_pos c3] at H
     have c3b0 := eq_true c3
     have c3b1 : decide (((l0_0.length : Int) : Int).toNat ≤ 11728124029610) = true := decide_eq_true c3
     clear c3
     obtain ⟨y220, hy220⟩ : ∃ y_ : List (List Int), y_ = (List.replicate ((l0_0.length : Int) : Int).toNat []) := ⟨_, rfl⟩
     replace H : (spec_l2Lists.l0 k y220 0 l0_0 l0_1) = some r := by first | (rw [hy220]; with_reducible exact H) | (have H2_ := (Option.bind_some _ _).symm.trans H; rw [hy220]; with_reducible exact H2_) | (have H2_ := (Option.bind_some _ _).symm.trans H; with_reducible exact H2_) | with_reducible exact H | (rw [hy220]; exact H) | exact H
     have Ny220 := Aside0.mk hy220
     clear hy220
     have H' := Aside0.mk H
     clear H
     go_enter Try.func12, Try.ntmps12
     go_wp2_with (first | ((with_reducible refine gate_dst (N := 1) rfl ?_); refine zb (w := w) 1 #[.slice A0_0 l0_0.length c0_0, .slice A0_1 l0_1.length c0_1] 29 zB ?_; clear HB; intro gb219 w4 HB BK219 GW219; have GE219 := GW219; have hcz5_0 := zy BK219 0; have hcz5_1 := zy BK219 1; have hfz5_0 := blk_frozen BK219.out 0; have hfz5_1 := blk_frozen BK219.out 1) | ((with_reducible refine gate_dst (N := 13) rfl ?_); refine Kd.S_make (Kd.slice 3 (Kd.int .i64)) _ 37 rfl (N := 13) rfl 22 _ _ rfl (l0_0.length : Int) rfl rfl Try.underlying22 (.slice none 0 0) 24 info37 rfl (by decide) (by omega) [] (ok := fun _ => True) (okp := fun _ => True) ⟨_, rfl, Kd.R_nil _ _ _ _ _⟩ (fun _ hk => hk) trivial (of_decide_eq_true zA) (Nat.le_trans (Nat.mul_le_mul_right _ (of_decide_eq_true zA : (l0_0.length : Int).toNat ≤ 11728124029610)) (by omega)) (Below.refl _ _) (Nat.le_refl _) ?_; intro v221 w6 ho7 hb hg_ hnew_; clear hg_ hnew_; (first | rw [← Ny220.out] at ho7 | (simp only [Int.reduceToNat] at ho7; rw [← Ny220.out] at ho7)); have HO222 := zM (Kd.S_lower ho7 (below_size zB)); replace BK219 := zM (blk_below (g := gb219) (o := .cells #[.slice A0_0 l0_0.length c0_0, .slice A0_1 l0_1.length c0_1] 29 (0, 0)) (zK BK219.out) hb); replace HB := zM (below_step zB hb); clear hb ho7))
     repeat (go_quiet (first | ((with_reducible refine gate_dst (N := 1) rfl ?_); refine zb (w := w) 1 #[.slice A0_0 l0_0.length c0_0, .slice A0_1 l0_1.length c0_1] 29 zB ?_; clear HB; intro gb219 w4 HB BK219 GW219; have GE219 := GW219; have hcz5_0 := zy BK219 0; have hcz5_1 := zy BK219 1; have hfz5_0 := blk_frozen BK219.out 0; have hfz5_1 := blk_frozen BK219.out 1) | ((with_reducible refine gate_dst (N := 13) rfl ?_); refine Kd.S_make (Kd.slice 3 (Kd.int .i64)) _ 37 rfl (N := 13) rfl 22 _ _ rfl (l0_0.length : Int) rfl rfl Try.underlying22 (.slice none 0 0) 24 info37 rfl (by decide) (by omega) [] (ok := fun _ => True) (okp := fun _ => True) ⟨_, rfl, Kd.R_nil _ _ _ _ _⟩ (fun _ hk => hk) trivial (of_decide_eq_true zA) (Nat.le_trans (Nat.mul_le_mul_right _ (of_decide_eq_true zA : (l0_0.length : Int).toNat ≤ 11728124029610)) (by omega)) (Below.refl _ _) (Nat.le_refl _) ?_; intro v221 w6 ho7 hb hg_ hnew_; clear hg_ hnew_; (first | rw [← Ny220.out] at ho7 | (simp only [Int.reduceToNat] at ho7; rw [← Ny220.out] at ho7)); have HO222 := zM (Kd.S_lower ho7 (below_size zB)); replace BK219 := zM (blk_below (g := gb219) (o := .cells #[.slice A0_0 l0_0.length c0_0, .slice A0_1 l0_1.length c0_1] 29 (0, 0)) (zK BK219.out) hb); replace HB := zM (below_step zB hb); clear hb ho7)); try go_wp2_with (first | ((with_reducible refine gate_dst (N := 1) rfl ?_); refine zb (w := w) 1 #[.slice A0_0 l0_0.length c0_0, .slice A0_1 l0_1.length c0_1] 29 zB ?_; clear HB; intro gb219 w4 HB BK219 GW219; have GE219 := GW219; have hcz5_0 := zy BK219 0; have hcz5_1 := zy BK219 1; have hfz5_0 := blk_frozen BK219.out 0; have hfz5_1 := blk_frozen BK219.out 1) | ((with_reducible refine gate_dst (N := 13) rfl ?_); refine Kd.S_make (Kd.slice 3 (Kd.int .i64)) _ 37 rfl (N := 13) rfl 22 _ _ rfl (l0_0.length : Int) rfl rfl Try.underlying22 (.slice none 0 0) 24 info37 rfl (by decide) (by omega) [] (ok := fun _ => True) (okp := fun _ => True) ⟨_, rfl, Kd.R_nil _ _ _ _ _⟩ (fun _ hk => hk) trivial (of_decide_eq_true zA) (Nat.le_trans (Nat.mul_le_mul_right _ (of_decide_eq_true zA : (l0_0.length : Int).toNat ≤ 11728124029610)) (by omega)) (Below.refl _ _) (Nat.le_refl _) ?_; intro v221 w6 ho7 hb hg_ hnew_; clear hg_ hnew_; (first | rw [← Ny220.out] at ho7 | (simp only [Int.reduceToNat] at ho7; rw [← Ny220.out] at ho7)); have HO222 := zM (Kd.S_lower ho7 (below_size zB)); replace BK219 := zM (blk_below (g := gb219) (o := .cells #[.slice A0_0 l0_0.length c0_0, .slice A0_1 l0_1.length c0_1] 29 (0, 0)) (zK BK219.out) hb); replace HB := zM (below_step zB hb); clear hb ho7)))
     go_loopg [4] k (fun kq v4 w' => ∃ (x3_1 : List (List Int)) (x4_1 : Int), v4 = .int .i64 x4_1 ∧ Aside0 (spec_l2Lists.l0 kq x3_1 x4_1 l0_0 l0_1 = some r) ∧ Aside0 (kq ≤ k) ∧ Aside0 (Kd.S (Kd.slice 3 (Kd.int .i64)) 37 w' w.heap.size (fun _ => True) v221 x3_1) ∧ Aside0 (w'.heap[gb219]? = some (.cells #[(.slice A0_0 l0_0.length c0_0), (.slice A0_1 l0_1.length c0_1)] 29 (0, 0))) ∧ Aside0 (Below w.heap.size w w'))
     case atStart => exact ⟨(y220), (0), (by first | rfl | (simp; done) | (simp [*]; done)), H', ⟨Nat.le_refl _⟩, ⟨by (with_reducible repeat (first | apply Kd.S_alloc | apply Kd.S_drewN | apply Kd.S_drew)); exact HO222.out⟩, ⟨zK BK219.out⟩, ⟨zB⟩⟩
     case round =>
      clear H'
      try clear c1
      try clear c2
      try clear c2b0
      try clear c2b1
      try clear p2
      try clear c3
      try clear c3b0
      try clear c3b1
      try clear hcz5_0
      try clear hcz5_1
      try clear hfz5_0
      try clear hfz5_1
      obtain ⟨x3_1, x4_1, rfl, HA, HK1, HO_3, BK219, HB⟩ := hrel
      cases gk with
      | zero => exact absurd HA.out (by simp [spec_l2Lists.l0])
      | succ k1 =>
       have H := HA.out
       clear HA
       simp only [spec_l2Lists.l0] at H
       by_cases c8 : x4_1 < (l0_1.length : Int)
       · rw [if_pos c8] at H
         have c8b0 := decide_eq_true c8
         clear c8
         by_cases c9 : 0 ≤ x4_1
         · rw [if_pos c9] at H
           have c9b0 := decide_eq_true c9
           clear c9
           by_cases c10 : 0 ≤ ((rd_T50 l0_1 x4_1).f1)
           · rw [if_pos c10] at H
             have c10b0 := decide_eq_true c10
             clear c10
             by_cases c11 : ((rd_T50 l0_1 x4_1).f1) < (x3_1.length : Int)
             · rw [if_pos c11] at H
               have c11b0 := decide_eq_true c11
               clear c11
               by_cases c12 : (rd_L1 x3_1 ((rd_T50 l0_1 x4_1).f1)).length < 17592186044416
               · rw [if_pos c12] at H
                 have LMc12 := Aside0.mk c12
                 clear c12
                 obtain ⟨y226, hy226⟩ : ∃ y_ : List Int, y_ = ((rd_L1 x3_1 ((rd_T50 l0_1 x4_1).f1)) ++ [(rd_T50 l0_1 x4_1).f0]) := ⟨_, rfl⟩
                 replace H : (spec_l2Lists.l0 k1 (x3_1.set (((rd_T50 l0_1 x4_1).f1) : Int).toNat y226) (wrap64 (x4_1 + 1)) l0_0 l0_1) = some r := by first | (rw [hy226]; with_reducible exact H) | (have H2_ := (Option.bind_some _ _).symm.trans H; rw [hy226]; with_reducible exact H2_) | (have H2_ := (Option.bind_some _ _).symm.trans H; with_reducible exact H2_) | with_reducible exact H | (rw [hy226]; exact H) | exact H
                 have Ny226 := Aside0.mk hy226
                 clear hy226
                 obtain ⟨y229, hy229⟩ : ∃ y_ : List (List Int), y_ = (x3_1.set (((rd_T50 l0_1 x4_1).f1) : Int).toNat y226) := ⟨_, rfl⟩
                 replace H : (spec_l2Lists.l0 k1 y229 (wrap64 (x4_1 + 1)) l0_0 l0_1) = some r := by first | (rw [hy229]; with_reducible exact H) | (have H2_ := (Option.bind_some _ _).symm.trans H; rw [hy229]; with_reducible exact H2_) | (have H2_ := (Option.bind_some _ _).symm.trans H; with_reducible exact H2_) | with_reducible exact H | (rw [hy229]; exact H) | exact H
                 have Ny229 := Aside0.mk hy229
                 clear hy229
                 have H' := Aside0.mk H
                 clear H
                 have hcz14_0 := zy BK219 0
                 have hcz14_1 := zy BK219 1
                 have hfz14_0 := blk_frozen BK219.out 0
                 have hfz14_1 := blk_frozen BK219.out 1
                 have p223 : 0 ≤ (x4_1 : Int) := of_decide_eq_true zA
                 have q223 : x4_1 < (l0_1.length : Int) := of_decide_eq_true zA
                 obtain ⟨ad223, e223, hx223_0, hx223_1⟩ := at_T50 HR0_1.out x4_1 p223 q223
                 cases e223
                 (try replace hx223_0 := (HB.out.cell (World.block_lt_of_cell? w _ hx223_0)).trans hx223_0)
                 (try replace hx223_1 := (HB.out.cell (World.block_lt_of_cell? w _ hx223_1)).trans hx223_1)
                 replace p223 := eq_true p223
                 replace q223 := eq_true q223
                 have p224 : 0 ≤ (x4_1 : Int) := of_decide_eq_true zA
                 have q224 : x4_1 < (l0_1.length : Int) := of_decide_eq_true zA
                 obtain ⟨ad224, e224, hx224_0, hx224_1⟩ := at_T50 HR0_1.out x4_1 p224 q224
                 obtain rfl : ad223 = ad224 := (by injection e224)
                 (try replace hx224_0 := (HB.out.cell (World.block_lt_of_cell? w _ hx224_0)).trans hx224_0)
                 (try replace hx224_1 := (HB.out.cell (World.block_lt_of_cell? w _ hx224_1)).trans hx224_1)
                 replace p224 := eq_true p224
                 replace q224 := eq_true q224
                 obtain ⟨Ao15, co15, eo15⟩ := Kd.S_slice HO_3.out
                 subst eo15
                 have p225 : 0 ≤ (((rd_T50 l0_1 x4_1).f1) : Int) := of_decide_eq_true zA
                 have q225 : ((rd_T50 l0_1 x4_1).f1) < (x3_1.length : Int) := of_decide_eq_true zA
                 obtain ⟨ad225, A225_0, c225_0, e225, hx225_0, hl225_0, hi225_0⟩ := at_L1 (Kd.S_reads' HO_3.out).2.2 ((rd_T50 l0_1 x4_1).f1) p225 q225
                 cases e225
                 obtain ⟨ce225, hce225, hMe225, hcc225⟩ := Kd.S_get HO_3.out [] ((rd_T50 l0_1 x4_1).f1) p225 (by first | exact q225 | exact of_decide_eq_true zA | (have e_ := (Kd.S_reads' HO_3.out).1; omega))
                 obtain ⟨ve225_0, rfl, ge225_0⟩ := hMe225
                 have hv225_0 := hcc225 0 _ rfl
                 rw [Nat.add_zero, show ((Kd.slice 3 (Kd.int .i64))).sz = 1 from rfl, Nat.mul_one] at hv225_0
                 replace hv225_0 := Option.some.inj (hv225_0.symm.trans hx225_0)
                 rw [hv225_0] at ge225_0
                 have HL225_0 := zM (show Kd.R (Kd.int .i64) 3 _ _ _ _ (rd_L1 x3_1 ((rd_T50 l0_1 x4_1).f1)) from ge225_0)
                 clear hv225_0 ge225_0
                 have HX225_0 := Aside0.mk hx225_0
                 clear hcc225 hce225
                 have HR225_0 := Aside0.mk hi225_0
                 have HC225_0 := Aside0.mk hl225_0
                 clear hi225_0 hl225_0
                 replace p225 := eq_true p225
                 replace q225 := eq_true q225
                 obtain ⟨go16, co16, eo16, gb16, gl16, cl16, HG16⟩ := Kd.S_form HO_3.out (by have h_ : (((rd_T50 l0_1 x4_1).f1) : Int) < ((x3_1.length : Int) : Int) := of_decide_eq_true zA; have h2_ : 0 ≤ (((rd_T50 l0_1 x4_1).f1) : Int) := (of_decide_eq_true zA); omega)
                 (first | cases eo16 | (injection eo16 with ea_ en_ ec_; (first | subst ea_ | (injection ea_ with ea_; subst ea_)); subst ec_; clear en_))
                 have GB16 := Aside0.mk gb16
                 have GG16 := Aside0.mk HG16
                 clear gb16 gl16 HG16
                 (first | simp only [add_plain] at hx225_0 | skip)
                 obtain ⟨oki16, ce16, hcl16, hM16, hcc16, _, _, hH16⟩ := Kd.S_elem HO_3.out [] (((rd_T50 l0_1 x4_1).f1) : Int) (of_decide_eq_true zA) (by have h_ : (((rd_T50 l0_1 x4_1).f1) : Int) < ((x3_1.length : Int) : Int) := of_decide_eq_true zA; first | exact h_ | (have e_ := (Kd.S_reads' HO_3.out).1; omega) | simpa using h_)
                 obtain ⟨ve16_0, rfl, ge16_0⟩ := hM16
                 have hv16 := hcc16 0 _ rfl
                 have hX16 := HX225_0.out
                 (try simp only [add_plain] at hX16)
                 (try simp only [Nat.add_zero] at hv16)
                 (try rw [show ((Kd.slice 3 (Kd.int .i64))).sz = 1 from rfl, Nat.mul_one] at hv16)
                 replace hv16 := Option.some.inj (hv16.symm.trans hX16)
                 subst hv16
                 clear hX16 hcc16 hcl16
                 have UU16 := zM (show Kd.R (Kd.int .i64) 3 _ w.heap.size oki16 (.slice A225_0 (rd_L1 x3_1 ((rd_T50 l0_1 x4_1).f1)).length c225_0) (rd_L1 x3_1 ((rd_T50 l0_1 x4_1).f1)) from ge16_0)
                 have HH16 := Aside0.mk hH16
                 have HN16 := zM (Kd.S_reads' HO_3.out).1
                 clear hH16 ge16_0
                 go_wp2_with (first | ((with_reducible refine gate_builtin (b := .append) (xs := #[.tmp 38, .tmp 40]) rfl ?_); at_builtin; refine Kd.R_append (Kd.int .i64) (w0 := w) w.heap.size rfl (.tmp 38) (.tmp 40) 37 3 (.int .i64 0) 8 rfl Try.underlying37 info3 rfl (by decide) (by omega) (.slice A225_0 (rd_L1 x3_1 ((rd_T50 l0_1 x4_1).f1)).length c225_0) (rd_L1 x3_1 ((rd_T50 l0_1 x4_1).f1)) ((rd_T50 l0_1 x4_1).f0) [.int .i64 ((rd_T50 l0_1 x4_1).f0)] (fun k_ => oki16 k_ ∨ ((fun _ => True)) k_ ∧ wr.heap.size ≤ k_) (fun _ => False) rfl rfl ?aP (fun _ hk => hk.elim) ?aF ?aO ?aB ?aS ?aL ?_; (case aP => exact rfl); (case aB => exact zB); (case aF => exact (fun k_ hk => .inr ⟨trivial, hk⟩)); (case aO => exact (by (with_reducible repeat (first | apply Kd.R_alloc | apply Kd.R_drewN | apply Kd.R_drew)); exact Kd.R_mono UU16.out (fun _ hk => .inl hk))); (case aS => exact (below_size zB)); (case aL => have := LMc12.out; omega); intro v227 w17 ho hb hg hat; rw [← Ny226.out] at ho; replace BK219 := zM (blk_grown (g := gb219) (o := .cells #[.slice A0_0 l0_0.length c0_0, .slice (some ad223) l0_1.length c0_1] 29 (0, 0)) (zK BK219.out) hg (Kd.R_ne HL225_0.out BK219.out (by decide))); replace HB := zM (hb); replace HH16 := zM (Kd.H_grown (Kd.H_widen (by repeat (first | exact HH16.out | refine Kd.H_alloc ?_ _ | refine Kd.H_drewN ?_ _ | refine Kd.H_drew ?_))) hg (fun k_ e_ => .inl (UU16.out.1 k_ e_))); have HO228 := zM (ho); clear HO_3 UU16 HL225_0; clear ho hb hg hat; have p13 : 0 ≤ (((rd_T50 l0_1 x4_1).f1) : Int) := of_decide_eq_true zA; have q13 : (((rd_T50 l0_1 x4_1).f1) : Int) < ((x3_1.length : Int) : Int) := of_decide_eq_true zA; replace p13 := eq_true p13; replace q13 := eq_true q13; obtain ⟨Ao20, co20, eo20⟩ := Kd.R_slice HO228.out; subst eo20; obtain ⟨_, _, hraw18, _, _, hcc18, _⟩ := Kd.H_raw HH16.out (of_decide_eq_true zA) (by have h_ : (((rd_T50 l0_1 x4_1).f1) : Int) < ((x3_1.length : Int) : Int) := of_decide_eq_true zA; first | exact h_ | (have e_ := (HN16.out); omega) | simpa using h_); obtain ⟨_, hfr18⟩ := Kd.H_at HH16.out (of_decide_eq_true zA) (by have h_ : (((rd_T50 l0_1 x4_1).f1) : Int) < ((x3_1.length : Int) : Int) := of_decide_eq_true zA; first | exact h_ | (have e_ := (HN16.out); omega) | simpa using h_); have hx18_0 := hcc18 0 _ rfl; have hf18_0 := hfr18 0; (try simp only [Nat.add_zero] at hx18_0 hf18_0); (try rw [show ((Kd.slice 3 (Kd.int .i64))).sz = 1 from rfl, Nat.mul_one] at hx18_0); (try rw [show ((Kd.slice 3 (Kd.int .i64))).sz = 1 from rfl, Nat.mul_one] at hf18_0); have HP18 := Kd.S_seg0 HH16.out (of_decide_eq_true zA) (by have h_ : (((rd_T50 l0_1 x4_1).f1) : Int) < ((x3_1.length : Int) : Int) := of_decide_eq_true zA; first | exact h_ | (have e_ := (HN16.out); omega) | simpa using h_) (seg := [.slice Ao20 y226.length co20]) (j := 0) (show 1 ≤ 1 from by decide) (x' := y226) (Kd.M_row HO228.out) (fun _ hk => hk); (try simp only [show ((Kd.slice 3 (Kd.int .i64))).sz = 1 from rfl, Nat.mul_one, Nat.add_zero] at HP18); clear hcc18 hfr18) | ((with_reducible refine gate_store (t := 37) (p := 42) rfl ?_); (try (rw [drewN_self w17]; generalize hq_ : World.drewN w17 _ = w17; have n0_ := zM (Kd.S_at hq_ HO_3.out); have n1_ := zM (blk_at hq_ BK219.out); have n2_ := zM (below_at hq_ HB.out); clear hq_ HO_3 BK219 HB; have HO_3 := n0_; have BK219 := n1_; have HB := n2_; clear n0_ n1_ n2_; (try (obtain ⟨Ao20, co20, eo20⟩ := Kd.R_slice HO228.out)); (try (subst eo20)); (try (obtain ⟨_, _, hraw18, _, _, hcc18, _⟩ := Kd.H_raw HH16.out (of_decide_eq_true zA) (by have h_ : (((rd_T50 l0_1 x4_1).f1) : Int) < ((x3_1.length : Int) : Int) := of_decide_eq_true zA; first | exact h_ | (have e_ := (HN16.out); omega) | simpa using h_))); (try (obtain ⟨_, hfr18⟩ := Kd.H_at HH16.out (of_decide_eq_true zA) (by have h_ : (((rd_T50 l0_1 x4_1).f1) : Int) < ((x3_1.length : Int) : Int) := of_decide_eq_true zA; first | exact h_ | (have e_ := (HN16.out); omega) | simpa using h_))); (try (have hx18_0 := hcc18 0 _ rfl)); (try (have hf18_0 := hfr18 0)); (try (try simp only [Nat.add_zero] at hx18_0 hf18_0)); (try (try rw [show ((Kd.slice 3 (Kd.int .i64))).sz = 1 from rfl, Nat.mul_one] at hx18_0)); (try (try rw [show ((Kd.slice 3 (Kd.int .i64))).sz = 1 from rfl, Nat.mul_one] at hf18_0)); (try (have HP18 := Kd.S_seg0 HH16.out (of_decide_eq_true zA) (by have h_ : (((rd_T50 l0_1 x4_1).f1) : Int) < ((x3_1.length : Int) : Int) := of_decide_eq_true zA; first | exact h_ | (have e_ := (HN16.out); omega) | simpa using h_) (seg := [.slice Ao20 y226.length co20]) (j := 0) (show 1 ≤ 1 from by decide) (x' := y226) (Kd.M_row HO228.out) (fun _ hk => hk))); (try (try simp only [show ((Kd.slice 3 (Kd.int .i64))).sz = 1 from rfl, Nat.mul_one, Nat.add_zero] at HP18)); (try (clear hcc18 hfr18)))); refine store_event (t := 37) (p := 42) (v := ?vo_w19) (w1 := (w17.setCell ⟨go16, (((rd_T50 l0_1 x4_1).f1) : Int).toNat, none⟩ (.slice Ao20 y226.length co20))) ?hg ?ho ?hn ?hr ?_; (case ho => rfl); (case hg => rfl); (case hn => rfl); (case hr => first | (go_simp; done) | (go_simp; rfl)); intro w19 hw; have hg : w17.grownBy w19 (some go16) := (by rw [hw]; exact HP18.2); have hp_ : Kd.S (Kd.slice 3 (Kd.int .i64)) 37 w19 w.heap.size (fun _ => True) (.slice (some ⟨go16, 0, none⟩) x3_1.length co15) y229 := (by rw [hw, Ny229.out]; exact HP18.1); clear HP18; replace BK219 := zM (blk_grown (g := gb219) (o := .cells #[.slice A0_0 l0_0.length c0_0, .slice (some ad223) l0_1.length c0_1] 29 (0, 0)) (zK BK219.out) hg (Kd.R_ne hraw18 BK219.out (by decide))); replace HB := zM ((by rw [hw]; exact below_set HB.out GB16.out : Below w.heap.size w w19)); have HO_3 := zM (hp_); clear HO228 HH16; clear hg hw hp_ hraw18))
                 repeat (go_quiet (first | ((with_reducible refine gate_builtin (b := .append) (xs := #[.tmp 38, .tmp 40]) rfl ?_); at_builtin; refine Kd.R_append (Kd.int .i64) (w0 := w) w.heap.size rfl (.tmp 38) (.tmp 40) 37 3 (.int .i64 0) 8 rfl Try.underlying37 info3 rfl (by decide) (by omega) (.slice A225_0 (rd_L1 x3_1 ((rd_T50 l0_1 x4_1).f1)).length c225_0) (rd_L1 x3_1 ((rd_T50 l0_1 x4_1).f1)) ((rd_T50 l0_1 x4_1).f0) [.int .i64 ((rd_T50 l0_1 x4_1).f0)] (fun k_ => oki16 k_ ∨ ((fun _ => True)) k_ ∧ wr.heap.size ≤ k_) (fun _ => False) rfl rfl ?aP (fun _ hk => hk.elim) ?aF ?aO ?aB ?aS ?aL ?_; (case aP => exact rfl); (case aB => exact zB); (case aF => exact (fun k_ hk => .inr ⟨trivial, hk⟩)); (case aO => exact (by (with_reducible repeat (first | apply Kd.R_alloc | apply Kd.R_drewN | apply Kd.R_drew)); exact Kd.R_mono UU16.out (fun _ hk => .inl hk))); (case aS => exact (below_size zB)); (case aL => have := LMc12.out; omega); intro v227 w17 ho hb hg hat; rw [← Ny226.out] at ho; replace BK219 := zM (blk_grown (g := gb219) (o := .cells #[.slice A0_0 l0_0.length c0_0, .slice (some ad223) l0_1.length c0_1] 29 (0, 0)) (zK BK219.out) hg (Kd.R_ne HL225_0.out BK219.out (by decide))); replace HB := zM (hb); replace HH16 := zM (Kd.H_grown (Kd.H_widen (by repeat (first | exact HH16.out | refine Kd.H_alloc ?_ _ | refine Kd.H_drewN ?_ _ | refine Kd.H_drew ?_))) hg (fun k_ e_ => .inl (UU16.out.1 k_ e_))); have HO228 := zM (ho); clear HO_3 UU16 HL225_0; clear ho hb hg hat; have p13 : 0 ≤ (((rd_T50 l0_1 x4_1).f1) : Int) := of_decide_eq_true zA; have q13 : (((rd_T50 l0_1 x4_1).f1) : Int) < ((x3_1.length : Int) : Int) := of_decide_eq_true zA; replace p13 := eq_true p13; replace q13 := eq_true q13; obtain ⟨Ao20, co20, eo20⟩ := Kd.R_slice HO228.out; subst eo20; obtain ⟨_, _, hraw18, _, _, hcc18, _⟩ := Kd.H_raw HH16.out (of_decide_eq_true zA) (by have h_ : (((rd_T50 l0_1 x4_1).f1) : Int) < ((x3_1.length : Int) : Int) := of_decide_eq_true zA; first | exact h_ | (have e_ := (HN16.out); omega) | simpa using h_); obtain ⟨_, hfr18⟩ := Kd.H_at HH16.out (of_decide_eq_true zA) (by have h_ : (((rd_T50 l0_1 x4_1).f1) : Int) < ((x3_1.length : Int) : Int) := of_decide_eq_true zA; first | exact h_ | (have e_ := (HN16.out); omega) | simpa using h_); have hx18_0 := hcc18 0 _ rfl; have hf18_0 := hfr18 0; (try simp only [Nat.add_zero] at hx18_0 hf18_0); (try rw [show ((Kd.slice 3 (Kd.int .i64))).sz = 1 from rfl, Nat.mul_one] at hx18_0); (try rw [show ((Kd.slice 3 (Kd.int .i64))).sz = 1 from rfl, Nat.mul_one] at hf18_0); have HP18 := Kd.S_seg0 HH16.out (of_decide_eq_true zA) (by have h_ : (((rd_T50 l0_1 x4_1).f1) : Int) < ((x3_1.length : Int) : Int) := of_decide_eq_true zA; first | exact h_ | (have e_ := (HN16.out); omega) | simpa using h_) (seg := [.slice Ao20 y226.length co20]) (j := 0) (show 1 ≤ 1 from by decide) (x' := y226) (Kd.M_row HO228.out) (fun _ hk => hk); (try simp only [show ((Kd.slice 3 (Kd.int .i64))).sz = 1 from rfl, Nat.mul_one, Nat.add_zero] at HP18); clear hcc18 hfr18) | ((with_reducible refine gate_store (t := 37) (p := 42) rfl ?_); (try (rw [drewN_self w17]; generalize hq_ : World.drewN w17 _ = w17; have n0_ := zM (Kd.S_at hq_ HO_3.out); have n1_ := zM (blk_at hq_ BK219.out); have n2_ := zM (below_at hq_ HB.out); clear hq_ HO_3 BK219 HB; have HO_3 := n0_; have BK219 := n1_; have HB := n2_; clear n0_ n1_ n2_; (try (obtain ⟨Ao20, co20, eo20⟩ := Kd.R_slice HO228.out)); (try (subst eo20)); (try (obtain ⟨_, _, hraw18, _, _, hcc18, _⟩ := Kd.H_raw HH16.out (of_decide_eq_true zA) (by have h_ : (((rd_T50 l0_1 x4_1).f1) : Int) < ((x3_1.length : Int) : Int) := of_decide_eq_true zA; first | exact h_ | (have e_ := (HN16.out); omega) | simpa using h_))); (try (obtain ⟨_, hfr18⟩ := Kd.H_at HH16.out (of_decide_eq_true zA) (by have h_ : (((rd_T50 l0_1 x4_1).f1) : Int) < ((x3_1.length : Int) : Int) := of_decide_eq_true zA; first | exact h_ | (have e_ := (HN16.out); omega) | simpa using h_))); (try (have hx18_0 := hcc18 0 _ rfl)); (try (have hf18_0 := hfr18 0)); (try (try simp only [Nat.add_zero] at hx18_0 hf18_0)); (try (try rw [show ((Kd.slice 3 (Kd.int .i64))).sz = 1 from rfl, Nat.mul_one] at hx18_0)); (try (try rw [show ((Kd.slice 3 (Kd.int .i64))).sz = 1 from rfl, Nat.mul_one] at hf18_0)); (try (have HP18 := Kd.S_seg0 HH16.out (of_decide_eq_true zA) (by have h_ : (((rd_T50 l0_1 x4_1).f1) : Int) < ((x3_1.length : Int) : Int) := of_decide_eq_true zA; first | exact h_ | (have e_ := (HN16.out); omega) | simpa using h_) (seg := [.slice Ao20 y226.length co20]) (j := 0) (show 1 ≤ 1 from by decide) (x' := y226) (Kd.M_row HO228.out) (fun _ hk => hk))); (try (try simp only [show ((Kd.slice 3 (Kd.int .i64))).sz = 1 from rfl, Nat.mul_one, Nat.add_zero] at HP18)); (try (clear hcc18 hfr18)))); refine store_event (t := 37) (p := 42) (v := ?vo_w19) (w1 := (w17.setCell ⟨go16, (((rd_T50 l0_1 x4_1).f1) : Int).toNat, none⟩ (.slice Ao20 y226.length co20))) ?hg ?ho ?hn ?hr ?_; (case ho => rfl); (case hg => rfl); (case hn => rfl); (case hr => first | (go_simp; done) | (go_simp; rfl)); intro w19 hw; have hg : w17.grownBy w19 (some go16) := (by rw [hw]; exact HP18.2); have hp_ : Kd.S (Kd.slice 3 (Kd.int .i64)) 37 w19 w.heap.size (fun _ => True) (.slice (some ⟨go16, 0, none⟩) x3_1.length co15) y229 := (by rw [hw, Ny229.out]; exact HP18.1); clear HP18; replace BK219 := zM (blk_grown (g := gb219) (o := .cells #[.slice A0_0 l0_0.length c0_0, .slice (some ad223) l0_1.length c0_1] 29 (0, 0)) (zK BK219.out) hg (Kd.R_ne hraw18 BK219.out (by decide))); replace HB := zM ((by rw [hw]; exact below_set HB.out GB16.out : Below w.heap.size w w19)); have HO_3 := zM (hp_); clear HO228 HH16; clear hg hw hp_ hraw18)); try go_wp2_with (first | ((with_reducible refine gate_builtin (b := .append) (xs := #[.tmp 38, .tmp 40]) rfl ?_); at_builtin; refine Kd.R_append (Kd.int .i64) (w0 := w) w.heap.size rfl (.tmp 38) (.tmp 40) 37 3 (.int .i64 0) 8 rfl Try.underlying37 info3 rfl (by decide) (by omega) (.slice A225_0 (rd_L1 x3_1 ((rd_T50 l0_1 x4_1).f1)).length c225_0) (rd_L1 x3_1 ((rd_T50 l0_1 x4_1).f1)) ((rd_T50 l0_1 x4_1).f0) [.int .i64 ((rd_T50 l0_1 x4_1).f0)] (fun k_ => oki16 k_ ∨ ((fun _ => True)) k_ ∧ wr.heap.size ≤ k_) (fun _ => False) rfl rfl ?aP (fun _ hk => hk.elim) ?aF ?aO ?aB ?aS ?aL ?_; (case aP => exact rfl); (case aB => exact zB); (case aF => exact (fun k_ hk => .inr ⟨trivial, hk⟩)); (case aO => exact (by (with_reducible repeat (first | apply Kd.R_alloc | apply Kd.R_drewN | apply Kd.R_drew)); exact Kd.R_mono UU16.out (fun _ hk => .inl hk))); (case aS => exact (below_size zB)); (case aL => have := LMc12.out; omega); intro v227 w17 ho hb hg hat; rw [← Ny226.out] at ho; replace BK219 := zM (blk_grown (g := gb219) (o := .cells #[.slice A0_0 l0_0.length c0_0, .slice (some ad223) l0_1.length c0_1] 29 (0, 0)) (zK BK219.out) hg (Kd.R_ne HL225_0.out BK219.out (by decide))); replace HB := zM (hb); replace HH16 := zM (Kd.H_grown (Kd.H_widen (by repeat (first | exact HH16.out | refine Kd.H_alloc ?_ _ | refine Kd.H_drewN ?_ _ | refine Kd.H_drew ?_))) hg (fun k_ e_ => .inl (UU16.out.1 k_ e_))); have HO228 := zM (ho); clear HO_3 UU16 HL225_0; clear ho hb hg hat; have p13 : 0 ≤ (((rd_T50 l0_1 x4_1).f1) : Int) := of_decide_eq_true zA; have q13 : (((rd_T50 l0_1 x4_1).f1) : Int) < ((x3_1.length : Int) : Int) := of_decide_eq_true zA; replace p13 := eq_true p13; replace q13 := eq_true q13; obtain ⟨Ao20, co20, eo20⟩ := Kd.R_slice HO228.out; subst eo20; obtain ⟨_, _, hraw18, _, _, hcc18, _⟩ := Kd.H_raw HH16.out (of_decide_eq_true zA) (by have h_ : (((rd_T50 l0_1 x4_1).f1) : Int) < ((x3_1.length : Int) : Int) := of_decide_eq_true zA; first | exact h_ | (have e_ := (HN16.out); omega) | simpa using h_); obtain ⟨_, hfr18⟩ := Kd.H_at HH16.out (of_decide_eq_true zA) (by have h_ : (((rd_T50 l0_1 x4_1).f1) : Int) < ((x3_1.length : Int) : Int) := of_decide_eq_true zA; first | exact h_ | (have e_ := (HN16.out); omega) | simpa using h_); have hx18_0 := hcc18 0 _ rfl; have hf18_0 := hfr18 0; (try simp only [Nat.add_zero] at hx18_0 hf18_0); (try rw [show ((Kd.slice 3 (Kd.int .i64))).sz = 1 from rfl, Nat.mul_one] at hx18_0); (try rw [show ((Kd.slice 3 (Kd.int .i64))).sz = 1 from rfl, Nat.mul_one] at hf18_0); have HP18 := Kd.S_seg0 HH16.out (of_decide_eq_true zA) (by have h_ : (((rd_T50 l0_1 x4_1).f1) : Int) < ((x3_1.length : Int) : Int) := of_decide_eq_true zA; first | exact h_ | (have e_ := (HN16.out); omega) | simpa using h_) (seg := [.slice Ao20 y226.length co20]) (j := 0) (show 1 ≤ 1 from by decide) (x' := y226) (Kd.M_row HO228.out) (fun _ hk => hk); (try simp only [show ((Kd.slice 3 (Kd.int .i64))).sz = 1 from rfl, Nat.mul_one, Nat.add_zero] at HP18); clear hcc18 hfr18) | ((with_reducible refine gate_store (t := 37) (p := 42) rfl ?_); (try (rw [drewN_self w17]; generalize hq_ : World.drewN w17 _ = w17; have n0_ := zM (Kd.S_at hq_ HO_3.out); have n1_ := zM (blk_at hq_ BK219.out); have n2_ := zM (below_at hq_ HB.out); clear hq_ HO_3 BK219 HB; have HO_3 := n0_; have BK219 := n1_; have HB := n2_; clear n0_ n1_ n2_; (try (obtain ⟨Ao20, co20, eo20⟩ := Kd.R_slice HO228.out)); (try (subst eo20)); (try (obtain ⟨_, _, hraw18, _, _, hcc18, _⟩ := Kd.H_raw HH16.out (of_decide_eq_true zA) (by have h_ : (((rd_T50 l0_1 x4_1).f1) : Int) < ((x3_1.length : Int) : Int) := of_decide_eq_true zA; first | exact h_ | (have e_ := (HN16.out); omega) | simpa using h_))); (try (obtain ⟨_, hfr18⟩ := Kd.H_at HH16.out (of_decide_eq_true zA) (by have h_ : (((rd_T50 l0_1 x4_1).f1) : Int) < ((x3_1.length : Int) : Int) := of_decide_eq_true zA; first | exact h_ | (have e_ := (HN16.out); omega) | simpa using h_))); (try (have hx18_0 := hcc18 0 _ rfl)); (try (have hf18_0 := hfr18 0)); (try (try simp only [Nat.add_zero] at hx18_0 hf18_0)); (try (try rw [show ((Kd.slice 3 (Kd.int .i64))).sz = 1 from rfl, Nat.mul_one] at hx18_0)); (try (try rw [show ((Kd.slice 3 (Kd.int .i64))).sz = 1 from rfl, Nat.mul_one] at hf18_0)); (try (have HP18 := Kd.S_seg0 HH16.out (of_decide_eq_true zA) (by have h_ : (((rd_T50 l0_1 x4_1).f1) : Int) < ((x3_1.length : Int) : Int) := of_decide_eq_true zA; first | exact h_ | (have e_ := (HN16.out); omega) | simpa using h_) (seg := [.slice Ao20 y226.length co20]) (j := 0) (show 1 ≤ 1 from by decide) (x' := y226) (Kd.M_row HO228.out) (fun _ hk => hk))); (try (try simp only [show ((Kd.slice 3 (Kd.int .i64))).sz = 1 from rfl, Nat.mul_one, Nat.add_zero] at HP18)); (try (clear hcc18 hfr18)))); refine store_event (t := 37) (p := 42) (v := ?vo_w19) (w1 := (w17.setCell ⟨go16, (((rd_T50 l0_1 x4_1).f1) : Int).toNat, none⟩ (.slice Ao20 y226.length co20))) ?hg ?ho ?hn ?hr ?_; (case ho => rfl); (case hg => rfl); (case hn => rfl); (case hr => first | (go_simp; done) | (go_simp; rfl)); intro w19 hw; have hg : w17.grownBy w19 (some go16) := (by rw [hw]; exact HP18.2); have hp_ : Kd.S (Kd.slice 3 (Kd.int .i64)) 37 w19 w.heap.size (fun _ => True) (.slice (some ⟨go16, 0, none⟩) x3_1.length co15) y229 := (by rw [hw, Ny229.out]; exact HP18.1); clear HP18; replace BK219 := zM (blk_grown (g := gb219) (o := .cells #[.slice A0_0 l0_0.length c0_0, .slice (some ad223) l0_1.length c0_1] 29 (0, 0)) (zK BK219.out) hg (Kd.R_ne hraw18 BK219.out (by decide))); replace HB := zM ((by rw [hw]; exact below_set HB.out GB16.out : Below w.heap.size w w19)); have HO_3 := zM (hp_); clear HO228 HH16; clear hg hw hp_ hraw18)))
                 go_roundg k1
                 case measure => have := HK1.out; omega
                 case rel => exact ⟨(y229), (wrap64 (x4_1 + 1)), (by first | rfl | (simp; done) | (simp [*]; done)), H', ⟨by have := HK1.out; omega⟩, ⟨by (with_reducible repeat (first | apply Kd.S_alloc | apply Kd.S_drewN | apply Kd.S_drew)); exact HO_3.out⟩, ⟨zK BK219.out⟩, ⟨zB⟩⟩
               · rw [if_neg c12] at H
                 exact absurd H (by simp)
             · rw [if_neg c11] at H
               exact absurd H (by simp)
           · rw [if_neg c10] at H
             exact absurd H (by simp)
         · rw [if_neg c9] at H
           exact absurd H (by simp)
       · rw [if_neg c8] at H
         have c8b0 : decide (x4_1 < (l0_1.length : Int)) = false := decide_eq_false c8
         clear c8
         have H' := Aside0.mk H
         clear H
         have hcz21_0 := zy BK219 0
         have hcz21_1 := zy BK219 1
         have hfz21_0 := blk_frozen BK219.out 0
         have hfz21_1 := blk_frozen BK219.out 1
         go_wp2
         repeat (go_quiet (fail); try go_wp2)
         go_loopg [7] k1 (fun kq v7 w' => ∃ (x3_2 : List (List Int)) (x7_2 : Int), v7 = .int .i64 x7_2 ∧ Aside0 (spec_l2Lists.l1 kq x3_2 x7_2 l0_0 l0_1 = some r) ∧ Aside0 (kq ≤ k1) ∧ Aside0 (Kd.S (Kd.slice 3 (Kd.int .i64)) 37 w' w.heap.size (fun _ => True) v221 x3_2) ∧ Aside0 (w'.heap[gb219]? = some (.cells #[(.slice A0_0 l0_0.length c0_0), (.slice A0_1 l0_1.length c0_1)] 29 (0, 0))) ∧ Aside0 (Below w.heap.size w w'))
         case atStart => exact ⟨(x3_1), (0), (by first | rfl | (simp; done) | (simp [*]; done)), H', ⟨Nat.le_refl _⟩, ⟨by (with_reducible repeat (first | apply Kd.S_alloc | apply Kd.S_drewN | apply Kd.S_drew)); exact HO_3.out⟩, ⟨zK BK219.out⟩, ⟨zB⟩⟩
         case round =>
          clear H'
          try clear c1
          try clear p1
          try clear q1
          try clear hx1
          try clear hf1
          try clear c2
          try clear c2b0
          try clear c2b1
          try clear p2
          try clear q2
          try clear hx2
          try clear c3
          try clear c3b0
          try clear c3b1
          try clear p6
          try clear c8
          try clear c8b0
          try clear c9
          try clear c9b0
          try clear c10
          try clear c10b0
          try clear c11
          try clear c11b0
          try clear c12
          try clear p13
          try clear q13
          try clear c16
          try clear c18
          try clear hx18
          try clear hf18
          try clear hcz14_0
          try clear hcz14_1
          try clear hcz21_0
          try clear hcz21_1
          try clear hcz5_0
          try clear hcz5_1
          try clear hfz14_0
          try clear hfz14_1
          try clear hfz21_0
          try clear hfz21_1
          try clear hfz5_0
          try clear hfz5_1
          try clear hx18_0
          try clear hx223_0
          try clear hx223_1
          try clear hx224_0
          try clear hx224_1
          try clear hx225_0
          try clear p13
          try clear p2
          try clear p223
          try clear p224
          try clear p225
          try clear q13
          try clear q223
          try clear q224
          try clear q225
          obtain ⟨x3_2, x7_2, rfl, HA, HK2, HO_3, BK219, HB⟩ := hrel
          cases gk with
          | zero => exact absurd HA.out (by simp [spec_l2Lists.l1])
          | succ k2 =>
           have H := HA.out
           clear HA
           simp only [spec_l2Lists.l1] at H
           by_cases c22 : x7_2 < (l0_1.length : Int)
           · rw [if_pos c22] at H
             have c22b0 := decide_eq_true c22
             clear c22
             by_cases c23 : 0 ≤ x7_2
             · rw [if_pos c23] at H
               have c23b0 := decide_eq_true c23
               clear c23
               by_cases c24 : 0 ≤ ((rd_T50 l0_1 x7_2).f0)
               · rw [if_pos c24] at H
                 have c24b0 := decide_eq_true c24
                 clear c24
                 by_cases c25 : ((rd_T50 l0_1 x7_2).f0) < (x3_2.length : Int)
                 · rw [if_pos c25] at H
                   have c25b0 := decide_eq_true c25
                   clear c25
                   by_cases c26 : (rd_L1 x3_2 ((rd_T50 l0_1 x7_2).f0)).length < 17592186044416
                   · rw [if_pos c26] at H
                     have LMc26 := Aside0.mk c26
                     clear c26
                     obtain ⟨y233, hy233⟩ : ∃ y_ : List Int, y_ = ((rd_L1 x3_2 ((rd_T50 l0_1 x7_2).f0)) ++ [(rd_T50 l0_1 x7_2).f1]) := ⟨_, rfl⟩
                     replace H : (spec_l2Lists.l1 k2 (x3_2.set (((rd_T50 l0_1 x7_2).f0) : Int).toNat y233) (wrap64 (x7_2 + 1)) l0_0 l0_1) = some r := by first | (rw [hy233]; with_reducible exact H) | (have H2_ := (Option.bind_some _ _).symm.trans H; rw [hy233]; with_reducible exact H2_) | (have H2_ := (Option.bind_some _ _).symm.trans H; with_reducible exact H2_) | with_reducible exact H | (rw [hy233]; exact H) | exact H
                     have Ny233 := Aside0.mk hy233
                     clear hy233
                     obtain ⟨y236, hy236⟩ : ∃ y_ : List (List Int), y_ = (x3_2.set (((rd_T50 l0_1 x7_2).f0) : Int).toNat y233) := ⟨_, rfl⟩
                     replace H : (spec_l2Lists.l1 k2 y236 (wrap64 (x7_2 + 1)) l0_0 l0_1) = some r := by first | (rw [hy236]; with_reducible exact H) | (have H2_ := (Option.bind_some _ _).symm.trans H; rw [hy236]; with_reducible exact H2_) | (have H2_ := (Option.bind_some _ _).symm.trans H; with_reducible exact H2_) | with_reducible exact H | (rw [hy236]; exact H) | exact H
                     have Ny236 := Aside0.mk hy236
                     clear hy236
                     have H' := Aside0.mk H
                     clear H
                     have hcz28_0 := zy BK219 0
                     have hcz28_1 := zy BK219 1
                     have hfz28_0 := blk_frozen BK219.out 0
                     have hfz28_1 := blk_frozen BK219.out 1
                     have p230 : 0 ≤ (x7_2 : Int) := of_decide_eq_true zA
                     have q230 : x7_2 < (l0_1.length : Int) := of_decide_eq_true zA
                     obtain ⟨ad230, e230, hx230_0, hx230_1⟩ := at_T50 HR0_1.out x7_2 p230 q230
                     cases e230
                     (try replace hx230_0 := (HB.out.cell (World.block_lt_of_cell? w _ hx230_0)).trans hx230_0)
                     (try replace hx230_1 := (HB.out.cell (World.block_lt_of_cell? w _ hx230_1)).trans hx230_1)
                     replace p230 := eq_true p230
                     replace q230 := eq_true q230
                     have p231 : 0 ≤ (x7_2 : Int) := of_decide_eq_true zA
                     have q231 : x7_2 < (l0_1.length : Int) := of_decide_eq_true zA
                     obtain ⟨ad231, e231, hx231_0, hx231_1⟩ := at_T50 HR0_1.out x7_2 p231 q231
                     obtain rfl : ad230 = ad231 := (by injection e231)
                     (try replace hx231_0 := (HB.out.cell (World.block_lt_of_cell? w _ hx231_0)).trans hx231_0)
                     (try replace hx231_1 := (HB.out.cell (World.block_lt_of_cell? w _ hx231_1)).trans hx231_1)
                     replace p231 := eq_true p231
                     replace q231 := eq_true q231
                     obtain ⟨Ao29, co29, eo29⟩ := Kd.S_slice HO_3.out
                     subst eo29
                     have p232 : 0 ≤ (((rd_T50 l0_1 x7_2).f0) : Int) := of_decide_eq_true zA
                     have q232 : ((rd_T50 l0_1 x7_2).f0) < (x3_2.length : Int) := of_decide_eq_true zA
                     obtain ⟨ad232, A232_0, c232_0, e232, hx232_0, hl232_0, hi232_0⟩ := at_L1 (Kd.S_reads' HO_3.out).2.2 ((rd_T50 l0_1 x7_2).f0) p232 q232
                     cases e232
                     obtain ⟨ce232, hce232, hMe232, hcc232⟩ := Kd.S_get HO_3.out [] ((rd_T50 l0_1 x7_2).f0) p232 (by first | exact q232 | exact of_decide_eq_true zA | (have e_ := (Kd.S_reads' HO_3.out).1; omega))
                     obtain ⟨ve232_0, rfl, ge232_0⟩ := hMe232
                     have hv232_0 := hcc232 0 _ rfl
                     rw [Nat.add_zero, show ((Kd.slice 3 (Kd.int .i64))).sz = 1 from rfl, Nat.mul_one] at hv232_0
                     replace hv232_0 := Option.some.inj (hv232_0.symm.trans hx232_0)
                     rw [hv232_0] at ge232_0
                     have HL232_0 := zM (show Kd.R (Kd.int .i64) 3 _ _ _ _ (rd_L1 x3_2 ((rd_T50 l0_1 x7_2).f0)) from ge232_0)
                     clear hv232_0 ge232_0
                     have HX232_0 := Aside0.mk hx232_0
                     clear hcc232 hce232
                     have HR232_0 := Aside0.mk hi232_0
                     have HC232_0 := Aside0.mk hl232_0
                     clear hi232_0 hl232_0
                     replace p232 := eq_true p232
                     replace q232 := eq_true q232
                     obtain ⟨go30, co30, eo30, gb30, gl30, cl30, HG30⟩ := Kd.S_form HO_3.out (by have h_ : (((rd_T50 l0_1 x7_2).f0) : Int) < ((x3_2.length : Int) : Int) := of_decide_eq_true zA; have h2_ : 0 ≤ (((rd_T50 l0_1 x7_2).f0) : Int) := (of_decide_eq_true zA); omega)
                     (first | cases eo30 | (injection eo30 with ea_ en_ ec_; (first | subst ea_ | (injection ea_ with ea_; subst ea_)); subst ec_; clear en_))
                     have GB30 := Aside0.mk gb30
                     have GG30 := Aside0.mk HG30
                     clear gb30 gl30 HG30
                     (first | simp only [add_plain] at hx232_0 | skip)
                     obtain ⟨oki30, ce30, hcl30, hM30, hcc30, _, _, hH30⟩ := Kd.S_elem HO_3.out [] (((rd_T50 l0_1 x7_2).f0) : Int) (of_decide_eq_true zA) (by have h_ : (((rd_T50 l0_1 x7_2).f0) : Int) < ((x3_2.length : Int) : Int) := of_decide_eq_true zA; first | exact h_ | (have e_ := (Kd.S_reads' HO_3.out).1; omega) | simpa using h_)
                     obtain ⟨ve30_0, rfl, ge30_0⟩ := hM30
                     have hv30 := hcc30 0 _ rfl
                     have hX30 := HX232_0.out
                     (try simp only [add_plain] at hX30)
                     (try simp only [Nat.add_zero] at hv30)
                     (try rw [show ((Kd.slice 3 (Kd.int .i64))).sz = 1 from rfl, Nat.mul_one] at hv30)
                     replace hv30 := Option.some.inj (hv30.symm.trans hX30)
                     subst hv30
                     clear hX30 hcc30 hcl30
                     have UU30 := zM (show Kd.R (Kd.int .i64) 3 _ w.heap.size oki30 (.slice A232_0 (rd_L1 x3_2 ((rd_T50 l0_1 x7_2).f0)).length c232_0) (rd_L1 x3_2 ((rd_T50 l0_1 x7_2).f0)) from ge30_0)
                     have HH30 := Aside0.mk hH30
                     have HN30 := zM (Kd.S_reads' HO_3.out).1
                     clear hH30 ge30_0
                     go_wp2_with (first | ((with_reducible refine gate_builtin (b := .append) (xs := #[.tmp 67, .tmp 69]) rfl ?_); at_builtin; refine Kd.R_append (Kd.int .i64) (w0 := w) w.heap.size rfl (.tmp 67) (.tmp 69) 37 3 (.int .i64 0) 8 rfl Try.underlying37 info3 rfl (by decide) (by omega) (.slice A232_0 (rd_L1 x3_2 ((rd_T50 l0_1 x7_2).f0)).length c232_0) (rd_L1 x3_2 ((rd_T50 l0_1 x7_2).f0)) ((rd_T50 l0_1 x7_2).f1) [.int .i64 ((rd_T50 l0_1 x7_2).f1)] (fun k_ => oki30 k_ ∨ ((fun _ => True)) k_ ∧ wr.heap.size ≤ k_) (fun _ => False) rfl rfl ?aP (fun _ hk => hk.elim) ?aF ?aO ?aB ?aS ?aL ?_; (case aP => exact rfl); (case aB => exact zB); (case aF => exact (fun k_ hk => .inr ⟨trivial, hk⟩)); (case aO => exact (by (with_reducible repeat (first | apply Kd.R_alloc | apply Kd.R_drewN | apply Kd.R_drew)); exact Kd.R_mono UU30.out (fun _ hk => .inl hk))); (case aS => exact (below_size zB)); (case aL => have := LMc26.out; omega); intro v234 w31 ho hb hg hat; rw [← Ny233.out] at ho; replace BK219 := zM (blk_grown (g := gb219) (o := .cells #[.slice A0_0 l0_0.length c0_0, .slice (some ad230) l0_1.length c0_1] 29 (0, 0)) (zK BK219.out) hg (Kd.R_ne HL232_0.out BK219.out (by decide))); replace HB := zM (hb); replace HH30 := zM (Kd.H_grown (Kd.H_widen (by repeat (first | exact HH30.out | refine Kd.H_alloc ?_ _ | refine Kd.H_drewN ?_ _ | refine Kd.H_drew ?_))) hg (fun k_ e_ => .inl (UU30.out.1 k_ e_))); have HO235 := zM (ho); clear HO_3 UU30 HL232_0; clear ho hb hg hat; have p27 : 0 ≤ (((rd_T50 l0_1 x7_2).f0) : Int) := of_decide_eq_true zA; have q27 : (((rd_T50 l0_1 x7_2).f0) : Int) < ((x3_2.length : Int) : Int) := of_decide_eq_true zA; replace p27 := eq_true p27; replace q27 := eq_true q27; obtain ⟨Ao34, co34, eo34⟩ := Kd.R_slice HO235.out; subst eo34; obtain ⟨_, _, hraw32, _, _, hcc32, _⟩ := Kd.H_raw HH30.out (of_decide_eq_true zA) (by have h_ : (((rd_T50 l0_1 x7_2).f0) : Int) < ((x3_2.length : Int) : Int) := of_decide_eq_true zA; first | exact h_ | (have e_ := (HN30.out); omega) | simpa using h_); obtain ⟨_, hfr32⟩ := Kd.H_at HH30.out (of_decide_eq_true zA) (by have h_ : (((rd_T50 l0_1 x7_2).f0) : Int) < ((x3_2.length : Int) : Int) := of_decide_eq_true zA; first | exact h_ | (have e_ := (HN30.out); omega) | simpa using h_); have hx32_0 := hcc32 0 _ rfl; have hf32_0 := hfr32 0; (try simp only [Nat.add_zero] at hx32_0 hf32_0); (try rw [show ((Kd.slice 3 (Kd.int .i64))).sz = 1 from rfl, Nat.mul_one] at hx32_0); (try rw [show ((Kd.slice 3 (Kd.int .i64))).sz = 1 from rfl, Nat.mul_one] at hf32_0); have HP32 := Kd.S_seg0 HH30.out (of_decide_eq_true zA) (by have h_ : (((rd_T50 l0_1 x7_2).f0) : Int) < ((x3_2.length : Int) : Int) := of_decide_eq_true zA; first | exact h_ | (have e_ := (HN30.out); omega) | simpa using h_) (seg := [.slice Ao34 y233.length co34]) (j := 0) (show 1 ≤ 1 from by decide) (x' := y233) (Kd.M_row HO235.out) (fun _ hk => hk); (try simp only [show ((Kd.slice 3 (Kd.int .i64))).sz = 1 from rfl, Nat.mul_one, Nat.add_zero] at HP32); clear hcc32 hfr32) | ((with_reducible refine gate_store (t := 37) (p := 71) rfl ?_); (try (rw [drewN_self w31]; generalize hq_ : World.drewN w31 _ = w31; have n0_ := zM (Kd.S_at hq_ HO_3.out); have n1_ := zM (blk_at hq_ BK219.out); have n2_ := zM (below_at hq_ HB.out); clear hq_ HO_3 BK219 HB; have HO_3 := n0_; have BK219 := n1_; have HB := n2_; clear n0_ n1_ n2_; (try (obtain ⟨Ao34, co34, eo34⟩ := Kd.R_slice HO235.out)); (try (subst eo34)); (try (obtain ⟨_, _, hraw32, _, _, hcc32, _⟩ := Kd.H_raw HH30.out (of_decide_eq_true zA) (by have h_ : (((rd_T50 l0_1 x7_2).f0) : Int) < ((x3_2.length : Int) : Int) := of_decide_eq_true zA; first | exact h_ | (have e_ := (HN30.out); omega) | simpa using h_))); (try (obtain ⟨_, hfr32⟩ := Kd.H_at HH30.out (of_decide_eq_true zA) (by have h_ : (((rd_T50 l0_1 x7_2).f0) : Int) < ((x3_2.length : Int) : Int) := of_decide_eq_true zA; first | exact h_ | (have e_ := (HN30.out); omega) | simpa using h_))); (try (have hx32_0 := hcc32 0 _ rfl)); (try (have hf32_0 := hfr32 0)); (try (try simp only [Nat.add_zero] at hx32_0 hf32_0)); (try (try rw [show ((Kd.slice 3 (Kd.int .i64))).sz = 1 from rfl, Nat.mul_one] at hx32_0)); (try (try rw [show ((Kd.slice 3 (Kd.int .i64))).sz = 1 from rfl, Nat.mul_one] at hf32_0)); (try (have HP32 := Kd.S_seg0 HH30.out (of_decide_eq_true zA) (by have h_ : (((rd_T50 l0_1 x7_2).f0) : Int) < ((x3_2.length : Int) : Int) := of_decide_eq_true zA; first | exact h_ | (have e_ := (HN30.out); omega) | simpa using h_) (seg := [.slice Ao34 y233.length co34]) (j := 0) (show 1 ≤ 1 from by decide) (x' := y233) (Kd.M_row HO235.out) (fun _ hk => hk))); (try (try simp only [show ((Kd.slice 3 (Kd.int .i64))).sz = 1 from rfl, Nat.mul_one, Nat.add_zero] at HP32)); (try (clear hcc32 hfr32)))); refine store_event (t := 37) (p := 71) (v := ?vo_w33) (w1 := (w31.setCell ⟨go30, (((rd_T50 l0_1 x7_2).f0) : Int).toNat, none⟩ (.slice Ao34 y233.length co34))) ?hg ?ho ?hn ?hr ?_; (case ho => rfl); (case hg => rfl); (case hn => rfl); (case hr => first | (go_simp; done) | (go_simp; rfl)); intro w33 hw; have hg : w31.grownBy w33 (some go30) := (by rw [hw]; exact HP32.2); have hp_ : Kd.S (Kd.slice 3 (Kd.int .i64)) 37 w33 w.heap.size (fun _ => True) (.slice (some ⟨go30, 0, none⟩) x3_2.length co29) y236 := (by rw [hw, Ny236.out]; exact HP32.1); clear HP32; replace BK219 := zM (blk_grown (g := gb219) (o := .cells #[.slice A0_0 l0_0.length c0_0, .slice (some ad230) l0_1.length c0_1] 29 (0, 0)) (zK BK219.out) hg (Kd.R_ne hraw32 BK219.out (by decide))); replace HB := zM ((by rw [hw]; exact below_set HB.out GB30.out : Below w.heap.size w w33)); have HO_3 := zM (hp_); clear HO235 HH30; clear hg hw hp_ hraw32))
                     repeat (go_quiet (first | ((with_reducible refine gate_builtin (b := .append) (xs := #[.tmp 67, .tmp 69]) rfl ?_); at_builtin; refine Kd.R_append (Kd.int .i64) (w0 := w) w.heap.size rfl (.tmp 67) (.tmp 69) 37 3 (.int .i64 0) 8 rfl Try.underlying37 info3 rfl (by decide) (by omega) (.slice A232_0 (rd_L1 x3_2 ((rd_T50 l0_1 x7_2).f0)).length c232_0) (rd_L1 x3_2 ((rd_T50 l0_1 x7_2).f0)) ((rd_T50 l0_1 x7_2).f1) [.int .i64 ((rd_T50 l0_1 x7_2).f1)] (fun k_ => oki30 k_ ∨ ((fun _ => True)) k_ ∧ wr.heap.size ≤ k_) (fun _ => False) rfl rfl ?aP (fun _ hk => hk.elim) ?aF ?aO ?aB ?aS ?aL ?_; (case aP => exact rfl); (case aB => exact zB); (case aF => exact (fun k_ hk => .inr ⟨trivial, hk⟩)); (case aO => exact (by (with_reducible repeat (first | apply Kd.R_alloc | apply Kd.R_drewN | apply Kd.R_drew)); exact Kd.R_mono UU30.out (fun _ hk => .inl hk))); (case aS => exact (below_size zB)); (case aL => have := LMc26.out; omega); intro v234 w31 ho hb hg hat; rw [← Ny233.out] at ho; replace BK219 := zM (blk_grown (g := gb219) (o := .cells #[.slice A0_0 l0_0.length c0_0, .slice (some ad230) l0_1.length c0_1] 29 (0, 0)) (zK BK219.out) hg (Kd.R_ne HL232_0.out BK219.out (by decide))); replace HB := zM (hb); replace HH30 := zM (Kd.H_grown (Kd.H_widen (by repeat (first | exact HH30.out | refine Kd.H_alloc ?_ _ | refine Kd.H_drewN ?_ _ | refine Kd.H_drew ?_))) hg (fun k_ e_ => .inl (UU30.out.1 k_ e_))); have HO235 := zM (ho); clear HO_3 UU30 HL232_0; clear ho hb hg hat; have p27 : 0 ≤ (((rd_T50 l0_1 x7_2).f0) : Int) := of_decide_eq_true zA; have q27 : (((rd_T50 l0_1 x7_2).f0) : Int) < ((x3_2.length : Int) : Int) := of_decide_eq_true zA; replace p27 := eq_true p27; replace q27 := eq_true q27; obtain ⟨Ao34, co34, eo34⟩ := Kd.R_slice HO235.out; subst eo34; obtain ⟨_, _, hraw32, _, _, hcc32, _⟩ := Kd.H_raw HH30.out (of_decide_eq_true zA) (by have h_ : (((rd_T50 l0_1 x7_2).f0) : Int) < ((x3_2.length : Int) : Int) := of_decide_eq_true zA; first | exact h_ | (have e_ := (HN30.out); omega) | simpa using h_); obtain ⟨_, hfr32⟩ := Kd.H_at HH30.out (of_decide_eq_true zA) (by have h_ : (((rd_T50 l0_1 x7_2).f0) : Int) < ((x3_2.length : Int) : Int) := of_decide_eq_true zA; first | exact h_ | (have e_ := (HN30.out); omega) | simpa using h_); have hx32_0 := hcc32 0 _ rfl; have hf32_0 := hfr32 0; (try simp only [Nat.add_zero] at hx32_0 hf32_0); (try rw [show ((Kd.slice 3 (Kd.int .i64))).sz = 1 from rfl, Nat.mul_one] at hx32_0); (try rw [show ((Kd.slice 3 (Kd.int .i64))).sz = 1 from rfl, Nat.mul_one] at hf32_0); have HP32 := Kd.S_seg0 HH30.out (of_decide_eq_true zA) (by have h_ : (((rd_T50 l0_1 x7_2).f0) : Int) < ((x3_2.length : Int) : Int) := of_decide_eq_true zA; first | exact h_ | (have e_ := (HN30.out); omega) | simpa using h_) (seg := [.slice Ao34 y233.length co34]) (j := 0) (show 1 ≤ 1 from by decide) (x' := y233) (Kd.M_row HO235.out) (fun _ hk => hk); (try simp only [show ((Kd.slice 3 (Kd.int .i64))).sz = 1 from rfl, Nat.mul_one, Nat.add_zero] at HP32); clear hcc32 hfr32) | ((with_reducible refine gate_store (t := 37) (p := 71) rfl ?_); (try (rw [drewN_self w31]; generalize hq_ : World.drewN w31 _ = w31; have n0_ := zM (Kd.S_at hq_ HO_3.out); have n1_ := zM (blk_at hq_ BK219.out); have n2_ := zM (below_at hq_ HB.out); clear hq_ HO_3 BK219 HB; have HO_3 := n0_; have BK219 := n1_; have HB := n2_; clear n0_ n1_ n2_; (try (obtain ⟨Ao34, co34, eo34⟩ := Kd.R_slice HO235.out)); (try (subst eo34)); (try (obtain ⟨_, _, hraw32, _, _, hcc32, _⟩ := Kd.H_raw HH30.out (of_decide_eq_true zA) (by have h_ : (((rd_T50 l0_1 x7_2).f0) : Int) < ((x3_2.length : Int) : Int) := of_decide_eq_true zA; first | exact h_ | (have e_ := (HN30.out); omega) | simpa using h_))); (try (obtain ⟨_, hfr32⟩ := Kd.H_at HH30.out (of_decide_eq_true zA) (by have h_ : (((rd_T50 l0_1 x7_2).f0) : Int) < ((x3_2.length : Int) : Int) := of_decide_eq_true zA; first | exact h_ | (have e_ := (HN30.out); omega) | simpa using h_))); (try (have hx32_0 := hcc32 0 _ rfl)); (try (have hf32_0 := hfr32 0)); (try (try simp only [Nat.add_zero] at hx32_0 hf32_0)); (try (try rw [show ((Kd.slice 3 (Kd.int .i64))).sz = 1 from rfl, Nat.mul_one] at hx32_0)); (try (try rw [show ((Kd.slice 3 (Kd.int .i64))).sz = 1 from rfl, Nat.mul_one] at hf32_0)); (try (have HP32 := Kd.S_seg0 HH30.out (of_decide_eq_true zA) (by have h_ : (((rd_T50 l0_1 x7_2).f0) : Int) < ((x3_2.length : Int) : Int) := of_decide_eq_true zA; first | exact h_ | (have e_ := (HN30.out); omega) | simpa using h_) (seg := [.slice Ao34 y233.length co34]) (j := 0) (show 1 ≤ 1 from by decide) (x' := y233) (Kd.M_row HO235.out) (fun _ hk => hk))); (try (try simp only [show ((Kd.slice 3 (Kd.int .i64))).sz = 1 from rfl, Nat.mul_one, Nat.add_zero] at HP32)); (try (clear hcc32 hfr32)))); refine store_event (t := 37) (p := 71) (v := ?vo_w33) (w1 := (w31.setCell ⟨go30, (((rd_T50 l0_1 x7_2).f0) : Int).toNat, none⟩ (.slice Ao34 y233.length co34))) ?hg ?ho ?hn ?hr ?_; (case ho => rfl); (case hg => rfl); (case hn => rfl); (case hr => first | (go_simp; done) | (go_simp; rfl)); intro w33 hw; have hg : w31.grownBy w33 (some go30) := (by rw [hw]; exact HP32.2); have hp_ : Kd.S (Kd.slice 3 (Kd.int .i64)) 37 w33 w.heap.size (fun _ => True) (.slice (some ⟨go30, 0, none⟩) x3_2.length co29) y236 := (by rw [hw, Ny236.out]; exact HP32.1); clear HP32; replace BK219 := zM (blk_grown (g := gb219) (o := .cells #[.slice A0_0 l0_0.length c0_0, .slice (some ad230) l0_1.length c0_1] 29 (0, 0)) (zK BK219.out) hg (Kd.R_ne hraw32 BK219.out (by decide))); replace HB := zM ((by rw [hw]; exact below_set HB.out GB30.out : Below w.heap.size w w33)); have HO_3 := zM (hp_); clear HO235 HH30; clear hg hw hp_ hraw32)); try go_wp2_with (first | ((with_reducible refine gate_builtin (b := .append) (xs := #[.tmp 67, .tmp 69]) rfl ?_); at_builtin; refine Kd.R_append (Kd.int .i64) (w0 := w) w.heap.size rfl (.tmp 67) (.tmp 69) 37 3 (.int .i64 0) 8 rfl Try.underlying37 info3 rfl (by decide) (by omega) (.slice A232_0 (rd_L1 x3_2 ((rd_T50 l0_1 x7_2).f0)).length c232_0) (rd_L1 x3_2 ((rd_T50 l0_1 x7_2).f0)) ((rd_T50 l0_1 x7_2).f1) [.int .i64 ((rd_T50 l0_1 x7_2).f1)] (fun k_ => oki30 k_ ∨ ((fun _ => True)) k_ ∧ wr.heap.size ≤ k_) (fun _ => False) rfl rfl ?aP (fun _ hk => hk.elim) ?aF ?aO ?aB ?aS ?aL ?_; (case aP => exact rfl); (case aB => exact zB); (case aF => exact (fun k_ hk => .inr ⟨trivial, hk⟩)); (case aO => exact (by (with_reducible repeat (first | apply Kd.R_alloc | apply Kd.R_drewN | apply Kd.R_drew)); exact Kd.R_mono UU30.out (fun _ hk => .inl hk))); (case aS => exact (below_size zB)); (case aL => have := LMc26.out; omega); intro v234 w31 ho hb hg hat; rw [← Ny233.out] at ho; replace BK219 := zM (blk_grown (g := gb219) (o := .cells #[.slice A0_0 l0_0.length c0_0, .slice (some ad230) l0_1.length c0_1] 29 (0, 0)) (zK BK219.out) hg (Kd.R_ne HL232_0.out BK219.out (by decide))); replace HB := zM (hb); replace HH30 := zM (Kd.H_grown (Kd.H_widen (by repeat (first | exact HH30.out | refine Kd.H_alloc ?_ _ | refine Kd.H_drewN ?_ _ | refine Kd.H_drew ?_))) hg (fun k_ e_ => .inl (UU30.out.1 k_ e_))); have HO235 := zM (ho); clear HO_3 UU30 HL232_0; clear ho hb hg hat; have p27 : 0 ≤ (((rd_T50 l0_1 x7_2).f0) : Int) := of_decide_eq_true zA; have q27 : (((rd_T50 l0_1 x7_2).f0) : Int) < ((x3_2.length : Int) : Int) := of_decide_eq_true zA; replace p27 := eq_true p27; replace q27 := eq_true q27; obtain ⟨Ao34, co34, eo34⟩ := Kd.R_slice HO235.out; subst eo34; obtain ⟨_, _, hraw32, _, _, hcc32, _⟩ := Kd.H_raw HH30.out (of_decide_eq_true zA) (by have h_ : (((rd_T50 l0_1 x7_2).f0) : Int) < ((x3_2.length : Int) : Int) := of_decide_eq_true zA; first | exact h_ | (have e_ := (HN30.out); omega) | simpa using h_); obtain ⟨_, hfr32⟩ := Kd.H_at HH30.out (of_decide_eq_true zA) (by have h_ : (((rd_T50 l0_1 x7_2).f0) : Int) < ((x3_2.length : Int) : Int) := of_decide_eq_true zA; first | exact h_ | (have e_ := (HN30.out); omega) | simpa using h_); have hx32_0 := hcc32 0 _ rfl; have hf32_0 := hfr32 0; (try simp only [Nat.add_zero] at hx32_0 hf32_0); (try rw [show ((Kd.slice 3 (Kd.int .i64))).sz = 1 from rfl, Nat.mul_one] at hx32_0); (try rw [show ((Kd.slice 3 (Kd.int .i64))).sz = 1 from rfl, Nat.mul_one] at hf32_0); have HP32 := Kd.S_seg0 HH30.out (of_decide_eq_true zA) (by have h_ : (((rd_T50 l0_1 x7_2).f0) : Int) < ((x3_2.length : Int) : Int) := of_decide_eq_true zA; first | exact h_ | (have e_ := (HN30.out); omega) | simpa using h_) (seg := [.slice Ao34 y233.length co34]) (j := 0) (show 1 ≤ 1 from by decide) (x' := y233) (Kd.M_row HO235.out) (fun _ hk => hk); (try simp only [show ((Kd.slice 3 (Kd.int .i64))).sz = 1 from rfl, Nat.mul_one, Nat.add_zero] at HP32); clear hcc32 hfr32) | ((with_reducible refine gate_store (t := 37) (p := 71) rfl ?_); (try (rw [drewN_self w31]; generalize hq_ : World.drewN w31 _ = w31; have n0_ := zM (Kd.S_at hq_ HO_3.out); have n1_ := zM (blk_at hq_ BK219.out); have n2_ := zM (below_at hq_ HB.out); clear hq_ HO_3 BK219 HB; have HO_3 := n0_; have BK219 := n1_; have HB := n2_; clear n0_ n1_ n2_; (try (obtain ⟨Ao34, co34, eo34⟩ := Kd.R_slice HO235.out)); (try (subst eo34)); (try (obtain ⟨_, _, hraw32, _, _, hcc32, _⟩ := Kd.H_raw HH30.out (of_decide_eq_true zA) (by have h_ : (((rd_T50 l0_1 x7_2).f0) : Int) < ((x3_2.length : Int) : Int) := of_decide_eq_true zA; first | exact h_ | (have e_ := (HN30.out); omega) | simpa using h_))); (try (obtain ⟨_, hfr32⟩ := Kd.H_at HH30.out (of_decide_eq_true zA) (by have h_ : (((rd_T50 l0_1 x7_2).f0) : Int) < ((x3_2.length : Int) : Int) := of_decide_eq_true zA; first | exact h_ | (have e_ := (HN30.out); omega) | simpa using h_))); (try (have hx32_0 := hcc32 0 _ rfl)); (try (have hf32_0 := hfr32 0)); (try (try simp only [Nat.add_zero] at hx32_0 hf32_0)); (try (try rw [show ((Kd.slice 3 (Kd.int .i64))).sz = 1 from rfl, Nat.mul_one] at hx32_0)); (try (try rw [show ((Kd.slice 3 (Kd.int .i64))).sz = 1 from rfl, Nat.mul_one] at hf32_0)); (try (have HP32 := Kd.S_seg0 HH30.out (of_decide_eq_true zA) (by have h_ : (((rd_T50 l0_1 x7_2).f0) : Int) < ((x3_2.length : Int) : Int) := of_decide_eq_true zA; first | exact h_ | (have e_ := (HN30.out); omega) | simpa using h_) (seg := [.slice Ao34 y233.length co34]) (j := 0) (show 1 ≤ 1 from by decide) (x' := y233) (Kd.M_row HO235.out) (fun _ hk => hk))); (try (try simp only [show ((Kd.slice 3 (Kd.int .i64))).sz = 1 from rfl, Nat.mul_one, Nat.add_zero] at HP32)); (try (clear hcc32 hfr32)))); refine store_event (t := 37) (p := 71) (v := ?vo_w33) (w1 := (w31.setCell ⟨go30, (((rd_T50 l0_1 x7_2).f0) : Int).toNat, none⟩ (.slice Ao34 y233.length co34))) ?hg ?ho ?hn ?hr ?_; (case ho => rfl); (case hg => rfl); (case hn => rfl); (case hr => first | (go_simp; done) | (go_simp; rfl)); intro w33 hw; have hg : w31.grownBy w33 (some go30) := (by rw [hw]; exact HP32.2); have hp_ : Kd.S (Kd.slice 3 (Kd.int .i64)) 37 w33 w.heap.size (fun _ => True) (.slice (some ⟨go30, 0, none⟩) x3_2.length co29) y236 := (by rw [hw, Ny236.out]; exact HP32.1); clear HP32; replace BK219 := zM (blk_grown (g := gb219) (o := .cells #[.slice A0_0 l0_0.length c0_0, .slice (some ad230) l0_1.length c0_1] 29 (0, 0)) (zK BK219.out) hg (Kd.R_ne hraw32 BK219.out (by decide))); replace HB := zM ((by rw [hw]; exact below_set HB.out GB30.out : Below w.heap.size w w33)); have HO_3 := zM (hp_); clear HO235 HH30; clear hg hw hp_ hraw32)))
                     go_roundg k2
                     case measure => have := HK1.out; have := HK2.out; omega
                     case rel => exact ⟨(y236), (wrap64 (x7_2 + 1)), (by first | rfl | (simp; done) | (simp [*]; done)), H', ⟨by have := HK1.out; have := HK2.out; omega⟩, ⟨by (with_reducible repeat (first | apply Kd.S_alloc | apply Kd.S_drewN | apply Kd.S_drew)); exact HO_3.out⟩, ⟨zK BK219.out⟩, ⟨zB⟩⟩
                   · rw [if_neg c26] at H
                     exact absurd H (by simp)
                 · rw [if_neg c25] at H
                   exact absurd H (by simp)
               · rw [if_neg c24] at H
                 exact absurd H (by simp)
             · rw [if_neg c23] at H
               exact absurd H (by simp)
           · rw [if_neg c22] at H
             have c22b0 : decide (x7_2 < (l0_1.length : Int)) = false := decide_eq_false c22
             clear c22
             obtain rfl := Option.some.inj H
             have hcz35_0 := zy BK219 0
             have hcz35_1 := zy BK219 1
             have hfz35_0 := blk_frozen BK219.out 0
             have hfz35_1 := blk_frozen BK219.out 1
             go_wp2
             repeat (go_quiet (fail); try go_wp2)
             go_ret
             exact ⟨_, by first | rfl | (simp [errW_none, errW_some] <;> rfl) | (simp [*, errW_none, errW_some] <;> rfl), by (with_reducible repeat (first | apply Kd.S_alloc | apply Kd.S_drewN | apply Kd.S_drew)); exact HO_3.out, zB⟩
   · rw [if_neg c3] at H
     exact absurd H (by simp)
 · rw [if_neg c2] at H
   exact absurd H (by simp)

end Go.Proofs.Ytopgbijegnnjbaa.P
