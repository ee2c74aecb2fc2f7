-- Written by a program of this session (the kit's print, turned: wip/print/patch.py) out of the translation. Not trusted: Lean checks it.
import Derived.Test.YtadjbmcfgjmhkaaGreatStuckSetsG5
import Derived.Test.YtadjbmcfgjmhkaaGreatStuckSetsG8
import Derived.Test.YtadjbmcfgjmhkaaGreatStuckSetsG9
namespace Go.Proofs.YtadjbmcfgjmhkaaGreat.P
open Go.RowKit Go.Proofs.YtadjbmcfgjmhkaaGreatW.PrintWords Go.Proofs.YtadjbmcfgjmhkaaGreatW.PrintLast Go.Proofs.YtadjbmcfgjmhkaaGreatW.PrintMore
attribute [local go_sem] max2_int min2_int max_two min_two max_three min_three max_four min_four   -- for this text's walks alone
set_option linter.unusedVariables false
set_option linter.unusedSimpArgs false

/-! ### spec_l2Lists: function 43 -/
mutual
def spec_l2Lists.l0 : Nat → List (List Int) → Int → List (List Int) → List (S69) → Option ((List (List Int)))
 | 0, _, _, _, _ => none
 | k + 1, x3, x4, x327000, x327001 => if x4 < (x327001.length : Int) then (if 0 ≤ x4 then (if 0 ≤ ((rd_T69 x327001 x4).f1) then (if ((rd_T69 x327001 x4).f1) < (x3.length : Int) then (if (rd_L2 x3 ((rd_T69 x327001 x4).f1)).length < 17592186044416 then (spec_l2Lists.l0 k (x3.set (((rd_T69 x327001 x4).f1) : Int).toNat ((rd_L2 x3 ((rd_T69 x327001 x4).f1)) ++ [(rd_T69 x327001 x4).f0])) (wrap64 (x4 + 1)) x327000 x327001) else (none)) else (none)) else (none)) else (none)) else (spec_l2Lists.l1 k x3 0 x327000 x327001)
def spec_l2Lists.l1 : Nat → List (List Int) → Int → List (List Int) → List (S69) → Option ((List (List Int)))
 | 0, _, _, _, _ => none
 | k + 1, x3, x7, x327000, x327001 => if x7 < (x327001.length : Int) then (if 0 ≤ x7 then (if 0 ≤ ((rd_T69 x327001 x7).f0) then (if ((rd_T69 x327001 x7).f0) < (x3.length : Int) then (if (rd_L2 x3 ((rd_T69 x327001 x7).f0)).length < 17592186044416 then (spec_l2Lists.l1 k (x3.set (((rd_T69 x327001 x7).f0) : Int).toNat ((rd_L2 x3 ((rd_T69 x327001 x7).f0)) ++ [(rd_T69 x327001 x7).f1])) (wrap64 (x7 + 1)) x327000 x327001) else (none)) else (none)) else (none)) else (none)) else (some x3)
end
def spec_l2Lists.f (k : Nat) (l0_0 : List (List Int)) (l0_1 : List (S69)) : Option ((List (List Int))) := if 0 ≤ (l0_0.length : Int) then (if ((l0_0.length : Int) : Int).toNat ≤ 11728124029610 then (spec_l2Lists.l0 k (List.replicate ((l0_0.length : Int) : Int).toNat []) 0 l0_0 l0_1) else (none)) else (none)
set_option maxHeartbeats 8000000 in
set_option maxRecDepth 100000 in
theorem spec_l2Lists.calls (k : Nat) (A0_0 : Option Addr) (c0_0 : Nat) (l0_0 : List (List Int)) (A0_1 : Option Addr) (c0_1 : Nat) (l0_1 : List (S69)) (r : List (List Int)) (w : World) (hr0_0 : Kd.C (Kd.slice 3 (Kd.int .i64)) w A0_0 l0_0.length l0_0) (hc0_0 : l0_0.length ≤ c0_0) (hr0_1 : Kd.C k69 w A0_1 l0_1.length l0_1) (hc0_1 : l0_1.length ≤ c0_1) (h : spec_l2Lists.f k l0_0 l0_1 = some r) :
 Calls Tryz.prog 43 #[.agg #[.slice A0_0 l0_0.length c0_0, .slice A0_1 l0_1.length c0_1]] w fun e w' => ∃ v0_ : Value, e = .returned (v0_) ∧ Kd.S (Kd.slice 3 (Kd.int .i64)) 25 w' w.heap.size (fun _ => True) v0_ r ∧ Below w.heap.size w w' := by
 have hu52 := Tryz.underlying52
 have HR0_0 := Aside0.mk hr0_0
 have HC0_0 := Aside0.mk hc0_0
 clear hr0_0 hc0_0
 have HR0_1 := Aside0.mk hr0_1
 have HC0_1 := Aside0.mk hc0_1
 clear hr0_1 hc0_1
 have HB := zM (Below.refl w.heap.size w)
 have H : (if 0 ≤ (l0_0.length : Int) then (if ((l0_0.length : Int) : Int).toNat ≤ 11728124029610 then (spec_l2Lists.l0 k (List.replicate ((l0_0.length : Int) : Int).toNat []) 0 l0_0 l0_1) else (none)) else (none)) = some r := h
 clear h
 by_cases c2 : 0 ≤ (l0_0.length : Int)
 · rw [if_pos c2] at H
   have c2b0 := eq_true c2
   have c2b1 : decide (0 ≤ (l0_0.length : Int)) = true := decide_eq_true c2
   clear c2
   by_cases c3 : ((l0_0.length : Int) : Int).toNat ≤ 11728124029610
   · rw [if_pos c3] at H
     have c3b0 := eq_true c3
     have c3b1 : decide (((l0_0.length : Int) : Int).toNat ≤ 11728124029610) = true := decide_eq_true c3
     clear c3
     obtain ⟨y327, hy327⟩ : ∃ y_ : List (List Int), y_ = (List.replicate ((l0_0.length : Int) : Int).toNat []) := ⟨_, rfl⟩
     replace H : (spec_l2Lists.l0 k y327 0 l0_0 l0_1) = some r := by first | (rw [hy327]; with_reducible exact H) | (have H2_ := (Option.bind_some _ _).symm.trans H; rw [hy327]; with_reducible exact H2_) | (have H2_ := (Option.bind_some _ _).symm.trans H; with_reducible exact H2_) | with_reducible exact H | (rw [hy327]; exact H) | exact H
     have Ny327 := Aside0.mk hy327
     clear hy327
     have H' := Aside0.mk H
     clear H
     go_enter Tryz.func43, Tryz.ntmps43
     go_wp2_with (first | ((with_reducible refine gate_dst (N := 1) rfl ?_); refine zb (w := w) 1 #[.slice A0_0 l0_0.length c0_0, .slice A0_1 l0_1.length c0_1] 52 zB ?_; clear HB; intro gb326 w4 HB BK326 GW326; have GE326 := GW326; have hcz5_0 := zy BK326 0; have hcz5_1 := zy BK326 1; have hfz5_0 := blk_frozen BK326.out 0; have hfz5_1 := blk_frozen BK326.out 1) | ((with_reducible refine gate_dst (N := 13) rfl ?_); refine Kd.S_make (Kd.slice 3 (Kd.int .i64)) _ 25 rfl (N := 13) rfl 27 _ _ rfl (l0_0.length : Int) rfl rfl Tryz.underlying27 (.slice none 0 0) 24 info25 rfl (by decide) (by omega) [] (ok := fun _ => True) (okp := fun _ => True) ⟨_, rfl, Kd.R_nil _ _ _ _ _⟩ (fun _ hk => hk) trivial (of_decide_eq_true zA) (Nat.le_trans (Nat.mul_le_mul_right _ (of_decide_eq_true zA : (l0_0.length : Int).toNat ≤ 11728124029610)) (by omega)) (Below.refl _ _) (Nat.le_refl _) ?_; intro v328 w6 ho7 hb hg_ hnew_; clear hg_ hnew_; (first | rw [← Ny327.out] at ho7 | (simp only [Int.reduceToNat] at ho7; rw [← Ny327.out] at ho7)); have HO329 := zM (Kd.S_lower ho7 (below_size zB)); replace BK326 := zM (blk_below (g := gb326) (o := .cells #[.slice A0_0 l0_0.length c0_0, .slice A0_1 l0_1.length c0_1] 52 (0, 0)) (zK BK326.out) hb); replace HB := zM (below_step zB hb); clear hb ho7))
     repeat (go_quiet (first | ((with_reducible refine gate_dst (N := 1) rfl ?_); refine zb (w := w) 1 #[.slice A0_0 l0_0.length c0_0, .slice A0_1 l0_1.length c0_1] 52 zB ?_; clear HB; intro gb326 w4 HB BK326 GW326; have GE326 := GW326; have hcz5_0 := zy BK326 0; have hcz5_1 := zy BK326 1; have hfz5_0 := blk_frozen BK326.out 0; have hfz5_1 := blk_frozen BK326.out 1) | ((with_reducible refine gate_dst (N := 13) rfl ?_); refine Kd.S_make (Kd.slice 3 (Kd.int .i64)) _ 25 rfl (N := 13) rfl 27 _ _ rfl (l0_0.length : Int) rfl rfl Tryz.underlying27 (.slice none 0 0) 24 info25 rfl (by decide) (by omega) [] (ok := fun _ => True) (okp := fun _ => True) ⟨_, rfl, Kd.R_nil _ _ _ _ _⟩ (fun _ hk => hk) trivial (of_decide_eq_true zA) (Nat.le_trans (Nat.mul_le_mul_right _ (of_decide_eq_true zA : (l0_0.length : Int).toNat ≤ 11728124029610)) (by omega)) (Below.refl _ _) (Nat.le_refl _) ?_; intro v328 w6 ho7 hb hg_ hnew_; clear hg_ hnew_; (first | rw [← Ny327.out] at ho7 | (simp only [Int.reduceToNat] at ho7; rw [← Ny327.out] at ho7)); have HO329 := zM (Kd.S_lower ho7 (below_size zB)); replace BK326 := zM (blk_below (g := gb326) (o := .cells #[.slice A0_0 l0_0.length c0_0, .slice A0_1 l0_1.length c0_1] 52 (0, 0)) (zK BK326.out) hb); replace HB := zM (below_step zB hb); clear hb ho7)); try go_wp2_with (first | ((with_reducible refine gate_dst (N := 1) rfl ?_); refine zb (w := w) 1 #[.slice A0_0 l0_0.length c0_0, .slice A0_1 l0_1.length c0_1] 52 zB ?_; clear HB; intro gb326 w4 HB BK326 GW326; have GE326 := GW326; have hcz5_0 := zy BK326 0; have hcz5_1 := zy BK326 1; have hfz5_0 := blk_frozen BK326.out 0; have hfz5_1 := blk_frozen BK326.out 1) | ((with_reducible refine gate_dst (N := 13) rfl ?_); refine Kd.S_make (Kd.slice 3 (Kd.int .i64)) _ 25 rfl (N := 13) rfl 27 _ _ rfl (l0_0.length : Int) rfl rfl Tryz.underlying27 (.slice none 0 0) 24 info25 rfl (by decide) (by omega) [] (ok := fun _ => True) (okp := fun _ => True) ⟨_, rfl, Kd.R_nil _ _ _ _ _⟩ (fun _ hk => hk) trivial (of_decide_eq_true zA) (Nat.le_trans (Nat.mul_le_mul_right _ (of_decide_eq_true zA : (l0_0.length : Int).toNat ≤ 11728124029610)) (by omega)) (Below.refl _ _) (Nat.le_refl _) ?_; intro v328 w6 ho7 hb hg_ hnew_; clear hg_ hnew_; (first | rw [← Ny327.out] at ho7 | (simp only [Int.reduceToNat] at ho7; rw [← Ny327.out] at ho7)); have HO329 := zM (Kd.S_lower ho7 (below_size zB)); replace BK326 := zM (blk_below (g := gb326) (o := .cells #[.slice A0_0 l0_0.length c0_0, .slice A0_1 l0_1.length c0_1] 52 (0, 0)) (zK BK326.out) hb); replace HB := zM (below_step zB hb); clear hb ho7)))
     go_loopg [4] k (fun kq v4 w' => ∃ (x3_1 : List (List Int)) (x4_1 : Int), v4 = .int .i64 x4_1 ∧ Aside0 (spec_l2Lists.l0 kq x3_1 x4_1 l0_0 l0_1 = some r) ∧ Aside0 (kq ≤ k) ∧ Aside0 (Kd.S (Kd.slice 3 (Kd.int .i64)) 25 w' w.heap.size (fun _ => True) v328 x3_1) ∧ Aside0 (w'.heap[gb326]? = some (.cells #[(.slice A0_0 l0_0.length c0_0), (.slice A0_1 l0_1.length c0_1)] 52 (0, 0))) ∧ Aside0 (Below w.heap.size w w'))
     case atStart => exact ⟨(y327), (0), (by first | rfl | (simp; done) | (simp [*]; done)), H', ⟨Nat.le_refl _⟩, ⟨by (with_reducible repeat (first | apply Kd.S_alloc | apply Kd.S_drewN | apply Kd.S_drew)); exact HO329.out⟩, ⟨zK BK326.out⟩, ⟨zB⟩⟩
     case round =>
      clear H'
      try clear c2
      try clear c2b0
      try clear c2b1
      try clear p2
      try clear c3
      try clear c3b0
      try clear c3b1
      try clear c4
      try clear hcz5_0
      try clear hcz5_1
      try clear hfz5_0
      try clear hfz5_1
      obtain ⟨x3_1, x4_1, rfl, HA, HK1, HO_3, BK326, HB⟩ := hrel
      cases gk with
      | zero => exact absurd HA.out (by simp [spec_l2Lists.l0])
      | succ k1 =>
       have H := HA.out
       clear HA
       simp only [spec_l2Lists.l0] at H
       by_cases c8 : x4_1 < (l0_1.length : Int)
       · rw [if_pos c8] at H
         have c8b0 := decide_eq_true c8
         clear c8
         by_cases c9 : 0 ≤ x4_1
         · rw [if_pos c9] at H
           have c9b0 := decide_eq_true c9
           clear c9
           by_cases c10 : 0 ≤ ((rd_T69 l0_1 x4_1).f1)
           · rw [if_pos c10] at H
             have c10b0 := decide_eq_true c10
             clear c10
             by_cases c11 : ((rd_T69 l0_1 x4_1).f1) < (x3_1.length : Int)
             · rw [if_pos c11] at H
               have c11b0 := decide_eq_true c11
               clear c11
               by_cases c12 : (rd_L2 x3_1 ((rd_T69 l0_1 x4_1).f1)).length < 17592186044416
               · rw [if_pos c12] at H
                 have LMc12 := Aside0.mk c12
                 clear c12
                 obtain ⟨y333, hy333⟩ : ∃ y_ : List Int, y_ = ((rd_L2 x3_1 ((rd_T69 l0_1 x4_1).f1)) ++ [(rd_T69 l0_1 x4_1).f0]) := ⟨_, rfl⟩
                 replace H : (spec_l2Lists.l0 k1 (x3_1.set (((rd_T69 l0_1 x4_1).f1) : Int).toNat y333) (wrap64 (x4_1 + 1)) l0_0 l0_1) = some r := by first | (rw [hy333]; with_reducible exact H) | (have H2_ := (Option.bind_some _ _).symm.trans H; rw [hy333]; with_reducible exact H2_) | (have H2_ := (Option.bind_some _ _).symm.trans H; with_reducible exact H2_) | with_reducible exact H | (rw [hy333]; exact H) | exact H
                 have Ny333 := Aside0.mk hy333
                 clear hy333
                 obtain ⟨y336, hy336⟩ : ∃ y_ : List (List Int), y_ = (x3_1.set (((rd_T69 l0_1 x4_1).f1) : Int).toNat y333) := ⟨_, rfl⟩
                 replace H : (spec_l2Lists.l0 k1 y336 (wrap64 (x4_1 + 1)) l0_0 l0_1) = some r := by first | (rw [hy336]; with_reducible exact H) | (have H2_ := (Option.bind_some _ _).symm.trans H; rw [hy336]; with_reducible exact H2_) | (have H2_ := (Option.bind_some _ _).symm.trans H; with_reducible exact H2_) | with_reducible exact H | (rw [hy336]; exact H) | exact H
                 have Ny336 := Aside0.mk hy336
                 clear hy336
                 have H' := Aside0.mk H
                 clear H
                 have hcz14_0 := zy BK326 0
                 have hcz14_1 := zy BK326 1
                 have hfz14_0 := blk_frozen BK326.out 0
                 have hfz14_1 := blk_frozen BK326.out 1
                 have p330 : 0 ≤ (x4_1 : Int) := of_decide_eq_true zA
                 have q330 : x4_1 < (l0_1.length : Int) := of_decide_eq_true zA
                 obtain ⟨ad330, e330, hx330_0, hx330_1⟩ := at_T69 HR0_1.out x4_1 p330 q330
                 cases e330
                 (try replace hx330_0 := (HB.out.cell (World.block_lt_of_cell? w _ hx330_0)).trans hx330_0)
                 (try replace hx330_1 := (HB.out.cell (World.block_lt_of_cell? w _ hx330_1)).trans hx330_1)
                 replace p330 := eq_true p330
                 replace q330 := eq_true q330
                 have p331 : 0 ≤ (x4_1 : Int) := of_decide_eq_true zA
                 have q331 : x4_1 < (l0_1.length : Int) := of_decide_eq_true zA
                 obtain ⟨ad331, e331, hx331_0, hx331_1⟩ := at_T69 HR0_1.out x4_1 p331 q331
                 obtain rfl : ad330 = ad331 := (by injection e331)
                 (try replace hx331_0 := (HB.out.cell (World.block_lt_of_cell? w _ hx331_0)).trans hx331_0)
                 (try replace hx331_1 := (HB.out.cell (World.block_lt_of_cell? w _ hx331_1)).trans hx331_1)
                 replace p331 := eq_true p331
                 replace q331 := eq_true q331
                 obtain ⟨Ao15, co15, eo15⟩ := Kd.S_slice HO_3.out
                 subst eo15
                 have p332 : 0 ≤ (((rd_T69 l0_1 x4_1).f1) : Int) := of_decide_eq_true zA
                 have q332 : ((rd_T69 l0_1 x4_1).f1) < (x3_1.length : Int) := of_decide_eq_true zA
                 obtain ⟨ad332, A332_0, c332_0, e332, hx332_0, hl332_0, hi332_0⟩ := at_L2 (Kd.S_reads' HO_3.out).2.2 ((rd_T69 l0_1 x4_1).f1) p332 q332
                 cases e332
                 obtain ⟨ce332, hce332, hMe332, hcc332⟩ := Kd.S_get HO_3.out [] ((rd_T69 l0_1 x4_1).f1) p332 (by first | exact q332 | exact of_decide_eq_true zA | (have e_ := (Kd.S_reads' HO_3.out).1; omega))
                 obtain ⟨ve332_0, rfl, ge332_0⟩ := hMe332
                 have hv332_0 := hcc332 0 _ rfl
                 rw [Nat.add_zero, show ((Kd.slice 3 (Kd.int .i64))).sz = 1 from rfl, Nat.mul_one] at hv332_0
                 replace hv332_0 := Option.some.inj (hv332_0.symm.trans hx332_0)
                 rw [hv332_0] at ge332_0
                 have HL332_0 := zM (show Kd.R (Kd.int .i64) 3 _ _ _ _ (rd_L2 x3_1 ((rd_T69 l0_1 x4_1).f1)) from ge332_0)
                 clear hv332_0 ge332_0
                 have HX332_0 := Aside0.mk hx332_0
                 clear hcc332 hce332
                 have HR332_0 := Aside0.mk hi332_0
                 have HC332_0 := Aside0.mk hl332_0
                 clear hi332_0 hl332_0
                 replace p332 := eq_true p332
                 replace q332 := eq_true q332
                 obtain ⟨go16, co16, eo16, gb16, gl16, cl16, HG16⟩ := Kd.S_form HO_3.out (by have h_ : (((rd_T69 l0_1 x4_1).f1) : Int) < ((x3_1.length : Int) : Int) := of_decide_eq_true zA; have h2_ : 0 ≤ (((rd_T69 l0_1 x4_1).f1) : Int) := (of_decide_eq_true zA); omega)
                 (first | cases eo16 | (injection eo16 with ea_ en_ ec_; (first | subst ea_ | (injection ea_ with ea_; subst ea_)); subst ec_; clear en_))
                 have GB16 := Aside0.mk gb16
                 have GG16 := Aside0.mk HG16
                 clear gb16 gl16 HG16
                 (first | simp only [add_plain] at hx332_0 | skip)
                 obtain ⟨oki16, ce16, hcl16, hM16, hcc16, _, _, hH16⟩ := Kd.S_elem HO_3.out [] (((rd_T69 l0_1 x4_1).f1) : Int) (of_decide_eq_true zA) (by have h_ : (((rd_T69 l0_1 x4_1).f1) : Int) < ((x3_1.length : Int) : Int) := of_decide_eq_true zA; first | exact h_ | (have e_ := (Kd.S_reads' HO_3.out).1; omega) | simpa using h_)
                 obtain ⟨ve16_0, rfl, ge16_0⟩ := hM16
                 have hv16 := hcc16 0 _ rfl
                 have hX16 := HX332_0.out
                 (try simp only [add_plain] at hX16)
                 (try simp only [Nat.add_zero] at hv16)
                 (try rw [show ((Kd.slice 3 (Kd.int .i64))).sz = 1 from rfl, Nat.mul_one] at hv16)
                 replace hv16 := Option.some.inj (hv16.symm.trans hX16)
                 subst hv16
                 clear hX16 hcc16 hcl16
                 have UU16 := zM (show Kd.R (Kd.int .i64) 3 _ w.heap.size oki16 (.slice A332_0 (rd_L2 x3_1 ((rd_T69 l0_1 x4_1).f1)).length c332_0) (rd_L2 x3_1 ((rd_T69 l0_1 x4_1).f1)) from ge16_0)
                 have HH16 := Aside0.mk hH16
                 have HN16 := zM (Kd.S_reads' HO_3.out).1
                 clear hH16 ge16_0
                 go_wp2_with (first | ((with_reducible refine gate_builtin (b := .append) (xs := #[.tmp 38, .tmp 40]) rfl ?_); at_builtin; refine Kd.R_append (Kd.int .i64) (w0 := w) w.heap.size rfl (.tmp 38) (.tmp 40) 25 3 (.int .i64 0) 8 rfl Tryz.underlying25 info3 rfl (by decide) (by omega) (.slice A332_0 (rd_L2 x3_1 ((rd_T69 l0_1 x4_1).f1)).length c332_0) (rd_L2 x3_1 ((rd_T69 l0_1 x4_1).f1)) ((rd_T69 l0_1 x4_1).f0) [.int .i64 ((rd_T69 l0_1 x4_1).f0)] (fun k_ => oki16 k_ ∨ ((fun _ => True)) k_ ∧ wr.heap.size ≤ k_) (fun _ => False) rfl rfl ?aP (fun _ hk => hk.elim) ?aF ?aO ?aB ?aS ?aL ?_; (case aP => exact rfl); (case aB => exact zB); (case aF => exact (fun k_ hk => .inr ⟨trivial, hk⟩)); (case aO => exact (by (with_reducible repeat (first | apply Kd.R_alloc | apply Kd.R_drewN | apply Kd.R_drew)); exact Kd.R_mono UU16.out (fun _ hk => .inl hk))); (case aS => exact (below_size zB)); (case aL => have := LMc12.out; omega); intro v334 w17 ho hb hg hat; rw [← Ny333.out] at ho; replace BK326 := zM (blk_grown (g := gb326) (o := .cells #[.slice A0_0 l0_0.length c0_0, .slice (some ad330) l0_1.length c0_1] 52 (0, 0)) (zK BK326.out) hg (Kd.R_ne HL332_0.out BK326.out (by decide))); replace HB := zM (hb); replace HH16 := zM (Kd.H_grown (Kd.H_widen (by repeat (first | exact HH16.out | refine Kd.H_alloc ?_ _ | refine Kd.H_drewN ?_ _ | refine Kd.H_drew ?_))) hg (fun k_ e_ => .inl (UU16.out.1 k_ e_))); have HO335 := zM (ho); clear HO_3 UU16 HL332_0; clear ho hb hg hat; have p13 : 0 ≤ (((rd_T69 l0_1 x4_1).f1) : Int) := of_decide_eq_true zA; have q13 : (((rd_T69 l0_1 x4_1).f1) : Int) < ((x3_1.length : Int) : Int) := of_decide_eq_true zA; replace p13 := eq_true p13; replace q13 := eq_true q13; obtain ⟨Ao20, co20, eo20⟩ := Kd.R_slice HO335.out; subst eo20; obtain ⟨_, _, hraw18, _, _, hcc18, _⟩ := Kd.H_raw HH16.out (of_decide_eq_true zA) (by have h_ : (((rd_T69 l0_1 x4_1).f1) : Int) < ((x3_1.length : Int) : Int) := of_decide_eq_true zA; first | exact h_ | (have e_ := (HN16.out); omega) | simpa using h_); obtain ⟨_, hfr18⟩ := Kd.H_at HH16.out (of_decide_eq_true zA) (by have h_ : (((rd_T69 l0_1 x4_1).f1) : Int) < ((x3_1.length : Int) : Int) := of_decide_eq_true zA; first | exact h_ | (have e_ := (HN16.out); omega) | simpa using h_); have hx18_0 := hcc18 0 _ rfl; have hf18_0 := hfr18 0; (try simp only [Nat.add_zero] at hx18_0 hf18_0); (try rw [show ((Kd.slice 3 (Kd.int .i64))).sz = 1 from rfl, Nat.mul_one] at hx18_0); (try rw [show ((Kd.slice 3 (Kd.int .i64))).sz = 1 from rfl, Nat.mul_one] at hf18_0); have HP18 := Kd.S_seg0 HH16.out (of_decide_eq_true zA) (by have h_ : (((rd_T69 l0_1 x4_1).f1) : Int) < ((x3_1.length : Int) : Int) := of_decide_eq_true zA; first | exact h_ | (have e_ := (HN16.out); omega) | simpa using h_) (seg := [.slice Ao20 y333.length co20]) (j := 0) (show 1 ≤ 1 from by decide) (x' := y333) (Kd.M_row HO335.out) (fun _ hk => hk); (try simp only [show ((Kd.slice 3 (Kd.int .i64))).sz = 1 from rfl, Nat.mul_one, Nat.add_zero] at HP18); clear hcc18 hfr18) | ((with_reducible refine gate_store (t := 25) (p := 42) rfl ?_); (try (rw [drewN_self w17]; generalize hq_ : World.drewN w17 _ = w17; have n0_ := zM (Kd.S_at hq_ HO_3.out); have n1_ := zM (blk_at hq_ BK326.out); have n2_ := zM (below_at hq_ HB.out); clear hq_ HO_3 BK326 HB; have HO_3 := n0_; have BK326 := n1_; have HB := n2_; clear n0_ n1_ n2_; (try (obtain ⟨Ao20, co20, eo20⟩ := Kd.R_slice HO335.out)); (try (subst eo20)); (try (obtain ⟨_, _, hraw18, _, _, hcc18, _⟩ := Kd.H_raw HH16.out (of_decide_eq_true zA) (by have h_ : (((rd_T69 l0_1 x4_1).f1) : Int) < ((x3_1.length : Int) : Int) := of_decide_eq_true zA; first | exact h_ | (have e_ := (HN16.out); omega) | simpa using h_))); (try (obtain ⟨_, hfr18⟩ := Kd.H_at HH16.out (of_decide_eq_true zA) (by have h_ : (((rd_T69 l0_1 x4_1).f1) : Int) < ((x3_1.length : Int) : Int) := of_decide_eq_true zA; first | exact h_ | (have e_ := (HN16.out); omega) | simpa using h_))); (try (have hx18_0 := hcc18 0 _ rfl)); (try (have hf18_0 := hfr18 0)); (try (try simp only [Nat.add_zero] at hx18_0 hf18_0)); (try (try rw [show ((Kd.slice 3 (Kd.int .i64))).sz = 1 from rfl, Nat.mul_one] at hx18_0)); (try (try rw [show ((Kd.slice 3 (Kd.int .i64))).sz = 1 from rfl, Nat.mul_one] at hf18_0)); (try (have HP18 := Kd.S_seg0 HH16.out (of_decide_eq_true zA) (by have h_ : (((rd_T69 l0_1 x4_1).f1) : Int) < ((x3_1.length : Int) : Int) := of_decide_eq_true zA; first | exact h_ | (have e_ := (HN16.out); omega) | simpa using h_) (seg := [.slice Ao20 y333.length co20]) (j := 0) (show 1 ≤ 1 from by decide) (x' := y333) (Kd.M_row HO335.out) (fun _ hk => hk))); (try (try simp only [show ((Kd.slice 3 (Kd.int .i64))).sz = 1 from rfl, Nat.mul_one, Nat.add_zero] at HP18)); (try (clear hcc18 hfr18)))); refine store_event (t := 25) (p := 42) (v := ?vo_w19) (w1 := (w17.setCell ⟨go16, (((rd_T69 l0_1 x4_1).f1) : Int).toNat, none⟩ (.slice Ao20 y333.length co20))) ?hg ?ho ?hn ?hr ?_; (case ho => rfl); (case hg => rfl); (case hn => rfl); (case hr => first | (go_simp; done) | (go_simp; rfl)); intro w19 hw; have hg : w17.grownBy w19 (some go16) := (by rw [hw]; exact HP18.2); have hp_ : Kd.S (Kd.slice 3 (Kd.int .i64)) 25 w19 w.heap.size (fun _ => True) (.slice (some ⟨go16, 0, none⟩) x3_1.length co15) y336 := (by rw [hw, Ny336.out]; exact HP18.1); clear HP18; replace BK326 := zM (blk_grown (g := gb326) (o := .cells #[.slice A0_0 l0_0.length c0_0, .slice (some ad330) l0_1.length c0_1] 52 (0, 0)) (zK BK326.out) hg (Kd.R_ne hraw18 BK326.out (by decide))); replace HB := zM ((by rw [hw]; exact below_set HB.out GB16.out : Below w.heap.size w w19)); have HO_3 := zM (hp_); clear HO335 HH16; clear hg hw hp_ hraw18))
                 repeat (go_quiet (first | ((with_reducible refine gate_builtin (b := .append) (xs := #[.tmp 38, .tmp 40]) rfl ?_); at_builtin; refine Kd.R_append (Kd.int .i64) (w0 := w) w.heap.size rfl (.tmp 38) (.tmp 40) 25 3 (.int .i64 0) 8 rfl Tryz.underlying25 info3 rfl (by decide) (by omega) (.slice A332_0 (rd_L2 x3_1 ((rd_T69 l0_1 x4_1).f1)).length c332_0) (rd_L2 x3_1 ((rd_T69 l0_1 x4_1).f1)) ((rd_T69 l0_1 x4_1).f0) [.int .i64 ((rd_T69 l0_1 x4_1).f0)] (fun k_ => oki16 k_ ∨ ((fun _ => True)) k_ ∧ wr.heap.size ≤ k_) (fun _ => False) rfl rfl ?aP (fun _ hk => hk.elim) ?aF ?aO ?aB ?aS ?aL ?_; (case aP => exact rfl); (case aB => exact zB); (case aF => exact (fun k_ hk => .inr ⟨trivial, hk⟩)); (case aO => exact (by (with_reducible repeat (first | apply Kd.R_alloc | apply Kd.R_drewN | apply Kd.R_drew)); exact Kd.R_mono UU16.out (fun _ hk => .inl hk))); (case aS => exact (below_size zB)); (case aL => have := LMc12.out; omega); intro v334 w17 ho hb hg hat; rw [← Ny333.out] at ho; replace BK326 := zM (blk_grown (g := gb326) (o := .cells #[.slice A0_0 l0_0.length c0_0, .slice (some ad330) l0_1.length c0_1] 52 (0, 0)) (zK BK326.out) hg (Kd.R_ne HL332_0.out BK326.out (by decide))); replace HB := zM (hb); replace HH16 := zM (Kd.H_grown (Kd.H_widen (by repeat (first | exact HH16.out | refine Kd.H_alloc ?_ _ | refine Kd.H_drewN ?_ _ | refine Kd.H_drew ?_))) hg (fun k_ e_ => .inl (UU16.out.1 k_ e_))); have HO335 := zM (ho); clear HO_3 UU16 HL332_0; clear ho hb hg hat; have p13 : 0 ≤ (((rd_T69 l0_1 x4_1).f1) : Int) := of_decide_eq_true zA; have q13 : (((rd_T69 l0_1 x4_1).f1) : Int) < ((x3_1.length : Int) : Int) := of_decide_eq_true zA; replace p13 := eq_true p13; replace q13 := eq_true q13; obtain ⟨Ao20, co20, eo20⟩ := Kd.R_slice HO335.out; subst eo20; obtain ⟨_, _, hraw18, _, _, hcc18, _⟩ := Kd.H_raw HH16.out (of_decide_eq_true zA) (by have h_ : (((rd_T69 l0_1 x4_1).f1) : Int) < ((x3_1.length : Int) : Int) := of_decide_eq_true zA; first | exact h_ | (have e_ := (HN16.out); omega) | simpa using h_); obtain ⟨_, hfr18⟩ := Kd.H_at HH16.out (of_decide_eq_true zA) (by have h_ : (((rd_T69 l0_1 x4_1).f1) : Int) < ((x3_1.length : Int) : Int) := of_decide_eq_true zA; first | exact h_ | (have e_ := (HN16.out); omega) | simpa using h_); have hx18_0 := hcc18 0 _ rfl; have hf18_0 := hfr18 0; (try simp only [Nat.add_zero] at hx18_0 hf18_0); (try rw [show ((Kd.slice 3 (Kd.int .i64))).sz = 1 from rfl, Nat.mul_one] at hx18_0); (try rw [show ((Kd.slice 3 (Kd.int .i64))).sz = 1 from rfl, Nat.mul_one] at hf18_0); have HP18 := Kd.S_seg0 HH16.out (of_decide_eq_true zA) (by have h_ : (((rd_T69 l0_1 x4_1).f1) : Int) < ((x3_1.length : Int) : Int) := of_decide_eq_true zA; first | exact h_ | (have e_ := (HN16.out); omega) | simpa using h_) (seg := [.slice Ao20 y333.length co20]) (j := 0) (show 1 ≤ 1 from by decide) (x' := y333) (Kd.M_row HO335.out) (fun _ hk => hk); (try simp only [show ((Kd.slice 3 (Kd.int .i64))).sz = 1 from rfl, Nat.mul_one, Nat.add_zero] at HP18); clear hcc18 hfr18) | ((with_reducible refine gate_store (t := 25) (p := 42) rfl ?_); (try (rw [drewN_self w17]; generalize hq_ : World.drewN w17 _ = w17; have n0_ := zM (Kd.S_at hq_ HO_3.out); have n1_ := zM (blk_at hq_ BK326.out); have n2_ := zM (below_at hq_ HB.out); clear hq_ HO_3 BK326 HB; have HO_3 := n0_; have BK326 := n1_; have HB := n2_; clear n0_ n1_ n2_; (try (obtain ⟨Ao20, co20, eo20⟩ := Kd.R_slice HO335.out)); (try (subst eo20)); (try (obtain ⟨_, _, hraw18, _, _, hcc18, _⟩ := Kd.H_raw HH16.out (of_decide_eq_true zA) (by have h_ : (((rd_T69 l0_1 x4_1).f1) : Int) < ((x3_1.length : Int) : Int) := of_decide_eq_true zA; first | exact h_ | (have e_ := (HN16.out); omega) | simpa using h_))); (try (obtain ⟨_, hfr18⟩ := Kd.H_at HH16.out (of_decide_eq_true zA) (by have h_ : (((rd_T69 l0_1 x4_1).f1) : Int) < ((x3_1.length : Int) : Int) := of_decide_eq_true zA; first | exact h_ | (have e_ := (HN16.out); omega) | simpa using h_))); (try (have hx18_0 := hcc18 0 _ rfl)); (try (have hf18_0 := hfr18 0)); (try (try simp only [Nat.add_zero] at hx18_0 hf18_0)); (try (try rw [show ((Kd.slice 3 (Kd.int .i64))).sz = 1 from rfl, Nat.mul_one] at hx18_0)); (try (try rw [show ((Kd.slice 3 (Kd.int .i64))).sz = 1 from rfl, Nat.mul_one] at hf18_0)); (try (have HP18 := Kd.S_seg0 HH16.out (of_decide_eq_true zA) (by have h_ : (((rd_T69 l0_1 x4_1).f1) : Int) < ((x3_1.length : Int) : Int) := of_decide_eq_true zA; first | exact h_ | (have e_ := (HN16.out); omega) | simpa using h_) (seg := [.slice Ao20 y333.length co20]) (j := 0) (show 1 ≤ 1 from by decide) (x' := y333) (Kd.M_row HO335.out) (fun _ hk => hk))); (try (try simp only [show ((Kd.slice 3 (Kd.int .i64))).sz = 1 from rfl, Nat.mul_one, Nat.add_zero] at HP18)); (try (clear hcc18 hfr18)))); refine store_event (t := 25) (p := 42) (v := ?vo_w19) (w1 := (w17.setCell ⟨go16, (((rd_T69 l0_1 x4_1).f1) : Int).toNat, none⟩ (.slice Ao20 y333.length co20))) ?hg ?ho ?hn ?hr ?_; (case ho => rfl); (case hg => rfl); (case hn => rfl); (case hr => first | (go_simp; done) | (go_simp; rfl)); intro w19 hw; have hg : w17.grownBy w19 (some go16) := (by rw [hw]; exact HP18.2); have hp_ : Kd.S (Kd.slice 3 (Kd.int .i64)) 25 w19 w.heap.size (fun _ => True) (.slice (some ⟨go16, 0, none⟩) x3_1.length co15) y336 := (by rw [hw, Ny336.out]; exact HP18.1); clear HP18; replace BK326 := zM (blk_grown (g := gb326) (o := .cells #[.slice A0_0 l0_0.length c0_0, .slice (some ad330) l0_1.length c0_1] 52 (0, 0)) (zK BK326.out) hg (Kd.R_ne hraw18 BK326.out (by decide))); replace HB := zM ((by rw [hw]; exact below_set HB.out GB16.out : Below w.heap.size w w19)); have HO_3 := zM (hp_); clear HO335 HH16; clear hg hw hp_ hraw18)); try go_wp2_with (first | ((with_reducible refine gate_builtin (b := .append) (xs := #[.tmp 38, .tmp 40]) rfl ?_); at_builtin; refine Kd.R_append (Kd.int .i64) (w0 := w) w.heap.size rfl (.tmp 38) (.tmp 40) 25 3 (.int .i64 0) 8 rfl Tryz.underlying25 info3 rfl (by decide) (by omega) (.slice A332_0 (rd_L2 x3_1 ((rd_T69 l0_1 x4_1).f1)).length c332_0) (rd_L2 x3_1 ((rd_T69 l0_1 x4_1).f1)) ((rd_T69 l0_1 x4_1).f0) [.int .i64 ((rd_T69 l0_1 x4_1).f0)] (fun k_ => oki16 k_ ∨ ((fun _ => True)) k_ ∧ wr.heap.size ≤ k_) (fun _ => False) rfl rfl ?aP (fun _ hk => hk.elim) ?aF ?aO ?aB ?aS ?aL ?_; (case aP => exact rfl); (case aB => exact zB); (case aF => exact (fun k_ hk => .inr ⟨trivial, hk⟩)); (case aO => exact (by (with_reducible repeat (first | apply Kd.R_alloc | apply Kd.R_drewN | apply Kd.R_drew)); exact Kd.R_mono UU16.out (fun _ hk => .inl hk))); (case aS => exact (below_size zB)); (case aL => have := LMc12.out; omega); intro v334 w17 ho hb hg hat; rw [← Ny333.out] at ho; replace BK326 := zM (blk_grown (g := gb326) (o := .cells #[.slice A0_0 l0_0.length c0_0, .slice (some ad330) l0_1.length c0_1] 52 (0, 0)) (zK BK326.out) hg (Kd.R_ne HL332_0.out BK326.out (by decide))); replace HB := zM (hb); replace HH16 := zM (Kd.H_grown (Kd.H_widen (by repeat (first | exact HH16.out | refine Kd.H_alloc ?_ _ | refine Kd.H_drewN ?_ _ | refine Kd.H_drew ?_))) hg (fun k_ e_ => .inl (UU16.out.1 k_ e_))); have HO335 := zM (ho); clear HO_3 UU16 HL332_0; clear ho hb hg hat; have p13 : 0 ≤ (((rd_T69 l0_1 x4_1).f1) : Int) := of_decide_eq_true zA; have q13 : (((rd_T69 l0_1 x4_1).f1) : Int) < ((x3_1.length : Int) : Int) := of_decide_eq_true zA; replace p13 := eq_true p13; replace q13 := eq_true q13; obtain ⟨Ao20, co20, eo20⟩ := Kd.R_slice HO335.out; subst eo20; obtain ⟨_, _, hraw18, _, _, hcc18, _⟩ := Kd.H_raw HH16.out (of_decide_eq_true zA) (by have h_ : (((rd_T69 l0_1 x4_1).f1) : Int) < ((x3_1.length : Int) : Int) := of_decide_eq_true zA; first | exact h_ | (have e_ := (HN16.out); omega) | simpa using h_); obtain ⟨_, hfr18⟩ := Kd.H_at HH16.out (of_decide_eq_true zA) (by have h_ : (((rd_T69 l0_1 x4_1).f1) : Int) < ((x3_1.length : Int) : Int) := of_decide_eq_true zA; first | exact h_ | (have e_ := (HN16.out); omega) | simpa using h_); have hx18_0 := hcc18 0 _ rfl; have hf18_0 := hfr18 0; (try simp only [Nat.add_zero] at hx18_0 hf18_0); (try rw [show ((Kd.slice 3 (Kd.int .i64))).sz = 1 from rfl, Nat.mul_one] at hx18_0); (try rw [show ((Kd.slice 3 (Kd.int .i64))).sz = 1 from rfl, Nat.mul_one] at hf18_0); have HP18 := Kd.S_seg0 HH16.out (of_decide_eq_true zA) (by have h_ : (((rd_T69 l0_1 x4_1).f1) : Int) < ((x3_1.length : Int) : Int) := of_decide_eq_true zA; first | exact h_ | (have e_ := (HN16.out); omega) | simpa using h_) (seg := [.slice Ao20 y333.length co20]) (j := 0) (show 1 ≤ 1 from by decide) (x' := y333) (Kd.M_row HO335.out) (fun _ hk => hk); (try simp only [show ((Kd.slice 3 (Kd.int .i64))).sz = 1 from rfl, Nat.mul_one, Nat.add_zero] at HP18); clear hcc18 hfr18) | ((with_reducible refine gate_store (t := 25) (p := 42) rfl ?_); (try (rw [drewN_self w17]; generalize hq_ : World.drewN w17 _ = w17; have n0_ := zM (Kd.S_at hq_ HO_3.out); have n1_ := zM (blk_at hq_ BK326.out); have n2_ := zM (below_at hq_ HB.out); clear hq_ HO_3 BK326 HB; have HO_3 := n0_; have BK326 := n1_; have HB := n2_; clear n0_ n1_ n2_; (try (obtain ⟨Ao20, co20, eo20⟩ := Kd.R_slice HO335.out)); (try (subst eo20)); (try (obtain ⟨_, _, hraw18, _, _, hcc18, _⟩ := Kd.H_raw HH16.out (of_decide_eq_true zA) (by have h_ : (((rd_T69 l0_1 x4_1).f1) : Int) < ((x3_1.length : Int) : Int) := of_decide_eq_true zA; first | exact h_ | (have e_ := (HN16.out); omega) | simpa using h_))); (try (obtain ⟨_, hfr18⟩ := Kd.H_at HH16.out (of_decide_eq_true zA) (by have h_ : (((rd_T69 l0_1 x4_1).f1) : Int) < ((x3_1.length : Int) : Int) := of_decide_eq_true zA; first | exact h_ | (have e_ := (HN16.out); omega) | simpa using h_))); (try (have hx18_0 := hcc18 0 _ rfl)); (try (have hf18_0 := hfr18 0)); (try (try simp only [Nat.add_zero] at hx18_0 hf18_0)); (try (try rw [show ((Kd.slice 3 (Kd.int .i64))).sz = 1 from rfl, Nat.mul_one] at hx18_0)); (try (try rw [show ((Kd.slice 3 (Kd.int .i64))).sz = 1 from rfl, Nat.mul_one] at hf18_0)); (try (have HP18 := Kd.S_seg0 HH16.out (of_decide_eq_true zA) (by have h_ : (((rd_T69 l0_1 x4_1).f1) : Int) < ((x3_1.length : Int) : Int) := of_decide_eq_true zA; first | exact h_ | (have e_ := (HN16.out); omega) | simpa using h_) (seg := [.slice Ao20 y333.length co20]) (j := 0) (show 1 ≤ 1 from by decide) (x' := y333) (Kd.M_row HO335.out) (fun _ hk => hk))); (try (try simp only [show ((Kd.slice 3 (Kd.int .i64))).sz = 1 from rfl, Nat.mul_one, Nat.add_zero] at HP18)); (try (clear hcc18 hfr18)))); refine store_event (t := 25) (p := 42) (v := ?vo_w19) (w1 := (w17.setCell ⟨go16, (((rd_T69 l0_1 x4_1).f1) : Int).toNat, none⟩ (.slice Ao20 y333.length co20))) ?hg ?ho ?hn ?hr ?_; (case ho => rfl); (case hg => rfl); (case hn => rfl); (case hr => first | (go_simp; done) | (go_simp; rfl)); intro w19 hw; have hg : w17.grownBy w19 (some go16) := (by rw [hw]; exact HP18.2); have hp_ : Kd.S (Kd.slice 3 (Kd.int .i64)) 25 w19 w.heap.size (fun _ => True) (.slice (some ⟨go16, 0, none⟩) x3_1.length co15) y336 := (by rw [hw, Ny336.out]; exact HP18.1); clear HP18; replace BK326 := zM (blk_grown (g := gb326) (o := .cells #[.slice A0_0 l0_0.length c0_0, .slice (some ad330) l0_1.length c0_1] 52 (0, 0)) (zK BK326.out) hg (Kd.R_ne hraw18 BK326.out (by decide))); replace HB := zM ((by rw [hw]; exact below_set HB.out GB16.out : Below w.heap.size w w19)); have HO_3 := zM (hp_); clear HO335 HH16; clear hg hw hp_ hraw18)))
                 go_roundg k1
                 case measure => have := HK1.out; omega
                 case rel => exact ⟨(y336), (wrap64 (x4_1 + 1)), (by first | rfl | (simp; done) | (simp [*]; done)), H', ⟨by have := HK1.out; omega⟩, ⟨by (with_reducible repeat (first | apply Kd.S_alloc | apply Kd.S_drewN | apply Kd.S_drew)); exact HO_3.out⟩, ⟨zK BK326.out⟩, ⟨zB⟩⟩
               · rw [if_neg c12] at H
                 exact absurd H (by simp)
             · rw [if_neg c11] at H
               exact absurd H (by simp)
           · rw [if_neg c10] at H
             exact absurd H (by simp)
         · rw [if_neg c9] at H
           exact absurd H (by simp)
       · rw [if_neg c8] at H
         have c8b0 : decide (x4_1 < (l0_1.length : Int)) = false := decide_eq_false c8
         clear c8
         have H' := Aside0.mk H
         clear H
         have hcz21_0 := zy BK326 0
         have hcz21_1 := zy BK326 1
         have hfz21_0 := blk_frozen BK326.out 0
         have hfz21_1 := blk_frozen BK326.out 1
         go_wp2
         repeat (go_quiet (fail); try go_wp2)
         go_loopg [7] k1 (fun kq v7 w' => ∃ (x3_2 : List (List Int)) (x7_2 : Int), v7 = .int .i64 x7_2 ∧ Aside0 (spec_l2Lists.l1 kq x3_2 x7_2 l0_0 l0_1 = some r) ∧ Aside0 (kq ≤ k1) ∧ Aside0 (Kd.S (Kd.slice 3 (Kd.int .i64)) 25 w' w.heap.size (fun _ => True) v328 x3_2) ∧ Aside0 (w'.heap[gb326]? = some (.cells #[(.slice A0_0 l0_0.length c0_0), (.slice A0_1 l0_1.length c0_1)] 52 (0, 0))) ∧ Aside0 (Below w.heap.size w w'))
         case atStart => exact ⟨(x3_1), (0), (by first | rfl | (simp; done) | (simp [*]; done)), H', ⟨Nat.le_refl _⟩, ⟨by (with_reducible repeat (first | apply Kd.S_alloc | apply Kd.S_drewN | apply Kd.S_drew)); exact HO_3.out⟩, ⟨zK BK326.out⟩, ⟨zB⟩⟩
         case round =>
          clear H'
          try clear c1
          try clear p1
          try clear q1
          try clear hx1
          try clear hf1
          try clear c2
          try clear c2b0
          try clear c2b1
          try clear p2
          try clear c3
          try clear c3b0
          try clear c3b1
          try clear p3
          try clear q3
          try clear hx3
          try clear c4
          try clear p6
          try clear c8
          try clear c8b0
          try clear c9
          try clear c9b0
          try clear c10
          try clear c10b0
          try clear c11
          try clear c11b0
          try clear c12
          try clear p13
          try clear q13
          try clear c16
          try clear c18
          try clear hx18
          try clear hf18
          try clear hcz14_0
          try clear hcz14_1
          try clear hcz21_0
          try clear hcz21_1
          try clear hcz5_0
          try clear hcz5_1
          try clear hfz14_0
          try clear hfz14_1
          try clear hfz21_0
          try clear hfz21_1
          try clear hfz5_0
          try clear hfz5_1
          try clear hx18_0
          try clear hx330_0
          try clear hx330_1
          try clear hx331_0
          try clear hx331_1
          try clear hx332_0
          try clear p13
          try clear p2
          try clear p330
          try clear p331
          try clear p332
          try clear q13
          try clear q330
          try clear q331
          try clear q332
          obtain ⟨x3_2, x7_2, rfl, HA, HK2, HO_3, BK326, HB⟩ := hrel
          cases gk with
          | zero => exact absurd HA.out (by simp [spec_l2Lists.l1])
          | succ k2 =>
           have H := HA.out
           clear HA
           simp only [spec_l2Lists.l1] at H
           by_cases c22 : x7_2 < (l0_1.length : Int)
           · rw [if_pos c22] at H
             have c22b0 := decide_eq_true c22
             clear c22
             by_cases c23 : 0 ≤ x7_2
             · rw [if_pos c23] at H
               have c23b0 := decide_eq_true c23
               clear c23
               by_cases c24 : 0 ≤ ((rd_T69 l0_1 x7_2).f0)
               · rw [if_pos c24] at H
                 have c24b0 := decide_eq_true c24
                 clear c24
                 by_cases c25 : ((rd_T69 l0_1 x7_2).f0) < (x3_2.length : Int)
                 · rw [if_pos c25] at H
                   have c25b0 := decide_eq_true c25
                   clear c25
                   by_cases c26 : (rd_L2 x3_2 ((rd_T69 l0_1 x7_2).f0)).length < 17592186044416
                   · rw [if_pos c26] at H
                     have LMc26 := Aside0.mk c26
                     clear c26
                     obtain ⟨y340, hy340⟩ : ∃ y_ : List Int, y_ = ((rd_L2 x3_2 ((rd_T69 l0_1 x7_2).f0)) ++ [(rd_T69 l0_1 x7_2).f1]) := ⟨_, rfl⟩
                     replace H : (spec_l2Lists.l1 k2 (x3_2.set (((rd_T69 l0_1 x7_2).f0) : Int).toNat y340) (wrap64 (x7_2 + 1)) l0_0 l0_1) = some r := by first | (rw [hy340]; with_reducible exact H) | (have H2_ := (Option.bind_some _ _).symm.trans H; rw [hy340]; with_reducible exact H2_) | (have H2_ := (Option.bind_some _ _).symm.trans H; with_reducible exact H2_) | with_reducible exact H | (rw [hy340]; exact H) | exact H
                     have Ny340 := Aside0.mk hy340
                     clear hy340
                     obtain ⟨y343, hy343⟩ : ∃ y_ : List (List Int), y_ = (x3_2.set (((rd_T69 l0_1 x7_2).f0) : Int).toNat y340) := ⟨_, rfl⟩
                     replace H : (spec_l2Lists.l1 k2 y343 (wrap64 (x7_2 + 1)) l0_0 l0_1) = some r := by first | (rw [hy343]; with_reducible exact H) | (have H2_ := (Option.bind_some _ _).symm.trans H; rw [hy343]; with_reducible exact H2_) | (have H2_ := (Option.bind_some _ _).symm.trans H; with_reducible exact H2_) | with_reducible exact H | (rw [hy343]; exact H) | exact H
                     have Ny343 := Aside0.mk hy343
                     clear hy343
                     have H' := Aside0.mk H
                     clear H
                     have hcz28_0 := zy BK326 0
                     have hcz28_1 := zy BK326 1
                     have hfz28_0 := blk_frozen BK326.out 0
                     have hfz28_1 := blk_frozen BK326.out 1
                     have p337 : 0 ≤ (x7_2 : Int) := of_decide_eq_true zA
                     have q337 : x7_2 < (l0_1.length : Int) := of_decide_eq_true zA
                     obtain ⟨ad337, e337, hx337_0, hx337_1⟩ := at_T69 HR0_1.out x7_2 p337 q337
                     cases e337
                     (try replace hx337_0 := (HB.out.cell (World.block_lt_of_cell? w _ hx337_0)).trans hx337_0)
                     (try replace hx337_1 := (HB.out.cell (World.block_lt_of_cell? w _ hx337_1)).trans hx337_1)
                     replace p337 := eq_true p337
                     replace q337 := eq_true q337
                     have p338 : 0 ≤ (x7_2 : Int) := of_decide_eq_true zA
                     have q338 : x7_2 < (l0_1.length : Int) := of_decide_eq_true zA
                     obtain ⟨ad338, e338, hx338_0, hx338_1⟩ := at_T69 HR0_1.out x7_2 p338 q338
                     obtain rfl : ad337 = ad338 := (by injection e338)
                     (try replace hx338_0 := (HB.out.cell (World.block_lt_of_cell? w _ hx338_0)).trans hx338_0)
                     (try replace hx338_1 := (HB.out.cell (World.block_lt_of_cell? w _ hx338_1)).trans hx338_1)
                     replace p338 := eq_true p338
                     replace q338 := eq_true q338
                     obtain ⟨Ao29, co29, eo29⟩ := Kd.S_slice HO_3.out
                     subst eo29
                     have p339 : 0 ≤ (((rd_T69 l0_1 x7_2).f0) : Int) := of_decide_eq_true zA
                     have q339 : ((rd_T69 l0_1 x7_2).f0) < (x3_2.length : Int) := of_decide_eq_true zA
                     obtain ⟨ad339, A339_0, c339_0, e339, hx339_0, hl339_0, hi339_0⟩ := at_L2 (Kd.S_reads' HO_3.out).2.2 ((rd_T69 l0_1 x7_2).f0) p339 q339
                     cases e339
                     obtain ⟨ce339, hce339, hMe339, hcc339⟩ := Kd.S_get HO_3.out [] ((rd_T69 l0_1 x7_2).f0) p339 (by first | exact q339 | exact of_decide_eq_true zA | (have e_ := (Kd.S_reads' HO_3.out).1; omega))
                     obtain ⟨ve339_0, rfl, ge339_0⟩ := hMe339
                     have hv339_0 := hcc339 0 _ rfl
                     rw [Nat.add_zero, show ((Kd.slice 3 (Kd.int .i64))).sz = 1 from rfl, Nat.mul_one] at hv339_0
                     replace hv339_0 := Option.some.inj (hv339_0.symm.trans hx339_0)
                     rw [hv339_0] at ge339_0
                     have HL339_0 := zM (show Kd.R (Kd.int .i64) 3 _ _ _ _ (rd_L2 x3_2 ((rd_T69 l0_1 x7_2).f0)) from ge339_0)
                     clear hv339_0 ge339_0
                     have HX339_0 := Aside0.mk hx339_0
                     clear hcc339 hce339
                     have HR339_0 := Aside0.mk hi339_0
                     have HC339_0 := Aside0.mk hl339_0
                     clear hi339_0 hl339_0
                     replace p339 := eq_true p339
                     replace q339 := eq_true q339
                     obtain ⟨go30, co30, eo30, gb30, gl30, cl30, HG30⟩ := Kd.S_form HO_3.out (by have h_ : (((rd_T69 l0_1 x7_2).f0) : Int) < ((x3_2.length : Int) : Int) := of_decide_eq_true zA; have h2_ : 0 ≤ (((rd_T69 l0_1 x7_2).f0) : Int) := (of_decide_eq_true zA); omega)
                     (first | cases eo30 | (injection eo30 with ea_ en_ ec_; (first | subst ea_ | (injection ea_ with ea_; subst ea_)); subst ec_; clear en_))
                     have GB30 := Aside0.mk gb30
                     have GG30 := Aside0.mk HG30
                     clear gb30 gl30 HG30
                     (first | simp only [add_plain] at hx339_0 | skip)
                     obtain ⟨oki30, ce30, hcl30, hM30, hcc30, _, _, hH30⟩ := Kd.S_elem HO_3.out [] (((rd_T69 l0_1 x7_2).f0) : Int) (of_decide_eq_true zA) (by have h_ : (((rd_T69 l0_1 x7_2).f0) : Int) < ((x3_2.length : Int) : Int) := of_decide_eq_true zA; first | exact h_ | (have e_ := (Kd.S_reads' HO_3.out).1; omega) | simpa using h_)
                     obtain ⟨ve30_0, rfl, ge30_0⟩ := hM30
                     have hv30 := hcc30 0 _ rfl
                     have hX30 := HX339_0.out
                     (try simp only [add_plain] at hX30)
                     (try simp only [Nat.add_zero] at hv30)
                     (try rw [show ((Kd.slice 3 (Kd.int .i64))).sz = 1 from rfl, Nat.mul_one] at hv30)
                     replace hv30 := Option.some.inj (hv30.symm.trans hX30)
                     subst hv30
                     clear hX30 hcc30 hcl30
                     have UU30 := zM (show Kd.R (Kd.int .i64) 3 _ w.heap.size oki30 (.slice A339_0 (rd_L2 x3_2 ((rd_T69 l0_1 x7_2).f0)).length c339_0) (rd_L2 x3_2 ((rd_T69 l0_1 x7_2).f0)) from ge30_0)
                     have HH30 := Aside0.mk hH30
                     have HN30 := zM (Kd.S_reads' HO_3.out).1
                     clear hH30 ge30_0
                     go_wp2_with (first | ((with_reducible refine gate_builtin (b := .append) (xs := #[.tmp 67, .tmp 69]) rfl ?_); at_builtin; refine Kd.R_append (Kd.int .i64) (w0 := w) w.heap.size rfl (.tmp 67) (.tmp 69) 25 3 (.int .i64 0) 8 rfl Tryz.underlying25 info3 rfl (by decide) (by omega) (.slice A339_0 (rd_L2 x3_2 ((rd_T69 l0_1 x7_2).f0)).length c339_0) (rd_L2 x3_2 ((rd_T69 l0_1 x7_2).f0)) ((rd_T69 l0_1 x7_2).f1) [.int .i64 ((rd_T69 l0_1 x7_2).f1)] (fun k_ => oki30 k_ ∨ ((fun _ => True)) k_ ∧ wr.heap.size ≤ k_) (fun _ => False) rfl rfl ?aP (fun _ hk => hk.elim) ?aF ?aO ?aB ?aS ?aL ?_; (case aP => exact rfl); (case aB => exact zB); (case aF => exact (fun k_ hk => .inr ⟨trivial, hk⟩)); (case aO => exact (by (with_reducible repeat (first | apply Kd.R_alloc | apply Kd.R_drewN | apply Kd.R_drew)); exact Kd.R_mono UU30.out (fun _ hk => .inl hk))); (case aS => exact (below_size zB)); (case aL => have := LMc26.out; omega); intro v341 w31 ho hb hg hat; rw [← Ny340.out] at ho; replace BK326 := zM (blk_grown (g := gb326) (o := .cells #[.slice A0_0 l0_0.length c0_0, .slice (some ad337) l0_1.length c0_1] 52 (0, 0)) (zK BK326.out) hg (Kd.R_ne HL339_0.out BK326.out (by decide))); replace HB := zM (hb); replace HH30 := zM (Kd.H_grown (Kd.H_widen (by repeat (first | exact HH30.out | refine Kd.H_alloc ?_ _ | refine Kd.H_drewN ?_ _ | refine Kd.H_drew ?_))) hg (fun k_ e_ => .inl (UU30.out.1 k_ e_))); have HO342 := zM (ho); clear HO_3 UU30 HL339_0; clear ho hb hg hat; have p27 : 0 ≤ (((rd_T69 l0_1 x7_2).f0) : Int) := of_decide_eq_true zA; have q27 : (((rd_T69 l0_1 x7_2).f0) : Int) < ((x3_2.length : Int) : Int) := of_decide_eq_true zA; replace p27 := eq_true p27; replace q27 := eq_true q27; obtain ⟨Ao34, co34, eo34⟩ := Kd.R_slice HO342.out; subst eo34; obtain ⟨_, _, hraw32, _, _, hcc32, _⟩ := Kd.H_raw HH30.out (of_decide_eq_true zA) (by have h_ : (((rd_T69 l0_1 x7_2).f0) : Int) < ((x3_2.length : Int) : Int) := of_decide_eq_true zA; first | exact h_ | (have e_ := (HN30.out); omega) | simpa using h_); obtain ⟨_, hfr32⟩ := Kd.H_at HH30.out (of_decide_eq_true zA) (by have h_ : (((rd_T69 l0_1 x7_2).f0) : Int) < ((x3_2.length : Int) : Int) := of_decide_eq_true zA; first | exact h_ | (have e_ := (HN30.out); omega) | simpa using h_); have hx32_0 := hcc32 0 _ rfl; have hf32_0 := hfr32 0; (try simp only [Nat.add_zero] at hx32_0 hf32_0); (try rw [show ((Kd.slice 3 (Kd.int .i64))).sz = 1 from rfl, Nat.mul_one] at hx32_0); (try rw [show ((Kd.slice 3 (Kd.int .i64))).sz = 1 from rfl, Nat.mul_one] at hf32_0); have HP32 := Kd.S_seg0 HH30.out (of_decide_eq_true zA) (by have h_ : (((rd_T69 l0_1 x7_2).f0) : Int) < ((x3_2.length : Int) : Int) := of_decide_eq_true zA; first | exact h_ | (have e_ := (HN30.out); omega) | simpa using h_) (seg := [.slice Ao34 y340.length co34]) (j := 0) (show 1 ≤ 1 from by decide) (x' := y340) (Kd.M_row HO342.out) (fun _ hk => hk); (try simp only [show ((Kd.slice 3 (Kd.int .i64))).sz = 1 from rfl, Nat.mul_one, Nat.add_zero] at HP32); clear hcc32 hfr32) | ((with_reducible refine gate_store (t := 25) (p := 71) rfl ?_); (try (rw [drewN_self w31]; generalize hq_ : World.drewN w31 _ = w31; have n0_ := zM (Kd.S_at hq_ HO_3.out); have n1_ := zM (blk_at hq_ BK326.out); have n2_ := zM (below_at hq_ HB.out); clear hq_ HO_3 BK326 HB; have HO_3 := n0_; have BK326 := n1_; have HB := n2_; clear n0_ n1_ n2_; (try (obtain ⟨Ao34, co34, eo34⟩ := Kd.R_slice HO342.out)); (try (subst eo34)); (try (obtain ⟨_, _, hraw32, _, _, hcc32, _⟩ := Kd.H_raw HH30.out (of_decide_eq_true zA) (by have h_ : (((rd_T69 l0_1 x7_2).f0) : Int) < ((x3_2.length : Int) : Int) := of_decide_eq_true zA; first | exact h_ | (have e_ := (HN30.out); omega) | simpa using h_))); (try (obtain ⟨_, hfr32⟩ := Kd.H_at HH30.out (of_decide_eq_true zA) (by have h_ : (((rd_T69 l0_1 x7_2).f0) : Int) < ((x3_2.length : Int) : Int) := of_decide_eq_true zA; first | exact h_ | (have e_ := (HN30.out); omega) | simpa using h_))); (try (have hx32_0 := hcc32 0 _ rfl)); (try (have hf32_0 := hfr32 0)); (try (try simp only [Nat.add_zero] at hx32_0 hf32_0)); (try (try rw [show ((Kd.slice 3 (Kd.int .i64))).sz = 1 from rfl, Nat.mul_one] at hx32_0)); (try (try rw [show ((Kd.slice 3 (Kd.int .i64))).sz = 1 from rfl, Nat.mul_one] at hf32_0)); (try (have HP32 := Kd.S_seg0 HH30.out (of_decide_eq_true zA) (by have h_ : (((rd_T69 l0_1 x7_2).f0) : Int) < ((x3_2.length : Int) : Int) := of_decide_eq_true zA; first | exact h_ | (have e_ := (HN30.out); omega) | simpa using h_) (seg := [.slice Ao34 y340.length co34]) (j := 0) (show 1 ≤ 1 from by decide) (x' := y340) (Kd.M_row HO342.out) (fun _ hk => hk))); (try (try simp only [show ((Kd.slice 3 (Kd.int .i64))).sz = 1 from rfl, Nat.mul_one, Nat.add_zero] at HP32)); (try (clear hcc32 hfr32)))); refine store_event (t := 25) (p := 71) (v := ?vo_w33) (w1 := (w31.setCell ⟨go30, (((rd_T69 l0_1 x7_2).f0) : Int).toNat, none⟩ (.slice Ao34 y340.length co34))) ?hg ?ho ?hn ?hr ?_; (case ho => rfl); (case hg => rfl); (case hn => rfl); (case hr => first | (go_simp; done) | (go_simp; rfl)); intro w33 hw; have hg : w31.grownBy w33 (some go30) := (by rw [hw]; exact HP32.2); have hp_ : Kd.S (Kd.slice 3 (Kd.int .i64)) 25 w33 w.heap.size (fun _ => True) (.slice (some ⟨go30, 0, none⟩) x3_2.length co29) y343 := (by rw [hw, Ny343.out]; exact HP32.1); clear HP32; replace BK326 := zM (blk_grown (g := gb326) (o := .cells #[.slice A0_0 l0_0.length c0_0, .slice (some ad337) l0_1.length c0_1] 52 (0, 0)) (zK BK326.out) hg (Kd.R_ne hraw32 BK326.out (by decide))); replace HB := zM ((by rw [hw]; exact below_set HB.out GB30.out : Below w.heap.size w w33)); have HO_3 := zM (hp_); clear HO342 HH30; clear hg hw hp_ hraw32))
                     repeat (go_quiet (first | ((with_reducible refine gate_builtin (b := .append) (xs := #[.tmp 67, .tmp 69]) rfl ?_); at_builtin; refine Kd.R_append (Kd.int .i64) (w0 := w) w.heap.size rfl (.tmp 67) (.tmp 69) 25 3 (.int .i64 0) 8 rfl Tryz.underlying25 info3 rfl (by decide) (by omega) (.slice A339_0 (rd_L2 x3_2 ((rd_T69 l0_1 x7_2).f0)).length c339_0) (rd_L2 x3_2 ((rd_T69 l0_1 x7_2).f0)) ((rd_T69 l0_1 x7_2).f1) [.int .i64 ((rd_T69 l0_1 x7_2).f1)] (fun k_ => oki30 k_ ∨ ((fun _ => True)) k_ ∧ wr.heap.size ≤ k_) (fun _ => False) rfl rfl ?aP (fun _ hk => hk.elim) ?aF ?aO ?aB ?aS ?aL ?_; (case aP => exact rfl); (case aB => exact zB); (case aF => exact (fun k_ hk => .inr ⟨trivial, hk⟩)); (case aO => exact (by (with_reducible repeat (first | apply Kd.R_alloc | apply Kd.R_drewN | apply Kd.R_drew)); exact Kd.R_mono UU30.out (fun _ hk => .inl hk))); (case aS => exact (below_size zB)); (case aL => have := LMc26.out; omega); intro v341 w31 ho hb hg hat; rw [← Ny340.out] at ho; replace BK326 := zM (blk_grown (g := gb326) (o := .cells #[.slice A0_0 l0_0.length c0_0, .slice (some ad337) l0_1.length c0_1] 52 (0, 0)) (zK BK326.out) hg (Kd.R_ne HL339_0.out BK326.out (by decide))); replace HB := zM (hb); replace HH30 := zM (Kd.H_grown (Kd.H_widen (by repeat (first | exact HH30.out | refine Kd.H_alloc ?_ _ | refine Kd.H_drewN ?_ _ | refine Kd.H_drew ?_))) hg (fun k_ e_ => .inl (UU30.out.1 k_ e_))); have HO342 := zM (ho); clear HO_3 UU30 HL339_0; clear ho hb hg hat; have p27 : 0 ≤ (((rd_T69 l0_1 x7_2).f0) : Int) := of_decide_eq_true zA; have q27 : (((rd_T69 l0_1 x7_2).f0) : Int) < ((x3_2.length : Int) : Int) := of_decide_eq_true zA; replace p27 := eq_true p27; replace q27 := eq_true q27; obtain ⟨Ao34, co34, eo34⟩ := Kd.R_slice HO342.out; subst eo34; obtain ⟨_, _, hraw32, _, _, hcc32, _⟩ := Kd.H_raw HH30.out (of_decide_eq_true zA) (by have h_ : (((rd_T69 l0_1 x7_2).f0) : Int) < ((x3_2.length : Int) : Int) := of_decide_eq_true zA; first | exact h_ | (have e_ := (HN30.out); omega) | simpa using h_); obtain ⟨_, hfr32⟩ := Kd.H_at HH30.out (of_decide_eq_true zA) (by have h_ : (((rd_T69 l0_1 x7_2).f0) : Int) < ((x3_2.length : Int) : Int) := of_decide_eq_true zA; first | exact h_ | (have e_ := (HN30.out); omega) | simpa using h_); have hx32_0 := hcc32 0 _ rfl; have hf32_0 := hfr32 0; (try simp only [Nat.add_zero] at hx32_0 hf32_0); (try rw [show ((Kd.slice 3 (Kd.int .i64))).sz = 1 from rfl, Nat.mul_one] at hx32_0); (try rw [show ((Kd.slice 3 (Kd.int .i64))).sz = 1 from rfl, Nat.mul_one] at hf32_0); have HP32 := Kd.S_seg0 HH30.out (of_decide_eq_true zA) (by have h_ : (((rd_T69 l0_1 x7_2).f0) : Int) < ((x3_2.length : Int) : Int) := of_decide_eq_true zA; first | exact h_ | (have e_ := (HN30.out); omega) | simpa using h_) (seg := [.slice Ao34 y340.length co34]) (j := 0) (show 1 ≤ 1 from by decide) (x' := y340) (Kd.M_row HO342.out) (fun _ hk => hk); (try simp only [show ((Kd.slice 3 (Kd.int .i64))).sz = 1 from rfl, Nat.mul_one, Nat.add_zero] at HP32); clear hcc32 hfr32) | ((with_reducible refine gate_store (t := 25) (p := 71) rfl ?_); (try (rw [drewN_self w31]; generalize hq_ : World.drewN w31 _ = w31; have n0_ := zM (Kd.S_at hq_ HO_3.out); have n1_ := zM (blk_at hq_ BK326.out); have n2_ := zM (below_at hq_ HB.out); clear hq_ HO_3 BK326 HB; have HO_3 := n0_; have BK326 := n1_; have HB := n2_; clear n0_ n1_ n2_; (try (obtain ⟨Ao34, co34, eo34⟩ := Kd.R_slice HO342.out)); (try (subst eo34)); (try (obtain ⟨_, _, hraw32, _, _, hcc32, _⟩ := Kd.H_raw HH30.out (of_decide_eq_true zA) (by have h_ : (((rd_T69 l0_1 x7_2).f0) : Int) < ((x3_2.length : Int) : Int) := of_decide_eq_true zA; first | exact h_ | (have e_ := (HN30.out); omega) | simpa using h_))); (try (obtain ⟨_, hfr32⟩ := Kd.H_at HH30.out (of_decide_eq_true zA) (by have h_ : (((rd_T69 l0_1 x7_2).f0) : Int) < ((x3_2.length : Int) : Int) := of_decide_eq_true zA; first | exact h_ | (have e_ := (HN30.out); omega) | simpa using h_))); (try (have hx32_0 := hcc32 0 _ rfl)); (try (have hf32_0 := hfr32 0)); (try (try simp only [Nat.add_zero] at hx32_0 hf32_0)); (try (try rw [show ((Kd.slice 3 (Kd.int .i64))).sz = 1 from rfl, Nat.mul_one] at hx32_0)); (try (try rw [show ((Kd.slice 3 (Kd.int .i64))).sz = 1 from rfl, Nat.mul_one] at hf32_0)); (try (have HP32 := Kd.S_seg0 HH30.out (of_decide_eq_true zA) (by have h_ : (((rd_T69 l0_1 x7_2).f0) : Int) < ((x3_2.length : Int) : Int) := of_decide_eq_true zA; first | exact h_ | (have e_ := (HN30.out); omega) | simpa using h_) (seg := [.slice Ao34 y340.length co34]) (j := 0) (show 1 ≤ 1 from by decide) (x' := y340) (Kd.M_row HO342.out) (fun _ hk => hk))); (try (try simp only [show ((Kd.slice 3 (Kd.int .i64))).sz = 1 from rfl, Nat.mul_one, Nat.add_zero] at HP32)); (try (clear hcc32 hfr32)))); refine store_event (t := 25) (p := 71) (v := ?vo_w33) (w1 := (w31.setCell ⟨go30, (((rd_T69 l0_1 x7_2).f0) : Int).toNat, none⟩ (.slice Ao34 y340.length co34))) ?hg ?ho ?hn ?hr ?_; (case ho => rfl); (case hg => rfl); (case hn => rfl); (case hr => first | (go_simp; done) | (go_simp; rfl)); intro w33 hw; have hg : w31.grownBy w33 (some go30) := (by rw [hw]; exact HP32.2); have hp_ : Kd.S (Kd.slice 3 (Kd.int .i64)) 25 w33 w.heap.size (fun _ => True) (.slice (some ⟨go30, 0, none⟩) x3_2.length co29) y343 := (by rw [hw, Ny343.out]; exact HP32.1); clear HP32; replace BK326 := zM (blk_grown (g := gb326) (o := .cells #[.slice A0_0 l0_0.length c0_0, .slice (some ad337) l0_1.length c0_1] 52 (0, 0)) (zK BK326.out) hg (Kd.R_ne hraw32 BK326.out (by decide))); replace HB := zM ((by rw [hw]; exact below_set HB.out GB30.out : Below w.heap.size w w33)); have HO_3 := zM (hp_); clear HO342 HH30; clear hg hw hp_ hraw32)); try go_wp2_with (first | ((with_reducible refine gate_builtin (b := .append) (xs := #[.tmp 67, .tmp 69]) rfl ?_); at_builtin; refine Kd.R_append (Kd.int .i64) (w0 := w) w.heap.size rfl (.tmp 67) (.tmp 69) 25 3 (.int .i64 0) 8 rfl Tryz.underlying25 info3 rfl (by decide) (by omega) (.slice A339_0 (rd_L2 x3_2 ((rd_T69 l0_1 x7_2).f0)).length c339_0) (rd_L2 x3_2 ((rd_T69 l0_1 x7_2).f0)) ((rd_T69 l0_1 x7_2).f1) [.int .i64 ((rd_T69 l0_1 x7_2).f1)] (fun k_ => oki30 k_ ∨ ((fun _ => True)) k_ ∧ wr.heap.size ≤ k_) (fun _ => False) rfl rfl ?aP (fun _ hk => hk.elim) ?aF ?aO ?aB ?aS ?aL ?_; (case aP => exact rfl); (case aB => exact zB); (case aF => exact (fun k_ hk => .inr ⟨trivial, hk⟩)); (case aO => exact (by (with_reducible repeat (first | apply Kd.R_alloc | apply Kd.R_drewN | apply Kd.R_drew)); exact Kd.R_mono UU30.out (fun _ hk => .inl hk))); (case aS => exact (below_size zB)); (case aL => have := LMc26.out; omega); intro v341 w31 ho hb hg hat; rw [← Ny340.out] at ho; replace BK326 := zM (blk_grown (g := gb326) (o := .cells #[.slice A0_0 l0_0.length c0_0, .slice (some ad337) l0_1.length c0_1] 52 (0, 0)) (zK BK326.out) hg (Kd.R_ne HL339_0.out BK326.out (by decide))); replace HB := zM (hb); replace HH30 := zM (Kd.H_grown (Kd.H_widen (by repeat (first | exact HH30.out | refine Kd.H_alloc ?_ _ | refine Kd.H_drewN ?_ _ | refine Kd.H_drew ?_))) hg (fun k_ e_ => .inl (UU30.out.1 k_ e_))); have HO342 := zM (ho); clear HO_3 UU30 HL339_0; clear ho hb hg hat; have p27 : 0 ≤ (((rd_T69 l0_1 x7_2).f0) : Int) := of_decide_eq_true zA; have q27 : (((rd_T69 l0_1 x7_2).f0) : Int) < ((x3_2.length : Int) : Int) := of_decide_eq_true zA; replace p27 := eq_true p27; replace q27 := eq_true q27; obtain ⟨Ao34, co34, eo34⟩ := Kd.R_slice HO342.out; subst eo34; obtain ⟨_, _, hraw32, _, _, hcc32, _⟩ := Kd.H_raw HH30.out (of_decide_eq_true zA) (by have h_ : (((rd_T69 l0_1 x7_2).f0) : Int) < ((x3_2.length : Int) : Int) := of_decide_eq_true zA; first | exact h_ | (have e_ := (HN30.out); omega) | simpa using h_); obtain ⟨_, hfr32⟩ := Kd.H_at HH30.out (of_decide_eq_true zA) (by have h_ : (((rd_T69 l0_1 x7_2).f0) : Int) < ((x3_2.length : Int) : Int) := of_decide_eq_true zA; first | exact h_ | (have e_ := (HN30.out); omega) | simpa using h_); have hx32_0 := hcc32 0 _ rfl; have hf32_0 := hfr32 0; (try simp only [Nat.add_zero] at hx32_0 hf32_0); (try rw [show ((Kd.slice 3 (Kd.int .i64))).sz = 1 from rfl, Nat.mul_one] at hx32_0); (try rw [show ((Kd.slice 3 (Kd.int .i64))).sz = 1 from rfl, Nat.mul_one] at hf32_0); have HP32 := Kd.S_seg0 HH30.out (of_decide_eq_true zA) (by have h_ : (((rd_T69 l0_1 x7_2).f0) : Int) < ((x3_2.length : Int) : Int) := of_decide_eq_true zA; first | exact h_ | (have e_ := (HN30.out); omega) | simpa using h_) (seg := [.slice Ao34 y340.length co34]) (j := 0) (show 1 ≤ 1 from by decide) (x' := y340) (Kd.M_row HO342.out) (fun _ hk => hk); (try simp only [show ((Kd.slice 3 (Kd.int .i64))).sz = 1 from rfl, Nat.mul_one, Nat.add_zero] at HP32); clear hcc32 hfr32) | ((with_reducible refine gate_store (t := 25) (p := 71) rfl ?_); (try (rw [drewN_self w31]; generalize hq_ : World.drewN w31 _ = w31; have n0_ := zM (Kd.S_at hq_ HO_3.out); have n1_ := zM (blk_at hq_ BK326.out); have n2_ := zM (below_at hq_ HB.out); clear hq_ HO_3 BK326 HB; have HO_3 := n0_; have BK326 := n1_; have HB := n2_; clear n0_ n1_ n2_; (try (obtain ⟨Ao34, co34, eo34⟩ := Kd.R_slice HO342.out)); (try (subst eo34)); (try (obtain ⟨_, _, hraw32, _, _, hcc32, _⟩ := Kd.H_raw HH30.out (of_decide_eq_true zA) (by have h_ : (((rd_T69 l0_1 x7_2).f0) : Int) < ((x3_2.length : Int) : Int) := of_decide_eq_true zA; first | exact h_ | (have e_ := (HN30.out); omega) | simpa using h_))); (try (obtain ⟨_, hfr32⟩ := Kd.H_at HH30.out (of_decide_eq_true zA) (by have h_ : (((rd_T69 l0_1 x7_2).f0) : Int) < ((x3_2.length : Int) : Int) := of_decide_eq_true zA; first | exact h_ | (have e_ := (HN30.out); omega) | simpa using h_))); (try (have hx32_0 := hcc32 0 _ rfl)); (try (have hf32_0 := hfr32 0)); (try (try simp only [Nat.add_zero] at hx32_0 hf32_0)); (try (try rw [show ((Kd.slice 3 (Kd.int .i64))).sz = 1 from rfl, Nat.mul_one] at hx32_0)); (try (try rw [show ((Kd.slice 3 (Kd.int .i64))).sz = 1 from rfl, Nat.mul_one] at hf32_0)); (try (have HP32 := Kd.S_seg0 HH30.out (of_decide_eq_true zA) (by have h_ : (((rd_T69 l0_1 x7_2).f0) : Int) < ((x3_2.length : Int) : Int) := of_decide_eq_true zA; first | exact h_ | (have e_ := (HN30.out); omega) | simpa using h_) (seg := [.slice Ao34 y340.length co34]) (j := 0) (show 1 ≤ 1 from by decide) (x' := y340) (Kd.M_row HO342.out) (fun _ hk => hk))); (try (try simp only [show ((Kd.slice 3 (Kd.int .i64))).sz = 1 from rfl, Nat.mul_one, Nat.add_zero] at HP32)); (try (clear hcc32 hfr32)))); refine store_event (t := 25) (p := 71) (v := ?vo_w33) (w1 := (w31.setCell ⟨go30, (((rd_T69 l0_1 x7_2).f0) : Int).toNat, none⟩ (.slice Ao34 y340.length co34))) ?hg ?ho ?hn ?hr ?_; (case ho => rfl); (case hg => rfl); (case hn => rfl); (case hr => first | (go_simp; done) | (go_simp; rfl)); intro w33 hw; have hg : w31.grownBy w33 (some go30) := (by rw [hw]; exact HP32.2); have hp_ : Kd.S (Kd.slice 3 (Kd.int .i64)) 25 w33 w.heap.size (fun _ => True) (.slice (some ⟨go30, 0, none⟩) x3_2.length co29) y343 := (by rw [hw, Ny343.out]; exact HP32.1); clear HP32; replace BK326 := zM (blk_grown (g := gb326) (o := .cells #[.slice A0_0 l0_0.length c0_0, .slice (some ad337) l0_1.length c0_1] 52 (0, 0)) (zK BK326.out) hg (Kd.R_ne hraw32 BK326.out (by decide))); replace HB := zM ((by rw [hw]; exact below_set HB.out GB30.out : Below w.heap.size w w33)); have HO_3 := zM (hp_); clear HO342 HH30; clear hg hw hp_ hraw32)))
                     go_roundg k2
                     case measure => have := HK1.out; have := HK2.out; omega
                     case rel => exact ⟨(y343), (wrap64 (x7_2 + 1)), (by first | rfl | (simp; done) | (simp [*]; done)), H', ⟨by have := HK1.out; have := HK2.out; omega⟩, ⟨by (with_reducible repeat (first | apply Kd.S_alloc | apply Kd.S_drewN | apply Kd.S_drew)); exact HO_3.out⟩, ⟨zK BK326.out⟩, ⟨zB⟩⟩
                   · rw [if_neg c26] at H
                     exact absurd H (by simp)
                 · rw [if_neg c25] at H
                   exact absurd H (by simp)
               · rw [if_neg c24] at H
                 exact absurd H (by simp)
             · rw [if_neg c23] at H
               exact absurd H (by simp)
           · rw [if_neg c22] at H
             have c22b0 : decide (x7_2 < (l0_1.length : Int)) = false := decide_eq_false c22
             clear c22
             obtain rfl := Option.some.inj H
             have hcz35_0 := zy BK326 0
             have hcz35_1 := zy BK326 1
             have hfz35_0 := blk_frozen BK326.out 0
             have hfz35_1 := blk_frozen BK326.out 1
             go_wp2
             repeat (go_quiet (fail); try go_wp2)
             go_ret
             exact ⟨_, by first | rfl | (simp [errW_none, errW_some] <;> rfl) | (simp [*, errW_none, errW_some] <;> rfl), by (with_reducible repeat (first | apply Kd.S_alloc | apply Kd.S_drewN | apply Kd.S_drew)); exact HO_3.out, zB⟩
   · rw [if_neg c3] at H
     exact absurd H (by simp)
 · rw [if_neg c2] at H
   exact absurd H (by simp)

end Go.Proofs.YtadjbmcfgjmhkaaGreat.P
