-- Written by a program of this session (the kit's print, turned: wip/print/patch.py) out of the translation. Not trusted: Lean checks it.
import Derived.Test.YtnlmijnbfdhdkaaPartsOfG4
import Derived.Handy
namespace Go.Proofs.Ytnlmijnbfdhdkaa.P
open Go.RowKit Go.Proofs.YtnlmijnbfdhdkaaW.PrintWords Go.Proofs.YtnlmijnbfdhdkaaW.PrintLast Go.Proofs.YtnlmijnbfdhdkaaW.PrintMore
attribute [local go_sem] max2_int min2_int max_two min_two max_three min_three max_four min_four   -- for this text's walks alone
set_option linter.unusedVariables false
set_option linter.unusedSimpArgs false

/-! ### spec_l2Pairs: function 124 -/
def spec_l2Pairs.l0 : Nat → List (S88) → Int → Int → Option (Bool)
 | 0, _, _, _ => none
 | k + 1, x0, x1, x5 => if x5 < (x0.length : Int) then (if 0 ≤ x5 then ((spec_l1In.f ((rd_T88 x0 x5).f0) 0 (wrap64 (x1 - 1))).bind fun t122 => (if t122 = true then ((spec_l1In.f ((rd_T88 x0 x5).f1) 0 (wrap64 (x1 - 1))).bind fun t123 => (if t123 = true then (if ((rd_T88 x0 x5).f0) ≥ ((rd_T88 x0 x5).f1) then (some false) else (if x5 > 0 then (if 0 ≤ (wrap64 (x5 - 1)) then (if (wrap64 (x5 - 1)) < (x0.length : Int) then ((spec_l2Edge.f ((rd_T88 x0 (wrap64 (x5 - 1))).f0) ((rd_T88 x0 (wrap64 (x5 - 1))).f1) ((rd_T88 x0 x5).f0) ((rd_T88 x0 x5).f1)).bind fun t125 => (if t125 = true then (spec_l2Pairs.l0 k x0 x1 (wrap64 (x5 + 1))) else (some false))) else (none)) else (none)) else (spec_l2Pairs.l0 k x0 x1 (wrap64 (x5 + 1))))) else (some false))) else (some false))) else (none)) else (some true)
def spec_l2Pairs.f (k : Nat) (l0 : List (S88)) (a1 : Int) : Option (Bool) := spec_l2Pairs.l0 k l0 a1 0
def spec_l2Pairs.T5 : Bool × List (List Nat × List Nat) := (true, [([], []), ([0], [0]), ([], []), ([2], [2]), ([1, 3], [1, 3]), ([4], [4]), ([5, 4], [5]), ([6], [6]), ([7, 6], [6, 7]), ([6], [6]), ([9, 6], [6, 9]), ([8, 10, 6, 6], [6, 8, 10]), ([11, 6], [6, 11]), ([6, 12], [6, 12]), ([13, 11], [13]), ([14], [14]), ([15, 14], [14, 15]), ([14], [14]), ([17, 14], [14, 17]), ([16, 18, 14], [14, 16, 18]), ([14, 19], [14, 19]), ([20, 14], [20]), ([21], [21]), ([22, 21], [21, 22]), ([23, 21, 21], [21, 23]), ([24], [24]), ([24], [24]), ([26, 24], [24, 26]), ([25, 27, 24], [24, 25, 27]), ([28, 24], [24, 28]), ([24], [24]), ([29, 30, 24, 24], [24, 29, 30]), ([31, 24], [24, 31]), ([24, 32, 21], [21, 24, 32]), ([21, 33], [21, 33])])
def spec_l2Pairs.B5 : List Nat := [0, 1, 0, 4, 15, 31, 63, 127, 255, 127, 639, 2047, 4095, 8191, 16383, 32767, 65535, 32767, 163839, 524287, 1048575, 2097151, 4194303, 8388607, 16777215, 33554431, 33554431, 100663295, 268435455, 536870911, 33554431, 2147483647, 4294967295, 8589934591, 17179869183]
theorem spec_l2Pairs.tab5 : rtab .any (opsOf Try.f124 5) = spec_l2Pairs.T5 := by kernel_rfl
theorem spec_l2Pairs.bits5 : waitsOk spec_l2Pairs.T5.2 spec_l2Pairs.B5 = true := by kernel_rfl
set_option maxHeartbeats 8000000 in
set_option maxRecDepth 100000 in
theorem spec_l2Pairs.calls (k : Nat) (A0 : Option Addr) (c0 : Nat) (l0 : List (S88)) (a1 : Int) (r : Bool) (w : World) (hr0 : Kd.C k88 w A0 l0.length l0) (hc0 : l0.length ≤ c0) (h : spec_l2Pairs.f k l0 a1 = some r) :
 Calls Try.prog 124 #[.slice A0 l0.length c0, .int .i64 a1] w fun e w' => e = .returned (.bool r) ∧ Below w.heap.size w w' := by
 have hu88 := Try.underlying88
 have HR0 := Aside0.mk hr0
 have HC0 := Aside0.mk hc0
 clear hr0 hc0
 have HB := zM (Below.refl w.heap.size w)
 have H : (spec_l2Pairs.l0 k l0 a1 0) = some r := h
 clear h
 have H' := Aside0.mk H
 clear H
 go_enter Try.func124, Try.ntmps124
 go_wp2
 go_loopg [5] k (fun kq v5 w' => ∃ (x5_1 : Int), v5 = .int .i64 x5_1 ∧ Aside0 (spec_l2Pairs.l0 kq l0 a1 x5_1 = some r) ∧ Aside0 (kq ≤ k) ∧ Aside0 (Below w.heap.size w w'))
 case atStart => exact ⟨(0), (by first | rfl | (simp; done) | (simp [*]; done)), H', ⟨Nat.le_refl _⟩, ⟨zB⟩⟩
 case round =>
  clear H'
  try clear c1
  try clear p2
  obtain ⟨x5_1, rfl, HA, HK1, HB⟩ := hrel
  cases gk with
  | zero => exact absurd HA.out (by simp [spec_l2Pairs.l0])
  | succ k1 =>
   have H := HA.out
   clear HA
   simp only [spec_l2Pairs.l0] at H
   by_cases c3 : x5_1 < (l0.length : Int)
   · rw [if_pos c3] at H
     have c3b0 := decide_eq_true c3
     clear c3
     by_cases c4 : 0 ≤ x5_1
     · rw [if_pos c4] at H
       have c4b0 := decide_eq_true c4
       clear c4
       replace H := Option.bind_eq_some_iff.mp H
       obtain ⟨t122, A50, H⟩ := H
       have A5 := Aside0.mk A50
       clear A50
       by_cases c6 : t122 = true
       · subst c6
         rw [if_pos rfl] at H
         replace H := Option.bind_eq_some_iff.mp H
         obtain ⟨t123, A70, H⟩ := H
         have A7 := Aside0.mk A70
         clear A70
         by_cases c8 : t123 = true
         · subst c8
           rw [if_pos rfl] at H
           by_cases c9 : ((rd_T88 l0 x5_1).f0) ≥ ((rd_T88 l0 x5_1).f1)
           · rw [if_pos c9] at H
             have c9b0 : decide (((rd_T88 l0 x5_1).f1) ≤ ((rd_T88 l0 x5_1).f0)) = true := decide_eq_true c9
             clear c9
             obtain rfl := Option.some.inj H
             have p120 : 0 ≤ (x5_1 : Int) := of_decide_eq_true zA
             have q120 : x5_1 < (l0.length : Int) := of_decide_eq_true zA
             obtain ⟨ad120, e120, hx120_0, hx120_1⟩ := at_T88 HR0.out x5_1 p120 q120
             cases e120
             (try replace hx120_0 := (HB.out.cell (World.block_lt_of_cell? w _ hx120_0)).trans hx120_0)
             (try replace hx120_1 := (HB.out.cell (World.block_lt_of_cell? w _ hx120_1)).trans hx120_1)
             replace p120 := eq_true p120
             replace q120 := eq_true q120
             try go_wp2_with (first | ((with_reducible refine gate_dst (N := 6) rfl ?_); refine zb (w := w) 6 #[.int .i64 0, .int .i64 0] 88 zB ?_; clear HB; intro gb121 w10 HB BK121 GW121; have GE121 := GW121; have hcz11_0 := zy BK121 0; have hcz11_1 := zy BK121 1; have hfz11_0 := blk_frozen BK121.out 0; have hfz11_1 := blk_frozen BK121.out 1))
             have n0_ : Aside0 (((w10.setCell ⟨gb121, 0, none⟩ (.int .i64 ((rd_T88 l0 x5_1).f0))).setCell ⟨gb121, 1, none⟩ (.int .i64 ((rd_T88 l0 x5_1).f1))).heap[gb121]? = some (.cells #[.int .i64 ((rd_T88 l0 x5_1).f0), .int .i64 ((rd_T88 l0 x5_1).f1)] 88 (0, 0))) := ⟨by (with_reducible repeat (first | refine blk_drewN ?_ _ | refine blk_drew ?_ | refine blk_alloc ?_ _)); refine blk_put (cs := #[.int .i64 ((rd_T88 l0 x5_1).f0), .int .i64 0]) ?_ 1 _ rfl; (with_reducible repeat (first | refine blk_drewN ?_ _ | refine blk_drew ?_ | refine blk_alloc ?_ _)); refine blk_put (cs := #[.int .i64 0, .int .i64 0]) ?_ 0 _ rfl; (with_reducible repeat (first | refine blk_drewN ?_ _ | refine blk_drew ?_ | refine blk_alloc ?_ _)); exact BK121.out⟩
             have n1_ : Aside0 (Below w.heap.size w ((w10.setCell ⟨gb121, 0, none⟩ (.int .i64 ((rd_T88 l0 x5_1).f0))).setCell ⟨gb121, 1, none⟩ (.int .i64 ((rd_T88 l0 x5_1).f1)))) := ⟨zB⟩
             (try clear BK121)
             (try clear HB)
             generalize ((w10.setCell ⟨gb121, 0, none⟩ (.int .i64 ((rd_T88 l0 x5_1).f0))).setCell ⟨gb121, 1, none⟩ (.int .i64 ((rd_T88 l0 x5_1).f1))) = w12 at n0_ n1_ ⊢
             have BK121 := n0_
             have HB := n1_
             clear n0_ n1_
             replace BK121 := zM (blk_drew BK121.out)
             replace HB := zM (below_drew1 HB.out)
             refine zs (n := 35) (fun w' => w'.cell? ⟨gb121, 0, none⟩ = some (.int .i64 ((rd_T88 l0 x5_1).f0)) ∧ w'.cell? ⟨gb121, 1, none⟩ = some (.int .i64 ((rd_T88 l0 x5_1).f1))) ⟨(blk_cell BK121.out 0).trans rfl, (blk_cell BK121.out 1).trans rfl⟩ (fun hHeld => ?_); refine with_tabW spec_l2Pairs.tab5 spec_l2Pairs.bits5 (fun HT_ HW_ => ?_)
             generalize w12.drew = w13 at BK121 HB hHeld ⊢
             refine zp HT_ 0 17 ?_
             refine zp HT_ 2 19 ?_
             refine zp HT_ 3 20 ?_
             refine zt HT_ HW_ 1 18 hHeld ?_ (hy := by rintro w' ⟨s0, s1⟩; go_simp; with_reducible rfl)
             refine zg HT_ 4 21 Try.func125 #[.int .i64 ((rd_T88 l0 x5_1).f0), .int .i64 0, .int .i64 (wrap64 (a1 - 1))] (fun K hK => ?_)
             with_reducible refine (spec_l1In.calls ((rd_T88 l0 x5_1).f0) 0 (wrap64 (a1 - 1)) true _ A5.out).mono ?_
             rintro e w' ⟨rfl, ⟨nd, rfl⟩⟩
             refine ⟨_, rfl, ?_⟩
             refine hK.out _ _ ⟨(blk_cell BK121.out 0).trans rfl, (blk_cell BK121.out 1).trans rfl⟩ (fun hHeld => ?_)
             clear hK K
             refine zn 21 ?_
             refine zp HT_ 5 22 ?_
             refine zp HT_ 6 23 ?_
             refine zp HT_ 7 24 ?_
             refine zp HT_ 9 26 ?_
             refine zp HT_ 10 27 ?_
             refine zt HT_ HW_ 8 25 hHeld ?_ (hy := by rintro w' ⟨s0, s1⟩; go_simp; with_reducible rfl)
             refine zg HT_ 11 28 Try.func125 #[.int .i64 ((rd_T88 l0 x5_1).f1), .int .i64 0, .int .i64 (wrap64 (a1 - 1))] (fun K hK => ?_)
             with_reducible refine (spec_l1In.calls ((rd_T88 l0 x5_1).f1) 0 (wrap64 (a1 - 1)) true _ A7.out).mono ?_
             rintro e w' ⟨rfl, ⟨nd, rfl⟩⟩
             refine ⟨_, rfl, ?_⟩
             refine hK.out _ _ ⟨(blk_cell BK121.out 0).trans rfl, (blk_cell BK121.out 1).trans rfl⟩ (fun hHeld => ?_)
             clear hK K
             refine zn 28 ?_
             refine zp HT_ 12 29 ?_
             refine zp HT_ 13 30 ?_
             refine zp HT_ 14 31 ?_
             refine zp HT_ 15 32 ?_
             refine zp HT_ 17 34 ?_
             refine zt HT_ HW_ 16 33 hHeld ?_ (hy := by rintro w' ⟨s0, s1⟩; go_simp; with_reducible rfl)
             refine zt HT_ HW_ 18 35 hHeld ?_ (hy := by rintro w' ⟨s0, s1⟩; go_simp; with_reducible rfl)
             refine zp HT_ 19 36 ?_
             refine zp HT_ 20 37 ?_
             refine zp HT_ 21 38 ?_
             refine zu HT_ 22 39 ?_
             refine zu HT_ 23 40 ?_
             refine zu HT_ 24 41 ?_
             refine zu HT_ 25 42 ?_
             refine zu HT_ 26 43 ?_
             refine zu HT_ 27 44 ?_
             refine zu HT_ 28 45 ?_
             refine zu HT_ 29 46 ?_
             refine zu HT_ 30 47 ?_
             refine zu HT_ 31 48 ?_
             refine zu HT_ 32 49 ?_
             refine zu HT_ 33 50 ?_
             refine zp HT_ 34 51 ?_
             refine zo HT_ ?_
             try go_wp2
             go_ret
             exact ⟨by first | rfl | (simp [errW_none, errW_some] <;> rfl) | (simp [*, errW_none, errW_some] <;> rfl), zB⟩
           · rw [if_neg c9] at H
             have c9b0 : decide (((rd_T88 l0 x5_1).f1) ≤ ((rd_T88 l0 x5_1).f0)) = false := decide_eq_false c9
             clear c9
             by_cases c14 : x5_1 > 0
             · rw [if_pos c14] at H
               have c14b0 : decide (0 < x5_1) = true := decide_eq_true c14
               clear c14
               obtain ⟨ji15, hji15⟩ : ∃ j_ : Int, (wrap64 (x5_1 - 1)) = j_ := ⟨_, rfl⟩
               replace H : (if 0 ≤ (ji15) then (if (ji15) < (l0.length : Int) then ((spec_l2Edge.f ((rd_T88 l0 (ji15)).f0) ((rd_T88 l0 (ji15)).f1) ((rd_T88 l0 x5_1).f0) ((rd_T88 l0 x5_1).f1)).bind fun t125 => (if t125 = true then (spec_l2Pairs.l0 k1 l0 a1 (wrap64 (x5_1 + 1))) else (some false))) else (none)) else (none)) = some r := by first | (rw [hji15] at H; exact H) | (simp only [hji15] at H ⊢; exact H)
               (try rw [hji15] at A5)
               (try rw [hji15] at A7)
               have hji15w : (IntKind.i64.wrap (x5_1 - 1)) = ji15 := (i64_w _).trans hji15
               by_cases c16 : 0 ≤ (ji15)
               · rw [if_pos c16] at H
                 have c16b0 := decide_eq_true c16
                 clear c16
                 by_cases c17 : (ji15) < (l0.length : Int)
                 · rw [if_pos c17] at H
                   have c17b0 := decide_eq_true c17
                   clear c17
                   replace H := Option.bind_eq_some_iff.mp H
                   obtain ⟨t125, A180, H⟩ := H
                   have A18 := Aside0.mk A180
                   clear A180
                   by_cases c19 : t125 = true
                   · subst c19
                     rw [if_pos rfl] at H
                     have H' := Aside0.mk H
                     clear H
                     have p120 : 0 ≤ (x5_1 : Int) := of_decide_eq_true zA
                     have q120 : x5_1 < (l0.length : Int) := of_decide_eq_true zA
                     obtain ⟨ad120, e120, hx120_0, hx120_1⟩ := at_T88 HR0.out x5_1 p120 q120
                     cases e120
                     (try replace hx120_0 := (HB.out.cell (World.block_lt_of_cell? w _ hx120_0)).trans hx120_0)
                     (try replace hx120_1 := (HB.out.cell (World.block_lt_of_cell? w _ hx120_1)).trans hx120_1)
                     replace p120 := eq_true p120
                     replace q120 := eq_true q120
                     try go_wp2_with (first | ((with_reducible refine gate_dst (N := 6) rfl ?_); refine zb (w := w) 6 #[.int .i64 0, .int .i64 0] 88 zB ?_; clear HB; intro gb121 w20 HB BK121 GW121; have GE121 := GW121; have hcz21_0 := zy BK121 0; have hcz21_1 := zy BK121 1; have hfz21_0 := blk_frozen BK121.out 0; have hfz21_1 := blk_frozen BK121.out 1))
                     have n0_ : Aside0 (((w20.setCell ⟨gb121, 0, none⟩ (.int .i64 ((rd_T88 l0 x5_1).f0))).setCell ⟨gb121, 1, none⟩ (.int .i64 ((rd_T88 l0 x5_1).f1))).heap[gb121]? = some (.cells #[.int .i64 ((rd_T88 l0 x5_1).f0), .int .i64 ((rd_T88 l0 x5_1).f1)] 88 (0, 0))) := ⟨by (with_reducible repeat (first | refine blk_drewN ?_ _ | refine blk_drew ?_ | refine blk_alloc ?_ _)); refine blk_put (cs := #[.int .i64 ((rd_T88 l0 x5_1).f0), .int .i64 0]) ?_ 1 _ rfl; (with_reducible repeat (first | refine blk_drewN ?_ _ | refine blk_drew ?_ | refine blk_alloc ?_ _)); refine blk_put (cs := #[.int .i64 0, .int .i64 0]) ?_ 0 _ rfl; (with_reducible repeat (first | refine blk_drewN ?_ _ | refine blk_drew ?_ | refine blk_alloc ?_ _)); exact BK121.out⟩
                     have n1_ : Aside0 (Below w.heap.size w ((w20.setCell ⟨gb121, 0, none⟩ (.int .i64 ((rd_T88 l0 x5_1).f0))).setCell ⟨gb121, 1, none⟩ (.int .i64 ((rd_T88 l0 x5_1).f1)))) := ⟨zB⟩
                     (try clear BK121)
                     (try clear HB)
                     generalize ((w20.setCell ⟨gb121, 0, none⟩ (.int .i64 ((rd_T88 l0 x5_1).f0))).setCell ⟨gb121, 1, none⟩ (.int .i64 ((rd_T88 l0 x5_1).f1))) = w22 at n0_ n1_ ⊢
                     have BK121 := n0_
                     have HB := n1_
                     clear n0_ n1_
                     replace BK121 := zM (blk_drew BK121.out)
                     replace HB := zM (below_drew1 HB.out)
                     have p124 : 0 ≤ ((ji15) : Int) := of_decide_eq_true zA
                     have q124 : (ji15) < (l0.length : Int) := of_decide_eq_true zA
                     obtain ⟨ad124, e124, hx124_0, hx124_1⟩ := at_T88 HR0.out (ji15) p124 q124
                     have hw124_1 := hx124_1
                     have hw124_0 := hx124_0
                     obtain rfl : ad120 = ad124 := (by injection e124)
                     (try replace hx124_0 := (HB.out.cell (World.block_lt_of_cell? w _ hx124_0)).trans hx124_0)
                     (try replace hx124_1 := (HB.out.cell (World.block_lt_of_cell? w _ hx124_1)).trans hx124_1)
                     replace p124 := eq_true p124
                     replace q124 := eq_true q124
                     refine zs (n := 35) (fun w' => w'.cell? ⟨gb121, 0, none⟩ = some (.int .i64 ((rd_T88 l0 x5_1).f0)) ∧ w'.cell? ⟨gb121, 1, none⟩ = some (.int .i64 ((rd_T88 l0 x5_1).f1)) ∧ w'.cell? (ad120.add (((ji15)).toNat * 2)) = some (.int .i64 ((rd_T88 l0 (ji15)).f0)) ∧ w'.cell? ⟨(ad120.add (((ji15)).toNat * 2)).block, (ad120.add (((ji15)).toNat * 2)).off + 1, none⟩ = some (.int .i64 ((rd_T88 l0 (ji15)).f1))) ⟨(blk_cell BK121.out 0).trans rfl, (blk_cell BK121.out 1).trans rfl, ((HB.out.cell (World.block_lt_of_cell? w _ hw124_0)).trans hw124_0), ((HB.out.cell (World.block_lt_of_cell? w _ hw124_1)).trans hw124_1)⟩ (fun hHeld => ?_); refine with_tabW spec_l2Pairs.tab5 spec_l2Pairs.bits5 (fun HT_ HW_ => ?_)
                     generalize w22.drew = w23 at BK121 HB hx124_0 hx124_1 hHeld ⊢
                     refine zp HT_ 0 17 ?_
                     refine zp HT_ 2 19 ?_
                     refine zp HT_ 3 20 ?_
                     refine zt HT_ HW_ 1 18 hHeld ?_ (hy := by rintro w' ⟨s0, s1, s2, s3⟩; go_simp; with_reducible rfl)
                     refine zg HT_ 4 21 Try.func125 #[.int .i64 ((rd_T88 l0 x5_1).f0), .int .i64 0, .int .i64 (wrap64 (a1 - 1))] (fun K hK => ?_)
                     with_reducible refine (spec_l1In.calls ((rd_T88 l0 x5_1).f0) 0 (wrap64 (a1 - 1)) true _ A5.out).mono ?_
                     rintro e w' ⟨rfl, ⟨nd, rfl⟩⟩
                     refine ⟨_, rfl, ?_⟩
                     refine hK.out _ _ ⟨(blk_cell BK121.out 0).trans rfl, (blk_cell BK121.out 1).trans rfl, ((HB.out.cell (World.block_lt_of_cell? w _ hw124_0)).trans hw124_0), ((HB.out.cell (World.block_lt_of_cell? w _ hw124_1)).trans hw124_1)⟩ (fun hHeld => ?_)
                     clear hK K
                     refine zn 21 ?_
                     refine zp HT_ 5 22 ?_
                     refine zp HT_ 6 23 ?_
                     refine zp HT_ 7 24 ?_
                     refine zp HT_ 9 26 ?_
                     refine zp HT_ 10 27 ?_
                     refine zt HT_ HW_ 8 25 hHeld ?_ (hy := by rintro w' ⟨s0, s1, s2, s3⟩; go_simp; with_reducible rfl)
                     refine zg HT_ 11 28 Try.func125 #[.int .i64 ((rd_T88 l0 x5_1).f1), .int .i64 0, .int .i64 (wrap64 (a1 - 1))] (fun K hK => ?_)
                     with_reducible refine (spec_l1In.calls ((rd_T88 l0 x5_1).f1) 0 (wrap64 (a1 - 1)) true _ A7.out).mono ?_
                     rintro e w' ⟨rfl, ⟨nd, rfl⟩⟩
                     refine ⟨_, rfl, ?_⟩
                     refine hK.out _ _ ⟨(blk_cell BK121.out 0).trans rfl, (blk_cell BK121.out 1).trans rfl, ((HB.out.cell (World.block_lt_of_cell? w _ hw124_0)).trans hw124_0), ((HB.out.cell (World.block_lt_of_cell? w _ hw124_1)).trans hw124_1)⟩ (fun hHeld => ?_)
                     clear hK K
                     refine zn 28 ?_
                     refine zp HT_ 12 29 ?_
                     refine zp HT_ 13 30 ?_
                     refine zp HT_ 14 31 ?_
                     refine zp HT_ 15 32 ?_
                     refine zp HT_ 17 34 ?_
                     refine zt HT_ HW_ 16 33 hHeld ?_ (hy := by rintro w' ⟨s0, s1, s2, s3⟩; go_simp; with_reducible rfl)
                     refine zt HT_ HW_ 18 35 hHeld ?_ (hy := by rintro w' ⟨s0, s1, s2, s3⟩; go_simp; with_reducible rfl)
                     refine zp HT_ 19 36 ?_
                     refine zp HT_ 20 37 ?_
                     refine zp HT_ 21 38 ?_
                     refine zp HT_ 22 39 ?_
                     refine zp HT_ 23 40 ?_
                     refine zp HT_ 24 41 ?_
                     refine zp HT_ 25 42 ?_
                     refine zp HT_ 26 43 ?_
                     refine zp HT_ 27 44 ?_
                     refine zp HT_ 28 45 ?_
                     refine zt HT_ HW_ 29 46 hHeld ?_ (hy := by rintro w' ⟨s0, s1, s2, s3⟩; go_simp; with_reducible rfl)
                     refine zt HT_ HW_ 30 47 hHeld ?_ (hy := by rintro w' ⟨s0, s1, s2, s3⟩; go_simp; with_reducible rfl)
                     refine one_ (i := 31) (N := some 48) #[true, true, true, true, true, true, true, true, true, true, true, true, true, true, true, true, true, true, true, true, true, true, true, true, true, true, true, true, true, true, true, true, false, false, false] rfl rfl (one_of HT_.out (by kernel_rfl)) (by decide) (fun K hK => ?_)
                     refine goes_ Try.func145 (by kernel_rfl) rfl #[.agg #[.int .i64 ((rd_T88 l0 (ji15)).f0), .int .i64 ((rd_T88 l0 (ji15)).f1)], .agg #[.int .i64 ((rd_T88 l0 x5_1).f0), .int .i64 ((rd_T88 l0 x5_1).f1)]] (by rfl) rfl rfl (by (try simp only [List.map_toArray, List.map_cons, List.map_nil]); first | done | (simp only [hji15]; rfl) | rfl | (simp only [List.length_drop, List.length_take]; rfl)) ?_
                     with_reducible refine (spec_l2Edge.calls ((rd_T88 l0 (ji15)).f0) ((rd_T88 l0 (ji15)).f1) ((rd_T88 l0 x5_1).f0) ((rd_T88 l0 x5_1).f1) true _ A18.out).mono ?_
                     rintro e w24 ⟨rfl, hb⟩
                     refine ⟨_, rfl, ?_⟩
                     replace BK121 := zM (blk_below (g := gb121) (o := .cells #[.int .i64 ((rd_T88 l0 x5_1).f0), .int .i64 ((rd_T88 l0 x5_1).f1)] 88 (0, 0)) (zK BK121.out) hb)
                     replace HB := zM (below_step zB hb)
                     (try clear hb)
                     (try clear hb2)
                     (try clear hk)
                     (try clear hi)
                     refine hK.out _ _ ⟨(blk_cell BK121.out 0).trans rfl, (blk_cell BK121.out 1).trans rfl, ((HB.out.cell (World.block_lt_of_cell? w _ hw124_0)).trans hw124_0), ((HB.out.cell (World.block_lt_of_cell? w _ hw124_1)).trans hw124_1)⟩ (fun hHeld => ?_)
                     clear hK K
                     refine zn 48 ?_
                     refine zp HT_ 32 49 ?_
                     refine zp HT_ 33 50 ?_
                     refine zp HT_ 34 51 ?_
                     refine zo HT_ ?_
                     try go_wp2
                     go_roundg k1
                     case measure => have := HK1.out; omega
                     case rel => exact ⟨(wrap64 (x5_1 + 1)), (by first | rfl | (simp; done) | (simp [*]; done)), H', ⟨by have := HK1.out; omega⟩, ⟨zB⟩⟩
                   · replace c19 := Bool.eq_false_iff.mpr c19
                     subst c19
                     have H1 : (some false) = some r := by rw [if_neg (show ¬ (false = true) by decide)] at H; exact H
                     clear H
                     have H := H1
                     clear H1
                     obtain rfl := Option.some.inj H
                     have p120 : 0 ≤ (x5_1 : Int) := of_decide_eq_true zA
                     have q120 : x5_1 < (l0.length : Int) := of_decide_eq_true zA
                     obtain ⟨ad120, e120, hx120_0, hx120_1⟩ := at_T88 HR0.out x5_1 p120 q120
                     cases e120
                     (try replace hx120_0 := (HB.out.cell (World.block_lt_of_cell? w _ hx120_0)).trans hx120_0)
                     (try replace hx120_1 := (HB.out.cell (World.block_lt_of_cell? w _ hx120_1)).trans hx120_1)
                     replace p120 := eq_true p120
                     replace q120 := eq_true q120
                     try go_wp2_with (first | ((with_reducible refine gate_dst (N := 6) rfl ?_); refine zb (w := w) 6 #[.int .i64 0, .int .i64 0] 88 zB ?_; clear HB; intro gb121 w25 HB BK121 GW121; have GE121 := GW121; have hcz26_0 := zy BK121 0; have hcz26_1 := zy BK121 1; have hfz26_0 := blk_frozen BK121.out 0; have hfz26_1 := blk_frozen BK121.out 1))
                     have n0_ : Aside0 (((w25.setCell ⟨gb121, 0, none⟩ (.int .i64 ((rd_T88 l0 x5_1).f0))).setCell ⟨gb121, 1, none⟩ (.int .i64 ((rd_T88 l0 x5_1).f1))).heap[gb121]? = some (.cells #[.int .i64 ((rd_T88 l0 x5_1).f0), .int .i64 ((rd_T88 l0 x5_1).f1)] 88 (0, 0))) := ⟨by (with_reducible repeat (first | refine blk_drewN ?_ _ | refine blk_drew ?_ | refine blk_alloc ?_ _)); refine blk_put (cs := #[.int .i64 ((rd_T88 l0 x5_1).f0), .int .i64 0]) ?_ 1 _ rfl; (with_reducible repeat (first | refine blk_drewN ?_ _ | refine blk_drew ?_ | refine blk_alloc ?_ _)); refine blk_put (cs := #[.int .i64 0, .int .i64 0]) ?_ 0 _ rfl; (with_reducible repeat (first | refine blk_drewN ?_ _ | refine blk_drew ?_ | refine blk_alloc ?_ _)); exact BK121.out⟩
                     have n1_ : Aside0 (Below w.heap.size w ((w25.setCell ⟨gb121, 0, none⟩ (.int .i64 ((rd_T88 l0 x5_1).f0))).setCell ⟨gb121, 1, none⟩ (.int .i64 ((rd_T88 l0 x5_1).f1)))) := ⟨zB⟩
                     (try clear BK121)
                     (try clear HB)
                     generalize ((w25.setCell ⟨gb121, 0, none⟩ (.int .i64 ((rd_T88 l0 x5_1).f0))).setCell ⟨gb121, 1, none⟩ (.int .i64 ((rd_T88 l0 x5_1).f1))) = w27 at n0_ n1_ ⊢
                     have BK121 := n0_
                     have HB := n1_
                     clear n0_ n1_
                     replace BK121 := zM (blk_drew BK121.out)
                     replace HB := zM (below_drew1 HB.out)
                     have p124 : 0 ≤ ((ji15) : Int) := of_decide_eq_true zA
                     have q124 : (ji15) < (l0.length : Int) := of_decide_eq_true zA
                     obtain ⟨ad124, e124, hx124_0, hx124_1⟩ := at_T88 HR0.out (ji15) p124 q124
                     have hw124_1 := hx124_1
                     have hw124_0 := hx124_0
                     obtain rfl : ad120 = ad124 := (by injection e124)
                     (try replace hx124_0 := (HB.out.cell (World.block_lt_of_cell? w _ hx124_0)).trans hx124_0)
                     (try replace hx124_1 := (HB.out.cell (World.block_lt_of_cell? w _ hx124_1)).trans hx124_1)
                     replace p124 := eq_true p124
                     replace q124 := eq_true q124
                     refine zs (n := 35) (fun w' => w'.cell? ⟨gb121, 0, none⟩ = some (.int .i64 ((rd_T88 l0 x5_1).f0)) ∧ w'.cell? ⟨gb121, 1, none⟩ = some (.int .i64 ((rd_T88 l0 x5_1).f1)) ∧ w'.cell? (ad120.add (((ji15)).toNat * 2)) = some (.int .i64 ((rd_T88 l0 (ji15)).f0)) ∧ w'.cell? ⟨(ad120.add (((ji15)).toNat * 2)).block, (ad120.add (((ji15)).toNat * 2)).off + 1, none⟩ = some (.int .i64 ((rd_T88 l0 (ji15)).f1))) ⟨(blk_cell BK121.out 0).trans rfl, (blk_cell BK121.out 1).trans rfl, ((HB.out.cell (World.block_lt_of_cell? w _ hw124_0)).trans hw124_0), ((HB.out.cell (World.block_lt_of_cell? w _ hw124_1)).trans hw124_1)⟩ (fun hHeld => ?_); refine with_tabW spec_l2Pairs.tab5 spec_l2Pairs.bits5 (fun HT_ HW_ => ?_)
                     generalize w27.drew = w28 at BK121 HB hx124_0 hx124_1 hHeld ⊢
                     refine zp HT_ 0 17 ?_
                     refine zp HT_ 2 19 ?_
                     refine zp HT_ 3 20 ?_
                     refine zt HT_ HW_ 1 18 hHeld ?_ (hy := by rintro w' ⟨s0, s1, s2, s3⟩; go_simp; with_reducible rfl)
                     refine zg HT_ 4 21 Try.func125 #[.int .i64 ((rd_T88 l0 x5_1).f0), .int .i64 0, .int .i64 (wrap64 (a1 - 1))] (fun K hK => ?_)
                     with_reducible refine (spec_l1In.calls ((rd_T88 l0 x5_1).f0) 0 (wrap64 (a1 - 1)) true _ A5.out).mono ?_
                     rintro e w' ⟨rfl, ⟨nd, rfl⟩⟩
                     refine ⟨_, rfl, ?_⟩
                     refine hK.out _ _ ⟨(blk_cell BK121.out 0).trans rfl, (blk_cell BK121.out 1).trans rfl, ((HB.out.cell (World.block_lt_of_cell? w _ hw124_0)).trans hw124_0), ((HB.out.cell (World.block_lt_of_cell? w _ hw124_1)).trans hw124_1)⟩ (fun hHeld => ?_)
                     clear hK K
                     refine zn 21 ?_
                     refine zp HT_ 5 22 ?_
                     refine zp HT_ 6 23 ?_
                     refine zp HT_ 7 24 ?_
                     refine zp HT_ 9 26 ?_
                     refine zp HT_ 10 27 ?_
                     refine zt HT_ HW_ 8 25 hHeld ?_ (hy := by rintro w' ⟨s0, s1, s2, s3⟩; go_simp; with_reducible rfl)
                     refine zg HT_ 11 28 Try.func125 #[.int .i64 ((rd_T88 l0 x5_1).f1), .int .i64 0, .int .i64 (wrap64 (a1 - 1))] (fun K hK => ?_)
                     with_reducible refine (spec_l1In.calls ((rd_T88 l0 x5_1).f1) 0 (wrap64 (a1 - 1)) true _ A7.out).mono ?_
                     rintro e w' ⟨rfl, ⟨nd, rfl⟩⟩
                     refine ⟨_, rfl, ?_⟩
                     refine hK.out _ _ ⟨(blk_cell BK121.out 0).trans rfl, (blk_cell BK121.out 1).trans rfl, ((HB.out.cell (World.block_lt_of_cell? w _ hw124_0)).trans hw124_0), ((HB.out.cell (World.block_lt_of_cell? w _ hw124_1)).trans hw124_1)⟩ (fun hHeld => ?_)
                     clear hK K
                     refine zn 28 ?_
                     refine zp HT_ 12 29 ?_
                     refine zp HT_ 13 30 ?_
                     refine zp HT_ 14 31 ?_
                     refine zp HT_ 15 32 ?_
                     refine zp HT_ 17 34 ?_
                     refine zt HT_ HW_ 16 33 hHeld ?_ (hy := by rintro w' ⟨s0, s1, s2, s3⟩; go_simp; with_reducible rfl)
                     refine zt HT_ HW_ 18 35 hHeld ?_ (hy := by rintro w' ⟨s0, s1, s2, s3⟩; go_simp; with_reducible rfl)
                     refine zp HT_ 19 36 ?_
                     refine zp HT_ 20 37 ?_
                     refine zp HT_ 21 38 ?_
                     refine zp HT_ 22 39 ?_
                     refine zp HT_ 23 40 ?_
                     refine zp HT_ 24 41 ?_
                     refine zp HT_ 25 42 ?_
                     refine zp HT_ 26 43 ?_
                     refine zp HT_ 27 44 ?_
                     refine zp HT_ 28 45 ?_
                     refine zt HT_ HW_ 29 46 hHeld ?_ (hy := by rintro w' ⟨s0, s1, s2, s3⟩; go_simp; with_reducible rfl)
                     refine zt HT_ HW_ 30 47 hHeld ?_ (hy := by rintro w' ⟨s0, s1, s2, s3⟩; go_simp; with_reducible rfl)
                     refine one_ (i := 31) (N := some 48) #[true, true, true, true, true, true, true, true, true, true, true, true, true, true, true, true, true, true, true, true, true, true, true, true, true, true, true, true, true, true, true, true, false, false, false] rfl rfl (one_of HT_.out (by kernel_rfl)) (by decide) (fun K hK => ?_)
                     refine goes_ Try.func145 (by kernel_rfl) rfl #[.agg #[.int .i64 ((rd_T88 l0 (ji15)).f0), .int .i64 ((rd_T88 l0 (ji15)).f1)], .agg #[.int .i64 ((rd_T88 l0 x5_1).f0), .int .i64 ((rd_T88 l0 x5_1).f1)]] (by rfl) rfl rfl (by (try simp only [List.map_toArray, List.map_cons, List.map_nil]); first | done | (simp only [hji15]; rfl) | rfl | (simp only [List.length_drop, List.length_take]; rfl)) ?_
                     with_reducible refine (spec_l2Edge.calls ((rd_T88 l0 (ji15)).f0) ((rd_T88 l0 (ji15)).f1) ((rd_T88 l0 x5_1).f0) ((rd_T88 l0 x5_1).f1) false _ A18.out).mono ?_
                     rintro e w29 ⟨rfl, hb⟩
                     refine ⟨_, rfl, ?_⟩
                     replace BK121 := zM (blk_below (g := gb121) (o := .cells #[.int .i64 ((rd_T88 l0 x5_1).f0), .int .i64 ((rd_T88 l0 x5_1).f1)] 88 (0, 0)) (zK BK121.out) hb)
                     replace HB := zM (below_step zB hb)
                     (try clear hb)
                     (try clear hb2)
                     (try clear hk)
                     (try clear hi)
                     refine hK.out _ _ ⟨(blk_cell BK121.out 0).trans rfl, (blk_cell BK121.out 1).trans rfl, ((HB.out.cell (World.block_lt_of_cell? w _ hw124_0)).trans hw124_0), ((HB.out.cell (World.block_lt_of_cell? w _ hw124_1)).trans hw124_1)⟩ (fun hHeld => ?_)
                     clear hK K
                     refine zn 48 ?_
                     refine zp HT_ 32 49 ?_
                     refine zp HT_ 33 50 ?_
                     refine zp HT_ 34 51 ?_
                     refine zo HT_ ?_
                     try go_wp2
                     go_ret
                     exact ⟨by first | rfl | (simp [errW_none, errW_some] <;> rfl) | (simp only [← hji15]; first | rfl | (simp [errW_none, errW_some] <;> rfl)) | (simp [*, errW_none, errW_some] <;> rfl), zB⟩
                 · rw [if_neg c17] at H
                   exact absurd H (by simp)
               · rw [if_neg c16] at H
                 exact absurd H (by simp)
             · rw [if_neg c14] at H
               have c14b0 : decide (0 < x5_1) = false := decide_eq_false c14
               clear c14
               have H' := Aside0.mk H
               clear H
               have p120 : 0 ≤ (x5_1 : Int) := of_decide_eq_true zA
               have q120 : x5_1 < (l0.length : Int) := of_decide_eq_true zA
               obtain ⟨ad120, e120, hx120_0, hx120_1⟩ := at_T88 HR0.out x5_1 p120 q120
               cases e120
               (try replace hx120_0 := (HB.out.cell (World.block_lt_of_cell? w _ hx120_0)).trans hx120_0)
               (try replace hx120_1 := (HB.out.cell (World.block_lt_of_cell? w _ hx120_1)).trans hx120_1)
               replace p120 := eq_true p120
               replace q120 := eq_true q120
               try go_wp2_with (first | ((with_reducible refine gate_dst (N := 6) rfl ?_); refine zb (w := w) 6 #[.int .i64 0, .int .i64 0] 88 zB ?_; clear HB; intro gb121 w30 HB BK121 GW121; have GE121 := GW121; have hcz31_0 := zy BK121 0; have hcz31_1 := zy BK121 1; have hfz31_0 := blk_frozen BK121.out 0; have hfz31_1 := blk_frozen BK121.out 1))
               have n0_ : Aside0 (((w30.setCell ⟨gb121, 0, none⟩ (.int .i64 ((rd_T88 l0 x5_1).f0))).setCell ⟨gb121, 1, none⟩ (.int .i64 ((rd_T88 l0 x5_1).f1))).heap[gb121]? = some (.cells #[.int .i64 ((rd_T88 l0 x5_1).f0), .int .i64 ((rd_T88 l0 x5_1).f1)] 88 (0, 0))) := ⟨by (with_reducible repeat (first | refine blk_drewN ?_ _ | refine blk_drew ?_ | refine blk_alloc ?_ _)); refine blk_put (cs := #[.int .i64 ((rd_T88 l0 x5_1).f0), .int .i64 0]) ?_ 1 _ rfl; (with_reducible repeat (first | refine blk_drewN ?_ _ | refine blk_drew ?_ | refine blk_alloc ?_ _)); refine blk_put (cs := #[.int .i64 0, .int .i64 0]) ?_ 0 _ rfl; (with_reducible repeat (first | refine blk_drewN ?_ _ | refine blk_drew ?_ | refine blk_alloc ?_ _)); exact BK121.out⟩
               have n1_ : Aside0 (Below w.heap.size w ((w30.setCell ⟨gb121, 0, none⟩ (.int .i64 ((rd_T88 l0 x5_1).f0))).setCell ⟨gb121, 1, none⟩ (.int .i64 ((rd_T88 l0 x5_1).f1)))) := ⟨zB⟩
               (try clear BK121)
               (try clear HB)
               generalize ((w30.setCell ⟨gb121, 0, none⟩ (.int .i64 ((rd_T88 l0 x5_1).f0))).setCell ⟨gb121, 1, none⟩ (.int .i64 ((rd_T88 l0 x5_1).f1))) = w32 at n0_ n1_ ⊢
               have BK121 := n0_
               have HB := n1_
               clear n0_ n1_
               replace BK121 := zM (blk_drew BK121.out)
               replace HB := zM (below_drew1 HB.out)
               refine zs (n := 35) (fun w' => w'.cell? ⟨gb121, 0, none⟩ = some (.int .i64 ((rd_T88 l0 x5_1).f0)) ∧ w'.cell? ⟨gb121, 1, none⟩ = some (.int .i64 ((rd_T88 l0 x5_1).f1))) ⟨(blk_cell BK121.out 0).trans rfl, (blk_cell BK121.out 1).trans rfl⟩ (fun hHeld => ?_); refine with_tabW spec_l2Pairs.tab5 spec_l2Pairs.bits5 (fun HT_ HW_ => ?_)
               generalize w32.drew = w33 at BK121 HB hHeld ⊢
               refine zp HT_ 0 17 ?_
               refine zp HT_ 2 19 ?_
               refine zp HT_ 3 20 ?_
               refine zt HT_ HW_ 1 18 hHeld ?_ (hy := by rintro w' ⟨s0, s1⟩; go_simp; with_reducible rfl)
               refine zg HT_ 4 21 Try.func125 #[.int .i64 ((rd_T88 l0 x5_1).f0), .int .i64 0, .int .i64 (wrap64 (a1 - 1))] (fun K hK => ?_)
               with_reducible refine (spec_l1In.calls ((rd_T88 l0 x5_1).f0) 0 (wrap64 (a1 - 1)) true _ A5.out).mono ?_
               rintro e w' ⟨rfl, ⟨nd, rfl⟩⟩
               refine ⟨_, rfl, ?_⟩
               refine hK.out _ _ ⟨(blk_cell BK121.out 0).trans rfl, (blk_cell BK121.out 1).trans rfl⟩ (fun hHeld => ?_)
               clear hK K
               refine zn 21 ?_
               refine zp HT_ 5 22 ?_
               refine zp HT_ 6 23 ?_
               refine zp HT_ 7 24 ?_
               refine zp HT_ 9 26 ?_
               refine zp HT_ 10 27 ?_
               refine zt HT_ HW_ 8 25 hHeld ?_ (hy := by rintro w' ⟨s0, s1⟩; go_simp; with_reducible rfl)
               refine zg HT_ 11 28 Try.func125 #[.int .i64 ((rd_T88 l0 x5_1).f1), .int .i64 0, .int .i64 (wrap64 (a1 - 1))] (fun K hK => ?_)
               with_reducible refine (spec_l1In.calls ((rd_T88 l0 x5_1).f1) 0 (wrap64 (a1 - 1)) true _ A7.out).mono ?_
               rintro e w' ⟨rfl, ⟨nd, rfl⟩⟩
               refine ⟨_, rfl, ?_⟩
               refine hK.out _ _ ⟨(blk_cell BK121.out 0).trans rfl, (blk_cell BK121.out 1).trans rfl⟩ (fun hHeld => ?_)
               clear hK K
               refine zn 28 ?_
               refine zp HT_ 12 29 ?_
               refine zp HT_ 13 30 ?_
               refine zp HT_ 14 31 ?_
               refine zp HT_ 15 32 ?_
               refine zp HT_ 17 34 ?_
               refine zt HT_ HW_ 16 33 hHeld ?_ (hy := by rintro w' ⟨s0, s1⟩; go_simp; with_reducible rfl)
               refine zt HT_ HW_ 18 35 hHeld ?_ (hy := by rintro w' ⟨s0, s1⟩; go_simp; with_reducible rfl)
               refine zp HT_ 19 36 ?_
               refine zp HT_ 20 37 ?_
               refine zp HT_ 21 38 ?_
               refine zp HT_ 22 39 ?_
               refine zp HT_ 23 40 ?_
               refine zp HT_ 24 41 ?_
               refine zu HT_ 25 42 ?_
               refine zu HT_ 26 43 ?_
               refine zu HT_ 27 44 ?_
               refine zu HT_ 28 45 ?_
               refine zu HT_ 29 46 ?_
               refine zu HT_ 30 47 ?_
               refine zu HT_ 31 48 ?_
               refine zu HT_ 32 49 ?_
               refine zp HT_ 33 50 ?_
               refine zp HT_ 34 51 ?_
               refine zo HT_ ?_
               try go_wp2
               go_roundg k1
               case measure => have := HK1.out; omega
               case rel => exact ⟨(wrap64 (x5_1 + 1)), (by first | rfl | (simp; done) | (simp [*]; done)), H', ⟨by have := HK1.out; omega⟩, ⟨zB⟩⟩
         · replace c8 := Bool.eq_false_iff.mpr c8
           subst c8
           have H1 : (some false) = some r := by rw [if_neg (show ¬ (false = true) by decide)] at H; exact H
           clear H
           have H := H1
           clear H1
           obtain rfl := Option.some.inj H
           have p120 : 0 ≤ (x5_1 : Int) := of_decide_eq_true zA
           have q120 : x5_1 < (l0.length : Int) := of_decide_eq_true zA
           obtain ⟨ad120, e120, hx120_0, hx120_1⟩ := at_T88 HR0.out x5_1 p120 q120
           cases e120
           (try replace hx120_0 := (HB.out.cell (World.block_lt_of_cell? w _ hx120_0)).trans hx120_0)
           (try replace hx120_1 := (HB.out.cell (World.block_lt_of_cell? w _ hx120_1)).trans hx120_1)
           replace p120 := eq_true p120
           replace q120 := eq_true q120
           try go_wp2_with (first | ((with_reducible refine gate_dst (N := 6) rfl ?_); refine zb (w := w) 6 #[.int .i64 0, .int .i64 0] 88 zB ?_; clear HB; intro gb121 w34 HB BK121 GW121; have GE121 := GW121; have hcz35_0 := zy BK121 0; have hcz35_1 := zy BK121 1; have hfz35_0 := blk_frozen BK121.out 0; have hfz35_1 := blk_frozen BK121.out 1))
           have n0_ : Aside0 (((w34.setCell ⟨gb121, 0, none⟩ (.int .i64 ((rd_T88 l0 x5_1).f0))).setCell ⟨gb121, 1, none⟩ (.int .i64 ((rd_T88 l0 x5_1).f1))).heap[gb121]? = some (.cells #[.int .i64 ((rd_T88 l0 x5_1).f0), .int .i64 ((rd_T88 l0 x5_1).f1)] 88 (0, 0))) := ⟨by (with_reducible repeat (first | refine blk_drewN ?_ _ | refine blk_drew ?_ | refine blk_alloc ?_ _)); refine blk_put (cs := #[.int .i64 ((rd_T88 l0 x5_1).f0), .int .i64 0]) ?_ 1 _ rfl; (with_reducible repeat (first | refine blk_drewN ?_ _ | refine blk_drew ?_ | refine blk_alloc ?_ _)); refine blk_put (cs := #[.int .i64 0, .int .i64 0]) ?_ 0 _ rfl; (with_reducible repeat (first | refine blk_drewN ?_ _ | refine blk_drew ?_ | refine blk_alloc ?_ _)); exact BK121.out⟩
           have n1_ : Aside0 (Below w.heap.size w ((w34.setCell ⟨gb121, 0, none⟩ (.int .i64 ((rd_T88 l0 x5_1).f0))).setCell ⟨gb121, 1, none⟩ (.int .i64 ((rd_T88 l0 x5_1).f1)))) := ⟨zB⟩
           (try clear BK121)
           (try clear HB)
           generalize ((w34.setCell ⟨gb121, 0, none⟩ (.int .i64 ((rd_T88 l0 x5_1).f0))).setCell ⟨gb121, 1, none⟩ (.int .i64 ((rd_T88 l0 x5_1).f1))) = w36 at n0_ n1_ ⊢
           have BK121 := n0_
           have HB := n1_
           clear n0_ n1_
           replace BK121 := zM (blk_drew BK121.out)
           replace HB := zM (below_drew1 HB.out)
           refine zs (n := 35) (fun w' => w'.cell? ⟨gb121, 0, none⟩ = some (.int .i64 ((rd_T88 l0 x5_1).f0)) ∧ w'.cell? ⟨gb121, 1, none⟩ = some (.int .i64 ((rd_T88 l0 x5_1).f1))) ⟨(blk_cell BK121.out 0).trans rfl, (blk_cell BK121.out 1).trans rfl⟩ (fun hHeld => ?_); refine with_tabW spec_l2Pairs.tab5 spec_l2Pairs.bits5 (fun HT_ HW_ => ?_)
           generalize w36.drew = w37 at BK121 HB hHeld ⊢
           refine zp HT_ 0 17 ?_
           refine zp HT_ 2 19 ?_
           refine zp HT_ 3 20 ?_
           refine zt HT_ HW_ 1 18 hHeld ?_ (hy := by rintro w' ⟨s0, s1⟩; go_simp; with_reducible rfl)
           refine zg HT_ 4 21 Try.func125 #[.int .i64 ((rd_T88 l0 x5_1).f0), .int .i64 0, .int .i64 (wrap64 (a1 - 1))] (fun K hK => ?_)
           with_reducible refine (spec_l1In.calls ((rd_T88 l0 x5_1).f0) 0 (wrap64 (a1 - 1)) true _ A5.out).mono ?_
           rintro e w' ⟨rfl, ⟨nd, rfl⟩⟩
           refine ⟨_, rfl, ?_⟩
           refine hK.out _ _ ⟨(blk_cell BK121.out 0).trans rfl, (blk_cell BK121.out 1).trans rfl⟩ (fun hHeld => ?_)
           clear hK K
           refine zn 21 ?_
           refine zp HT_ 5 22 ?_
           refine zp HT_ 6 23 ?_
           refine zp HT_ 7 24 ?_
           refine zp HT_ 9 26 ?_
           refine zp HT_ 10 27 ?_
           refine zt HT_ HW_ 8 25 hHeld ?_ (hy := by rintro w' ⟨s0, s1⟩; go_simp; with_reducible rfl)
           refine zg HT_ 11 28 Try.func125 #[.int .i64 ((rd_T88 l0 x5_1).f1), .int .i64 0, .int .i64 (wrap64 (a1 - 1))] (fun K hK => ?_)
           with_reducible refine (spec_l1In.calls ((rd_T88 l0 x5_1).f1) 0 (wrap64 (a1 - 1)) false _ A7.out).mono ?_
           rintro e w' ⟨rfl, ⟨nd, rfl⟩⟩
           refine ⟨_, rfl, ?_⟩
           refine hK.out _ _ ⟨(blk_cell BK121.out 0).trans rfl, (blk_cell BK121.out 1).trans rfl⟩ (fun hHeld => ?_)
           clear hK K
           refine zn 28 ?_
           refine zp HT_ 12 29 ?_
           refine zp HT_ 13 30 ?_
           refine zp HT_ 14 31 ?_
           refine zu HT_ 15 32 ?_
           refine zu HT_ 16 33 ?_
           refine zu HT_ 17 34 ?_
           refine zu HT_ 18 35 ?_
           refine zu HT_ 19 36 ?_
           refine zp HT_ 20 37 ?_
           refine zp HT_ 21 38 ?_
           refine zu HT_ 22 39 ?_
           refine zu HT_ 23 40 ?_
           refine zu HT_ 24 41 ?_
           refine zu HT_ 25 42 ?_
           refine zu HT_ 26 43 ?_
           refine zu HT_ 27 44 ?_
           refine zu HT_ 28 45 ?_
           refine zu HT_ 29 46 ?_
           refine zu HT_ 30 47 ?_
           refine zu HT_ 31 48 ?_
           refine zu HT_ 32 49 ?_
           refine zu HT_ 33 50 ?_
           refine zp HT_ 34 51 ?_
           refine zo HT_ ?_
           try go_wp2
           go_ret
           exact ⟨by first | rfl | (simp [errW_none, errW_some] <;> rfl) | (simp [*, errW_none, errW_some] <;> rfl), zB⟩
       · replace c6 := Bool.eq_false_iff.mpr c6
         subst c6
         have H1 : (some false) = some r := by rw [if_neg (show ¬ (false = true) by decide)] at H; exact H
         clear H
         have H := H1
         clear H1
         obtain rfl := Option.some.inj H
         have p120 : 0 ≤ (x5_1 : Int) := of_decide_eq_true zA
         have q120 : x5_1 < (l0.length : Int) := of_decide_eq_true zA
         obtain ⟨ad120, e120, hx120_0, hx120_1⟩ := at_T88 HR0.out x5_1 p120 q120
         cases e120
         (try replace hx120_0 := (HB.out.cell (World.block_lt_of_cell? w _ hx120_0)).trans hx120_0)
         (try replace hx120_1 := (HB.out.cell (World.block_lt_of_cell? w _ hx120_1)).trans hx120_1)
         replace p120 := eq_true p120
         replace q120 := eq_true q120
         try go_wp2_with (first | ((with_reducible refine gate_dst (N := 6) rfl ?_); refine zb (w := w) 6 #[.int .i64 0, .int .i64 0] 88 zB ?_; clear HB; intro gb121 w38 HB BK121 GW121; have GE121 := GW121; have hcz39_0 := zy BK121 0; have hcz39_1 := zy BK121 1; have hfz39_0 := blk_frozen BK121.out 0; have hfz39_1 := blk_frozen BK121.out 1))
         have n0_ : Aside0 (((w38.setCell ⟨gb121, 0, none⟩ (.int .i64 ((rd_T88 l0 x5_1).f0))).setCell ⟨gb121, 1, none⟩ (.int .i64 ((rd_T88 l0 x5_1).f1))).heap[gb121]? = some (.cells #[.int .i64 ((rd_T88 l0 x5_1).f0), .int .i64 ((rd_T88 l0 x5_1).f1)] 88 (0, 0))) := ⟨by (with_reducible repeat (first | refine blk_drewN ?_ _ | refine blk_drew ?_ | refine blk_alloc ?_ _)); refine blk_put (cs := #[.int .i64 ((rd_T88 l0 x5_1).f0), .int .i64 0]) ?_ 1 _ rfl; (with_reducible repeat (first | refine blk_drewN ?_ _ | refine blk_drew ?_ | refine blk_alloc ?_ _)); refine blk_put (cs := #[.int .i64 0, .int .i64 0]) ?_ 0 _ rfl; (with_reducible repeat (first | refine blk_drewN ?_ _ | refine blk_drew ?_ | refine blk_alloc ?_ _)); exact BK121.out⟩
         have n1_ : Aside0 (Below w.heap.size w ((w38.setCell ⟨gb121, 0, none⟩ (.int .i64 ((rd_T88 l0 x5_1).f0))).setCell ⟨gb121, 1, none⟩ (.int .i64 ((rd_T88 l0 x5_1).f1)))) := ⟨zB⟩
         (try clear BK121)
         (try clear HB)
         generalize ((w38.setCell ⟨gb121, 0, none⟩ (.int .i64 ((rd_T88 l0 x5_1).f0))).setCell ⟨gb121, 1, none⟩ (.int .i64 ((rd_T88 l0 x5_1).f1))) = w40 at n0_ n1_ ⊢
         have BK121 := n0_
         have HB := n1_
         clear n0_ n1_
         replace BK121 := zM (blk_drew BK121.out)
         replace HB := zM (below_drew1 HB.out)
         refine zs (n := 35) (fun w' => w'.cell? ⟨gb121, 0, none⟩ = some (.int .i64 ((rd_T88 l0 x5_1).f0)) ∧ w'.cell? ⟨gb121, 1, none⟩ = some (.int .i64 ((rd_T88 l0 x5_1).f1))) ⟨(blk_cell BK121.out 0).trans rfl, (blk_cell BK121.out 1).trans rfl⟩ (fun hHeld => ?_); refine with_tabW spec_l2Pairs.tab5 spec_l2Pairs.bits5 (fun HT_ HW_ => ?_)
         generalize w40.drew = w41 at BK121 HB hHeld ⊢
         refine zp HT_ 0 17 ?_
         refine zp HT_ 2 19 ?_
         refine zp HT_ 3 20 ?_
         refine zt HT_ HW_ 1 18 hHeld ?_ (hy := by rintro w' ⟨s0, s1⟩; go_simp; with_reducible rfl)
         refine zg HT_ 4 21 Try.func125 #[.int .i64 ((rd_T88 l0 x5_1).f0), .int .i64 0, .int .i64 (wrap64 (a1 - 1))] (fun K hK => ?_)
         with_reducible refine (spec_l1In.calls ((rd_T88 l0 x5_1).f0) 0 (wrap64 (a1 - 1)) false _ A5.out).mono ?_
         rintro e w' ⟨rfl, ⟨nd, rfl⟩⟩
         refine ⟨_, rfl, ?_⟩
         refine hK.out _ _ ⟨(blk_cell BK121.out 0).trans rfl, (blk_cell BK121.out 1).trans rfl⟩ (fun hHeld => ?_)
         clear hK K
         refine zn 21 ?_
         refine zp HT_ 5 22 ?_
         refine zp HT_ 6 23 ?_
         refine zu HT_ 7 24 ?_
         refine zu HT_ 8 25 ?_
         refine zu HT_ 9 26 ?_
         refine zu HT_ 10 27 ?_
         refine zu HT_ 11 28 ?_
         refine zu HT_ 12 29 ?_
         refine zp HT_ 13 30 ?_
         refine zp HT_ 14 31 ?_
         refine zu HT_ 15 32 ?_
         refine zu HT_ 16 33 ?_
         refine zu HT_ 17 34 ?_
         refine zu HT_ 18 35 ?_
         refine zu HT_ 19 36 ?_
         refine zp HT_ 20 37 ?_
         refine zp HT_ 21 38 ?_
         refine zu HT_ 22 39 ?_
         refine zu HT_ 23 40 ?_
         refine zu HT_ 24 41 ?_
         refine zu HT_ 25 42 ?_
         refine zu HT_ 26 43 ?_
         refine zu HT_ 27 44 ?_
         refine zu HT_ 28 45 ?_
         refine zu HT_ 29 46 ?_
         refine zu HT_ 30 47 ?_
         refine zu HT_ 31 48 ?_
         refine zu HT_ 32 49 ?_
         refine zu HT_ 33 50 ?_
         refine zp HT_ 34 51 ?_
         refine zo HT_ ?_
         try go_wp2
         go_ret
         exact ⟨by first | rfl | (simp [errW_none, errW_some] <;> rfl) | (simp [*, errW_none, errW_some] <;> rfl), zB⟩
     · rw [if_neg c4] at H
       exact absurd H (by simp)
   · rw [if_neg c3] at H
     have c3b0 : decide (x5_1 < (l0.length : Int)) = false := decide_eq_false c3
     clear c3
     obtain rfl := Option.some.inj H
     go_wp2
     go_ret
     exact ⟨by first | rfl | (simp [errW_none, errW_some] <;> rfl) | (simp [*, errW_none, errW_some] <;> rfl), zB⟩

end Go.Proofs.Ytnlmijnbfdhdkaa.P
namespace Go.Proofs.Ytnlmijnbfdhdkaa.P
open Go.RowKit Go.Proofs.YtnlmijnbfdhdkaaW.PrintWords Go.Proofs.YtnlmijnbfdhdkaaW.PrintLast Go.Proofs.YtnlmijnbfdhdkaaW.PrintMore
set_option linter.unusedVariables false
set_option linter.unusedSimpArgs false

def laws_toIntA2.f (a0_0 : Int) (a0_1 : Int) : Option (Int × Int) := some (a0_0, a0_1)
set_option maxHeartbeats 1000000 in
theorem laws_toIntA2.calls (a0_0 : Int) (a0_1 : Int) (r1 : Int) (r2 : Int) (w : World) (h : laws_toIntA2.f a0_0 a0_1 = some (r1, r2)) :
    Calls Try.prog 106 #[.agg #[.int .i64 a0_0, .int .i64 a0_1]] w fun e w' => e = .returned (.agg #[.int .i64 r1, .int .i64 r2]) ∧ Below w.heap.size w w' := by
  unfold laws_toIntA2.f at h
  simp only [Option.some.injEq, Prod.mk.injEq] at h
  obtain ⟨rfl, rfl⟩ := h
  go_enter Try.func106, Try.ntmps106
  go_wp2
  go_rounds 3
  exact bodyPost_ret (v := .agg #[.int .i64 a0_0, .int .i64 a0_1]) (by simp [results, Try.results106, go_sem]) rfl ⟨rfl, by repeat (first | exact Below.refl _ _ | apply below_alloc | apply pw_below_drewN | apply below_drew1)⟩

def laws_eqIntA2.f (a0_0 : Int) (a0_1 : Int) (a1_0 : Int) (a1_1 : Int) : Option Bool := some (a0_0 == a1_0 && a0_1 == a1_1)
set_option maxHeartbeats 1000000 in
theorem laws_eqIntA2.calls (a0_0 : Int) (a0_1 : Int) (a1_0 : Int) (a1_1 : Int) (r : Bool) (w : World) (h : laws_eqIntA2.f a0_0 a0_1 a1_0 a1_1 = some r) :
    Calls Try.prog 108 #[.agg #[.int .i64 a0_0, .int .i64 a0_1], .agg #[.int .i64 a1_0, .int .i64 a1_1]] w fun e w' => e = .returned (.bool r) ∧ Below w.heap.size w w' := by
  unfold laws_eqIntA2.f at h
  obtain rfl := Option.some.inj h
  clear h
  by_cases h0 : a0_0 = a1_0
  · have h0b : (a0_0 != a1_0) = false := bne_eq_false_iff_eq.mpr h0
    have h0c : (a0_0 == a1_0) = true := beq_iff_eq.mpr h0
    clear h0
    by_cases h1 : a0_1 = a1_1
    · have h1b : (a0_1 != a1_1) = false := bne_eq_false_iff_eq.mpr h1
      have h1c : (a0_1 == a1_1) = true := beq_iff_eq.mpr h1
      clear h1
      go_enter Try.func108, Try.ntmps108
      go_wp2
      refine wp_loop_rounds 3 ?_
      rw [rounds_succ]; go_wp2; go_quiet (fail); go_wp2
      rw [rounds_succ]; go_wp2; go_quiet (fail); go_wp2
      rw [rounds_succ]; go_wp2
      go_ret
      exact ⟨by simp [*], by repeat (first | exact Below.refl _ _ | apply below_alloc | apply pw_below_drewN | apply below_drew1)⟩
    · have h1b : (a0_1 != a1_1) = true := bne_iff_ne.mpr h1
      have h1c : (a0_1 == a1_1) = false := beq_eq_false_iff_ne.mpr h1
      clear h1
      go_enter Try.func108, Try.ntmps108
      go_wp2
      refine wp_loop_rounds 3 ?_
      rw [rounds_succ]; go_wp2; go_quiet (fail); go_wp2
      rw [rounds_succ]; go_wp2; go_quiet (fail); go_wp2
      go_ret
      exact ⟨by simp [*], by repeat (first | exact Below.refl _ _ | apply below_alloc | apply pw_below_drewN | apply below_drew1)⟩
  · have h0b : (a0_0 != a1_0) = true := bne_iff_ne.mpr h0
    have h0c : (a0_0 == a1_0) = false := beq_eq_false_iff_ne.mpr h0
    clear h0
    go_enter Try.func108, Try.ntmps108
    go_wp2
    refine wp_loop_rounds 3 ?_
    rw [rounds_succ]; go_wp2; go_quiet (fail); go_wp2
    go_ret
    exact ⟨by simp [*], by repeat (first | exact Below.refl _ _ | apply below_alloc | apply pw_below_drewN | apply below_drew1)⟩

end Go.Proofs.Ytnlmijnbfdhdkaa.P
namespace Go.Proofs.Ytnlmijnbfdhdkaa.P
open Go.RowKit Go.Proofs.YtnlmijnbfdhdkaaW.PrintWords Go.Proofs.YtnlmijnbfdhdkaaW.PrintLast Go.Proofs.YtnlmijnbfdhdkaaW.PrintMore
attribute [local go_sem] max2_int min2_int max_two min_two max_three min_three max_four min_four   -- for this text's walks alone
set_option linter.unusedVariables false
set_option linter.unusedSimpArgs false

/-! ### laws_toIntA2S: function 58 -/
def laws_toIntA2S.l0 : Nat → List (S88) → List (S88) → Int → Option ((List (S88)))
 | 0, _, _, _ => none
 | k + 1, x0, x3, x4 => if x4 < (x0.length : Int) then (if 0 ≤ x4 then ((laws_toIntA2.f ((rd_T88 x0 x4).f0) ((rd_T88 x0 x4).f1)).bind fun bt214 => (if x4 < (x3.length : Int) then (laws_toIntA2S.l0 k x0 (x3.set (x4 : Int).toNat (⟨bt214.1, bt214.2⟩ : S88)) (wrap64 (x4 + 1))) else (none))) else (none)) else (some x3)
def laws_toIntA2S.f (k : Nat) (l0 : List (S88)) : Option ((List (S88))) := if 0 ≤ (l0.length : Int) then (if ((l0.length : Int) : Int).toNat ≤ 17592186044416 then (laws_toIntA2S.l0 k l0 (List.replicate ((l0.length : Int) : Int).toNat z88) 0) else (none)) else (none)
set_option maxHeartbeats 8000000 in
set_option maxRecDepth 100000 in
theorem laws_toIntA2S.calls (k : Nat) (A0 : Option Addr) (c0 : Nat) (l0 : List (S88)) (r : List (S88)) (w : World) (hr0 : Kd.C k88 w A0 l0.length l0) (hc0 : l0.length ≤ c0) (h : laws_toIntA2S.f k l0 = some r) :
 Calls Try.prog 58 #[.slice A0 l0.length c0] w fun e w' => ∃ v0_ : Value, e = .returned (v0_) ∧ Kd.R k88 88 w' w.heap.size (fun _ => True) v0_ r ∧ Below w.heap.size w w' := by
 have hu88 := Try.underlying88
 have HR0 := Aside0.mk hr0
 have HC0 := Aside0.mk hc0
 clear hr0 hc0
 have HB := zM (Below.refl w.heap.size w)
 have H : (if 0 ≤ (l0.length : Int) then (if ((l0.length : Int) : Int).toNat ≤ 17592186044416 then (laws_toIntA2S.l0 k l0 (List.replicate ((l0.length : Int) : Int).toNat z88) 0) else (none)) else (none)) = some r := h
 clear h
 by_cases c2 : 0 ≤ (l0.length : Int)
 · rw [if_pos c2] at H
   have c2b0 := eq_true c2
   have c2b1 : decide (0 ≤ (l0.length : Int)) = true := decide_eq_true c2
   clear c2
   by_cases c3 : ((l0.length : Int) : Int).toNat ≤ 17592186044416
   · rw [if_pos c3] at H
     have c3b0 := eq_true c3
     have c3b1 : decide (((l0.length : Int) : Int).toNat ≤ 17592186044416) = true := decide_eq_true c3
     clear c3
     obtain ⟨y210, hy210⟩ : ∃ y_ : List (S88), y_ = (List.replicate ((l0.length : Int) : Int).toNat z88) := ⟨_, rfl⟩
     replace H : (laws_toIntA2S.l0 k l0 y210 0) = some r := by first | (rw [hy210]; with_reducible exact H) | (have H2_ := (Option.bind_some _ _).symm.trans H; rw [hy210]; with_reducible exact H2_) | (have H2_ := (Option.bind_some _ _).symm.trans H; with_reducible exact H2_) | with_reducible exact H | (rw [hy210]; exact H) | exact H
     have Ny210 := Aside0.mk hy210
     clear hy210
     have H' := Aside0.mk H
     clear H
     go_enter Try.func58, Try.ntmps58
     go_wp2_with (first | ((with_reducible refine gate_dst (N := 7) rfl ?_); refine Kd.R_make k88 _ 88 rfl (N := 7) rfl 22 _ _ rfl (l0.length : Int) rfl rfl Try.underlying22 (.agg #[(.int .i64 0), (.int .i64 0)]) 16 info88 rfl (by decide) (by omega) z88 (ok := fun _ => True) (okp := fun _ => True) (k88_mkM _ _ _ z88 ) (fun _ hk => hk) trivial (of_decide_eq_true zA) (Nat.le_trans (Nat.mul_le_mul_right _ (of_decide_eq_true zA : (l0.length : Int).toNat ≤ 17592186044416)) (by omega)) (Below.refl _ _) (Nat.le_refl _) ?_; intro v211 w4 ho5 hb hg_ hnew_; clear hg_ hnew_; (first | rw [← Ny210.out] at ho5 | (simp only [Int.reduceToNat] at ho5; rw [← Ny210.out] at ho5)); have HO212 := zM (Kd.R_lower ho5 (below_size zB)); replace HB := zM (below_step zB hb); clear hb ho5))
     go_loopg [4] k (fun kq v4 w' => ∃ (x3_1 : List (S88)) (x4_1 : Int), v4 = .int .i64 x4_1 ∧ Aside0 (laws_toIntA2S.l0 kq l0 x3_1 x4_1 = some r) ∧ Aside0 (kq ≤ k) ∧ Aside0 (Kd.R k88 88 w' w.heap.size (fun _ => True) v211 x3_1) ∧ Aside0 (Below w.heap.size w w'))
     case atStart => exact ⟨(y210), (0), (by first | rfl | (simp; done) | (simp [*]; done)), H', ⟨Nat.le_refl _⟩, ⟨zR HO212.out⟩, ⟨zB⟩⟩
     case round =>
      clear H'
      try clear c2
      try clear c2b0
      try clear c2b1
      try clear p2
      try clear c3
      try clear c3b0
      try clear c3b1
      try clear c5
      obtain ⟨x3_1, x4_1, rfl, HA, HK1, HO_3, HB⟩ := hrel
      cases gk with
      | zero => exact absurd HA.out (by simp [laws_toIntA2S.l0])
      | succ k1 =>
       have H := HA.out
       clear HA
       simp only [laws_toIntA2S.l0] at H
       by_cases c6 : x4_1 < (l0.length : Int)
       · rw [if_pos c6] at H
         have c6b0 := decide_eq_true c6
         clear c6
         by_cases c7 : 0 ≤ x4_1
         · rw [if_pos c7] at H
           have c7b0 := decide_eq_true c7
           clear c7
           replace H := Option.bind_eq_some_iff.mp H
           obtain ⟨⟨t214, t215⟩, A80, H⟩ := H
           replace H : (if x4_1 < (x3_1.length : Int) then (laws_toIntA2S.l0 k1 l0 (x3_1.set (x4_1 : Int).toNat (⟨t214, t215⟩ : S88)) (wrap64 (x4_1 + 1))) else (none)) = some r := H
           have A8 := Aside0.mk A80
           clear A80
           by_cases c9 : x4_1 < (x3_1.length : Int)
           · rw [if_pos c9] at H
             have c9b0 := decide_eq_true c9
             clear c9
             obtain ⟨y216, hy216⟩ : ∃ y_ : List (S88), y_ = (x3_1.set (x4_1 : Int).toNat (⟨t214, t215⟩ : S88)) := ⟨_, rfl⟩
             replace H : (laws_toIntA2S.l0 k1 l0 y216 (wrap64 (x4_1 + 1))) = some r := by first | (rw [hy216]; with_reducible exact H) | (have H2_ := (Option.bind_some _ _).symm.trans H; rw [hy216]; with_reducible exact H2_) | (have H2_ := (Option.bind_some _ _).symm.trans H; with_reducible exact H2_) | with_reducible exact H | (rw [hy216]; exact H) | exact H
             have Ny216 := Aside0.mk hy216
             clear hy216
             have H' := Aside0.mk H
             clear H
             have p213 : 0 ≤ (x4_1 : Int) := of_decide_eq_true zA
             have q213 : x4_1 < (l0.length : Int) := of_decide_eq_true zA
             obtain ⟨ad213, e213, hx213_0, hx213_1⟩ := at_T88 HR0.out x4_1 p213 q213
             cases e213
             (try replace hx213_0 := (HB.out.cell (World.block_lt_of_cell? w _ hx213_0)).trans hx213_0)
             (try replace hx213_1 := (HB.out.cell (World.block_lt_of_cell? w _ hx213_1)).trans hx213_1)
             replace p213 := eq_true p213
             replace q213 := eq_true q213
             go_wp2_with (first | ((with_reducible refine gate_callee (f := 106) rfl ?_); refine zc 20 Try.func106 #[.agg #[.int .i64 ((rd_T88 l0 x4_1).f0), .int .i64 ((rd_T88 l0 x4_1).f1)]] ?_; (with_reducible refine (laws_toIntA2.calls ((rd_T88 l0 x4_1).f0) ((rd_T88 l0 x4_1).f1) t214 t215 _ A8.out).mono ?_); rintro e w11 ⟨rfl, hb⟩; refine ⟨_, rfl, ?_⟩; replace HO_3 := zM (Kd.R_below (zR HO_3.out) hb); replace HB := zM (below_step zB hb); (try clear hb); (try clear hb2); (try clear hk); (try clear hi); have p10 : 0 ≤ (x4_1 : Int) := of_decide_eq_true zA; have q10 : (x4_1 : Int) < ((x3_1.length : Int) : Int) := of_decide_eq_true zA; obtain ⟨go10, co10, eo10, gb10, gl10, cl10, HG10⟩ := Kd.R_form HO_3.out (by omega); (first | cases eo10 | (injection eo10 with ea_ en_ ec_; (first | subst ea_ | (injection ea_ with ea_; subst ea_)); subst ec_; clear en_)); have GB10 := Aside0.mk gb10; have GG10 := Aside0.mk HG10; clear gb10 gl10 HG10; obtain ⟨ce10, hcl10, hM10, hcc10, hfr10⟩ := Kd.R_elem HO_3.out z88 (x4_1 : Int) p10 q10; obtain rfl := k88_openM hM10; have hx10_0 : w11.cell? ⟨go10, (x4_1 : Int).toNat * 2, none⟩ = some (.int .i64 ((rd_T88 x3_1 x4_1).f0)) := hcc10 0 _ rfl; have hx10_1 : w11.cell? ⟨go10, (x4_1 : Int).toNat * 2 + 1, none⟩ = some (.int .i64 ((rd_T88 x3_1 x4_1).f1)) := hcc10 1 _ rfl; have hf10_0 : w11.frozen? ⟨go10, (x4_1 : Int).toNat * 2, none⟩ = false := hfr10 0; have hf10_1 : w11.frozen? ⟨go10, (x4_1 : Int).toNat * 2 + 1, none⟩ = false := hfr10 1; clear hcl10 hcc10 hfr10; (try clear hM10); replace p10 := eq_true p10; replace q10 := eq_true q10; have HX12 := zM (show Kd.R k88 88 w11 w.heap.size (fun _ => True) (.slice (some ⟨go10, 0, none⟩) x3_1.length co10) x3_1 from (zR HO_3.out)); obtain ⟨ce12, hcl12, hM12, hcc12, hfr12⟩ := Kd.R_elem HX12.out z88 (x4_1 : Int) (of_decide_eq_true zA) (by have h_ : (x4_1 : Int) < ((x3_1.length : Int) : Int) := of_decide_eq_true zA; first | exact h_ | (have e_ := (Kd.R_reads' HO_3.out).1; omega) | simpa using h_); obtain rfl := k88_openM hM12; have HP12 := Kd.R_seg HX12.out (x4_1 : Int) (of_decide_eq_true zA) (by have h_ : (x4_1 : Int) < ((x3_1.length : Int) : Int) := of_decide_eq_true zA; first | exact h_ | (have e_ := (Kd.R_reads' HO_3.out).1; omega) | simpa using h_) (seg := [.int .i64 t214, .int .i64 t215]) (j := 0) hcl12 hcc12 (show 2 ≤ 2 from by decide) (x' := (⟨t214, t215⟩ : S88)) (k88_mkM _ _ _ (⟨t214, t215⟩ : S88) ) (fun _ hk => hk); have hx12_0 := hcc12 0 _ rfl; (try simp only [show (k88).sz = 2 from rfl, Nat.mul_one, Nat.add_zero] at hx12_0); have hf12_0 := hfr12 0; (try simp only [show (k88).sz = 2 from rfl, Nat.mul_one, Nat.add_zero] at hf12_0); have hx12_1 := hcc12 1 _ rfl; (try simp only [show (k88).sz = 2 from rfl, Nat.mul_one, Nat.add_zero] at hx12_1); have hf12_1 := hfr12 1; (try simp only [show (k88).sz = 2 from rfl, Nat.mul_one, Nat.add_zero] at hf12_1); clear hcl12 hcc12 hfr12; (try clear hM12)) | ((with_reducible refine gate_store (t := 88) (p := 21) rfl ?_); refine store_event (t := 88) (p := 21) (v := ?vo_w13) (w1 := ((w11.setCell ⟨go10, (x4_1 : Int).toNat * 2, none⟩ (.int .i64 t214)).setCell ⟨go10, (x4_1 : Int).toNat * 2 + 1, none⟩ (.int .i64 t215))) ?hg ?ho ?hn ?hr ?_; (case ho => rfl); (case hg => rfl); (case hn => rfl); (case hr => first | (go_simp; done) | (go_simp; rfl)); intro w13 hw; have hg : w11.grownBy w13 (some go10) := (by rw [hw]; exact HP12.2); have hp_ : Kd.R k88 88 w13 w.heap.size (fun _ => True) (.slice (some ⟨go10, 0, none⟩) x3_1.length co10) y216 := (by rw [hw, Ny216.out]; exact HP12.1); clear HP12; replace HO_3 := zM (hp_); replace HB := zM ((by rw [hw]; exact below_set (below_set (HB.out) GB10.out) GB10.out : Below w.heap.size w w13)); clear hg hw hp_))
             go_roundg k1
             case measure => have := HK1.out; omega
             case rel => exact ⟨(y216), (wrap64 (x4_1 + 1)), (by first | rfl | (simp; done) | (simp [*]; done)), H', ⟨by have := HK1.out; omega⟩, ⟨zR HO_3.out⟩, ⟨zB⟩⟩
           · rw [if_neg c9] at H
             exact absurd H (by simp)
         · rw [if_neg c7] at H
           exact absurd H (by simp)
       · rw [if_neg c6] at H
         have c6b0 : decide (x4_1 < (l0.length : Int)) = false := decide_eq_false c6
         clear c6
         obtain rfl := Option.some.inj H
         go_wp2
         go_ret
         exact ⟨_, by first | rfl | (simp [errW_none, errW_some] <;> rfl) | (simp [*, errW_none, errW_some] <;> rfl), by (with_reducible repeat (first | apply Kd.R_alloc | apply Kd.R_drewN | apply Kd.R_drew)); exact HO_3.out, zB⟩
   · rw [if_neg c3] at H
     exact absurd H (by simp)
 · rw [if_neg c2] at H
   exact absurd H (by simp)

end Go.Proofs.Ytnlmijnbfdhdkaa.P
