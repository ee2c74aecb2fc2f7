-- Written by a program of this session (the kit's print, turned: wip/print/patch.py) out of the translation. Not trusted: Lean checks it.
import Derived.Test.YtopgbijegnnjbaaCountShortestG5
import Derived.Test.YtopgbijegnnjbaaCountShortestG6
import Derived.Handy
import Derived.Shelf.Abstract
namespace Go.Proofs.Ytopgbijegnnjbaa.P
open Go.RowKit Go.Proofs.YtopgbijegnnjbaaW.PrintWords Go.Proofs.YtopgbijegnnjbaaW.PrintLast Go.Proofs.YtopgbijegnnjbaaW.PrintMore
attribute [local go_sem] max2_int min2_int max_two min_two max_three min_three max_four min_four   -- for this text's walks alone
set_option linter.unusedVariables false
set_option linter.unusedSimpArgs false

/-! ### impl_isPairs: function 33 -/
def impl_isPairs.l0 : Nat → List (S50) → Int → List (S50) → Int → Int → Option (Bool)
 | 0, _, _, _, _, _ => none
 | k + 1, x0, x1, x7, x8, x9 => if x9 < x8 then (if 0 ≤ x9 then (if x9 < (x7.length : Int) then (if ((rd_T50 x7 x9).f0) < 0 then (some false) else (if ((rd_T50 x7 x9).f0) ≥ ((rd_T50 x7 x9).f1) then (some false) else (if ((rd_T50 x7 x9).f1) ≥ x1 then (some false) else (if x9 > 0 then (if 0 ≤ (wrap64 (x9 - 1)) then (if (wrap64 (x9 - 1)) < (x0.length : Int) then ((impl_comparePairs.f k ((rd_T50 x0 (wrap64 (x9 - 1))).f0) ((rd_T50 x0 (wrap64 (x9 - 1))).f1) ((rd_T50 x7 x9).f0) ((rd_T50 x7 x9).f1)).bind fun t164 => (if t164 ≥ 0 then (some false) else (impl_isPairs.l0 k x0 x1 x7 x8 (wrap64 (x9 + 1))))) else (none)) else (none)) else (impl_isPairs.l0 k x0 x1 x7 x8 (wrap64 (x9 + 1))))))) else (none)) else (none)) else (some true)
def impl_isPairs.f (k : Nat) (l0 : List (S50)) (a1 : Int) : Option (Bool) := impl_isPairs.l0 k l0 a1 l0 (l0.length : Int) 0
def impl_isPairs.T4 : Bool × List (List Nat × List Nat) := (true, [([], []), ([0], [0]), ([1], [1]), ([2], [2]), ([3], [3]), ([4, 3], [3, 4]), ([3], [3]), ([6, 3], [3, 6]), ([5, 7, 3], [3, 5, 7]), ([3, 8], [3, 8]), ([9, 3], [9]), ([10], [10]), ([11, 10], [10, 11]), ([10], [10]), ([12, 13, 10], [10, 12, 13]), ([10, 14], [10, 14]), ([15, 10], [15]), ([16], [16]), ([17, 16], [16, 17]), ([18, 16, 16], [16, 18]), ([19], [19]), ([19], [19]), ([21, 19], [19, 21]), ([20, 22, 19], [19, 20, 22]), ([23, 19], [19, 23]), ([19], [19]), ([24, 25, 19, 19], [19, 24, 25]), ([26, 19], [19, 26]), ([19, 27, 16], [16, 19, 27]), ([16, 28], [16, 28])])
def impl_isPairs.B4 : List Nat := [0, 1, 3, 7, 15, 31, 15, 79, 255, 511, 1023, 2047, 4095, 2047, 16383, 32767, 65535, 131071, 262143, 524287, 1048575, 1048575, 3145727, 8388607, 16777215, 1048575, 67108863, 134217727, 268435455, 536870911]
theorem impl_isPairs.tab4 : rtab .any (opsOf Try.f33 4) = impl_isPairs.T4 := by kernel_rfl
theorem impl_isPairs.bits4 : waitsOk impl_isPairs.T4.2 impl_isPairs.B4 = true := by kernel_rfl
set_option maxHeartbeats 8000000 in
set_option maxRecDepth 100000 in
theorem impl_isPairs.calls (k : Nat) (A0 : Option Addr) (c0 : Nat) (l0 : List (S50)) (a1 : Int) (r : Bool) (w : World) (hr0 : Kd.C k50 w A0 l0.length l0) (hc0 : l0.length ≤ c0) (h : impl_isPairs.f k l0 a1 = some r) :
 Calls Try.prog 33 #[.slice A0 l0.length c0, .int .i64 a1] w fun e w' => e = .returned (.bool r) ∧ Below w.heap.size w w' := by
 have hu50 := Try.underlying50
 have HR0 := Aside0.mk hr0
 have HC0 := Aside0.mk hc0
 clear hr0 hc0
 have HB := zM (Below.refl w.heap.size w)
 have H : (impl_isPairs.l0 k l0 a1 l0 (l0.length : Int) 0) = some r := h
 clear h
 have H' := Aside0.mk H
 clear H
 go_enter Try.func33, Try.ntmps33
 go_wp2
 go_loopg [9] k (fun kq v9 w' => ∃ (x9_1 : Int), v9 = .int .i64 x9_1 ∧ Aside0 (impl_isPairs.l0 kq l0 a1 l0 (l0.length : Int) x9_1 = some r) ∧ Aside0 (kq ≤ k) ∧ Aside0 (Below w.heap.size w w'))
 case atStart => exact ⟨(0), (by first | rfl | (simp; done) | (simp [*]; done)), H', ⟨Nat.le_refl _⟩, ⟨zB⟩⟩
 case round =>
  clear H'
  try clear p2
  obtain ⟨x9_1, rfl, HA, HK1, HB⟩ := hrel
  cases gk with
  | zero => exact absurd HA.out (by simp [impl_isPairs.l0])
  | succ k1 =>
   have H := HA.out
   clear HA
   simp only [impl_isPairs.l0] at H
   by_cases c3 : x9_1 < (l0.length : Int)
   · rw [if_pos c3] at H
     have c3b0 := decide_eq_true c3
     clear c3
     by_cases c4 : 0 ≤ x9_1
     · rw [if_pos c4] at H
       have c4b0 := decide_eq_true c4
       clear c4
       by_cases c5 : x9_1 < (l0.length : Int)
       · rw [if_pos c5] at H
         have c5b0 := decide_eq_true c5
         clear c5
         by_cases c6 : ((rd_T50 l0 x9_1).f0) < 0
         · rw [if_pos c6] at H
           have c6b0 := decide_eq_true c6
           clear c6
           obtain rfl := Option.some.inj H
           have p161 : 0 ≤ (x9_1 : Int) := of_decide_eq_true zA
           have q161 : x9_1 < (l0.length : Int) := of_decide_eq_true zA
           obtain ⟨ad161, e161, hx161_0, hx161_1⟩ := at_T50 HR0.out x9_1 p161 q161
           cases e161
           (try replace hx161_0 := (HB.out.cell (World.block_lt_of_cell? w _ hx161_0)).trans hx161_0)
           (try replace hx161_1 := (HB.out.cell (World.block_lt_of_cell? w _ hx161_1)).trans hx161_1)
           replace p161 := eq_true p161
           replace q161 := eq_true q161
           try go_wp2_with (first | ((with_reducible refine gate_dst (N := 6) rfl ?_); refine zb (w := w) 6 #[.int .i64 0, .int .i64 0] 50 zB ?_; clear HB; intro gb162 w7 HB BK162 GW162; have GE162 := GW162; have hcz8_0 := zy BK162 0; have hcz8_1 := zy BK162 1; have hfz8_0 := blk_frozen BK162.out 0; have hfz8_1 := blk_frozen BK162.out 1))
           have n0_ : Aside0 (((w7.setCell ⟨gb162, 0, none⟩ (.int .i64 ((rd_T50 l0 x9_1).f0))).setCell ⟨gb162, 1, none⟩ (.int .i64 ((rd_T50 l0 x9_1).f1))).heap[gb162]? = some (.cells #[.int .i64 ((rd_T50 l0 x9_1).f0), .int .i64 ((rd_T50 l0 x9_1).f1)] 50 (0, 0))) := ⟨by (with_reducible repeat (first | refine blk_drewN ?_ _ | refine blk_drew ?_ | refine blk_alloc ?_ _)); refine blk_put (cs := #[.int .i64 ((rd_T50 l0 x9_1).f0), .int .i64 0]) ?_ 1 _ rfl; (with_reducible repeat (first | refine blk_drewN ?_ _ | refine blk_drew ?_ | refine blk_alloc ?_ _)); refine blk_put (cs := #[.int .i64 0, .int .i64 0]) ?_ 0 _ rfl; (with_reducible repeat (first | refine blk_drewN ?_ _ | refine blk_drew ?_ | refine blk_alloc ?_ _)); exact BK162.out⟩
           have n1_ : Aside0 (Below w.heap.size w ((w7.setCell ⟨gb162, 0, none⟩ (.int .i64 ((rd_T50 l0 x9_1).f0))).setCell ⟨gb162, 1, none⟩ (.int .i64 ((rd_T50 l0 x9_1).f1)))) := ⟨zB⟩
           (try clear BK162)
           (try clear HB)
           generalize ((w7.setCell ⟨gb162, 0, none⟩ (.int .i64 ((rd_T50 l0 x9_1).f0))).setCell ⟨gb162, 1, none⟩ (.int .i64 ((rd_T50 l0 x9_1).f1))) = w9 at n0_ n1_ ⊢
           have BK162 := n0_
           have HB := n1_
           clear n0_ n1_
           replace BK162 := zM (blk_drew BK162.out)
           replace HB := zM (below_drew1 HB.out)
           refine zs (n := 30) (fun w' => w'.cell? ⟨gb162, 0, none⟩ = some (.int .i64 ((rd_T50 l0 x9_1).f0)) ∧ w'.cell? ⟨gb162, 1, none⟩ = some (.int .i64 ((rd_T50 l0 x9_1).f1))) ⟨(blk_cell BK162.out 0).trans rfl, (blk_cell BK162.out 1).trans rfl⟩ (fun hHeld => ?_); refine with_tabW impl_isPairs.tab4 impl_isPairs.bits4 (fun HT_ HW_ => ?_)
           generalize w9.drew = w10 at BK162 HB hHeld ⊢
           refine zp HT_ 0 14 ?_
           refine zt HT_ HW_ 1 15 hHeld ?_ (hy := by rintro w' ⟨s0, s1⟩; go_simp; with_reducible rfl)
           refine zp HT_ 2 16 ?_
           refine zp HT_ 3 17 ?_
           refine zu HT_ 4 18 ?_
           refine zu HT_ 5 19 ?_
           refine zu HT_ 6 20 ?_
           refine zu HT_ 7 21 ?_
           refine zu HT_ 8 22 ?_
           refine zp HT_ 9 23 ?_
           refine zp HT_ 10 24 ?_
           refine zu HT_ 11 25 ?_
           refine zu HT_ 12 26 ?_
           refine zu HT_ 13 27 ?_
           refine zu HT_ 14 28 ?_
           refine zp HT_ 15 29 ?_
           refine zp HT_ 16 30 ?_
           refine zu HT_ 17 31 ?_
           refine zu HT_ 18 32 ?_
           refine zu HT_ 19 33 ?_
           refine zu HT_ 20 34 ?_
           refine zu HT_ 21 35 ?_
           refine zu HT_ 22 36 ?_
           refine zu HT_ 23 37 ?_
           refine zu HT_ 24 38 ?_
           refine zu HT_ 25 39 ?_
           refine zu HT_ 26 40 ?_
           refine zu HT_ 27 41 ?_
           refine zu HT_ 28 42 ?_
           refine zp HT_ 29 43 ?_
           refine zo HT_ ?_
           try go_wp2
           go_ret
           exact ⟨by first | rfl | (simp [errW_none, errW_some] <;> rfl) | (simp [*, errW_none, errW_some] <;> rfl), zB⟩
         · rw [if_neg c6] at H
           have c6b0 : decide (((rd_T50 l0 x9_1).f0) < 0) = false := decide_eq_false c6
           clear c6
           by_cases c11 : ((rd_T50 l0 x9_1).f0) ≥ ((rd_T50 l0 x9_1).f1)
           · rw [if_pos c11] at H
             have c11b0 : decide (((rd_T50 l0 x9_1).f1) ≤ ((rd_T50 l0 x9_1).f0)) = true := decide_eq_true c11
             clear c11
             obtain rfl := Option.some.inj H
             have p161 : 0 ≤ (x9_1 : Int) := of_decide_eq_true zA
             have q161 : x9_1 < (l0.length : Int) := of_decide_eq_true zA
             obtain ⟨ad161, e161, hx161_0, hx161_1⟩ := at_T50 HR0.out x9_1 p161 q161
             cases e161
             (try replace hx161_0 := (HB.out.cell (World.block_lt_of_cell? w _ hx161_0)).trans hx161_0)
             (try replace hx161_1 := (HB.out.cell (World.block_lt_of_cell? w _ hx161_1)).trans hx161_1)
             replace p161 := eq_true p161
             replace q161 := eq_true q161
             try go_wp2_with (first | ((with_reducible refine gate_dst (N := 6) rfl ?_); refine zb (w := w) 6 #[.int .i64 0, .int .i64 0] 50 zB ?_; clear HB; intro gb162 w12 HB BK162 GW162; have GE162 := GW162; have hcz13_0 := zy BK162 0; have hcz13_1 := zy BK162 1; have hfz13_0 := blk_frozen BK162.out 0; have hfz13_1 := blk_frozen BK162.out 1))
             have n0_ : Aside0 (((w12.setCell ⟨gb162, 0, none⟩ (.int .i64 ((rd_T50 l0 x9_1).f0))).setCell ⟨gb162, 1, none⟩ (.int .i64 ((rd_T50 l0 x9_1).f1))).heap[gb162]? = some (.cells #[.int .i64 ((rd_T50 l0 x9_1).f0), .int .i64 ((rd_T50 l0 x9_1).f1)] 50 (0, 0))) := ⟨by (with_reducible repeat (first | refine blk_drewN ?_ _ | refine blk_drew ?_ | refine blk_alloc ?_ _)); refine blk_put (cs := #[.int .i64 ((rd_T50 l0 x9_1).f0), .int .i64 0]) ?_ 1 _ rfl; (with_reducible repeat (first | refine blk_drewN ?_ _ | refine blk_drew ?_ | refine blk_alloc ?_ _)); refine blk_put (cs := #[.int .i64 0, .int .i64 0]) ?_ 0 _ rfl; (with_reducible repeat (first | refine blk_drewN ?_ _ | refine blk_drew ?_ | refine blk_alloc ?_ _)); exact BK162.out⟩
             have n1_ : Aside0 (Below w.heap.size w ((w12.setCell ⟨gb162, 0, none⟩ (.int .i64 ((rd_T50 l0 x9_1).f0))).setCell ⟨gb162, 1, none⟩ (.int .i64 ((rd_T50 l0 x9_1).f1)))) := ⟨zB⟩
             (try clear BK162)
             (try clear HB)
             generalize ((w12.setCell ⟨gb162, 0, none⟩ (.int .i64 ((rd_T50 l0 x9_1).f0))).setCell ⟨gb162, 1, none⟩ (.int .i64 ((rd_T50 l0 x9_1).f1))) = w14 at n0_ n1_ ⊢
             have BK162 := n0_
             have HB := n1_
             clear n0_ n1_
             replace BK162 := zM (blk_drew BK162.out)
             replace HB := zM (below_drew1 HB.out)
             refine zs (n := 30) (fun w' => w'.cell? ⟨gb162, 0, none⟩ = some (.int .i64 ((rd_T50 l0 x9_1).f0)) ∧ w'.cell? ⟨gb162, 1, none⟩ = some (.int .i64 ((rd_T50 l0 x9_1).f1))) ⟨(blk_cell BK162.out 0).trans rfl, (blk_cell BK162.out 1).trans rfl⟩ (fun hHeld => ?_); refine with_tabW impl_isPairs.tab4 impl_isPairs.bits4 (fun HT_ HW_ => ?_)
             generalize w14.drew = w15 at BK162 HB hHeld ⊢
             refine zp HT_ 0 14 ?_
             refine zt HT_ HW_ 1 15 hHeld ?_ (hy := by rintro w' ⟨s0, s1⟩; go_simp; with_reducible rfl)
             refine zp HT_ 2 16 ?_
             refine zp HT_ 3 17 ?_
             refine zp HT_ 4 18 ?_
             refine zp HT_ 6 20 ?_
             refine zt HT_ HW_ 5 19 hHeld ?_ (hy := by rintro w' ⟨s0, s1⟩; go_simp; with_reducible rfl)
             refine zt HT_ HW_ 7 21 hHeld ?_ (hy := by rintro w' ⟨s0, s1⟩; go_simp; with_reducible rfl)
             refine zp HT_ 8 22 ?_
             refine zp HT_ 9 23 ?_
             refine zp HT_ 10 24 ?_
             refine zu HT_ 11 25 ?_
             refine zu HT_ 12 26 ?_
             refine zu HT_ 13 27 ?_
             refine zu HT_ 14 28 ?_
             refine zp HT_ 15 29 ?_
             refine zp HT_ 16 30 ?_
             refine zu HT_ 17 31 ?_
             refine zu HT_ 18 32 ?_
             refine zu HT_ 19 33 ?_
             refine zu HT_ 20 34 ?_
             refine zu HT_ 21 35 ?_
             refine zu HT_ 22 36 ?_
             refine zu HT_ 23 37 ?_
             refine zu HT_ 24 38 ?_
             refine zu HT_ 25 39 ?_
             refine zu HT_ 26 40 ?_
             refine zu HT_ 27 41 ?_
             refine zu HT_ 28 42 ?_
             refine zp HT_ 29 43 ?_
             refine zo HT_ ?_
             try go_wp2
             go_ret
             exact ⟨by first | rfl | (simp [errW_none, errW_some] <;> rfl) | (simp [*, errW_none, errW_some] <;> rfl), zB⟩
           · rw [if_neg c11] at H
             have c11b0 : decide (((rd_T50 l0 x9_1).f1) ≤ ((rd_T50 l0 x9_1).f0)) = false := decide_eq_false c11
             clear c11
             by_cases c16 : ((rd_T50 l0 x9_1).f1) ≥ a1
             · rw [if_pos c16] at H
               have c16b0 : decide (a1 ≤ ((rd_T50 l0 x9_1).f1)) = true := decide_eq_true c16
               clear c16
               obtain rfl := Option.some.inj H
               have p161 : 0 ≤ (x9_1 : Int) := of_decide_eq_true zA
               have q161 : x9_1 < (l0.length : Int) := of_decide_eq_true zA
               obtain ⟨ad161, e161, hx161_0, hx161_1⟩ := at_T50 HR0.out x9_1 p161 q161
               cases e161
               (try replace hx161_0 := (HB.out.cell (World.block_lt_of_cell? w _ hx161_0)).trans hx161_0)
               (try replace hx161_1 := (HB.out.cell (World.block_lt_of_cell? w _ hx161_1)).trans hx161_1)
               replace p161 := eq_true p161
               replace q161 := eq_true q161
               try go_wp2_with (first | ((with_reducible refine gate_dst (N := 6) rfl ?_); refine zb (w := w) 6 #[.int .i64 0, .int .i64 0] 50 zB ?_; clear HB; intro gb162 w17 HB BK162 GW162; have GE162 := GW162; have hcz18_0 := zy BK162 0; have hcz18_1 := zy BK162 1; have hfz18_0 := blk_frozen BK162.out 0; have hfz18_1 := blk_frozen BK162.out 1))
               have n0_ : Aside0 (((w17.setCell ⟨gb162, 0, none⟩ (.int .i64 ((rd_T50 l0 x9_1).f0))).setCell ⟨gb162, 1, none⟩ (.int .i64 ((rd_T50 l0 x9_1).f1))).heap[gb162]? = some (.cells #[.int .i64 ((rd_T50 l0 x9_1).f0), .int .i64 ((rd_T50 l0 x9_1).f1)] 50 (0, 0))) := ⟨by (with_reducible repeat (first | refine blk_drewN ?_ _ | refine blk_drew ?_ | refine blk_alloc ?_ _)); refine blk_put (cs := #[.int .i64 ((rd_T50 l0 x9_1).f0), .int .i64 0]) ?_ 1 _ rfl; (with_reducible repeat (first | refine blk_drewN ?_ _ | refine blk_drew ?_ | refine blk_alloc ?_ _)); refine blk_put (cs := #[.int .i64 0, .int .i64 0]) ?_ 0 _ rfl; (with_reducible repeat (first | refine blk_drewN ?_ _ | refine blk_drew ?_ | refine blk_alloc ?_ _)); exact BK162.out⟩
               have n1_ : Aside0 (Below w.heap.size w ((w17.setCell ⟨gb162, 0, none⟩ (.int .i64 ((rd_T50 l0 x9_1).f0))).setCell ⟨gb162, 1, none⟩ (.int .i64 ((rd_T50 l0 x9_1).f1)))) := ⟨zB⟩
               (try clear BK162)
               (try clear HB)
               generalize ((w17.setCell ⟨gb162, 0, none⟩ (.int .i64 ((rd_T50 l0 x9_1).f0))).setCell ⟨gb162, 1, none⟩ (.int .i64 ((rd_T50 l0 x9_1).f1))) = w19 at n0_ n1_ ⊢
               have BK162 := n0_
               have HB := n1_
               clear n0_ n1_
               replace BK162 := zM (blk_drew BK162.out)
               replace HB := zM (below_drew1 HB.out)
               refine zs (n := 30) (fun w' => w'.cell? ⟨gb162, 0, none⟩ = some (.int .i64 ((rd_T50 l0 x9_1).f0)) ∧ w'.cell? ⟨gb162, 1, none⟩ = some (.int .i64 ((rd_T50 l0 x9_1).f1))) ⟨(blk_cell BK162.out 0).trans rfl, (blk_cell BK162.out 1).trans rfl⟩ (fun hHeld => ?_); refine with_tabW impl_isPairs.tab4 impl_isPairs.bits4 (fun HT_ HW_ => ?_)
               generalize w19.drew = w20 at BK162 HB hHeld ⊢
               refine zp HT_ 0 14 ?_
               refine zt HT_ HW_ 1 15 hHeld ?_ (hy := by rintro w' ⟨s0, s1⟩; go_simp; with_reducible rfl)
               refine zp HT_ 2 16 ?_
               refine zp HT_ 3 17 ?_
               refine zp HT_ 4 18 ?_
               refine zp HT_ 6 20 ?_
               refine zt HT_ HW_ 5 19 hHeld ?_ (hy := by rintro w' ⟨s0, s1⟩; go_simp; with_reducible rfl)
               refine zt HT_ HW_ 7 21 hHeld ?_ (hy := by rintro w' ⟨s0, s1⟩; go_simp; with_reducible rfl)
               refine zp HT_ 8 22 ?_
               refine zp HT_ 9 23 ?_
               refine zp HT_ 10 24 ?_
               refine zp HT_ 11 25 ?_
               refine zp HT_ 13 27 ?_
               refine zt HT_ HW_ 12 26 hHeld ?_ (hy := by rintro w' ⟨s0, s1⟩; go_simp; with_reducible rfl)
               refine zp HT_ 14 28 ?_
               refine zp HT_ 15 29 ?_
               refine zp HT_ 16 30 ?_
               refine zu HT_ 17 31 ?_
               refine zu HT_ 18 32 ?_
               refine zu HT_ 19 33 ?_
               refine zu HT_ 20 34 ?_
               refine zu HT_ 21 35 ?_
               refine zu HT_ 22 36 ?_
               refine zu HT_ 23 37 ?_
               refine zu HT_ 24 38 ?_
               refine zu HT_ 25 39 ?_
               refine zu HT_ 26 40 ?_
               refine zu HT_ 27 41 ?_
               refine zu HT_ 28 42 ?_
               refine zp HT_ 29 43 ?_
               refine zo HT_ ?_
               try go_wp2
               go_ret
               exact ⟨by first | rfl | (simp [errW_none, errW_some] <;> rfl) | (simp [*, errW_none, errW_some] <;> rfl), zB⟩
             · rw [if_neg c16] at H
               have c16b0 : decide (a1 ≤ ((rd_T50 l0 x9_1).f1)) = false := decide_eq_false c16
               clear c16
               by_cases c21 : x9_1 > 0
               · rw [if_pos c21] at H
                 have c21b0 : decide (0 < x9_1) = true := decide_eq_true c21
                 clear c21
                 obtain ⟨ji22, hji22⟩ : ∃ j_ : Int, (wrap64 (x9_1 - 1)) = j_ := ⟨_, rfl⟩
                 replace H : (if 0 ≤ (ji22) then (if (ji22) < (l0.length : Int) then ((impl_comparePairs.f k1 ((rd_T50 l0 (ji22)).f0) ((rd_T50 l0 (ji22)).f1) ((rd_T50 l0 x9_1).f0) ((rd_T50 l0 x9_1).f1)).bind fun t164 => (if t164 ≥ 0 then (some false) else (impl_isPairs.l0 k1 l0 a1 l0 (l0.length : Int) (wrap64 (x9_1 + 1))))) else (none)) else (none)) = some r := by first | (rw [hji22] at H; exact H) | (simp only [hji22] at H ⊢; exact H)
                 have hji22w : (IntKind.i64.wrap (x9_1 - 1)) = ji22 := (i64_w _).trans hji22
                 by_cases c23 : 0 ≤ (ji22)
                 · rw [if_pos c23] at H
                   have c23b0 := decide_eq_true c23
                   clear c23
                   by_cases c24 : (ji22) < (l0.length : Int)
                   · rw [if_pos c24] at H
                     have c24b0 := decide_eq_true c24
                     clear c24
                     replace H := Option.bind_eq_some_iff.mp H
                     obtain ⟨t164, A250, H⟩ := H
                     have A25 := Aside0.mk A250
                     clear A250
                     by_cases c26 : t164 ≥ 0
                     · rw [if_pos c26] at H
                       have c26b0 : decide (0 ≤ t164) = true := decide_eq_true c26
                       clear c26
                       obtain rfl := Option.some.inj H
                       have p161 : 0 ≤ (x9_1 : Int) := of_decide_eq_true zA
                       have q161 : x9_1 < (l0.length : Int) := of_decide_eq_true zA
                       obtain ⟨ad161, e161, hx161_0, hx161_1⟩ := at_T50 HR0.out x9_1 p161 q161
                       cases e161
                       (try replace hx161_0 := (HB.out.cell (World.block_lt_of_cell? w _ hx161_0)).trans hx161_0)
                       (try replace hx161_1 := (HB.out.cell (World.block_lt_of_cell? w _ hx161_1)).trans hx161_1)
                       replace p161 := eq_true p161
                       replace q161 := eq_true q161
                       try go_wp2_with (first | ((with_reducible refine gate_dst (N := 6) rfl ?_); refine zb (w := w) 6 #[.int .i64 0, .int .i64 0] 50 zB ?_; clear HB; intro gb162 w27 HB BK162 GW162; have GE162 := GW162; have hcz28_0 := zy BK162 0; have hcz28_1 := zy BK162 1; have hfz28_0 := blk_frozen BK162.out 0; have hfz28_1 := blk_frozen BK162.out 1))
                       have n0_ : Aside0 (((w27.setCell ⟨gb162, 0, none⟩ (.int .i64 ((rd_T50 l0 x9_1).f0))).setCell ⟨gb162, 1, none⟩ (.int .i64 ((rd_T50 l0 x9_1).f1))).heap[gb162]? = some (.cells #[.int .i64 ((rd_T50 l0 x9_1).f0), .int .i64 ((rd_T50 l0 x9_1).f1)] 50 (0, 0))) := ⟨by (with_reducible repeat (first | refine blk_drewN ?_ _ | refine blk_drew ?_ | refine blk_alloc ?_ _)); refine blk_put (cs := #[.int .i64 ((rd_T50 l0 x9_1).f0), .int .i64 0]) ?_ 1 _ rfl; (with_reducible repeat (first | refine blk_drewN ?_ _ | refine blk_drew ?_ | refine blk_alloc ?_ _)); refine blk_put (cs := #[.int .i64 0, .int .i64 0]) ?_ 0 _ rfl; (with_reducible repeat (first | refine blk_drewN ?_ _ | refine blk_drew ?_ | refine blk_alloc ?_ _)); exact BK162.out⟩
                       have n1_ : Aside0 (Below w.heap.size w ((w27.setCell ⟨gb162, 0, none⟩ (.int .i64 ((rd_T50 l0 x9_1).f0))).setCell ⟨gb162, 1, none⟩ (.int .i64 ((rd_T50 l0 x9_1).f1)))) := ⟨zB⟩
                       (try clear BK162)
                       (try clear HB)
                       generalize ((w27.setCell ⟨gb162, 0, none⟩ (.int .i64 ((rd_T50 l0 x9_1).f0))).setCell ⟨gb162, 1, none⟩ (.int .i64 ((rd_T50 l0 x9_1).f1))) = w29 at n0_ n1_ ⊢
                       have BK162 := n0_
                       have HB := n1_
                       clear n0_ n1_
                       replace BK162 := zM (blk_drew BK162.out)
                       replace HB := zM (below_drew1 HB.out)
                       have p163 : 0 ≤ ((ji22) : Int) := of_decide_eq_true zA
                       have q163 : (ji22) < (l0.length : Int) := of_decide_eq_true zA
                       obtain ⟨ad163, e163, hx163_0, hx163_1⟩ := at_T50 HR0.out (ji22) p163 q163
                       have hw163_1 := hx163_1
                       have hw163_0 := hx163_0
                       obtain rfl : ad161 = ad163 := (by injection e163)
                       (try replace hx163_0 := (HB.out.cell (World.block_lt_of_cell? w _ hx163_0)).trans hx163_0)
                       (try replace hx163_1 := (HB.out.cell (World.block_lt_of_cell? w _ hx163_1)).trans hx163_1)
                       replace p163 := eq_true p163
                       replace q163 := eq_true q163
                       refine zs (n := 30) (fun w' => w'.cell? ⟨gb162, 0, none⟩ = some (.int .i64 ((rd_T50 l0 x9_1).f0)) ∧ w'.cell? ⟨gb162, 1, none⟩ = some (.int .i64 ((rd_T50 l0 x9_1).f1)) ∧ w'.cell? (ad161.add (((ji22)).toNat * 2)) = some (.int .i64 ((rd_T50 l0 (ji22)).f0)) ∧ w'.cell? ⟨(ad161.add (((ji22)).toNat * 2)).block, (ad161.add (((ji22)).toNat * 2)).off + 1, none⟩ = some (.int .i64 ((rd_T50 l0 (ji22)).f1))) ⟨(blk_cell BK162.out 0).trans rfl, (blk_cell BK162.out 1).trans rfl, ((HB.out.cell (World.block_lt_of_cell? w _ hw163_0)).trans hw163_0), ((HB.out.cell (World.block_lt_of_cell? w _ hw163_1)).trans hw163_1)⟩ (fun hHeld => ?_); refine with_tabW impl_isPairs.tab4 impl_isPairs.bits4 (fun HT_ HW_ => ?_)
                       generalize w29.drew = w30 at BK162 HB hx163_0 hx163_1 hHeld ⊢
                       refine zp HT_ 0 14 ?_
                       refine zt HT_ HW_ 1 15 hHeld ?_ (hy := by rintro w' ⟨s0, s1, s2, s3⟩; go_simp; with_reducible rfl)
                       refine zp HT_ 2 16 ?_
                       refine zp HT_ 3 17 ?_
                       refine zp HT_ 4 18 ?_
                       refine zp HT_ 6 20 ?_
                       refine zt HT_ HW_ 5 19 hHeld ?_ (hy := by rintro w' ⟨s0, s1, s2, s3⟩; go_simp; with_reducible rfl)
                       refine zt HT_ HW_ 7 21 hHeld ?_ (hy := by rintro w' ⟨s0, s1, s2, s3⟩; go_simp; with_reducible rfl)
                       refine zp HT_ 8 22 ?_
                       refine zp HT_ 9 23 ?_
                       refine zp HT_ 10 24 ?_
                       refine zp HT_ 11 25 ?_
                       refine zp HT_ 13 27 ?_
                       refine zt HT_ HW_ 12 26 hHeld ?_ (hy := by rintro w' ⟨s0, s1, s2, s3⟩; go_simp; with_reducible rfl)
                       refine zp HT_ 14 28 ?_
                       refine zp HT_ 15 29 ?_
                       refine zp HT_ 16 30 ?_
                       refine zp HT_ 17 31 ?_
                       refine zp HT_ 18 32 ?_
                       refine zp HT_ 19 33 ?_
                       refine zp HT_ 20 34 ?_
                       refine zp HT_ 21 35 ?_
                       refine zp HT_ 22 36 ?_
                       refine zp HT_ 23 37 ?_
                       refine zt HT_ HW_ 24 38 hHeld ?_ (hy := by rintro w' ⟨s0, s1, s2, s3⟩; go_simp; with_reducible rfl)
                       refine zt HT_ HW_ 25 39 hHeld ?_ (hy := by rintro w' ⟨s0, s1, s2, s3⟩; go_simp; with_reducible rfl)
                       refine one_ (i := 26) (N := some 40) #[true, true, true, true, true, true, true, true, true, true, true, true, true, true, true, true, true, true, true, true, true, true, true, true, true, true, true, false, false, false] rfl rfl (one_of HT_.out (by kernel_rfl)) (by decide) (fun K hK => ?_)
                       refine goes_ Try.func47 (by kernel_rfl) rfl #[.agg #[.int .i64 ((rd_T50 l0 (ji22)).f0), .int .i64 ((rd_T50 l0 (ji22)).f1)], .agg #[.int .i64 ((rd_T50 l0 x9_1).f0), .int .i64 ((rd_T50 l0 x9_1).f1)]] (by rfl) rfl rfl (by (try simp only [List.map_toArray, List.map_cons, List.map_nil]); first | done | (simp only [hji22]; rfl) | rfl | (simp only [List.length_drop, List.length_take]; rfl)) ?_
                       with_reducible refine (impl_comparePairs.calls k1 ((rd_T50 l0 (ji22)).f0) ((rd_T50 l0 (ji22)).f1) ((rd_T50 l0 x9_1).f0) ((rd_T50 l0 x9_1).f1) t164 _ A25.out).mono ?_
                       rintro e w31 ⟨rfl, hb⟩
                       refine ⟨_, rfl, ?_⟩
                       replace BK162 := zM (blk_below (g := gb162) (o := .cells #[.int .i64 ((rd_T50 l0 x9_1).f0), .int .i64 ((rd_T50 l0 x9_1).f1)] 50 (0, 0)) (zK BK162.out) hb)
                       replace HB := zM (below_step zB hb)
                       (try clear hb)
                       (try clear hb2)
                       (try clear hk)
                       (try clear hi)
                       refine hK.out _ _ ⟨(blk_cell BK162.out 0).trans rfl, (blk_cell BK162.out 1).trans rfl, ((HB.out.cell (World.block_lt_of_cell? w _ hw163_0)).trans hw163_0), ((HB.out.cell (World.block_lt_of_cell? w _ hw163_1)).trans hw163_1)⟩ (fun hHeld => ?_)
                       clear hK K
                       refine zn 40 ?_
                       refine zp HT_ 27 41 ?_
                       refine zp HT_ 28 42 ?_
                       refine zp HT_ 29 43 ?_
                       refine zo HT_ ?_
                       try go_wp2
                       go_ret
                       exact ⟨by first | rfl | (simp [errW_none, errW_some] <;> rfl) | (simp only [← hji22]; first | rfl | (simp [errW_none, errW_some] <;> rfl)) | (simp [*, errW_none, errW_some] <;> rfl), zB⟩
                     · rw [if_neg c26] at H
                       have c26b0 : decide (0 ≤ t164) = false := decide_eq_false c26
                       clear c26
                       have H' := Aside0.mk H
                       clear H
                       have p161 : 0 ≤ (x9_1 : Int) := of_decide_eq_true zA
                       have q161 : x9_1 < (l0.length : Int) := of_decide_eq_true zA
                       obtain ⟨ad161, e161, hx161_0, hx161_1⟩ := at_T50 HR0.out x9_1 p161 q161
                       cases e161
                       (try replace hx161_0 := (HB.out.cell (World.block_lt_of_cell? w _ hx161_0)).trans hx161_0)
                       (try replace hx161_1 := (HB.out.cell (World.block_lt_of_cell? w _ hx161_1)).trans hx161_1)
                       replace p161 := eq_true p161
                       replace q161 := eq_true q161
                       try go_wp2_with (first | ((with_reducible refine gate_dst (N := 6) rfl ?_); refine zb (w := w) 6 #[.int .i64 0, .int .i64 0] 50 zB ?_; clear HB; intro gb162 w32 HB BK162 GW162; have GE162 := GW162; have hcz33_0 := zy BK162 0; have hcz33_1 := zy BK162 1; have hfz33_0 := blk_frozen BK162.out 0; have hfz33_1 := blk_frozen BK162.out 1))
                       have n0_ : Aside0 (((w32.setCell ⟨gb162, 0, none⟩ (.int .i64 ((rd_T50 l0 x9_1).f0))).setCell ⟨gb162, 1, none⟩ (.int .i64 ((rd_T50 l0 x9_1).f1))).heap[gb162]? = some (.cells #[.int .i64 ((rd_T50 l0 x9_1).f0), .int .i64 ((rd_T50 l0 x9_1).f1)] 50 (0, 0))) := ⟨by (with_reducible repeat (first | refine blk_drewN ?_ _ | refine blk_drew ?_ | refine blk_alloc ?_ _)); refine blk_put (cs := #[.int .i64 ((rd_T50 l0 x9_1).f0), .int .i64 0]) ?_ 1 _ rfl; (with_reducible repeat (first | refine blk_drewN ?_ _ | refine blk_drew ?_ | refine blk_alloc ?_ _)); refine blk_put (cs := #[.int .i64 0, .int .i64 0]) ?_ 0 _ rfl; (with_reducible repeat (first | refine blk_drewN ?_ _ | refine blk_drew ?_ | refine blk_alloc ?_ _)); exact BK162.out⟩
                       have n1_ : Aside0 (Below w.heap.size w ((w32.setCell ⟨gb162, 0, none⟩ (.int .i64 ((rd_T50 l0 x9_1).f0))).setCell ⟨gb162, 1, none⟩ (.int .i64 ((rd_T50 l0 x9_1).f1)))) := ⟨zB⟩
                       (try clear BK162)
                       (try clear HB)
                       generalize ((w32.setCell ⟨gb162, 0, none⟩ (.int .i64 ((rd_T50 l0 x9_1).f0))).setCell ⟨gb162, 1, none⟩ (.int .i64 ((rd_T50 l0 x9_1).f1))) = w34 at n0_ n1_ ⊢
                       have BK162 := n0_
                       have HB := n1_
                       clear n0_ n1_
                       replace BK162 := zM (blk_drew BK162.out)
                       replace HB := zM (below_drew1 HB.out)
                       have p163 : 0 ≤ ((ji22) : Int) := of_decide_eq_true zA
                       have q163 : (ji22) < (l0.length : Int) := of_decide_eq_true zA
                       obtain ⟨ad163, e163, hx163_0, hx163_1⟩ := at_T50 HR0.out (ji22) p163 q163
                       have hw163_1 := hx163_1
                       have hw163_0 := hx163_0
                       obtain rfl : ad161 = ad163 := (by injection e163)
                       (try replace hx163_0 := (HB.out.cell (World.block_lt_of_cell? w _ hx163_0)).trans hx163_0)
                       (try replace hx163_1 := (HB.out.cell (World.block_lt_of_cell? w _ hx163_1)).trans hx163_1)
                       replace p163 := eq_true p163
                       replace q163 := eq_true q163
                       refine zs (n := 30) (fun w' => w'.cell? ⟨gb162, 0, none⟩ = some (.int .i64 ((rd_T50 l0 x9_1).f0)) ∧ w'.cell? ⟨gb162, 1, none⟩ = some (.int .i64 ((rd_T50 l0 x9_1).f1)) ∧ w'.cell? (ad161.add (((ji22)).toNat * 2)) = some (.int .i64 ((rd_T50 l0 (ji22)).f0)) ∧ w'.cell? ⟨(ad161.add (((ji22)).toNat * 2)).block, (ad161.add (((ji22)).toNat * 2)).off + 1, none⟩ = some (.int .i64 ((rd_T50 l0 (ji22)).f1))) ⟨(blk_cell BK162.out 0).trans rfl, (blk_cell BK162.out 1).trans rfl, ((HB.out.cell (World.block_lt_of_cell? w _ hw163_0)).trans hw163_0), ((HB.out.cell (World.block_lt_of_cell? w _ hw163_1)).trans hw163_1)⟩ (fun hHeld => ?_); refine with_tabW impl_isPairs.tab4 impl_isPairs.bits4 (fun HT_ HW_ => ?_)
                       generalize w34.drew = w35 at BK162 HB hx163_0 hx163_1 hHeld ⊢
                       refine zp HT_ 0 14 ?_
                       refine zt HT_ HW_ 1 15 hHeld ?_ (hy := by rintro w' ⟨s0, s1, s2, s3⟩; go_simp; with_reducible rfl)
                       refine zp HT_ 2 16 ?_
                       refine zp HT_ 3 17 ?_
                       refine zp HT_ 4 18 ?_
                       refine zp HT_ 6 20 ?_
                       refine zt HT_ HW_ 5 19 hHeld ?_ (hy := by rintro w' ⟨s0, s1, s2, s3⟩; go_simp; with_reducible rfl)
                       refine zt HT_ HW_ 7 21 hHeld ?_ (hy := by rintro w' ⟨s0, s1, s2, s3⟩; go_simp; with_reducible rfl)
                       refine zp HT_ 8 22 ?_
                       refine zp HT_ 9 23 ?_
                       refine zp HT_ 10 24 ?_
                       refine zp HT_ 11 25 ?_
                       refine zp HT_ 13 27 ?_
                       refine zt HT_ HW_ 12 26 hHeld ?_ (hy := by rintro w' ⟨s0, s1, s2, s3⟩; go_simp; with_reducible rfl)
                       refine zp HT_ 14 28 ?_
                       refine zp HT_ 15 29 ?_
                       refine zp HT_ 16 30 ?_
                       refine zp HT_ 17 31 ?_
                       refine zp HT_ 18 32 ?_
                       refine zp HT_ 19 33 ?_
                       refine zp HT_ 20 34 ?_
                       refine zp HT_ 21 35 ?_
                       refine zp HT_ 22 36 ?_
                       refine zp HT_ 23 37 ?_
                       refine zt HT_ HW_ 24 38 hHeld ?_ (hy := by rintro w' ⟨s0, s1, s2, s3⟩; go_simp; with_reducible rfl)
                       refine zt HT_ HW_ 25 39 hHeld ?_ (hy := by rintro w' ⟨s0, s1, s2, s3⟩; go_simp; with_reducible rfl)
                       refine one_ (i := 26) (N := some 40) #[true, true, true, true, true, true, true, true, true, true, true, true, true, true, true, true, true, true, true, true, true, true, true, true, true, true, true, false, false, false] rfl rfl (one_of HT_.out (by kernel_rfl)) (by decide) (fun K hK => ?_)
                       refine goes_ Try.func47 (by kernel_rfl) rfl #[.agg #[.int .i64 ((rd_T50 l0 (ji22)).f0), .int .i64 ((rd_T50 l0 (ji22)).f1)], .agg #[.int .i64 ((rd_T50 l0 x9_1).f0), .int .i64 ((rd_T50 l0 x9_1).f1)]] (by rfl) rfl rfl (by (try simp only [List.map_toArray, List.map_cons, List.map_nil]); first | done | (simp only [hji22]; rfl) | rfl | (simp only [List.length_drop, List.length_take]; rfl)) ?_
                       with_reducible refine (impl_comparePairs.calls k1 ((rd_T50 l0 (ji22)).f0) ((rd_T50 l0 (ji22)).f1) ((rd_T50 l0 x9_1).f0) ((rd_T50 l0 x9_1).f1) t164 _ A25.out).mono ?_
                       rintro e w36 ⟨rfl, hb⟩
                       refine ⟨_, rfl, ?_⟩
                       replace BK162 := zM (blk_below (g := gb162) (o := .cells #[.int .i64 ((rd_T50 l0 x9_1).f0), .int .i64 ((rd_T50 l0 x9_1).f1)] 50 (0, 0)) (zK BK162.out) hb)
                       replace HB := zM (below_step zB hb)
                       (try clear hb)
                       (try clear hb2)
                       (try clear hk)
                       (try clear hi)
                       refine hK.out _ _ ⟨(blk_cell BK162.out 0).trans rfl, (blk_cell BK162.out 1).trans rfl, ((HB.out.cell (World.block_lt_of_cell? w _ hw163_0)).trans hw163_0), ((HB.out.cell (World.block_lt_of_cell? w _ hw163_1)).trans hw163_1)⟩ (fun hHeld => ?_)
                       clear hK K
                       refine zn 40 ?_
                       refine zp HT_ 27 41 ?_
                       refine zp HT_ 28 42 ?_
                       refine zp HT_ 29 43 ?_
                       refine zo HT_ ?_
                       try go_wp2
                       go_roundg k1
                       case measure => have := HK1.out; omega
                       case rel => exact ⟨(wrap64 (x9_1 + 1)), (by first | rfl | (simp; done) | (simp [*]; done)), H', ⟨by have := HK1.out; omega⟩, ⟨zB⟩⟩
                   · rw [if_neg c24] at H
                     exact absurd H (by simp)
                 · rw [if_neg c23] at H
                   exact absurd H (by simp)
               · rw [if_neg c21] at H
                 have c21b0 : decide (0 < x9_1) = false := decide_eq_false c21
                 clear c21
                 have H' := Aside0.mk H
                 clear H
                 have p161 : 0 ≤ (x9_1 : Int) := of_decide_eq_true zA
                 have q161 : x9_1 < (l0.length : Int) := of_decide_eq_true zA
                 obtain ⟨ad161, e161, hx161_0, hx161_1⟩ := at_T50 HR0.out x9_1 p161 q161
                 cases e161
                 (try replace hx161_0 := (HB.out.cell (World.block_lt_of_cell? w _ hx161_0)).trans hx161_0)
                 (try replace hx161_1 := (HB.out.cell (World.block_lt_of_cell? w _ hx161_1)).trans hx161_1)
                 replace p161 := eq_true p161
                 replace q161 := eq_true q161
                 try go_wp2_with (first | ((with_reducible refine gate_dst (N := 6) rfl ?_); refine zb (w := w) 6 #[.int .i64 0, .int .i64 0] 50 zB ?_; clear HB; intro gb162 w37 HB BK162 GW162; have GE162 := GW162; have hcz38_0 := zy BK162 0; have hcz38_1 := zy BK162 1; have hfz38_0 := blk_frozen BK162.out 0; have hfz38_1 := blk_frozen BK162.out 1))
                 have n0_ : Aside0 (((w37.setCell ⟨gb162, 0, none⟩ (.int .i64 ((rd_T50 l0 x9_1).f0))).setCell ⟨gb162, 1, none⟩ (.int .i64 ((rd_T50 l0 x9_1).f1))).heap[gb162]? = some (.cells #[.int .i64 ((rd_T50 l0 x9_1).f0), .int .i64 ((rd_T50 l0 x9_1).f1)] 50 (0, 0))) := ⟨by (with_reducible repeat (first | refine blk_drewN ?_ _ | refine blk_drew ?_ | refine blk_alloc ?_ _)); refine blk_put (cs := #[.int .i64 ((rd_T50 l0 x9_1).f0), .int .i64 0]) ?_ 1 _ rfl; (with_reducible repeat (first | refine blk_drewN ?_ _ | refine blk_drew ?_ | refine blk_alloc ?_ _)); refine blk_put (cs := #[.int .i64 0, .int .i64 0]) ?_ 0 _ rfl; (with_reducible repeat (first | refine blk_drewN ?_ _ | refine blk_drew ?_ | refine blk_alloc ?_ _)); exact BK162.out⟩
                 have n1_ : Aside0 (Below w.heap.size w ((w37.setCell ⟨gb162, 0, none⟩ (.int .i64 ((rd_T50 l0 x9_1).f0))).setCell ⟨gb162, 1, none⟩ (.int .i64 ((rd_T50 l0 x9_1).f1)))) := ⟨zB⟩
                 (try clear BK162)
                 (try clear HB)
                 generalize ((w37.setCell ⟨gb162, 0, none⟩ (.int .i64 ((rd_T50 l0 x9_1).f0))).setCell ⟨gb162, 1, none⟩ (.int .i64 ((rd_T50 l0 x9_1).f1))) = w39 at n0_ n1_ ⊢
                 have BK162 := n0_
                 have HB := n1_
                 clear n0_ n1_
                 replace BK162 := zM (blk_drew BK162.out)
                 replace HB := zM (below_drew1 HB.out)
                 refine zs (n := 30) (fun w' => w'.cell? ⟨gb162, 0, none⟩ = some (.int .i64 ((rd_T50 l0 x9_1).f0)) ∧ w'.cell? ⟨gb162, 1, none⟩ = some (.int .i64 ((rd_T50 l0 x9_1).f1))) ⟨(blk_cell BK162.out 0).trans rfl, (blk_cell BK162.out 1).trans rfl⟩ (fun hHeld => ?_); refine with_tabW impl_isPairs.tab4 impl_isPairs.bits4 (fun HT_ HW_ => ?_)
                 generalize w39.drew = w40 at BK162 HB hHeld ⊢
                 refine zp HT_ 0 14 ?_
                 refine zt HT_ HW_ 1 15 hHeld ?_ (hy := by rintro w' ⟨s0, s1⟩; go_simp; with_reducible rfl)
                 refine zp HT_ 2 16 ?_
                 refine zp HT_ 3 17 ?_
                 refine zp HT_ 4 18 ?_
                 refine zp HT_ 6 20 ?_
                 refine zt HT_ HW_ 5 19 hHeld ?_ (hy := by rintro w' ⟨s0, s1⟩; go_simp; with_reducible rfl)
                 refine zt HT_ HW_ 7 21 hHeld ?_ (hy := by rintro w' ⟨s0, s1⟩; go_simp; with_reducible rfl)
                 refine zp HT_ 8 22 ?_
                 refine zp HT_ 9 23 ?_
                 refine zp HT_ 10 24 ?_
                 refine zp HT_ 11 25 ?_
                 refine zp HT_ 13 27 ?_
                 refine zt HT_ HW_ 12 26 hHeld ?_ (hy := by rintro w' ⟨s0, s1⟩; go_simp; with_reducible rfl)
                 refine zp HT_ 14 28 ?_
                 refine zp HT_ 15 29 ?_
                 refine zp HT_ 16 30 ?_
                 refine zp HT_ 17 31 ?_
                 refine zp HT_ 18 32 ?_
                 refine zp HT_ 19 33 ?_
                 refine zu HT_ 20 34 ?_
                 refine zu HT_ 21 35 ?_
                 refine zu HT_ 22 36 ?_
                 refine zu HT_ 23 37 ?_
                 refine zu HT_ 24 38 ?_
                 refine zu HT_ 25 39 ?_
                 refine zu HT_ 26 40 ?_
                 refine zu HT_ 27 41 ?_
                 refine zp HT_ 28 42 ?_
                 refine zp HT_ 29 43 ?_
                 refine zo HT_ ?_
                 try go_wp2
                 go_roundg k1
                 case measure => have := HK1.out; omega
                 case rel => exact ⟨(wrap64 (x9_1 + 1)), (by first | rfl | (simp; done) | (simp [*]; done)), H', ⟨by have := HK1.out; omega⟩, ⟨zB⟩⟩
       · rw [if_neg c5] at H
         exact absurd H (by simp)
     · rw [if_neg c4] at H
       exact absurd H (by simp)
   · rw [if_neg c3] at H
     have c3b0 : decide (x9_1 < (l0.length : Int)) = false := decide_eq_false c3
     clear c3
     obtain rfl := Option.some.inj H
     go_wp2
     go_ret
     exact ⟨by first | rfl | (simp [errW_none, errW_some] <;> rfl) | (simp [*, errW_none, errW_some] <;> rfl), zB⟩

end Go.Proofs.Ytopgbijegnnjbaa.P
namespace Go.Proofs.Ytopgbijegnnjbaa.P
open Go.RowKit Go.Proofs.YtopgbijegnnjbaaW.PrintWords Go.Proofs.YtopgbijegnnjbaaW.PrintLast Go.Proofs.YtopgbijegnnjbaaW.PrintMore
set_option linter.unusedVariables false
set_option linter.unusedSimpArgs false

/-- Function g, bound to the variables lb, answers p; memory that was there stays. -/
def PredB {α : Type} (g : Nat) (lb : Array Value) (enc : α → Value) (p : α → Bool) (l : List α) (w : World) : Prop :=
  ∀ (W : World) (x : α), x ∈ l → Below w.heap.size w W → Calls Try.prog g (#[enc x] ++ lb) W fun e w' => e = .returned (.bool (p x)) ∧ Below W.heap.size W w'

set_option maxRecDepth 100000 in
set_option maxHeartbeats 2000000 in
theorem idxf_ints (g : Nat) (lb : Array Value) (eg : ∀ (args : Array Value) (w : World), (callFunc g args).run Try.prog w = .ok (.enter g args) w) (p : Int → Bool) (A0 : Option Addr) (c0 : Nat) (l0 : List Int) (w : World) (hr0 : Kd.C (Kd.int .i64) w A0 l0.length l0)
    (hp : PredB g lb (Value.int .i64) p l0 w) :
    Calls Try.prog 61 #[.slice A0 l0.length c0, .func (.func g) #[] lb] w fun e w' => (∃ r : Int, e = .returned (.int .i64 r) ∧ (0 ≤ r ↔ l0.any p = true)) ∧ Below w.heap.size w w' := by
  have HR0 := Aside0.mk hr0
  have HP := Aside0.mk hp
  have HL := Aside0.mk (hr0.2.1)
  clear hr0 hp
  go_enter Try.func61, Try.ntmps61
  go_wp2
  go_loopg [8, 5] (l0.length + 1) (fun kq v8 v5 w' => ∃ (m : Nat), v8 = .int .i64 m ∧ Aside0 (m ≤ l0.length) ∧ Aside0 (kq = l0.length - m + 1) ∧ Aside0 ((l0.take m).any p = false) ∧ Aside0 (Below w.heap.size w w'))
  case atStart => exact ⟨0, rfl, ⟨Nat.zero_le _⟩, ⟨by omega⟩, ⟨by simp⟩, ⟨Below.refl _ _⟩⟩
  case round =>
    obtain ⟨m, rfl, HM, HK1, HA, HB⟩ := hrel
    by_cases c1 : m < l0.length
    · have p1 : (0 : Int) ≤ (m : Int) := by omega
      have q1 : (m : Int) < (l0.length : Int) := by omega
      obtain ⟨ad, e1, hx0⟩ := Kd.at_int HR0.out (m : Int) p1 q1
      cases e1
      replace hx0 := (HB.out.cell (World.block_lt_of_cell? w _ hx0)).trans hx0
      rw [Int.toNat_natCast] at hx0
      have HG := Aside0.mk (show l0[m] = rd l0 m by simp [rd, List.getD_eq_getElem?_getD, List.getElem?_eq_getElem c1])
      have HT := Aside0.mk (show (l0.take (m + 1)).any p = p (rd l0 m) by rw [List.take_succ_eq_append_getElem c1, List.any_append, HA.out, HG.out]; simp)
      have HQ := Aside0.mk (show p (rd l0 m) = true → l0.any p = true from fun hq => List.any_eq_true.2 ⟨l0[m], List.getElem_mem c1, by rw [HG.out]; exact hq⟩)
      have c1b : decide ((m : Int) < (l0.length : Int)) = true := decide_eq_true q1
      have c1c : decide (m < l0.length) = true := decide_eq_true c1
      have hw1 : (m : Int) + 1 ≤ 9223372036854775807 := by have := HL.out; omega
      have hcall := HP.out _ (rd l0 m) (by rw [← HG.out]; exact List.getElem_mem c1) HB.out
      have HC := Aside0.mk hcall
      replace p1 := eq_true p1
      replace q1 := eq_true q1
      clear c1 hcall HG HA
      cases hq : p (rd l0 m) with
      | true =>
        have HQ2 := Aside0.mk (HQ.out hq)
        rw [hq] at HC
        clear hq HQ HT
        go_wp2_with (go_at_fn g; refine HC.out.mono ?_; rintro e w' ⟨rfl, hb⟩)
        go_ret
        exact ⟨⟨_, rfl, ⟨fun _ => HQ2.out, fun _ => by have := of_eq_true p1; first | exact this | (simpa using this) | omega⟩⟩, below_step HB.out hb⟩
      | false =>
        rw [hq] at HT HC
        clear hq HQ
        go_wp2_with (go_at_fn g; refine HC.out.mono ?_; rintro e w' ⟨rfl, hb⟩)
        go_roundg (l0.length - m)
        case measure => have := HK1.out; have := HM.out; omega
        case rel => exact ⟨m + 1, by first | rfl | (simp; done) | go_num, ⟨by have := of_eq_true q1; omega⟩, ⟨by have := of_eq_true q1; omega⟩, HT, ⟨below_step HB.out hb⟩⟩
    · have q1 : ¬ (m : Int) < (l0.length : Int) := by omega
      have c1b : decide ((m : Int) < (l0.length : Int)) = false := decide_eq_false q1
      have c1c : decide (m < l0.length) = false := decide_eq_false c1
      have H3 : Aside0 (l0.any p = false) := ⟨by
        have e_ := HA.out
        rw [List.take_of_length_le (show l0.length ≤ m by omega)] at e_
        exact e_⟩
      clear HA c1 q1
      go_wp2
      go_ret
      exact ⟨⟨-1, rfl, by rw [H3.out]; simp⟩, HB.out⟩
set_option maxRecDepth 100000 in
set_option maxHeartbeats 2000000 in
theorem cont_ints (g : Nat) (lb : Array Value) (eg : ∀ (args : Array Value) (w : World), (callFunc g args).run Try.prog w = .ok (.enter g args) w) (p : Int → Bool) (A0 : Option Addr) (c0 : Nat) (l0 : List Int) (w : World) (hr0 : Kd.C (Kd.int .i64) w A0 l0.length l0)
    (hp : PredB g lb (Value.int .i64) p l0 w) :
    Calls Try.prog 45 #[.slice A0 l0.length c0, .func (.func g) #[] lb] w fun e w' => e = .returned (.bool (l0.any p)) ∧ Below w.heap.size w w' := by
  have HR0 := Aside0.mk hr0
  have HP := Aside0.mk hp
  clear hr0 hp
  go_enter Try.func45, Try.ntmps45
  go_wp2_with (go_at_call 61; refine (idxf_ints g lb eg p A0 c0 l0 w HR0.out HP.out).mono ?_; rintro e w' ⟨⟨r, rfl, hr⟩, hb⟩; have HQ := Aside0.mk hr; have HB := Aside0.mk hb; clear hr hb)
  go_ret
  refine ⟨?_, HB.out⟩
  have := HQ.out
  cases ha : l0.any p <;> rw [ha] at this <;> simp at this <;> simp <;> omega


end Go.Proofs.Ytopgbijegnnjbaa.P
namespace Go.Proofs.Ytopgbijegnnjbaa.P
open Go.RowKit Go.Proofs.YtopgbijegnnjbaaW.PrintWords Go.Proofs.YtopgbijegnnjbaaW.PrintLast Go.Proofs.YtopgbijegnnjbaaW.PrintMore
set_option linter.unusedVariables false
set_option linter.unusedSimpArgs false

/-- Not from -b to b. -/
def outB (b n : Int) : Bool := !(decide (-b ≤ n) && decide (n ≤ b))
set_option maxHeartbeats 1000000 in
theorem isState1_any (n : Int) (W : World) : Calls Try.prog 46 #[.int .i64 n] W fun e w' => e = .returned (.bool (outB 99 n)) ∧ Below W.heap.size W w' := by
  have e : outB 99 n = !(decide (-99 ≤ n) && decide (n ≤ 99)) := rfl
  rw [e]
  clear e
  by_cases h0 : -99 ≤ n
  · have h0b : decide (-99 ≤ n) = true := decide_eq_true h0
    have h0c : decide (n ≥ -99) = true := decide_eq_true h0
    clear h0
    go_enter Try.func46, Try.ntmps46
    go_wp2
    go_ret
    exact ⟨by first | rfl | simp [*], by repeat (first | exact Below.refl _ _ | apply below_alloc | apply pw_below_drewN | apply below_drew1)⟩
  · have h0b : decide (-99 ≤ n) = false := decide_eq_false h0
    have h0c : decide (n ≥ -99) = false := decide_eq_false h0
    clear h0
    go_enter Try.func46, Try.ntmps46
    go_wp2
    go_ret
    exact ⟨by first | rfl | simp [*], by repeat (first | exact Below.refl _ _ | apply below_alloc | apply pw_below_drewN | apply below_drew1)⟩
def impl_isState.f (l0 : List Int) : Option Bool := some (decide ((l0.length : Int) ≤ 24) && !(l0.any (outB 99)))
set_option maxHeartbeats 1000000 in
theorem impl_isState.calls (A0 : Option Addr) (c0 : Nat) (l0 : List Int) (r : Bool) (w : World) (hr0 : Kd.C (Kd.int .i64) w A0 l0.length l0) (hc0 : l0.length ≤ c0) (h : impl_isState.f l0 = some r) :
    Calls Try.prog 31 #[.slice A0 l0.length c0] w fun e w' => e = .returned (.bool r) ∧ Below w.heap.size w w' := by
  obtain rfl := Option.some.inj h
  clear h
  have HP := Aside0.mk (show PredB 46 #[] (Value.int .i64) (outB 99) l0 w from fun W x _ _ => isState1_any x W)
  have HR0 := Aside0.mk hr0
  clear hr0
  generalize hg : l0.any (outB 99) = b
  have HG := Aside0.mk hg
  clear hg
  by_cases h0 : (l0.length : Int) ≤ 24
  · have h0b : decide ((l0.length : Int) ≤ 24) = true := decide_eq_true h0
    have h0c : decide (l0.length ≤ 24) = true := decide_eq_true (by omega)
    rw [h0b]
    clear h0
    go_enter Try.func31, Try.ntmps31
    go_wp2_with (go_at_call 45; refine (cont_ints _ #[] (enters_of Try.func46 (by kernel_rfl) rfl) _ A0 c0 l0 _ HR0.out HP.out).mono ?_; rintro e w' ⟨rfl, hb⟩; rw [HG.out]; have HB := Aside0.mk hb; clear hb)
    go_ret
    exact ⟨by first | rfl | (simp; done), HB.out⟩
  · have h0b : decide ((l0.length : Int) ≤ 24) = false := decide_eq_false h0
    have h0c : decide (l0.length ≤ 24) = false := decide_eq_false (by omega)
    rw [h0b]
    clear h0
    go_enter Try.func31, Try.ntmps31
    go_wp2
    go_ret
    exact ⟨by first | rfl | (simp; done), Below.refl _ _⟩


end Go.Proofs.Ytopgbijegnnjbaa.P
