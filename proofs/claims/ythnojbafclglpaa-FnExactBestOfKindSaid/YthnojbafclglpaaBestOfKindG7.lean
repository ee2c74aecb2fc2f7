-- Written by a program of this session (the kit's print, turned: wip/print/patch.py) out of the translation. Not trusted: Lean checks it.
import Derived.Test.YthnojbafclglpaaBestOfKindG5
import Derived.Test.YthnojbafclglpaaBestOfKindG6
namespace Go.Proofs.Ythnojbafclglpaa.P
open Go.RowKit Go.Proofs.YthnojbafclglpaaW.PrintWords Go.Proofs.YthnojbafclglpaaW.PrintLast Go.Proofs.YthnojbafclglpaaW.PrintMore
attribute [local go_sem] max2_int min2_int max_two min_two max_three min_three max_four min_four   -- for this text's walks alone
set_option linter.unusedVariables false
set_option linter.unusedSimpArgs false

/-! ### impl_isPairs: function 127 -/
def impl_isPairs.l0 : Nat → List (S64) → Int → List (S64) → Int → Int → Option (Bool)
 | 0, _, _, _, _, _ => none
 | k + 1, x0, x1, x7, x8, x9 => if x9 < x8 then (if 0 ≤ x9 then (if x9 < (x7.length : Int) then (if ((rd_T64 x7 x9).f0) < 0 then (some false) else (if ((rd_T64 x7 x9).f0) ≥ ((rd_T64 x7 x9).f1) then (some false) else (if ((rd_T64 x7 x9).f1) ≥ x1 then (some false) else (if x9 > 0 then (if 0 ≤ (wrap64 (x9 - 1)) then (if (wrap64 (x9 - 1)) < (x0.length : Int) then ((impl_comparePairs.f k ((rd_T64 x0 (wrap64 (x9 - 1))).f0) ((rd_T64 x0 (wrap64 (x9 - 1))).f1) ((rd_T64 x7 x9).f0) ((rd_T64 x7 x9).f1)).bind fun t276 => (if t276 ≥ 0 then (some false) else (impl_isPairs.l0 k x0 x1 x7 x8 (wrap64 (x9 + 1))))) else (none)) else (none)) else (impl_isPairs.l0 k x0 x1 x7 x8 (wrap64 (x9 + 1))))))) else (none)) else (none)) else (some true)
def impl_isPairs.f (k : Nat) (l0 : List (S64)) (a1 : Int) : Option (Bool) := impl_isPairs.l0 k l0 a1 l0 (l0.length : Int) 0
def impl_isPairs.T4 : Bool × List (List Nat × List Nat) := (true, [([], []), ([0], [0]), ([1], [1]), ([2], [2]), ([3], [3]), ([4, 3], [3, 4]), ([3], [3]), ([6, 3], [3, 6]), ([5, 7, 3], [3, 5, 7]), ([3, 8], [3, 8]), ([9, 3], [9]), ([10], [10]), ([11, 10], [10, 11]), ([10], [10]), ([12, 13, 10], [10, 12, 13]), ([10, 14], [10, 14]), ([15, 10], [15]), ([16], [16]), ([17, 16], [16, 17]), ([18, 16, 16], [16, 18]), ([19], [19]), ([19], [19]), ([21, 19], [19, 21]), ([20, 22, 19], [19, 20, 22]), ([23, 19], [19, 23]), ([19], [19]), ([24, 25, 19, 19], [19, 24, 25]), ([26, 19], [19, 26]), ([19, 27, 16], [16, 19, 27]), ([16, 28], [16, 28])])
def impl_isPairs.B4 : List Nat := [0, 1, 3, 7, 15, 31, 15, 79, 255, 511, 1023, 2047, 4095, 2047, 16383, 32767, 65535, 131071, 262143, 524287, 1048575, 1048575, 3145727, 8388607, 16777215, 1048575, 67108863, 134217727, 268435455, 536870911]
theorem impl_isPairs.tab4 : rtab .any (opsOf Try.f127 4) = impl_isPairs.T4 := by kernel_rfl
theorem impl_isPairs.bits4 : waitsOk impl_isPairs.T4.2 impl_isPairs.B4 = true := by kernel_rfl
set_option maxHeartbeats 8000000 in
set_option maxRecDepth 100000 in
theorem impl_isPairs.calls (k : Nat) (A0 : Option Addr) (c0 : Nat) (l0 : List (S64)) (a1 : Int) (r : Bool) (w : World) (hr0 : Kd.C k64 w A0 l0.length l0) (hc0 : l0.length ≤ c0) (h : impl_isPairs.f k l0 a1 = some r) :
 Calls Try.prog 127 #[.slice A0 l0.length c0, .int .i64 a1] w fun e w' => e = .returned (.bool r) ∧ Below w.heap.size w w' := by
 have hu64 := Try.underlying64
 have HR0 := Aside0.mk hr0
 have HC0 := Aside0.mk hc0
 clear hr0 hc0
 have HB := zM (Below.refl w.heap.size w)
 have H : (impl_isPairs.l0 k l0 a1 l0 (l0.length : Int) 0) = some r := h
 clear h
 have H' := Aside0.mk H
 clear H
 go_enter Try.func127, Try.ntmps127
 go_wp2
 go_loopg [9] k (fun kq v9 w' => ∃ (x9_1 : Int), v9 = .int .i64 x9_1 ∧ Aside0 (impl_isPairs.l0 kq l0 a1 l0 (l0.length : Int) x9_1 = some r) ∧ Aside0 (kq ≤ k) ∧ Aside0 (Below w.heap.size w w'))
 case atStart => exact ⟨(0), (by first | rfl | (simp; done) | (simp [*]; done)), H', ⟨Nat.le_refl _⟩, ⟨zB⟩⟩
 case round =>
  clear H'
  try clear c1
  try clear p2
  obtain ⟨x9_1, rfl, HA, HK1, HB⟩ := hrel
  cases gk with
  | zero => exact absurd HA.out (by simp [impl_isPairs.l0])
  | succ k1 =>
   have H := HA.out
   clear HA
   simp only [impl_isPairs.l0] at H
   by_cases c3 : x9_1 < (l0.length : Int)
   · rw [if_pos c3] at H
     have c3b0 := decide_eq_true c3
     clear c3
     by_cases c4 : 0 ≤ x9_1
     · rw [if_pos c4] at H
       have c4b0 := decide_eq_true c4
       clear c4
       by_cases c5 : x9_1 < (l0.length : Int)
       · rw [if_pos c5] at H
         have c5b0 := decide_eq_true c5
         clear c5
         by_cases c6 : ((rd_T64 l0 x9_1).f0) < 0
         · rw [if_pos c6] at H
           have c6b0 := decide_eq_true c6
           clear c6
           obtain rfl := Option.some.inj H
           have p273 : 0 ≤ (x9_1 : Int) := of_decide_eq_true zA
           have q273 : x9_1 < (l0.length : Int) := of_decide_eq_true zA
           obtain ⟨ad273, e273, hx273_0, hx273_1⟩ := at_T64 HR0.out x9_1 p273 q273
           cases e273
           (try replace hx273_0 := (HB.out.cell (World.block_lt_of_cell? w _ hx273_0)).trans hx273_0)
           (try replace hx273_1 := (HB.out.cell (World.block_lt_of_cell? w _ hx273_1)).trans hx273_1)
           replace p273 := eq_true p273
           replace q273 := eq_true q273
           try go_wp2_with (first | ((with_reducible refine gate_dst (N := 6) rfl ?_); refine zb (w := w) 6 #[.int .i64 0, .int .i64 0] 64 zB ?_; clear HB; intro gb274 w7 HB BK274 GW274; have GE274 := GW274; have hcz8_0 := zy BK274 0; have hcz8_1 := zy BK274 1; have hfz8_0 := blk_frozen BK274.out 0; have hfz8_1 := blk_frozen BK274.out 1))
           have n0_ : Aside0 (((w7.setCell ⟨gb274, 0, none⟩ (.int .i64 ((rd_T64 l0 x9_1).f0))).setCell ⟨gb274, 1, none⟩ (.int .i64 ((rd_T64 l0 x9_1).f1))).heap[gb274]? = some (.cells #[.int .i64 ((rd_T64 l0 x9_1).f0), .int .i64 ((rd_T64 l0 x9_1).f1)] 64 (0, 0))) := ⟨by (with_reducible repeat (first | refine blk_drewN ?_ _ | refine blk_drew ?_ | refine blk_alloc ?_ _)); refine blk_put (cs := #[.int .i64 ((rd_T64 l0 x9_1).f0), .int .i64 0]) ?_ 1 _ rfl; (with_reducible repeat (first | refine blk_drewN ?_ _ | refine blk_drew ?_ | refine blk_alloc ?_ _)); refine blk_put (cs := #[.int .i64 0, .int .i64 0]) ?_ 0 _ rfl; (with_reducible repeat (first | refine blk_drewN ?_ _ | refine blk_drew ?_ | refine blk_alloc ?_ _)); exact BK274.out⟩
           have n1_ : Aside0 (Below w.heap.size w ((w7.setCell ⟨gb274, 0, none⟩ (.int .i64 ((rd_T64 l0 x9_1).f0))).setCell ⟨gb274, 1, none⟩ (.int .i64 ((rd_T64 l0 x9_1).f1)))) := ⟨zB⟩
           (try clear BK274)
           (try clear HB)
           generalize ((w7.setCell ⟨gb274, 0, none⟩ (.int .i64 ((rd_T64 l0 x9_1).f0))).setCell ⟨gb274, 1, none⟩ (.int .i64 ((rd_T64 l0 x9_1).f1))) = w9 at n0_ n1_ ⊢
           have BK274 := n0_
           have HB := n1_
           clear n0_ n1_
           replace BK274 := zM (blk_drew BK274.out)
           replace HB := zM (below_drew1 HB.out)
           refine zs (n := 30) (fun w' => w'.cell? ⟨gb274, 0, none⟩ = some (.int .i64 ((rd_T64 l0 x9_1).f0)) ∧ w'.cell? ⟨gb274, 1, none⟩ = some (.int .i64 ((rd_T64 l0 x9_1).f1))) ⟨(blk_cell BK274.out 0).trans rfl, (blk_cell BK274.out 1).trans rfl⟩ (fun hHeld => ?_); refine with_tabW impl_isPairs.tab4 impl_isPairs.bits4 (fun HT_ HW_ => ?_)
           generalize w9.drew = w10 at BK274 HB hHeld ⊢
           refine zp HT_ 0 14 ?_
           refine zt HT_ HW_ 1 15 hHeld ?_ (hy := by rintro w' ⟨s0, s1⟩; go_simp; with_reducible rfl)
           refine zp HT_ 2 16 ?_
           refine zp HT_ 3 17 ?_
           refine zu HT_ 4 18 ?_
           refine zu HT_ 5 19 ?_
           refine zu HT_ 6 20 ?_
           refine zu HT_ 7 21 ?_
           refine zu HT_ 8 22 ?_
           refine zp HT_ 9 23 ?_
           refine zp HT_ 10 24 ?_
           refine zu HT_ 11 25 ?_
           refine zu HT_ 12 26 ?_
           refine zu HT_ 13 27 ?_
           refine zu HT_ 14 28 ?_
           refine zp HT_ 15 29 ?_
           refine zp HT_ 16 30 ?_
           refine zu HT_ 17 31 ?_
           refine zu HT_ 18 32 ?_
           refine zu HT_ 19 33 ?_
           refine zu HT_ 20 34 ?_
           refine zu HT_ 21 35 ?_
           refine zu HT_ 22 36 ?_
           refine zu HT_ 23 37 ?_
           refine zu HT_ 24 38 ?_
           refine zu HT_ 25 39 ?_
           refine zu HT_ 26 40 ?_
           refine zu HT_ 27 41 ?_
           refine zu HT_ 28 42 ?_
           refine zp HT_ 29 43 ?_
           refine zo HT_ ?_
           try go_wp2
           go_ret
           exact ⟨by first | rfl | (simp [errW_none, errW_some] <;> rfl) | (simp [*, errW_none, errW_some] <;> rfl), zB⟩
         · rw [if_neg c6] at H
           have c6b0 : decide (((rd_T64 l0 x9_1).f0) < 0) = false := decide_eq_false c6
           clear c6
           by_cases c11 : ((rd_T64 l0 x9_1).f0) ≥ ((rd_T64 l0 x9_1).f1)
           · rw [if_pos c11] at H
             have c11b0 : decide (((rd_T64 l0 x9_1).f1) ≤ ((rd_T64 l0 x9_1).f0)) = true := decide_eq_true c11
             clear c11
             obtain rfl := Option.some.inj H
             have p273 : 0 ≤ (x9_1 : Int) := of_decide_eq_true zA
             have q273 : x9_1 < (l0.length : Int) := of_decide_eq_true zA
             obtain ⟨ad273, e273, hx273_0, hx273_1⟩ := at_T64 HR0.out x9_1 p273 q273
             cases e273
             (try replace hx273_0 := (HB.out.cell (World.block_lt_of_cell? w _ hx273_0)).trans hx273_0)
             (try replace hx273_1 := (HB.out.cell (World.block_lt_of_cell? w _ hx273_1)).trans hx273_1)
             replace p273 := eq_true p273
             replace q273 := eq_true q273
             try go_wp2_with (first | ((with_reducible refine gate_dst (N := 6) rfl ?_); refine zb (w := w) 6 #[.int .i64 0, .int .i64 0] 64 zB ?_; clear HB; intro gb274 w12 HB BK274 GW274; have GE274 := GW274; have hcz13_0 := zy BK274 0; have hcz13_1 := zy BK274 1; have hfz13_0 := blk_frozen BK274.out 0; have hfz13_1 := blk_frozen BK274.out 1))
             have n0_ : Aside0 (((w12.setCell ⟨gb274, 0, none⟩ (.int .i64 ((rd_T64 l0 x9_1).f0))).setCell ⟨gb274, 1, none⟩ (.int .i64 ((rd_T64 l0 x9_1).f1))).heap[gb274]? = some (.cells #[.int .i64 ((rd_T64 l0 x9_1).f0), .int .i64 ((rd_T64 l0 x9_1).f1)] 64 (0, 0))) := ⟨by (with_reducible repeat (first | refine blk_drewN ?_ _ | refine blk_drew ?_ | refine blk_alloc ?_ _)); refine blk_put (cs := #[.int .i64 ((rd_T64 l0 x9_1).f0), .int .i64 0]) ?_ 1 _ rfl; (with_reducible repeat (first | refine blk_drewN ?_ _ | refine blk_drew ?_ | refine blk_alloc ?_ _)); refine blk_put (cs := #[.int .i64 0, .int .i64 0]) ?_ 0 _ rfl; (with_reducible repeat (first | refine blk_drewN ?_ _ | refine blk_drew ?_ | refine blk_alloc ?_ _)); exact BK274.out⟩
             have n1_ : Aside0 (Below w.heap.size w ((w12.setCell ⟨gb274, 0, none⟩ (.int .i64 ((rd_T64 l0 x9_1).f0))).setCell ⟨gb274, 1, none⟩ (.int .i64 ((rd_T64 l0 x9_1).f1)))) := ⟨zB⟩
             (try clear BK274)
             (try clear HB)
             generalize ((w12.setCell ⟨gb274, 0, none⟩ (.int .i64 ((rd_T64 l0 x9_1).f0))).setCell ⟨gb274, 1, none⟩ (.int .i64 ((rd_T64 l0 x9_1).f1))) = w14 at n0_ n1_ ⊢
             have BK274 := n0_
             have HB := n1_
             clear n0_ n1_
             replace BK274 := zM (blk_drew BK274.out)
             replace HB := zM (below_drew1 HB.out)
             refine zs (n := 30) (fun w' => w'.cell? ⟨gb274, 0, none⟩ = some (.int .i64 ((rd_T64 l0 x9_1).f0)) ∧ w'.cell? ⟨gb274, 1, none⟩ = some (.int .i64 ((rd_T64 l0 x9_1).f1))) ⟨(blk_cell BK274.out 0).trans rfl, (blk_cell BK274.out 1).trans rfl⟩ (fun hHeld => ?_); refine with_tabW impl_isPairs.tab4 impl_isPairs.bits4 (fun HT_ HW_ => ?_)
             generalize w14.drew = w15 at BK274 HB hHeld ⊢
             refine zp HT_ 0 14 ?_
             refine zt HT_ HW_ 1 15 hHeld ?_ (hy := by rintro w' ⟨s0, s1⟩; go_simp; with_reducible rfl)
             refine zp HT_ 2 16 ?_
             refine zp HT_ 3 17 ?_
             refine zp HT_ 4 18 ?_
             refine zp HT_ 6 20 ?_
             refine zt HT_ HW_ 5 19 hHeld ?_ (hy := by rintro w' ⟨s0, s1⟩; go_simp; with_reducible rfl)
             refine zt HT_ HW_ 7 21 hHeld ?_ (hy := by rintro w' ⟨s0, s1⟩; go_simp; with_reducible rfl)
             refine zp HT_ 8 22 ?_
             refine zp HT_ 9 23 ?_
             refine zp HT_ 10 24 ?_
             refine zu HT_ 11 25 ?_
             refine zu HT_ 12 26 ?_
             refine zu HT_ 13 27 ?_
             refine zu HT_ 14 28 ?_
             refine zp HT_ 15 29 ?_
             refine zp HT_ 16 30 ?_
             refine zu HT_ 17 31 ?_
             refine zu HT_ 18 32 ?_
             refine zu HT_ 19 33 ?_
             refine zu HT_ 20 34 ?_
             refine zu HT_ 21 35 ?_
             refine zu HT_ 22 36 ?_
             refine zu HT_ 23 37 ?_
             refine zu HT_ 24 38 ?_
             refine zu HT_ 25 39 ?_
             refine zu HT_ 26 40 ?_
             refine zu HT_ 27 41 ?_
             refine zu HT_ 28 42 ?_
             refine zp HT_ 29 43 ?_
             refine zo HT_ ?_
             try go_wp2
             go_ret
             exact ⟨by first | rfl | (simp [errW_none, errW_some] <;> rfl) | (simp [*, errW_none, errW_some] <;> rfl), zB⟩
           · rw [if_neg c11] at H
             have c11b0 : decide (((rd_T64 l0 x9_1).f1) ≤ ((rd_T64 l0 x9_1).f0)) = false := decide_eq_false c11
             clear c11
             by_cases c16 : ((rd_T64 l0 x9_1).f1) ≥ a1
             · rw [if_pos c16] at H
               have c16b0 : decide (a1 ≤ ((rd_T64 l0 x9_1).f1)) = true := decide_eq_true c16
               clear c16
               obtain rfl := Option.some.inj H
               have p273 : 0 ≤ (x9_1 : Int) := of_decide_eq_true zA
               have q273 : x9_1 < (l0.length : Int) := of_decide_eq_true zA
               obtain ⟨ad273, e273, hx273_0, hx273_1⟩ := at_T64 HR0.out x9_1 p273 q273
               cases e273
               (try replace hx273_0 := (HB.out.cell (World.block_lt_of_cell? w _ hx273_0)).trans hx273_0)
               (try replace hx273_1 := (HB.out.cell (World.block_lt_of_cell? w _ hx273_1)).trans hx273_1)
               replace p273 := eq_true p273
               replace q273 := eq_true q273
               try go_wp2_with (first | ((with_reducible refine gate_dst (N := 6) rfl ?_); refine zb (w := w) 6 #[.int .i64 0, .int .i64 0] 64 zB ?_; clear HB; intro gb274 w17 HB BK274 GW274; have GE274 := GW274; have hcz18_0 := zy BK274 0; have hcz18_1 := zy BK274 1; have hfz18_0 := blk_frozen BK274.out 0; have hfz18_1 := blk_frozen BK274.out 1))
               have n0_ : Aside0 (((w17.setCell ⟨gb274, 0, none⟩ (.int .i64 ((rd_T64 l0 x9_1).f0))).setCell ⟨gb274, 1, none⟩ (.int .i64 ((rd_T64 l0 x9_1).f1))).heap[gb274]? = some (.cells #[.int .i64 ((rd_T64 l0 x9_1).f0), .int .i64 ((rd_T64 l0 x9_1).f1)] 64 (0, 0))) := ⟨by (with_reducible repeat (first | refine blk_drewN ?_ _ | refine blk_drew ?_ | refine blk_alloc ?_ _)); refine blk_put (cs := #[.int .i64 ((rd_T64 l0 x9_1).f0), .int .i64 0]) ?_ 1 _ rfl; (with_reducible repeat (first | refine blk_drewN ?_ _ | refine blk_drew ?_ | refine blk_alloc ?_ _)); refine blk_put (cs := #[.int .i64 0, .int .i64 0]) ?_ 0 _ rfl; (with_reducible repeat (first | refine blk_drewN ?_ _ | refine blk_drew ?_ | refine blk_alloc ?_ _)); exact BK274.out⟩
               have n1_ : Aside0 (Below w.heap.size w ((w17.setCell ⟨gb274, 0, none⟩ (.int .i64 ((rd_T64 l0 x9_1).f0))).setCell ⟨gb274, 1, none⟩ (.int .i64 ((rd_T64 l0 x9_1).f1)))) := ⟨zB⟩
               (try clear BK274)
               (try clear HB)
               generalize ((w17.setCell ⟨gb274, 0, none⟩ (.int .i64 ((rd_T64 l0 x9_1).f0))).setCell ⟨gb274, 1, none⟩ (.int .i64 ((rd_T64 l0 x9_1).f1))) = w19 at n0_ n1_ ⊢
               have BK274 := n0_
               have HB := n1_
               clear n0_ n1_
               replace BK274 := zM (blk_drew BK274.out)
               replace HB := zM (below_drew1 HB.out)
               refine zs (n := 30) (fun w' => w'.cell? ⟨gb274, 0, none⟩ = some (.int .i64 ((rd_T64 l0 x9_1).f0)) ∧ w'.cell? ⟨gb274, 1, none⟩ = some (.int .i64 ((rd_T64 l0 x9_1).f1))) ⟨(blk_cell BK274.out 0).trans rfl, (blk_cell BK274.out 1).trans rfl⟩ (fun hHeld => ?_); refine with_tabW impl_isPairs.tab4 impl_isPairs.bits4 (fun HT_ HW_ => ?_)
               generalize w19.drew = w20 at BK274 HB hHeld ⊢
               refine zp HT_ 0 14 ?_
               refine zt HT_ HW_ 1 15 hHeld ?_ (hy := by rintro w' ⟨s0, s1⟩; go_simp; with_reducible rfl)
               refine zp HT_ 2 16 ?_
               refine zp HT_ 3 17 ?_
               refine zp HT_ 4 18 ?_
               refine zp HT_ 6 20 ?_
               refine zt HT_ HW_ 5 19 hHeld ?_ (hy := by rintro w' ⟨s0, s1⟩; go_simp; with_reducible rfl)
               refine zt HT_ HW_ 7 21 hHeld ?_ (hy := by rintro w' ⟨s0, s1⟩; go_simp; with_reducible rfl)
               refine zp HT_ 8 22 ?_
               refine zp HT_ 9 23 ?_
               refine zp HT_ 10 24 ?_
               refine zp HT_ 11 25 ?_
               refine zp HT_ 13 27 ?_
               refine zt HT_ HW_ 12 26 hHeld ?_ (hy := by rintro w' ⟨s0, s1⟩; go_simp; with_reducible rfl)
               refine zp HT_ 14 28 ?_
               refine zp HT_ 15 29 ?_
               refine zp HT_ 16 30 ?_
               refine zu HT_ 17 31 ?_
               refine zu HT_ 18 32 ?_
               refine zu HT_ 19 33 ?_
               refine zu HT_ 20 34 ?_
               refine zu HT_ 21 35 ?_
               refine zu HT_ 22 36 ?_
               refine zu HT_ 23 37 ?_
               refine zu HT_ 24 38 ?_
               refine zu HT_ 25 39 ?_
               refine zu HT_ 26 40 ?_
               refine zu HT_ 27 41 ?_
               refine zu HT_ 28 42 ?_
               refine zp HT_ 29 43 ?_
               refine zo HT_ ?_
               try go_wp2
               go_ret
               exact ⟨by first | rfl | (simp [errW_none, errW_some] <;> rfl) | (simp [*, errW_none, errW_some] <;> rfl), zB⟩
             · rw [if_neg c16] at H
               have c16b0 : decide (a1 ≤ ((rd_T64 l0 x9_1).f1)) = false := decide_eq_false c16
               clear c16
               by_cases c21 : x9_1 > 0
               · rw [if_pos c21] at H
                 have c21b0 : decide (0 < x9_1) = true := decide_eq_true c21
                 clear c21
                 obtain ⟨ji22, hji22⟩ : ∃ j_ : Int, (wrap64 (x9_1 - 1)) = j_ := ⟨_, rfl⟩
                 replace H : (if 0 ≤ (ji22) then (if (ji22) < (l0.length : Int) then ((impl_comparePairs.f k1 ((rd_T64 l0 (ji22)).f0) ((rd_T64 l0 (ji22)).f1) ((rd_T64 l0 x9_1).f0) ((rd_T64 l0 x9_1).f1)).bind fun t276 => (if t276 ≥ 0 then (some false) else (impl_isPairs.l0 k1 l0 a1 l0 (l0.length : Int) (wrap64 (x9_1 + 1))))) else (none)) else (none)) = some r := by first | (rw [hji22] at H; exact H) | (simp only [hji22] at H ⊢; exact H)
                 have hji22w : (IntKind.i64.wrap (x9_1 - 1)) = ji22 := (i64_w _).trans hji22
                 by_cases c23 : 0 ≤ (ji22)
                 · rw [if_pos c23] at H
                   have c23b0 := decide_eq_true c23
                   clear c23
                   by_cases c24 : (ji22) < (l0.length : Int)
                   · rw [if_pos c24] at H
                     have c24b0 := decide_eq_true c24
                     clear c24
                     replace H := Option.bind_eq_some_iff.mp H
                     obtain ⟨t276, A250, H⟩ := H
                     have A25 := Aside0.mk A250
                     clear A250
                     by_cases c26 : t276 ≥ 0
                     · rw [if_pos c26] at H
                       have c26b0 : decide (0 ≤ t276) = true := decide_eq_true c26
                       clear c26
                       obtain rfl := Option.some.inj H
                       have p273 : 0 ≤ (x9_1 : Int) := of_decide_eq_true zA
                       have q273 : x9_1 < (l0.length : Int) := of_decide_eq_true zA
                       obtain ⟨ad273, e273, hx273_0, hx273_1⟩ := at_T64 HR0.out x9_1 p273 q273
                       cases e273
                       (try replace hx273_0 := (HB.out.cell (World.block_lt_of_cell? w _ hx273_0)).trans hx273_0)
                       (try replace hx273_1 := (HB.out.cell (World.block_lt_of_cell? w _ hx273_1)).trans hx273_1)
                       replace p273 := eq_true p273
                       replace q273 := eq_true q273
                       try go_wp2_with (first | ((with_reducible refine gate_dst (N := 6) rfl ?_); refine zb (w := w) 6 #[.int .i64 0, .int .i64 0] 64 zB ?_; clear HB; intro gb274 w27 HB BK274 GW274; have GE274 := GW274; have hcz28_0 := zy BK274 0; have hcz28_1 := zy BK274 1; have hfz28_0 := blk_frozen BK274.out 0; have hfz28_1 := blk_frozen BK274.out 1))
                       have n0_ : Aside0 (((w27.setCell ⟨gb274, 0, none⟩ (.int .i64 ((rd_T64 l0 x9_1).f0))).setCell ⟨gb274, 1, none⟩ (.int .i64 ((rd_T64 l0 x9_1).f1))).heap[gb274]? = some (.cells #[.int .i64 ((rd_T64 l0 x9_1).f0), .int .i64 ((rd_T64 l0 x9_1).f1)] 64 (0, 0))) := ⟨by (with_reducible repeat (first | refine blk_drewN ?_ _ | refine blk_drew ?_ | refine blk_alloc ?_ _)); refine blk_put (cs := #[.int .i64 ((rd_T64 l0 x9_1).f0), .int .i64 0]) ?_ 1 _ rfl; (with_reducible repeat (first | refine blk_drewN ?_ _ | refine blk_drew ?_ | refine blk_alloc ?_ _)); refine blk_put (cs := #[.int .i64 0, .int .i64 0]) ?_ 0 _ rfl; (with_reducible repeat (first | refine blk_drewN ?_ _ | refine blk_drew ?_ | refine blk_alloc ?_ _)); exact BK274.out⟩
                       have n1_ : Aside0 (Below w.heap.size w ((w27.setCell ⟨gb274, 0, none⟩ (.int .i64 ((rd_T64 l0 x9_1).f0))).setCell ⟨gb274, 1, none⟩ (.int .i64 ((rd_T64 l0 x9_1).f1)))) := ⟨zB⟩
                       (try clear BK274)
                       (try clear HB)
                       generalize ((w27.setCell ⟨gb274, 0, none⟩ (.int .i64 ((rd_T64 l0 x9_1).f0))).setCell ⟨gb274, 1, none⟩ (.int .i64 ((rd_T64 l0 x9_1).f1))) = w29 at n0_ n1_ ⊢
                       have BK274 := n0_
                       have HB := n1_
                       clear n0_ n1_
                       replace BK274 := zM (blk_drew BK274.out)
                       replace HB := zM (below_drew1 HB.out)
                       have p275 : 0 ≤ ((ji22) : Int) := of_decide_eq_true zA
                       have q275 : (ji22) < (l0.length : Int) := of_decide_eq_true zA
                       obtain ⟨ad275, e275, hx275_0, hx275_1⟩ := at_T64 HR0.out (ji22) p275 q275
                       have hw275_1 := hx275_1
                       have hw275_0 := hx275_0
                       obtain rfl : ad273 = ad275 := (by injection e275)
                       (try replace hx275_0 := (HB.out.cell (World.block_lt_of_cell? w _ hx275_0)).trans hx275_0)
                       (try replace hx275_1 := (HB.out.cell (World.block_lt_of_cell? w _ hx275_1)).trans hx275_1)
                       replace p275 := eq_true p275
                       replace q275 := eq_true q275
                       refine zs (n := 30) (fun w' => w'.cell? ⟨gb274, 0, none⟩ = some (.int .i64 ((rd_T64 l0 x9_1).f0)) ∧ w'.cell? ⟨gb274, 1, none⟩ = some (.int .i64 ((rd_T64 l0 x9_1).f1)) ∧ w'.cell? (ad273.add (((ji22)).toNat * 2)) = some (.int .i64 ((rd_T64 l0 (ji22)).f0)) ∧ w'.cell? ⟨(ad273.add (((ji22)).toNat * 2)).block, (ad273.add (((ji22)).toNat * 2)).off + 1, none⟩ = some (.int .i64 ((rd_T64 l0 (ji22)).f1))) ⟨(blk_cell BK274.out 0).trans rfl, (blk_cell BK274.out 1).trans rfl, ((HB.out.cell (World.block_lt_of_cell? w _ hw275_0)).trans hw275_0), ((HB.out.cell (World.block_lt_of_cell? w _ hw275_1)).trans hw275_1)⟩ (fun hHeld => ?_); refine with_tabW impl_isPairs.tab4 impl_isPairs.bits4 (fun HT_ HW_ => ?_)
                       generalize w29.drew = w30 at BK274 HB hx275_0 hx275_1 hHeld ⊢
                       refine zp HT_ 0 14 ?_
                       refine zt HT_ HW_ 1 15 hHeld ?_ (hy := by rintro w' ⟨s0, s1, s2, s3⟩; go_simp; with_reducible rfl)
                       refine zp HT_ 2 16 ?_
                       refine zp HT_ 3 17 ?_
                       refine zp HT_ 4 18 ?_
                       refine zp HT_ 6 20 ?_
                       refine zt HT_ HW_ 5 19 hHeld ?_ (hy := by rintro w' ⟨s0, s1, s2, s3⟩; go_simp; with_reducible rfl)
                       refine zt HT_ HW_ 7 21 hHeld ?_ (hy := by rintro w' ⟨s0, s1, s2, s3⟩; go_simp; with_reducible rfl)
                       refine zp HT_ 8 22 ?_
                       refine zp HT_ 9 23 ?_
                       refine zp HT_ 10 24 ?_
                       refine zp HT_ 11 25 ?_
                       refine zp HT_ 13 27 ?_
                       refine zt HT_ HW_ 12 26 hHeld ?_ (hy := by rintro w' ⟨s0, s1, s2, s3⟩; go_simp; with_reducible rfl)
                       refine zp HT_ 14 28 ?_
                       refine zp HT_ 15 29 ?_
                       refine zp HT_ 16 30 ?_
                       refine zp HT_ 17 31 ?_
                       refine zp HT_ 18 32 ?_
                       refine zp HT_ 19 33 ?_
                       refine zp HT_ 20 34 ?_
                       refine zp HT_ 21 35 ?_
                       refine zp HT_ 22 36 ?_
                       refine zp HT_ 23 37 ?_
                       refine zt HT_ HW_ 24 38 hHeld ?_ (hy := by rintro w' ⟨s0, s1, s2, s3⟩; go_simp; with_reducible rfl)
                       refine zt HT_ HW_ 25 39 hHeld ?_ (hy := by rintro w' ⟨s0, s1, s2, s3⟩; go_simp; with_reducible rfl)
                       refine one_ (i := 26) (N := some 40) #[true, true, true, true, true, true, true, true, true, true, true, true, true, true, true, true, true, true, true, true, true, true, true, true, true, true, true, false, false, false] rfl rfl (one_of HT_.out (by kernel_rfl)) (by decide) (fun K hK => ?_)
                       refine goes_ Try.func97 (by kernel_rfl) rfl #[.agg #[.int .i64 ((rd_T64 l0 (ji22)).f0), .int .i64 ((rd_T64 l0 (ji22)).f1)], .agg #[.int .i64 ((rd_T64 l0 x9_1).f0), .int .i64 ((rd_T64 l0 x9_1).f1)]] (by rfl) rfl rfl (by (try simp only [List.map_toArray, List.map_cons, List.map_nil]); first | done | (simp only [hji22]; rfl) | rfl | (simp only [List.length_drop, List.length_take]; rfl)) ?_
                       with_reducible refine (impl_comparePairs.calls k1 ((rd_T64 l0 (ji22)).f0) ((rd_T64 l0 (ji22)).f1) ((rd_T64 l0 x9_1).f0) ((rd_T64 l0 x9_1).f1) t276 _ A25.out).mono ?_
                       rintro e w31 ⟨rfl, hb⟩
                       refine ⟨_, rfl, ?_⟩
                       replace BK274 := zM (blk_below (g := gb274) (o := .cells #[.int .i64 ((rd_T64 l0 x9_1).f0), .int .i64 ((rd_T64 l0 x9_1).f1)] 64 (0, 0)) (zK BK274.out) hb)
                       replace HB := zM (below_step zB hb)
                       (try clear hb)
                       (try clear hb2)
                       (try clear hk)
                       (try clear hi)
                       refine hK.out _ _ ⟨(blk_cell BK274.out 0).trans rfl, (blk_cell BK274.out 1).trans rfl, ((HB.out.cell (World.block_lt_of_cell? w _ hw275_0)).trans hw275_0), ((HB.out.cell (World.block_lt_of_cell? w _ hw275_1)).trans hw275_1)⟩ (fun hHeld => ?_)
                       clear hK K
                       refine zn 40 ?_
                       refine zp HT_ 27 41 ?_
                       refine zp HT_ 28 42 ?_
                       refine zp HT_ 29 43 ?_
                       refine zo HT_ ?_
                       try go_wp2
                       go_ret
                       exact ⟨by first | rfl | (simp [errW_none, errW_some] <;> rfl) | (simp only [← hji22]; first | rfl | (simp [errW_none, errW_some] <;> rfl)) | (simp [*, errW_none, errW_some] <;> rfl), zB⟩
                     · rw [if_neg c26] at H
                       have c26b0 : decide (0 ≤ t276) = false := decide_eq_false c26
                       clear c26
                       have H' := Aside0.mk H
                       clear H
                       have p273 : 0 ≤ (x9_1 : Int) := of_decide_eq_true zA
                       have q273 : x9_1 < (l0.length : Int) := of_decide_eq_true zA
                       obtain ⟨ad273, e273, hx273_0, hx273_1⟩ := at_T64 HR0.out x9_1 p273 q273
                       cases e273
                       (try replace hx273_0 := (HB.out.cell (World.block_lt_of_cell? w _ hx273_0)).trans hx273_0)
                       (try replace hx273_1 := (HB.out.cell (World.block_lt_of_cell? w _ hx273_1)).trans hx273_1)
                       replace p273 := eq_true p273
                       replace q273 := eq_true q273
                       try go_wp2_with (first | ((with_reducible refine gate_dst (N := 6) rfl ?_); refine zb (w := w) 6 #[.int .i64 0, .int .i64 0] 64 zB ?_; clear HB; intro gb274 w32 HB BK274 GW274; have GE274 := GW274; have hcz33_0 := zy BK274 0; have hcz33_1 := zy BK274 1; have hfz33_0 := blk_frozen BK274.out 0; have hfz33_1 := blk_frozen BK274.out 1))
                       have n0_ : Aside0 (((w32.setCell ⟨gb274, 0, none⟩ (.int .i64 ((rd_T64 l0 x9_1).f0))).setCell ⟨gb274, 1, none⟩ (.int .i64 ((rd_T64 l0 x9_1).f1))).heap[gb274]? = some (.cells #[.int .i64 ((rd_T64 l0 x9_1).f0), .int .i64 ((rd_T64 l0 x9_1).f1)] 64 (0, 0))) := ⟨by (with_reducible repeat (first | refine blk_drewN ?_ _ | refine blk_drew ?_ | refine blk_alloc ?_ _)); refine blk_put (cs := #[.int .i64 ((rd_T64 l0 x9_1).f0), .int .i64 0]) ?_ 1 _ rfl; (with_reducible repeat (first | refine blk_drewN ?_ _ | refine blk_drew ?_ | refine blk_alloc ?_ _)); refine blk_put (cs := #[.int .i64 0, .int .i64 0]) ?_ 0 _ rfl; (with_reducible repeat (first | refine blk_drewN ?_ _ | refine blk_drew ?_ | refine blk_alloc ?_ _)); exact BK274.out⟩
                       have n1_ : Aside0 (Below w.heap.size w ((w32.setCell ⟨gb274, 0, none⟩ (.int .i64 ((rd_T64 l0 x9_1).f0))).setCell ⟨gb274, 1, none⟩ (.int .i64 ((rd_T64 l0 x9_1).f1)))) := ⟨zB⟩
                       (try clear BK274)
                       (try clear HB)
                       generalize ((w32.setCell ⟨gb274, 0, none⟩ (.int .i64 ((rd_T64 l0 x9_1).f0))).setCell ⟨gb274, 1, none⟩ (.int .i64 ((rd_T64 l0 x9_1).f1))) = w34 at n0_ n1_ ⊢
                       have BK274 := n0_
                       have HB := n1_
                       clear n0_ n1_
                       replace BK274 := zM (blk_drew BK274.out)
                       replace HB := zM (below_drew1 HB.out)
                       have p275 : 0 ≤ ((ji22) : Int) := of_decide_eq_true zA
                       have q275 : (ji22) < (l0.length : Int) := of_decide_eq_true zA
                       obtain ⟨ad275, e275, hx275_0, hx275_1⟩ := at_T64 HR0.out (ji22) p275 q275
                       have hw275_1 := hx275_1
                       have hw275_0 := hx275_0
                       obtain rfl : ad273 = ad275 := (by injection e275)
                       (try replace hx275_0 := (HB.out.cell (World.block_lt_of_cell? w _ hx275_0)).trans hx275_0)
                       (try replace hx275_1 := (HB.out.cell (World.block_lt_of_cell? w _ hx275_1)).trans hx275_1)
                       replace p275 := eq_true p275
                       replace q275 := eq_true q275
                       refine zs (n := 30) (fun w' => w'.cell? ⟨gb274, 0, none⟩ = some (.int .i64 ((rd_T64 l0 x9_1).f0)) ∧ w'.cell? ⟨gb274, 1, none⟩ = some (.int .i64 ((rd_T64 l0 x9_1).f1)) ∧ w'.cell? (ad273.add (((ji22)).toNat * 2)) = some (.int .i64 ((rd_T64 l0 (ji22)).f0)) ∧ w'.cell? ⟨(ad273.add (((ji22)).toNat * 2)).block, (ad273.add (((ji22)).toNat * 2)).off + 1, none⟩ = some (.int .i64 ((rd_T64 l0 (ji22)).f1))) ⟨(blk_cell BK274.out 0).trans rfl, (blk_cell BK274.out 1).trans rfl, ((HB.out.cell (World.block_lt_of_cell? w _ hw275_0)).trans hw275_0), ((HB.out.cell (World.block_lt_of_cell? w _ hw275_1)).trans hw275_1)⟩ (fun hHeld => ?_); refine with_tabW impl_isPairs.tab4 impl_isPairs.bits4 (fun HT_ HW_ => ?_)
                       generalize w34.drew = w35 at BK274 HB hx275_0 hx275_1 hHeld ⊢
                       refine zp HT_ 0 14 ?_
                       refine zt HT_ HW_ 1 15 hHeld ?_ (hy := by rintro w' ⟨s0, s1, s2, s3⟩; go_simp; with_reducible rfl)
                       refine zp HT_ 2 16 ?_
                       refine zp HT_ 3 17 ?_
                       refine zp HT_ 4 18 ?_
                       refine zp HT_ 6 20 ?_
                       refine zt HT_ HW_ 5 19 hHeld ?_ (hy := by rintro w' ⟨s0, s1, s2, s3⟩; go_simp; with_reducible rfl)
                       refine zt HT_ HW_ 7 21 hHeld ?_ (hy := by rintro w' ⟨s0, s1, s2, s3⟩; go_simp; with_reducible rfl)
                       refine zp HT_ 8 22 ?_
                       refine zp HT_ 9 23 ?_
                       refine zp HT_ 10 24 ?_
                       refine zp HT_ 11 25 ?_
                       refine zp HT_ 13 27 ?_
                       refine zt HT_ HW_ 12 26 hHeld ?_ (hy := by rintro w' ⟨s0, s1, s2, s3⟩; go_simp; with_reducible rfl)
                       refine zp HT_ 14 28 ?_
                       refine zp HT_ 15 29 ?_
                       refine zp HT_ 16 30 ?_
                       refine zp HT_ 17 31 ?_
                       refine zp HT_ 18 32 ?_
                       refine zp HT_ 19 33 ?_
                       refine zp HT_ 20 34 ?_
                       refine zp HT_ 21 35 ?_
                       refine zp HT_ 22 36 ?_
                       refine zp HT_ 23 37 ?_
                       refine zt HT_ HW_ 24 38 hHeld ?_ (hy := by rintro w' ⟨s0, s1, s2, s3⟩; go_simp; with_reducible rfl)
                       refine zt HT_ HW_ 25 39 hHeld ?_ (hy := by rintro w' ⟨s0, s1, s2, s3⟩; go_simp; with_reducible rfl)
                       refine one_ (i := 26) (N := some 40) #[true, true, true, true, true, true, true, true, true, true, true, true, true, true, true, true, true, true, true, true, true, true, true, true, true, true, true, false, false, false] rfl rfl (one_of HT_.out (by kernel_rfl)) (by decide) (fun K hK => ?_)
                       refine goes_ Try.func97 (by kernel_rfl) rfl #[.agg #[.int .i64 ((rd_T64 l0 (ji22)).f0), .int .i64 ((rd_T64 l0 (ji22)).f1)], .agg #[.int .i64 ((rd_T64 l0 x9_1).f0), .int .i64 ((rd_T64 l0 x9_1).f1)]] (by rfl) rfl rfl (by (try simp only [List.map_toArray, List.map_cons, List.map_nil]); first | done | (simp only [hji22]; rfl) | rfl | (simp only [List.length_drop, List.length_take]; rfl)) ?_
                       with_reducible refine (impl_comparePairs.calls k1 ((rd_T64 l0 (ji22)).f0) ((rd_T64 l0 (ji22)).f1) ((rd_T64 l0 x9_1).f0) ((rd_T64 l0 x9_1).f1) t276 _ A25.out).mono ?_
                       rintro e w36 ⟨rfl, hb⟩
                       refine ⟨_, rfl, ?_⟩
                       replace BK274 := zM (blk_below (g := gb274) (o := .cells #[.int .i64 ((rd_T64 l0 x9_1).f0), .int .i64 ((rd_T64 l0 x9_1).f1)] 64 (0, 0)) (zK BK274.out) hb)
                       replace HB := zM (below_step zB hb)
                       (try clear hb)
                       (try clear hb2)
                       (try clear hk)
                       (try clear hi)
                       refine hK.out _ _ ⟨(blk_cell BK274.out 0).trans rfl, (blk_cell BK274.out 1).trans rfl, ((HB.out.cell (World.block_lt_of_cell? w _ hw275_0)).trans hw275_0), ((HB.out.cell (World.block_lt_of_cell? w _ hw275_1)).trans hw275_1)⟩ (fun hHeld => ?_)
                       clear hK K
                       refine zn 40 ?_
                       refine zp HT_ 27 41 ?_
                       refine zp HT_ 28 42 ?_
                       refine zp HT_ 29 43 ?_
                       refine zo HT_ ?_
                       try go_wp2
                       go_roundg k1
                       case measure => have := HK1.out; omega
                       case rel => exact ⟨(wrap64 (x9_1 + 1)), (by first | rfl | (simp; done) | (simp [*]; done)), H', ⟨by have := HK1.out; omega⟩, ⟨zB⟩⟩
                   · rw [if_neg c24] at H
                     exact absurd H (by simp)
                 · rw [if_neg c23] at H
                   exact absurd H (by simp)
               · rw [if_neg c21] at H
                 have c21b0 : decide (0 < x9_1) = false := decide_eq_false c21
                 clear c21
                 have H' := Aside0.mk H
                 clear H
                 have p273 : 0 ≤ (x9_1 : Int) := of_decide_eq_true zA
                 have q273 : x9_1 < (l0.length : Int) := of_decide_eq_true zA
                 obtain ⟨ad273, e273, hx273_0, hx273_1⟩ := at_T64 HR0.out x9_1 p273 q273
                 cases e273
                 (try replace hx273_0 := (HB.out.cell (World.block_lt_of_cell? w _ hx273_0)).trans hx273_0)
                 (try replace hx273_1 := (HB.out.cell (World.block_lt_of_cell? w _ hx273_1)).trans hx273_1)
                 replace p273 := eq_true p273
                 replace q273 := eq_true q273
                 try go_wp2_with (first | ((with_reducible refine gate_dst (N := 6) rfl ?_); refine zb (w := w) 6 #[.int .i64 0, .int .i64 0] 64 zB ?_; clear HB; intro gb274 w37 HB BK274 GW274; have GE274 := GW274; have hcz38_0 := zy BK274 0; have hcz38_1 := zy BK274 1; have hfz38_0 := blk_frozen BK274.out 0; have hfz38_1 := blk_frozen BK274.out 1))
                 have n0_ : Aside0 (((w37.setCell ⟨gb274, 0, none⟩ (.int .i64 ((rd_T64 l0 x9_1).f0))).setCell ⟨gb274, 1, none⟩ (.int .i64 ((rd_T64 l0 x9_1).f1))).heap[gb274]? = some (.cells #[.int .i64 ((rd_T64 l0 x9_1).f0), .int .i64 ((rd_T64 l0 x9_1).f1)] 64 (0, 0))) := ⟨by (with_reducible repeat (first | refine blk_drewN ?_ _ | refine blk_drew ?_ | refine blk_alloc ?_ _)); refine blk_put (cs := #[.int .i64 ((rd_T64 l0 x9_1).f0), .int .i64 0]) ?_ 1 _ rfl; (with_reducible repeat (first | refine blk_drewN ?_ _ | refine blk_drew ?_ | refine blk_alloc ?_ _)); refine blk_put (cs := #[.int .i64 0, .int .i64 0]) ?_ 0 _ rfl; (with_reducible repeat (first | refine blk_drewN ?_ _ | refine blk_drew ?_ | refine blk_alloc ?_ _)); exact BK274.out⟩
                 have n1_ : Aside0 (Below w.heap.size w ((w37.setCell ⟨gb274, 0, none⟩ (.int .i64 ((rd_T64 l0 x9_1).f0))).setCell ⟨gb274, 1, none⟩ (.int .i64 ((rd_T64 l0 x9_1).f1)))) := ⟨zB⟩
                 (try clear BK274)
                 (try clear HB)
                 generalize ((w37.setCell ⟨gb274, 0, none⟩ (.int .i64 ((rd_T64 l0 x9_1).f0))).setCell ⟨gb274, 1, none⟩ (.int .i64 ((rd_T64 l0 x9_1).f1))) = w39 at n0_ n1_ ⊢
                 have BK274 := n0_
                 have HB := n1_
                 clear n0_ n1_
                 replace BK274 := zM (blk_drew BK274.out)
                 replace HB := zM (below_drew1 HB.out)
                 refine zs (n := 30) (fun w' => w'.cell? ⟨gb274, 0, none⟩ = some (.int .i64 ((rd_T64 l0 x9_1).f0)) ∧ w'.cell? ⟨gb274, 1, none⟩ = some (.int .i64 ((rd_T64 l0 x9_1).f1))) ⟨(blk_cell BK274.out 0).trans rfl, (blk_cell BK274.out 1).trans rfl⟩ (fun hHeld => ?_); refine with_tabW impl_isPairs.tab4 impl_isPairs.bits4 (fun HT_ HW_ => ?_)
                 generalize w39.drew = w40 at BK274 HB hHeld ⊢
                 refine zp HT_ 0 14 ?_
                 refine zt HT_ HW_ 1 15 hHeld ?_ (hy := by rintro w' ⟨s0, s1⟩; go_simp; with_reducible rfl)
                 refine zp HT_ 2 16 ?_
                 refine zp HT_ 3 17 ?_
                 refine zp HT_ 4 18 ?_
                 refine zp HT_ 6 20 ?_
                 refine zt HT_ HW_ 5 19 hHeld ?_ (hy := by rintro w' ⟨s0, s1⟩; go_simp; with_reducible rfl)
                 refine zt HT_ HW_ 7 21 hHeld ?_ (hy := by rintro w' ⟨s0, s1⟩; go_simp; with_reducible rfl)
                 refine zp HT_ 8 22 ?_
                 refine zp HT_ 9 23 ?_
                 refine zp HT_ 10 24 ?_
                 refine zp HT_ 11 25 ?_
                 refine zp HT_ 13 27 ?_
                 refine zt HT_ HW_ 12 26 hHeld ?_ (hy := by rintro w' ⟨s0, s1⟩; go_simp; with_reducible rfl)
                 refine zp HT_ 14 28 ?_
                 refine zp HT_ 15 29 ?_
                 refine zp HT_ 16 30 ?_
                 refine zp HT_ 17 31 ?_
                 refine zp HT_ 18 32 ?_
                 refine zp HT_ 19 33 ?_
                 refine zu HT_ 20 34 ?_
                 refine zu HT_ 21 35 ?_
                 refine zu HT_ 22 36 ?_
                 refine zu HT_ 23 37 ?_
                 refine zu HT_ 24 38 ?_
                 refine zu HT_ 25 39 ?_
                 refine zu HT_ 26 40 ?_
                 refine zu HT_ 27 41 ?_
                 refine zp HT_ 28 42 ?_
                 refine zp HT_ 29 43 ?_
                 refine zo HT_ ?_
                 try go_wp2
                 go_roundg k1
                 case measure => have := HK1.out; omega
                 case rel => exact ⟨(wrap64 (x9_1 + 1)), (by first | rfl | (simp; done) | (simp [*]; done)), H', ⟨by have := HK1.out; omega⟩, ⟨zB⟩⟩
       · rw [if_neg c5] at H
         exact absurd H (by simp)
     · rw [if_neg c4] at H
       exact absurd H (by simp)
   · rw [if_neg c3] at H
     have c3b0 : decide (x9_1 < (l0.length : Int)) = false := decide_eq_false c3
     clear c3
     obtain rfl := Option.some.inj H
     go_wp2
     go_ret
     exact ⟨by first | rfl | (simp [errW_none, errW_some] <;> rfl) | (simp [*, errW_none, errW_some] <;> rfl), zB⟩

end Go.Proofs.Ythnojbafclglpaa.P
namespace Go.Proofs.Ythnojbafclglpaa.P
open Go.RowKit Go.Proofs.YthnojbafclglpaaW.PrintWords Go.Proofs.YthnojbafclglpaaW.PrintLast Go.Proofs.YthnojbafclglpaaW.PrintMore
attribute [local go_sem] max2_int min2_int max_two min_two max_three min_three max_four min_four   -- for this text's walks alone
set_option linter.unusedVariables false
set_option linter.unusedSimpArgs false

/-! ### impl_between: function 138 -/
def impl_between.f (a0 : Int) (a1 : Int) (a2 : Int) : Option (Bool) := if a0 ≥ a1 then (some (decide (a0 ≤ a2))) else (some false)
set_option maxHeartbeats 8000000 in
set_option maxRecDepth 100000 in
theorem impl_between.calls (a0 : Int) (a1 : Int) (a2 : Int) (r : Bool) (w : World) (h : impl_between.f a0 a1 a2 = some r) :
 Calls Try.prog 138 #[.int .i64 a0, .int .i64 a1, .int .i64 a2] w fun e w' => e = .returned (.bool r) ∧ Drawn0 w w' := by
 have H : (if a0 ≥ a1 then (some (decide (a0 ≤ a2))) else (some false)) = some r := h
 clear h
 by_cases c4 : a0 ≥ a1
 · rw [if_pos c4] at H
   have c4b0 : decide (a1 ≤ a0) = true := decide_eq_true c4
   clear c4
   obtain rfl := Option.some.inj H
   go_enter Try.func138, Try.ntmps138
   go_wp2
   go_ret
   exact ⟨by first | rfl | (simp; done) | (simp [*]; done), by repeat (first | exact Drawn0.refl _ | apply Drawn0.step)⟩
 · rw [if_neg c4] at H
   have c4b0 : decide (a1 ≤ a0) = false := decide_eq_false c4
   clear c4
   obtain rfl := Option.some.inj H
   go_enter Try.func138, Try.ntmps138
   go_wp2
   go_ret
   exact ⟨by first | rfl | (simp; done) | (simp [*]; done), by repeat (first | exact Drawn0.refl _ | apply Drawn0.step)⟩

end Go.Proofs.Ythnojbafclglpaa.P
namespace Go.Proofs.Ythnojbafclglpaa.P
open Go.RowKit Go.Proofs.YthnojbafclglpaaW.PrintWords Go.Proofs.YthnojbafclglpaaW.PrintLast Go.Proofs.YthnojbafclglpaaW.PrintMore
attribute [local go_sem] max2_int min2_int max_two min_two max_three min_three max_four min_four   -- for this text's walks alone
set_option linter.unusedVariables false
set_option linter.unusedSimpArgs false

/-! ### spec_l2Space: function 66 -/
/-! ### spec_l1Own: function 86 -/
def spec_l1Own.f (l0 : List Int) : Option (List Int) := (some (([] : List Int) : List Int)).bind fun y198 => (if y198.length + l0.length < 17592186044416 then (some (y198 ++ l0)) else (none))
set_option maxHeartbeats 8000000 in
set_option maxRecDepth 100000 in
theorem spec_l1Own.calls (A0 : Option Addr) (c0 : Nat) (l0 : List Int) (r : List Int) (w : World) (hr0 : Kd.C (Kd.int .i64) w A0 l0.length l0) (hc0 : l0.length ≤ c0) (h : spec_l1Own.f l0 = some r) :
 Calls Try.prog 86 #[.slice A0 l0.length c0] w fun e w' => ∃ v0_ : Value, e = .returned (v0_) ∧ Kd.R (Kd.int .i64) 3 w' w.heap.size (fun _ => True) v0_ r ∧ Below w.heap.size w w' := by
 have HR0 := Aside0.mk hr0
 have HC0 := Aside0.mk hc0
 clear hr0 hc0
 have HB := zM (Below.refl w.heap.size w)
 have H : ((some (([] : List Int) : List Int)).bind fun y198 => (if y198.length + l0.length < 17592186044416 then (some (y198 ++ l0)) else (none))) = some r := h
 clear h
 obtain ⟨y198, hy198⟩ : ∃ y_ : List Int, y_ = (([] : List Int)) := ⟨_, rfl⟩
 replace H : (if y198.length + l0.length < 17592186044416 then (some (y198 ++ l0)) else (none)) = some r := by first | (rw [hy198]; with_reducible exact H) | (have H2_ := (Option.bind_some _ _).symm.trans H; rw [hy198]; with_reducible exact H2_) | (have H2_ := (Option.bind_some _ _).symm.trans H; with_reducible exact H2_) | with_reducible exact H | (rw [hy198]; exact H) | exact H
 have Ny198 := Aside0.mk hy198
 clear hy198
 by_cases c2 : y198.length + l0.length < 17592186044416
 · rw [if_pos c2] at H
   have LMc2 := Aside0.mk c2
   clear c2
   obtain ⟨y201, hy201⟩ : ∃ y_ : List Int, y_ = (y198 ++ l0) := ⟨_, rfl⟩
   replace H : (some y201) = some r := by first | (rw [hy201]; with_reducible exact H) | (have H2_ := (Option.bind_some _ _).symm.trans H; rw [hy201]; with_reducible exact H2_) | (have H2_ := (Option.bind_some _ _).symm.trans H; with_reducible exact H2_) | with_reducible exact H | (rw [hy201]; exact H) | exact H
   have Ny201 := Aside0.mk hy201
   clear hy201
   obtain rfl := Option.some.inj H
   go_enter Try.func86, Try.ntmps86
   go_wp2_with (first | ((with_reducible refine gate_dst (N := 3) rfl ?_); refine Kd.R_lit (Kd.int .i64) _ 3 ?hg (N := 3) ?hd (xs := ([] : List Int)) (inner := []) (ok := fun _ => True) (okp := fun _ => True) ?hr ?hp (fun _ hk => hk) trivial (Below.refl _ _) (Nat.le_refl _) (by simp) ?_; (case hd => rfl); (case hg => rfl); (case hr => first | (go_simp; done) | (go_simp; rfl)); (case hp => exact (Reps.none _ _)); intro v199 w3 ho4 hb hg_ hnew_; clear hg_ hnew_; (first | rw [← Ny198.out] at ho4 | (simp only [Int.reduceToNat] at ho4; rw [← Ny198.out] at ho4)); have HO200 := zM (Kd.R_lower ho4 (below_size zB)); replace HB := zM (below_step zB hb); clear hb ho4) | ((with_reducible refine gate_builtin (b := .append) (xs := #[.tmp 3, .tmp 4]) rfl ?_); at_builtin; refine Kd.R_append_rows (Kd.int .i64) (w0 := w) w.heap.size rfl (.tmp 3) (.tmp 4) 26 3 (.int .i64 0) 8 rfl Try.underlying26 info3 rfl (by decide) (by omega) v199 y198 l0 _ _ _ (fun _ => True) (fun _ => False) rfl rfl ?aO ?aR (fun _ _ h => h) (fun _ h => h.elim) ?aF ?aB ?aS ?aL ?_; (case aR => exact zC (Kd.C_below HR0.out HB.out)); (case aB => exact zB); (case aF => exact (fun _ _ => trivial)); (case aO => exact (zR HO200.out)); (case aS => exact (below_size zB)); (case aL => have := LMc2.out; omega); intro v202 w5 ho hb hg hat; rw [← Ny201.out] at ho; replace HB := zM (hb); have HO203 := zM (ho); clear HO200; clear ho hb hg hat))
   go_ret
   exact ⟨_, by first | rfl | (simp [errW_none, errW_some] <;> rfl) | (simp [*, errW_none, errW_some] <;> rfl), by (with_reducible repeat (first | apply Kd.R_alloc | apply Kd.R_drewN | apply Kd.R_drew)); exact HO203.out, zB⟩
 · rw [if_neg c2] at H
   exact absurd H (by simp)

end Go.Proofs.Ythnojbafclglpaa.P
