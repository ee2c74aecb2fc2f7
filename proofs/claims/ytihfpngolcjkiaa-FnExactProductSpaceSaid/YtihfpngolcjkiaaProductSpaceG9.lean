-- Written by a program of this session (the kit's print, turned: wip/print/patch.py) out of the translation. Not trusted: Lean checks it.
import Derived.Test.YtihfpngolcjkiaaProductSpaceG5
import Derived.Test.YtihfpngolcjkiaaProductSpaceG8
namespace Go.Proofs.Ytihfpngolcjkiaa.P
open Go.RowKit Go.Proofs.YtihfpngolcjkiaaW.PrintWords Go.Proofs.YtihfpngolcjkiaaW.PrintLast Go.Proofs.YtihfpngolcjkiaaW.PrintMore
attribute [local go_sem] max2_int min2_int max_two min_two max_three min_three max_four min_four   -- for this text's walks alone
set_option linter.unusedVariables false
set_option linter.unusedSimpArgs false

/-! ### spec_l2Pairs: function 49 -/
def spec_l2Pairs.l0 : Nat → List (S41) → Int → Int → Option (Bool)
 | 0, _, _, _ => none
 | k + 1, x0, x1, x5 => if x5 < (x0.length : Int) then (if 0 ≤ x5 then ((spec_l1In.f ((rd_T41 x0 x5).f0) 0 (wrap64 (x1 - 1))).bind fun t188 => (if t188 = true then ((spec_l1In.f ((rd_T41 x0 x5).f1) 0 (wrap64 (x1 - 1))).bind fun t189 => (if t189 = true then (if ((rd_T41 x0 x5).f0) ≥ ((rd_T41 x0 x5).f1) then (some false) else (if x5 > 0 then (if 0 ≤ (wrap64 (x5 - 1)) then (if (wrap64 (x5 - 1)) < (x0.length : Int) then ((spec_l2Edge.f ((rd_T41 x0 (wrap64 (x5 - 1))).f0) ((rd_T41 x0 (wrap64 (x5 - 1))).f1) ((rd_T41 x0 x5).f0) ((rd_T41 x0 x5).f1)).bind fun t191 => (if t191 = true then (spec_l2Pairs.l0 k x0 x1 (wrap64 (x5 + 1))) else (some false))) else (none)) else (none)) else (spec_l2Pairs.l0 k x0 x1 (wrap64 (x5 + 1))))) else (some false))) else (some false))) else (none)) else (some true)
def spec_l2Pairs.f (k : Nat) (l0 : List (S41)) (a1 : Int) : Option (Bool) := spec_l2Pairs.l0 k l0 a1 0
def spec_l2Pairs.T5 : Bool × List (List Nat × List Nat) := (true, [([], []), ([0], [0]), ([], []), ([2], [2]), ([1, 3], [1, 3]), ([4], [4]), ([5, 4], [5]), ([6], [6]), ([7, 6], [6, 7]), ([6], [6]), ([9, 6], [6, 9]), ([8, 10, 6, 6], [6, 8, 10]), ([11, 6], [6, 11]), ([6, 12], [6, 12]), ([13, 11], [13]), ([14], [14]), ([15, 14], [14, 15]), ([14], [14]), ([17, 14], [14, 17]), ([16, 18, 14], [14, 16, 18]), ([14, 19], [14, 19]), ([20, 14], [20]), ([21], [21]), ([22, 21], [21, 22]), ([23, 21, 21], [21, 23]), ([24], [24]), ([24], [24]), ([26, 24], [24, 26]), ([25, 27, 24], [24, 25, 27]), ([28, 24], [24, 28]), ([24], [24]), ([29, 30, 24, 24], [24, 29, 30]), ([31, 24], [24, 31]), ([24, 32, 21], [21, 24, 32]), ([21, 33], [21, 33])])
def spec_l2Pairs.B5 : List Nat := [0, 1, 0, 4, 15, 31, 63, 127, 255, 127, 639, 2047, 4095, 8191, 16383, 32767, 65535, 32767, 163839, 524287, 1048575, 2097151, 4194303, 8388607, 16777215, 33554431, 33554431, 100663295, 268435455, 536870911, 33554431, 2147483647, 4294967295, 8589934591, 17179869183]
theorem spec_l2Pairs.tab5 : rtab .any (opsOf Try.f49 5) = spec_l2Pairs.T5 := by kernel_rfl
theorem spec_l2Pairs.bits5 : waitsOk spec_l2Pairs.T5.2 spec_l2Pairs.B5 = true := by kernel_rfl
set_option maxHeartbeats 8000000 in
set_option maxRecDepth 100000 in
theorem spec_l2Pairs.calls (k : Nat) (A0 : Option Addr) (c0 : Nat) (l0 : List (S41)) (a1 : Int) (r : Bool) (w : World) (hr0 : Kd.C k41 w A0 l0.length l0) (hc0 : l0.length ≤ c0) (h : spec_l2Pairs.f k l0 a1 = some r) :
 Calls Try.prog 49 #[.slice A0 l0.length c0, .int .i64 a1] w fun e w' => e = .returned (.bool r) ∧ Below w.heap.size w w' := by
 have hu41 := Try.underlying41
 have HR0 := Aside0.mk hr0
 have HC0 := Aside0.mk hc0
 clear hr0 hc0
 have HB := zM (Below.refl w.heap.size w)
 have H : (spec_l2Pairs.l0 k l0 a1 0) = some r := h
 clear h
 have H' := Aside0.mk H
 clear H
 go_enter Try.func49, Try.ntmps49
 go_wp2
 go_loopg [5] k (fun kq v5 w' => ∃ (x5_1 : Int), v5 = .int .i64 x5_1 ∧ Aside0 (spec_l2Pairs.l0 kq l0 a1 x5_1 = some r) ∧ Aside0 (kq ≤ k) ∧ Aside0 (Below w.heap.size w w'))
 case atStart => exact ⟨(0), (by first | rfl | (simp; done) | (simp [*]; done)), H', ⟨Nat.le_refl _⟩, ⟨zB⟩⟩
 case round =>
  clear H'
  try clear p2
  obtain ⟨x5_1, rfl, HA, HK1, HB⟩ := hrel
  cases gk with
  | zero => exact absurd HA.out (by simp [spec_l2Pairs.l0])
  | succ k1 =>
   have H := HA.out
   clear HA
   simp only [spec_l2Pairs.l0] at H
   by_cases c3 : x5_1 < (l0.length : Int)
   · rw [if_pos c3] at H
     have c3b0 := decide_eq_true c3
     clear c3
     by_cases c4 : 0 ≤ x5_1
     · rw [if_pos c4] at H
       have c4b0 := decide_eq_true c4
       clear c4
       replace H := Option.bind_eq_some_iff.mp H
       obtain ⟨t188, A50, H⟩ := H
       have A5 := Aside0.mk A50
       clear A50
       by_cases c6 : t188 = true
       · subst c6
         rw [if_pos rfl] at H
         replace H := Option.bind_eq_some_iff.mp H
         obtain ⟨t189, A70, H⟩ := H
         have A7 := Aside0.mk A70
         clear A70
         by_cases c8 : t189 = true
         · subst c8
           rw [if_pos rfl] at H
           by_cases c9 : ((rd_T41 l0 x5_1).f0) ≥ ((rd_T41 l0 x5_1).f1)
           · rw [if_pos c9] at H
             have c9b0 : decide (((rd_T41 l0 x5_1).f1) ≤ ((rd_T41 l0 x5_1).f0)) = true := decide_eq_true c9
             clear c9
             obtain rfl := Option.some.inj H
             have p186 : 0 ≤ (x5_1 : Int) := of_decide_eq_true zA
             have q186 : x5_1 < (l0.length : Int) := of_decide_eq_true zA
             obtain ⟨ad186, e186, hx186_0, hx186_1⟩ := at_T41 HR0.out x5_1 p186 q186
             cases e186
             (try replace hx186_0 := (HB.out.cell (World.block_lt_of_cell? w _ hx186_0)).trans hx186_0)
             (try replace hx186_1 := (HB.out.cell (World.block_lt_of_cell? w _ hx186_1)).trans hx186_1)
             replace p186 := eq_true p186
             replace q186 := eq_true q186
             try go_wp2_with (first | ((with_reducible refine gate_dst (N := 6) rfl ?_); refine zb (w := w) 6 #[.int .i64 0, .int .i64 0] 41 zB ?_; clear HB; intro gb187 w10 HB BK187 GW187; have GE187 := GW187; have hcz11_0 := zy BK187 0; have hcz11_1 := zy BK187 1; have hfz11_0 := blk_frozen BK187.out 0; have hfz11_1 := blk_frozen BK187.out 1))
             have n0_ : Aside0 (((w10.setCell ⟨gb187, 0, none⟩ (.int .i64 ((rd_T41 l0 x5_1).f0))).setCell ⟨gb187, 1, none⟩ (.int .i64 ((rd_T41 l0 x5_1).f1))).heap[gb187]? = some (.cells #[.int .i64 ((rd_T41 l0 x5_1).f0), .int .i64 ((rd_T41 l0 x5_1).f1)] 41 (0, 0))) := ⟨by (with_reducible repeat (first | refine blk_drewN ?_ _ | refine blk_drew ?_ | refine blk_alloc ?_ _)); refine blk_put (cs := #[.int .i64 ((rd_T41 l0 x5_1).f0), .int .i64 0]) ?_ 1 _ rfl; (with_reducible repeat (first | refine blk_drewN ?_ _ | refine blk_drew ?_ | refine blk_alloc ?_ _)); refine blk_put (cs := #[.int .i64 0, .int .i64 0]) ?_ 0 _ rfl; (with_reducible repeat (first | refine blk_drewN ?_ _ | refine blk_drew ?_ | refine blk_alloc ?_ _)); exact BK187.out⟩
             have n1_ : Aside0 (Below w.heap.size w ((w10.setCell ⟨gb187, 0, none⟩ (.int .i64 ((rd_T41 l0 x5_1).f0))).setCell ⟨gb187, 1, none⟩ (.int .i64 ((rd_T41 l0 x5_1).f1)))) := ⟨zB⟩
             (try clear BK187)
             (try clear HB)
             generalize ((w10.setCell ⟨gb187, 0, none⟩ (.int .i64 ((rd_T41 l0 x5_1).f0))).setCell ⟨gb187, 1, none⟩ (.int .i64 ((rd_T41 l0 x5_1).f1))) = w12 at n0_ n1_ ⊢
             have BK187 := n0_
             have HB := n1_
             clear n0_ n1_
             replace BK187 := zM (blk_drew BK187.out)
             replace HB := zM (below_drew1 HB.out)
             refine zs (n := 35) (fun w' => w'.cell? ⟨gb187, 0, none⟩ = some (.int .i64 ((rd_T41 l0 x5_1).f0)) ∧ w'.cell? ⟨gb187, 1, none⟩ = some (.int .i64 ((rd_T41 l0 x5_1).f1))) ⟨(blk_cell BK187.out 0).trans rfl, (blk_cell BK187.out 1).trans rfl⟩ (fun hHeld => ?_); refine with_tabW spec_l2Pairs.tab5 spec_l2Pairs.bits5 (fun HT_ HW_ => ?_)
             generalize w12.drew = w13 at BK187 HB hHeld ⊢
             refine zp HT_ 0 17 ?_
             refine zp HT_ 2 19 ?_
             refine zp HT_ 3 20 ?_
             refine zt HT_ HW_ 1 18 hHeld ?_ (hy := by rintro w' ⟨s0, s1⟩; go_simp; with_reducible rfl)
             refine zg HT_ 4 21 Try.func70 #[.int .i64 ((rd_T41 l0 x5_1).f0), .int .i64 0, .int .i64 (wrap64 (a1 - 1))] (fun K hK => ?_)
             with_reducible refine (spec_l1In.calls ((rd_T41 l0 x5_1).f0) 0 (wrap64 (a1 - 1)) true _ A5.out).mono ?_
             rintro e w' ⟨rfl, ⟨nd, rfl⟩⟩
             refine ⟨_, rfl, ?_⟩
             refine hK.out _ _ ⟨(blk_cell BK187.out 0).trans rfl, (blk_cell BK187.out 1).trans rfl⟩ (fun hHeld => ?_)
             clear hK K
             refine zn 21 ?_
             refine zp HT_ 5 22 ?_
             refine zp HT_ 6 23 ?_
             refine zp HT_ 7 24 ?_
             refine zp HT_ 9 26 ?_
             refine zp HT_ 10 27 ?_
             refine zt HT_ HW_ 8 25 hHeld ?_ (hy := by rintro w' ⟨s0, s1⟩; go_simp; with_reducible rfl)
             refine zg HT_ 11 28 Try.func70 #[.int .i64 ((rd_T41 l0 x5_1).f1), .int .i64 0, .int .i64 (wrap64 (a1 - 1))] (fun K hK => ?_)
             with_reducible refine (spec_l1In.calls ((rd_T41 l0 x5_1).f1) 0 (wrap64 (a1 - 1)) true _ A7.out).mono ?_
             rintro e w' ⟨rfl, ⟨nd, rfl⟩⟩
             refine ⟨_, rfl, ?_⟩
             refine hK.out _ _ ⟨(blk_cell BK187.out 0).trans rfl, (blk_cell BK187.out 1).trans rfl⟩ (fun hHeld => ?_)
             clear hK K
             refine zn 28 ?_
             refine zp HT_ 12 29 ?_
             refine zp HT_ 13 30 ?_
             refine zp HT_ 14 31 ?_
             refine zp HT_ 15 32 ?_
             refine zp HT_ 17 34 ?_
             refine zt HT_ HW_ 16 33 hHeld ?_ (hy := by rintro w' ⟨s0, s1⟩; go_simp; with_reducible rfl)
             refine zt HT_ HW_ 18 35 hHeld ?_ (hy := by rintro w' ⟨s0, s1⟩; go_simp; with_reducible rfl)
             refine zp HT_ 19 36 ?_
             refine zp HT_ 20 37 ?_
             refine zp HT_ 21 38 ?_
             refine zu HT_ 22 39 ?_
             refine zu HT_ 23 40 ?_
             refine zu HT_ 24 41 ?_
             refine zu HT_ 25 42 ?_
             refine zu HT_ 26 43 ?_
             refine zu HT_ 27 44 ?_
             refine zu HT_ 28 45 ?_
             refine zu HT_ 29 46 ?_
             refine zu HT_ 30 47 ?_
             refine zu HT_ 31 48 ?_
             refine zu HT_ 32 49 ?_
             refine zu HT_ 33 50 ?_
             refine zp HT_ 34 51 ?_
             refine zo HT_ ?_
             try go_wp2
             go_ret
             exact ⟨by first | rfl | (simp [errW_none, errW_some] <;> rfl) | (simp [*, errW_none, errW_some] <;> rfl), zB⟩
           · rw [if_neg c9] at H
             have c9b0 : decide (((rd_T41 l0 x5_1).f1) ≤ ((rd_T41 l0 x5_1).f0)) = false := decide_eq_false c9
             clear c9
             by_cases c14 : x5_1 > 0
             · rw [if_pos c14] at H
               have c14b0 : decide (0 < x5_1) = true := decide_eq_true c14
               clear c14
               obtain ⟨ji15, hji15⟩ : ∃ j_ : Int, (wrap64 (x5_1 - 1)) = j_ := ⟨_, rfl⟩
               replace H : (if 0 ≤ (ji15) then (if (ji15) < (l0.length : Int) then ((spec_l2Edge.f ((rd_T41 l0 (ji15)).f0) ((rd_T41 l0 (ji15)).f1) ((rd_T41 l0 x5_1).f0) ((rd_T41 l0 x5_1).f1)).bind fun t191 => (if t191 = true then (spec_l2Pairs.l0 k1 l0 a1 (wrap64 (x5_1 + 1))) else (some false))) else (none)) else (none)) = some r := by first | (rw [hji15] at H; exact H) | (simp only [hji15] at H ⊢; exact H)
               (try rw [hji15] at A5)
               (try rw [hji15] at A7)
               have hji15w : (IntKind.i64.wrap (x5_1 - 1)) = ji15 := (i64_w _).trans hji15
               by_cases c16 : 0 ≤ (ji15)
               · rw [if_pos c16] at H
                 have c16b0 := decide_eq_true c16
                 clear c16
                 by_cases c17 : (ji15) < (l0.length : Int)
                 · rw [if_pos c17] at H
                   have c17b0 := decide_eq_true c17
                   clear c17
                   replace H := Option.bind_eq_some_iff.mp H
                   obtain ⟨t191, A180, H⟩ := H
                   have A18 := Aside0.mk A180
                   clear A180
                   by_cases c19 : t191 = true
                   · subst c19
                     rw [if_pos rfl] at H
                     have H' := Aside0.mk H
                     clear H
                     have p186 : 0 ≤ (x5_1 : Int) := of_decide_eq_true zA
                     have q186 : x5_1 < (l0.length : Int) := of_decide_eq_true zA
                     obtain ⟨ad186, e186, hx186_0, hx186_1⟩ := at_T41 HR0.out x5_1 p186 q186
                     cases e186
                     (try replace hx186_0 := (HB.out.cell (World.block_lt_of_cell? w _ hx186_0)).trans hx186_0)
                     (try replace hx186_1 := (HB.out.cell (World.block_lt_of_cell? w _ hx186_1)).trans hx186_1)
                     replace p186 := eq_true p186
                     replace q186 := eq_true q186
                     try go_wp2_with (first | ((with_reducible refine gate_dst (N := 6) rfl ?_); refine zb (w := w) 6 #[.int .i64 0, .int .i64 0] 41 zB ?_; clear HB; intro gb187 w20 HB BK187 GW187; have GE187 := GW187; have hcz21_0 := zy BK187 0; have hcz21_1 := zy BK187 1; have hfz21_0 := blk_frozen BK187.out 0; have hfz21_1 := blk_frozen BK187.out 1))
                     have n0_ : Aside0 (((w20.setCell ⟨gb187, 0, none⟩ (.int .i64 ((rd_T41 l0 x5_1).f0))).setCell ⟨gb187, 1, none⟩ (.int .i64 ((rd_T41 l0 x5_1).f1))).heap[gb187]? = some (.cells #[.int .i64 ((rd_T41 l0 x5_1).f0), .int .i64 ((rd_T41 l0 x5_1).f1)] 41 (0, 0))) := ⟨by (with_reducible repeat (first | refine blk_drewN ?_ _ | refine blk_drew ?_ | refine blk_alloc ?_ _)); refine blk_put (cs := #[.int .i64 ((rd_T41 l0 x5_1).f0), .int .i64 0]) ?_ 1 _ rfl; (with_reducible repeat (first | refine blk_drewN ?_ _ | refine blk_drew ?_ | refine blk_alloc ?_ _)); refine blk_put (cs := #[.int .i64 0, .int .i64 0]) ?_ 0 _ rfl; (with_reducible repeat (first | refine blk_drewN ?_ _ | refine blk_drew ?_ | refine blk_alloc ?_ _)); exact BK187.out⟩
                     have n1_ : Aside0 (Below w.heap.size w ((w20.setCell ⟨gb187, 0, none⟩ (.int .i64 ((rd_T41 l0 x5_1).f0))).setCell ⟨gb187, 1, none⟩ (.int .i64 ((rd_T41 l0 x5_1).f1)))) := ⟨zB⟩
                     (try clear BK187)
                     (try clear HB)
                     generalize ((w20.setCell ⟨gb187, 0, none⟩ (.int .i64 ((rd_T41 l0 x5_1).f0))).setCell ⟨gb187, 1, none⟩ (.int .i64 ((rd_T41 l0 x5_1).f1))) = w22 at n0_ n1_ ⊢
                     have BK187 := n0_
                     have HB := n1_
                     clear n0_ n1_
                     replace BK187 := zM (blk_drew BK187.out)
                     replace HB := zM (below_drew1 HB.out)
                     have p190 : 0 ≤ ((ji15) : Int) := of_decide_eq_true zA
                     have q190 : (ji15) < (l0.length : Int) := of_decide_eq_true zA
                     obtain ⟨ad190, e190, hx190_0, hx190_1⟩ := at_T41 HR0.out (ji15) p190 q190
                     have hw190_1 := hx190_1
                     have hw190_0 := hx190_0
                     obtain rfl : ad186 = ad190 := (by injection e190)
                     (try replace hx190_0 := (HB.out.cell (World.block_lt_of_cell? w _ hx190_0)).trans hx190_0)
                     (try replace hx190_1 := (HB.out.cell (World.block_lt_of_cell? w _ hx190_1)).trans hx190_1)
                     replace p190 := eq_true p190
                     replace q190 := eq_true q190
                     refine zs (n := 35) (fun w' => w'.cell? ⟨gb187, 0, none⟩ = some (.int .i64 ((rd_T41 l0 x5_1).f0)) ∧ w'.cell? ⟨gb187, 1, none⟩ = some (.int .i64 ((rd_T41 l0 x5_1).f1)) ∧ w'.cell? (ad186.add (((ji15)).toNat * 2)) = some (.int .i64 ((rd_T41 l0 (ji15)).f0)) ∧ w'.cell? ⟨(ad186.add (((ji15)).toNat * 2)).block, (ad186.add (((ji15)).toNat * 2)).off + 1, none⟩ = some (.int .i64 ((rd_T41 l0 (ji15)).f1))) ⟨(blk_cell BK187.out 0).trans rfl, (blk_cell BK187.out 1).trans rfl, ((HB.out.cell (World.block_lt_of_cell? w _ hw190_0)).trans hw190_0), ((HB.out.cell (World.block_lt_of_cell? w _ hw190_1)).trans hw190_1)⟩ (fun hHeld => ?_); refine with_tabW spec_l2Pairs.tab5 spec_l2Pairs.bits5 (fun HT_ HW_ => ?_)
                     generalize w22.drew = w23 at BK187 HB hx190_0 hx190_1 hHeld ⊢
                     refine zp HT_ 0 17 ?_
                     refine zp HT_ 2 19 ?_
                     refine zp HT_ 3 20 ?_
                     refine zt HT_ HW_ 1 18 hHeld ?_ (hy := by rintro w' ⟨s0, s1, s2, s3⟩; go_simp; with_reducible rfl)
                     refine zg HT_ 4 21 Try.func70 #[.int .i64 ((rd_T41 l0 x5_1).f0), .int .i64 0, .int .i64 (wrap64 (a1 - 1))] (fun K hK => ?_)
                     with_reducible refine (spec_l1In.calls ((rd_T41 l0 x5_1).f0) 0 (wrap64 (a1 - 1)) true _ A5.out).mono ?_
                     rintro e w' ⟨rfl, ⟨nd, rfl⟩⟩
                     refine ⟨_, rfl, ?_⟩
                     refine hK.out _ _ ⟨(blk_cell BK187.out 0).trans rfl, (blk_cell BK187.out 1).trans rfl, ((HB.out.cell (World.block_lt_of_cell? w _ hw190_0)).trans hw190_0), ((HB.out.cell (World.block_lt_of_cell? w _ hw190_1)).trans hw190_1)⟩ (fun hHeld => ?_)
                     clear hK K
                     refine zn 21 ?_
                     refine zp HT_ 5 22 ?_
                     refine zp HT_ 6 23 ?_
                     refine zp HT_ 7 24 ?_
                     refine zp HT_ 9 26 ?_
                     refine zp HT_ 10 27 ?_
                     refine zt HT_ HW_ 8 25 hHeld ?_ (hy := by rintro w' ⟨s0, s1, s2, s3⟩; go_simp; with_reducible rfl)
                     refine zg HT_ 11 28 Try.func70 #[.int .i64 ((rd_T41 l0 x5_1).f1), .int .i64 0, .int .i64 (wrap64 (a1 - 1))] (fun K hK => ?_)
                     with_reducible refine (spec_l1In.calls ((rd_T41 l0 x5_1).f1) 0 (wrap64 (a1 - 1)) true _ A7.out).mono ?_
                     rintro e w' ⟨rfl, ⟨nd, rfl⟩⟩
                     refine ⟨_, rfl, ?_⟩
                     refine hK.out _ _ ⟨(blk_cell BK187.out 0).trans rfl, (blk_cell BK187.out 1).trans rfl, ((HB.out.cell (World.block_lt_of_cell? w _ hw190_0)).trans hw190_0), ((HB.out.cell (World.block_lt_of_cell? w _ hw190_1)).trans hw190_1)⟩ (fun hHeld => ?_)
                     clear hK K
                     refine zn 28 ?_
                     refine zp HT_ 12 29 ?_
                     refine zp HT_ 13 30 ?_
                     refine zp HT_ 14 31 ?_
                     refine zp HT_ 15 32 ?_
                     refine zp HT_ 17 34 ?_
                     refine zt HT_ HW_ 16 33 hHeld ?_ (hy := by rintro w' ⟨s0, s1, s2, s3⟩; go_simp; with_reducible rfl)
                     refine zt HT_ HW_ 18 35 hHeld ?_ (hy := by rintro w' ⟨s0, s1, s2, s3⟩; go_simp; with_reducible rfl)
                     refine zp HT_ 19 36 ?_
                     refine zp HT_ 20 37 ?_
                     refine zp HT_ 21 38 ?_
                     refine zp HT_ 22 39 ?_
                     refine zp HT_ 23 40 ?_
                     refine zp HT_ 24 41 ?_
                     refine zp HT_ 25 42 ?_
                     refine zp HT_ 26 43 ?_
                     refine zp HT_ 27 44 ?_
                     refine zp HT_ 28 45 ?_
                     refine zt HT_ HW_ 29 46 hHeld ?_ (hy := by rintro w' ⟨s0, s1, s2, s3⟩; go_simp; with_reducible rfl)
                     refine zt HT_ HW_ 30 47 hHeld ?_ (hy := by rintro w' ⟨s0, s1, s2, s3⟩; go_simp; with_reducible rfl)
                     refine one_ (i := 31) (N := some 48) #[true, true, true, true, true, true, true, true, true, true, true, true, true, true, true, true, true, true, true, true, true, true, true, true, true, true, true, true, true, true, true, true, false, false, false] rfl rfl (one_of HT_.out (by kernel_rfl)) (by decide) (fun K hK => ?_)
                     refine goes_ Try.func66 (by kernel_rfl) rfl #[.agg #[.int .i64 ((rd_T41 l0 (ji15)).f0), .int .i64 ((rd_T41 l0 (ji15)).f1)], .agg #[.int .i64 ((rd_T41 l0 x5_1).f0), .int .i64 ((rd_T41 l0 x5_1).f1)]] (by rfl) rfl rfl (by (try simp only [List.map_toArray, List.map_cons, List.map_nil]); first | done | (simp only [hji15]; rfl) | rfl | (simp only [List.length_drop, List.length_take]; rfl)) ?_
                     with_reducible refine (spec_l2Edge.calls ((rd_T41 l0 (ji15)).f0) ((rd_T41 l0 (ji15)).f1) ((rd_T41 l0 x5_1).f0) ((rd_T41 l0 x5_1).f1) true _ A18.out).mono ?_
                     rintro e w24 ⟨rfl, hb⟩
                     refine ⟨_, rfl, ?_⟩
                     replace BK187 := zM (blk_below (g := gb187) (o := .cells #[.int .i64 ((rd_T41 l0 x5_1).f0), .int .i64 ((rd_T41 l0 x5_1).f1)] 41 (0, 0)) (zK BK187.out) hb)
                     replace HB := zM (below_step zB hb)
                     (try clear hb)
                     (try clear hb2)
                     (try clear hk)
                     (try clear hi)
                     refine hK.out _ _ ⟨(blk_cell BK187.out 0).trans rfl, (blk_cell BK187.out 1).trans rfl, ((HB.out.cell (World.block_lt_of_cell? w _ hw190_0)).trans hw190_0), ((HB.out.cell (World.block_lt_of_cell? w _ hw190_1)).trans hw190_1)⟩ (fun hHeld => ?_)
                     clear hK K
                     refine zn 48 ?_
                     refine zp HT_ 32 49 ?_
                     refine zp HT_ 33 50 ?_
                     refine zp HT_ 34 51 ?_
                     refine zo HT_ ?_
                     try go_wp2
                     go_roundg k1
                     case measure => have := HK1.out; omega
                     case rel => exact ⟨(wrap64 (x5_1 + 1)), (by first | rfl | (simp; done) | (simp [*]; done)), H', ⟨by have := HK1.out; omega⟩, ⟨zB⟩⟩
                   · replace c19 := Bool.eq_false_iff.mpr c19
                     subst c19
                     have H1 : (some false) = some r := by rw [if_neg (show ¬ (false = true) by decide)] at H; exact H
                     clear H
                     have H := H1
                     clear H1
                     obtain rfl := Option.some.inj H
                     have p186 : 0 ≤ (x5_1 : Int) := of_decide_eq_true zA
                     have q186 : x5_1 < (l0.length : Int) := of_decide_eq_true zA
                     obtain ⟨ad186, e186, hx186_0, hx186_1⟩ := at_T41 HR0.out x5_1 p186 q186
                     cases e186
                     (try replace hx186_0 := (HB.out.cell (World.block_lt_of_cell? w _ hx186_0)).trans hx186_0)
                     (try replace hx186_1 := (HB.out.cell (World.block_lt_of_cell? w _ hx186_1)).trans hx186_1)
                     replace p186 := eq_true p186
                     replace q186 := eq_true q186
                     try go_wp2_with (first | ((with_reducible refine gate_dst (N := 6) rfl ?_); refine zb (w := w) 6 #[.int .i64 0, .int .i64 0] 41 zB ?_; clear HB; intro gb187 w25 HB BK187 GW187; have GE187 := GW187; have hcz26_0 := zy BK187 0; have hcz26_1 := zy BK187 1; have hfz26_0 := blk_frozen BK187.out 0; have hfz26_1 := blk_frozen BK187.out 1))
                     have n0_ : Aside0 (((w25.setCell ⟨gb187, 0, none⟩ (.int .i64 ((rd_T41 l0 x5_1).f0))).setCell ⟨gb187, 1, none⟩ (.int .i64 ((rd_T41 l0 x5_1).f1))).heap[gb187]? = some (.cells #[.int .i64 ((rd_T41 l0 x5_1).f0), .int .i64 ((rd_T41 l0 x5_1).f1)] 41 (0, 0))) := ⟨by (with_reducible repeat (first | refine blk_drewN ?_ _ | refine blk_drew ?_ | refine blk_alloc ?_ _)); refine blk_put (cs := #[.int .i64 ((rd_T41 l0 x5_1).f0), .int .i64 0]) ?_ 1 _ rfl; (with_reducible repeat (first | refine blk_drewN ?_ _ | refine blk_drew ?_ | refine blk_alloc ?_ _)); refine blk_put (cs := #[.int .i64 0, .int .i64 0]) ?_ 0 _ rfl; (with_reducible repeat (first | refine blk_drewN ?_ _ | refine blk_drew ?_ | refine blk_alloc ?_ _)); exact BK187.out⟩
                     have n1_ : Aside0 (Below w.heap.size w ((w25.setCell ⟨gb187, 0, none⟩ (.int .i64 ((rd_T41 l0 x5_1).f0))).setCell ⟨gb187, 1, none⟩ (.int .i64 ((rd_T41 l0 x5_1).f1)))) := ⟨zB⟩
                     (try clear BK187)
                     (try clear HB)
                     generalize ((w25.setCell ⟨gb187, 0, none⟩ (.int .i64 ((rd_T41 l0 x5_1).f0))).setCell ⟨gb187, 1, none⟩ (.int .i64 ((rd_T41 l0 x5_1).f1))) = w27 at n0_ n1_ ⊢
                     have BK187 := n0_
                     have HB := n1_
                     clear n0_ n1_
                     replace BK187 := zM (blk_drew BK187.out)
                     replace HB := zM (below_drew1 HB.out)
                     have p190 : 0 ≤ ((ji15) : Int) := of_decide_eq_true zA
                     have q190 : (ji15) < (l0.length : Int) := of_decide_eq_true zA
                     obtain ⟨ad190, e190, hx190_0, hx190_1⟩ := at_T41 HR0.out (ji15) p190 q190
                     have hw190_1 := hx190_1
                     have hw190_0 := hx190_0
                     obtain rfl : ad186 = ad190 := (by injection e190)
                     (try replace hx190_0 := (HB.out.cell (World.block_lt_of_cell? w _ hx190_0)).trans hx190_0)
                     (try replace hx190_1 := (HB.out.cell (World.block_lt_of_cell? w _ hx190_1)).trans hx190_1)
                     replace p190 := eq_true p190
                     replace q190 := eq_true q190
                     refine zs (n := 35) (fun w' => w'.cell? ⟨gb187, 0, none⟩ = some (.int .i64 ((rd_T41 l0 x5_1).f0)) ∧ w'.cell? ⟨gb187, 1, none⟩ = some (.int .i64 ((rd_T41 l0 x5_1).f1)) ∧ w'.cell? (ad186.add (((ji15)).toNat * 2)) = some (.int .i64 ((rd_T41 l0 (ji15)).f0)) ∧ w'.cell? ⟨(ad186.add (((ji15)).toNat * 2)).block, (ad186.add (((ji15)).toNat * 2)).off + 1, none⟩ = some (.int .i64 ((rd_T41 l0 (ji15)).f1))) ⟨(blk_cell BK187.out 0).trans rfl, (blk_cell BK187.out 1).trans rfl, ((HB.out.cell (World.block_lt_of_cell? w _ hw190_0)).trans hw190_0), ((HB.out.cell (World.block_lt_of_cell? w _ hw190_1)).trans hw190_1)⟩ (fun hHeld => ?_); refine with_tabW spec_l2Pairs.tab5 spec_l2Pairs.bits5 (fun HT_ HW_ => ?_)
                     generalize w27.drew = w28 at BK187 HB hx190_0 hx190_1 hHeld ⊢
                     refine zp HT_ 0 17 ?_
                     refine zp HT_ 2 19 ?_
                     refine zp HT_ 3 20 ?_
                     refine zt HT_ HW_ 1 18 hHeld ?_ (hy := by rintro w' ⟨s0, s1, s2, s3⟩; go_simp; with_reducible rfl)
                     refine zg HT_ 4 21 Try.func70 #[.int .i64 ((rd_T41 l0 x5_1).f0), .int .i64 0, .int .i64 (wrap64 (a1 - 1))] (fun K hK => ?_)
                     with_reducible refine (spec_l1In.calls ((rd_T41 l0 x5_1).f0) 0 (wrap64 (a1 - 1)) true _ A5.out).mono ?_
                     rintro e w' ⟨rfl, ⟨nd, rfl⟩⟩
                     refine ⟨_, rfl, ?_⟩
                     refine hK.out _ _ ⟨(blk_cell BK187.out 0).trans rfl, (blk_cell BK187.out 1).trans rfl, ((HB.out.cell (World.block_lt_of_cell? w _ hw190_0)).trans hw190_0), ((HB.out.cell (World.block_lt_of_cell? w _ hw190_1)).trans hw190_1)⟩ (fun hHeld => ?_)
                     clear hK K
                     refine zn 21 ?_
                     refine zp HT_ 5 22 ?_
                     refine zp HT_ 6 23 ?_
                     refine zp HT_ 7 24 ?_
                     refine zp HT_ 9 26 ?_
                     refine zp HT_ 10 27 ?_
                     refine zt HT_ HW_ 8 25 hHeld ?_ (hy := by rintro w' ⟨s0, s1, s2, s3⟩; go_simp; with_reducible rfl)
                     refine zg HT_ 11 28 Try.func70 #[.int .i64 ((rd_T41 l0 x5_1).f1), .int .i64 0, .int .i64 (wrap64 (a1 - 1))] (fun K hK => ?_)
                     with_reducible refine (spec_l1In.calls ((rd_T41 l0 x5_1).f1) 0 (wrap64 (a1 - 1)) true _ A7.out).mono ?_
                     rintro e w' ⟨rfl, ⟨nd, rfl⟩⟩
                     refine ⟨_, rfl, ?_⟩
                     refine hK.out _ _ ⟨(blk_cell BK187.out 0).trans rfl, (blk_cell BK187.out 1).trans rfl, ((HB.out.cell (World.block_lt_of_cell? w _ hw190_0)).trans hw190_0), ((HB.out.cell (World.block_lt_of_cell? w _ hw190_1)).trans hw190_1)⟩ (fun hHeld => ?_)
                     clear hK K
                     refine zn 28 ?_
                     refine zp HT_ 12 29 ?_
                     refine zp HT_ 13 30 ?_
                     refine zp HT_ 14 31 ?_
                     refine zp HT_ 15 32 ?_
                     refine zp HT_ 17 34 ?_
                     refine zt HT_ HW_ 16 33 hHeld ?_ (hy := by rintro w' ⟨s0, s1, s2, s3⟩; go_simp; with_reducible rfl)
                     refine zt HT_ HW_ 18 35 hHeld ?_ (hy := by rintro w' ⟨s0, s1, s2, s3⟩; go_simp; with_reducible rfl)
                     refine zp HT_ 19 36 ?_
                     refine zp HT_ 20 37 ?_
                     refine zp HT_ 21 38 ?_
                     refine zp HT_ 22 39 ?_
                     refine zp HT_ 23 40 ?_
                     refine zp HT_ 24 41 ?_
                     refine zp HT_ 25 42 ?_
                     refine zp HT_ 26 43 ?_
                     refine zp HT_ 27 44 ?_
                     refine zp HT_ 28 45 ?_
                     refine zt HT_ HW_ 29 46 hHeld ?_ (hy := by rintro w' ⟨s0, s1, s2, s3⟩; go_simp; with_reducible rfl)
                     refine zt HT_ HW_ 30 47 hHeld ?_ (hy := by rintro w' ⟨s0, s1, s2, s3⟩; go_simp; with_reducible rfl)
                     refine one_ (i := 31) (N := some 48) #[true, true, true, true, true, true, true, true, true, true, true, true, true, true, true, true, true, true, true, true, true, true, true, true, true, true, true, true, true, true, true, true, false, false, false] rfl rfl (one_of HT_.out (by kernel_rfl)) (by decide) (fun K hK => ?_)
                     refine goes_ Try.func66 (by kernel_rfl) rfl #[.agg #[.int .i64 ((rd_T41 l0 (ji15)).f0), .int .i64 ((rd_T41 l0 (ji15)).f1)], .agg #[.int .i64 ((rd_T41 l0 x5_1).f0), .int .i64 ((rd_T41 l0 x5_1).f1)]] (by rfl) rfl rfl (by (try simp only [List.map_toArray, List.map_cons, List.map_nil]); first | done | (simp only [hji15]; rfl) | rfl | (simp only [List.length_drop, List.length_take]; rfl)) ?_
                     with_reducible refine (spec_l2Edge.calls ((rd_T41 l0 (ji15)).f0) ((rd_T41 l0 (ji15)).f1) ((rd_T41 l0 x5_1).f0) ((rd_T41 l0 x5_1).f1) false _ A18.out).mono ?_
                     rintro e w29 ⟨rfl, hb⟩
                     refine ⟨_, rfl, ?_⟩
                     replace BK187 := zM (blk_below (g := gb187) (o := .cells #[.int .i64 ((rd_T41 l0 x5_1).f0), .int .i64 ((rd_T41 l0 x5_1).f1)] 41 (0, 0)) (zK BK187.out) hb)
                     replace HB := zM (below_step zB hb)
                     (try clear hb)
                     (try clear hb2)
                     (try clear hk)
                     (try clear hi)
                     refine hK.out _ _ ⟨(blk_cell BK187.out 0).trans rfl, (blk_cell BK187.out 1).trans rfl, ((HB.out.cell (World.block_lt_of_cell? w _ hw190_0)).trans hw190_0), ((HB.out.cell (World.block_lt_of_cell? w _ hw190_1)).trans hw190_1)⟩ (fun hHeld => ?_)
                     clear hK K
                     refine zn 48 ?_
                     refine zp HT_ 32 49 ?_
                     refine zp HT_ 33 50 ?_
                     refine zp HT_ 34 51 ?_
                     refine zo HT_ ?_
                     try go_wp2
                     go_ret
                     exact ⟨by first | rfl | (simp [errW_none, errW_some] <;> rfl) | (simp only [← hji15]; first | rfl | (simp [errW_none, errW_some] <;> rfl)) | (simp [*, errW_none, errW_some] <;> rfl), zB⟩
                 · rw [if_neg c17] at H
                   exact absurd H (by simp)
               · rw [if_neg c16] at H
                 exact absurd H (by simp)
             · rw [if_neg c14] at H
               have c14b0 : decide (0 < x5_1) = false := decide_eq_false c14
               clear c14
               have H' := Aside0.mk H
               clear H
               have p186 : 0 ≤ (x5_1 : Int) := of_decide_eq_true zA
               have q186 : x5_1 < (l0.length : Int) := of_decide_eq_true zA
               obtain ⟨ad186, e186, hx186_0, hx186_1⟩ := at_T41 HR0.out x5_1 p186 q186
               cases e186
               (try replace hx186_0 := (HB.out.cell (World.block_lt_of_cell? w _ hx186_0)).trans hx186_0)
               (try replace hx186_1 := (HB.out.cell (World.block_lt_of_cell? w _ hx186_1)).trans hx186_1)
               replace p186 := eq_true p186
               replace q186 := eq_true q186
               try go_wp2_with (first | ((with_reducible refine gate_dst (N := 6) rfl ?_); refine zb (w := w) 6 #[.int .i64 0, .int .i64 0] 41 zB ?_; clear HB; intro gb187 w30 HB BK187 GW187; have GE187 := GW187; have hcz31_0 := zy BK187 0; have hcz31_1 := zy BK187 1; have hfz31_0 := blk_frozen BK187.out 0; have hfz31_1 := blk_frozen BK187.out 1))
               have n0_ : Aside0 (((w30.setCell ⟨gb187, 0, none⟩ (.int .i64 ((rd_T41 l0 x5_1).f0))).setCell ⟨gb187, 1, none⟩ (.int .i64 ((rd_T41 l0 x5_1).f1))).heap[gb187]? = some (.cells #[.int .i64 ((rd_T41 l0 x5_1).f0), .int .i64 ((rd_T41 l0 x5_1).f1)] 41 (0, 0))) := ⟨by (with_reducible repeat (first | refine blk_drewN ?_ _ | refine blk_drew ?_ | refine blk_alloc ?_ _)); refine blk_put (cs := #[.int .i64 ((rd_T41 l0 x5_1).f0), .int .i64 0]) ?_ 1 _ rfl; (with_reducible repeat (first | refine blk_drewN ?_ _ | refine blk_drew ?_ | refine blk_alloc ?_ _)); refine blk_put (cs := #[.int .i64 0, .int .i64 0]) ?_ 0 _ rfl; (with_reducible repeat (first | refine blk_drewN ?_ _ | refine blk_drew ?_ | refine blk_alloc ?_ _)); exact BK187.out⟩
               have n1_ : Aside0 (Below w.heap.size w ((w30.setCell ⟨gb187, 0, none⟩ (.int .i64 ((rd_T41 l0 x5_1).f0))).setCell ⟨gb187, 1, none⟩ (.int .i64 ((rd_T41 l0 x5_1).f1)))) := ⟨zB⟩
               (try clear BK187)
               (try clear HB)
               generalize ((w30.setCell ⟨gb187, 0, none⟩ (.int .i64 ((rd_T41 l0 x5_1).f0))).setCell ⟨gb187, 1, none⟩ (.int .i64 ((rd_T41 l0 x5_1).f1))) = w32 at n0_ n1_ ⊢
               have BK187 := n0_
               have HB := n1_
               clear n0_ n1_
               replace BK187 := zM (blk_drew BK187.out)
               replace HB := zM (below_drew1 HB.out)
               refine zs (n := 35) (fun w' => w'.cell? ⟨gb187, 0, none⟩ = some (.int .i64 ((rd_T41 l0 x5_1).f0)) ∧ w'.cell? ⟨gb187, 1, none⟩ = some (.int .i64 ((rd_T41 l0 x5_1).f1))) ⟨(blk_cell BK187.out 0).trans rfl, (blk_cell BK187.out 1).trans rfl⟩ (fun hHeld => ?_); refine with_tabW spec_l2Pairs.tab5 spec_l2Pairs.bits5 (fun HT_ HW_ => ?_)
               generalize w32.drew = w33 at BK187 HB hHeld ⊢
               refine zp HT_ 0 17 ?_
               refine zp HT_ 2 19 ?_
               refine zp HT_ 3 20 ?_
               refine zt HT_ HW_ 1 18 hHeld ?_ (hy := by rintro w' ⟨s0, s1⟩; go_simp; with_reducible rfl)
               refine zg HT_ 4 21 Try.func70 #[.int .i64 ((rd_T41 l0 x5_1).f0), .int .i64 0, .int .i64 (wrap64 (a1 - 1))] (fun K hK => ?_)
               with_reducible refine (spec_l1In.calls ((rd_T41 l0 x5_1).f0) 0 (wrap64 (a1 - 1)) true _ A5.out).mono ?_
               rintro e w' ⟨rfl, ⟨nd, rfl⟩⟩
               refine ⟨_, rfl, ?_⟩
               refine hK.out _ _ ⟨(blk_cell BK187.out 0).trans rfl, (blk_cell BK187.out 1).trans rfl⟩ (fun hHeld => ?_)
               clear hK K
               refine zn 21 ?_
               refine zp HT_ 5 22 ?_
               refine zp HT_ 6 23 ?_
               refine zp HT_ 7 24 ?_
               refine zp HT_ 9 26 ?_
               refine zp HT_ 10 27 ?_
               refine zt HT_ HW_ 8 25 hHeld ?_ (hy := by rintro w' ⟨s0, s1⟩; go_simp; with_reducible rfl)
               refine zg HT_ 11 28 Try.func70 #[.int .i64 ((rd_T41 l0 x5_1).f1), .int .i64 0, .int .i64 (wrap64 (a1 - 1))] (fun K hK => ?_)
               with_reducible refine (spec_l1In.calls ((rd_T41 l0 x5_1).f1) 0 (wrap64 (a1 - 1)) true _ A7.out).mono ?_
               rintro e w' ⟨rfl, ⟨nd, rfl⟩⟩
               refine ⟨_, rfl, ?_⟩
               refine hK.out _ _ ⟨(blk_cell BK187.out 0).trans rfl, (blk_cell BK187.out 1).trans rfl⟩ (fun hHeld => ?_)
               clear hK K
               refine zn 28 ?_
               refine zp HT_ 12 29 ?_
               refine zp HT_ 13 30 ?_
               refine zp HT_ 14 31 ?_
               refine zp HT_ 15 32 ?_
               refine zp HT_ 17 34 ?_
               refine zt HT_ HW_ 16 33 hHeld ?_ (hy := by rintro w' ⟨s0, s1⟩; go_simp; with_reducible rfl)
               refine zt HT_ HW_ 18 35 hHeld ?_ (hy := by rintro w' ⟨s0, s1⟩; go_simp; with_reducible rfl)
               refine zp HT_ 19 36 ?_
               refine zp HT_ 20 37 ?_
               refine zp HT_ 21 38 ?_
               refine zp HT_ 22 39 ?_
               refine zp HT_ 23 40 ?_
               refine zp HT_ 24 41 ?_
               refine zu HT_ 25 42 ?_
               refine zu HT_ 26 43 ?_
               refine zu HT_ 27 44 ?_
               refine zu HT_ 28 45 ?_
               refine zu HT_ 29 46 ?_
               refine zu HT_ 30 47 ?_
               refine zu HT_ 31 48 ?_
               refine zu HT_ 32 49 ?_
               refine zp HT_ 33 50 ?_
               refine zp HT_ 34 51 ?_
               refine zo HT_ ?_
               try go_wp2
               go_roundg k1
               case measure => have := HK1.out; omega
               case rel => exact ⟨(wrap64 (x5_1 + 1)), (by first | rfl | (simp; done) | (simp [*]; done)), H', ⟨by have := HK1.out; omega⟩, ⟨zB⟩⟩
         · replace c8 := Bool.eq_false_iff.mpr c8
           subst c8
           have H1 : (some false) = some r := by rw [if_neg (show ¬ (false = true) by decide)] at H; exact H
           clear H
           have H := H1
           clear H1
           obtain rfl := Option.some.inj H
           have p186 : 0 ≤ (x5_1 : Int) := of_decide_eq_true zA
           have q186 : x5_1 < (l0.length : Int) := of_decide_eq_true zA
           obtain ⟨ad186, e186, hx186_0, hx186_1⟩ := at_T41 HR0.out x5_1 p186 q186
           cases e186
           (try replace hx186_0 := (HB.out.cell (World.block_lt_of_cell? w _ hx186_0)).trans hx186_0)
           (try replace hx186_1 := (HB.out.cell (World.block_lt_of_cell? w _ hx186_1)).trans hx186_1)
           replace p186 := eq_true p186
           replace q186 := eq_true q186
           try go_wp2_with (first | ((with_reducible refine gate_dst (N := 6) rfl ?_); refine zb (w := w) 6 #[.int .i64 0, .int .i64 0] 41 zB ?_; clear HB; intro gb187 w34 HB BK187 GW187; have GE187 := GW187; have hcz35_0 := zy BK187 0; have hcz35_1 := zy BK187 1; have hfz35_0 := blk_frozen BK187.out 0; have hfz35_1 := blk_frozen BK187.out 1))
           have n0_ : Aside0 (((w34.setCell ⟨gb187, 0, none⟩ (.int .i64 ((rd_T41 l0 x5_1).f0))).setCell ⟨gb187, 1, none⟩ (.int .i64 ((rd_T41 l0 x5_1).f1))).heap[gb187]? = some (.cells #[.int .i64 ((rd_T41 l0 x5_1).f0), .int .i64 ((rd_T41 l0 x5_1).f1)] 41 (0, 0))) := ⟨by (with_reducible repeat (first | refine blk_drewN ?_ _ | refine blk_drew ?_ | refine blk_alloc ?_ _)); refine blk_put (cs := #[.int .i64 ((rd_T41 l0 x5_1).f0), .int .i64 0]) ?_ 1 _ rfl; (with_reducible repeat (first | refine blk_drewN ?_ _ | refine blk_drew ?_ | refine blk_alloc ?_ _)); refine blk_put (cs := #[.int .i64 0, .int .i64 0]) ?_ 0 _ rfl; (with_reducible repeat (first | refine blk_drewN ?_ _ | refine blk_drew ?_ | refine blk_alloc ?_ _)); exact BK187.out⟩
           have n1_ : Aside0 (Below w.heap.size w ((w34.setCell ⟨gb187, 0, none⟩ (.int .i64 ((rd_T41 l0 x5_1).f0))).setCell ⟨gb187, 1, none⟩ (.int .i64 ((rd_T41 l0 x5_1).f1)))) := ⟨zB⟩
           (try clear BK187)
           (try clear HB)
           generalize ((w34.setCell ⟨gb187, 0, none⟩ (.int .i64 ((rd_T41 l0 x5_1).f0))).setCell ⟨gb187, 1, none⟩ (.int .i64 ((rd_T41 l0 x5_1).f1))) = w36 at n0_ n1_ ⊢
           have BK187 := n0_
           have HB := n1_
           clear n0_ n1_
           replace BK187 := zM (blk_drew BK187.out)
           replace HB := zM (below_drew1 HB.out)
           refine zs (n := 35) (fun w' => w'.cell? ⟨gb187, 0, none⟩ = some (.int .i64 ((rd_T41 l0 x5_1).f0)) ∧ w'.cell? ⟨gb187, 1, none⟩ = some (.int .i64 ((rd_T41 l0 x5_1).f1))) ⟨(blk_cell BK187.out 0).trans rfl, (blk_cell BK187.out 1).trans rfl⟩ (fun hHeld => ?_); refine with_tabW spec_l2Pairs.tab5 spec_l2Pairs.bits5 (fun HT_ HW_ => ?_)
           generalize w36.drew = w37 at BK187 HB hHeld ⊢
           refine zp HT_ 0 17 ?_
           refine zp HT_ 2 19 ?_
           refine zp HT_ 3 20 ?_
           refine zt HT_ HW_ 1 18 hHeld ?_ (hy := by rintro w' ⟨s0, s1⟩; go_simp; with_reducible rfl)
           refine zg HT_ 4 21 Try.func70 #[.int .i64 ((rd_T41 l0 x5_1).f0), .int .i64 0, .int .i64 (wrap64 (a1 - 1))] (fun K hK => ?_)
           with_reducible refine (spec_l1In.calls ((rd_T41 l0 x5_1).f0) 0 (wrap64 (a1 - 1)) true _ A5.out).mono ?_
           rintro e w' ⟨rfl, ⟨nd, rfl⟩⟩
           refine ⟨_, rfl, ?_⟩
           refine hK.out _ _ ⟨(blk_cell BK187.out 0).trans rfl, (blk_cell BK187.out 1).trans rfl⟩ (fun hHeld => ?_)
           clear hK K
           refine zn 21 ?_
           refine zp HT_ 5 22 ?_
           refine zp HT_ 6 23 ?_
           refine zp HT_ 7 24 ?_
           refine zp HT_ 9 26 ?_
           refine zp HT_ 10 27 ?_
           refine zt HT_ HW_ 8 25 hHeld ?_ (hy := by rintro w' ⟨s0, s1⟩; go_simp; with_reducible rfl)
           refine zg HT_ 11 28 Try.func70 #[.int .i64 ((rd_T41 l0 x5_1).f1), .int .i64 0, .int .i64 (wrap64 (a1 - 1))] (fun K hK => ?_)
           with_reducible refine (spec_l1In.calls ((rd_T41 l0 x5_1).f1) 0 (wrap64 (a1 - 1)) false _ A7.out).mono ?_
           rintro e w' ⟨rfl, ⟨nd, rfl⟩⟩
           refine ⟨_, rfl, ?_⟩
           refine hK.out _ _ ⟨(blk_cell BK187.out 0).trans rfl, (blk_cell BK187.out 1).trans rfl⟩ (fun hHeld => ?_)
           clear hK K
           refine zn 28 ?_
           refine zp HT_ 12 29 ?_
           refine zp HT_ 13 30 ?_
           refine zp HT_ 14 31 ?_
           refine zu HT_ 15 32 ?_
           refine zu HT_ 16 33 ?_
           refine zu HT_ 17 34 ?_
           refine zu HT_ 18 35 ?_
           refine zu HT_ 19 36 ?_
           refine zp HT_ 20 37 ?_
           refine zp HT_ 21 38 ?_
           refine zu HT_ 22 39 ?_
           refine zu HT_ 23 40 ?_
           refine zu HT_ 24 41 ?_
           refine zu HT_ 25 42 ?_
           refine zu HT_ 26 43 ?_
           refine zu HT_ 27 44 ?_
           refine zu HT_ 28 45 ?_
           refine zu HT_ 29 46 ?_
           refine zu HT_ 30 47 ?_
           refine zu HT_ 31 48 ?_
           refine zu HT_ 32 49 ?_
           refine zu HT_ 33 50 ?_
           refine zp HT_ 34 51 ?_
           refine zo HT_ ?_
           try go_wp2
           go_ret
           exact ⟨by first | rfl | (simp [errW_none, errW_some] <;> rfl) | (simp [*, errW_none, errW_some] <;> rfl), zB⟩
       · replace c6 := Bool.eq_false_iff.mpr c6
         subst c6
         have H1 : (some false) = some r := by rw [if_neg (show ¬ (false = true) by decide)] at H; exact H
         clear H
         have H := H1
         clear H1
         obtain rfl := Option.some.inj H
         have p186 : 0 ≤ (x5_1 : Int) := of_decide_eq_true zA
         have q186 : x5_1 < (l0.length : Int) := of_decide_eq_true zA
         obtain ⟨ad186, e186, hx186_0, hx186_1⟩ := at_T41 HR0.out x5_1 p186 q186
         cases e186
         (try replace hx186_0 := (HB.out.cell (World.block_lt_of_cell? w _ hx186_0)).trans hx186_0)
         (try replace hx186_1 := (HB.out.cell (World.block_lt_of_cell? w _ hx186_1)).trans hx186_1)
         replace p186 := eq_true p186
         replace q186 := eq_true q186
         try go_wp2_with (first | ((with_reducible refine gate_dst (N := 6) rfl ?_); refine zb (w := w) 6 #[.int .i64 0, .int .i64 0] 41 zB ?_; clear HB; intro gb187 w38 HB BK187 GW187; have GE187 := GW187; have hcz39_0 := zy BK187 0; have hcz39_1 := zy BK187 1; have hfz39_0 := blk_frozen BK187.out 0; have hfz39_1 := blk_frozen BK187.out 1))
         have n0_ : Aside0 (((w38.setCell ⟨gb187, 0, none⟩ (.int .i64 ((rd_T41 l0 x5_1).f0))).setCell ⟨gb187, 1, none⟩ (.int .i64 ((rd_T41 l0 x5_1).f1))).heap[gb187]? = some (.cells #[.int .i64 ((rd_T41 l0 x5_1).f0), .int .i64 ((rd_T41 l0 x5_1).f1)] 41 (0, 0))) := ⟨by (with_reducible repeat (first | refine blk_drewN ?_ _ | refine blk_drew ?_ | refine blk_alloc ?_ _)); refine blk_put (cs := #[.int .i64 ((rd_T41 l0 x5_1).f0), .int .i64 0]) ?_ 1 _ rfl; (with_reducible repeat (first | refine blk_drewN ?_ _ | refine blk_drew ?_ | refine blk_alloc ?_ _)); refine blk_put (cs := #[.int .i64 0, .int .i64 0]) ?_ 0 _ rfl; (with_reducible repeat (first | refine blk_drewN ?_ _ | refine blk_drew ?_ | refine blk_alloc ?_ _)); exact BK187.out⟩
         have n1_ : Aside0 (Below w.heap.size w ((w38.setCell ⟨gb187, 0, none⟩ (.int .i64 ((rd_T41 l0 x5_1).f0))).setCell ⟨gb187, 1, none⟩ (.int .i64 ((rd_T41 l0 x5_1).f1)))) := ⟨zB⟩
         (try clear BK187)
         (try clear HB)
         generalize ((w38.setCell ⟨gb187, 0, none⟩ (.int .i64 ((rd_T41 l0 x5_1).f0))).setCell ⟨gb187, 1, none⟩ (.int .i64 ((rd_T41 l0 x5_1).f1))) = w40 at n0_ n1_ ⊢
         have BK187 := n0_
         have HB := n1_
         clear n0_ n1_
         replace BK187 := zM (blk_drew BK187.out)
         replace HB := zM (below_drew1 HB.out)
         refine zs (n := 35) (fun w' => w'.cell? ⟨gb187, 0, none⟩ = some (.int .i64 ((rd_T41 l0 x5_1).f0)) ∧ w'.cell? ⟨gb187, 1, none⟩ = some (.int .i64 ((rd_T41 l0 x5_1).f1))) ⟨(blk_cell BK187.out 0).trans rfl, (blk_cell BK187.out 1).trans rfl⟩ (fun hHeld => ?_); refine with_tabW spec_l2Pairs.tab5 spec_l2Pairs.bits5 (fun HT_ HW_ => ?_)
         generalize w40.drew = w41 at BK187 HB hHeld ⊢
         refine zp HT_ 0 17 ?_
         refine zp HT_ 2 19 ?_
         refine zp HT_ 3 20 ?_
         refine zt HT_ HW_ 1 18 hHeld ?_ (hy := by rintro w' ⟨s0, s1⟩; go_simp; with_reducible rfl)
         refine zg HT_ 4 21 Try.func70 #[.int .i64 ((rd_T41 l0 x5_1).f0), .int .i64 0, .int .i64 (wrap64 (a1 - 1))] (fun K hK => ?_)
         with_reducible refine (spec_l1In.calls ((rd_T41 l0 x5_1).f0) 0 (wrap64 (a1 - 1)) false _ A5.out).mono ?_
         rintro e w' ⟨rfl, ⟨nd, rfl⟩⟩
         refine ⟨_, rfl, ?_⟩
         refine hK.out _ _ ⟨(blk_cell BK187.out 0).trans rfl, (blk_cell BK187.out 1).trans rfl⟩ (fun hHeld => ?_)
         clear hK K
         refine zn 21 ?_
         refine zp HT_ 5 22 ?_
         refine zp HT_ 6 23 ?_
         refine zu HT_ 7 24 ?_
         refine zu HT_ 8 25 ?_
         refine zu HT_ 9 26 ?_
         refine zu HT_ 10 27 ?_
         refine zu HT_ 11 28 ?_
         refine zu HT_ 12 29 ?_
         refine zp HT_ 13 30 ?_
         refine zp HT_ 14 31 ?_
         refine zu HT_ 15 32 ?_
         refine zu HT_ 16 33 ?_
         refine zu HT_ 17 34 ?_
         refine zu HT_ 18 35 ?_
         refine zu HT_ 19 36 ?_
         refine zp HT_ 20 37 ?_
         refine zp HT_ 21 38 ?_
         refine zu HT_ 22 39 ?_
         refine zu HT_ 23 40 ?_
         refine zu HT_ 24 41 ?_
         refine zu HT_ 25 42 ?_
         refine zu HT_ 26 43 ?_
         refine zu HT_ 27 44 ?_
         refine zu HT_ 28 45 ?_
         refine zu HT_ 29 46 ?_
         refine zu HT_ 30 47 ?_
         refine zu HT_ 31 48 ?_
         refine zu HT_ 32 49 ?_
         refine zu HT_ 33 50 ?_
         refine zp HT_ 34 51 ?_
         refine zo HT_ ?_
         try go_wp2
         go_ret
         exact ⟨by first | rfl | (simp [errW_none, errW_some] <;> rfl) | (simp [*, errW_none, errW_some] <;> rfl), zB⟩
     · rw [if_neg c4] at H
       exact absurd H (by simp)
   · rw [if_neg c3] at H
     have c3b0 : decide (x5_1 < (l0.length : Int)) = false := decide_eq_false c3
     clear c3
     obtain rfl := Option.some.inj H
     go_wp2
     go_ret
     exact ⟨by first | rfl | (simp [errW_none, errW_some] <;> rfl) | (simp [*, errW_none, errW_some] <;> rfl), zB⟩

end Go.Proofs.Ytihfpngolcjkiaa.P
