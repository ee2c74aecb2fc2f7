-- Written by a program of this session (the kit's print, turned: wip/print/patch.py) out of the translation. Not trusted: Lean checks it.
import Derived.Test.YtfaeopmofgnbdaaWideNumberG5
namespace Go.Proofs.Ytfaeopmofgnbdaa.P
open Go.RowKit Go.Proofs.YtfaeopmofgnbdaaW.PrintWords Go.Proofs.YtfaeopmofgnbdaaW.PrintLast Go.Proofs.YtfaeopmofgnbdaaW.PrintMore
attribute [local go_sem] max2_int min2_int max_two min_two max_three min_three max_four min_four   -- for this text's walks alone
set_option linter.unusedVariables false
set_option linter.unusedSimpArgs false

/-! ### impl_comparePairs: function 41 -/
def impl_comparePairs.f (k : Nat) (a0_0 : Int) (a0_1 : Int) (a1_0 : Int) (a1_1 : Int) : Option (Int) := (cmp_Compare_int.f a0_0 a1_0).bind fun t127 => ((cmp_Compare_int.f a0_1 a1_1).bind fun t128 => ((cmp_Or_int.f k (([t127, t128] : List Int))).bind fun t132 => (some t132)))
def impl_comparePairs.T1 : Bool × List (List Nat × List Nat) := (true, [([], []), ([0], [0]), ([], []), ([2], [2]), ([1, 3], [1, 3]), ([], []), ([5], [5]), ([], []), ([7], [7]), ([6, 8, 4], [6, 8]), ([4, 9], [4, 9]), ([10, 9], [10]), ([11, 11, 0, 1, 2, 3, 4, 5, 6, 7, 8, 9, 10, 11], [11])])
def impl_comparePairs.B1 : List Nat := [0, 1, 0, 4, 15, 0, 32, 0, 128, 511, 1023, 2047, 4095]
theorem impl_comparePairs.tab1 : rtab .any (opsOf Try.f41 1) = impl_comparePairs.T1 := by kernel_rfl
theorem impl_comparePairs.bits1 : waitsOk impl_comparePairs.T1.2 impl_comparePairs.B1 = true := by kernel_rfl
set_option maxHeartbeats 8000000 in
set_option maxRecDepth 100000 in
theorem impl_comparePairs.calls (k : Nat) (a0_0 : Int) (a0_1 : Int) (a1_0 : Int) (a1_1 : Int) (r : Int) (w : World) (h : impl_comparePairs.f k a0_0 a0_1 a1_0 a1_1 = some r) :
 Calls Try.prog 41 #[.agg #[.int .i64 a0_0, .int .i64 a0_1], .agg #[.int .i64 a1_0, .int .i64 a1_1]] w fun e w' => e = .returned (.int .i64 r) ∧ Below w.heap.size w w' := by
 have hu48 := Try.underlying48
 have HB := zM (Below.refl w.heap.size w)
 have H : ((cmp_Compare_int.f a0_0 a1_0).bind fun t127 => ((cmp_Compare_int.f a0_1 a1_1).bind fun t128 => ((cmp_Or_int.f k (([t127, t128] : List Int))).bind fun t132 => (some t132)))) = some r := h
 clear h
 replace H := Option.bind_eq_some_iff.mp H
 obtain ⟨t127, A30, H⟩ := H
 have A3 := Aside0.mk A30
 clear A30
 replace H := Option.bind_eq_some_iff.mp H
 obtain ⟨t128, A40, H⟩ := H
 have A4 := Aside0.mk A40
 clear A40
 obtain ⟨y129, hy129⟩ : ∃ y_ : List Int, y_ = (([t127, t128] : List Int)) := ⟨_, rfl⟩
 replace H : ((cmp_Or_int.f k y129).bind fun t132 => (some t132)) = some r := by first | (rw [hy129]; with_reducible exact H) | (have H2_ := (Option.bind_some _ _).symm.trans H; rw [hy129]; with_reducible exact H2_) | (have H2_ := (Option.bind_some _ _).symm.trans H; with_reducible exact H2_) | with_reducible exact H | (rw [hy129]; exact H) | exact H
 have Ny129 := Aside0.mk hy129
 clear hy129
 replace H := Option.bind_eq_some_iff.mp H
 obtain ⟨t132, A50, H⟩ := H
 have A5 := Aside0.mk A50
 clear A50
 obtain rfl := Option.some.inj H
 go_enter Try.func41, Try.ntmps41
 try go_wp2_with (first | ((with_reducible refine gate_dst (N := 2) rfl ?_); refine zb (w := w) 2 #[.int .i64 a0_0, .int .i64 a0_1] 48 zB ?_; clear HB; intro gb125 w6 HB BK125 GW125; have GE125 := GW125) | ((with_reducible refine gate_dst (N := 3) rfl ?_); refine ze 3 #[.int .i64 a1_0, .int .i64 a1_1] 48 ?_; intro gb126 hg w7 hbox hb; have BK126 := zM (hbox); have GW126 := zM ((by rw [hg]; exact (below_size zB) : w.heap.size ≤ gb126)); have GE126 := zM ((by rw [hg]; exact (below_size zB) : w.heap.size ≤ gb126)); replace HB := zM (below_step zB hb); have NB125_126 := zM ((by rw [hg]; exact Nat.ne_of_lt (blk_lt (g := gb125) (o := .cells #[.int .i64 a0_0, .int .i64 a0_1] 48 (0, 0)) (zK BK125.out)) : gb125 ≠ gb126)); have NB126_125 := zM ((by rw [hg]; exact Nat.ne_of_gt (blk_lt (g := gb125) (o := .cells #[.int .i64 a0_0, .int .i64 a0_1] 48 (0, 0)) (zK BK125.out)) : gb126 ≠ gb125)); replace BK125 := zM (blk_below (g := gb125) (o := .cells #[.int .i64 a0_0, .int .i64 a0_1] 48 (0, 0)) (zK BK125.out) hb); clear hb hbox hg))
 replace BK125 := zM (blk_drew BK125.out)
 replace BK126 := zM (blk_drew BK126.out)
 replace HB := zM (below_drew1 HB.out)
 refine zs (n := 13) (fun w' => w'.cell? ⟨gb125, 0, none⟩ = some (.int .i64 a0_0) ∧ w'.cell? ⟨gb125, 1, none⟩ = some (.int .i64 a0_1) ∧ w'.cell? ⟨gb126, 0, none⟩ = some (.int .i64 a1_0) ∧ w'.cell? ⟨gb126, 1, none⟩ = some (.int .i64 a1_1)) ⟨(blk_cell BK125.out 0).trans rfl, (blk_cell BK125.out 1).trans rfl, (blk_cell BK126.out 0).trans rfl, (blk_cell BK126.out 1).trans rfl⟩ (fun hHeld => ?_); refine with_tabW impl_comparePairs.tab1 impl_comparePairs.bits1 (fun HT_ HW_ => ?_)
 generalize w7.drew = w8 at BK125 BK126 HB hHeld ⊢
 refine zp HT_ 0 5 ?_
 refine zp HT_ 2 7 ?_
 refine zp HT_ 5 10 ?_
 refine zp HT_ 7 12 ?_
 refine zt HT_ HW_ 1 6 hHeld ?_ (hy := by rintro w' ⟨s0, s1, s2, s3⟩; go_simp; with_reducible rfl)
 refine zt HT_ HW_ 3 8 hHeld ?_ (hy := by rintro w' ⟨s0, s1, s2, s3⟩; go_simp; with_reducible rfl)
 refine zt HT_ HW_ 6 11 hHeld ?_ (hy := by rintro w' ⟨s0, s1, s2, s3⟩; go_simp; with_reducible rfl)
 refine zt HT_ HW_ 8 13 hHeld ?_ (hy := by rintro w' ⟨s0, s1, s2, s3⟩; go_simp; with_reducible rfl)
 refine zg HT_ 4 9 Try.func57 #[.int .i64 a0_0, .int .i64 a1_0] (fun K hK => ?_)
 with_reducible refine (cmp_Compare_int.calls a0_0 a1_0 t127 _ A3.out).mono ?_
 rintro e w' ⟨rfl, ⟨nd, rfl⟩⟩
 refine ⟨_, rfl, ?_⟩
 refine hK.out _ _ ⟨(blk_cell BK125.out 0).trans rfl, (blk_cell BK125.out 1).trans rfl, (blk_cell BK126.out 0).trans rfl, (blk_cell BK126.out 1).trans rfl⟩ (fun hHeld => ?_)
 clear hK K
 refine zn 9 ?_
 refine zg HT_ 9 14 Try.func57 #[.int .i64 a0_1, .int .i64 a1_1] (fun K hK => ?_)
 with_reducible refine (cmp_Compare_int.calls a0_1 a1_1 t128 _ A4.out).mono ?_
 rintro e w' ⟨rfl, ⟨nd, rfl⟩⟩
 refine ⟨_, rfl, ?_⟩
 refine hK.out _ _ ⟨(blk_cell BK125.out 0).trans rfl, (blk_cell BK125.out 1).trans rfl, (blk_cell BK126.out 0).trans rfl, (blk_cell BK126.out 1).trans rfl⟩ (fun hHeld => ?_)
 clear hK K
 refine zn 14 ?_
 refine one_ (i := 10) (N := some 15) #[true, true, true, true, true, true, true, true, true, true, true, false, false] rfl rfl (one_of HT_.out (by kernel_rfl)) (by decide) (fun K hK => ?_)
 refine Kd.R_lit_step (Kd.int .i64) _ 3 ?hg (N := 15) ?hd (xs := ([t127, t128] : List Int)) (inner := [.int .i64 t127, .int .i64 t128]) (ok := fun _ => True) (okp := fun _ => True) ?hr ?hp (fun _ hk => hk) trivial (Below.refl _ _) (Nat.le_refl _) (by simp) ?_; (case hd => rfl); (case hg => rfl); (case hr => first | (go_simp; done) | (go_simp; rfl)); (case hp => exact (Reps.one (show Kd.M (Kd.int .i64) _ _ _ t127 [.int .i64 t127] from rfl) (Reps.one (show Kd.M (Kd.int .i64) _ _ _ t128 [.int .i64 t128] from rfl) (Reps.none _ _))))
 intro v130 w9 ho10 hb hg_ hnew_
 clear hg_ hnew_
 (first | rw [← Ny129.out] at ho10 | (simp only [Int.reduceToNat] at ho10; rw [← Ny129.out] at ho10))
 have HO131 := zM (Kd.R_lower ho10 (below_size zB))
 replace BK125 := zM (blk_below (g := gb125) (o := .cells #[.int .i64 a0_0, .int .i64 a0_1] 48 (0, 0)) (zK BK125.out) hb)
 replace BK126 := zM (blk_below (g := gb126) (o := .cells #[.int .i64 a1_0, .int .i64 a1_1] 48 (0, 0)) (zK BK126.out) hb)
 replace HB := zM (below_step zB hb)
 clear hb ho10
 obtain ⟨Ao11, co11, eo11⟩ := Kd.R_slice HO131.out
 (first | subst eo11 | (injection eo11 with f1_ f2_ f3_; have f4_ := f1_.symm; have f5_ := f3_.symm; clear f1_ f2_ f3_; subst f4_; subst f5_))
 refine hK.out _ _ ⟨(blk_cell BK125.out 0).trans rfl, (blk_cell BK125.out 1).trans rfl, (blk_cell BK126.out 0).trans rfl, (blk_cell BK126.out 1).trans rfl⟩ (fun hHeld => ?_)
 clear hK K
 refine zn 15 ?_
 refine zg HT_ 11 16 Try.func56 #[.slice Ao11 y129.length co11] (fun K hK => ?_)
 with_reducible refine (cmp_Or_int.calls k _ _ y129 t132 _ ?side1 ?side2 A5.out).mono ?_
 (case side1 => exact zC (Kd.R_reads' HO131.out).2.2)
 (case side2 => exact (Kd.R_reads' HO131.out).2.1)
 rintro e w' ⟨rfl, ⟨nd, rfl⟩⟩
 refine ⟨_, rfl, ?_⟩
 refine hK.out _ _ ⟨(blk_cell BK125.out 0).trans rfl, (blk_cell BK125.out 1).trans rfl, (blk_cell BK126.out 0).trans rfl, (blk_cell BK126.out 1).trans rfl⟩ (fun hHeld => ?_)
 clear hK K
 refine zn 16 ?_
 refine zp HT_ 12 4 ?_
 refine zo HT_ ?_
 try go_wp2
 go_ret
 exact ⟨by first | rfl | (simp [errW_none, errW_some] <;> rfl) | (simp [*, errW_none, errW_some] <;> rfl), zB⟩

end Go.Proofs.Ytfaeopmofgnbdaa.P
namespace Go.Proofs.Ytfaeopmofgnbdaa.P
open Go.RowKit Go.Proofs.YtfaeopmofgnbdaaW.PrintWords Go.Proofs.YtfaeopmofgnbdaaW.PrintLast Go.Proofs.YtfaeopmofgnbdaaW.PrintMore
attribute [local go_sem] max2_int min2_int max_two min_two max_three min_three max_four min_four   -- for this text's walks alone
set_option linter.unusedVariables false
set_option linter.unusedSimpArgs false

/-! ### impl_isPairs: function 27 -/
def impl_isPairs.l0 : Nat → List (S48) → Int → List (S48) → Int → Int → Option (Bool)
 | 0, _, _, _, _, _ => none
 | k + 1, x0, x1, x7, x8, x9 => if x9 < x8 then (if 0 ≤ x9 then (if x9 < (x7.length : Int) then (if ((rd_T48 x7 x9).f0) < 0 then (some false) else (if ((rd_T48 x7 x9).f0) ≥ ((rd_T48 x7 x9).f1) then (some false) else (if ((rd_T48 x7 x9).f1) ≥ x1 then (some false) else (if x9 > 0 then (if 0 ≤ (wrap64 (x9 - 1)) then (if (wrap64 (x9 - 1)) < (x0.length : Int) then ((impl_comparePairs.f k ((rd_T48 x0 (wrap64 (x9 - 1))).f0) ((rd_T48 x0 (wrap64 (x9 - 1))).f1) ((rd_T48 x7 x9).f0) ((rd_T48 x7 x9).f1)).bind fun t136 => (if t136 ≥ 0 then (some false) else (impl_isPairs.l0 k x0 x1 x7 x8 (wrap64 (x9 + 1))))) else (none)) else (none)) else (impl_isPairs.l0 k x0 x1 x7 x8 (wrap64 (x9 + 1))))))) else (none)) else (none)) else (some true)
def impl_isPairs.f (k : Nat) (l0 : List (S48)) (a1 : Int) : Option (Bool) := impl_isPairs.l0 k l0 a1 l0 (l0.length : Int) 0
def impl_isPairs.T4 : Bool × List (List Nat × List Nat) := (true, [([], []), ([0], [0]), ([1], [1]), ([2], [2]), ([3], [3]), ([4, 3], [3, 4]), ([3], [3]), ([6, 3], [3, 6]), ([5, 7, 3], [3, 5, 7]), ([3, 8], [3, 8]), ([9, 3], [9]), ([10], [10]), ([11, 10], [10, 11]), ([10], [10]), ([12, 13, 10], [10, 12, 13]), ([10, 14], [10, 14]), ([15, 10], [15]), ([16], [16]), ([17, 16], [16, 17]), ([18, 16, 16], [16, 18]), ([19], [19]), ([19], [19]), ([21, 19], [19, 21]), ([20, 22, 19], [19, 20, 22]), ([23, 19], [19, 23]), ([19], [19]), ([24, 25, 19, 19], [19, 24, 25]), ([26, 19], [19, 26]), ([19, 27, 16], [16, 19, 27]), ([16, 28], [16, 28])])
def impl_isPairs.B4 : List Nat := [0, 1, 3, 7, 15, 31, 15, 79, 255, 511, 1023, 2047, 4095, 2047, 16383, 32767, 65535, 131071, 262143, 524287, 1048575, 1048575, 3145727, 8388607, 16777215, 1048575, 67108863, 134217727, 268435455, 536870911]
theorem impl_isPairs.tab4 : rtab .any (opsOf Try.f27 4) = impl_isPairs.T4 := by kernel_rfl
theorem impl_isPairs.bits4 : waitsOk impl_isPairs.T4.2 impl_isPairs.B4 = true := by kernel_rfl
set_option maxHeartbeats 8000000 in
set_option maxRecDepth 100000 in
theorem impl_isPairs.calls (k : Nat) (A0 : Option Addr) (c0 : Nat) (l0 : List (S48)) (a1 : Int) (r : Bool) (w : World) (hr0 : Kd.C k48 w A0 l0.length l0) (hc0 : l0.length ≤ c0) (h : impl_isPairs.f k l0 a1 = some r) :
 Calls Try.prog 27 #[.slice A0 l0.length c0, .int .i64 a1] w fun e w' => e = .returned (.bool r) ∧ Below w.heap.size w w' := by
 have hu48 := Try.underlying48
 have HR0 := Aside0.mk hr0
 have HC0 := Aside0.mk hc0
 clear hr0 hc0
 have HB := zM (Below.refl w.heap.size w)
 have H : (impl_isPairs.l0 k l0 a1 l0 (l0.length : Int) 0) = some r := h
 clear h
 have H' := Aside0.mk H
 clear H
 go_enter Try.func27, Try.ntmps27
 go_wp2
 go_loopg [9] k (fun kq v9 w' => ∃ (x9_1 : Int), v9 = .int .i64 x9_1 ∧ Aside0 (impl_isPairs.l0 kq l0 a1 l0 (l0.length : Int) x9_1 = some r) ∧ Aside0 (kq ≤ k) ∧ Aside0 (Below w.heap.size w w'))
 case atStart => exact ⟨(0), (by first | rfl | (simp; done) | (simp [*]; done)), H', ⟨Nat.le_refl _⟩, ⟨zB⟩⟩
 case round =>
  clear H'
  try clear c2
  try clear p2
  obtain ⟨x9_1, rfl, HA, HK1, HB⟩ := hrel
  cases gk with
  | zero => exact absurd HA.out (by simp [impl_isPairs.l0])
  | succ k1 =>
   have H := HA.out
   clear HA
   simp only [impl_isPairs.l0] at H
   by_cases c3 : x9_1 < (l0.length : Int)
   · rw [if_pos c3] at H
     have c3b0 := decide_eq_true c3
     clear c3
     by_cases c4 : 0 ≤ x9_1
     · rw [if_pos c4] at H
       have c4b0 := decide_eq_true c4
       clear c4
       by_cases c5 : x9_1 < (l0.length : Int)
       · rw [if_pos c5] at H
         have c5b0 := decide_eq_true c5
         clear c5
         by_cases c6 : ((rd_T48 l0 x9_1).f0) < 0
         · rw [if_pos c6] at H
           have c6b0 := decide_eq_true c6
           clear c6
           obtain rfl := Option.some.inj H
           have p133 : 0 ≤ (x9_1 : Int) := of_decide_eq_true zA
           have q133 : x9_1 < (l0.length : Int) := of_decide_eq_true zA
           obtain ⟨ad133, e133, hx133_0, hx133_1⟩ := at_T48 HR0.out x9_1 p133 q133
           cases e133
           (try replace hx133_0 := (HB.out.cell (World.block_lt_of_cell? w _ hx133_0)).trans hx133_0)
           (try replace hx133_1 := (HB.out.cell (World.block_lt_of_cell? w _ hx133_1)).trans hx133_1)
           replace p133 := eq_true p133
           replace q133 := eq_true q133
           try go_wp2_with (first | ((with_reducible refine gate_dst (N := 6) rfl ?_); refine zb (w := w) 6 #[.int .i64 0, .int .i64 0] 48 zB ?_; clear HB; intro gb134 w7 HB BK134 GW134; have GE134 := GW134; have hcz8_0 := zy BK134 0; have hcz8_1 := zy BK134 1; have hfz8_0 := blk_frozen BK134.out 0; have hfz8_1 := blk_frozen BK134.out 1))
           have n0_ : Aside0 (((w7.setCell ⟨gb134, 0, none⟩ (.int .i64 ((rd_T48 l0 x9_1).f0))).setCell ⟨gb134, 1, none⟩ (.int .i64 ((rd_T48 l0 x9_1).f1))).heap[gb134]? = some (.cells #[.int .i64 ((rd_T48 l0 x9_1).f0), .int .i64 ((rd_T48 l0 x9_1).f1)] 48 (0, 0))) := ⟨by (with_reducible repeat (first | refine blk_drewN ?_ _ | refine blk_drew ?_ | refine blk_alloc ?_ _)); refine blk_put (cs := #[.int .i64 ((rd_T48 l0 x9_1).f0), .int .i64 0]) ?_ 1 _ rfl; (with_reducible repeat (first | refine blk_drewN ?_ _ | refine blk_drew ?_ | refine blk_alloc ?_ _)); refine blk_put (cs := #[.int .i64 0, .int .i64 0]) ?_ 0 _ rfl; (with_reducible repeat (first | refine blk_drewN ?_ _ | refine blk_drew ?_ | refine blk_alloc ?_ _)); exact BK134.out⟩
           have n1_ : Aside0 (Below w.heap.size w ((w7.setCell ⟨gb134, 0, none⟩ (.int .i64 ((rd_T48 l0 x9_1).f0))).setCell ⟨gb134, 1, none⟩ (.int .i64 ((rd_T48 l0 x9_1).f1)))) := ⟨zB⟩
           (try clear BK134)
           (try clear HB)
           generalize ((w7.setCell ⟨gb134, 0, none⟩ (.int .i64 ((rd_T48 l0 x9_1).f0))).setCell ⟨gb134, 1, none⟩ (.int .i64 ((rd_T48 l0 x9_1).f1))) = w9 at n0_ n1_ ⊢
           have BK134 := n0_
           have HB := n1_
           clear n0_ n1_
           replace BK134 := zM (blk_drew BK134.out)
           replace HB := zM (below_drew1 HB.out)
           refine zs (n := 30) (fun w' => w'.cell? ⟨gb134, 0, none⟩ = some (.int .i64 ((rd_T48 l0 x9_1).f0)) ∧ w'.cell? ⟨gb134, 1, none⟩ = some (.int .i64 ((rd_T48 l0 x9_1).f1))) ⟨(blk_cell BK134.out 0).trans rfl, (blk_cell BK134.out 1).trans rfl⟩ (fun hHeld => ?_); refine with_tabW impl_isPairs.tab4 impl_isPairs.bits4 (fun HT_ HW_ => ?_)
           generalize w9.drew = w10 at BK134 HB hHeld ⊢
           refine zp HT_ 0 14 ?_
           refine zt HT_ HW_ 1 15 hHeld ?_ (hy := by rintro w' ⟨s0, s1⟩; go_simp; with_reducible rfl)
           refine zp HT_ 2 16 ?_
           refine zp HT_ 3 17 ?_
           refine zu HT_ 4 18 ?_
           refine zu HT_ 5 19 ?_
           refine zu HT_ 6 20 ?_
           refine zu HT_ 7 21 ?_
           refine zu HT_ 8 22 ?_
           refine zp HT_ 9 23 ?_
           refine zp HT_ 10 24 ?_
           refine zu HT_ 11 25 ?_
           refine zu HT_ 12 26 ?_
           refine zu HT_ 13 27 ?_
           refine zu HT_ 14 28 ?_
           refine zp HT_ 15 29 ?_
           refine zp HT_ 16 30 ?_
           refine zu HT_ 17 31 ?_
           refine zu HT_ 18 32 ?_
           refine zu HT_ 19 33 ?_
           refine zu HT_ 20 34 ?_
           refine zu HT_ 21 35 ?_
           refine zu HT_ 22 36 ?_
           refine zu HT_ 23 37 ?_
           refine zu HT_ 24 38 ?_
           refine zu HT_ 25 39 ?_
           refine zu HT_ 26 40 ?_
           refine zu HT_ 27 41 ?_
           refine zu HT_ 28 42 ?_
           refine zp HT_ 29 43 ?_
           refine zo HT_ ?_
           try go_wp2
           go_ret
           exact ⟨by first | rfl | (simp [errW_none, errW_some] <;> rfl) | (simp [*, errW_none, errW_some] <;> rfl), zB⟩
         · rw [if_neg c6] at H
           have c6b0 : decide (((rd_T48 l0 x9_1).f0) < 0) = false := decide_eq_false c6
           clear c6
           by_cases c11 : ((rd_T48 l0 x9_1).f0) ≥ ((rd_T48 l0 x9_1).f1)
           · rw [if_pos c11] at H
             have c11b0 : decide (((rd_T48 l0 x9_1).f1) ≤ ((rd_T48 l0 x9_1).f0)) = true := decide_eq_true c11
             clear c11
             obtain rfl := Option.some.inj H
             have p133 : 0 ≤ (x9_1 : Int) := of_decide_eq_true zA
             have q133 : x9_1 < (l0.length : Int) := of_decide_eq_true zA
             obtain ⟨ad133, e133, hx133_0, hx133_1⟩ := at_T48 HR0.out x9_1 p133 q133
             cases e133
             (try replace hx133_0 := (HB.out.cell (World.block_lt_of_cell? w _ hx133_0)).trans hx133_0)
             (try replace hx133_1 := (HB.out.cell (World.block_lt_of_cell? w _ hx133_1)).trans hx133_1)
             replace p133 := eq_true p133
             replace q133 := eq_true q133
             try go_wp2_with (first | ((with_reducible refine gate_dst (N := 6) rfl ?_); refine zb (w := w) 6 #[.int .i64 0, .int .i64 0] 48 zB ?_; clear HB; intro gb134 w12 HB BK134 GW134; have GE134 := GW134; have hcz13_0 := zy BK134 0; have hcz13_1 := zy BK134 1; have hfz13_0 := blk_frozen BK134.out 0; have hfz13_1 := blk_frozen BK134.out 1))
             have n0_ : Aside0 (((w12.setCell ⟨gb134, 0, none⟩ (.int .i64 ((rd_T48 l0 x9_1).f0))).setCell ⟨gb134, 1, none⟩ (.int .i64 ((rd_T48 l0 x9_1).f1))).heap[gb134]? = some (.cells #[.int .i64 ((rd_T48 l0 x9_1).f0), .int .i64 ((rd_T48 l0 x9_1).f1)] 48 (0, 0))) := ⟨by (with_reducible repeat (first | refine blk_drewN ?_ _ | refine blk_drew ?_ | refine blk_alloc ?_ _)); refine blk_put (cs := #[.int .i64 ((rd_T48 l0 x9_1).f0), .int .i64 0]) ?_ 1 _ rfl; (with_reducible repeat (first | refine blk_drewN ?_ _ | refine blk_drew ?_ | refine blk_alloc ?_ _)); refine blk_put (cs := #[.int .i64 0, .int .i64 0]) ?_ 0 _ rfl; (with_reducible repeat (first | refine blk_drewN ?_ _ | refine blk_drew ?_ | refine blk_alloc ?_ _)); exact BK134.out⟩
             have n1_ : Aside0 (Below w.heap.size w ((w12.setCell ⟨gb134, 0, none⟩ (.int .i64 ((rd_T48 l0 x9_1).f0))).setCell ⟨gb134, 1, none⟩ (.int .i64 ((rd_T48 l0 x9_1).f1)))) := ⟨zB⟩
             (try clear BK134)
             (try clear HB)
             generalize ((w12.setCell ⟨gb134, 0, none⟩ (.int .i64 ((rd_T48 l0 x9_1).f0))).setCell ⟨gb134, 1, none⟩ (.int .i64 ((rd_T48 l0 x9_1).f1))) = w14 at n0_ n1_ ⊢
             have BK134 := n0_
             have HB := n1_
             clear n0_ n1_
             replace BK134 := zM (blk_drew BK134.out)
             replace HB := zM (below_drew1 HB.out)
             refine zs (n := 30) (fun w' => w'.cell? ⟨gb134, 0, none⟩ = some (.int .i64 ((rd_T48 l0 x9_1).f0)) ∧ w'.cell? ⟨gb134, 1, none⟩ = some (.int .i64 ((rd_T48 l0 x9_1).f1))) ⟨(blk_cell BK134.out 0).trans rfl, (blk_cell BK134.out 1).trans rfl⟩ (fun hHeld => ?_); refine with_tabW impl_isPairs.tab4 impl_isPairs.bits4 (fun HT_ HW_ => ?_)
             generalize w14.drew = w15 at BK134 HB hHeld ⊢
             refine zp HT_ 0 14 ?_
             refine zt HT_ HW_ 1 15 hHeld ?_ (hy := by rintro w' ⟨s0, s1⟩; go_simp; with_reducible rfl)
             refine zp HT_ 2 16 ?_
             refine zp HT_ 3 17 ?_
             refine zp HT_ 4 18 ?_
             refine zp HT_ 6 20 ?_
             refine zt HT_ HW_ 5 19 hHeld ?_ (hy := by rintro w' ⟨s0, s1⟩; go_simp; with_reducible rfl)
             refine zt HT_ HW_ 7 21 hHeld ?_ (hy := by rintro w' ⟨s0, s1⟩; go_simp; with_reducible rfl)
             refine zp HT_ 8 22 ?_
             refine zp HT_ 9 23 ?_
             refine zp HT_ 10 24 ?_
             refine zu HT_ 11 25 ?_
             refine zu HT_ 12 26 ?_
             refine zu HT_ 13 27 ?_
             refine zu HT_ 14 28 ?_
             refine zp HT_ 15 29 ?_
             refine zp HT_ 16 30 ?_
             refine zu HT_ 17 31 ?_
             refine zu HT_ 18 32 ?_
             refine zu HT_ 19 33 ?_
             refine zu HT_ 20 34 ?_
             refine zu HT_ 21 35 ?_
             refine zu HT_ 22 36 ?_
             refine zu HT_ 23 37 ?_
             refine zu HT_ 24 38 ?_
             refine zu HT_ 25 39 ?_
             refine zu HT_ 26 40 ?_
             refine zu HT_ 27 41 ?_
             refine zu HT_ 28 42 ?_
             refine zp HT_ 29 43 ?_
             refine zo HT_ ?_
             try go_wp2
             go_ret
             exact ⟨by first | rfl | (simp [errW_none, errW_some] <;> rfl) | (simp [*, errW_none, errW_some] <;> rfl), zB⟩
           · rw [if_neg c11] at H
             have c11b0 : decide (((rd_T48 l0 x9_1).f1) ≤ ((rd_T48 l0 x9_1).f0)) = false := decide_eq_false c11
             clear c11
             by_cases c16 : ((rd_T48 l0 x9_1).f1) ≥ a1
             · rw [if_pos c16] at H
               have c16b0 : decide (a1 ≤ ((rd_T48 l0 x9_1).f1)) = true := decide_eq_true c16
               clear c16
               obtain rfl := Option.some.inj H
               have p133 : 0 ≤ (x9_1 : Int) := of_decide_eq_true zA
               have q133 : x9_1 < (l0.length : Int) := of_decide_eq_true zA
               obtain ⟨ad133, e133, hx133_0, hx133_1⟩ := at_T48 HR0.out x9_1 p133 q133
               cases e133
               (try replace hx133_0 := (HB.out.cell (World.block_lt_of_cell? w _ hx133_0)).trans hx133_0)
               (try replace hx133_1 := (HB.out.cell (World.block_lt_of_cell? w _ hx133_1)).trans hx133_1)
               replace p133 := eq_true p133
               replace q133 := eq_true q133
               try go_wp2_with (first | ((with_reducible refine gate_dst (N := 6) rfl ?_); refine zb (w := w) 6 #[.int .i64 0, .int .i64 0] 48 zB ?_; clear HB; intro gb134 w17 HB BK134 GW134; have GE134 := GW134; have hcz18_0 := zy BK134 0; have hcz18_1 := zy BK134 1; have hfz18_0 := blk_frozen BK134.out 0; have hfz18_1 := blk_frozen BK134.out 1))
               have n0_ : Aside0 (((w17.setCell ⟨gb134, 0, none⟩ (.int .i64 ((rd_T48 l0 x9_1).f0))).setCell ⟨gb134, 1, none⟩ (.int .i64 ((rd_T48 l0 x9_1).f1))).heap[gb134]? = some (.cells #[.int .i64 ((rd_T48 l0 x9_1).f0), .int .i64 ((rd_T48 l0 x9_1).f1)] 48 (0, 0))) := ⟨by (with_reducible repeat (first | refine blk_drewN ?_ _ | refine blk_drew ?_ | refine blk_alloc ?_ _)); refine blk_put (cs := #[.int .i64 ((rd_T48 l0 x9_1).f0), .int .i64 0]) ?_ 1 _ rfl; (with_reducible repeat (first | refine blk_drewN ?_ _ | refine blk_drew ?_ | refine blk_alloc ?_ _)); refine blk_put (cs := #[.int .i64 0, .int .i64 0]) ?_ 0 _ rfl; (with_reducible repeat (first | refine blk_drewN ?_ _ | refine blk_drew ?_ | refine blk_alloc ?_ _)); exact BK134.out⟩
               have n1_ : Aside0 (Below w.heap.size w ((w17.setCell ⟨gb134, 0, none⟩ (.int .i64 ((rd_T48 l0 x9_1).f0))).setCell ⟨gb134, 1, none⟩ (.int .i64 ((rd_T48 l0 x9_1).f1)))) := ⟨zB⟩
               (try clear BK134)
               (try clear HB)
               generalize ((w17.setCell ⟨gb134, 0, none⟩ (.int .i64 ((rd_T48 l0 x9_1).f0))).setCell ⟨gb134, 1, none⟩ (.int .i64 ((rd_T48 l0 x9_1).f1))) = w19 at n0_ n1_ ⊢
               have BK134 := n0_
               have HB := n1_
               clear n0_ n1_
               replace BK134 := zM (blk_drew BK134.out)
               replace HB := zM (below_drew1 HB.out)
               refine zs (n := 30) (fun w' => w'.cell? ⟨gb134, 0, none⟩ = some (.int .i64 ((rd_T48 l0 x9_1).f0)) ∧ w'.cell? ⟨gb134, 1, none⟩ = some (.int .i64 ((rd_T48 l0 x9_1).f1))) ⟨(blk_cell BK134.out 0).trans rfl, (blk_cell BK134.out 1).trans rfl⟩ (fun hHeld => ?_); refine with_tabW impl_isPairs.tab4 impl_isPairs.bits4 (fun HT_ HW_ => ?_)
               generalize w19.drew = w20 at BK134 HB hHeld ⊢
               refine zp HT_ 0 14 ?_
               refine zt HT_ HW_ 1 15 hHeld ?_ (hy := by rintro w' ⟨s0, s1⟩; go_simp; with_reducible rfl)
               refine zp HT_ 2 16 ?_
               refine zp HT_ 3 17 ?_
               refine zp HT_ 4 18 ?_
               refine zp HT_ 6 20 ?_
               refine zt HT_ HW_ 5 19 hHeld ?_ (hy := by rintro w' ⟨s0, s1⟩; go_simp; with_reducible rfl)
               refine zt HT_ HW_ 7 21 hHeld ?_ (hy := by rintro w' ⟨s0, s1⟩; go_simp; with_reducible rfl)
               refine zp HT_ 8 22 ?_
               refine zp HT_ 9 23 ?_
               refine zp HT_ 10 24 ?_
               refine zp HT_ 11 25 ?_
               refine zp HT_ 13 27 ?_
               refine zt HT_ HW_ 12 26 hHeld ?_ (hy := by rintro w' ⟨s0, s1⟩; go_simp; with_reducible rfl)
               refine zp HT_ 14 28 ?_
               refine zp HT_ 15 29 ?_
               refine zp HT_ 16 30 ?_
               refine zu HT_ 17 31 ?_
               refine zu HT_ 18 32 ?_
               refine zu HT_ 19 33 ?_
               refine zu HT_ 20 34 ?_
               refine zu HT_ 21 35 ?_
               refine zu HT_ 22 36 ?_
               refine zu HT_ 23 37 ?_
               refine zu HT_ 24 38 ?_
               refine zu HT_ 25 39 ?_
               refine zu HT_ 26 40 ?_
               refine zu HT_ 27 41 ?_
               refine zu HT_ 28 42 ?_
               refine zp HT_ 29 43 ?_
               refine zo HT_ ?_
               try go_wp2
               go_ret
               exact ⟨by first | rfl | (simp [errW_none, errW_some] <;> rfl) | (simp [*, errW_none, errW_some] <;> rfl), zB⟩
             · rw [if_neg c16] at H
               have c16b0 : decide (a1 ≤ ((rd_T48 l0 x9_1).f1)) = false := decide_eq_false c16
               clear c16
               by_cases c21 : x9_1 > 0
               · rw [if_pos c21] at H
                 have c21b0 : decide (0 < x9_1) = true := decide_eq_true c21
                 clear c21
                 obtain ⟨ji22, hji22⟩ : ∃ j_ : Int, (wrap64 (x9_1 - 1)) = j_ := ⟨_, rfl⟩
                 replace H : (if 0 ≤ (ji22) then (if (ji22) < (l0.length : Int) then ((impl_comparePairs.f k1 ((rd_T48 l0 (ji22)).f0) ((rd_T48 l0 (ji22)).f1) ((rd_T48 l0 x9_1).f0) ((rd_T48 l0 x9_1).f1)).bind fun t136 => (if t136 ≥ 0 then (some false) else (impl_isPairs.l0 k1 l0 a1 l0 (l0.length : Int) (wrap64 (x9_1 + 1))))) else (none)) else (none)) = some r := by first | (rw [hji22] at H; exact H) | (simp only [hji22] at H ⊢; exact H)
                 have hji22w : (IntKind.i64.wrap (x9_1 - 1)) = ji22 := (i64_w _).trans hji22
                 by_cases c23 : 0 ≤ (ji22)
                 · rw [if_pos c23] at H
                   have c23b0 := decide_eq_true c23
                   clear c23
                   by_cases c24 : (ji22) < (l0.length : Int)
                   · rw [if_pos c24] at H
                     have c24b0 := decide_eq_true c24
                     clear c24
                     replace H := Option.bind_eq_some_iff.mp H
                     obtain ⟨t136, A250, H⟩ := H
                     have A25 := Aside0.mk A250
                     clear A250
                     by_cases c26 : t136 ≥ 0
                     · rw [if_pos c26] at H
                       have c26b0 : decide (0 ≤ t136) = true := decide_eq_true c26
                       clear c26
                       obtain rfl := Option.some.inj H
                       have p133 : 0 ≤ (x9_1 : Int) := of_decide_eq_true zA
                       have q133 : x9_1 < (l0.length : Int) := of_decide_eq_true zA
                       obtain ⟨ad133, e133, hx133_0, hx133_1⟩ := at_T48 HR0.out x9_1 p133 q133
                       cases e133
                       (try replace hx133_0 := (HB.out.cell (World.block_lt_of_cell? w _ hx133_0)).trans hx133_0)
                       (try replace hx133_1 := (HB.out.cell (World.block_lt_of_cell? w _ hx133_1)).trans hx133_1)
                       replace p133 := eq_true p133
                       replace q133 := eq_true q133
                       try go_wp2_with (first | ((with_reducible refine gate_dst (N := 6) rfl ?_); refine zb (w := w) 6 #[.int .i64 0, .int .i64 0] 48 zB ?_; clear HB; intro gb134 w27 HB BK134 GW134; have GE134 := GW134; have hcz28_0 := zy BK134 0; have hcz28_1 := zy BK134 1; have hfz28_0 := blk_frozen BK134.out 0; have hfz28_1 := blk_frozen BK134.out 1))
                       have n0_ : Aside0 (((w27.setCell ⟨gb134, 0, none⟩ (.int .i64 ((rd_T48 l0 x9_1).f0))).setCell ⟨gb134, 1, none⟩ (.int .i64 ((rd_T48 l0 x9_1).f1))).heap[gb134]? = some (.cells #[.int .i64 ((rd_T48 l0 x9_1).f0), .int .i64 ((rd_T48 l0 x9_1).f1)] 48 (0, 0))) := ⟨by (with_reducible repeat (first | refine blk_drewN ?_ _ | refine blk_drew ?_ | refine blk_alloc ?_ _)); refine blk_put (cs := #[.int .i64 ((rd_T48 l0 x9_1).f0), .int .i64 0]) ?_ 1 _ rfl; (with_reducible repeat (first | refine blk_drewN ?_ _ | refine blk_drew ?_ | refine blk_alloc ?_ _)); refine blk_put (cs := #[.int .i64 0, .int .i64 0]) ?_ 0 _ rfl; (with_reducible repeat (first | refine blk_drewN ?_ _ | refine blk_drew ?_ | refine blk_alloc ?_ _)); exact BK134.out⟩
                       have n1_ : Aside0 (Below w.heap.size w ((w27.setCell ⟨gb134, 0, none⟩ (.int .i64 ((rd_T48 l0 x9_1).f0))).setCell ⟨gb134, 1, none⟩ (.int .i64 ((rd_T48 l0 x9_1).f1)))) := ⟨zB⟩
                       (try clear BK134)
                       (try clear HB)
                       generalize ((w27.setCell ⟨gb134, 0, none⟩ (.int .i64 ((rd_T48 l0 x9_1).f0))).setCell ⟨gb134, 1, none⟩ (.int .i64 ((rd_T48 l0 x9_1).f1))) = w29 at n0_ n1_ ⊢
                       have BK134 := n0_
                       have HB := n1_
                       clear n0_ n1_
                       replace BK134 := zM (blk_drew BK134.out)
                       replace HB := zM (below_drew1 HB.out)
                       have p135 : 0 ≤ ((ji22) : Int) := of_decide_eq_true zA
                       have q135 : (ji22) < (l0.length : Int) := of_decide_eq_true zA
                       obtain ⟨ad135, e135, hx135_0, hx135_1⟩ := at_T48 HR0.out (ji22) p135 q135
                       have hw135_1 := hx135_1
                       have hw135_0 := hx135_0
                       obtain rfl : ad133 = ad135 := (by injection e135)
                       (try replace hx135_0 := (HB.out.cell (World.block_lt_of_cell? w _ hx135_0)).trans hx135_0)
                       (try replace hx135_1 := (HB.out.cell (World.block_lt_of_cell? w _ hx135_1)).trans hx135_1)
                       replace p135 := eq_true p135
                       replace q135 := eq_true q135
                       refine zs (n := 30) (fun w' => w'.cell? ⟨gb134, 0, none⟩ = some (.int .i64 ((rd_T48 l0 x9_1).f0)) ∧ w'.cell? ⟨gb134, 1, none⟩ = some (.int .i64 ((rd_T48 l0 x9_1).f1)) ∧ w'.cell? (ad133.add (((ji22)).toNat * 2)) = some (.int .i64 ((rd_T48 l0 (ji22)).f0)) ∧ w'.cell? ⟨(ad133.add (((ji22)).toNat * 2)).block, (ad133.add (((ji22)).toNat * 2)).off + 1, none⟩ = some (.int .i64 ((rd_T48 l0 (ji22)).f1))) ⟨(blk_cell BK134.out 0).trans rfl, (blk_cell BK134.out 1).trans rfl, ((HB.out.cell (World.block_lt_of_cell? w _ hw135_0)).trans hw135_0), ((HB.out.cell (World.block_lt_of_cell? w _ hw135_1)).trans hw135_1)⟩ (fun hHeld => ?_); refine with_tabW impl_isPairs.tab4 impl_isPairs.bits4 (fun HT_ HW_ => ?_)
                       generalize w29.drew = w30 at BK134 HB hx135_0 hx135_1 hHeld ⊢
                       refine zp HT_ 0 14 ?_
                       refine zt HT_ HW_ 1 15 hHeld ?_ (hy := by rintro w' ⟨s0, s1, s2, s3⟩; go_simp; with_reducible rfl)
                       refine zp HT_ 2 16 ?_
                       refine zp HT_ 3 17 ?_
                       refine zp HT_ 4 18 ?_
                       refine zp HT_ 6 20 ?_
                       refine zt HT_ HW_ 5 19 hHeld ?_ (hy := by rintro w' ⟨s0, s1, s2, s3⟩; go_simp; with_reducible rfl)
                       refine zt HT_ HW_ 7 21 hHeld ?_ (hy := by rintro w' ⟨s0, s1, s2, s3⟩; go_simp; with_reducible rfl)
                       refine zp HT_ 8 22 ?_
                       refine zp HT_ 9 23 ?_
                       refine zp HT_ 10 24 ?_
                       refine zp HT_ 11 25 ?_
                       refine zp HT_ 13 27 ?_
                       refine zt HT_ HW_ 12 26 hHeld ?_ (hy := by rintro w' ⟨s0, s1, s2, s3⟩; go_simp; with_reducible rfl)
                       refine zp HT_ 14 28 ?_
                       refine zp HT_ 15 29 ?_
                       refine zp HT_ 16 30 ?_
                       refine zp HT_ 17 31 ?_
                       refine zp HT_ 18 32 ?_
                       refine zp HT_ 19 33 ?_
                       refine zp HT_ 20 34 ?_
                       refine zp HT_ 21 35 ?_
                       refine zp HT_ 22 36 ?_
                       refine zp HT_ 23 37 ?_
                       refine zt HT_ HW_ 24 38 hHeld ?_ (hy := by rintro w' ⟨s0, s1, s2, s3⟩; go_simp; with_reducible rfl)
                       refine zt HT_ HW_ 25 39 hHeld ?_ (hy := by rintro w' ⟨s0, s1, s2, s3⟩; go_simp; with_reducible rfl)
                       refine one_ (i := 26) (N := some 40) #[true, true, true, true, true, true, true, true, true, true, true, true, true, true, true, true, true, true, true, true, true, true, true, true, true, true, true, false, false, false] rfl rfl (one_of HT_.out (by kernel_rfl)) (by decide) (fun K hK => ?_)
                       refine goes_ Try.func41 (by kernel_rfl) rfl #[.agg #[.int .i64 ((rd_T48 l0 (ji22)).f0), .int .i64 ((rd_T48 l0 (ji22)).f1)], .agg #[.int .i64 ((rd_T48 l0 x9_1).f0), .int .i64 ((rd_T48 l0 x9_1).f1)]] (by rfl) rfl rfl (by (try simp only [List.map_toArray, List.map_cons, List.map_nil]); first | done | (simp only [hji22]; rfl) | rfl | (simp only [List.length_drop, List.length_take]; rfl)) ?_
                       with_reducible refine (impl_comparePairs.calls k1 ((rd_T48 l0 (ji22)).f0) ((rd_T48 l0 (ji22)).f1) ((rd_T48 l0 x9_1).f0) ((rd_T48 l0 x9_1).f1) t136 _ A25.out).mono ?_
                       rintro e w31 ⟨rfl, hb⟩
                       refine ⟨_, rfl, ?_⟩
                       replace BK134 := zM (blk_below (g := gb134) (o := .cells #[.int .i64 ((rd_T48 l0 x9_1).f0), .int .i64 ((rd_T48 l0 x9_1).f1)] 48 (0, 0)) (zK BK134.out) hb)
                       replace HB := zM (below_step zB hb)
                       (try clear hb)
                       (try clear hb2)
                       (try clear hk)
                       (try clear hi)
                       refine hK.out _ _ ⟨(blk_cell BK134.out 0).trans rfl, (blk_cell BK134.out 1).trans rfl, ((HB.out.cell (World.block_lt_of_cell? w _ hw135_0)).trans hw135_0), ((HB.out.cell (World.block_lt_of_cell? w _ hw135_1)).trans hw135_1)⟩ (fun hHeld => ?_)
                       clear hK K
                       refine zn 40 ?_
                       refine zp HT_ 27 41 ?_
                       refine zp HT_ 28 42 ?_
                       refine zp HT_ 29 43 ?_
                       refine zo HT_ ?_
                       try go_wp2
                       go_ret
                       exact ⟨by first | rfl | (simp [errW_none, errW_some] <;> rfl) | (simp only [← hji22]; first | rfl | (simp [errW_none, errW_some] <;> rfl)) | (simp [*, errW_none, errW_some] <;> rfl), zB⟩
                     · rw [if_neg c26] at H
                       have c26b0 : decide (0 ≤ t136) = false := decide_eq_false c26
                       clear c26
                       have H' := Aside0.mk H
                       clear H
                       have p133 : 0 ≤ (x9_1 : Int) := of_decide_eq_true zA
                       have q133 : x9_1 < (l0.length : Int) := of_decide_eq_true zA
                       obtain ⟨ad133, e133, hx133_0, hx133_1⟩ := at_T48 HR0.out x9_1 p133 q133
                       cases e133
                       (try replace hx133_0 := (HB.out.cell (World.block_lt_of_cell? w _ hx133_0)).trans hx133_0)
                       (try replace hx133_1 := (HB.out.cell (World.block_lt_of_cell? w _ hx133_1)).trans hx133_1)
                       replace p133 := eq_true p133
                       replace q133 := eq_true q133
                       try go_wp2_with (first | ((with_reducible refine gate_dst (N := 6) rfl ?_); refine zb (w := w) 6 #[.int .i64 0, .int .i64 0] 48 zB ?_; clear HB; intro gb134 w32 HB BK134 GW134; have GE134 := GW134; have hcz33_0 := zy BK134 0; have hcz33_1 := zy BK134 1; have hfz33_0 := blk_frozen BK134.out 0; have hfz33_1 := blk_frozen BK134.out 1))
                       have n0_ : Aside0 (((w32.setCell ⟨gb134, 0, none⟩ (.int .i64 ((rd_T48 l0 x9_1).f0))).setCell ⟨gb134, 1, none⟩ (.int .i64 ((rd_T48 l0 x9_1).f1))).heap[gb134]? = some (.cells #[.int .i64 ((rd_T48 l0 x9_1).f0), .int .i64 ((rd_T48 l0 x9_1).f1)] 48 (0, 0))) := ⟨by (with_reducible repeat (first | refine blk_drewN ?_ _ | refine blk_drew ?_ | refine blk_alloc ?_ _)); refine blk_put (cs := #[.int .i64 ((rd_T48 l0 x9_1).f0), .int .i64 0]) ?_ 1 _ rfl; (with_reducible repeat (first | refine blk_drewN ?_ _ | refine blk_drew ?_ | refine blk_alloc ?_ _)); refine blk_put (cs := #[.int .i64 0, .int .i64 0]) ?_ 0 _ rfl; (with_reducible repeat (first | refine blk_drewN ?_ _ | refine blk_drew ?_ | refine blk_alloc ?_ _)); exact BK134.out⟩
                       have n1_ : Aside0 (Below w.heap.size w ((w32.setCell ⟨gb134, 0, none⟩ (.int .i64 ((rd_T48 l0 x9_1).f0))).setCell ⟨gb134, 1, none⟩ (.int .i64 ((rd_T48 l0 x9_1).f1)))) := ⟨zB⟩
                       (try clear BK134)
                       (try clear HB)
                       generalize ((w32.setCell ⟨gb134, 0, none⟩ (.int .i64 ((rd_T48 l0 x9_1).f0))).setCell ⟨gb134, 1, none⟩ (.int .i64 ((rd_T48 l0 x9_1).f1))) = w34 at n0_ n1_ ⊢
                       have BK134 := n0_
                       have HB := n1_
                       clear n0_ n1_
                       replace BK134 := zM (blk_drew BK134.out)
                       replace HB := zM (below_drew1 HB.out)
                       have p135 : 0 ≤ ((ji22) : Int) := of_decide_eq_true zA
                       have q135 : (ji22) < (l0.length : Int) := of_decide_eq_true zA
                       obtain ⟨ad135, e135, hx135_0, hx135_1⟩ := at_T48 HR0.out (ji22) p135 q135
                       have hw135_1 := hx135_1
                       have hw135_0 := hx135_0
                       obtain rfl : ad133 = ad135 := (by injection e135)
                       (try replace hx135_0 := (HB.out.cell (World.block_lt_of_cell? w _ hx135_0)).trans hx135_0)
                       (try replace hx135_1 := (HB.out.cell (World.block_lt_of_cell? w _ hx135_1)).trans hx135_1)
                       replace p135 := eq_true p135
                       replace q135 := eq_true q135
                       refine zs (n := 30) (fun w' => w'.cell? ⟨gb134, 0, none⟩ = some (.int .i64 ((rd_T48 l0 x9_1).f0)) ∧ w'.cell? ⟨gb134, 1, none⟩ = some (.int .i64 ((rd_T48 l0 x9_1).f1)) ∧ w'.cell? (ad133.add (((ji22)).toNat * 2)) = some (.int .i64 ((rd_T48 l0 (ji22)).f0)) ∧ w'.cell? ⟨(ad133.add (((ji22)).toNat * 2)).block, (ad133.add (((ji22)).toNat * 2)).off + 1, none⟩ = some (.int .i64 ((rd_T48 l0 (ji22)).f1))) ⟨(blk_cell BK134.out 0).trans rfl, (blk_cell BK134.out 1).trans rfl, ((HB.out.cell (World.block_lt_of_cell? w _ hw135_0)).trans hw135_0), ((HB.out.cell (World.block_lt_of_cell? w _ hw135_1)).trans hw135_1)⟩ (fun hHeld => ?_); refine with_tabW impl_isPairs.tab4 impl_isPairs.bits4 (fun HT_ HW_ => ?_)
                       generalize w34.drew = w35 at BK134 HB hx135_0 hx135_1 hHeld ⊢
                       refine zp HT_ 0 14 ?_
                       refine zt HT_ HW_ 1 15 hHeld ?_ (hy := by rintro w' ⟨s0, s1, s2, s3⟩; go_simp; with_reducible rfl)
                       refine zp HT_ 2 16 ?_
                       refine zp HT_ 3 17 ?_
                       refine zp HT_ 4 18 ?_
                       refine zp HT_ 6 20 ?_
                       refine zt HT_ HW_ 5 19 hHeld ?_ (hy := by rintro w' ⟨s0, s1, s2, s3⟩; go_simp; with_reducible rfl)
                       refine zt HT_ HW_ 7 21 hHeld ?_ (hy := by rintro w' ⟨s0, s1, s2, s3⟩; go_simp; with_reducible rfl)
                       refine zp HT_ 8 22 ?_
                       refine zp HT_ 9 23 ?_
                       refine zp HT_ 10 24 ?_
                       refine zp HT_ 11 25 ?_
                       refine zp HT_ 13 27 ?_
                       refine zt HT_ HW_ 12 26 hHeld ?_ (hy := by rintro w' ⟨s0, s1, s2, s3⟩; go_simp; with_reducible rfl)
                       refine zp HT_ 14 28 ?_
                       refine zp HT_ 15 29 ?_
                       refine zp HT_ 16 30 ?_
                       refine zp HT_ 17 31 ?_
                       refine zp HT_ 18 32 ?_
                       refine zp HT_ 19 33 ?_
                       refine zp HT_ 20 34 ?_
                       refine zp HT_ 21 35 ?_
                       refine zp HT_ 22 36 ?_
                       refine zp HT_ 23 37 ?_
                       refine zt HT_ HW_ 24 38 hHeld ?_ (hy := by rintro w' ⟨s0, s1, s2, s3⟩; go_simp; with_reducible rfl)
                       refine zt HT_ HW_ 25 39 hHeld ?_ (hy := by rintro w' ⟨s0, s1, s2, s3⟩; go_simp; with_reducible rfl)
                       refine one_ (i := 26) (N := some 40) #[true, true, true, true, true, true, true, true, true, true, true, true, true, true, true, true, true, true, true, true, true, true, true, true, true, true, true, false, false, false] rfl rfl (one_of HT_.out (by kernel_rfl)) (by decide) (fun K hK => ?_)
                       refine goes_ Try.func41 (by kernel_rfl) rfl #[.agg #[.int .i64 ((rd_T48 l0 (ji22)).f0), .int .i64 ((rd_T48 l0 (ji22)).f1)], .agg #[.int .i64 ((rd_T48 l0 x9_1).f0), .int .i64 ((rd_T48 l0 x9_1).f1)]] (by rfl) rfl rfl (by (try simp only [List.map_toArray, List.map_cons, List.map_nil]); first | done | (simp only [hji22]; rfl) | rfl | (simp only [List.length_drop, List.length_take]; rfl)) ?_
                       with_reducible refine (impl_comparePairs.calls k1 ((rd_T48 l0 (ji22)).f0) ((rd_T48 l0 (ji22)).f1) ((rd_T48 l0 x9_1).f0) ((rd_T48 l0 x9_1).f1) t136 _ A25.out).mono ?_
                       rintro e w36 ⟨rfl, hb⟩
                       refine ⟨_, rfl, ?_⟩
                       replace BK134 := zM (blk_below (g := gb134) (o := .cells #[.int .i64 ((rd_T48 l0 x9_1).f0), .int .i64 ((rd_T48 l0 x9_1).f1)] 48 (0, 0)) (zK BK134.out) hb)
                       replace HB := zM (below_step zB hb)
                       (try clear hb)
                       (try clear hb2)
                       (try clear hk)
                       (try clear hi)
                       refine hK.out _ _ ⟨(blk_cell BK134.out 0).trans rfl, (blk_cell BK134.out 1).trans rfl, ((HB.out.cell (World.block_lt_of_cell? w _ hw135_0)).trans hw135_0), ((HB.out.cell (World.block_lt_of_cell? w _ hw135_1)).trans hw135_1)⟩ (fun hHeld => ?_)
                       clear hK K
                       refine zn 40 ?_
                       refine zp HT_ 27 41 ?_
                       refine zp HT_ 28 42 ?_
                       refine zp HT_ 29 43 ?_
                       refine zo HT_ ?_
                       try go_wp2
                       go_roundg k1
                       case measure => have := HK1.out; omega
                       case rel => exact ⟨(wrap64 (x9_1 + 1)), (by first | rfl | (simp; done) | (simp [*]; done)), H', ⟨by have := HK1.out; omega⟩, ⟨zB⟩⟩
                   · rw [if_neg c24] at H
                     exact absurd H (by simp)
                 · rw [if_neg c23] at H
                   exact absurd H (by simp)
               · rw [if_neg c21] at H
                 have c21b0 : decide (0 < x9_1) = false := decide_eq_false c21
                 clear c21
                 have H' := Aside0.mk H
                 clear H
                 have p133 : 0 ≤ (x9_1 : Int) := of_decide_eq_true zA
                 have q133 : x9_1 < (l0.length : Int) := of_decide_eq_true zA
                 obtain ⟨ad133, e133, hx133_0, hx133_1⟩ := at_T48 HR0.out x9_1 p133 q133
                 cases e133
                 (try replace hx133_0 := (HB.out.cell (World.block_lt_of_cell? w _ hx133_0)).trans hx133_0)
                 (try replace hx133_1 := (HB.out.cell (World.block_lt_of_cell? w _ hx133_1)).trans hx133_1)
                 replace p133 := eq_true p133
                 replace q133 := eq_true q133
                 try go_wp2_with (first | ((with_reducible refine gate_dst (N := 6) rfl ?_); refine zb (w := w) 6 #[.int .i64 0, .int .i64 0] 48 zB ?_; clear HB; intro gb134 w37 HB BK134 GW134; have GE134 := GW134; have hcz38_0 := zy BK134 0; have hcz38_1 := zy BK134 1; have hfz38_0 := blk_frozen BK134.out 0; have hfz38_1 := blk_frozen BK134.out 1))
                 have n0_ : Aside0 (((w37.setCell ⟨gb134, 0, none⟩ (.int .i64 ((rd_T48 l0 x9_1).f0))).setCell ⟨gb134, 1, none⟩ (.int .i64 ((rd_T48 l0 x9_1).f1))).heap[gb134]? = some (.cells #[.int .i64 ((rd_T48 l0 x9_1).f0), .int .i64 ((rd_T48 l0 x9_1).f1)] 48 (0, 0))) := ⟨by (with_reducible repeat (first | refine blk_drewN ?_ _ | refine blk_drew ?_ | refine blk_alloc ?_ _)); refine blk_put (cs := #[.int .i64 ((rd_T48 l0 x9_1).f0), .int .i64 0]) ?_ 1 _ rfl; (with_reducible repeat (first | refine blk_drewN ?_ _ | refine blk_drew ?_ | refine blk_alloc ?_ _)); refine blk_put (cs := #[.int .i64 0, .int .i64 0]) ?_ 0 _ rfl; (with_reducible repeat (first | refine blk_drewN ?_ _ | refine blk_drew ?_ | refine blk_alloc ?_ _)); exact BK134.out⟩
                 have n1_ : Aside0 (Below w.heap.size w ((w37.setCell ⟨gb134, 0, none⟩ (.int .i64 ((rd_T48 l0 x9_1).f0))).setCell ⟨gb134, 1, none⟩ (.int .i64 ((rd_T48 l0 x9_1).f1)))) := ⟨zB⟩
                 (try clear BK134)
                 (try clear HB)
                 generalize ((w37.setCell ⟨gb134, 0, none⟩ (.int .i64 ((rd_T48 l0 x9_1).f0))).setCell ⟨gb134, 1, none⟩ (.int .i64 ((rd_T48 l0 x9_1).f1))) = w39 at n0_ n1_ ⊢
                 have BK134 := n0_
                 have HB := n1_
                 clear n0_ n1_
                 replace BK134 := zM (blk_drew BK134.out)
                 replace HB := zM (below_drew1 HB.out)
                 refine zs (n := 30) (fun w' => w'.cell? ⟨gb134, 0, none⟩ = some (.int .i64 ((rd_T48 l0 x9_1).f0)) ∧ w'.cell? ⟨gb134, 1, none⟩ = some (.int .i64 ((rd_T48 l0 x9_1).f1))) ⟨(blk_cell BK134.out 0).trans rfl, (blk_cell BK134.out 1).trans rfl⟩ (fun hHeld => ?_); refine with_tabW impl_isPairs.tab4 impl_isPairs.bits4 (fun HT_ HW_ => ?_)
                 generalize w39.drew = w40 at BK134 HB hHeld ⊢
                 refine zp HT_ 0 14 ?_
                 refine zt HT_ HW_ 1 15 hHeld ?_ (hy := by rintro w' ⟨s0, s1⟩; go_simp; with_reducible rfl)
                 refine zp HT_ 2 16 ?_
                 refine zp HT_ 3 17 ?_
                 refine zp HT_ 4 18 ?_
                 refine zp HT_ 6 20 ?_
                 refine zt HT_ HW_ 5 19 hHeld ?_ (hy := by rintro w' ⟨s0, s1⟩; go_simp; with_reducible rfl)
                 refine zt HT_ HW_ 7 21 hHeld ?_ (hy := by rintro w' ⟨s0, s1⟩; go_simp; with_reducible rfl)
                 refine zp HT_ 8 22 ?_
                 refine zp HT_ 9 23 ?_
                 refine zp HT_ 10 24 ?_
                 refine zp HT_ 11 25 ?_
                 refine zp HT_ 13 27 ?_
                 refine zt HT_ HW_ 12 26 hHeld ?_ (hy := by rintro w' ⟨s0, s1⟩; go_simp; with_reducible rfl)
                 refine zp HT_ 14 28 ?_
                 refine zp HT_ 15 29 ?_
                 refine zp HT_ 16 30 ?_
                 refine zp HT_ 17 31 ?_
                 refine zp HT_ 18 32 ?_
                 refine zp HT_ 19 33 ?_
                 refine zu HT_ 20 34 ?_
                 refine zu HT_ 21 35 ?_
                 refine zu HT_ 22 36 ?_
                 refine zu HT_ 23 37 ?_
                 refine zu HT_ 24 38 ?_
                 refine zu HT_ 25 39 ?_
                 refine zu HT_ 26 40 ?_
                 refine zu HT_ 27 41 ?_
                 refine zp HT_ 28 42 ?_
                 refine zp HT_ 29 43 ?_
                 refine zo HT_ ?_
                 try go_wp2
                 go_roundg k1
                 case measure => have := HK1.out; omega
                 case rel => exact ⟨(wrap64 (x9_1 + 1)), (by first | rfl | (simp; done) | (simp [*]; done)), H', ⟨by have := HK1.out; omega⟩, ⟨zB⟩⟩
       · rw [if_neg c5] at H
         exact absurd H (by simp)
     · rw [if_neg c4] at H
       exact absurd H (by simp)
   · rw [if_neg c3] at H
     have c3b0 : decide (x9_1 < (l0.length : Int)) = false := decide_eq_false c3
     clear c3
     obtain rfl := Option.some.inj H
     go_wp2
     go_ret
     exact ⟨by first | rfl | (simp [errW_none, errW_some] <;> rfl) | (simp [*, errW_none, errW_some] <;> rfl), zB⟩

end Go.Proofs.Ytfaeopmofgnbdaa.P
namespace Go.Proofs.Ytfaeopmofgnbdaa.P
open Go.RowKit Go.Proofs.YtfaeopmofgnbdaaW.PrintWords Go.Proofs.YtfaeopmofgnbdaaW.PrintLast Go.Proofs.YtfaeopmofgnbdaaW.PrintMore
attribute [local go_sem] max2_int min2_int max_two min_two max_three min_three max_four min_four   -- for this text's walks alone
set_option linter.unusedVariables false
set_option linter.unusedSimpArgs false

/-! ### impl_IsGraph: function 16 -/
def impl_IsGraph.f (k : Nat) (a0_0 : Int) (l0_1 : List (S48)) : Option (Bool) := (impl_between.f a0_0 0 8).bind fun t138 => (if t138 = true then ((impl_isPairs.f k l0_1 a0_0).bind fun t139 => (some t139)) else (some false))
set_option maxHeartbeats 8000000 in
set_option maxRecDepth 100000 in
theorem impl_IsGraph.calls (k : Nat) (a0_0 : Int) (A0_1 : Option Addr) (c0_1 : Nat) (l0_1 : List (S48)) (r : Bool) (w : World) (hr0_1 : Kd.C k48 w A0_1 l0_1.length l0_1) (hc0_1 : l0_1.length ≤ c0_1) (h : impl_IsGraph.f k a0_0 l0_1 = some r) :
 Calls Try.prog 16 #[.agg #[.int .i64 a0_0, .slice A0_1 l0_1.length c0_1]] w fun e w' => e = .returned (.bool r) ∧ Below w.heap.size w w' := by
 have hu28 := Try.underlying28
 have HR0_1 := Aside0.mk hr0_1
 have HC0_1 := Aside0.mk hc0_1
 clear hr0_1 hc0_1
 have HB := zM (Below.refl w.heap.size w)
 have H : ((impl_between.f a0_0 0 8).bind fun t138 => (if t138 = true then ((impl_isPairs.f k l0_1 a0_0).bind fun t139 => (some t139)) else (some false))) = some r := h
 clear h
 replace H := Option.bind_eq_some_iff.mp H
 obtain ⟨t138, A20, H⟩ := H
 have A2 := Aside0.mk A20
 clear A20
 by_cases c3 : t138 = true
 · subst c3
   rw [if_pos rfl] at H
   replace H := Option.bind_eq_some_iff.mp H
   obtain ⟨t139, A40, H⟩ := H
   have A4 := Aside0.mk A40
   clear A40
   obtain rfl := Option.some.inj H
   go_enter Try.func16, Try.ntmps16
   go_wp2_with (first | ((with_reducible refine gate_dst (N := 1) rfl ?_); refine zb (w := w) 1 #[.int .i64 a0_0, .slice A0_1 l0_1.length c0_1] 28 zB ?_; clear HB; intro gb137 w5 HB BK137 GW137; have GE137 := GW137; have hcz6_0 := zy BK137 0; have hcz6_1 := zy BK137 1; have hfz6_0 := blk_frozen BK137.out 0; have hfz6_1 := blk_frozen BK137.out 1) | ((with_reducible refine gate_callee (f := 26) rfl ?_); refine zc 5 Try.func26 #[.int .i64 a0_0, .int .i64 0, .int .i64 8] ?_; (with_reducible refine (impl_between.calls a0_0 0 8 true _ A2.out).mono ?_); rintro e w' ⟨rfl, ⟨nd, rfl⟩⟩; refine ⟨_, rfl, ?_⟩) | (go_at_call 27; (with_reducible refine (impl_isPairs.calls k _ _ l0_1 a0_0 t139 _ ?side1 ?side2 A4.out).mono ?_); (case side1 => exact zC (Kd.C_below HR0_1.out zB)); (case side2 => exact HC0_1.out); rintro e w7 ⟨rfl, hb⟩; replace BK137 := zM (blk_below (g := gb137) (o := .cells #[.int .i64 a0_0, .slice A0_1 l0_1.length c0_1] 28 (0, 0)) (zK BK137.out) hb); replace HB := zM (below_step zB hb); (try clear hb); (try clear hb2); (try clear hk); (try clear hi)))
   go_ret
   exact ⟨by first | rfl | (simp [errW_none, errW_some] <;> rfl) | (simp [*, errW_none, errW_some] <;> rfl), zB⟩
 · replace c3 := Bool.eq_false_iff.mpr c3
   subst c3
   have H1 : (some false) = some r := by rw [if_neg (show ¬ (false = true) by decide)] at H; exact H
   clear H
   have H := H1
   clear H1
   obtain rfl := Option.some.inj H
   go_enter Try.func16, Try.ntmps16
   go_wp2_with (first | ((with_reducible refine gate_dst (N := 1) rfl ?_); refine zb (w := w) 1 #[.int .i64 a0_0, .slice A0_1 l0_1.length c0_1] 28 zB ?_; clear HB; intro gb137 w8 HB BK137 GW137; have GE137 := GW137; have hcz9_0 := zy BK137 0; have hcz9_1 := zy BK137 1; have hfz9_0 := blk_frozen BK137.out 0; have hfz9_1 := blk_frozen BK137.out 1) | ((with_reducible refine gate_callee (f := 26) rfl ?_); refine zc 5 Try.func26 #[.int .i64 a0_0, .int .i64 0, .int .i64 8] ?_; (with_reducible refine (impl_between.calls a0_0 0 8 false _ A2.out).mono ?_); rintro e w' ⟨rfl, ⟨nd, rfl⟩⟩; refine ⟨_, rfl, ?_⟩))
   go_ret
   exact ⟨by first | rfl | (simp [errW_none, errW_some] <;> rfl) | (simp [*, errW_none, errW_some] <;> rfl), zB⟩

/-! ### spec_l1In: function 34 -/
def spec_l1In.f (a0 : Int) (a1 : Int) (a2 : Int) : Option (Bool) := if a0 ≥ a1 then (some (decide (a0 ≤ a2))) else (some false)
set_option maxHeartbeats 8000000 in
set_option maxRecDepth 100000 in
theorem spec_l1In.calls (a0 : Int) (a1 : Int) (a2 : Int) (r : Bool) (w : World) (h : spec_l1In.f a0 a1 a2 = some r) :
 Calls Try.prog 34 #[.int .i64 a0, .int .i64 a1, .int .i64 a2] w fun e w' => e = .returned (.bool r) ∧ Drawn0 w w' := by
 have H : (if a0 ≥ a1 then (some (decide (a0 ≤ a2))) else (some false)) = some r := h
 clear h
 by_cases c4 : a0 ≥ a1
 · rw [if_pos c4] at H
   have c4b0 : decide (a1 ≤ a0) = true := decide_eq_true c4
   clear c4
   obtain rfl := Option.some.inj H
   go_enter Try.func34, Try.ntmps34
   go_wp2
   go_ret
   exact ⟨by first | rfl | (simp; done) | (simp [*]; done), by repeat (first | exact Drawn0.refl _ | apply Drawn0.step)⟩
 · rw [if_neg c4] at H
   have c4b0 : decide (a1 ≤ a0) = false := decide_eq_false c4
   clear c4
   obtain rfl := Option.some.inj H
   go_enter Try.func34, Try.ntmps34
   go_wp2
   go_ret
   exact ⟨by first | rfl | (simp; done) | (simp [*]; done), by repeat (first | exact Drawn0.refl _ | apply Drawn0.step)⟩

/-! ### spec_l2Edge: function 49 -/
def spec_l2Edge.f (a0_0 : Int) (a0_1 : Int) (a1_0 : Int) (a1_1 : Int) : Option (Bool) := if a0_0 < a1_0 then (some true) else (if a0_0 = a1_0 then (some (decide (a0_1 < a1_1))) else (some false))
set_option maxHeartbeats 8000000 in
set_option maxRecDepth 100000 in
theorem spec_l2Edge.calls (a0_0 : Int) (a0_1 : Int) (a1_0 : Int) (a1_1 : Int) (r : Bool) (w : World) (h : spec_l2Edge.f a0_0 a0_1 a1_0 a1_1 = some r) :
 Calls Try.prog 49 #[.agg #[.int .i64 a0_0, .int .i64 a0_1], .agg #[.int .i64 a1_0, .int .i64 a1_1]] w fun e w' => e = .returned (.bool r) ∧ Below w.heap.size w w' := by
 have hu48 := Try.underlying48
 have HB := zM (Below.refl w.heap.size w)
 have H : (if a0_0 < a1_0 then (some true) else (if a0_0 = a1_0 then (some (decide (a0_1 < a1_1))) else (some false))) = some r := h
 clear h
 by_cases c3 : a0_0 < a1_0
 · rw [if_pos c3] at H
   have c3b0 := decide_eq_true c3
   clear c3
   obtain rfl := Option.some.inj H
   go_enter Try.func49, Try.ntmps49
   go_wp2_with (first | ((with_reducible refine gate_dst (N := 2) rfl ?_); refine zb (w := w) 2 #[.int .i64 a0_0, .int .i64 a0_1] 48 zB ?_; clear HB; intro gb140 w4 HB BK140 GW140; have GE140 := GW140) | ((with_reducible refine gate_dst (N := 3) rfl ?_); refine ze 3 #[.int .i64 a1_0, .int .i64 a1_1] 48 ?_; intro gb141 hg w5 hbox hb; have BK141 := zM (hbox); have GW141 := zM ((by rw [hg]; exact (below_size zB) : w.heap.size ≤ gb141)); have GE141 := zM ((by rw [hg]; exact (below_size zB) : w.heap.size ≤ gb141)); replace HB := zM (below_step zB hb); have NB140_141 := zM ((by rw [hg]; exact Nat.ne_of_lt (blk_lt (g := gb140) (o := .cells #[.int .i64 a0_0, .int .i64 a0_1] 48 (0, 0)) (zK BK140.out)) : gb140 ≠ gb141)); have NB141_140 := zM ((by rw [hg]; exact Nat.ne_of_gt (blk_lt (g := gb140) (o := .cells #[.int .i64 a0_0, .int .i64 a0_1] 48 (0, 0)) (zK BK140.out)) : gb141 ≠ gb140)); replace BK140 := zM (blk_below (g := gb140) (o := .cells #[.int .i64 a0_0, .int .i64 a0_1] 48 (0, 0)) (zK BK140.out) hb); clear hb hbox hg; have hnb6 := NB140_141.out; have hnc6 := NB141_140.out; have hcz7_0 := zy BK140 0; have hcz7_1 := zy BK140 1; have hfz7_0 := blk_frozen BK140.out 0; have hfz7_1 := blk_frozen BK140.out 1; have hcz8_0 := zy BK141 0; have hcz8_1 := zy BK141 1; have hfz8_0 := blk_frozen BK141.out 0; have hfz8_1 := blk_frozen BK141.out 1))
   go_ret
   exact ⟨by first | rfl | (simp [errW_none, errW_some] <;> rfl) | (simp [*, errW_none, errW_some] <;> rfl), zB⟩
 · rw [if_neg c3] at H
   have c3b0 : decide (a0_0 < a1_0) = false := decide_eq_false c3
   clear c3
   by_cases c9 : a0_0 = a1_0
   · rw [if_pos c9] at H
     have c9b0 : (a0_0 == a1_0) = true := beq_iff_eq.mpr c9
     have c9b1 : (a0_0 != a1_0) = false := bne_eq_false_iff_eq.mpr c9
     clear c9
     obtain rfl := Option.some.inj H
     go_enter Try.func49, Try.ntmps49
     go_wp2_with (first | ((with_reducible refine gate_dst (N := 2) rfl ?_); refine zb (w := w) 2 #[.int .i64 a0_0, .int .i64 a0_1] 48 zB ?_; clear HB; intro gb140 w10 HB BK140 GW140; have GE140 := GW140) | ((with_reducible refine gate_dst (N := 3) rfl ?_); refine ze 3 #[.int .i64 a1_0, .int .i64 a1_1] 48 ?_; intro gb141 hg w11 hbox hb; have BK141 := zM (hbox); have GW141 := zM ((by rw [hg]; exact (below_size zB) : w.heap.size ≤ gb141)); have GE141 := zM ((by rw [hg]; exact (below_size zB) : w.heap.size ≤ gb141)); replace HB := zM (below_step zB hb); have NB140_141 := zM ((by rw [hg]; exact Nat.ne_of_lt (blk_lt (g := gb140) (o := .cells #[.int .i64 a0_0, .int .i64 a0_1] 48 (0, 0)) (zK BK140.out)) : gb140 ≠ gb141)); have NB141_140 := zM ((by rw [hg]; exact Nat.ne_of_gt (blk_lt (g := gb140) (o := .cells #[.int .i64 a0_0, .int .i64 a0_1] 48 (0, 0)) (zK BK140.out)) : gb141 ≠ gb140)); replace BK140 := zM (blk_below (g := gb140) (o := .cells #[.int .i64 a0_0, .int .i64 a0_1] 48 (0, 0)) (zK BK140.out) hb); clear hb hbox hg; have hnb12 := NB140_141.out; have hnc12 := NB141_140.out; have hcz13_0 := zy BK140 0; have hcz13_1 := zy BK140 1; have hfz13_0 := blk_frozen BK140.out 0; have hfz13_1 := blk_frozen BK140.out 1; have hcz14_0 := zy BK141 0; have hcz14_1 := zy BK141 1; have hfz14_0 := blk_frozen BK141.out 0; have hfz14_1 := blk_frozen BK141.out 1))
     go_ret
     exact ⟨by first | rfl | (simp [errW_none, errW_some] <;> rfl) | (simp [*, errW_none, errW_some] <;> rfl), zB⟩
   · rw [if_neg c9] at H
     have c9b0 : (a0_0 == a1_0) = false := beq_eq_false_iff_ne.mpr c9
     have c9b1 : (a0_0 != a1_0) = true := bne_iff_ne.mpr c9
     obtain rfl := Option.some.inj H
     go_enter Try.func49, Try.ntmps49
     go_wp2_with (first | ((with_reducible refine gate_dst (N := 2) rfl ?_); refine zb (w := w) 2 #[.int .i64 a0_0, .int .i64 a0_1] 48 zB ?_; clear HB; intro gb140 w15 HB BK140 GW140; have GE140 := GW140) | ((with_reducible refine gate_dst (N := 3) rfl ?_); refine ze 3 #[.int .i64 a1_0, .int .i64 a1_1] 48 ?_; intro gb141 hg w16 hbox hb; have BK141 := zM (hbox); have GW141 := zM ((by rw [hg]; exact (below_size zB) : w.heap.size ≤ gb141)); have GE141 := zM ((by rw [hg]; exact (below_size zB) : w.heap.size ≤ gb141)); replace HB := zM (below_step zB hb); have NB140_141 := zM ((by rw [hg]; exact Nat.ne_of_lt (blk_lt (g := gb140) (o := .cells #[.int .i64 a0_0, .int .i64 a0_1] 48 (0, 0)) (zK BK140.out)) : gb140 ≠ gb141)); have NB141_140 := zM ((by rw [hg]; exact Nat.ne_of_gt (blk_lt (g := gb140) (o := .cells #[.int .i64 a0_0, .int .i64 a0_1] 48 (0, 0)) (zK BK140.out)) : gb141 ≠ gb140)); replace BK140 := zM (blk_below (g := gb140) (o := .cells #[.int .i64 a0_0, .int .i64 a0_1] 48 (0, 0)) (zK BK140.out) hb); clear hb hbox hg; have hnb17 := NB140_141.out; have hnc17 := NB141_140.out; have hcz18_0 := zy BK140 0; have hcz18_1 := zy BK140 1; have hfz18_0 := blk_frozen BK140.out 0; have hfz18_1 := blk_frozen BK140.out 1; have hcz19_0 := zy BK141 0; have hcz19_1 := zy BK141 1; have hfz19_0 := blk_frozen BK141.out 0; have hfz19_1 := blk_frozen BK141.out 1))
     go_ret
     exact ⟨by first | rfl | (simp [errW_none, errW_some] <;> rfl) | (simp [*, errW_none, errW_some] <;> rfl), zB⟩

end Go.Proofs.Ytfaeopmofgnbdaa.P
