-- Written by a program of this session (the kit's print, turned: wip/print/patch.py) out of the translation. Not trusted: Lean checks it.
import Derived.Test.YtfaeopmofgnbdaaWideNumberG5
import Derived.Test.YtfaeopmofgnbdaaWideNumberG6
import Derived.Test.YtfaeopmofgnbdaaWideNumberG15
import Derived.Test.YtfaeopmofgnbdaaWideNumberG18
import Derived.Test.YtfaeopmofgnbdaaWideNumberG16
import Derived.Test.YtfaeopmofgnbdaaWideNumberG9
import Derived.Test.YtfaeopmofgnbdaaWideNumberG8
import Derived.Test.YtfaeopmofgnbdaaWideNumberG17
import Derived.Test.YtfaeopmofgnbdaaWideNumberG10
namespace Go.Proofs.Ytfaeopmofgnbdaa.P
open Go.RowKit Go.Proofs.YtfaeopmofgnbdaaW.PrintWords Go.Proofs.YtfaeopmofgnbdaaW.PrintLast Go.Proofs.YtfaeopmofgnbdaaW.PrintMore
attribute [local go_sem] max2_int min2_int max_two min_two max_three min_three max_four min_four   -- for this text's walks alone
set_option linter.unusedVariables false
set_option linter.unusedSimpArgs false

def impl_WideNumber.j0 : Nat → Int → Bool → Int → List (S48) → Option (Int × Bool)
 | 0, _, _, _, _ => none
 | k + 1, x1, x15, x417000, x417001 => if x15 = true then (some (0, false)) else ((impl_Graph_tight.f k x417000 x417001 x1).bind fun t419 => ((impl_Graph_best.f k x417000 x417001 x1).bind fun t422 => (if x1 = 2 then (if 0 < (t419.length : Int) then (some (mx 0 (wrap64 ((wrap64 (((rd_L2 t419 0).length : Int) + (t422.length : Int))) - x417000)), true)) else (none)) else (if 0 ≤ (wrap64 ((t419.length : Int) - 1)) then (if (wrap64 ((t419.length : Int) - 1)) < (t419.length : Int) then (some (mn x417000 (wrap64 (((rd_L2 t419 (wrap64 ((t419.length : Int) - 1))).length : Int) + (t422.length : Int))), true)) else (none)) else (none)))))
def impl_WideNumber.f (k : Nat) (a0_0 : Int) (l0_1 : List (S48)) (a1 : Int) : Option (Int × Bool) := (impl_IsGraph.f k a0_0 l0_1).bind fun t417 => (if t417 = true then ((impl_isKind.f a1).bind fun t418 => (impl_WideNumber.j0 k a1 (!t418) a0_0 l0_1)) else (impl_WideNumber.j0 k a1 true a0_0 l0_1))
def impl_WideNumber.T3 : Bool × List (List Nat × List Nat) := (true, [([], []), ([], []), ([0, 1], [0, 1]), ([], []), ([], []), ([3, 4, 2], [3, 4]), ([5], [5]), ([2, 5, 0, 1, 2], [2]), ([6, 7, 0, 1, 2, 3, 4, 5, 6, 7], [6])])
def impl_WideNumber.B3 : List Nat := [0, 0, 3, 0, 0, 31, 63, 63, 255]
theorem impl_WideNumber.tab3 : rtab .any (opsOf Try.f7 3) = impl_WideNumber.T3 := by kernel_rfl
theorem impl_WideNumber.bits3 : waitsOk impl_WideNumber.T3.2 impl_WideNumber.B3 = true := by kernel_rfl
def impl_WideNumber.T5 : Bool × List (List Nat × List Nat) := (true, [([], []), ([0], [0]), ([1], [1]), ([2], [2]), ([], []), ([3, 4], [3, 4]), ([], []), ([6], [6]), ([5, 7], [5, 7]), ([8], [8]), ([9, 0, 1, 2, 3, 4, 5, 6, 7, 8, 9], [9]), ([10, 0, 1, 2, 3, 4, 5, 6, 7, 8, 9, 10], [])])
def impl_WideNumber.B5 : List Nat := [0, 1, 3, 7, 0, 31, 0, 64, 255, 511, 1023, 2047]
theorem impl_WideNumber.tab5 : rtab .any (opsOf Try.f7 5) = impl_WideNumber.T5 := by kernel_rfl
theorem impl_WideNumber.bits5 : waitsOk impl_WideNumber.T5.2 impl_WideNumber.B5 = true := by kernel_rfl
def impl_WideNumber.T6 : Bool × List (List Nat × List Nat) := (true, [([], []), ([0], [0]), ([], []), ([], []), ([3], [3]), ([4], [4]), ([2, 5], [2, 5]), ([6], [6]), ([7], [7]), ([], []), ([8, 9], [8, 9]), ([1, 10], [1, 10]), ([11, 0, 1, 2, 3, 4, 5, 6, 7, 8, 9, 10, 11], [11]), ([12, 0, 1, 2, 3, 4, 5, 6, 7, 8, 9, 10, 11, 12], [])])
def impl_WideNumber.B6 : List Nat := [0, 1, 0, 0, 8, 24, 60, 124, 252, 0, 1020, 2047, 4095, 8191]
theorem impl_WideNumber.tab6 : rtab .any (opsOf Try.f7 6) = impl_WideNumber.T6 := by kernel_rfl
theorem impl_WideNumber.bits6 : waitsOk impl_WideNumber.T6.2 impl_WideNumber.B6 = true := by kernel_rfl
set_option maxHeartbeats 8000000 in
set_option maxRecDepth 100000 in
theorem impl_WideNumber.calls (k : Nat) (a0_0 : Int) (A0_1 : Option Addr) (c0_1 : Nat) (l0_1 : List (S48)) (a1 : Int) (r1 : Int) (r2 : Bool) (w : World) (hr0_1 : Kd.C k48 w A0_1 l0_1.length l0_1) (hc0_1 : l0_1.length ≤ c0_1) (h : impl_WideNumber.f k a0_0 l0_1 a1 = some (r1, r2)) :
 Calls Try.prog 7 #[.agg #[.int .i64 a0_0, .slice A0_1 l0_1.length c0_1], .int .i64 a1] w fun e w' => e = .returned (.tuple #[.int .i64 r1, .bool r2]) ∧ Below w.heap.size w w' := by
 have hu28 := Try.underlying28
 have HR0_1 := Aside0.mk hr0_1
 have HC0_1 := Aside0.mk hc0_1
 clear hr0_1 hc0_1
 have HB := zM (Below.refl w.heap.size w)
 have H : ((impl_IsGraph.f k a0_0 l0_1).bind fun t417 => (if t417 = true then ((impl_isKind.f a1).bind fun t418 => (impl_WideNumber.j0 k a1 (!t418) a0_0 l0_1)) else (impl_WideNumber.j0 k a1 true a0_0 l0_1))) = some (r1, r2) := h
 clear h
 have HC3 := Aside0.mk H
 clear H
 go_enter Try.func7, Try.ntmps7
 go_upto_region 1 with (first | ((with_reducible refine gate_dst (N := 2) rfl ?_); refine zb (w := w) 2 #[.int .i64 a0_0, .slice A0_1 l0_1.length c0_1] 28 zB ?_; clear HB; intro gb416 w4 HB BK416 GW416; have GE416 := GW416))
 (try simp only [Act.put, List.setIfInBounds_toArray, List.set_cons_zero, List.set_cons_succ])
 go_cut [15] (fun v15 wc => ∃ (kq : Nat) (x15_2 : Bool), v15 = .bool x15_2 ∧ Aside0 (impl_WideNumber.j0 kq a1 x15_2 a0_0 l0_1 = some (r1, r2)) ∧ Aside0 (kq ≤ k) ∧ Aside0 (wc.heap[gb416]? = some (.cells #[.int .i64 a0_0, (.slice A0_1 l0_1.length c0_1)] 28 (0, 0))) ∧ Aside0 (Below w.heap.size w wc))
 case first =>
  have H := HC3.out
  clear HC3
  replace H := Option.bind_eq_some_iff.mp H
  obtain ⟨t417, A50, H⟩ := H
  replace H : (if t417 = true then ((impl_isKind.f a1).bind fun t418 => (impl_WideNumber.j0 k a1 (!t418) a0_0 l0_1)) else (impl_WideNumber.j0 k a1 true a0_0 l0_1)) = some (r1, r2) := H
  have A5 := Aside0.mk A50
  clear A50
  by_cases c6 : t417 = true
  · subst c6
    have H1 : ((impl_isKind.f a1).bind fun t418 => (impl_WideNumber.j0 k a1 (!t418) a0_0 l0_1)) = some (r1, r2) := by rw [if_pos rfl] at H; exact H
    clear H
    have H := H1
    clear H1
    replace H := Option.bind_eq_some_iff.mp H
    obtain ⟨t418, A70, H⟩ := H
    replace H : (impl_WideNumber.j0 k a1 (!t418) a0_0 l0_1) = some (r1, r2) := H
    have A7 := Aside0.mk A70
    clear A70
    have H' := Aside0.mk H
    clear H
    have hcz8_0 := zy BK416 0
    have hcz8_1 := zy BK416 1
    have hfz8_0 := blk_frozen BK416.out 0
    have hfz8_1 := blk_frozen BK416.out 1
    go_wp2_with (first | ((with_reducible refine gate_callee (f := 16) rfl ?_); refine zc 9 Try.func16 #[.agg #[.int .i64 a0_0, .slice A0_1 l0_1.length c0_1]] ?_; (with_reducible refine (impl_IsGraph.calls k a0_0 _ _ l0_1 true _ ?side1 ?side2 A5.out).mono ?_); (case side1 => exact zC (Kd.C_below HR0_1.out HB.out)); (case side2 => exact HC0_1.out); rintro e w9 ⟨rfl, hb⟩; refine ⟨_, rfl, ?_⟩; replace BK416 := zM (blk_below (g := gb416) (o := .cells #[.int .i64 a0_0, .slice A0_1 l0_1.length c0_1] 28 (0, 0)) (zK BK416.out) hb); replace HB := zM (below_step zB hb); (try clear hb); (try clear hb2); (try clear hk); (try clear hi)) | (go_at_call 17; (with_reducible refine (impl_isKind.calls a1 t418 _ A7.out).mono ?_); rintro e w' ⟨rfl, ⟨nd, rfl⟩⟩))
    go_meet
    case rel => exact ⟨_, (!t418), (by first | rfl | (simp; done) | (simp [*]; done)), H', ⟨by first | omega | exact Nat.le_refl _⟩, ⟨zK BK416.out⟩, ⟨zB⟩⟩
  · replace c6 := Bool.eq_false_iff.mpr c6
    subst c6
    have H1 : (impl_WideNumber.j0 k a1 true a0_0 l0_1) = some (r1, r2) := by rw [if_neg (show ¬ (false = true) by decide)] at H; exact H
    clear H
    have H := H1
    clear H1
    have H' := Aside0.mk H
    clear H
    have hcz10_0 := zy BK416 0
    have hcz10_1 := zy BK416 1
    have hfz10_0 := blk_frozen BK416.out 0
    have hfz10_1 := blk_frozen BK416.out 1
    go_wp2_with (first | ((with_reducible refine gate_callee (f := 16) rfl ?_); refine zc 9 Try.func16 #[.agg #[.int .i64 a0_0, .slice A0_1 l0_1.length c0_1]] ?_; (with_reducible refine (impl_IsGraph.calls k a0_0 _ _ l0_1 false _ ?side1 ?side2 A5.out).mono ?_); (case side1 => exact zC (Kd.C_below HR0_1.out HB.out)); (case side2 => exact HC0_1.out); rintro e w11 ⟨rfl, hb⟩; refine ⟨_, rfl, ?_⟩; replace BK416 := zM (blk_below (g := gb416) (o := .cells #[.int .i64 a0_0, .slice A0_1 l0_1.length c0_1] 28 (0, 0)) (zK BK416.out) hb); replace HB := zM (below_step zB hb); (try clear hb); (try clear hb2); (try clear hk); (try clear hi)))
    go_meet
    case rel => exact ⟨_, (true), (by first | rfl | (simp; done) | (simp [*]; done)), H', ⟨by first | omega | exact Nat.le_refl _⟩, ⟨zK BK416.out⟩, ⟨zB⟩⟩
 case rest =>
  clear HC3
  try clear c1
  try clear p2
  try clear c6
  try clear c7
  try clear hcz10_0
  try clear hcz10_1
  try clear hcz8_0
  try clear hcz8_1
  try clear hfz10_0
  try clear hfz10_1
  try clear hfz8_0
  try clear hfz8_1
  obtain ⟨kq, x15_2, rfl, HA, HJ2, BK416, HB⟩ := hcut
  cases kq with
  | zero => exact absurd HA.out (by simp [impl_WideNumber.j0])
  | succ kj2 =>
   have H := HA.out
   clear HA
   simp only [impl_WideNumber.j0] at H
   by_cases c12 : x15_2 = true
   · subst c12
     have H1 : (some (0, false)) = some (r1, r2) := by rw [if_pos rfl] at H; exact H
     clear H
     have H := H1
     clear H1
     simp only [Option.some.injEq, Prod.mk.injEq] at H
     obtain ⟨rfl, rfl⟩ := H
     go_wp2
     go_ret2
     exact ⟨by first | rfl | (simp [errW_none, errW_some] <;> rfl) | (simp [*, errW_none, errW_some] <;> rfl), zB⟩
   · replace c12 := Bool.eq_false_iff.mpr c12
     subst c12
     have H1 : ((impl_Graph_tight.f kj2 a0_0 l0_1 a1).bind fun t419 => ((impl_Graph_best.f kj2 a0_0 l0_1 a1).bind fun t422 => (if a1 = 2 then (if 0 < (t419.length : Int) then (some (mx 0 (wrap64 ((wrap64 (((rd_L2 t419 0).length : Int) + (t422.length : Int))) - a0_0)), true)) else (none)) else (if 0 ≤ (wrap64 ((t419.length : Int) - 1)) then (if (wrap64 ((t419.length : Int) - 1)) < (t419.length : Int) then (some (mn a0_0 (wrap64 (((rd_L2 t419 (wrap64 ((t419.length : Int) - 1))).length : Int) + (t422.length : Int))), true)) else (none)) else (none))))) = some (r1, r2) := by rw [if_neg (show ¬ (false = true) by decide)] at H; exact H
     clear H
     have H := H1
     clear H1
     replace H := Option.bind_eq_some_iff.mp H
     obtain ⟨t419, A130, H⟩ := H
     replace H : ((impl_Graph_best.f kj2 a0_0 l0_1 a1).bind fun t422 => (if a1 = 2 then (if 0 < (t419.length : Int) then (some (mx 0 (wrap64 ((wrap64 (((rd_L2 t419 0).length : Int) + (t422.length : Int))) - a0_0)), true)) else (none)) else (if 0 ≤ (wrap64 ((t419.length : Int) - 1)) then (if (wrap64 ((t419.length : Int) - 1)) < (t419.length : Int) then (some (mn a0_0 (wrap64 (((rd_L2 t419 (wrap64 ((t419.length : Int) - 1))).length : Int) + (t422.length : Int))), true)) else (none)) else (none)))) = some (r1, r2) := H
     have A13 := Aside0.mk A130
     clear A130
     replace H := Option.bind_eq_some_iff.mp H
     obtain ⟨t422, A140, H⟩ := H
     replace H : (if a1 = 2 then (if 0 < (t419.length : Int) then (some (mx 0 (wrap64 ((wrap64 (((rd_L2 t419 0).length : Int) + (t422.length : Int))) - a0_0)), true)) else (none)) else (if 0 ≤ (wrap64 ((t419.length : Int) - 1)) then (if (wrap64 ((t419.length : Int) - 1)) < (t419.length : Int) then (some (mn a0_0 (wrap64 (((rd_L2 t419 (wrap64 ((t419.length : Int) - 1))).length : Int) + (t422.length : Int))), true)) else (none)) else (none))) = some (r1, r2) := H
     have A14 := Aside0.mk A140
     clear A140
     by_cases c15 : a1 = 2
     · rw [if_pos c15] at H
       have c15b0 : (a1 == 2) = true := beq_iff_eq.mpr c15
       have c15b1 : (a1 != 2) = false := bne_eq_false_iff_eq.mpr c15
       clear c15
       by_cases c16 : 0 < (t419.length : Int)
       · rw [if_pos c16] at H
         have c16b0 := decide_eq_true c16
         have c16b1 : decide (0 < t419.length) = true := decide_eq_true (by omega)
         clear c16
         obtain ⟨ji17, hji17⟩ : ∃ j_ : Int, (mx 0 (wrap64 ((wrap64 (((rd_L2 t419 0).length : Int) + (t422.length : Int))) - a0_0))) = j_ := ⟨_, rfl⟩
         replace H : (some (ji17, true)) = some (r1, r2) := by first | (rw [hji17] at H; exact H) | (simp only [hji17] at H ⊢; exact H)
         (try rw [hji17] at A13)
         (try rw [hji17] at A14)
         have hji17_ : (if 0 < (wrap64 ((wrap64 (((rd_L2 t419 0).length : Int) + (t422.length : Int))) - a0_0)) then (wrap64 ((wrap64 (((rd_L2 t419 0).length : Int) + (t422.length : Int))) - a0_0)) else 0) = ji17 := hji17
         simp only [Option.some.injEq, Prod.mk.injEq] at H
         obtain ⟨rfl, rfl⟩ := H
         try go_wp2
         replace BK416 := zM (blk_drew BK416.out)
         replace HB := zM (below_drew1 HB.out)
         refine zs (n := 9) (fun w' => w'.cell? ⟨gb416, 0, none⟩ = some (.int .i64 a0_0) ∧ w'.cell? ⟨gb416, 1, none⟩ = some (.slice A0_1 l0_1.length c0_1)) ⟨(blk_cell BK416.out 0).trans rfl, (blk_cell BK416.out 1).trans rfl⟩ (fun hHeld => ?_); refine with_tabW impl_WideNumber.tab3 impl_WideNumber.bits3 (fun HT_ HW_ => ?_)
         generalize wc.drew = w18 at BK416 HB hHeld ⊢
         refine zp HT_ 1 17 ?_
         refine zp HT_ 4 20 ?_
         refine zt HT_ HW_ 0 16 hHeld ?_ (hy := by rintro w' ⟨s0, s1⟩; go_simp; with_reducible rfl)
         refine zt HT_ HW_ 3 19 hHeld ?_ (hy := by rintro w' ⟨s0, s1⟩; go_simp; with_reducible rfl)
         refine zg HT_ 2 18 Try.func18 #[.agg #[.int .i64 a0_0, .slice A0_1 l0_1.length c0_1], .int .i64 a1] (fun K hK => ?_)
         with_reducible refine (impl_Graph_tight.calls kj2 a0_0 _ _ l0_1 a1 t419 _ ?side1 ?side2 A13.out).mono ?_
         (case side1 => exact zC (Kd.C_below HR0_1.out HB.out))
         (case side2 => exact HC0_1.out)
         rintro e w19 ⟨v420, rfl, ho0, hb⟩
         refine ⟨_, rfl, ?_⟩
         have HO421 := zM (Kd.S_lower ho0 (below_size zB))
         replace BK416 := zM (blk_below (g := gb416) (o := .cells #[.int .i64 a0_0, .slice A0_1 l0_1.length c0_1] 28 (0, 0)) (zK BK416.out) hb)
         replace HB := zM (below_step zB hb)
         (try clear hb)
         (try clear hb2)
         (try clear hk)
         (try clear hi)
         (try clear ho0)
         refine hK.out _ _ ⟨(blk_cell BK416.out 0).trans rfl, (blk_cell BK416.out 1).trans rfl⟩ (fun hHeld => ?_)
         clear hK K
         refine zn 18 ?_
         refine zg HT_ 5 21 Try.func19 #[.agg #[.int .i64 a0_0, .slice A0_1 l0_1.length c0_1], .int .i64 a1] (fun K hK => ?_)
         with_reducible refine (impl_Graph_best.calls kj2 a0_0 _ _ l0_1 a1 t422 _ ?side1 ?side2 A14.out).mono ?_
         (case side1 => exact zC (Kd.C_below HR0_1.out HB.out))
         (case side2 => exact HC0_1.out)
         rintro e w20 ⟨v423, rfl, ho0, hb⟩
         refine ⟨_, rfl, ?_⟩
         replace HO421 := zM (Kd.S_elder' (by (with_reducible repeat (first | apply Kd.S_alloc | apply Kd.S_drewN | apply Kd.S_drew)); exact HO421.out) (Kd.R_base ho0) hb)
         have HO424 := zM (Kd.R_lower ho0 (below_size zB))
         replace BK416 := zM (blk_below (g := gb416) (o := .cells #[.int .i64 a0_0, .slice A0_1 l0_1.length c0_1] 28 (0, 0)) (zK BK416.out) hb)
         replace HB := zM (below_step zB hb)
         (try clear hb)
         (try clear hb2)
         (try clear hk)
         (try clear hi)
         (try clear ho0)
         obtain ⟨Ao21, co21, eo21⟩ := Kd.R_slice HO424.out
         (first | subst eo21 | (injection eo21 with f1_ f2_ f3_; have f4_ := f1_.symm; have f5_ := f3_.symm; clear f1_ f2_ f3_; subst f4_; subst f5_))
         refine hK.out _ _ ⟨(blk_cell BK416.out 0).trans rfl, (blk_cell BK416.out 1).trans rfl⟩ (fun hHeld => ?_)
         clear hK K
         refine zn 21 ?_
         refine zp HT_ 6 22 ?_
         refine zp HT_ 7 6 ?_
         refine zp HT_ 8 7 ?_
         refine zo HT_ ?_
         try go_wp2
         replace HO421 := zM (Kd.S_drew HO421.out)
         replace HO424 := zM (Kd.R_drew HO424.out)
         replace BK416 := zM (blk_drew BK416.out)
         replace HB := zM (below_drew1 HB.out)
         obtain ⟨Ao23, co23, eo23⟩ := Kd.S_slice HO421.out
         (first | subst eo23 | (injection eo23 with f1_ f2_ f3_; have f4_ := f1_.symm; have f5_ := f3_.symm; clear f1_ f2_ f3_; subst f4_; subst f5_))
         have p425 : 0 ≤ (0 : Int) := (by omega)
         have q425 : 0 < (t419.length : Int) := of_decide_eq_true zA
         obtain ⟨ad425, A425_0, c425_0, e425, hx425_0, hl425_0, hi425_0⟩ := at_L2 (Kd.S_reads' HO421.out).2.2 0 p425 q425
         cases e425
         obtain ⟨ce425, hce425, hMe425, hcc425⟩ := Kd.S_get HO421.out [] 0 p425 (by first | exact q425 | exact of_decide_eq_true zA | (have e_ := (Kd.S_reads' HO421.out).1; omega))
         obtain ⟨ve425_0, rfl, ge425_0⟩ := hMe425
         have hv425_0 := hcc425 0 _ rfl
         rw [Nat.add_zero, show ((Kd.slice 3 (Kd.int .i64))).sz = 1 from rfl, Nat.mul_one] at hv425_0
         replace hv425_0 := Option.some.inj (hv425_0.symm.trans hx425_0)
         rw [hv425_0] at ge425_0
         have HL425_0 := zM (show Kd.R (Kd.int .i64) 3 _ _ _ _ (rd_L2 t419 0) from ge425_0)
         clear hv425_0 ge425_0
         clear hcc425 hce425
         have qi425 : (0 < t419.length) = True := eq_true (by omega)
         (try rw [show ((0 : Int)).toNat = 0 from rfl] at hx425_0)
         (try rw [Addr.add_zero'] at hx425_0)
         have HR425_0 := Aside0.mk hi425_0
         have HC425_0 := Aside0.mk hl425_0
         clear hi425_0 hl425_0
         replace p425 := eq_true p425
         replace q425 := eq_true q425
         refine zs (n := 12) (fun w' => w'.cell? ⟨gb416, 0, none⟩ = some (.int .i64 a0_0) ∧ w'.cell? ⟨gb416, 1, none⟩ = some (.slice A0_1 l0_1.length c0_1) ∧ w'.cell? ad425 = some (.slice A425_0 (rd_L2 t419 0).length c425_0)) ⟨(blk_cell BK416.out 0).trans rfl, (blk_cell BK416.out 1).trans rfl, hx425_0⟩ (fun hHeld => ?_); refine with_tabW impl_WideNumber.tab5 impl_WideNumber.bits5 (fun HT_ HW_ => ?_)
         generalize w20.drew = w22 at HO421 HO424 BK416 HB HL425_0 HR425_0 hx425_0 hHeld ⊢
         refine zp HT_ 0 25 ?_
         refine zp HT_ 1 26 ?_
         refine zp HT_ 4 29 ?_
         refine zp HT_ 6 31 ?_
         refine zt HT_ HW_ 2 27 hHeld ?_ (hy := by rintro w' ⟨s0, s1, s2⟩; go_simp; with_reducible rfl)
         refine zp HT_ 3 28 ?_
         refine zp HT_ 5 30 ?_
         refine zt HT_ HW_ 7 32 hHeld ?_ (hy := by rintro w' ⟨s0, s1, s2⟩; go_simp; with_reducible rfl)
         refine zp HT_ 8 33 ?_
         refine zp HT_ 9 34 ?_
         refine zp HT_ 10 4 ?_
         refine zp HT_ 11 5 ?_
         refine zo HT_ ?_
         try go_wp2
         go_ret2
         exact ⟨by first | rfl | (simp [errW_none, errW_some] <;> rfl) | (simp only [← hji17]; first | rfl | (simp [errW_none, errW_some] <;> rfl)) | (simp [*, errW_none, errW_some] <;> rfl), zB⟩
       · rw [if_neg c16] at H
         exact absurd H (by simp)
     · rw [if_neg c15] at H
       have c15b0 : (a1 == 2) = false := beq_eq_false_iff_ne.mpr c15
       have c15b1 : (a1 != 2) = true := bne_iff_ne.mpr c15
       obtain ⟨ji24, hji24⟩ : ∃ j_ : Int, (wrap64 ((t419.length : Int) - 1)) = j_ := ⟨_, rfl⟩
       replace H : (if 0 ≤ (ji24) then (if (ji24) < (t419.length : Int) then (some (mn a0_0 (wrap64 (((rd_L2 t419 (ji24)).length : Int) + (t422.length : Int))), true)) else (none)) else (none)) = some (r1, r2) := by first | (rw [hji24] at H; exact H) | (simp only [hji24] at H ⊢; exact H)
       (try rw [hji24] at A13)
       (try rw [hji24] at A14)
       have hji24w : (IntKind.i64.wrap ((t419.length : Int) - 1)) = ji24 := (i64_w _).trans hji24
       by_cases c25 : 0 ≤ (ji24)
       · rw [if_pos c25] at H
         have c25b0 := decide_eq_true c25
         clear c25
         by_cases c26 : (ji24) < (t419.length : Int)
         · rw [if_pos c26] at H
           have c26b0 := decide_eq_true c26
           clear c26
           obtain ⟨ji27, hji27⟩ : ∃ j_ : Int, (mn a0_0 (wrap64 (((rd_L2 t419 (ji24)).length : Int) + (t422.length : Int)))) = j_ := ⟨_, rfl⟩
           replace H : (some (ji27, true)) = some (r1, r2) := by first | (rw [hji27] at H; exact H) | (simp only [hji27] at H ⊢; exact H)
           (try rw [hji27] at A13)
           (try rw [hji27] at A14)
           have hji27_ : (if (wrap64 (((rd_L2 t419 (ji24)).length : Int) + (t422.length : Int))) < a0_0 then (wrap64 (((rd_L2 t419 (ji24)).length : Int) + (t422.length : Int))) else a0_0) = ji27 := hji27
           simp only [Option.some.injEq, Prod.mk.injEq] at H
           obtain ⟨rfl, rfl⟩ := H
           try go_wp2
           replace BK416 := zM (blk_drew BK416.out)
           replace HB := zM (below_drew1 HB.out)
           refine zs (n := 9) (fun w' => w'.cell? ⟨gb416, 0, none⟩ = some (.int .i64 a0_0) ∧ w'.cell? ⟨gb416, 1, none⟩ = some (.slice A0_1 l0_1.length c0_1)) ⟨(blk_cell BK416.out 0).trans rfl, (blk_cell BK416.out 1).trans rfl⟩ (fun hHeld => ?_); refine with_tabW impl_WideNumber.tab3 impl_WideNumber.bits3 (fun HT_ HW_ => ?_)
           generalize wc.drew = w28 at BK416 HB hHeld ⊢
           refine zp HT_ 1 17 ?_
           refine zp HT_ 4 20 ?_
           refine zt HT_ HW_ 0 16 hHeld ?_ (hy := by rintro w' ⟨s0, s1⟩; go_simp; with_reducible rfl)
           refine zt HT_ HW_ 3 19 hHeld ?_ (hy := by rintro w' ⟨s0, s1⟩; go_simp; with_reducible rfl)
           refine zg HT_ 2 18 Try.func18 #[.agg #[.int .i64 a0_0, .slice A0_1 l0_1.length c0_1], .int .i64 a1] (fun K hK => ?_)
           with_reducible refine (impl_Graph_tight.calls kj2 a0_0 _ _ l0_1 a1 t419 _ ?side1 ?side2 A13.out).mono ?_
           (case side1 => exact zC (Kd.C_below HR0_1.out HB.out))
           (case side2 => exact HC0_1.out)
           rintro e w29 ⟨v420, rfl, ho0, hb⟩
           refine ⟨_, rfl, ?_⟩
           have HO421 := zM (Kd.S_lower ho0 (below_size zB))
           replace BK416 := zM (blk_below (g := gb416) (o := .cells #[.int .i64 a0_0, .slice A0_1 l0_1.length c0_1] 28 (0, 0)) (zK BK416.out) hb)
           replace HB := zM (below_step zB hb)
           (try clear hb)
           (try clear hb2)
           (try clear hk)
           (try clear hi)
           (try clear ho0)
           refine hK.out _ _ ⟨(blk_cell BK416.out 0).trans rfl, (blk_cell BK416.out 1).trans rfl⟩ (fun hHeld => ?_)
           clear hK K
           refine zn 18 ?_
           refine zg HT_ 5 21 Try.func19 #[.agg #[.int .i64 a0_0, .slice A0_1 l0_1.length c0_1], .int .i64 a1] (fun K hK => ?_)
           with_reducible refine (impl_Graph_best.calls kj2 a0_0 _ _ l0_1 a1 t422 _ ?side1 ?side2 A14.out).mono ?_
           (case side1 => exact zC (Kd.C_below HR0_1.out HB.out))
           (case side2 => exact HC0_1.out)
           rintro e w30 ⟨v423, rfl, ho0, hb⟩
           refine ⟨_, rfl, ?_⟩
           replace HO421 := zM (Kd.S_elder' (by (with_reducible repeat (first | apply Kd.S_alloc | apply Kd.S_drewN | apply Kd.S_drew)); exact HO421.out) (Kd.R_base ho0) hb)
           have HO424 := zM (Kd.R_lower ho0 (below_size zB))
           replace BK416 := zM (blk_below (g := gb416) (o := .cells #[.int .i64 a0_0, .slice A0_1 l0_1.length c0_1] 28 (0, 0)) (zK BK416.out) hb)
           replace HB := zM (below_step zB hb)
           (try clear hb)
           (try clear hb2)
           (try clear hk)
           (try clear hi)
           (try clear ho0)
           obtain ⟨Ao31, co31, eo31⟩ := Kd.R_slice HO424.out
           (first | subst eo31 | (injection eo31 with f1_ f2_ f3_; have f4_ := f1_.symm; have f5_ := f3_.symm; clear f1_ f2_ f3_; subst f4_; subst f5_))
           refine hK.out _ _ ⟨(blk_cell BK416.out 0).trans rfl, (blk_cell BK416.out 1).trans rfl⟩ (fun hHeld => ?_)
           clear hK K
           refine zn 21 ?_
           refine zp HT_ 6 22 ?_
           refine zp HT_ 7 6 ?_
           refine zp HT_ 8 7 ?_
           refine zo HT_ ?_
           try go_wp2
           replace HO421 := zM (Kd.S_drew HO421.out)
           replace HO424 := zM (Kd.R_drew HO424.out)
           replace BK416 := zM (blk_drew BK416.out)
           replace HB := zM (below_drew1 HB.out)
           obtain ⟨Ao33, co33, eo33⟩ := Kd.S_slice HO421.out
           (first | subst eo33 | (injection eo33 with f1_ f2_ f3_; have f4_ := f1_.symm; have f5_ := f3_.symm; clear f1_ f2_ f3_; subst f4_; subst f5_))
           have p426 : 0 ≤ ((ji24) : Int) := of_decide_eq_true zA
           have q426 : (ji24) < (t419.length : Int) := of_decide_eq_true zA
           obtain ⟨ad426, A426_0, c426_0, e426, hx426_0, hl426_0, hi426_0⟩ := at_L2 (Kd.S_reads' HO421.out).2.2 (ji24) p426 q426
           cases e426
           obtain ⟨ce426, hce426, hMe426, hcc426⟩ := Kd.S_get HO421.out [] (ji24) p426 (by first | exact q426 | exact of_decide_eq_true zA | (have e_ := (Kd.S_reads' HO421.out).1; omega))
           obtain ⟨ve426_0, rfl, ge426_0⟩ := hMe426
           have hv426_0 := hcc426 0 _ rfl
           rw [Nat.add_zero, show ((Kd.slice 3 (Kd.int .i64))).sz = 1 from rfl, Nat.mul_one] at hv426_0
           replace hv426_0 := Option.some.inj (hv426_0.symm.trans hx426_0)
           rw [hv426_0] at ge426_0
           have HL426_0 := zM (show Kd.R (Kd.int .i64) 3 _ _ _ _ (rd_L2 t419 (ji24)) from ge426_0)
           clear hv426_0 ge426_0
           clear hcc426 hce426
           have HR426_0 := Aside0.mk hi426_0
           have HC426_0 := Aside0.mk hl426_0
           clear hi426_0 hl426_0
           replace p426 := eq_true p426
           replace q426 := eq_true q426
           refine zs (n := 14) (fun w' => w'.cell? ⟨gb416, 0, none⟩ = some (.int .i64 a0_0) ∧ w'.cell? ⟨gb416, 1, none⟩ = some (.slice A0_1 l0_1.length c0_1) ∧ w'.cell? (ad426.add ((ji24)).toNat) = some (.slice A426_0 (rd_L2 t419 (ji24)).length c426_0)) ⟨(blk_cell BK416.out 0).trans rfl, (blk_cell BK416.out 1).trans rfl, hx426_0⟩ (fun hHeld => ?_); refine with_tabW impl_WideNumber.tab6 impl_WideNumber.bits6 (fun HT_ HW_ => ?_)
           generalize w30.drew = w32 at HO421 HO424 BK416 HB HL426_0 HR426_0 hx426_0 hHeld ⊢
           refine zp HT_ 0 35 ?_
           refine zp HT_ 2 37 ?_
           refine zp HT_ 3 38 ?_
           refine zp HT_ 4 39 ?_
           refine zp HT_ 5 40 ?_
           refine zp HT_ 6 41 ?_
           refine zp HT_ 9 44 ?_
           refine zt HT_ HW_ 1 36 hHeld ?_ (hy := by rintro w' ⟨s0, s1, s2⟩; go_simp; with_reducible rfl)
           refine zt HT_ HW_ 7 42 hHeld ?_ (hy := by rintro w' ⟨s0, s1, s2⟩; go_simp; with_reducible rfl)
           refine zp HT_ 8 43 ?_
           refine zp HT_ 10 45 ?_
           refine zp HT_ 11 46 ?_
           refine zp HT_ 12 4 ?_
           refine zp HT_ 13 5 ?_
           refine zo HT_ ?_
           try go_wp2
           go_ret2
           exact ⟨by first | rfl | (simp [errW_none, errW_some] <;> rfl) | (simp only [← hji24, ← hji27]; first | rfl | (simp [errW_none, errW_some] <;> rfl)) | (simp [*, errW_none, errW_some] <;> rfl), zB⟩
         · rw [if_neg c26] at H
           exact absurd H (by simp)
       · rw [if_neg c25] at H
         exact absurd H (by simp)

end Go.Proofs.Ytfaeopmofgnbdaa.P
namespace Go.Proofs.Ytfaeopmofgnbdaa.P
open Go.RowKit Go.Proofs.YtfaeopmofgnbdaaW.PrintWords Go.Proofs.YtfaeopmofgnbdaaW.PrintLast Go.Proofs.YtfaeopmofgnbdaaW.PrintMore
set_option linter.unusedVariables false
section
variable {α : Type} {d : Kd α} {e base : Nat} {ok S : Nat → Prop} {w W W1 : World} {v : Value} {xs : List α} {g : Nat} {o : Obj}
theorem uR (hB : Below w.heap.size w W) (h : d.R e W1 W.heap.size (fun _ => True) v xs) : Aside0 (d.R e W1 w.heap.size (fun k => W.heap.size ≤ k ∧ k < W1.heap.size) v xs) :=
  ⟨Kd.R_mono (Kd.R_lower (Kd.R_bound h) (below_size hB)) (fun k hk => ⟨hk.2.1, hk.2.2.1⟩)⟩
theorem uRb (h : Aside0 (d.R e W base ok v xs)) (hb : Below W.heap.size W W1) : Aside0 (d.R e W1 base ok v xs) := ⟨Kd.R_below h.out hb⟩
theorem uKb (h : Aside0 (W.heap[g]? = some o)) (hb : Below W.heap.size W W1) : Aside0 (W1.heap[g]? = some o) := ⟨blk_below h.out hb⟩
theorem uRk (h : Aside0 (d.R e W base ok v xs)) (hk : Kept W W1 S) (hne : ∀ k, ok k → ¬ S k) : Aside0 (d.R e W1 base ok v xs) := ⟨Kd.R_kept h.out hk hne⟩
theorem uKk (h : Aside0 (W.heap[g]? = some o)) (hk : Kept W W1 S) (hne : ¬ S g) : Aside0 (W1.heap[g]? = some o) := ⟨blk_kept h.out hk hne⟩
/-- A struct of two cells is stored into the call's own block. -/
theorem uBox {P : Program} {f : FuncId} {args : Array Value} {Q : Ending → World → Prop} {t : TypeId} {x y a b : Value} (hb : Aside0 (W.heap[g]? = some (.cells #[x, y] t (0, 0)))) (hB : Aside0 (Below w.heap.size w W)) (hg : w.heap.size ≤ g)
    (h : ∀ W', Aside0 (W'.heap[g]? = some (.cells #[a, b] t (0, 0))) → Kept W W' (fun k => k = g) → Aside0 (Below w.heap.size w W') → Calls P f args W' Q) : Calls P f args ((W.setCell ⟨g, 0, none⟩ a).setCell ⟨g, 1, none⟩ b) Q :=
  h _ ⟨blk_put (cs := #[a, y]) (blk_put (cs := #[x, y]) hb.out 0 a rfl) 1 b rfl⟩ (Kept.setCell (Kept.setCell (Kept.refl W (fun k => k = g)) (p := ⟨g, 0, none⟩) (.inl rfl) a) (p := ⟨g, 1, none⟩) (.inl rfl) b) ⟨below_set (below_set hB.out hg) hg⟩
end
end Go.Proofs.Ytfaeopmofgnbdaa.P
namespace Go.Proofs.Ytfaeopmofgnbdaa.P
open Go.RowKit Go.Proofs.YtfaeopmofgnbdaaW.PrintWords Go.Proofs.YtfaeopmofgnbdaaW.PrintLast Go.Proofs.YtfaeopmofgnbdaaW.PrintMore
set_option linter.unusedVariables false
set_option linter.unusedSimpArgs false
set_option maxRecDepth 100000 in
set_option maxHeartbeats 4000000 in
theorem laws_FnExactWideNumber.exit0 (a0_0 : Int) (A0_1 : Option Addr) (ca0_1 : Nat) (l0_1 : List (S48)) (a1 : Int) (t0 : Int) (w : World) (hr0_1 : Kd.C k48 w A0_1 l0_1.length l0_1) (hc0_1 : l0_1.length ≤ ca0_1) (c0 : t0 < 0) (h0 : laws_szGraph.f a0_0 l0_1 1048576 = some t0) :
    Calls Try.prog 3 #[.agg #[.int .i64 a0_0, .slice A0_1 l0_1.length ca0_1], .int .i64 a1] w fun e w' => e = .returned (.bool true) ∧ Below w.heap.size w w' := by
  have hu24 := Try.underlying24
  have hu28 := Try.underlying28
  have HR0_1 := zM hr0_1; clear hr0_1
  have HC0_1 := zM hc0_1; clear hc0_1
  have HB := zM (Below.refl w.heap.size w)
  have H0 := zM h0; clear h0
  have c0b : decide (t0 < 0) = true := decide_eq_true c0
  clear c0
  go_enter Try.func3, Try.ntmps3
  go_wp2_with (first
    | ((with_reducible refine gate_dst (N := 2) rfl ?_); refine ze 2 #[.int .i64 a0_0, .slice A0_1 l0_1.length ca0_1] 24 ?_; intro gb2 hg w1 hbox hb; have HG2 := zM hg; have HW2 := zM (show w.heap.size ≤ gb2 by rw [hg]; exact below_size HB.out); have HL2 := zM (blk_lt hbox); clear hg; have HS1 := zM hb.size; replace HB := zM (below_step HB.out hb); have BK2 := zM hbox; clear hbox hb; have hc2_0 := zy BK2 0; have hf2_0 := blk_frozen BK2.out 0; have hc2_1 := zy BK2 1; have hf2_1 := blk_frozen BK2.out 1)
    | (have hst_ : Aside0 (Below w.heap.size w w1) := HB; clear hst_; go_at_call 4; refine (laws_szGraph.calls a0_0 _ _ l0_1 1048576 t0 _ ?side1 ?side2 H0.out).mono ?_; (case side1 => exact zC (Kd.C_below HR0_1.out HB.out)); (case side2 => exact HC0_1.out); rintro e w2 ⟨rfl, hb⟩; replace BK2 := uKb BK2 hb; have HS2 := zM hb.size; replace HB := zM (below_step HB.out hb); clear hb; replace hc2_0 := zy BK2 0; replace hf2_0 := blk_frozen BK2.out 0; replace hc2_1 := zy BK2 1; replace hf2_1 := blk_frozen BK2.out 1))
  go_ret
  exact ⟨rfl, HB.out⟩
set_option maxRecDepth 100000 in
set_option maxHeartbeats 4000000 in
theorem laws_FnExactWideNumber.walk (a0_0 : Int) (A0_1 : Option Addr) (ca0_1 : Nat) (l0_1 : List (S48)) (a1 : Int) (k1 k2 k3 k4 : Nat) (t0 : Int) (q0 : Int) (q1 : Bool) (w : World) (hr0_1 : Kd.C k48 w A0_1 l0_1.length l0_1) (hc0_1 : l0_1.length ≤ ca0_1) (c0 : ¬ (t0 < 0)) (h0 : laws_szGraph.f a0_0 l0_1 1048576 = some t0) (h1 : laws_toGraph.f k1 a0_0 l0_1 = some (a0_0, l0_1)) (h2 : spec_WideNumber.f k2 a0_0 l0_1 a1 = some (q0, q1)) (h3 : impl_WideNumber.f k3 a0_0 l0_1 a1 = some (q0, q1)) (h4 : laws_eqGraph.f k4 a0_0 l0_1 a0_0 l0_1 = some true) :
    Calls Try.prog 3 #[.agg #[.int .i64 a0_0, .slice A0_1 l0_1.length ca0_1], .int .i64 a1] w fun e w' => e = .returned (.bool true) ∧ Below w.heap.size w w' := by
  have hu24 := Try.underlying24
  have hu28 := Try.underlying28
  have HR0_1 := zM hr0_1; clear hr0_1
  have HC0_1 := zM hc0_1; clear hc0_1
  have HB := zM (Below.refl w.heap.size w)
  have H0 := zM h0; clear h0
  have H1 := zM h1; clear h1
  have H2 := zM h2; clear h2
  have H3 := zM h3; clear h3
  have H4 := zM h4; clear h4
  have c0b : decide (t0 < 0) = false := decide_eq_false c0
  clear c0
  go_enter Try.func3, Try.ntmps3
  go_upto_region 10 with (first
    | ((with_reducible refine gate_dst (N := 2) rfl ?_); refine ze 2 #[.int .i64 a0_0, .slice A0_1 l0_1.length ca0_1] 24 ?_; intro gb2 hg w1 hbox hb; have HG2 := zM hg; have HW2 := zM (show w.heap.size ≤ gb2 by rw [hg]; exact below_size HB.out); have HL2 := zM (blk_lt hbox); clear hg; have HS1 := zM hb.size; replace HB := zM (below_step HB.out hb); have BK2 := zM hbox; clear hbox hb; have hc2_0 := zy BK2 0; have hf2_0 := blk_frozen BK2.out 0; have hc2_1 := zy BK2 1; have hf2_1 := blk_frozen BK2.out 1)
    | (have hst_ : Aside0 (Below w.heap.size w w1) := HB; clear hst_; go_at_call 4; refine (laws_szGraph.calls a0_0 _ _ l0_1 1048576 t0 _ ?side1 ?side2 H0.out).mono ?_; (case side1 => exact zC (Kd.C_below HR0_1.out HB.out)); (case side2 => exact HC0_1.out); rintro e w2 ⟨rfl, hb⟩; replace BK2 := uKb BK2 hb; have HS2 := zM hb.size; replace HB := zM (below_step HB.out hb); clear hb; replace hc2_0 := zy BK2 0; replace hf2_0 := blk_frozen BK2.out 0; replace hc2_1 := zy BK2 1; replace hf2_1 := blk_frozen BK2.out 1)
    | (have hst_ : Aside0 (Below w.heap.size w w2) := HB; clear hst_; go_at_call 6; refine (laws_toGraph.calls k1 a0_0 _ _ l0_1 a0_0 l0_1 _ ?side1 ?side2 H1.out).mono ?_; (case side1 => exact zC (Kd.C_below HR0_1.out HB.out)); (case side2 => exact HC0_1.out); rintro e w3 ⟨v0_0, rfl, ho0, hb⟩; replace BK2 := uKb BK2 hb; have HS3 := zM hb.size; have HO0_0 := uR HB.out (by first | exact ho0 | exact Kd.R_mono ho0 (fun _ _ => trivial) | exact Kd.R_mono ho0 (fun _ hk_ => hk_.1)); clear ho0; obtain ⟨Ao0_0, co0_0, eo0_0⟩ := Kd.R_slice HO0_0.out; subst eo0_0; replace HB := zM (below_step HB.out hb); clear hb; replace hc2_0 := zy BK2 0; replace hf2_0 := blk_frozen BK2.out 0; replace hc2_1 := zy BK2 1; replace hf2_1 := blk_frozen BK2.out 1)
    | (have hst_ : Aside0 (Below w.heap.size w w3) := HB; clear hst_; go_at_call 5; refine (spec_WideNumber.calls k2 a0_0 _ _ l0_1 a1 q0 q1 _ ?side1 ?side2 H2.out).mono ?_; (case side1 => exact zC (Kd.R_reads' HO0_0.out).2.2); (case side2 => exact (Kd.R_reads' HO0_0.out).2.1); clear HO0_0; rintro e w4 ⟨rfl, hb⟩; replace BK2 := uKb BK2 hb; have HS4 := zM hb.size; replace HB := zM (below_step HB.out hb); clear hb; replace hc2_0 := zy BK2 0; replace hf2_0 := blk_frozen BK2.out 0; replace hc2_1 := zy BK2 1; replace hf2_1 := blk_frozen BK2.out 1)
    | (have hst_ : Aside0 (Below w.heap.size w w4) := HB; clear hst_; go_at_call 6; refine (laws_toGraph.calls k1 a0_0 _ _ l0_1 a0_0 l0_1 _ ?side1 ?side2 H1.out).mono ?_; (case side1 => exact zC (Kd.C_below HR0_1.out HB.out)); (case side2 => exact HC0_1.out); rintro e w5 ⟨v1_0, rfl, ho0, hb⟩; replace BK2 := uKb BK2 hb; have HS5 := zM hb.size; have HO1_0 := uR HB.out (by first | exact ho0 | exact Kd.R_mono ho0 (fun _ _ => trivial) | exact Kd.R_mono ho0 (fun _ hk_ => hk_.1)); clear ho0; obtain ⟨Ao1_0, co1_0, eo1_0⟩ := Kd.R_slice HO1_0.out; subst eo1_0; replace HB := zM (below_step HB.out hb); clear hb; replace hc2_0 := zy BK2 0; replace hf2_0 := blk_frozen BK2.out 0; replace hc2_1 := zy BK2 1; replace hf2_1 := blk_frozen BK2.out 1)
    | ((with_reducible refine gate_dst (N := 8) rfl ?_); refine ze 8 #[.int .i64 0, .slice none 0 0] 28 ?_; intro gb8 hg w6 hbox hb; have HG8 := zM hg; have HW8 := zM (show w.heap.size ≤ gb8 by rw [hg]; exact below_size HB.out); have HL8 := zM (blk_lt hbox); clear hg; replace HO1_0 := uRb HO1_0 hb; replace BK2 := uKb BK2 hb; have HS6 := zM hb.size; replace HB := zM (below_step HB.out hb); have hn2_8 : gb2 ≠ gb8 := (by have := HG8.out; have := HL2.out; have := HS2.out; have := HS3.out; have := HS4.out; have := HS5.out; omega); have hn8_2 := hn2_8.symm; have BK8 := zM hbox; clear hbox hb; replace hc2_0 := zy BK2 0; replace hf2_0 := blk_frozen BK2.out 0; replace hc2_1 := zy BK2 1; replace hf2_1 := blk_frozen BK2.out 1; have hc8_0 := zy BK8 0; have hf8_0 := blk_frozen BK8.out 0; have hc8_1 := zy BK8 1; have hf8_1 := blk_frozen BK8.out 1)
    | (have hst_ : Aside0 (Below w.heap.size w w6) := HB; clear hst_; go_at_call 7; refine uBox BK8 HB HW8.out ?_; intro w7 BKn hk HBn; replace HO1_0 := uRk HO1_0 hk (fun k_ hk_ e_ => by have e2 : k_ = gb8 := e_; have := HG8.out; have := HL8.out; have h2 : w4.heap.size ≤ k_ ∧ k_ < w5.heap.size := hk_; omega); replace BK2 := uKk BK2 hk (fun e_ => by have e2 : gb2 = gb8 := e_; have := HG8.out; have := HL8.out; have := HG2.out; have := HL2.out; have := HS2.out; have := HS3.out; have := HS4.out; have := HS5.out; omega); replace BK8 := BKn; replace HB := HBn; clear BKn HBn; have HS7 := zM hk.1; clear hk; refine (impl_WideNumber.calls k3 a0_0 _ _ l0_1 a1 q0 q1 _ ?side1 ?side2 H3.out).mono ?_; (case side1 => exact zC (Kd.R_reads' HO1_0.out).2.2); (case side2 => exact (Kd.R_reads' HO1_0.out).2.1); rintro e w8 ⟨rfl, hb⟩; replace HO1_0 := uRb HO1_0 hb; replace BK2 := uKb BK2 hb; replace BK8 := uKb BK8 hb; have HS8 := zM hb.size; replace HB := zM (below_step HB.out hb); clear hb; replace hc2_0 := zy BK2 0; replace hf2_0 := blk_frozen BK2.out 0; replace hc2_1 := zy BK2 1; replace hf2_1 := blk_frozen BK2.out 1; replace hc8_0 := zy BK8 0; replace hf8_0 := blk_frozen BK8.out 0; replace hc8_1 := zy BK8 1; replace hf8_1 := blk_frozen BK8.out 1))
  (try simp only [Act.put, List.setIfInBounds_toArray, List.set_cons_zero, List.set_cons_succ])
  replace HO1_0 := zM (Kd.R_drew HO1_0.out)
  replace BK2 := zM (blk_drew BK2.out)
  replace BK8 := zM (blk_drew BK8.out)
  replace HB := zM (below_drew1 HB.out)
  refine zs (n := 5) (fun w' => w'.cell? ⟨gb8, 0, none⟩ = some (.int .i64 a0_0) ∧ w'.cell? ⟨gb8, 1, none⟩ = some (.slice Ao1_0 l0_1.length co1_0) ∧ w'.cell? ⟨gb2, 0, none⟩ = some (.int .i64 a0_0) ∧ w'.cell? ⟨gb2, 1, none⟩ = some (.slice A0_1 l0_1.length ca0_1)) ⟨(blk_cell BK8.out 0).trans rfl, (blk_cell BK8.out 1).trans rfl, (blk_cell BK2.out 0).trans rfl, (blk_cell BK2.out 1).trans rfl⟩ (fun hHeld => ?_)
  have HS9 := zM (show w8.heap.size ≤ w8.drew.heap.size from Nat.le_refl _)
  generalize w8.drew = w9 at HO1_0 BK2 BK8 HB HS9 hHeld ⊢
  refine zl 0 39 hHeld ?_ (hy := by rintro w' ⟨s0, s1, s2, s3⟩; go_simp; with_reducible rfl)
  refine zl 1 40 hHeld ?_ (hy := by rintro w' ⟨s0, s1, s2, s3⟩; go_simp; with_reducible rfl)
  refine zh 2 41 Try.func6 #[.agg #[.int .i64 a0_0, .slice A0_1 l0_1.length ca0_1]] (fun K hK => ?_)
  (refine (laws_toGraph.calls k1 a0_0 _ _ l0_1 a0_0 l0_1 _ ?side1 ?side2 H1.out).mono ?_; (case side1 => exact zC (Kd.C_below HR0_1.out HB.out)); (case side2 => exact HC0_1.out); rintro e w10 ⟨v2_0, rfl, ho0, hb⟩; replace HO1_0 := uRb HO1_0 hb; replace BK2 := uKb BK2 hb; replace BK8 := uKb BK8 hb; have HS10 := zM hb.size; have HO2_0 := uR HB.out (by first | exact ho0 | exact Kd.R_mono ho0 (fun _ _ => trivial) | exact Kd.R_mono ho0 (fun _ hk_ => hk_.1)); clear ho0; obtain ⟨Ao2_0, co2_0, eo2_0⟩ := Kd.R_slice HO2_0.out; subst eo2_0; replace HB := zM (below_step HB.out hb); clear hb)
  refine ⟨_, rfl, ?_⟩
  refine hK.out _ _ ⟨(blk_cell BK8.out 0).trans rfl, (blk_cell BK8.out 1).trans rfl, (blk_cell BK2.out 0).trans rfl, (blk_cell BK2.out 1).trans rfl⟩ (fun hHeld => ?_)
  clear hK K
  refine zn 41 ?_
  refine zh 3 42 Try.func8 #[.agg #[.int .i64 a0_0, .slice Ao1_0 l0_1.length co1_0], .agg #[.int .i64 a0_0, .slice Ao2_0 l0_1.length co2_0]] (fun K hK => ?_)
  (refine (laws_eqGraph.calls k4 a0_0 _ _ l0_1 a0_0 _ _ l0_1 true _ ?side1 ?side2 ?side3 ?side4 H4.out).mono ?_; (case side1 => exact zC (Kd.R_reads' HO1_0.out).2.2); (case side2 => exact (Kd.R_reads' HO1_0.out).2.1); (case side3 => exact zC (Kd.R_reads' HO2_0.out).2.2); (case side4 => exact (Kd.R_reads' HO2_0.out).2.1); clear HO1_0; clear HO2_0; rintro e w11 ⟨rfl, hb⟩; replace BK2 := uKb BK2 hb; replace BK8 := uKb BK8 hb; have HS11 := zM hb.size; replace HB := zM (below_step HB.out hb); clear hb)
  refine ⟨_, rfl, ?_⟩
  refine hK.out _ _ ⟨(blk_cell BK8.out 0).trans rfl, (blk_cell BK8.out 1).trans rfl, (blk_cell BK2.out 0).trans rfl, (blk_cell BK2.out 1).trans rfl⟩ (fun hHeld => ?_)
  clear hK K
  refine zn 42 ?_
  refine zq 4 43 ?_
  refine zx ?_
  replace hc2_0 := zy BK2 0
  replace hf2_0 := blk_frozen BK2.out 0
  replace hc2_1 := zy BK2 1
  replace hf2_1 := blk_frozen BK2.out 1
  replace hc8_0 := zy BK8 0
  replace hf8_0 := blk_frozen BK8.out 0
  replace hc8_1 := zy BK8 1
  replace hf8_1 := blk_frozen BK8.out 1
  go_wp2
  go_ret
  exact ⟨rfl, HB.out⟩
end Go.Proofs.Ytfaeopmofgnbdaa.P
namespace Go.Proofs.Ytfaeopmofgnbdaa.P
open Go.RowKit Go.Proofs.YtfaeopmofgnbdaaW.PrintWords Go.Proofs.YtfaeopmofgnbdaaW.PrintLast Go.Proofs.YtfaeopmofgnbdaaW.PrintMore
set_option linter.unusedVariables false
set_option linter.unusedSimpArgs false

theorem own_at (l : List Int) (h : l.length ≤ 1048576) : spec_l1Own.f l = some l := by
  unfold spec_l1Own.f
  rw [Option.bind_some, List.length_nil, if_pos (by omega), List.nil_append]
theorem same_loop (x y : List Int) (hx : x.length ≤ 1048576) (hxy : x.length = y.length) (d : Nat) : ∀ (m : Nat), x.length - m = d → m ≤ x.length → Ev (fun k => spec_l1Same.l0 k x y (m : Int)) (decide (x.drop m = y.drop m)) := by
  induction d with
  | zero =>
    intro m h0 h1
    refine Ev.step (fun k => by rw [spec_l1Same.l0]) (Ev.neg (by omega) ?_)
    rw [List.drop_eq_nil_of_le (by omega), List.drop_eq_nil_of_le (by omega), decide_eq_true rfl]
    exact Ev.now _
  | succ d ih =>
    intro m h0 h1
    have hm : m < x.length := by omega
    have hy : m < y.length := by omega
    refine Ev.step (fun k => by rw [spec_l1Same.l0]) (Ev.pos (by omega) (Ev.pos (by omega) (Ev.pos (by omega) ?_)))
    rw [rd_at x m hm, rd_at y m hy, List.drop_eq_getElem_cons hm, List.drop_eq_getElem_cons hy]
    by_cases c : x[m] = y[m]
    · have := ih (m + 1) (by omega) (by omega)
      rw [show decide (x[m] :: x.drop (m + 1) = y[m] :: y.drop (m + 1)) = decide (x.drop (m + 1) = y.drop (m + 1)) from by rw [decide_eq_decide, List.cons.injEq]; exact ⟨fun h => h.2, fun h => ⟨c, h⟩⟩, wrap_up hm (by omega)]
      exact Ev.pos c this
    · rw [decide_eq_false (fun h => c (by injection h))]
      exact Ev.neg c (Ev.now _)
theorem same_ev (x y : List Int) (hx : x.length ≤ 1048576) : Ev (fun k => spec_l1Same.f k x y) (decide (x = y)) := by
  unfold spec_l1Same.f
  by_cases c : x.length = y.length
  · have := same_loop x y hx c x.length 0 (by omega) (Nat.zero_le _)
    rw [List.drop_zero, List.drop_zero] at this
    exact Ev.pos (by omega) this
  · rw [decide_eq_false (fun h => c (by rw [h]))]
    exact Ev.neg (by omega) (Ev.now _)
theorem lex_ins {o : List (List Int)} (h : LexS o) (s : List Int) (p : Nat) (h1 : ∀ x ∈ o.drop p, befL s x = true) (h2 : ∀ x ∈ o.take p, befL x s = true) :
    LexS (o.take p ++ [s] ++ o.drop p) ∧ ∀ x, x ∈ o.take p ++ [s] ++ o.drop p ↔ x ∈ o ∨ x = s := by
  have hm : ∀ x, x ∈ o ↔ x ∈ o.take p ∨ x ∈ o.drop p := fun x => by rw [← List.mem_append, List.take_append_drop]
  constructor
  · unfold LexS
    rw [List.append_assoc, List.singleton_append, List.pairwise_append, List.pairwise_cons]
    refine ⟨h.sublist (List.take_sublist ..), ⟨h1, h.sublist (List.drop_sublist ..)⟩, fun a ha b hb => ?_⟩
    rcases List.mem_cons.1 hb with rfl | hb
    · exact h2 a ha
    · exact befL_trans _ _ _ (h2 a ha) (h1 b hb)
  · intro x
    rw [hm x]
    simp only [List.mem_append, List.mem_singleton]
    constructor
    · rintro ((h | h) | h)
      · exact .inl (.inl h)
      · exact .inr h
      · exact .inl (.inr h)
    · rintro ((h | h) | h)
      · exact .inl (.inl h)
      · exact .inr h
      · exact .inl (.inr h)
section
variable (ls : List (List Int)) (hls : ls.length ≤ 1048576) (hb : ∀ s ∈ ls, s.length ≤ 1048576)
include hls hb
theorem sorted_in (i : Nat) (hi : i < ls.length) (o : List (List Int)) (ho : LexS o) (hol : o.length ≤ i) (hob : ∀ x ∈ o, x.length ≤ 1048576) : ∀ p : Nat, p ≤ o.length → (∀ x ∈ o.drop p, befL ls[i] x = true) →
    ∃ R, LexS R ∧ R.length ≤ o.length + 1 ∧ (∀ x, x ∈ R ↔ x ∈ o ∨ x = ls[i]) ∧ ∀ F, Ev (fun k => spec_l2Sorted.l0 k ls R (wrap64 ((i : Int) + 1))) F → Ev (fun k => spec_l2Sorted.l1 k ls o (i : Int) (p : Int)) F := by
  have hs := hb ls[i] (List.getElem_mem hi)
  intro p
  induction p with
  | zero =>
    intro hp hd
    obtain ⟨g1, g2⟩ := lex_ins ho ls[i] 0 hd (fun x hx => by simp at hx)
    refine ⟨_, g1, by simp, g2, fun F hF => ?_⟩
    refine Ev.step (fun k => by rw [spec_l2Sorted.l1]) ?_
    refine Ev.neg (by omega) ?_
    refine Ev.step (fun k => by rw [spec_l2Sorted.j2]) ?_
    refine Ev.pos rfl ?_
    refine Ev.bindo rfl ?_
    refine Ev.pos (by omega) ?_
    refine Ev.pos (by omega) ?_
    refine Ev.bindo rfl ?_
    refine Ev.pos (by simp) ?_
    refine Ev.bindo rfl ?_
    refine Ev.pos (by omega) ?_
    refine Ev.pos (by omega) ?_
    rw [rdL_at ls i hi]
    refine Ev.bindo (own_at _ hs) ?_
    refine Ev.pos (by simp) ?_
    refine Ev.bindo rfl ?_
    refine Ev.bindo rfl ?_
    refine Ev.pos (by simp; omega) ?_
    exact hF
  | succ p ih =>
    intro hp hd
    have hpl : p < o.length := by omega
    have hw : wrap64 (((p + 1 : Nat) : Int) - 1) = (p : Int) := by unfold wrap64; omega
    cases c : befL ls[i] o[p] with
    | true =>
      obtain ⟨R, r1, r2, r3, r4⟩ := ih (by omega) (fun x hx => by
        rw [List.drop_eq_getElem_cons hpl] at hx
        rcases List.mem_cons.1 hx with rfl | hx
        · exact c
        · exact hd x hx)
      refine ⟨R, r1, r2, r3, fun F hF => ?_⟩
      refine Ev.step (fun k => by rw [spec_l2Sorted.l1]) ?_
      refine Ev.pos (by omega) ?_
      refine Ev.pos (by omega) ?_
      refine Ev.pos (by omega) ?_
      rw [hw]
      refine Ev.pos (by omega) ?_
      refine Ev.pos (by omega) ?_
      rw [rdL_at ls i hi, rdL_at o p hpl]
      refine Ev.bind (l2Before_ev _ _ hs (hob _ (List.getElem_mem hpl))) ?_
      refine Ev.pos c ?_
      exact r4 F hF
    | false =>
      by_cases e : o[p] = ls[i]
      · refine ⟨o, ho, by omega, fun x => ⟨.inl, fun h => h.elim id fun h => by rw [h, ← e]; exact List.getElem_mem hpl⟩, fun F hF => ?_⟩
        refine Ev.step (fun k => by rw [spec_l2Sorted.l1]) ?_
        refine Ev.pos (by omega) ?_
        refine Ev.pos (by omega) ?_
        refine Ev.pos (by omega) ?_
        rw [hw]
        refine Ev.pos (by omega) ?_
        refine Ev.pos (by omega) ?_
        rw [rdL_at ls i hi, rdL_at o p hpl]
        refine Ev.bind (l2Before_ev _ _ hs (hob _ (List.getElem_mem hpl))) ?_
        refine Ev.neg (by rw [c]; decide) ?_
        refine Ev.step (fun k => by rw [spec_l2Sorted.j2]) ?_
        refine Ev.neg (by omega) ?_
        rw [hw]
        refine Ev.pos (by omega) ?_
        refine Ev.pos (by omega) ?_
        refine Ev.pos (by omega) ?_
        refine Ev.pos (by omega) ?_
        rw [rdL_at ls i hi, rdL_at o p hpl]
        refine Ev.bind (same_ev _ _ (hob _ (List.getElem_mem hpl))) ?_
        refine Ev.pos (decide_eq_true e) ?_
        exact hF
      · have hlt : befL o[p] ls[i] = true := by
          cases c2 : befL o[p] ls[i] with
          | true => rfl
          | false => exact absurd (befL_tri _ _ c2 c) e
        obtain ⟨g1, g2⟩ := lex_ins ho ls[i] (p + 1) hd (fun x hx => by
          obtain ⟨q, hq, rfl⟩ := List.getElem_of_mem hx
          rw [List.length_take] at hq
          rw [List.getElem_take]
          by_cases hqp : q = p
          · subst hqp; exact hlt
          · exact befL_trans _ _ _ (List.pairwise_iff_getElem.1 ho q p (by omega) hpl (by omega)) hlt)
        refine ⟨_, g1, by simp [List.length_take, List.length_drop]; omega, g2, fun F hF => ?_⟩
        refine Ev.step (fun k => by rw [spec_l2Sorted.l1]) ?_
        refine Ev.pos (by omega) ?_
        refine Ev.pos (by omega) ?_
        refine Ev.pos (by omega) ?_
        rw [hw]
        refine Ev.pos (by omega) ?_
        refine Ev.pos (by omega) ?_
        rw [rdL_at ls i hi, rdL_at o p hpl]
        refine Ev.bind (l2Before_ev _ _ hs (hob _ (List.getElem_mem hpl))) ?_
        refine Ev.neg (by rw [c]; decide) ?_
        refine Ev.step (fun k => by rw [spec_l2Sorted.j2]) ?_
        refine Ev.neg (by omega) ?_
        rw [hw]
        refine Ev.pos (by omega) ?_
        refine Ev.pos (by omega) ?_
        refine Ev.pos (by omega) ?_
        refine Ev.pos (by omega) ?_
        rw [rdL_at ls i hi, rdL_at o p hpl]
        refine Ev.bind (same_ev _ _ (hob _ (List.getElem_mem hpl))) ?_
        refine Ev.neg (by rw [decide_eq_false e]; decide) ?_
        refine Ev.bindo rfl ?_
        refine Ev.pos (by omega) ?_
        refine Ev.pos (by omega) ?_
        refine Ev.bindo rfl ?_
        rw [Int.toNat_natCast]
        refine Ev.pos (by simp [List.length_take]; omega) ?_
        refine Ev.bindo rfl ?_
        refine Ev.bindo (own_at _ hs) ?_
        refine Ev.pos (by simp [List.length_take]; omega) ?_
        refine Ev.bindo rfl ?_
        refine Ev.bindo rfl ?_
        refine Ev.pos (by simp [List.length_take, List.length_drop]; omega) ?_
        exact hF
theorem sorted_loop (d : Nat) : ∀ (m : Nat) (o : List (List Int)), ls.length - m = d → m ≤ ls.length → LexS o → o.length ≤ m → (∀ x, x ∈ o ↔ x ∈ ls.take m) →
    ∃ R, LexS R ∧ R.length ≤ ls.length ∧ (∀ x, x ∈ R ↔ x ∈ ls) ∧ Ev (fun k => spec_l2Sorted.l0 k ls o (m : Int)) R := by
  induction d with
  | zero =>
    intro m o h0 h1 h2 h3 h4
    refine ⟨o, h2, by omega, fun x => by rw [h4 x, List.take_of_length_le (by omega)], ?_⟩
    refine Ev.step (fun k => by rw [spec_l2Sorted.l0]) ?_
    exact Ev.neg (by omega) (Ev.now _)
  | succ d ih =>
    intro m o h0 h1 h2 h3 h4
    have hm : m < ls.length := by omega
    obtain ⟨R, r1, r2, r3, r4⟩ := sorted_in ls hls hb m hm o h2 h3 (fun x hx => hb x (List.mem_of_mem_take ((h4 x).1 hx))) o.length (Nat.le_refl _) (fun x hx => by rw [List.drop_length] at hx; simp at hx)
    obtain ⟨R', q1, q2, q3, q4⟩ := ih (m + 1) R (by omega) (by omega) r1 (by omega) (fun x => by
      rw [r3 x, h4 x, List.take_succ_eq_append_getElem hm, List.mem_append, List.mem_singleton])
    rw [← wrap_up hm (by omega)] at q4
    refine ⟨R', q1, q2, q3, ?_⟩
    refine Ev.step (fun k => by rw [spec_l2Sorted.l0]) ?_
    refine Ev.pos (by omega) ?_
    exact r4 R' q4
end
theorem l2Sorted_ev (ls : List (List Int)) (hls : ls.length ≤ 1048576) (hb : ∀ s ∈ ls, s.length ≤ 1048576) : ∃ R, LexS R ∧ R.length ≤ ls.length ∧ (∀ x, x ∈ R ↔ x ∈ ls) ∧ Ev (fun k => spec_l2Sorted.f k ls) R := by
  obtain ⟨R, r1, r2, r3, r4⟩ := sorted_loop ls hls hb ls.length 0 [] (by omega) (Nat.zero_le _) List.Pairwise.nil (Nat.le_refl _) (fun x => by simp)
  refine ⟨R, r1, r2, r3, ?_⟩
  unfold spec_l2Sorted.f
  simpa only [Int.natCast_zero] using r4
theorem l2Sorted_nodup (ls : List (List Int)) (hls : ls.length ≤ 1048576) (hb : ∀ s ∈ ls, s.length ≤ 1048576) (hn : ls.Nodup) : Ev (fun k => spec_l2Sorted.f k ls) (sortLL ls) := by
  obtain ⟨R, r1, r2, r3, r4⟩ := l2Sorted_ev ls hls hb
  rw [← lex_unique R (sortLL ls) r1 (sortLL_lex ls hn) (fun s => by rw [r3, sortLL_mem])]
  exact r4
end Go.Proofs.Ytfaeopmofgnbdaa.P
namespace Go.Proofs.Ytfaeopmofgnbdaa.P
open Go.RowKit Go.Proofs.YtfaeopmofgnbdaaW.PrintWords Go.Proofs.YtfaeopmofgnbdaaW.PrintLast Go.Proofs.YtfaeopmofgnbdaaW.PrintMore
set_option linter.unusedVariables false
set_option linter.unusedSimpArgs false

abbrev bagL (b : Int) : List Int := selI (hasI b) 8 0
theorem hasB_fin : ∀ b : Fin 256, ∀ y : Fin 8, (Go.bits .and .i64 (shr .i64 b y) 1 == 1) = hasI b y := by decide +kernel
theorem hasB_at {b y : Int} (hb : 0 ≤ b ∧ b < 256) (hy : 0 ≤ y ∧ y < 8) : (Go.bits .and .i64 (shr .i64 b y) 1 = 1) ↔ hasI b y = true := by
  obtain ⟨i, rfl⟩ := fin_of (n := 256) hb.1 hb.2
  obtain ⟨j, rfl⟩ := fin_of (n := 8) hy.1 hy.2
  have := hasB_fin i j
  rw [← this, beq_iff_eq]
theorem high_fin : ∀ n : Fin 9, ∀ b : Fin 256, decide (b.val < 2 ^ n.val) = (List.range 8).all (fun y => decide (y < n.val) || !hasI b y) := by decide +kernel
theorem high_at {n : Nat} {b : Int} (hn : n ≤ 8) (hb : 0 ≤ b ∧ b < 256) : b < ((2 ^ n : Nat) : Int) ↔ ∀ y : Int, (n : Int) ≤ y → y < 8 → hasI b y = false := by
  obtain ⟨i, rfl⟩ := fin_of (n := 256) hb.1 hb.2
  have h := high_fin ⟨n, by omega⟩ i
  have e1 : ((i.val : Int) < ((2 ^ n : Nat) : Int)) ↔ decide (i.val < 2 ^ n) = true := by rw [decide_eq_true_eq]; omega
  rw [e1, h, List.all_eq_true]
  constructor
  · intro h y h0 h1
    have := h y.toNat (by rw [List.mem_range]; omega)
    simp only [Bool.or_eq_true, decide_eq_true_eq, Bool.not_eq_true'] at this
    rw [show ((y.toNat : Nat) : Int) = y by omega] at this
    exact this.resolve_left (by omega)
  · intro h y hy
    rw [List.mem_range] at hy
    by_cases c : y < n
    · simp [c]
    · have := h (y : Int) (by omega) (by omega)
      simp [this]
theorem bag_left : ∀ b : Fin 256, bagI 0 (selI (hasI b) 8 0) = b := by decide +kernel
theorem bag_left_at {b : Int} (hb : 0 ≤ b ∧ b < 256) : bagI 0 (bagL b) = b := by
  obtain ⟨i, rfl⟩ := fin_of (n := 256) hb.1 hb.2
  exact bag_left i
theorem bits_loop (n : Int) (b : Int) (hn : n ≤ 8) (hb : 0 ≤ b ∧ b < 256) (d : Nat) : ∀ (y : Int) (acc : List Int), (n - y).toNat = d → 0 ≤ y → acc.length + d ≤ 1000 → Ev (fun k => spec_l2Bits.l0 k n b acc y) (acc ++ selI (hasI b) d y) := by
  induction d with
  | zero =>
    intro y acc h0 h1 h2
    refine Ev.step (fun k => by rw [spec_l2Bits.l0]) (Ev.neg (by omega) ?_)
    simp only [selI, List.append_nil]
    exact Ev.now _
  | succ d ih =>
    intro y acc h0 h1 h2
    refine Ev.step (fun k => by rw [spec_l2Bits.l0]) (Ev.pos (by omega) (Ev.pos (by omega) ?_))
    have hw : wrap64 (y + 1) = y + 1 := wrap_nat (by omega) (by omega)
    rw [hw, selI]
    by_cases c : hasI b y = true
    · rw [if_pos c, ← List.append_assoc]
      refine Ev.pos ((hasB_at hb ⟨h1, by omega⟩).2 c) (Ev.pos (by omega) ?_)
      exact ih (y + 1) _ (by omega) (by omega) (by rw [List.length_append, List.length_singleton]; omega)
    · rw [if_neg c, List.nil_append]
      exact Ev.neg (fun h => c ((hasB_at hb ⟨h1, by omega⟩).1 h)) (ih (y + 1) acc (by omega) (by omega) (by omega))
theorem bits_ev (n : Nat) (b : Int) (hn : n ≤ 8) (hb : 0 ≤ b ∧ b < ((2 ^ n : Nat) : Int)) : Ev (fun k => spec_l2Bits.f k (n : Int) b) (bagL b) := by
  have hpow : 2 ^ n ≤ 256 := Nat.pow_le_pow_right (n := 2) (by decide) (show n ≤ 8 from hn)
  have h := bits_loop (n : Int) b (by omega) ⟨hb.1, by omega⟩ n 0 [] (by omega) (by omega) (by simp; omega)
  unfold spec_l2Bits.f
  have e : bagL b = selI (hasI b) n 0 := by
    unfold bagL
    rw [show 8 = n + (8 - n) by omega, selI_add, selI_none _ (8 - n), List.append_nil]
    intro z h0 h1
    exact (high_at hn ⟨hb.1, by omega⟩).1 hb.2 z (by omega) (by omega)
  rw [e]
  simpa only [List.nil_append] using h
/-- A set of nodes. -/
def SetN (n : Nat) (s : List Int) : Prop := s.Pairwise (· < ·) ∧ ∀ x ∈ s, 0 ≤ x ∧ x < (n : Int)
theorem SetN.ris {n : Nat} {s : List Int} (h : SetN n s) : risI 0 ((n : Int) - 1) none s = true := risI_of _ _ s none h.1 (fun x hx => by have := h.2 x hx; omega) (fun q e => by cases e)
theorem SetN.wide {n m : Nat} {s : List Int} (h : SetN n s) (hm : n ≤ m) : SetN m s := ⟨h.1, fun x hx => by have := h.2 x hx; omega⟩
theorem selI_pw (f : Int → Bool) (d : Nat) : ∀ y, (selI f d y).Pairwise (· < ·) := by
  induction d with
  | zero => intro y; exact List.Pairwise.nil
  | succ d ih =>
    intro y
    simp only [selI]
    by_cases c : f y = true
    · rw [if_pos c, List.singleton_append, List.pairwise_cons]
      exact ⟨fun z hz => by have := ((selI_mem f d (y + 1) z).1 hz).1; omega, ih (y + 1)⟩
    · rw [if_neg c, List.nil_append]
      exact ih (y + 1)
theorem bagL_set {n : Nat} {b : Int} (hn : n ≤ 8) (hb : 0 ≤ b ∧ b < ((2 ^ n : Nat) : Int)) : SetN n (bagL b) := by
  have hpow : 2 ^ n ≤ 256 := Nat.pow_le_pow_right (n := 2) (by decide) (show n ≤ 8 from hn)
  refine ⟨selI_pw _ _ _, fun x hx => ?_⟩
  obtain ⟨h1, h2⟩ := (selI_mem _ _ _ _).1 hx
  have h3 := (high_at hn ⟨hb.1, by omega⟩).1 hb.2
  refine ⟨by omega, ?_⟩
  by_cases c : x < (n : Int)
  · exact c
  · have := h3 x (by omega) (by omega)
    rw [h2] at this
    exact absurd this (by decide)
theorem pw_unique {l1 l2 : List Int} (h1 : l1.Pairwise (· < ·)) (h2 : l2.Pairwise (· < ·)) (h : ∀ x, x ∈ l1 ↔ x ∈ l2) : l1 = l2 := by
  induction l1 generalizing l2 with
  | nil =>
    cases l2 with
    | nil => rfl
    | cons b u => exact absurd ((h b).2 (List.mem_cons_self ..)) (by simp)
  | cons a t ih =>
    cases l2 with
    | nil => exact absurd ((h a).1 (List.mem_cons_self ..)) (by simp)
    | cons b u =>
      have p1 := List.pairwise_cons.1 h1
      have p2 := List.pairwise_cons.1 h2
      have hab : a = b := by
        rcases List.mem_cons.1 ((h a).1 (List.mem_cons_self ..)) with e | e
        · exact e
        · rcases List.mem_cons.1 ((h b).2 (List.mem_cons_self ..)) with e2 | e2
          · exact e2.symm
          · have := p1.1 b e2
            have := p2.1 a e
            omega
      subst hab
      rw [ih p1.2 p2.2 fun s => ?_]
      constructor
      · intro hs
        rcases List.mem_cons.1 ((h s).1 (List.mem_cons_of_mem _ hs)) with e | e
        · have := p1.1 s hs; omega
        · exact e
      · intro hs
        rcases List.mem_cons.1 ((h s).2 (List.mem_cons_of_mem _ hs)) with e | e
        · have := p2.1 s hs; omega
        · exact e
theorem bag_list_set {l : List Int} (h : risI 0 (((8 : Nat) : Int) - 1) none l = true) : bagL (bagI 0 l) = l := by
  have hp := risI_pw _ _ l none h
  have hx : ∀ x ∈ l, 0 ≤ x ∧ x < 8 := fun x hx => by have := risI_all _ _ l none h x hx; omega
  have hb := (bagI_at l 0 (by omega) hx).2
  refine pw_unique (selI_pw _ _ _) hp.1 fun x => ?_
  rw [selI_mem]
  constructor
  · rintro ⟨h1, h2⟩
    rw [hb x (by omega) (by omega), hasI_nil (by omega) (by omega), Bool.false_or, decide_eq_true_eq] at h2
    exact h2
  · intro hx'
    have := hx x hx'
    refine ⟨by omega, ?_⟩
    rw [hb x (by omega) (by omega), hasI_nil (by omega) (by omega), Bool.false_or, decide_eq_true_eq]
    exact hx'
theorem SetN.code {n : Nat} {s : List Int} (hn : n ≤ 8) (h : SetN n s) : (0 ≤ bagI 0 s ∧ bagI 0 s < ((2 ^ n : Nat) : Int)) ∧ bagL (bagI 0 s) = s := by
  have h8 := (h.wide hn).ris
  have hb := bagI_at s 0 (by omega) (fun x hx => by have := h.2 x hx; omega)
  refine ⟨⟨hb.1.1, (high_at hn hb.1).2 fun y h0 h1 => ?_⟩, bag_list_set h8⟩
  rw [hb.2 y (by omega) h1, hasI_nil (by omega) h1, Bool.false_or, decide_eq_false_iff_not]
  intro hy
  have := h.2 y hy
  omega
theorem codes_mem {n : Nat} (hn : n ≤ 8) (p : Int → Bool) (s : List Int) : s ∈ codesL p (2 ^ n) ↔ SetN n s ∧ p (bagI 0 s) = true := by
  have hpow : 2 ^ n ≤ 256 := Nat.pow_le_pow_right (n := 2) (by decide) (show n ≤ 8 from hn)
  unfold codesL
  rw [List.mem_map]
  constructor
  · rintro ⟨b, hb, rfl⟩
    obtain ⟨h1, h2⟩ := (selI_mem _ _ _ _).1 hb
    have h3 : 0 ≤ b ∧ b < ((2 ^ n : Nat) : Int) := ⟨h1.1, by omega⟩
    refine ⟨bagL_set hn h3, ?_⟩
    rw [bag_left_at ⟨h3.1, by omega⟩]
    exact h2
  · rintro ⟨h1, h2⟩
    have h3 := h1.code hn
    exact ⟨bagI 0 s, (selI_mem _ _ _ _).2 ⟨by have := h3.1; omega, h2⟩, h3.2⟩
theorem codes_nodup {n : Nat} (hn : n ≤ 256) (p : Int → Bool) : (codesL p n).Nodup := by
  unfold codesL
  refine List.Pairwise.map _ ?_ (List.Pairwise.and_mem.1 (selI_pw p n 0))
  rintro a b ⟨ha, hb, hab⟩ e
  have h1 := ((selI_mem _ _ _ _).1 ha).1
  have h2 := ((selI_mem _ _ _ _).1 hb).1
  have := congrArg (bagI 0) e
  rw [bag_left_at ⟨by omega, by omega⟩, bag_left_at ⟨by omega, by omega⟩] at this
  omega
theorem SetN.len {n : Nat} {s : List Int} (h : SetN n s) : s.length ≤ n := by
  have : ∀ (s : List Int) (a : Int), s.Pairwise (· < ·) → (∀ x ∈ s, a ≤ x ∧ x < (n : Int)) → (s.length : Int) ≤ (n : Int) - a ∨ s = [] := by
    intro s
    induction s with
    | nil => intro a _ _; exact .inr rfl
    | cons x t ih =>
      intro a h1 h2
      have p1 := List.pairwise_cons.1 h1
      have hx := h2 x (List.mem_cons_self ..)
      rcases ih (x + 1) p1.2 (fun y hy => ⟨by have := p1.1 y hy; omega, (h2 y (List.mem_cons_of_mem _ hy)).2⟩) with h3 | h3
      · exact .inl (by rw [List.length_cons]; omega)
      · subst h3
        exact .inl (by rw [List.length_singleton]; omega)
  rcases this s 0 h.1 h.2 with h3 | h3
  · omega
  · subst h3; exact Nat.zero_le _
end Go.Proofs.Ytfaeopmofgnbdaa.P
namespace Go.Proofs.Ytfaeopmofgnbdaa.P
open Go.RowKit Go.Proofs.YtfaeopmofgnbdaaW.PrintWords Go.Proofs.YtfaeopmofgnbdaaW.PrintLast Go.Proofs.YtfaeopmofgnbdaaW.PrintMore
set_option linter.unusedVariables false

/-- No edge has both nodes in the set. -/
def freeI (e : List S48) (l : List Int) : Bool := !(e.any fun s => decide (s.f0 ∈ l) && decide (s.f1 ∈ l))
theorem hasP_iff (e : List S48) (x y : Int) : hasP e x y = true ↔ ∃ s ∈ e, (s.f0 = x ∧ s.f1 = y) ∨ (s.f0 = y ∧ s.f1 = x) := by
  unfold hasP
  rw [List.any_eq_true]
  simp only [Bool.or_eq_true, Bool.and_eq_true, decide_eq_true_eq]
theorem isFree_at (a : Int) (e : List S48) (b : Int) (l : List Int) (he : ∀ s ∈ e, 0 ≤ s.f0 ∧ s.f0 < s.f1 ∧ s.f1 < 8) (hb : ∀ y, 0 ≤ y → y < 8 → hasI b y = decide (y ∈ l)) : impl_Graph_isFree.f a e b = some (freeI e l) := by
  unfold impl_Graph_isFree.f
  have h1 : e.all (fun s => (impl_bag_has.f b s.f0).isSome && (impl_bag_has.f b s.f1).isSome) = true := by
    rw [List.all_eq_true]
    intro s hs
    have := he s hs
    rw [bag_has_at (by omega), bag_has_at (by omega)]
    rfl
  rw [if_pos h1]
  unfold freeI
  congr 2
  refine any_congr e _ _ fun s hs => ?_
  have := he s hs
  unfold bothB
  rw [bag_has_at (by omega), bag_has_at (by omega), Option.getD_some, Option.getD_some, hb _ (by omega) (by omega), hb _ (by omega) (by omega)]
end Go.Proofs.Ytfaeopmofgnbdaa.P
namespace Go.Proofs.Ytfaeopmofgnbdaa.P
open Go.RowKit Go.Proofs.YtfaeopmofgnbdaaW.PrintWords Go.Proofs.YtfaeopmofgnbdaaW.PrintLast Go.Proofs.YtfaeopmofgnbdaaW.PrintMore
set_option linter.unusedVariables false

def nbs (l : List S48) (x : Int) : Nat → Int → List Int
  | 0, _ => []
  | d + 1, y => (if hasP l x y = true then [y] else []) ++ nbs l x d (y + 1)
theorem nbs_len (l : List S48) (x : Int) (d : Nat) : ∀ y, (nbs l x d y).length ≤ d := by
  induction d with
  | zero => intro y; simp [nbs]
  | succ d ih =>
    intro y
    have := ih (y + 1)
    simp only [nbs, List.length_append]
    split <;> simp only [List.length_nil, List.length_cons] <;> omega
theorem hasP_self (l : List S48) (x : Int) (hu : ∀ e ∈ l, e.f0 < e.f1) : hasP l x x = false := by
  unfold hasP
  rw [List.any_eq_false]
  intro e he
  have := hu e he
  simp only [Bool.or_eq_true, Bool.and_eq_true, decide_eq_true_eq]
  omega
section
variable (a : Int) (l : List S48) (hl : l.length ≤ 1048576) (h8 : a ≤ 8) (x : Int)
include hl h8
variable (hu : ∀ e ∈ l, e.f0 < e.f1)
include hu
theorem iNbs_loop (d : Nat) : ∀ (y : Int) (acc : List Int), (a - y).toNat = d → 0 ≤ y → acc.length + d ≤ 1000 →
    Ev (fun k => impl_Graph_neighbors.l0 k x acc a y a l) (acc ++ nbs l x d y) := by
  induction d with
  | zero =>
    intro y acc h0 h1 h2
    refine Ev.step (fun k => by rw [impl_Graph_neighbors.l0]) (Ev.neg (by omega) ?_)
    simp only [nbs, List.append_nil]
    exact Ev.now _
  | succ d ih =>
    intro y acc h0 h1 h2
    refine Ev.step (fun k => by rw [impl_Graph_neighbors.l0]) (Ev.pos (by omega) ?_)
    have hw : wrap64 (y + 1) = y + 1 := wrap_nat (by omega) (by omega)
    rw [hw, nbs]
    by_cases cx : y = x
    · have c : ¬ hasP l x y = true := by rw [cx, hasP_self l x hu]; decide
      rw [if_neg c, List.nil_append]
      exact Ev.pos cx (ih (y + 1) acc (by omega) (by omega) (by omega))
    · refine Ev.neg cx (Ev.bind (has_ev a l x y hl hu) ?_)
      by_cases c : hasP l x y = true
      · refine Ev.pos c (Ev.pos (by omega) ?_)
        rw [if_pos c, ← List.append_assoc]
        exact ih (y + 1) _ (by omega) (by omega) (by rw [List.length_append, List.length_singleton]; omega)
      · rw [if_neg c, List.nil_append]
        exact Ev.neg c (ih (y + 1) acc (by omega) (by omega) (by omega))
end
theorem neighbors_ev (a : Int) (l : List S48) (x : Int) (hl : l.length ≤ 1048576) (h8 : a ≤ 8) (hu : ∀ e ∈ l, e.f0 < e.f1) : Ev (fun k => impl_Graph_neighbors.f k a l x) (nbs l x a.toNat 0) := by
  unfold impl_Graph_neighbors.f
  have := iNbs_loop a l hl h8 x hu a.toNat 0 [] (by omega) (by omega) (by simp; omega)
  simpa only [List.nil_append] using this
end Go.Proofs.Ytfaeopmofgnbdaa.P
