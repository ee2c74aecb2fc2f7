-- Written by a program of this session (the kit's print, turned: wip/print/patch.py) out of the translation. Not trusted: Lean checks it.
import Derived.Test.YtfaeopmofgnbdaaWideNumberG5
import Derived.Test.YtfaeopmofgnbdaaWideNumberG10
import Derived.Test.YtfaeopmofgnbdaaWideNumberG11
import Derived.Test.YtfaeopmofgnbdaaWideNumberG12
import Derived.Test.YtfaeopmofgnbdaaWideNumberG13
namespace Go.Proofs.Ytfaeopmofgnbdaa.P
open Go.RowKit Go.Proofs.YtfaeopmofgnbdaaW.PrintWords Go.Proofs.YtfaeopmofgnbdaaW.PrintLast Go.Proofs.YtfaeopmofgnbdaaW.PrintMore
attribute [local go_sem] max2_int min2_int max_two min_two max_three min_three max_four min_four   -- for this text's walks alone
set_option linter.unusedVariables false
set_option linter.unusedSimpArgs false

/-! ### spec_l4Turned: function 40 -/
def spec_l4Turned.f (k : Nat) (l0 : List Int) (a1 : Int) : Option (List Int) := (spec_l1Has.f k l0 a1).bind fun t368 => (if t368 = true then ((spec_l4Without.f k l0 a1).bind fun t369 => (some t369)) else ((spec_l1Put.f k l0 a1).bind fun t372 => (some t372)))
set_option maxHeartbeats 8000000 in
set_option maxRecDepth 100000 in
theorem spec_l4Turned.calls (k : Nat) (A0 : Option Addr) (c0 : Nat) (l0 : List Int) (a1 : Int) (r : List Int) (w : World) (hr0 : Kd.C (Kd.int .i64) w A0 l0.length l0) (hc0 : l0.length ≤ c0) (h : spec_l4Turned.f k l0 a1 = some r) :
 Calls Try.prog 40 #[.slice A0 l0.length c0, .int .i64 a1] w fun e w' => ∃ v0_ : Value, e = .returned (v0_) ∧ Kd.R (Kd.int .i64) 3 w' w.heap.size (fun _ => True) v0_ r ∧ Below w.heap.size w w' := by
 have HR0 := Aside0.mk hr0
 have HC0 := Aside0.mk hc0
 clear hr0 hc0
 have HB := zM (Below.refl w.heap.size w)
 have H : ((spec_l1Has.f k l0 a1).bind fun t368 => (if t368 = true then ((spec_l4Without.f k l0 a1).bind fun t369 => (some t369)) else ((spec_l1Put.f k l0 a1).bind fun t372 => (some t372)))) = some r := h
 clear h
 replace H := Option.bind_eq_some_iff.mp H
 obtain ⟨t368, A30, H⟩ := H
 have A3 := Aside0.mk A30
 clear A30
 by_cases c4 : t368 = true
 · subst c4
   rw [if_pos rfl] at H
   replace H := Option.bind_eq_some_iff.mp H
   obtain ⟨t369, A50, H⟩ := H
   have A5 := Aside0.mk A50
   clear A50
   obtain rfl := Option.some.inj H
   go_enter Try.func40, Try.ntmps40
   go_wp2_with (first | ((with_reducible refine gate_callee (f := 39) rfl ?_); refine zc 7 Try.func39 #[.slice A0 l0.length c0, .int .i64 a1] ?_; (with_reducible refine (spec_l1Has.calls k _ _ l0 a1 true _ ?side1 ?side2 A3.out).mono ?_); (case side1 => exact zC HR0.out); (case side2 => exact HC0.out); rintro e w' ⟨rfl, ⟨nd, rfl⟩⟩; refine ⟨_, rfl, ?_⟩) | ((with_reducible refine gate_callee (f := 54) rfl ?_); refine zc 10 Try.func54 #[.slice A0 l0.length c0, .int .i64 a1] ?_; (with_reducible refine (spec_l4Without.calls k _ _ l0 a1 t369 _ ?side1 ?side2 A5.out).mono ?_); (case side1 => exact zC HR0.out); (case side2 => exact HC0.out); rintro e w6 ⟨v370, rfl, ho0, hb⟩; refine ⟨_, rfl, ?_⟩; have HO371 := zM (Kd.R_lower ho0 (below_size zB)); replace HB := zM (below_step zB hb); (try clear hb); (try clear hb2); (try clear hk); (try clear hi); (try clear ho0)))
   go_ret
   exact ⟨_, by first | rfl | (simp [errW_none, errW_some] <;> rfl) | (simp [*, errW_none, errW_some] <;> rfl), by (with_reducible repeat (first | apply Kd.R_alloc | apply Kd.R_drewN | apply Kd.R_drew)); exact HO371.out, zB⟩
 · replace c4 := Bool.eq_false_iff.mpr c4
   subst c4
   have H1 : ((spec_l1Put.f k l0 a1).bind fun t372 => (some t372)) = some r := by rw [if_neg (show ¬ (false = true) by decide)] at H; exact H
   clear H
   have H := H1
   clear H1
   replace H := Option.bind_eq_some_iff.mp H
   obtain ⟨t372, A70, H⟩ := H
   have A7 := Aside0.mk A70
   clear A70
   obtain rfl := Option.some.inj H
   go_enter Try.func40, Try.ntmps40
   go_wp2_with (first | ((with_reducible refine gate_callee (f := 39) rfl ?_); refine zc 7 Try.func39 #[.slice A0 l0.length c0, .int .i64 a1] ?_; (with_reducible refine (spec_l1Has.calls k _ _ l0 a1 false _ ?side1 ?side2 A3.out).mono ?_); (case side1 => exact zC HR0.out); (case side2 => exact HC0.out); rintro e w' ⟨rfl, ⟨nd, rfl⟩⟩; refine ⟨_, rfl, ?_⟩) | ((with_reducible refine gate_callee (f := 55) rfl ?_); refine zc 13 Try.func55 #[.slice A0 l0.length c0, .int .i64 a1] ?_; (with_reducible refine (spec_l1Put.calls k _ _ l0 a1 t372 _ ?side1 ?side2 A7.out).mono ?_); (case side1 => exact zC HR0.out); (case side2 => exact HC0.out); rintro e w8 ⟨v373, rfl, ho0, hb⟩; refine ⟨_, rfl, ?_⟩; have HO374 := zM (Kd.R_lower ho0 (below_size zB)); replace HB := zM (below_step zB hb); (try clear hb); (try clear hb2); (try clear hk); (try clear hi); (try clear ho0)))
   go_ret
   exact ⟨_, by first | rfl | (simp [errW_none, errW_some] <;> rfl) | (simp [*, errW_none, errW_some] <;> rfl), by (with_reducible repeat (first | apply Kd.R_alloc | apply Kd.R_drewN | apply Kd.R_drew)); exact HO374.out, zB⟩

/-! ### spec_l4Tight: function 24 -/
def spec_l4Tight.l0 : Nat → Int → List Int → Int → Int → List (S48) → Option (Bool)
 | 0, _, _, _, _, _ => none
 | k + 1, x1, x2, x7, x376000, x376001 => if x7 < x376000 then ((spec_l1Has.f k x2 x7).bind fun t376 => (if (t376 == (x1 != 2)) = true then ((spec_l4Turned.f k x2 x7).bind fun t377 => ((spec_l4Has.f k x376000 x376001 x1 t377).bind fun t380 => (if t380 = true then (some false) else (spec_l4Tight.l0 k x1 x2 (wrap64 (x7 + 1)) x376000 x376001)))) else (spec_l4Tight.l0 k x1 x2 (wrap64 (x7 + 1)) x376000 x376001))) else (some true)
def spec_l4Tight.f (k : Nat) (a0_0 : Int) (l0_1 : List (S48)) (a1 : Int) (l2 : List Int) : Option (Bool) := spec_l4Tight.l0 k a1 l2 0 a0_0 l0_1
def spec_l4Tight.T4 : Bool × List (List Nat × List Nat) := (true, [([], []), ([], []), ([0, 1], [0, 1]), ([], []), ([3], [3]), ([2, 4], [2, 4]), ([5, 2], [5]), ([6], [6]), ([6], [6]), ([6], [6]), ([6], [6]), ([9, 10, 6, 6], [6, 9, 10]), ([7, 8, 11, 11, 6], [6, 7, 8, 11]), ([6, 12], [6, 12])])
def spec_l4Tight.B4 : List Nat := [0, 0, 3, 0, 8, 31, 63, 127, 127, 127, 127, 1663, 4095, 8191]
theorem spec_l4Tight.tab4 : rtab .any (opsOf Try.f24 4) = spec_l4Tight.T4 := by kernel_rfl
theorem spec_l4Tight.bits4 : waitsOk spec_l4Tight.T4.2 spec_l4Tight.B4 = true := by kernel_rfl
set_option maxHeartbeats 8000000 in
set_option maxRecDepth 100000 in
theorem spec_l4Tight.calls (k : Nat) (a0_0 : Int) (A0_1 : Option Addr) (c0_1 : Nat) (l0_1 : List (S48)) (a1 : Int) (A2 : Option Addr) (c2 : Nat) (l2 : List Int) (r : Bool) (w : World) (hr0_1 : Kd.C k48 w A0_1 l0_1.length l0_1) (hc0_1 : l0_1.length ≤ c0_1) (hr2 : Kd.C (Kd.int .i64) w A2 l2.length l2) (hc2 : l2.length ≤ c2) (h : spec_l4Tight.f k a0_0 l0_1 a1 l2 = some r) :
 Calls Try.prog 24 #[.agg #[.int .i64 a0_0, .slice A0_1 l0_1.length c0_1], .int .i64 a1, .slice A2 l2.length c2] w fun e w' => e = .returned (.bool r) ∧ Below w.heap.size w w' := by
 have hu28 := Try.underlying28
 have HR0_1 := Aside0.mk hr0_1
 have HC0_1 := Aside0.mk hc0_1
 clear hr0_1 hc0_1
 have HR2 := Aside0.mk hr2
 have HC2 := Aside0.mk hc2
 clear hr2 hc2
 have HB := zM (Below.refl w.heap.size w)
 have H : (spec_l4Tight.l0 k a1 l2 0 a0_0 l0_1) = some r := h
 clear h
 have H' := Aside0.mk H
 clear H
 go_enter Try.func24, Try.ntmps24
 go_wp2_with (first | ((with_reducible refine gate_dst (N := 3) rfl ?_); refine zb (w := w) 3 #[.int .i64 a0_0, .slice A0_1 l0_1.length c0_1] 28 zB ?_; clear HB; intro gb375 w4 HB BK375 GW375; have GE375 := GW375))
 go_loopg [7] k (fun kq v7 w' => ∃ (x7_1 : Int), v7 = .int .i64 x7_1 ∧ Aside0 (spec_l4Tight.l0 kq a1 l2 x7_1 a0_0 l0_1 = some r) ∧ Aside0 (kq ≤ k) ∧ Aside0 (w'.heap[gb375]? = some (.cells #[.int .i64 a0_0, (.slice A0_1 l0_1.length c0_1)] 28 (0, 0))) ∧ Aside0 (Below w.heap.size w w'))
 case atStart => exact ⟨(0), (by first | rfl | (simp; done) | (simp [*]; done)), H', ⟨Nat.le_refl _⟩, ⟨zK BK375.out⟩, ⟨zB⟩⟩
 case round =>
  clear H'
  try clear c2
  try clear p2
  obtain ⟨x7_1, rfl, HA, HK1, BK375, HB⟩ := hrel
  cases gk with
  | zero => exact absurd HA.out (by simp [spec_l4Tight.l0])
  | succ k1 =>
   have H := HA.out
   clear HA
   simp only [spec_l4Tight.l0] at H
   by_cases c5 : x7_1 < a0_0
   · rw [if_pos c5] at H
     have c5b0 := decide_eq_true c5
     clear c5
     replace H := Option.bind_eq_some_iff.mp H
     obtain ⟨t376, A60, H⟩ := H
     have A6 := Aside0.mk A60
     clear A60
     by_cases c7 : (t376 == (a1 != 2)) = true
     · rw [if_pos c7] at H
       have c7b0 : (t376 == (a1 != 2)) = true := c7
       (try (have c7b1 : decide (t376 = (a1 != 2)) = true := by simpa using c7))
       (try (have c7b2 : (t376 == (a1 != 2)) = true := by simpa using c7))
       clear c7
       replace H := Option.bind_eq_some_iff.mp H
       obtain ⟨t377, A80, H⟩ := H
       have A8 := Aside0.mk A80
       clear A80
       replace H := Option.bind_eq_some_iff.mp H
       obtain ⟨t380, A90, H⟩ := H
       have A9 := Aside0.mk A90
       clear A90
       by_cases c10 : t380 = true
       · subst c10
         rw [if_pos rfl] at H
         obtain rfl := Option.some.inj H
         have hcz11_0 := zy BK375 0
         have hcz11_1 := zy BK375 1
         have hfz11_0 := blk_frozen BK375.out 0
         have hfz11_1 := blk_frozen BK375.out 1
         try go_wp2
         replace BK375 := zM (blk_drew BK375.out)
         replace HB := zM (below_drew1 HB.out)
         refine zs (n := 14) (fun w' => w'.cell? ⟨gb375, 0, none⟩ = some (.int .i64 a0_0) ∧ w'.cell? ⟨gb375, 1, none⟩ = some (.slice A0_1 l0_1.length c0_1)) ⟨(blk_cell BK375.out 0).trans rfl, (blk_cell BK375.out 1).trans rfl⟩ (fun hHeld => ?_); refine with_tabW spec_l4Tight.tab4 spec_l4Tight.bits4 (fun HT_ HW_ => ?_)
         generalize wr.drew = w12 at BK375 HB hHeld ⊢
         refine zp HT_ 0 14 ?_
         refine zp HT_ 1 15 ?_
         refine zp HT_ 3 17 ?_
         refine zp HT_ 4 18 ?_
         refine zg HT_ 2 16 Try.func39 #[.slice A2 l2.length c2, .int .i64 x7_1] (fun K hK => ?_)
         with_reducible refine (spec_l1Has.calls k1 _ _ l2 x7_1 t376 _ ?side1 ?side2 A6.out).mono ?_
         (case side1 => exact zC (Kd.C_below HR2.out HB.out))
         (case side2 => exact HC2.out)
         rintro e w' ⟨rfl, ⟨nd, rfl⟩⟩
         refine ⟨_, rfl, ?_⟩
         refine hK.out _ _ ⟨(blk_cell BK375.out 0).trans rfl, (blk_cell BK375.out 1).trans rfl⟩ (fun hHeld => ?_)
         clear hK K
         refine zn 16 ?_
         refine zp HT_ 5 19 ?_
         refine zp HT_ 6 20 ?_
         refine zp HT_ 8 22 ?_
         refine zp HT_ 9 23 ?_
         refine zp HT_ 10 24 ?_
         refine zt HT_ HW_ 7 21 hHeld ?_ (hy := by rintro w' ⟨s0, s1⟩; go_simp; with_reducible rfl)
         refine zg HT_ 11 25 Try.func40 #[.slice A2 l2.length c2, .int .i64 x7_1] (fun K hK => ?_)
         with_reducible refine (spec_l4Turned.calls k1 _ _ l2 x7_1 t377 _ ?side1 ?side2 A8.out).mono ?_
         (case side1 => exact zC (Kd.C_below HR2.out zB))
         (case side2 => exact HC2.out)
         rintro e w13 ⟨v378, rfl, ho0, hb⟩
         refine ⟨_, rfl, ?_⟩
         have HO379 := zM (Kd.R_lower ho0 (below_size zB))
         replace BK375 := zM (blk_below (g := gb375) (o := .cells #[.int .i64 a0_0, .slice A0_1 l0_1.length c0_1] 28 (0, 0)) (zK BK375.out) hb)
         replace HB := zM (below_step zB hb)
         (try clear hb)
         (try clear hb2)
         (try clear hk)
         (try clear hi)
         (try clear ho0)
         obtain ⟨Ao14, co14, eo14⟩ := Kd.R_slice HO379.out
         (first | subst eo14 | (injection eo14 with f1_ f2_ f3_; have f4_ := f1_.symm; have f5_ := f3_.symm; clear f1_ f2_ f3_; subst f4_; subst f5_))
         refine hK.out _ _ ⟨(blk_cell BK375.out 0).trans rfl, (blk_cell BK375.out 1).trans rfl⟩ (fun hHeld => ?_)
         clear hK K
         refine zn 25 ?_
         refine zg HT_ 12 26 Try.func37 #[.agg #[.int .i64 a0_0, .slice A0_1 l0_1.length c0_1], .int .i64 a1, .slice Ao14 t377.length co14] (fun K hK => ?_)
         with_reducible refine (spec_l4Has.calls k1 a0_0 _ _ l0_1 a1 _ _ t377 true _ ?side1 ?side2 ?side3 ?side4 A9.out).mono ?_
         (case side1 => exact zC (Kd.C_below HR0_1.out HB.out))
         (case side2 => exact HC0_1.out)
         (case side3 => exact zC (Kd.R_reads' HO379.out).2.2)
         (case side4 => exact (Kd.R_reads' HO379.out).2.1)
         rintro e w15 ⟨rfl, hb⟩
         refine ⟨_, rfl, ?_⟩
         replace HO379 := zM (Kd.R_below (zR HO379.out) hb)
         replace BK375 := zM (blk_below (g := gb375) (o := .cells #[.int .i64 a0_0, .slice A0_1 l0_1.length c0_1] 28 (0, 0)) (zK BK375.out) hb)
         replace HB := zM (below_step zB hb)
         (try clear hb)
         (try clear hb2)
         (try clear hk)
         (try clear hi)
         refine hK.out _ _ ⟨(blk_cell BK375.out 0).trans rfl, (blk_cell BK375.out 1).trans rfl⟩ (fun hHeld => ?_)
         clear hK K
         refine zn 26 ?_
         refine zp HT_ 13 27 ?_
         refine zo HT_ ?_
         try go_wp2
         go_ret
         exact ⟨by first | rfl | (simp [errW_none, errW_some] <;> rfl) | (simp [*, errW_none, errW_some] <;> rfl), zB⟩
       · replace c10 := Bool.eq_false_iff.mpr c10
         subst c10
         have H1 : (spec_l4Tight.l0 k1 a1 l2 (wrap64 (x7_1 + 1)) a0_0 l0_1) = some r := by rw [if_neg (show ¬ (false = true) by decide)] at H; exact H
         clear H
         have H := H1
         clear H1
         have H' := Aside0.mk H
         clear H
         have hcz16_0 := zy BK375 0
         have hcz16_1 := zy BK375 1
         have hfz16_0 := blk_frozen BK375.out 0
         have hfz16_1 := blk_frozen BK375.out 1
         try go_wp2
         replace BK375 := zM (blk_drew BK375.out)
         replace HB := zM (below_drew1 HB.out)
         refine zs (n := 14) (fun w' => w'.cell? ⟨gb375, 0, none⟩ = some (.int .i64 a0_0) ∧ w'.cell? ⟨gb375, 1, none⟩ = some (.slice A0_1 l0_1.length c0_1)) ⟨(blk_cell BK375.out 0).trans rfl, (blk_cell BK375.out 1).trans rfl⟩ (fun hHeld => ?_); refine with_tabW spec_l4Tight.tab4 spec_l4Tight.bits4 (fun HT_ HW_ => ?_)
         generalize wr.drew = w17 at BK375 HB hHeld ⊢
         refine zp HT_ 0 14 ?_
         refine zp HT_ 1 15 ?_
         refine zp HT_ 3 17 ?_
         refine zp HT_ 4 18 ?_
         refine zg HT_ 2 16 Try.func39 #[.slice A2 l2.length c2, .int .i64 x7_1] (fun K hK => ?_)
         with_reducible refine (spec_l1Has.calls k1 _ _ l2 x7_1 t376 _ ?side1 ?side2 A6.out).mono ?_
         (case side1 => exact zC (Kd.C_below HR2.out HB.out))
         (case side2 => exact HC2.out)
         rintro e w' ⟨rfl, ⟨nd, rfl⟩⟩
         refine ⟨_, rfl, ?_⟩
         refine hK.out _ _ ⟨(blk_cell BK375.out 0).trans rfl, (blk_cell BK375.out 1).trans rfl⟩ (fun hHeld => ?_)
         clear hK K
         refine zn 16 ?_
         refine zp HT_ 5 19 ?_
         refine zp HT_ 6 20 ?_
         refine zp HT_ 8 22 ?_
         refine zp HT_ 9 23 ?_
         refine zp HT_ 10 24 ?_
         refine zt HT_ HW_ 7 21 hHeld ?_ (hy := by rintro w' ⟨s0, s1⟩; go_simp; with_reducible rfl)
         refine zg HT_ 11 25 Try.func40 #[.slice A2 l2.length c2, .int .i64 x7_1] (fun K hK => ?_)
         with_reducible refine (spec_l4Turned.calls k1 _ _ l2 x7_1 t377 _ ?side1 ?side2 A8.out).mono ?_
         (case side1 => exact zC (Kd.C_below HR2.out zB))
         (case side2 => exact HC2.out)
         rintro e w18 ⟨v378, rfl, ho0, hb⟩
         refine ⟨_, rfl, ?_⟩
         have HO379 := zM (Kd.R_lower ho0 (below_size zB))
         replace BK375 := zM (blk_below (g := gb375) (o := .cells #[.int .i64 a0_0, .slice A0_1 l0_1.length c0_1] 28 (0, 0)) (zK BK375.out) hb)
         replace HB := zM (below_step zB hb)
         (try clear hb)
         (try clear hb2)
         (try clear hk)
         (try clear hi)
         (try clear ho0)
         obtain ⟨Ao19, co19, eo19⟩ := Kd.R_slice HO379.out
         (first | subst eo19 | (injection eo19 with f1_ f2_ f3_; have f4_ := f1_.symm; have f5_ := f3_.symm; clear f1_ f2_ f3_; subst f4_; subst f5_))
         refine hK.out _ _ ⟨(blk_cell BK375.out 0).trans rfl, (blk_cell BK375.out 1).trans rfl⟩ (fun hHeld => ?_)
         clear hK K
         refine zn 25 ?_
         refine zg HT_ 12 26 Try.func37 #[.agg #[.int .i64 a0_0, .slice A0_1 l0_1.length c0_1], .int .i64 a1, .slice Ao19 t377.length co19] (fun K hK => ?_)
         with_reducible refine (spec_l4Has.calls k1 a0_0 _ _ l0_1 a1 _ _ t377 false _ ?side1 ?side2 ?side3 ?side4 A9.out).mono ?_
         (case side1 => exact zC (Kd.C_below HR0_1.out HB.out))
         (case side2 => exact HC0_1.out)
         (case side3 => exact zC (Kd.R_reads' HO379.out).2.2)
         (case side4 => exact (Kd.R_reads' HO379.out).2.1)
         rintro e w20 ⟨rfl, hb⟩
         refine ⟨_, rfl, ?_⟩
         replace HO379 := zM (Kd.R_below (zR HO379.out) hb)
         replace BK375 := zM (blk_below (g := gb375) (o := .cells #[.int .i64 a0_0, .slice A0_1 l0_1.length c0_1] 28 (0, 0)) (zK BK375.out) hb)
         replace HB := zM (below_step zB hb)
         (try clear hb)
         (try clear hb2)
         (try clear hk)
         (try clear hi)
         refine hK.out _ _ ⟨(blk_cell BK375.out 0).trans rfl, (blk_cell BK375.out 1).trans rfl⟩ (fun hHeld => ?_)
         clear hK K
         refine zn 26 ?_
         refine zp HT_ 13 27 ?_
         refine zo HT_ ?_
         try go_wp2
         go_roundg k1
         case measure => have := HK1.out; omega
         case rel => exact ⟨(wrap64 (x7_1 + 1)), (by first | rfl | (simp; done) | (simp [*]; done)), H', ⟨by have := HK1.out; omega⟩, ⟨zK BK375.out⟩, ⟨zB⟩⟩
     · rw [if_neg c7] at H
       have c7b0 : (t376 == (a1 != 2)) = false := by simpa using c7
       (try (have c7b1 : decide (t376 = (a1 != 2)) = false := by simpa using c7))
       (try (have c7b2 : (t376 == (a1 != 2)) = false := by simpa using c7))
       (try (have c7b3 : ¬ (t376 = (a1 != 2)) := by simpa using c7))
       clear c7
       have H' := Aside0.mk H
       clear H
       have hcz21_0 := zy BK375 0
       have hcz21_1 := zy BK375 1
       have hfz21_0 := blk_frozen BK375.out 0
       have hfz21_1 := blk_frozen BK375.out 1
       try go_wp2
       replace BK375 := zM (blk_drew BK375.out)
       replace HB := zM (below_drew1 HB.out)
       refine zs (n := 14) (fun w' => True) trivial (fun hHeld => ?_); refine with_tabW spec_l4Tight.tab4 spec_l4Tight.bits4 (fun HT_ HW_ => ?_)
       generalize wr.drew = w22 at BK375 HB hHeld ⊢
       refine zp HT_ 0 14 ?_
       refine zp HT_ 1 15 ?_
       refine zp HT_ 3 17 ?_
       refine zp HT_ 4 18 ?_
       refine zg HT_ 2 16 Try.func39 #[.slice A2 l2.length c2, .int .i64 x7_1] (fun K hK => ?_)
       with_reducible refine (spec_l1Has.calls k1 _ _ l2 x7_1 t376 _ ?side1 ?side2 A6.out).mono ?_
       (case side1 => exact zC (Kd.C_below HR2.out HB.out))
       (case side2 => exact HC2.out)
       rintro e w' ⟨rfl, ⟨nd, rfl⟩⟩
       refine ⟨_, rfl, ?_⟩
       refine hK.out _ _ trivial (fun hHeld => ?_)
       clear hK K
       refine zn 16 ?_
       refine zp HT_ 5 19 ?_
       refine zp HT_ 6 20 ?_
       refine zu HT_ 7 21 ?_
       refine zu HT_ 8 22 ?_
       refine zu HT_ 9 23 ?_
       refine zu HT_ 10 24 ?_
       refine zu HT_ 11 25 ?_
       refine zu HT_ 12 26 ?_
       refine zp HT_ 13 27 ?_
       refine zo HT_ ?_
       try go_wp2
       go_roundg k1
       case measure => have := HK1.out; omega
       case rel => exact ⟨(wrap64 (x7_1 + 1)), (by first | rfl | (simp; done) | (simp [*]; done)), H', ⟨by have := HK1.out; omega⟩, ⟨zK BK375.out⟩, ⟨zB⟩⟩
   · rw [if_neg c5] at H
     have c5b0 : decide (x7_1 < a0_0) = false := decide_eq_false c5
     clear c5
     obtain rfl := Option.some.inj H
     have hcz23_0 := zy BK375 0
     have hcz23_1 := zy BK375 1
     have hfz23_0 := blk_frozen BK375.out 0
     have hfz23_1 := blk_frozen BK375.out 1
     go_wp2
     go_ret
     exact ⟨by first | rfl | (simp [errW_none, errW_some] <;> rfl) | (simp [*, errW_none, errW_some] <;> rfl), zB⟩

end Go.Proofs.Ytfaeopmofgnbdaa.P
namespace Go.Proofs.Ytfaeopmofgnbdaa.P
open Go.RowKit Go.Proofs.YtfaeopmofgnbdaaW.PrintWords Go.Proofs.YtfaeopmofgnbdaaW.PrintLast Go.Proofs.YtfaeopmofgnbdaaW.PrintMore
attribute [local go_sem] max2_int min2_int max_two min_two max_three min_three max_four min_four   -- for this text's walks alone
set_option linter.unusedVariables false
set_option linter.unusedSimpArgs false

/-! ### spec_TightSets: function 11 -/
def spec_TightSets.l0 : Nat → Int → List (List Int) → List (List Int) → Int → Int → List (S48) → Option ((List (List Int)) × Bool)
 | 0, _, _, _, _, _, _ => none
 | k + 1, x1, x6, x7, x8, x382000, x382001 => if x8 < (x7.length : Int) then (if 0 ≤ x8 then ((spec_l4Tight.f k x382000 x382001 x1 (rd_L2 x7 x8)).bind fun t390 => (if t390 = true then (if x6.length < 5864062014805 then (spec_TightSets.l0 k x1 (x6 ++ [rd_L2 x7 x8]) x7 (wrap64 (x8 + 1)) x382000 x382001) else (none)) else (spec_TightSets.l0 k x1 x6 x7 (wrap64 (x8 + 1)) x382000 x382001))) else (none)) else (some (x6, true))
def spec_TightSets.f (k : Nat) (a0_0 : Int) (l0_1 : List (S48)) (a1 : Int) : Option ((List (List Int)) × Bool) := (some (([] : List (List Int)) : List (List Int))).bind fun y382 => ((spec_l4Good.f k a0_0 l0_1 a1).bind fun t385 => (if t385 = true then ((spec_l4Sets.f k a0_0 l0_1 a1).bind fun t386 => (spec_TightSets.l0 k a1 y382 t386 0 a0_0 l0_1)) else (some (y382, false))))
set_option maxHeartbeats 8000000 in
set_option maxRecDepth 100000 in
theorem spec_TightSets.calls (k : Nat) (a0_0 : Int) (A0_1 : Option Addr) (c0_1 : Nat) (l0_1 : List (S48)) (a1 : Int) (r1 : List (List Int)) (r2 : Bool) (w : World) (hr0_1 : Kd.C k48 w A0_1 l0_1.length l0_1) (hc0_1 : l0_1.length ≤ c0_1) (h : spec_TightSets.f k a0_0 l0_1 a1 = some (r1, r2)) :
 Calls Try.prog 11 #[.agg #[.int .i64 a0_0, .slice A0_1 l0_1.length c0_1], .int .i64 a1] w fun e w' => ∃ v0_ : Value, e = .returned (.tuple #[v0_, .bool r2]) ∧ Kd.N (Kd.slice 3 (Kd.int .i64)) 37 w' w.heap.size (fun k_ => (w.heap.size ≤ k_)) v0_ r1 ∧ Below w.heap.size w w' := by
 have hu28 := Try.underlying28
 have HR0_1 := Aside0.mk hr0_1
 have HC0_1 := Aside0.mk hc0_1
 clear hr0_1 hc0_1
 have HB := zM (Below.refl w.heap.size w)
 have H : ((some (([] : List (List Int)) : List (List Int))).bind fun y382 => ((spec_l4Good.f k a0_0 l0_1 a1).bind fun t385 => (if t385 = true then ((spec_l4Sets.f k a0_0 l0_1 a1).bind fun t386 => (spec_TightSets.l0 k a1 y382 t386 0 a0_0 l0_1)) else (some (y382, false))))) = some (r1, r2) := h
 clear h
 obtain ⟨y382, hy382⟩ : ∃ y_ : List (List Int), y_ = (([] : List (List Int))) := ⟨_, rfl⟩
 replace H : ((spec_l4Good.f k a0_0 l0_1 a1).bind fun t385 => (if t385 = true then ((spec_l4Sets.f k a0_0 l0_1 a1).bind fun t386 => (spec_TightSets.l0 k a1 y382 t386 0 a0_0 l0_1)) else (some (y382, false)))) = some (r1, r2) := by first | (rw [hy382]; with_reducible exact H) | (have H2_ := (Option.bind_some _ _).symm.trans H; rw [hy382]; with_reducible exact H2_) | (have H2_ := (Option.bind_some _ _).symm.trans H; with_reducible exact H2_) | with_reducible exact H | (rw [hy382]; exact H) | exact H
 have Ny382 := Aside0.mk hy382
 clear hy382
 replace H := Option.bind_eq_some_iff.mp H
 obtain ⟨t385, A30, H⟩ := H
 replace H : (if t385 = true then ((spec_l4Sets.f k a0_0 l0_1 a1).bind fun t386 => (spec_TightSets.l0 k a1 y382 t386 0 a0_0 l0_1)) else (some (y382, false))) = some (r1, r2) := H
 have A3 := Aside0.mk A30
 clear A30
 by_cases c4 : t385 = true
 · subst c4
   have H1 : ((spec_l4Sets.f k a0_0 l0_1 a1).bind fun t386 => (spec_TightSets.l0 k a1 y382 t386 0 a0_0 l0_1)) = some (r1, r2) := by rw [if_pos rfl] at H; exact H
   clear H
   have H := H1
   clear H1
   replace H := Option.bind_eq_some_iff.mp H
   obtain ⟨t386, A50, H⟩ := H
   replace H : (spec_TightSets.l0 k a1 y382 t386 0 a0_0 l0_1) = some (r1, r2) := H
   have A5 := Aside0.mk A50
   clear A50
   have H' := Aside0.mk H
   clear H
   go_enter Try.func11, Try.ntmps11
   go_wp2_with (first | ((with_reducible refine gate_dst (N := 2) rfl ?_); refine zb (w := w) 2 #[.int .i64 a0_0, .slice A0_1 l0_1.length c0_1] 28 zB ?_; clear HB; intro gb381 w6 HB BK381 GW381; have GE381 := GW381) | ((with_reducible refine gate_dst (N := 9) rfl ?_); refine Kd.N_lit (Kd.slice 3 (Kd.int .i64)) _ 37 ?hg (N' := 9) ?hd (xs := ([] : List (List Int))) (inner := []) (ok := (fun k_ => (w.heap.size ≤ k_) ∧ k_ ≠ gb381)) (okp := (fun k_ => (w.heap.size ≤ k_) ∧ k_ ≠ gb381)) ?hr ?hp (fun _ hk => hk) ((show ∀ k_, w6.heap.size ≤ k_ → (fun k_ => (w.heap.size ≤ k_) ∧ k_ ≠ gb381) k_ from fun k_ hk => ⟨(Nat.le_trans (below_size zB) hk), Kd.freshB (g := gb381) (o := .cells #[.int .i64 a0_0, .slice A0_1 l0_1.length c0_1] 28 (0, 0)) (zK BK381.out) k_ hk⟩) _ (Nat.le_refl _)) (Below.refl _ _) (Nat.le_refl _) (by simp) ?_; (case hd => rfl); (case hg => rfl); (case hr => first | (go_simp; done) | (go_simp; rfl)); (case hp => exact (Reps.none _ _)); intro v383 w7 ho8 hb hg_ hnew_; clear hg_ hnew_; (first | rw [← Ny382.out] at ho8 | (simp only [Int.reduceToNat] at ho8; rw [← Ny382.out] at ho8)); have HO384 := zM (Kd.N_lower ho8 (below_size zB)); replace BK381 := zM (blk_below (g := gb381) (o := .cells #[.int .i64 a0_0, .slice A0_1 l0_1.length c0_1] 28 (0, 0)) (zK BK381.out) hb); replace HB := zM (below_step zB hb); clear hb ho8; have hcz9_0 := zy BK381 0; have hcz9_1 := zy BK381 1; have hfz9_0 := blk_frozen BK381.out 0; have hfz9_1 := blk_frozen BK381.out 1) | ((with_reducible refine gate_callee (f := 10) rfl ?_); refine zc 12 Try.func10 #[.agg #[.int .i64 a0_0, .slice A0_1 l0_1.length c0_1], .int .i64 a1] ?_; (with_reducible refine (spec_l4Good.calls k a0_0 _ _ l0_1 a1 true _ ?side1 ?side2 A3.out).mono ?_); (case side1 => exact zC (Kd.C_below HR0_1.out HB.out)); (case side2 => exact HC0_1.out); rintro e w10 ⟨rfl, hb⟩; refine ⟨_, rfl, ?_⟩; replace HO384 := zM (Kd.N_below (by (with_reducible repeat (first | apply Kd.N_alloc | apply Kd.N_drewN | apply Kd.N_drew)); exact HO384.out) hb); replace BK381 := zM (blk_below (g := gb381) (o := .cells #[.int .i64 a0_0, .slice A0_1 l0_1.length c0_1] 28 (0, 0)) (zK BK381.out) hb); replace HB := zM (below_step zB hb); (try clear hb); (try clear hb2); (try clear hk); (try clear hi); have hcz11_0 := zy BK381 0; have hcz11_1 := zy BK381 1; have hfz11_0 := blk_frozen BK381.out 0; have hfz11_1 := blk_frozen BK381.out 1) | ((with_reducible refine gate_callee (f := 23) rfl ?_); refine zc 17 Try.func23 #[.agg #[.int .i64 a0_0, .slice A0_1 l0_1.length c0_1], .int .i64 a1] ?_; (with_reducible refine (spec_l4Sets.calls k a0_0 _ _ l0_1 a1 t386 _ ?side1 ?side2 A5.out).mono ?_); (case side1 => exact zC (Kd.C_below HR0_1.out HB.out)); (case side2 => exact HC0_1.out); rintro e w12 ⟨v387, rfl, ho0, hb⟩; refine ⟨_, rfl, ?_⟩; have HO388 := zM (Kd.N_lower (Kd.N_mono (ok' := fun k_ => (w.heap.size ≤ k_) ∧ some k_ ≠ (v383 : Value).ownBlock ∧ k_ ≠ gb381) ho0 (fun k_ hk_ => ⟨(Nat.le_trans (below_size zB) hk_), (Kd.fresh' (Kd.N_lt (by (with_reducible repeat (first | apply Kd.N_alloc | apply Kd.N_drewN | apply Kd.N_drew)); exact HO384.out)) k_ hk_), (Kd.freshB (g := gb381) (o := .cells #[.int .i64 a0_0, .slice A0_1 l0_1.length c0_1] 28 (0, 0)) (zK BK381.out) k_ hk_)⟩)) (below_size zB)); replace HO384 := zM (Kd.N_elder' (by (with_reducible repeat (first | apply Kd.N_alloc | apply Kd.N_drewN | apply Kd.N_drew)); exact HO384.out) (Kd.N_base ho0) hb); replace BK381 := zM (blk_below (g := gb381) (o := .cells #[.int .i64 a0_0, .slice A0_1 l0_1.length c0_1] 28 (0, 0)) (zK BK381.out) hb); replace HB := zM (below_step zB hb); (try clear hb); (try clear hb2); (try clear hk); (try clear hi); (try clear ho0)))
   go_loopg [6, 8] k (fun kq v6 v8 w' => ∃ (x6_1 : List (List Int)) (x8_1 : Int), v8 = .int .i64 x8_1 ∧ Aside0 (spec_TightSets.l0 kq a1 x6_1 t386 x8_1 a0_0 l0_1 = some (r1, r2)) ∧ Aside0 (kq ≤ k) ∧ Aside0 (Kd.N (Kd.slice 3 (Kd.int .i64)) 37 w' w.heap.size (fun k_ => (w.heap.size ≤ k_) ∧ some k_ ≠ (v387 : Value).ownBlock ∧ k_ ≠ gb381) v6 x6_1) ∧ Aside0 (Kd.N (Kd.slice 3 (Kd.int .i64)) 37 w' w.heap.size (fun k_ => (w.heap.size ≤ k_) ∧ some k_ ≠ (v6 : Value).ownBlock ∧ k_ ≠ gb381) v387 t386) ∧ Aside0 (w'.heap[gb381]? = some (.cells #[.int .i64 a0_0, (.slice A0_1 l0_1.length c0_1)] 28 (0, 0))) ∧ Aside0 (Below w.heap.size w w'))
   case atStart => exact ⟨(y382), (0), (by first | rfl | (simp; done) | (simp [*]; done)), H', ⟨Nat.le_refl _⟩, ⟨by (with_reducible repeat (first | apply Kd.N_alloc | apply Kd.N_drewN | apply Kd.N_drew)); exact Kd.N_mono HO384.out (fun _ hk => ⟨hk.1.1, ⟨hk.2, hk.1.2⟩⟩)⟩, ⟨by (with_reducible repeat (first | apply Kd.N_alloc | apply Kd.N_drewN | apply Kd.N_drew)); exact HO388.out⟩, ⟨zK BK381.out⟩, ⟨zB⟩⟩
   case round =>
    clear H'
    try clear c1
    try clear c2
    try clear p2
    try clear c4
    try clear c10
    try clear c11
    try clear hcz11_0
    try clear hcz11_1
    try clear hcz9_0
    try clear hcz9_1
    try clear hfz11_0
    try clear hfz11_1
    try clear hfz9_0
    try clear hfz9_1
    obtain ⟨x6_1, x8_1, rfl, HA, HK1, HO_6, HO_7, BK381, HB⟩ := hrel
    cases gk with
    | zero => exact absurd HA.out (by simp [spec_TightSets.l0])
    | succ k1 =>
     have H := HA.out
     clear HA
     simp only [spec_TightSets.l0] at H
     by_cases c13 : x8_1 < (t386.length : Int)
     · rw [if_pos c13] at H
       have c13b0 := decide_eq_true c13
       clear c13
       by_cases c14 : 0 ≤ x8_1
       · rw [if_pos c14] at H
         have c14b0 := decide_eq_true c14
         clear c14
         replace H := Option.bind_eq_some_iff.mp H
         obtain ⟨t390, A150, H⟩ := H
         replace H : (if t390 = true then (if x6_1.length < 5864062014805 then (spec_TightSets.l0 k1 a1 (x6_1 ++ [rd_L2 t386 x8_1]) t386 (wrap64 (x8_1 + 1)) a0_0 l0_1) else (none)) else (spec_TightSets.l0 k1 a1 x6_1 t386 (wrap64 (x8_1 + 1)) a0_0 l0_1)) = some (r1, r2) := H
         have A15 := Aside0.mk A150
         clear A150
         by_cases c16 : t390 = true
         · subst c16
           have H1 : (if x6_1.length < 5864062014805 then (spec_TightSets.l0 k1 a1 (x6_1 ++ [rd_L2 t386 x8_1]) t386 (wrap64 (x8_1 + 1)) a0_0 l0_1) else (none)) = some (r1, r2) := by rw [if_pos rfl] at H; exact H
           clear H
           have H := H1
           clear H1
           by_cases c17 : x6_1.length < 5864062014805
           · rw [if_pos c17] at H
             have LMc17 := Aside0.mk c17
             clear c17
             obtain ⟨y392, hy392⟩ : ∃ y_ : List (List Int), y_ = (x6_1 ++ [rd_L2 t386 x8_1]) := ⟨_, rfl⟩
             replace H : (spec_TightSets.l0 k1 a1 y392 t386 (wrap64 (x8_1 + 1)) a0_0 l0_1) = some (r1, r2) := by first | (rw [hy392]; with_reducible exact H) | (have H2_ := (Option.bind_some _ _).symm.trans H; rw [hy392]; with_reducible exact H2_) | (have H2_ := (Option.bind_some _ _).symm.trans H; with_reducible exact H2_) | with_reducible exact H | (rw [hy392]; exact H) | exact H
             have Ny392 := Aside0.mk hy392
             clear hy392
             have H' := Aside0.mk H
             clear H
             obtain ⟨Ao18, co18, eo18⟩ := Kd.N_slice HO_7.out
             subst eo18
             try go_wp2
             replace HO_6 := zM (Kd.N_drew HO_6.out)
             replace HO_7 := zM (Kd.N_drew HO_7.out)
             replace BK381 := zM (blk_drew BK381.out)
             replace HB := zM (below_drew1 HB.out)
             have p389 : 0 ≤ (x8_1 : Int) := of_decide_eq_true zA
             have q389 : x8_1 < (t386.length : Int) := of_decide_eq_true zA
             obtain ⟨ad389, A389_0, c389_0, e389, hx389_0, hl389_0, hi389_0⟩ := at_L2 (Kd.N_reads' HO_7.out).2.2 x8_1 p389 q389
             cases e389
             obtain ⟨ce389, hce389, hMe389, hcc389⟩ := Kd.N_get HO_7.out [] x8_1 p389 (by first | exact q389 | exact of_decide_eq_true zA | (have e_ := (Kd.N_reads' HO_7.out).1; omega))
             obtain ⟨ua389_0, uc389_0, rfl, ul389_0, ge389_0⟩ := Kd.FK_slice_open hMe389
             have hv389_0 := hcc389 0 _ rfl
             rw [Nat.add_zero, show ((Kd.slice 3 (Kd.int .i64))).sz = 1 from rfl, Nat.mul_one] at hv389_0
             replace hv389_0 := Option.some.inj (hv389_0.symm.trans hx389_0)
             injection hv389_0 with hva_ hvn_ hvc_
             rw [hva_] at ge389_0
             rw [hvc_] at ul389_0
             have HL389_0 := zM (show Kd.V (Kd.int .i64) 3 _ w.heap.size _ _ (rd_L2 t386 x8_1) from Kd.V_mk ul389_0 ge389_0)
             clear hva_ hvn_ hvc_ ge389_0 ul389_0
             clear hcc389 hce389
             have HR389_0 := Aside0.mk hi389_0
             have HC389_0 := Aside0.mk hl389_0
             clear hi389_0 hl389_0
             replace p389 := eq_true p389
             replace q389 := eq_true q389
             refine zs (n := 7) (fun w' => w'.cell? ⟨gb381, 0, none⟩ = some (.int .i64 a0_0) ∧ w'.cell? ⟨gb381, 1, none⟩ = some (.slice A0_1 l0_1.length c0_1) ∧ w'.cell? (ad389.add (x8_1).toNat) = some (.slice A389_0 (rd_L2 t386 x8_1).length c389_0)) ⟨(blk_cell BK381.out 0).trans rfl, (blk_cell BK381.out 1).trans rfl, hx389_0⟩ (fun hHeld => ?_)
             generalize wr.drew = w19 at HO_6 HO_7 BK381 HB HL389_0 HR389_0 hx389_0 hHeld ⊢
             refine zq 1 25 ?_
             refine zq 2 26 ?_
             refine zq 3 27 ?_
             refine zq 4 28 ?_
             refine zl 0 24 hHeld ?_ (hy := by rintro w' ⟨s0, s1, s2⟩; go_simp; with_reducible rfl)
             refine zl 5 29 hHeld ?_ (hy := by rintro w' ⟨s0, s1, s2⟩; go_simp; with_reducible rfl)
             refine zh 6 30 Try.func24 #[.agg #[.int .i64 a0_0, .slice A0_1 l0_1.length c0_1], .int .i64 a1, .slice A389_0 (rd_L2 t386 x8_1).length c389_0] (fun K hK => ?_)
             with_reducible refine (spec_l4Tight.calls k1 a0_0 _ _ l0_1 a1 _ _ (rd_L2 t386 x8_1) true _ ?side1 ?side2 ?side3 ?side4 A15.out).mono ?_
             (case side1 => exact zC (Kd.C_below HR0_1.out HB.out))
             (case side2 => exact HC0_1.out)
             (case side3 => repeat (first | exact (by repeat (first | (with_reducible exact HR389_0.out) | (with_reducible refine Kd.C_alloc ?_ _) | (with_reducible refine Kd.C_drewN ?_ _) | (with_reducible refine Kd.C_drew ?_) | exact HR389_0.out)) | (with_reducible refine Kd.C_alloc ?_ _) | (with_reducible refine Kd.C_drewN ?_ _) | (with_reducible refine Kd.C_drew ?_)))
             (case side4 => exact HC389_0.out)
             rintro e w20 ⟨rfl, hb⟩
             have HS2_ := (hb.cell (World.block_lt_of_cell? _ _ (hHeld.2.2))).trans (hHeld.2.2)
             refine ⟨_, rfl, ?_⟩
             replace HO_6 := zM (Kd.N_below (by (with_reducible repeat (first | apply Kd.N_alloc | apply Kd.N_drewN | apply Kd.N_drew)); exact HO_6.out) hb)
             replace HO_7 := zM (Kd.N_below (by (with_reducible repeat (first | apply Kd.N_alloc | apply Kd.N_drewN | apply Kd.N_drew)); exact HO_7.out) hb)
             replace HL389_0 := zM (Kd.V_below (by (with_reducible repeat (first | apply Kd.V_alloc | apply Kd.V_drewN | apply Kd.V_drew)); exact HL389_0.out) hb)
             replace BK381 := zM (blk_below (g := gb381) (o := .cells #[.int .i64 a0_0, .slice A0_1 l0_1.length c0_1] 28 (0, 0)) (zK BK381.out) hb)
             replace HR389_0 := zM (Kd.C_below (by repeat (first | (with_reducible exact HR389_0.out) | (with_reducible refine Kd.C_alloc ?_ _) | (with_reducible refine Kd.C_drewN ?_ _) | (with_reducible refine Kd.C_drew ?_) | exact HR389_0.out)) hb)
             replace HB := zM (below_step zB hb)
             (try clear hb)
             (try clear hb2)
             (try clear hk)
             (try clear hi)
             refine hK.out _ _ ⟨(blk_cell BK381.out 0).trans rfl, (blk_cell BK381.out 1).trans rfl, HS2_⟩ (fun hHeld => ?_)
             clear hK K
             refine zn 30 ?_
             refine zx ?_
             have p391 : 0 ≤ (x8_1 : Int) := of_decide_eq_true zA
             have q391 : x8_1 < (t386.length : Int) := of_decide_eq_true zA
             obtain ⟨ad391, A391_0, c391_0, e391, hx391_0, hl391_0, hi391_0⟩ := at_L2 (Kd.N_reads' HO_7.out).2.2 x8_1 p391 q391
             obtain rfl : ad389 = ad391 := (by injection e391)
             obtain ⟨ce391, hce391, hMe391, hcc391⟩ := Kd.N_get HO_7.out [] x8_1 p391 (by first | exact q391 | exact of_decide_eq_true zA | (have e_ := (Kd.N_reads' HO_7.out).1; omega))
             obtain ⟨ua391_0, uc391_0, rfl, ul391_0, ge391_0⟩ := Kd.FK_slice_open hMe391
             have hv391_0 := hcc391 0 _ rfl
             rw [Nat.add_zero, show ((Kd.slice 3 (Kd.int .i64))).sz = 1 from rfl, Nat.mul_one] at hv391_0
             replace hv391_0 := Option.some.inj (hv391_0.symm.trans hx391_0)
             injection hv391_0 with hva_ hvn_ hvc_
             rw [hva_] at ge391_0
             rw [hvc_] at ul391_0
             have HL391_0 := zM (show Kd.V (Kd.int .i64) 3 _ w.heap.size _ _ (rd_L2 t386 x8_1) from Kd.V_mk ul391_0 ge391_0)
             clear hva_ hvn_ hvc_ ge391_0 ul391_0
             clear hcc391 hce391
             have HR391_0 := Aside0.mk hi391_0
             have HC391_0 := Aside0.mk hl391_0
             clear hi391_0 hl391_0
             replace p391 := eq_true p391
             replace q391 := eq_true q391
             try go_wp2_with (first | ((with_reducible refine gate_builtin (b := .append) (xs := #[.tmp 31, .tmp 36]) rfl ?_); at_builtin; refine Kd.N_append (Kd.slice 3 (Kd.int .i64)) (w0 := w) w.heap.size rfl (.tmp 31) (.tmp 36) 34 37 (.slice none 0 0) 24 rfl Try.underlying34 info37 rfl (by decide) (by omega) u6 x6_1 (rd_L2 t386 x8_1) [.slice A389_0 (rd_L2 t386 x8_1).length c389_0] (fun k_ => (w.heap.size ≤ k_) ∧ some k_ ≠ (.slice (some ad389) t386.length co18 : Value).ownBlock ∧ k_ ≠ gb381) (fun k_ => ((fun k_ => (w.heap.size ≤ k_) ∧ some k_ ≠ (.slice (some ad389) t386.length co18 : Value).ownBlock ∧ k_ ≠ gb381)) k_ ∧ some k_ ≠ (u6 : Value).ownBlock) rfl rfl ?aP (fun _ hk => hk) ?aF ?aO ?aB ?aS ?aL ?_; (case aP => exact (Kd.FK_slice_mk (Kd.V_reads' (Kd.V_mono (ok' := (fun k_ => ((fun k_ => (w.heap.size ≤ k_) ∧ some k_ ≠ (.slice (some ad389) t386.length co18 : Value).ownBlock ∧ k_ ≠ gb381)) k_ ∧ some k_ ≠ (u6 : Value).ownBlock)) (HL389_0.out) (fun k_ hk => ⟨⟨hk.1.1, ⟨hk.2, hk.1.2.2⟩⟩, hk.1.2.1⟩))).2.1 (Kd.V_F (Kd.V_mono (ok' := (fun k_ => ((fun k_ => (w.heap.size ≤ k_) ∧ some k_ ≠ (.slice (some ad389) t386.length co18 : Value).ownBlock ∧ k_ ≠ gb381)) k_ ∧ some k_ ≠ (u6 : Value).ownBlock)) (HL389_0.out) (fun k_ hk => ⟨⟨hk.1.1, ⟨hk.2, hk.1.2.2⟩⟩, hk.1.2.1⟩))))); (case aB => exact zB); (case aF => exact (fun k_ hk => ⟨(Nat.le_trans (below_size zB) hk), Kd.fresh' (Kd.N_lt (by (with_reducible repeat (first | apply Kd.N_alloc | apply Kd.N_drewN | apply Kd.N_drew)); exact HO_7.out)) k_ hk, Kd.freshB (g := gb381) (o := .cells #[.int .i64 a0_0, .slice A0_1 l0_1.length c0_1] 28 (0, 0)) (zK BK381.out) k_ hk⟩)); (case aO => exact (by (with_reducible repeat (first | apply Kd.N_alloc | apply Kd.N_drewN | apply Kd.N_drew)); exact HO_6.out)); (case aS => exact (below_size zB)); (case aL => have := LMc17.out; omega); intro v393 w21 ho hb hg hat; rw [← Ny392.out] at ho; replace HO_7 := zM (Kd.N_afterv (ok := (fun k_ => (w.heap.size ≤ k_) ∧ k_ ≠ gb381)) (by (with_reducible repeat (first | apply Kd.N_alloc | apply Kd.N_drewN | apply Kd.N_drew)); exact Kd.N_mono HO_7.out (fun _ hk => ⟨⟨hk.1, hk.2.2⟩, hk.2.1⟩)) hg hat); replace BK381 := zM (blk_grown (g := gb381) (o := .cells #[.int .i64 a0_0, .slice A0_1 l0_1.length c0_1] 28 (0, 0)) (zK BK381.out) hg (Kd.N_ne HO_6.out BK381.out (by decide))); replace HL389_0 := zM (Kd.V_afterv (ok := (fun k_ => (w.heap.size ≤ k_) ∧ some k_ ≠ (.slice (some ad389) t386.length co18 : Value).ownBlock ∧ k_ ≠ gb381)) (by (with_reducible repeat (first | apply Kd.V_alloc | apply Kd.V_drewN | apply Kd.V_drew)); exact Kd.V_mono HL389_0.out (fun _ hk => ⟨⟨hk.1.1, ⟨hk.2, hk.1.2.2⟩⟩, hk.1.2.1⟩)) hg hat); replace HL391_0 := zM (Kd.V_afterv (ok := (fun k_ => (w.heap.size ≤ k_) ∧ some k_ ≠ (.slice (some ad389) t386.length co18 : Value).ownBlock ∧ k_ ≠ gb381)) (by (with_reducible repeat (first | apply Kd.V_alloc | apply Kd.V_drewN | apply Kd.V_drew)); exact Kd.V_mono HL391_0.out (fun _ hk => ⟨⟨hk.1.1, ⟨hk.2, hk.1.2.2⟩⟩, hk.1.2.1⟩)) hg hat); replace HB := zM (hb); have HO394 := zM (ho); clear HO_6; clear ho hb hg hat))
             go_roundg k1
             case measure => have := HK1.out; omega
             case rel => exact ⟨(y392), (wrap64 (x8_1 + 1)), (by first | rfl | (simp; done) | (simp [*]; done)), H', ⟨by have := HK1.out; omega⟩, ⟨by (with_reducible repeat (first | apply Kd.N_alloc | apply Kd.N_drewN | apply Kd.N_drew)); exact HO394.out⟩, ⟨by (with_reducible repeat (first | apply Kd.N_alloc | apply Kd.N_drewN | apply Kd.N_drew)); exact Kd.N_mono HO_7.out (fun _ hk => ⟨hk.1.1, ⟨hk.2, hk.1.2⟩⟩)⟩, ⟨zK BK381.out⟩, ⟨zB⟩⟩
           · rw [if_neg c17] at H
             exact absurd H (by simp)
         · replace c16 := Bool.eq_false_iff.mpr c16
           subst c16
           have H1 : (spec_TightSets.l0 k1 a1 x6_1 t386 (wrap64 (x8_1 + 1)) a0_0 l0_1) = some (r1, r2) := by rw [if_neg (show ¬ (false = true) by decide)] at H; exact H
           clear H
           have H := H1
           clear H1
           have H' := Aside0.mk H
           clear H
           obtain ⟨Ao22, co22, eo22⟩ := Kd.N_slice HO_7.out
           subst eo22
           try go_wp2
           replace HO_6 := zM (Kd.N_drew HO_6.out)
           replace HO_7 := zM (Kd.N_drew HO_7.out)
           replace BK381 := zM (blk_drew BK381.out)
           replace HB := zM (below_drew1 HB.out)
           have p389 : 0 ≤ (x8_1 : Int) := of_decide_eq_true zA
           have q389 : x8_1 < (t386.length : Int) := of_decide_eq_true zA
           obtain ⟨ad389, A389_0, c389_0, e389, hx389_0, hl389_0, hi389_0⟩ := at_L2 (Kd.N_reads' HO_7.out).2.2 x8_1 p389 q389
           cases e389
           obtain ⟨ce389, hce389, hMe389, hcc389⟩ := Kd.N_get HO_7.out [] x8_1 p389 (by first | exact q389 | exact of_decide_eq_true zA | (have e_ := (Kd.N_reads' HO_7.out).1; omega))
           obtain ⟨ua389_0, uc389_0, rfl, ul389_0, ge389_0⟩ := Kd.FK_slice_open hMe389
           have hv389_0 := hcc389 0 _ rfl
           rw [Nat.add_zero, show ((Kd.slice 3 (Kd.int .i64))).sz = 1 from rfl, Nat.mul_one] at hv389_0
           replace hv389_0 := Option.some.inj (hv389_0.symm.trans hx389_0)
           injection hv389_0 with hva_ hvn_ hvc_
           rw [hva_] at ge389_0
           rw [hvc_] at ul389_0
           have HL389_0 := zM (show Kd.V (Kd.int .i64) 3 _ w.heap.size _ _ (rd_L2 t386 x8_1) from Kd.V_mk ul389_0 ge389_0)
           clear hva_ hvn_ hvc_ ge389_0 ul389_0
           clear hcc389 hce389
           have HR389_0 := Aside0.mk hi389_0
           have HC389_0 := Aside0.mk hl389_0
           clear hi389_0 hl389_0
           replace p389 := eq_true p389
           replace q389 := eq_true q389
           refine zs (n := 7) (fun w' => w'.cell? ⟨gb381, 0, none⟩ = some (.int .i64 a0_0) ∧ w'.cell? ⟨gb381, 1, none⟩ = some (.slice A0_1 l0_1.length c0_1) ∧ w'.cell? (ad389.add (x8_1).toNat) = some (.slice A389_0 (rd_L2 t386 x8_1).length c389_0)) ⟨(blk_cell BK381.out 0).trans rfl, (blk_cell BK381.out 1).trans rfl, hx389_0⟩ (fun hHeld => ?_)
           generalize wr.drew = w23 at HO_6 HO_7 BK381 HB HL389_0 HR389_0 hx389_0 hHeld ⊢
           refine zq 1 25 ?_
           refine zq 2 26 ?_
           refine zq 3 27 ?_
           refine zq 4 28 ?_
           refine zl 0 24 hHeld ?_ (hy := by rintro w' ⟨s0, s1, s2⟩; go_simp; with_reducible rfl)
           refine zl 5 29 hHeld ?_ (hy := by rintro w' ⟨s0, s1, s2⟩; go_simp; with_reducible rfl)
           refine zh 6 30 Try.func24 #[.agg #[.int .i64 a0_0, .slice A0_1 l0_1.length c0_1], .int .i64 a1, .slice A389_0 (rd_L2 t386 x8_1).length c389_0] (fun K hK => ?_)
           with_reducible refine (spec_l4Tight.calls k1 a0_0 _ _ l0_1 a1 _ _ (rd_L2 t386 x8_1) false _ ?side1 ?side2 ?side3 ?side4 A15.out).mono ?_
           (case side1 => exact zC (Kd.C_below HR0_1.out HB.out))
           (case side2 => exact HC0_1.out)
           (case side3 => repeat (first | exact (by repeat (first | (with_reducible exact HR389_0.out) | (with_reducible refine Kd.C_alloc ?_ _) | (with_reducible refine Kd.C_drewN ?_ _) | (with_reducible refine Kd.C_drew ?_) | exact HR389_0.out)) | (with_reducible refine Kd.C_alloc ?_ _) | (with_reducible refine Kd.C_drewN ?_ _) | (with_reducible refine Kd.C_drew ?_)))
           (case side4 => exact HC389_0.out)
           rintro e w24 ⟨rfl, hb⟩
           have HS2_ := (hb.cell (World.block_lt_of_cell? _ _ (hHeld.2.2))).trans (hHeld.2.2)
           refine ⟨_, rfl, ?_⟩
           replace HO_6 := zM (Kd.N_below (by (with_reducible repeat (first | apply Kd.N_alloc | apply Kd.N_drewN | apply Kd.N_drew)); exact HO_6.out) hb)
           replace HO_7 := zM (Kd.N_below (by (with_reducible repeat (first | apply Kd.N_alloc | apply Kd.N_drewN | apply Kd.N_drew)); exact HO_7.out) hb)
           replace HL389_0 := zM (Kd.V_below (by (with_reducible repeat (first | apply Kd.V_alloc | apply Kd.V_drewN | apply Kd.V_drew)); exact HL389_0.out) hb)
           replace BK381 := zM (blk_below (g := gb381) (o := .cells #[.int .i64 a0_0, .slice A0_1 l0_1.length c0_1] 28 (0, 0)) (zK BK381.out) hb)
           replace HR389_0 := zM (Kd.C_below (by repeat (first | (with_reducible exact HR389_0.out) | (with_reducible refine Kd.C_alloc ?_ _) | (with_reducible refine Kd.C_drewN ?_ _) | (with_reducible refine Kd.C_drew ?_) | exact HR389_0.out)) hb)
           replace HB := zM (below_step zB hb)
           (try clear hb)
           (try clear hb2)
           (try clear hk)
           (try clear hi)
           refine hK.out _ _ ⟨(blk_cell BK381.out 0).trans rfl, (blk_cell BK381.out 1).trans rfl, HS2_⟩ (fun hHeld => ?_)
           clear hK K
           refine zn 30 ?_
           refine zx ?_
           try go_wp2
           go_roundg k1
           case measure => have := HK1.out; omega
           case rel => exact ⟨(x6_1), (wrap64 (x8_1 + 1)), (by first | rfl | (simp; done) | (simp [*]; done)), H', ⟨by have := HK1.out; omega⟩, ⟨by (with_reducible repeat (first | apply Kd.N_alloc | apply Kd.N_drewN | apply Kd.N_drew)); exact HO_6.out⟩, ⟨by (with_reducible repeat (first | apply Kd.N_alloc | apply Kd.N_drewN | apply Kd.N_drew)); exact HO_7.out⟩, ⟨zK BK381.out⟩, ⟨zB⟩⟩
       · rw [if_neg c14] at H
         exact absurd H (by simp)
     · rw [if_neg c13] at H
       have c13b0 : decide (x8_1 < (t386.length : Int)) = false := decide_eq_false c13
       clear c13
       simp only [Option.some.injEq, Prod.mk.injEq] at H
       obtain ⟨rfl, rfl⟩ := H
       obtain ⟨Ao25, co25, eo25⟩ := Kd.N_slice HO_7.out
       subst eo25
       go_wp2
       go_ret2
       exact ⟨_, by first | rfl | (simp [errW_none, errW_some] <;> rfl) | (simp [*, errW_none, errW_some] <;> rfl), by (with_reducible repeat (first | apply Kd.N_alloc | apply Kd.N_drewN | apply Kd.N_drew)); exact Kd.N_mono HO_6.out (fun _ hk => hk.1), zB⟩
 · replace c4 := Bool.eq_false_iff.mpr c4
   subst c4
   have H1 : (some (y382, false)) = some (r1, r2) := by rw [if_neg (show ¬ (false = true) by decide)] at H; exact H
   clear H
   have H := H1
   clear H1
   simp only [Option.some.injEq, Prod.mk.injEq] at H
   obtain ⟨rfl, rfl⟩ := H
   go_enter Try.func11, Try.ntmps11
   go_wp2_with (first | ((with_reducible refine gate_dst (N := 2) rfl ?_); refine zb (w := w) 2 #[.int .i64 a0_0, .slice A0_1 l0_1.length c0_1] 28 zB ?_; clear HB; intro gb381 w26 HB BK381 GW381; have GE381 := GW381) | ((with_reducible refine gate_dst (N := 9) rfl ?_); refine Kd.N_lit (Kd.slice 3 (Kd.int .i64)) _ 37 ?hg (N' := 9) ?hd (xs := ([] : List (List Int))) (inner := []) (ok := (fun k_ => (w.heap.size ≤ k_) ∧ k_ ≠ gb381)) (okp := (fun k_ => (w.heap.size ≤ k_) ∧ k_ ≠ gb381)) ?hr ?hp (fun _ hk => hk) ((show ∀ k_, w26.heap.size ≤ k_ → (fun k_ => (w.heap.size ≤ k_) ∧ k_ ≠ gb381) k_ from fun k_ hk => ⟨(Nat.le_trans (below_size zB) hk), Kd.freshB (g := gb381) (o := .cells #[.int .i64 a0_0, .slice A0_1 l0_1.length c0_1] 28 (0, 0)) (zK BK381.out) k_ hk⟩) _ (Nat.le_refl _)) (Below.refl _ _) (Nat.le_refl _) (by simp) ?_; (case hd => rfl); (case hg => rfl); (case hr => first | (go_simp; done) | (go_simp; rfl)); (case hp => exact (Reps.none _ _)); intro v383 w27 ho28 hb hg_ hnew_; clear hg_ hnew_; (first | rw [← Ny382.out] at ho28 | (simp only [Int.reduceToNat] at ho28; rw [← Ny382.out] at ho28)); have HO384 := zM (Kd.N_lower ho28 (below_size zB)); replace BK381 := zM (blk_below (g := gb381) (o := .cells #[.int .i64 a0_0, .slice A0_1 l0_1.length c0_1] 28 (0, 0)) (zK BK381.out) hb); replace HB := zM (below_step zB hb); clear hb ho28; have hcz29_0 := zy BK381 0; have hcz29_1 := zy BK381 1; have hfz29_0 := blk_frozen BK381.out 0; have hfz29_1 := blk_frozen BK381.out 1) | ((with_reducible refine gate_callee (f := 10) rfl ?_); refine zc 12 Try.func10 #[.agg #[.int .i64 a0_0, .slice A0_1 l0_1.length c0_1], .int .i64 a1] ?_; (with_reducible refine (spec_l4Good.calls k a0_0 _ _ l0_1 a1 false _ ?side1 ?side2 A3.out).mono ?_); (case side1 => exact zC (Kd.C_below HR0_1.out HB.out)); (case side2 => exact HC0_1.out); rintro e w30 ⟨rfl, hb⟩; refine ⟨_, rfl, ?_⟩; replace HO384 := zM (Kd.N_below (by (with_reducible repeat (first | apply Kd.N_alloc | apply Kd.N_drewN | apply Kd.N_drew)); exact HO384.out) hb); replace BK381 := zM (blk_below (g := gb381) (o := .cells #[.int .i64 a0_0, .slice A0_1 l0_1.length c0_1] 28 (0, 0)) (zK BK381.out) hb); replace HB := zM (below_step zB hb); (try clear hb); (try clear hb2); (try clear hk); (try clear hi)))
   go_ret2
   exact ⟨_, by first | rfl | (simp [errW_none, errW_some] <;> rfl) | (simp [*, errW_none, errW_some] <;> rfl), by (with_reducible repeat (first | apply Kd.N_alloc | apply Kd.N_drewN | apply Kd.N_drew)); exact Kd.N_mono HO384.out (fun _ hk => hk.1), zB⟩

end Go.Proofs.Ytfaeopmofgnbdaa.P

-- turned: TightSets
