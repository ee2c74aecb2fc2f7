-- Written by a program of this session (the kit's print, turned: wip/print/patch.py) out of the translation. Not trusted: Lean checks it.
import Derived.Test.YtpbngmkhpcgpkaaIsWayPx0
import Derived.Test.YtpbngmkhpcgpkaaIsWayPx26
import Derived.Test.YtpbngmkhpcgpkaaIsWayPx30
import Derived.Test.YtpbngmkhpcgpkaaIsWayExtQ
namespace Go.Proofs.Ytpbngmkhpcgpkaa.P
open Go.RowKit Go.Proofs.YtpbngmkhpcgpkaaW.PrintWords Go.Proofs.YtpbngmkhpcgpkaaW.PrintLast Go.Proofs.YtpbngmkhpcgpkaaW.PrintMore
attribute [local go_sem] max2_int min2_int max_two min_two max_three min_three max_four min_four   -- for this text's walks alone
set_option linter.unusedVariables false
set_option linter.unusedSimpArgs false

/-! ### impl_IsWay: function 50 -/
def impl_IsWay.l0 : Nat → List Int → List Int → Int → Int → List (List Int) → List (S68) → Option (Bool × Bool)
 | 0, _, _, _, _, _, _ => none
 | k + 1, x1, x11, x12, x13, x857000, x857001 => if x13 < x12 then (if 0 ≤ x13 then (if x13 < (x11.length : Int) then ((impl_Space_isPlace.f x857000 x857001 (rd x11 x13)).bind fun t859 => (if t859 = true then (if x13 > 0 then (if 0 ≤ (wrap64 (x13 - 1)) then (if (wrap64 (x13 - 1)) < (x1.length : Int) then ((impl_Space_isStep.f x857000 x857001 (rd x1 (wrap64 (x13 - 1))) (rd x11 x13)).bind fun t861 => (if t861 = true then (impl_IsWay.l0 k x1 x11 x12 (wrap64 (x13 + 1)) x857000 x857001) else (some (false, true)))) else (none)) else (none)) else (impl_IsWay.l0 k x1 x11 x12 (wrap64 (x13 + 1)) x857000 x857001)) else (some (false, true)))) else (none)) else (none)) else (some (decide ((x1.length : Int) > 0), true))
def impl_IsWay.f (k : Nat) (l0_0 : List (List Int)) (l0_1 : List (S68)) (l1 : List Int) : Option (Bool × Bool) := (impl_IsSpace.f k l0_0 l0_1).bind fun t857 => (if t857 = true then (impl_IsWay.l0 k l1 l1 (l1.length : Int) 0 l0_0 l0_1) else (some (false, false)))
def impl_IsWay.T6 : Bool × List (List Nat × List Nat) := (true, [([], []), ([], []), ([0, 1], [0, 1]), ([2], [2]), ([3, 2], [3]), ([4], [4]), ([5, 4], [4, 5]), ([6, 4, 4], [4, 6]), ([7], [7]), ([7], [7]), ([7], [7]), ([10, 7], [7, 10]), ([9, 11, 7], [7, 9, 11]), ([12, 7], [7, 12]), ([7], [7]), ([8, 13, 14, 7, 7], [7, 8, 13, 14]), ([15, 7], [7, 15]), ([7, 16, 4], [4, 7, 16]), ([4, 17], [4, 17])])
def impl_IsWay.B6 : List Nat := [0, 0, 3, 7, 15, 31, 63, 127, 255, 255, 255, 1279, 3839, 7935, 255, 32767, 65535, 131071, 262143]
theorem impl_IsWay.tab6 : rtab .any (opsOf Try.f50 6) = impl_IsWay.T6 := by kernel_rfl
theorem impl_IsWay.bits6 : waitsOk impl_IsWay.T6.2 impl_IsWay.B6 = true := by kernel_rfl
set_option maxHeartbeats 8000000 in
set_option maxRecDepth 100000 in
theorem impl_IsWay.calls (k : Nat) (A0_0 : Option Addr) (c0_0 : Nat) (l0_0 : List (List Int)) (A0_1 : Option Addr) (c0_1 : Nat) (l0_1 : List (S68)) (A1 : Option Addr) (c1 : Nat) (l1 : List Int) (r1 : Bool) (r2 : Bool) (w : World) (hr0_0 : Kd.C (Kd.slice 3 (Kd.int .i64)) w A0_0 l0_0.length l0_0) (hc0_0 : l0_0.length ≤ c0_0) (hr0_1 : Kd.C k68 w A0_1 l0_1.length l0_1) (hc0_1 : l0_1.length ≤ c0_1) (hr1 : Kd.C (Kd.int .i64) w A1 l1.length l1) (hc1 : l1.length ≤ c1) (h : impl_IsWay.f k l0_0 l0_1 l1 = some (r1, r2)) :
 Calls Try.prog 50 #[.agg #[.slice A0_0 l0_0.length c0_0, .slice A0_1 l0_1.length c0_1], .slice A1 l1.length c1] w fun e w' => e = .returned (.tuple #[.bool r1, .bool r2]) ∧ Below w.heap.size w w' := by
 have hu50 := Try.underlying50
 have HR0_0 := Aside0.mk hr0_0
 have HC0_0 := Aside0.mk hc0_0
 clear hr0_0 hc0_0
 have HR0_1 := Aside0.mk hr0_1
 have HC0_1 := Aside0.mk hc0_1
 clear hr0_1 hc0_1
 have HR1 := Aside0.mk hr1
 have HC1 := Aside0.mk hc1
 clear hr1 hc1
 have HB := zM (Below.refl w.heap.size w)
 have H : ((impl_IsSpace.f k l0_0 l0_1).bind fun t857 => (if t857 = true then (impl_IsWay.l0 k l1 l1 (l1.length : Int) 0 l0_0 l0_1) else (some (false, false)))) = some (r1, r2) := h
 clear h
 replace H := Option.bind_eq_some_iff.mp H
 obtain ⟨t857, A30, H⟩ := H
 replace H : (if t857 = true then (impl_IsWay.l0 k l1 l1 (l1.length : Int) 0 l0_0 l0_1) else (some (false, false))) = some (r1, r2) := H
 have A3 := Aside0.mk A30
 clear A30
 by_cases c4 : t857 = true
 · subst c4
   have H1 : (impl_IsWay.l0 k l1 l1 (l1.length : Int) 0 l0_0 l0_1) = some (r1, r2) := by rw [if_pos rfl] at H; exact H
   clear H
   have H := H1
   clear H1
   have H' := Aside0.mk H
   clear H
   go_enter Try.func50, Try.ntmps50
   go_wp2_with (first | ((with_reducible refine gate_dst (N := 2) rfl ?_); refine zb (w := w) 2 #[.slice A0_0 l0_0.length c0_0, .slice A0_1 l0_1.length c0_1] 50 zB ?_; clear HB; intro gb856 w5 HB BK856 GW856; have GE856 := GW856; have hcz6_0 := zy BK856 0; have hcz6_1 := zy BK856 1; have hfz6_0 := blk_frozen BK856.out 0; have hfz6_1 := blk_frozen BK856.out 1) | ((with_reducible refine gate_callee (f := 37) rfl ?_); refine zc 9 Try.func37 #[.agg #[.slice A0_0 l0_0.length c0_0, .slice A0_1 l0_1.length c0_1]] ?_; (with_reducible refine (impl_IsSpace.calls k _ _ l0_0 _ _ l0_1 true _ ?side1 ?side2 ?side3 ?side4 A3.out).mono ?_); (case side1 => exact zC (Kd.C_below HR0_0.out HB.out)); (case side2 => exact HC0_0.out); (case side3 => exact zC (Kd.C_below HR0_1.out HB.out)); (case side4 => exact HC0_1.out); rintro e w7 ⟨rfl, hb⟩; refine ⟨_, rfl, ?_⟩; replace BK856 := zM (blk_below (g := gb856) (o := .cells #[.slice A0_0 l0_0.length c0_0, .slice A0_1 l0_1.length c0_1] 50 (0, 0)) (zK BK856.out) hb); replace HB := zM (below_step zB hb); (try clear hb); (try clear hb2); (try clear hk); (try clear hi)))
   go_loopg [13] k (fun kq v13 w' => ∃ (x13_1 : Int), v13 = .int .i64 x13_1 ∧ Aside0 (impl_IsWay.l0 kq l1 l1 (l1.length : Int) x13_1 l0_0 l0_1 = some (r1, r2)) ∧ Aside0 (kq ≤ k) ∧ Aside0 (w'.heap[gb856]? = some (.cells #[(.slice A0_0 l0_0.length c0_0), (.slice A0_1 l0_1.length c0_1)] 50 (0, 0))) ∧ Aside0 (Below w.heap.size w w'))
   case atStart => exact ⟨(0), (by first | rfl | (simp; done) | (simp [*]; done)), H', ⟨Nat.le_refl _⟩, ⟨zK BK856.out⟩, ⟨zB⟩⟩
   case round =>
    clear H'
    try clear c1
    try clear p2
    try clear c3
    try clear c4
    try clear c5
    try clear hcz6_0
    try clear hcz6_1
    try clear hfz6_0
    try clear hfz6_1
    obtain ⟨x13_1, rfl, HA, HK1, BK856, HB⟩ := hrel
    cases gk with
    | zero => exact absurd HA.out (by simp [impl_IsWay.l0])
    | succ k1 =>
     have H := HA.out
     clear HA
     simp only [impl_IsWay.l0] at H
     by_cases c8 : x13_1 < (l1.length : Int)
     · rw [if_pos c8] at H
       have c8b0 := decide_eq_true c8
       clear c8
       by_cases c9 : 0 ≤ x13_1
       · rw [if_pos c9] at H
         have c9b0 := decide_eq_true c9
         clear c9
         by_cases c10 : x13_1 < (l1.length : Int)
         · rw [if_pos c10] at H
           have c10b0 := decide_eq_true c10
           clear c10
           replace H := Option.bind_eq_some_iff.mp H
           obtain ⟨t859, A110, H⟩ := H
           replace H : (if t859 = true then (if x13_1 > 0 then (if 0 ≤ (wrap64 (x13_1 - 1)) then (if (wrap64 (x13_1 - 1)) < (l1.length : Int) then ((impl_Space_isStep.f l0_0 l0_1 (rd l1 (wrap64 (x13_1 - 1))) (rd l1 x13_1)).bind fun t861 => (if t861 = true then (impl_IsWay.l0 k1 l1 l1 (l1.length : Int) (wrap64 (x13_1 + 1)) l0_0 l0_1) else (some (false, true)))) else (none)) else (none)) else (impl_IsWay.l0 k1 l1 l1 (l1.length : Int) (wrap64 (x13_1 + 1)) l0_0 l0_1)) else (some (false, true))) = some (r1, r2) := H
           have A11 := Aside0.mk A110
           clear A110
           by_cases c12 : t859 = true
           · subst c12
             have H1 : (if x13_1 > 0 then (if 0 ≤ (wrap64 (x13_1 - 1)) then (if (wrap64 (x13_1 - 1)) < (l1.length : Int) then ((impl_Space_isStep.f l0_0 l0_1 (rd l1 (wrap64 (x13_1 - 1))) (rd l1 x13_1)).bind fun t861 => (if t861 = true then (impl_IsWay.l0 k1 l1 l1 (l1.length : Int) (wrap64 (x13_1 + 1)) l0_0 l0_1) else (some (false, true)))) else (none)) else (none)) else (impl_IsWay.l0 k1 l1 l1 (l1.length : Int) (wrap64 (x13_1 + 1)) l0_0 l0_1)) = some (r1, r2) := by rw [if_pos rfl] at H; exact H
             clear H
             have H := H1
             clear H1
             by_cases c13 : x13_1 > 0
             · rw [if_pos c13] at H
               have c13b0 : decide (0 < x13_1) = true := decide_eq_true c13
               clear c13
               obtain ⟨ji14, hji14⟩ : ∃ j_ : Int, (wrap64 (x13_1 - 1)) = j_ := ⟨_, rfl⟩
               replace H : (if 0 ≤ (ji14) then (if (ji14) < (l1.length : Int) then ((impl_Space_isStep.f l0_0 l0_1 (rd l1 (ji14)) (rd l1 x13_1)).bind fun t861 => (if t861 = true then (impl_IsWay.l0 k1 l1 l1 (l1.length : Int) (wrap64 (x13_1 + 1)) l0_0 l0_1) else (some (false, true)))) else (none)) else (none)) = some (r1, r2) := by first | (rw [hji14] at H; exact H) | (simp only [hji14] at H ⊢; exact H)
               (try rw [hji14] at A11)
               have hji14w : (IntKind.i64.wrap (x13_1 - 1)) = ji14 := (i64_w _).trans hji14
               by_cases c15 : 0 ≤ (ji14)
               · rw [if_pos c15] at H
                 have c15b0 := decide_eq_true c15
                 clear c15
                 by_cases c16 : (ji14) < (l1.length : Int)
                 · rw [if_pos c16] at H
                   have c16b0 := decide_eq_true c16
                   clear c16
                   replace H := Option.bind_eq_some_iff.mp H
                   obtain ⟨t861, A170, H⟩ := H
                   replace H : (if t861 = true then (impl_IsWay.l0 k1 l1 l1 (l1.length : Int) (wrap64 (x13_1 + 1)) l0_0 l0_1) else (some (false, true))) = some (r1, r2) := H
                   have A17 := Aside0.mk A170
                   clear A170
                   by_cases c18 : t861 = true
                   · subst c18
                     have H1 : (impl_IsWay.l0 k1 l1 l1 (l1.length : Int) (wrap64 (x13_1 + 1)) l0_0 l0_1) = some (r1, r2) := by rw [if_pos rfl] at H; exact H
                     clear H
                     have H := H1
                     clear H1
                     have H' := Aside0.mk H
                     clear H
                     have p858 : 0 ≤ (x13_1 : Int) := of_decide_eq_true zA
                     have q858 : x13_1 < (l1.length : Int) := of_decide_eq_true zA
                     obtain ⟨ad858, e858, hx858_0⟩ := Kd.at_int HR1.out x13_1 p858 q858
                     cases e858
                     (try replace hx858_0 := (HB.out.cell (World.block_lt_of_cell? w _ hx858_0)).trans hx858_0)
                     replace p858 := eq_true p858
                     replace q858 := eq_true q858
                     try go_wp2
                     replace BK856 := zM (blk_drew BK856.out)
                     replace HB := zM (below_drew1 HB.out)
                     have p860 : 0 ≤ ((ji14) : Int) := of_decide_eq_true zA
                     have q860 : (ji14) < (l1.length : Int) := of_decide_eq_true zA
                     obtain ⟨ad860, e860, hx860_0⟩ := Kd.at_int HR1.out (ji14) p860 q860
                     have hw860_0 := hx860_0
                     obtain rfl : ad858 = ad860 := (by injection e860)
                     (try replace hx860_0 := (HB.out.cell (World.block_lt_of_cell? w _ hx860_0)).trans hx860_0)
                     replace p860 := eq_true p860
                     replace q860 := eq_true q860
                     refine zs (n := 19) (fun w' => w'.cell? ⟨gb856, 0, none⟩ = some (.slice A0_0 l0_0.length c0_0) ∧ w'.cell? ⟨gb856, 1, none⟩ = some (.slice A0_1 l0_1.length c0_1) ∧ w'.cell? (ad858.add ((ji14)).toNat) = some (.int .i64 (rd l1 (ji14)))) ⟨(blk_cell BK856.out 0).trans rfl, (blk_cell BK856.out 1).trans rfl, ((HB.out.cell (World.block_lt_of_cell? w _ hw860_0)).trans hw860_0)⟩ (fun hHeld => ?_); refine with_tabW impl_IsWay.tab6 impl_IsWay.bits6 (fun HT_ HW_ => ?_)
                     generalize wr.drew = w19 at BK856 HB hx860_0 hHeld ⊢
                     refine zp HT_ 1 19 ?_
                     refine zt HT_ HW_ 0 18 hHeld ?_ (hy := by rintro w' ⟨s0, s1, s2⟩; go_simp; with_reducible rfl)
                     refine zg HT_ 2 20 Try.func84 #[.agg #[.slice A0_0 l0_0.length c0_0, .slice A0_1 l0_1.length c0_1], .int .i64 (rd l1 x13_1)] (fun K hK => ?_)
                     with_reducible refine (impl_Space_isPlace.calls _ _ l0_0 _ _ l0_1 (rd l1 x13_1) true _ ?side1 ?side2 ?side3 ?side4 A11.out).mono ?_
                     (case side1 => exact zC (Kd.C_below HR0_0.out HB.out))
                     (case side2 => exact HC0_0.out)
                     (case side3 => exact zC (Kd.C_below HR0_1.out HB.out))
                     (case side4 => exact HC0_1.out)
                     rintro e w20 ⟨rfl, hb⟩
                     refine ⟨_, rfl, ?_⟩
                     replace BK856 := zM (blk_below (g := gb856) (o := .cells #[.slice A0_0 l0_0.length c0_0, .slice A0_1 l0_1.length c0_1] 50 (0, 0)) (zK BK856.out) hb)
                     replace HB := zM (below_step zB hb)
                     (try clear hb)
                     (try clear hb2)
                     (try clear hk)
                     (try clear hi)
                     refine hK.out _ _ ⟨(blk_cell BK856.out 0).trans rfl, (blk_cell BK856.out 1).trans rfl, ((HB.out.cell (World.block_lt_of_cell? w _ hw860_0)).trans hw860_0)⟩ (fun hHeld => ?_)
                     clear hK K
                     refine zn 20 ?_
                     refine zp HT_ 3 21 ?_
                     refine zp HT_ 4 22 ?_
                     refine zp HT_ 5 23 ?_
                     refine zp HT_ 6 24 ?_
                     refine zp HT_ 7 25 ?_
                     refine zp HT_ 9 27 ?_
                     refine zp HT_ 10 28 ?_
                     refine zp HT_ 11 29 ?_
                     refine zp HT_ 12 30 ?_
                     refine zp HT_ 14 32 ?_
                     refine zt HT_ HW_ 8 26 hHeld ?_ (hy := by rintro w' ⟨s0, s1, s2⟩; go_simp; with_reducible rfl)
                     refine zt HT_ HW_ 13 31 hHeld ?_ (hy := by rintro w' ⟨s0, s1, s2⟩; go_simp; with_reducible rfl)
                     refine one_ (i := 15) (N := some 33) #[true, true, true, true, true, true, true, true, true, true, true, true, true, true, true, true, false, false, false] rfl rfl (one_of HT_.out (by kernel_rfl)) (by decide) (fun K hK => ?_)
                     refine goes_ Try.func93 (by kernel_rfl) rfl #[.agg #[.slice A0_0 l0_0.length c0_0, .slice A0_1 l0_1.length c0_1], .int .i64 (rd l1 (ji14)), .int .i64 (rd l1 x13_1)] (by rfl) rfl rfl (by (try simp only [List.map_toArray, List.map_cons, List.map_nil]); first | done | (simp only [hji14]; rfl) | rfl | (simp only [List.length_drop, List.length_take]; rfl)) ?_
                     with_reducible refine (impl_Space_isStep.calls _ _ l0_0 _ _ l0_1 (rd l1 (ji14)) (rd l1 x13_1) true _ ?side1 ?side2 ?side3 ?side4 A17.out).mono ?_
                     (case side1 => exact zC (Kd.C_below HR0_0.out HB.out))
                     (case side2 => exact HC0_0.out)
                     (case side3 => exact zC (Kd.C_below HR0_1.out HB.out))
                     (case side4 => exact HC0_1.out)
                     rintro e w21 ⟨rfl, hb⟩
                     refine ⟨_, rfl, ?_⟩
                     replace BK856 := zM (blk_below (g := gb856) (o := .cells #[.slice A0_0 l0_0.length c0_0, .slice A0_1 l0_1.length c0_1] 50 (0, 0)) (zK BK856.out) hb)
                     replace HB := zM (below_step zB hb)
                     (try clear hb)
                     (try clear hb2)
                     (try clear hk)
                     (try clear hi)
                     refine hK.out _ _ ⟨(blk_cell BK856.out 0).trans rfl, (blk_cell BK856.out 1).trans rfl, ((HB.out.cell (World.block_lt_of_cell? w _ hw860_0)).trans hw860_0)⟩ (fun hHeld => ?_)
                     clear hK K
                     refine zn 33 ?_
                     refine zp HT_ 16 34 ?_
                     refine zp HT_ 17 35 ?_
                     refine zp HT_ 18 36 ?_
                     refine zo HT_ ?_
                     try go_wp2
                     go_roundg k1
                     case measure => have := HK1.out; omega
                     case rel => exact ⟨(wrap64 (x13_1 + 1)), (by first | rfl | (simp; done) | (simp [*]; done)), H', ⟨by have := HK1.out; omega⟩, ⟨zK BK856.out⟩, ⟨zB⟩⟩
                   · replace c18 := Bool.eq_false_iff.mpr c18
                     subst c18
                     have H1 : (some (false, true)) = some (r1, r2) := by rw [if_neg (show ¬ (false = true) by decide)] at H; exact H
                     clear H
                     have H := H1
                     clear H1
                     simp only [Option.some.injEq, Prod.mk.injEq] at H
                     obtain ⟨rfl, rfl⟩ := H
                     have p858 : 0 ≤ (x13_1 : Int) := of_decide_eq_true zA
                     have q858 : x13_1 < (l1.length : Int) := of_decide_eq_true zA
                     obtain ⟨ad858, e858, hx858_0⟩ := Kd.at_int HR1.out x13_1 p858 q858
                     cases e858
                     (try replace hx858_0 := (HB.out.cell (World.block_lt_of_cell? w _ hx858_0)).trans hx858_0)
                     replace p858 := eq_true p858
                     replace q858 := eq_true q858
                     try go_wp2
                     replace BK856 := zM (blk_drew BK856.out)
                     replace HB := zM (below_drew1 HB.out)
                     have p860 : 0 ≤ ((ji14) : Int) := of_decide_eq_true zA
                     have q860 : (ji14) < (l1.length : Int) := of_decide_eq_true zA
                     obtain ⟨ad860, e860, hx860_0⟩ := Kd.at_int HR1.out (ji14) p860 q860
                     have hw860_0 := hx860_0
                     obtain rfl : ad858 = ad860 := (by injection e860)
                     (try replace hx860_0 := (HB.out.cell (World.block_lt_of_cell? w _ hx860_0)).trans hx860_0)
                     replace p860 := eq_true p860
                     replace q860 := eq_true q860
                     refine zs (n := 19) (fun w' => w'.cell? ⟨gb856, 0, none⟩ = some (.slice A0_0 l0_0.length c0_0) ∧ w'.cell? ⟨gb856, 1, none⟩ = some (.slice A0_1 l0_1.length c0_1) ∧ w'.cell? (ad858.add ((ji14)).toNat) = some (.int .i64 (rd l1 (ji14)))) ⟨(blk_cell BK856.out 0).trans rfl, (blk_cell BK856.out 1).trans rfl, ((HB.out.cell (World.block_lt_of_cell? w _ hw860_0)).trans hw860_0)⟩ (fun hHeld => ?_); refine with_tabW impl_IsWay.tab6 impl_IsWay.bits6 (fun HT_ HW_ => ?_)
                     generalize wr.drew = w22 at BK856 HB hx860_0 hHeld ⊢
                     refine zp HT_ 1 19 ?_
                     refine zt HT_ HW_ 0 18 hHeld ?_ (hy := by rintro w' ⟨s0, s1, s2⟩; go_simp; with_reducible rfl)
                     refine zg HT_ 2 20 Try.func84 #[.agg #[.slice A0_0 l0_0.length c0_0, .slice A0_1 l0_1.length c0_1], .int .i64 (rd l1 x13_1)] (fun K hK => ?_)
                     with_reducible refine (impl_Space_isPlace.calls _ _ l0_0 _ _ l0_1 (rd l1 x13_1) true _ ?side1 ?side2 ?side3 ?side4 A11.out).mono ?_
                     (case side1 => exact zC (Kd.C_below HR0_0.out HB.out))
                     (case side2 => exact HC0_0.out)
                     (case side3 => exact zC (Kd.C_below HR0_1.out HB.out))
                     (case side4 => exact HC0_1.out)
                     rintro e w23 ⟨rfl, hb⟩
                     refine ⟨_, rfl, ?_⟩
                     replace BK856 := zM (blk_below (g := gb856) (o := .cells #[.slice A0_0 l0_0.length c0_0, .slice A0_1 l0_1.length c0_1] 50 (0, 0)) (zK BK856.out) hb)
                     replace HB := zM (below_step zB hb)
                     (try clear hb)
                     (try clear hb2)
                     (try clear hk)
                     (try clear hi)
                     refine hK.out _ _ ⟨(blk_cell BK856.out 0).trans rfl, (blk_cell BK856.out 1).trans rfl, ((HB.out.cell (World.block_lt_of_cell? w _ hw860_0)).trans hw860_0)⟩ (fun hHeld => ?_)
                     clear hK K
                     refine zn 20 ?_
                     refine zp HT_ 3 21 ?_
                     refine zp HT_ 4 22 ?_
                     refine zp HT_ 5 23 ?_
                     refine zp HT_ 6 24 ?_
                     refine zp HT_ 7 25 ?_
                     refine zp HT_ 9 27 ?_
                     refine zp HT_ 10 28 ?_
                     refine zp HT_ 11 29 ?_
                     refine zp HT_ 12 30 ?_
                     refine zp HT_ 14 32 ?_
                     refine zt HT_ HW_ 8 26 hHeld ?_ (hy := by rintro w' ⟨s0, s1, s2⟩; go_simp; with_reducible rfl)
                     refine zt HT_ HW_ 13 31 hHeld ?_ (hy := by rintro w' ⟨s0, s1, s2⟩; go_simp; with_reducible rfl)
                     refine one_ (i := 15) (N := some 33) #[true, true, true, true, true, true, true, true, true, true, true, true, true, true, true, true, false, false, false] rfl rfl (one_of HT_.out (by kernel_rfl)) (by decide) (fun K hK => ?_)
                     refine goes_ Try.func93 (by kernel_rfl) rfl #[.agg #[.slice A0_0 l0_0.length c0_0, .slice A0_1 l0_1.length c0_1], .int .i64 (rd l1 (ji14)), .int .i64 (rd l1 x13_1)] (by rfl) rfl rfl (by (try simp only [List.map_toArray, List.map_cons, List.map_nil]); first | done | (simp only [hji14]; rfl) | rfl | (simp only [List.length_drop, List.length_take]; rfl)) ?_
                     with_reducible refine (impl_Space_isStep.calls _ _ l0_0 _ _ l0_1 (rd l1 (ji14)) (rd l1 x13_1) false _ ?side1 ?side2 ?side3 ?side4 A17.out).mono ?_
                     (case side1 => exact zC (Kd.C_below HR0_0.out HB.out))
                     (case side2 => exact HC0_0.out)
                     (case side3 => exact zC (Kd.C_below HR0_1.out HB.out))
                     (case side4 => exact HC0_1.out)
                     rintro e w24 ⟨rfl, hb⟩
                     refine ⟨_, rfl, ?_⟩
                     replace BK856 := zM (blk_below (g := gb856) (o := .cells #[.slice A0_0 l0_0.length c0_0, .slice A0_1 l0_1.length c0_1] 50 (0, 0)) (zK BK856.out) hb)
                     replace HB := zM (below_step zB hb)
                     (try clear hb)
                     (try clear hb2)
                     (try clear hk)
                     (try clear hi)
                     refine hK.out _ _ ⟨(blk_cell BK856.out 0).trans rfl, (blk_cell BK856.out 1).trans rfl, ((HB.out.cell (World.block_lt_of_cell? w _ hw860_0)).trans hw860_0)⟩ (fun hHeld => ?_)
                     clear hK K
                     refine zn 33 ?_
                     refine zp HT_ 16 34 ?_
                     refine zp HT_ 17 35 ?_
                     refine zp HT_ 18 36 ?_
                     refine zo HT_ ?_
                     try go_wp2
                     go_ret2
                     exact ⟨by first | rfl | (simp [errW_none, errW_some] <;> rfl) | (simp only [← hji14]; first | rfl | (simp [errW_none, errW_some] <;> rfl)) | (simp [*, errW_none, errW_some] <;> rfl), zB⟩
                 · rw [if_neg c16] at H
                   exact absurd H (by simp)
               · rw [if_neg c15] at H
                 exact absurd H (by simp)
             · rw [if_neg c13] at H
               have c13b0 : decide (0 < x13_1) = false := decide_eq_false c13
               clear c13
               have H' := Aside0.mk H
               clear H
               have p858 : 0 ≤ (x13_1 : Int) := of_decide_eq_true zA
               have q858 : x13_1 < (l1.length : Int) := of_decide_eq_true zA
               obtain ⟨ad858, e858, hx858_0⟩ := Kd.at_int HR1.out x13_1 p858 q858
               cases e858
               (try replace hx858_0 := (HB.out.cell (World.block_lt_of_cell? w _ hx858_0)).trans hx858_0)
               replace p858 := eq_true p858
               replace q858 := eq_true q858
               try go_wp2
               replace BK856 := zM (blk_drew BK856.out)
               replace HB := zM (below_drew1 HB.out)
               refine zs (n := 19) (fun w' => w'.cell? ⟨gb856, 0, none⟩ = some (.slice A0_0 l0_0.length c0_0) ∧ w'.cell? ⟨gb856, 1, none⟩ = some (.slice A0_1 l0_1.length c0_1)) ⟨(blk_cell BK856.out 0).trans rfl, (blk_cell BK856.out 1).trans rfl⟩ (fun hHeld => ?_); refine with_tabW impl_IsWay.tab6 impl_IsWay.bits6 (fun HT_ HW_ => ?_)
               generalize wr.drew = w25 at BK856 HB hHeld ⊢
               refine zp HT_ 1 19 ?_
               refine zt HT_ HW_ 0 18 hHeld ?_ (hy := by rintro w' ⟨s0, s1⟩; go_simp; with_reducible rfl)
               refine zg HT_ 2 20 Try.func84 #[.agg #[.slice A0_0 l0_0.length c0_0, .slice A0_1 l0_1.length c0_1], .int .i64 (rd l1 x13_1)] (fun K hK => ?_)
               with_reducible refine (impl_Space_isPlace.calls _ _ l0_0 _ _ l0_1 (rd l1 x13_1) true _ ?side1 ?side2 ?side3 ?side4 A11.out).mono ?_
               (case side1 => exact zC (Kd.C_below HR0_0.out HB.out))
               (case side2 => exact HC0_0.out)
               (case side3 => exact zC (Kd.C_below HR0_1.out HB.out))
               (case side4 => exact HC0_1.out)
               rintro e w26 ⟨rfl, hb⟩
               refine ⟨_, rfl, ?_⟩
               replace BK856 := zM (blk_below (g := gb856) (o := .cells #[.slice A0_0 l0_0.length c0_0, .slice A0_1 l0_1.length c0_1] 50 (0, 0)) (zK BK856.out) hb)
               replace HB := zM (below_step zB hb)
               (try clear hb)
               (try clear hb2)
               (try clear hk)
               (try clear hi)
               refine hK.out _ _ ⟨(blk_cell BK856.out 0).trans rfl, (blk_cell BK856.out 1).trans rfl⟩ (fun hHeld => ?_)
               clear hK K
               refine zn 20 ?_
               refine zp HT_ 3 21 ?_
               refine zp HT_ 4 22 ?_
               refine zp HT_ 5 23 ?_
               refine zp HT_ 6 24 ?_
               refine zp HT_ 7 25 ?_
               refine zu HT_ 8 26 ?_
               refine zu HT_ 9 27 ?_
               refine zu HT_ 10 28 ?_
               refine zu HT_ 11 29 ?_
               refine zu HT_ 12 30 ?_
               refine zu HT_ 13 31 ?_
               refine zu HT_ 14 32 ?_
               refine zu HT_ 15 33 ?_
               refine zu HT_ 16 34 ?_
               refine zp HT_ 17 35 ?_
               refine zp HT_ 18 36 ?_
               refine zo HT_ ?_
               try go_wp2
               go_roundg k1
               case measure => have := HK1.out; omega
               case rel => exact ⟨(wrap64 (x13_1 + 1)), (by first | rfl | (simp; done) | (simp [*]; done)), H', ⟨by have := HK1.out; omega⟩, ⟨zK BK856.out⟩, ⟨zB⟩⟩
           · replace c12 := Bool.eq_false_iff.mpr c12
             subst c12
             have H1 : (some (false, true)) = some (r1, r2) := by rw [if_neg (show ¬ (false = true) by decide)] at H; exact H
             clear H
             have H := H1
             clear H1
             simp only [Option.some.injEq, Prod.mk.injEq] at H
             obtain ⟨rfl, rfl⟩ := H
             have p858 : 0 ≤ (x13_1 : Int) := of_decide_eq_true zA
             have q858 : x13_1 < (l1.length : Int) := of_decide_eq_true zA
             obtain ⟨ad858, e858, hx858_0⟩ := Kd.at_int HR1.out x13_1 p858 q858
             cases e858
             (try replace hx858_0 := (HB.out.cell (World.block_lt_of_cell? w _ hx858_0)).trans hx858_0)
             replace p858 := eq_true p858
             replace q858 := eq_true q858
             try go_wp2
             replace BK856 := zM (blk_drew BK856.out)
             replace HB := zM (below_drew1 HB.out)
             refine zs (n := 19) (fun w' => w'.cell? ⟨gb856, 0, none⟩ = some (.slice A0_0 l0_0.length c0_0) ∧ w'.cell? ⟨gb856, 1, none⟩ = some (.slice A0_1 l0_1.length c0_1)) ⟨(blk_cell BK856.out 0).trans rfl, (blk_cell BK856.out 1).trans rfl⟩ (fun hHeld => ?_); refine with_tabW impl_IsWay.tab6 impl_IsWay.bits6 (fun HT_ HW_ => ?_)
             generalize wr.drew = w27 at BK856 HB hHeld ⊢
             refine zp HT_ 1 19 ?_
             refine zt HT_ HW_ 0 18 hHeld ?_ (hy := by rintro w' ⟨s0, s1⟩; go_simp; with_reducible rfl)
             refine zg HT_ 2 20 Try.func84 #[.agg #[.slice A0_0 l0_0.length c0_0, .slice A0_1 l0_1.length c0_1], .int .i64 (rd l1 x13_1)] (fun K hK => ?_)
             with_reducible refine (impl_Space_isPlace.calls _ _ l0_0 _ _ l0_1 (rd l1 x13_1) false _ ?side1 ?side2 ?side3 ?side4 A11.out).mono ?_
             (case side1 => exact zC (Kd.C_below HR0_0.out HB.out))
             (case side2 => exact HC0_0.out)
             (case side3 => exact zC (Kd.C_below HR0_1.out HB.out))
             (case side4 => exact HC0_1.out)
             rintro e w28 ⟨rfl, hb⟩
             refine ⟨_, rfl, ?_⟩
             replace BK856 := zM (blk_below (g := gb856) (o := .cells #[.slice A0_0 l0_0.length c0_0, .slice A0_1 l0_1.length c0_1] 50 (0, 0)) (zK BK856.out) hb)
             replace HB := zM (below_step zB hb)
             (try clear hb)
             (try clear hb2)
             (try clear hk)
             (try clear hi)
             refine hK.out _ _ ⟨(blk_cell BK856.out 0).trans rfl, (blk_cell BK856.out 1).trans rfl⟩ (fun hHeld => ?_)
             clear hK K
             refine zn 20 ?_
             refine zp HT_ 3 21 ?_
             refine zp HT_ 4 22 ?_
             refine zu HT_ 5 23 ?_
             refine zu HT_ 6 24 ?_
             refine zu HT_ 7 25 ?_
             refine zu HT_ 8 26 ?_
             refine zu HT_ 9 27 ?_
             refine zu HT_ 10 28 ?_
             refine zu HT_ 11 29 ?_
             refine zu HT_ 12 30 ?_
             refine zu HT_ 13 31 ?_
             refine zu HT_ 14 32 ?_
             refine zu HT_ 15 33 ?_
             refine zu HT_ 16 34 ?_
             refine zu HT_ 17 35 ?_
             refine zp HT_ 18 36 ?_
             refine zo HT_ ?_
             try go_wp2
             go_ret2
             exact ⟨by first | rfl | (simp [errW_none, errW_some] <;> rfl) | (simp [*, errW_none, errW_some] <;> rfl), zB⟩
         · rw [if_neg c10] at H
           exact absurd H (by simp)
       · rw [if_neg c9] at H
         exact absurd H (by simp)
     · rw [if_neg c8] at H
       have c8b0 : decide (x13_1 < (l1.length : Int)) = false := decide_eq_false c8
       clear c8
       simp only [Option.some.injEq, Prod.mk.injEq] at H
       obtain ⟨rfl, rfl⟩ := H
       go_wp2
       go_ret2
       exact ⟨by first | rfl | (simp [errW_none, errW_some] <;> rfl) | (simp [*, errW_none, errW_some] <;> rfl), zB⟩
 · replace c4 := Bool.eq_false_iff.mpr c4
   subst c4
   have H1 : (some (false, false)) = some (r1, r2) := by rw [if_neg (show ¬ (false = true) by decide)] at H; exact H
   clear H
   have H := H1
   clear H1
   simp only [Option.some.injEq, Prod.mk.injEq] at H
   obtain ⟨rfl, rfl⟩ := H
   go_enter Try.func50, Try.ntmps50
   go_wp2_with (first | ((with_reducible refine gate_dst (N := 2) rfl ?_); refine zb (w := w) 2 #[.slice A0_0 l0_0.length c0_0, .slice A0_1 l0_1.length c0_1] 50 zB ?_; clear HB; intro gb856 w29 HB BK856 GW856; have GE856 := GW856; have hcz30_0 := zy BK856 0; have hcz30_1 := zy BK856 1; have hfz30_0 := blk_frozen BK856.out 0; have hfz30_1 := blk_frozen BK856.out 1) | ((with_reducible refine gate_callee (f := 37) rfl ?_); refine zc 9 Try.func37 #[.agg #[.slice A0_0 l0_0.length c0_0, .slice A0_1 l0_1.length c0_1]] ?_; (with_reducible refine (impl_IsSpace.calls k _ _ l0_0 _ _ l0_1 false _ ?side1 ?side2 ?side3 ?side4 A3.out).mono ?_); (case side1 => exact zC (Kd.C_below HR0_0.out HB.out)); (case side2 => exact HC0_0.out); (case side3 => exact zC (Kd.C_below HR0_1.out HB.out)); (case side4 => exact HC0_1.out); rintro e w31 ⟨rfl, hb⟩; refine ⟨_, rfl, ?_⟩; replace BK856 := zM (blk_below (g := gb856) (o := .cells #[.slice A0_0 l0_0.length c0_0, .slice A0_1 l0_1.length c0_1] 50 (0, 0)) (zK BK856.out) hb); replace HB := zM (below_step zB hb); (try clear hb); (try clear hb2); (try clear hk); (try clear hi)))
   go_ret2
   exact ⟨by first | rfl | (simp [errW_none, errW_some] <;> rfl) | (simp [*, errW_none, errW_some] <;> rfl), zB⟩

end Go.Proofs.Ytpbngmkhpcgpkaa.P
