-- Written by a program of this session (the kit's print, turned: wip/print/patch.py) out of the translation. Not trusted: Lean checks it.
import Derived.Test.YtpbngmkhpcgpkaaIsWayPx0
import Derived.Test.YtpbngmkhpcgpkaaIsWayPx2
import Derived.Test.YtpbngmkhpcgpkaaIsWayPx24
import Derived.Test.YtpbngmkhpcgpkaaIsWayPx39
namespace Go.Proofs.Ytpbngmkhpcgpkaa.P
open Go.RowKit Go.Proofs.YtpbngmkhpcgpkaaW.PrintWords Go.Proofs.YtpbngmkhpcgpkaaW.PrintLast Go.Proofs.YtpbngmkhpcgpkaaW.PrintMore
attribute [local go_sem] max2_int min2_int max_two min_two max_three min_three max_four min_four   -- for this text's walks alone
set_option linter.unusedVariables false
set_option linter.unusedSimpArgs false

/-! ### spec_IsWay: function 49 -/
def spec_IsWay.l0 : Nat → List Int → Int → List (List Int) → List (S68) → Option (Bool × Bool)
 | 0, _, _, _, _ => none
 | k + 1, x1, x6, x850000, x850001 => if x6 < (x1.length : Int) then (if 0 ≤ x6 then ((spec_l1In.f (rd x1 x6) 0 (wrap64 ((x850000.length : Int) - 1))).bind fun t852 => (if t852 = true then (if x6 > 0 then (if 0 ≤ (wrap64 (x6 - 1)) then (if (wrap64 (x6 - 1)) < (x1.length : Int) then ((spec_l2Step.f k x850000 x850001 (rd x1 (wrap64 (x6 - 1))) (rd x1 x6)).bind fun t855 => (if t855 = true then (spec_IsWay.l0 k x1 (wrap64 (x6 + 1)) x850000 x850001) else (some (false, true)))) else (none)) else (none)) else (spec_IsWay.l0 k x1 (wrap64 (x6 + 1)) x850000 x850001)) else (some (false, true)))) else (none)) else (some (decide ((x1.length : Int) > 0), true))
def spec_IsWay.f (k : Nat) (l0_0 : List (List Int)) (l0_1 : List (S68)) (l1 : List Int) : Option (Bool × Bool) := (spec_l2Space.f k l0_0 l0_1).bind fun t850 => (if t850 = true then (spec_IsWay.l0 k l1 0 l0_0 l0_1) else (some (false, false)))
def spec_IsWay.T6 : Bool × List (List Nat × List Nat) := (true, [([], []), ([], []), ([0, 1], [0, 1]), ([2], [2]), ([], []), ([4], [4]), ([5], [5]), ([6], [6]), ([3, 7], [3, 7]), ([8], [8]), ([9, 8], [9]), ([10], [10]), ([11, 10], [10, 11]), ([12, 10, 10], [10, 12]), ([13], [13]), ([13], [13]), ([13], [13]), ([16, 13], [13, 16]), ([15, 17, 13], [13, 15, 17]), ([18, 13], [13, 18]), ([13], [13]), ([13], [13]), ([20, 21, 13], [13, 20, 21]), ([22, 13], [13, 22]), ([14, 19, 23, 13, 13], [13, 14, 19, 23]), ([24, 13], [13, 24]), ([13, 25, 10], [10, 13, 25]), ([10, 26], [10, 26])])
def spec_IsWay.B6 : List Nat := [0, 0, 3, 7, 0, 16, 48, 112, 255, 511, 1023, 2047, 4095, 8191, 16383, 16383, 16383, 81919, 245759, 507903, 16383, 16383, 3162111, 7356415, 16777215, 33554431, 67108863, 134217727]
theorem spec_IsWay.tab6 : rtab .any (opsOf Try.f49 6) = spec_IsWay.T6 := by kernel_rfl
theorem spec_IsWay.bits6 : waitsOk spec_IsWay.T6.2 spec_IsWay.B6 = true := by kernel_rfl
set_option maxHeartbeats 8000000 in
set_option maxRecDepth 100000 in
theorem spec_IsWay.calls (k : Nat) (A0_0 : Option Addr) (c0_0 : Nat) (l0_0 : List (List Int)) (A0_1 : Option Addr) (c0_1 : Nat) (l0_1 : List (S68)) (A1 : Option Addr) (c1 : Nat) (l1 : List Int) (r1 : Bool) (r2 : Bool) (w : World) (hr0_0 : Kd.C (Kd.slice 3 (Kd.int .i64)) w A0_0 l0_0.length l0_0) (hc0_0 : l0_0.length ≤ c0_0) (hr0_1 : Kd.C k68 w A0_1 l0_1.length l0_1) (hc0_1 : l0_1.length ≤ c0_1) (hr1 : Kd.C (Kd.int .i64) w A1 l1.length l1) (hc1 : l1.length ≤ c1) (h : spec_IsWay.f k l0_0 l0_1 l1 = some (r1, r2)) :
 Calls Try.prog 49 #[.agg #[.slice A0_0 l0_0.length c0_0, .slice A0_1 l0_1.length c0_1], .slice A1 l1.length c1] w fun e w' => e = .returned (.tuple #[.bool r1, .bool r2]) ∧ Below w.heap.size w w' := by
 have hu50 := Try.underlying50
 have HR0_0 := Aside0.mk hr0_0
 have HC0_0 := Aside0.mk hc0_0
 clear hr0_0 hc0_0
 have HR0_1 := Aside0.mk hr0_1
 have HC0_1 := Aside0.mk hc0_1
 clear hr0_1 hc0_1
 have HR1 := Aside0.mk hr1
 have HC1 := Aside0.mk hc1
 clear hr1 hc1
 have HB := zM (Below.refl w.heap.size w)
 have H : ((spec_l2Space.f k l0_0 l0_1).bind fun t850 => (if t850 = true then (spec_IsWay.l0 k l1 0 l0_0 l0_1) else (some (false, false)))) = some (r1, r2) := h
 clear h
 replace H := Option.bind_eq_some_iff.mp H
 obtain ⟨t850, A30, H⟩ := H
 replace H : (if t850 = true then (spec_IsWay.l0 k l1 0 l0_0 l0_1) else (some (false, false))) = some (r1, r2) := H
 have A3 := Aside0.mk A30
 clear A30
 by_cases c4 : t850 = true
 · subst c4
   have H1 : (spec_IsWay.l0 k l1 0 l0_0 l0_1) = some (r1, r2) := by rw [if_pos rfl] at H; exact H
   clear H
   have H := H1
   clear H1
   have H' := Aside0.mk H
   clear H
   go_enter Try.func49, Try.ntmps49
   go_wp2_with (first | ((with_reducible refine gate_dst (N := 2) rfl ?_); refine zb (w := w) 2 #[.slice A0_0 l0_0.length c0_0, .slice A0_1 l0_1.length c0_1] 50 zB ?_; clear HB; intro gb849 w5 HB BK849 GW849; have GE849 := GW849; have hcz6_0 := zy BK849 0; have hcz6_1 := zy BK849 1; have hfz6_0 := blk_frozen BK849.out 0; have hfz6_1 := blk_frozen BK849.out 1) | ((with_reducible refine gate_callee (f := 73) rfl ?_); refine zc 8 Try.func73 #[.agg #[.slice A0_0 l0_0.length c0_0, .slice A0_1 l0_1.length c0_1]] ?_; (with_reducible refine (spec_l2Space.calls k _ _ l0_0 _ _ l0_1 true _ ?side1 ?side2 ?side3 ?side4 A3.out).mono ?_); (case side1 => exact zC (Kd.C_below HR0_0.out HB.out)); (case side2 => exact HC0_0.out); (case side3 => exact zC (Kd.C_below HR0_1.out HB.out)); (case side4 => exact HC0_1.out); rintro e w7 ⟨rfl, hb⟩; refine ⟨_, rfl, ?_⟩; replace BK849 := zM (blk_below (g := gb849) (o := .cells #[.slice A0_0 l0_0.length c0_0, .slice A0_1 l0_1.length c0_1] 50 (0, 0)) (zK BK849.out) hb); replace HB := zM (below_step zB hb); (try clear hb); (try clear hb2); (try clear hk); (try clear hi)))
   go_loopg [6] k (fun kq v6 w' => ∃ (x6_1 : Int), v6 = .int .i64 x6_1 ∧ Aside0 (spec_IsWay.l0 kq l1 x6_1 l0_0 l0_1 = some (r1, r2)) ∧ Aside0 (kq ≤ k) ∧ Aside0 (w'.heap[gb849]? = some (.cells #[(.slice A0_0 l0_0.length c0_0), (.slice A0_1 l0_1.length c0_1)] 50 (0, 0))) ∧ Aside0 (Below w.heap.size w w'))
   case atStart => exact ⟨(0), (by first | rfl | (simp; done) | (simp [*]; done)), H', ⟨Nat.le_refl _⟩, ⟨zK BK849.out⟩, ⟨zB⟩⟩
   case round =>
    clear H'
    try clear c1
    try clear p2
    try clear c4
    try clear c7
    try clear hcz6_0
    try clear hcz6_1
    try clear hfz6_0
    try clear hfz6_1
    obtain ⟨x6_1, rfl, HA, HK1, BK849, HB⟩ := hrel
    cases gk with
    | zero => exact absurd HA.out (by simp [spec_IsWay.l0])
    | succ k1 =>
     have H := HA.out
     clear HA
     simp only [spec_IsWay.l0] at H
     by_cases c8 : x6_1 < (l1.length : Int)
     · rw [if_pos c8] at H
       have c8b0 := decide_eq_true c8
       clear c8
       by_cases c9 : 0 ≤ x6_1
       · rw [if_pos c9] at H
         have c9b0 := decide_eq_true c9
         clear c9
         replace H := Option.bind_eq_some_iff.mp H
         obtain ⟨t852, A100, H⟩ := H
         replace H : (if t852 = true then (if x6_1 > 0 then (if 0 ≤ (wrap64 (x6_1 - 1)) then (if (wrap64 (x6_1 - 1)) < (l1.length : Int) then ((spec_l2Step.f k1 l0_0 l0_1 (rd l1 (wrap64 (x6_1 - 1))) (rd l1 x6_1)).bind fun t855 => (if t855 = true then (spec_IsWay.l0 k1 l1 (wrap64 (x6_1 + 1)) l0_0 l0_1) else (some (false, true)))) else (none)) else (none)) else (spec_IsWay.l0 k1 l1 (wrap64 (x6_1 + 1)) l0_0 l0_1)) else (some (false, true))) = some (r1, r2) := H
         have A10 := Aside0.mk A100
         clear A100
         by_cases c11 : t852 = true
         · subst c11
           have H1 : (if x6_1 > 0 then (if 0 ≤ (wrap64 (x6_1 - 1)) then (if (wrap64 (x6_1 - 1)) < (l1.length : Int) then ((spec_l2Step.f k1 l0_0 l0_1 (rd l1 (wrap64 (x6_1 - 1))) (rd l1 x6_1)).bind fun t855 => (if t855 = true then (spec_IsWay.l0 k1 l1 (wrap64 (x6_1 + 1)) l0_0 l0_1) else (some (false, true)))) else (none)) else (none)) else (spec_IsWay.l0 k1 l1 (wrap64 (x6_1 + 1)) l0_0 l0_1)) = some (r1, r2) := by rw [if_pos rfl] at H; exact H
           clear H
           have H := H1
           clear H1
           by_cases c12 : x6_1 > 0
           · rw [if_pos c12] at H
             have c12b0 : decide (0 < x6_1) = true := decide_eq_true c12
             clear c12
             obtain ⟨ji13, hji13⟩ : ∃ j_ : Int, (wrap64 (x6_1 - 1)) = j_ := ⟨_, rfl⟩
             replace H : (if 0 ≤ (ji13) then (if (ji13) < (l1.length : Int) then ((spec_l2Step.f k1 l0_0 l0_1 (rd l1 (ji13)) (rd l1 x6_1)).bind fun t855 => (if t855 = true then (spec_IsWay.l0 k1 l1 (wrap64 (x6_1 + 1)) l0_0 l0_1) else (some (false, true)))) else (none)) else (none)) = some (r1, r2) := by first | (rw [hji13] at H; exact H) | (simp only [hji13] at H ⊢; exact H)
             (try rw [hji13] at A10)
             have hji13w : (IntKind.i64.wrap (x6_1 - 1)) = ji13 := (i64_w _).trans hji13
             by_cases c14 : 0 ≤ (ji13)
             · rw [if_pos c14] at H
               have c14b0 := decide_eq_true c14
               clear c14
               by_cases c15 : (ji13) < (l1.length : Int)
               · rw [if_pos c15] at H
                 have c15b0 := decide_eq_true c15
                 clear c15
                 replace H := Option.bind_eq_some_iff.mp H
                 obtain ⟨t855, A160, H⟩ := H
                 replace H : (if t855 = true then (spec_IsWay.l0 k1 l1 (wrap64 (x6_1 + 1)) l0_0 l0_1) else (some (false, true))) = some (r1, r2) := H
                 have A16 := Aside0.mk A160
                 clear A160
                 by_cases c17 : t855 = true
                 · subst c17
                   have H1 : (spec_IsWay.l0 k1 l1 (wrap64 (x6_1 + 1)) l0_0 l0_1) = some (r1, r2) := by rw [if_pos rfl] at H; exact H
                   clear H
                   have H := H1
                   clear H1
                   have H' := Aside0.mk H
                   clear H
                   try go_wp2
                   replace BK849 := zM (blk_drew BK849.out)
                   replace HB := zM (below_drew1 HB.out)
                   have p851 : 0 ≤ (x6_1 : Int) := of_decide_eq_true zA
                   have q851 : x6_1 < (l1.length : Int) := of_decide_eq_true zA
                   obtain ⟨ad851, e851, hx851_0⟩ := Kd.at_int HR1.out x6_1 p851 q851
                   have hw851_0 := hx851_0
                   cases e851
                   (try replace hx851_0 := (HB.out.cell (World.block_lt_of_cell? w _ hx851_0)).trans hx851_0)
                   replace p851 := eq_true p851
                   replace q851 := eq_true q851
                   have p853 : 0 ≤ ((ji13) : Int) := of_decide_eq_true zA
                   have q853 : (ji13) < (l1.length : Int) := of_decide_eq_true zA
                   obtain ⟨ad853, e853, hx853_0⟩ := Kd.at_int HR1.out (ji13) p853 q853
                   have hw853_0 := hx853_0
                   obtain rfl : ad851 = ad853 := (by injection e853)
                   (try replace hx853_0 := (HB.out.cell (World.block_lt_of_cell? w _ hx853_0)).trans hx853_0)
                   replace p853 := eq_true p853
                   replace q853 := eq_true q853
                   have p854 : 0 ≤ (x6_1 : Int) := of_decide_eq_true zA
                   have q854 : x6_1 < (l1.length : Int) := of_decide_eq_true zA
                   obtain ⟨ad854, e854, hx854_0⟩ := Kd.at_int HR1.out x6_1 p854 q854
                   have hw854_0 := hx854_0
                   obtain rfl : ad851 = ad854 := (by injection e854)
                   (try replace hx854_0 := (HB.out.cell (World.block_lt_of_cell? w _ hx854_0)).trans hx854_0)
                   replace p854 := eq_true p854
                   replace q854 := eq_true q854
                   refine zs (n := 28) (fun w' => w'.cell? ⟨gb849, 0, none⟩ = some (.slice A0_0 l0_0.length c0_0) ∧ w'.cell? ⟨gb849, 1, none⟩ = some (.slice A0_1 l0_1.length c0_1) ∧ w'.cell? (ad851.add (x6_1).toNat) = some (.int .i64 (rd l1 x6_1)) ∧ w'.cell? (ad851.add ((ji13)).toNat) = some (.int .i64 (rd l1 (ji13))) ∧ w'.cell? (ad851.add (x6_1).toNat) = some (.int .i64 (rd l1 x6_1))) ⟨(blk_cell BK849.out 0).trans rfl, (blk_cell BK849.out 1).trans rfl, ((HB.out.cell (World.block_lt_of_cell? w _ hw851_0)).trans hw851_0), ((HB.out.cell (World.block_lt_of_cell? w _ hw853_0)).trans hw853_0), ((HB.out.cell (World.block_lt_of_cell? w _ hw854_0)).trans hw854_0)⟩ (fun hHeld => ?_); refine with_tabW spec_IsWay.tab6 spec_IsWay.bits6 (fun HT_ HW_ => ?_)
                   generalize wr.drew = w18 at BK849 HB hx851_0 hx853_0 hx854_0 hHeld ⊢
                   refine zp HT_ 0 16 ?_
                   refine zp HT_ 1 17 ?_
                   refine zp HT_ 2 18 ?_
                   refine zp HT_ 4 20 ?_
                   refine zt HT_ HW_ 3 19 hHeld ?_ (hy := by rintro w' ⟨s0, s1, s2, s3, s4⟩; go_simp; with_reducible rfl)
                   refine zt HT_ HW_ 5 21 hHeld ?_ (hy := by rintro w' ⟨s0, s1, s2, s3, s4⟩; go_simp; with_reducible rfl)
                   refine zp HT_ 6 22 ?_
                   refine zp HT_ 7 23 ?_
                   refine zg HT_ 8 24 Try.func63 #[.int .i64 (rd l1 x6_1), .int .i64 0, .int .i64 (wrap64 ((l0_0.length : Int) - 1))] (fun K hK => ?_)
                   with_reducible refine (spec_l1In.calls (rd l1 x6_1) 0 (wrap64 ((l0_0.length : Int) - 1)) true _ A10.out).mono ?_
                   rintro e w' ⟨rfl, ⟨nd, rfl⟩⟩
                   refine ⟨_, rfl, ?_⟩
                   refine hK.out _ _ ⟨(blk_cell BK849.out 0).trans rfl, (blk_cell BK849.out 1).trans rfl, ((HB.out.cell (World.block_lt_of_cell? w _ hw851_0)).trans hw851_0), ((HB.out.cell (World.block_lt_of_cell? w _ hw853_0)).trans hw853_0), ((HB.out.cell (World.block_lt_of_cell? w _ hw854_0)).trans hw854_0)⟩ (fun hHeld => ?_)
                   clear hK K
                   refine zn 24 ?_
                   refine zp HT_ 9 25 ?_
                   refine zp HT_ 10 26 ?_
                   refine zp HT_ 11 27 ?_
                   refine zp HT_ 12 28 ?_
                   refine zp HT_ 13 29 ?_
                   refine zp HT_ 15 31 ?_
                   refine zp HT_ 16 32 ?_
                   refine zp HT_ 17 33 ?_
                   refine zp HT_ 18 34 ?_
                   refine zp HT_ 20 36 ?_
                   refine zp HT_ 21 37 ?_
                   refine zp HT_ 22 38 ?_
                   refine zt HT_ HW_ 14 30 hHeld ?_ (hy := by rintro w' ⟨s0, s1, s2, s3, s4⟩; go_simp; with_reducible rfl)
                   refine zt HT_ HW_ 19 35 hHeld ?_ (hy := by rintro w' ⟨s0, s1, s2, s3, s4⟩; go_simp; with_reducible rfl)
                   refine zt HT_ HW_ 23 39 hHeld ?_ (hy := by rintro w' ⟨s0, s1, s2, s3, s4⟩; go_simp; with_reducible rfl)
                   refine one_ (i := 24) (N := some 40) #[true, true, true, true, true, true, true, true, true, true, true, true, true, true, true, true, true, true, true, true, true, true, true, true, true, false, false, false] rfl rfl (one_of HT_.out (by kernel_rfl)) (by decide) (fun K hK => ?_)
                   refine goes_ Try.func92 (by kernel_rfl) rfl #[.agg #[.slice A0_0 l0_0.length c0_0, .slice A0_1 l0_1.length c0_1], .int .i64 (rd l1 (ji13)), .int .i64 (rd l1 x6_1)] (by rfl) rfl rfl (by (try simp only [List.map_toArray, List.map_cons, List.map_nil]); first | done | (simp only [hji13]; rfl) | rfl | (simp only [List.length_drop, List.length_take]; rfl)) ?_
                   with_reducible refine (spec_l2Step.calls k1 _ _ l0_0 _ _ l0_1 (rd l1 (ji13)) (rd l1 x6_1) true _ ?side1 ?side2 ?side3 ?side4 A16.out).mono ?_
                   (case side1 => exact zC (Kd.C_below HR0_0.out zB))
                   (case side2 => exact HC0_0.out)
                   (case side3 => exact zC (Kd.C_below HR0_1.out zB))
                   (case side4 => exact HC0_1.out)
                   rintro e w19 ⟨rfl, hb⟩
                   refine ⟨_, rfl, ?_⟩
                   replace BK849 := zM (blk_below (g := gb849) (o := .cells #[.slice A0_0 l0_0.length c0_0, .slice A0_1 l0_1.length c0_1] 50 (0, 0)) (zK BK849.out) hb)
                   replace HB := zM (below_step zB hb)
                   (try clear hb)
                   (try clear hb2)
                   (try clear hk)
                   (try clear hi)
                   refine hK.out _ _ ⟨(blk_cell BK849.out 0).trans rfl, (blk_cell BK849.out 1).trans rfl, ((HB.out.cell (World.block_lt_of_cell? w _ hw851_0)).trans hw851_0), ((HB.out.cell (World.block_lt_of_cell? w _ hw853_0)).trans hw853_0), ((HB.out.cell (World.block_lt_of_cell? w _ hw854_0)).trans hw854_0)⟩ (fun hHeld => ?_)
                   clear hK K
                   refine zn 40 ?_
                   refine zp HT_ 25 41 ?_
                   refine zp HT_ 26 42 ?_
                   refine zp HT_ 27 43 ?_
                   refine zo HT_ ?_
                   try go_wp2
                   go_roundg k1
                   case measure => have := HK1.out; omega
                   case rel => exact ⟨(wrap64 (x6_1 + 1)), (by first | rfl | (simp; done) | (simp [*]; done)), H', ⟨by have := HK1.out; omega⟩, ⟨zK BK849.out⟩, ⟨zB⟩⟩
                 · replace c17 := Bool.eq_false_iff.mpr c17
                   subst c17
                   have H1 : (some (false, true)) = some (r1, r2) := by rw [if_neg (show ¬ (false = true) by decide)] at H; exact H
                   clear H
                   have H := H1
                   clear H1
                   simp only [Option.some.injEq, Prod.mk.injEq] at H
                   obtain ⟨rfl, rfl⟩ := H
                   try go_wp2
                   replace BK849 := zM (blk_drew BK849.out)
                   replace HB := zM (below_drew1 HB.out)
                   have p851 : 0 ≤ (x6_1 : Int) := of_decide_eq_true zA
                   have q851 : x6_1 < (l1.length : Int) := of_decide_eq_true zA
                   obtain ⟨ad851, e851, hx851_0⟩ := Kd.at_int HR1.out x6_1 p851 q851
                   have hw851_0 := hx851_0
                   cases e851
                   (try replace hx851_0 := (HB.out.cell (World.block_lt_of_cell? w _ hx851_0)).trans hx851_0)
                   replace p851 := eq_true p851
                   replace q851 := eq_true q851
                   have p853 : 0 ≤ ((ji13) : Int) := of_decide_eq_true zA
                   have q853 : (ji13) < (l1.length : Int) := of_decide_eq_true zA
                   obtain ⟨ad853, e853, hx853_0⟩ := Kd.at_int HR1.out (ji13) p853 q853
                   have hw853_0 := hx853_0
                   obtain rfl : ad851 = ad853 := (by injection e853)
                   (try replace hx853_0 := (HB.out.cell (World.block_lt_of_cell? w _ hx853_0)).trans hx853_0)
                   replace p853 := eq_true p853
                   replace q853 := eq_true q853
                   have p854 : 0 ≤ (x6_1 : Int) := of_decide_eq_true zA
                   have q854 : x6_1 < (l1.length : Int) := of_decide_eq_true zA
                   obtain ⟨ad854, e854, hx854_0⟩ := Kd.at_int HR1.out x6_1 p854 q854
                   have hw854_0 := hx854_0
                   obtain rfl : ad851 = ad854 := (by injection e854)
                   (try replace hx854_0 := (HB.out.cell (World.block_lt_of_cell? w _ hx854_0)).trans hx854_0)
                   replace p854 := eq_true p854
                   replace q854 := eq_true q854
                   refine zs (n := 28) (fun w' => w'.cell? ⟨gb849, 0, none⟩ = some (.slice A0_0 l0_0.length c0_0) ∧ w'.cell? ⟨gb849, 1, none⟩ = some (.slice A0_1 l0_1.length c0_1) ∧ w'.cell? (ad851.add (x6_1).toNat) = some (.int .i64 (rd l1 x6_1)) ∧ w'.cell? (ad851.add ((ji13)).toNat) = some (.int .i64 (rd l1 (ji13))) ∧ w'.cell? (ad851.add (x6_1).toNat) = some (.int .i64 (rd l1 x6_1))) ⟨(blk_cell BK849.out 0).trans rfl, (blk_cell BK849.out 1).trans rfl, ((HB.out.cell (World.block_lt_of_cell? w _ hw851_0)).trans hw851_0), ((HB.out.cell (World.block_lt_of_cell? w _ hw853_0)).trans hw853_0), ((HB.out.cell (World.block_lt_of_cell? w _ hw854_0)).trans hw854_0)⟩ (fun hHeld => ?_); refine with_tabW spec_IsWay.tab6 spec_IsWay.bits6 (fun HT_ HW_ => ?_)
                   generalize wr.drew = w20 at BK849 HB hx851_0 hx853_0 hx854_0 hHeld ⊢
                   refine zp HT_ 0 16 ?_
                   refine zp HT_ 1 17 ?_
                   refine zp HT_ 2 18 ?_
                   refine zp HT_ 4 20 ?_
                   refine zt HT_ HW_ 3 19 hHeld ?_ (hy := by rintro w' ⟨s0, s1, s2, s3, s4⟩; go_simp; with_reducible rfl)
                   refine zt HT_ HW_ 5 21 hHeld ?_ (hy := by rintro w' ⟨s0, s1, s2, s3, s4⟩; go_simp; with_reducible rfl)
                   refine zp HT_ 6 22 ?_
                   refine zp HT_ 7 23 ?_
                   refine zg HT_ 8 24 Try.func63 #[.int .i64 (rd l1 x6_1), .int .i64 0, .int .i64 (wrap64 ((l0_0.length : Int) - 1))] (fun K hK => ?_)
                   with_reducible refine (spec_l1In.calls (rd l1 x6_1) 0 (wrap64 ((l0_0.length : Int) - 1)) true _ A10.out).mono ?_
                   rintro e w' ⟨rfl, ⟨nd, rfl⟩⟩
                   refine ⟨_, rfl, ?_⟩
                   refine hK.out _ _ ⟨(blk_cell BK849.out 0).trans rfl, (blk_cell BK849.out 1).trans rfl, ((HB.out.cell (World.block_lt_of_cell? w _ hw851_0)).trans hw851_0), ((HB.out.cell (World.block_lt_of_cell? w _ hw853_0)).trans hw853_0), ((HB.out.cell (World.block_lt_of_cell? w _ hw854_0)).trans hw854_0)⟩ (fun hHeld => ?_)
                   clear hK K
                   refine zn 24 ?_
                   refine zp HT_ 9 25 ?_
                   refine zp HT_ 10 26 ?_
                   refine zp HT_ 11 27 ?_
                   refine zp HT_ 12 28 ?_
                   refine zp HT_ 13 29 ?_
                   refine zp HT_ 15 31 ?_
                   refine zp HT_ 16 32 ?_
                   refine zp HT_ 17 33 ?_
                   refine zp HT_ 18 34 ?_
                   refine zp HT_ 20 36 ?_
                   refine zp HT_ 21 37 ?_
                   refine zp HT_ 22 38 ?_
                   refine zt HT_ HW_ 14 30 hHeld ?_ (hy := by rintro w' ⟨s0, s1, s2, s3, s4⟩; go_simp; with_reducible rfl)
                   refine zt HT_ HW_ 19 35 hHeld ?_ (hy := by rintro w' ⟨s0, s1, s2, s3, s4⟩; go_simp; with_reducible rfl)
                   refine zt HT_ HW_ 23 39 hHeld ?_ (hy := by rintro w' ⟨s0, s1, s2, s3, s4⟩; go_simp; with_reducible rfl)
                   refine one_ (i := 24) (N := some 40) #[true, true, true, true, true, true, true, true, true, true, true, true, true, true, true, true, true, true, true, true, true, true, true, true, true, false, false, false] rfl rfl (one_of HT_.out (by kernel_rfl)) (by decide) (fun K hK => ?_)
                   refine goes_ Try.func92 (by kernel_rfl) rfl #[.agg #[.slice A0_0 l0_0.length c0_0, .slice A0_1 l0_1.length c0_1], .int .i64 (rd l1 (ji13)), .int .i64 (rd l1 x6_1)] (by rfl) rfl rfl (by (try simp only [List.map_toArray, List.map_cons, List.map_nil]); first | done | (simp only [hji13]; rfl) | rfl | (simp only [List.length_drop, List.length_take]; rfl)) ?_
                   with_reducible refine (spec_l2Step.calls k1 _ _ l0_0 _ _ l0_1 (rd l1 (ji13)) (rd l1 x6_1) false _ ?side1 ?side2 ?side3 ?side4 A16.out).mono ?_
                   (case side1 => exact zC (Kd.C_below HR0_0.out zB))
                   (case side2 => exact HC0_0.out)
                   (case side3 => exact zC (Kd.C_below HR0_1.out zB))
                   (case side4 => exact HC0_1.out)
                   rintro e w21 ⟨rfl, hb⟩
                   refine ⟨_, rfl, ?_⟩
                   replace BK849 := zM (blk_below (g := gb849) (o := .cells #[.slice A0_0 l0_0.length c0_0, .slice A0_1 l0_1.length c0_1] 50 (0, 0)) (zK BK849.out) hb)
                   replace HB := zM (below_step zB hb)
                   (try clear hb)
                   (try clear hb2)
                   (try clear hk)
                   (try clear hi)
                   refine hK.out _ _ ⟨(blk_cell BK849.out 0).trans rfl, (blk_cell BK849.out 1).trans rfl, ((HB.out.cell (World.block_lt_of_cell? w _ hw851_0)).trans hw851_0), ((HB.out.cell (World.block_lt_of_cell? w _ hw853_0)).trans hw853_0), ((HB.out.cell (World.block_lt_of_cell? w _ hw854_0)).trans hw854_0)⟩ (fun hHeld => ?_)
                   clear hK K
                   refine zn 40 ?_
                   refine zp HT_ 25 41 ?_
                   refine zp HT_ 26 42 ?_
                   refine zp HT_ 27 43 ?_
                   refine zo HT_ ?_
                   try go_wp2
                   go_ret2
                   exact ⟨by first | rfl | (simp [errW_none, errW_some] <;> rfl) | (simp only [← hji13]; first | rfl | (simp [errW_none, errW_some] <;> rfl)) | (simp [*, errW_none, errW_some] <;> rfl), zB⟩
               · rw [if_neg c15] at H
                 exact absurd H (by simp)
             · rw [if_neg c14] at H
               exact absurd H (by simp)
           · rw [if_neg c12] at H
             have c12b0 : decide (0 < x6_1) = false := decide_eq_false c12
             clear c12
             have H' := Aside0.mk H
             clear H
             try go_wp2
             replace BK849 := zM (blk_drew BK849.out)
             replace HB := zM (below_drew1 HB.out)
             have p851 : 0 ≤ (x6_1 : Int) := of_decide_eq_true zA
             have q851 : x6_1 < (l1.length : Int) := of_decide_eq_true zA
             obtain ⟨ad851, e851, hx851_0⟩ := Kd.at_int HR1.out x6_1 p851 q851
             have hw851_0 := hx851_0
             cases e851
             (try replace hx851_0 := (HB.out.cell (World.block_lt_of_cell? w _ hx851_0)).trans hx851_0)
             replace p851 := eq_true p851
             replace q851 := eq_true q851
             refine zs (n := 28) (fun w' => w'.cell? ⟨gb849, 0, none⟩ = some (.slice A0_0 l0_0.length c0_0) ∧ w'.cell? ⟨gb849, 1, none⟩ = some (.slice A0_1 l0_1.length c0_1) ∧ w'.cell? (ad851.add (x6_1).toNat) = some (.int .i64 (rd l1 x6_1))) ⟨(blk_cell BK849.out 0).trans rfl, (blk_cell BK849.out 1).trans rfl, ((HB.out.cell (World.block_lt_of_cell? w _ hw851_0)).trans hw851_0)⟩ (fun hHeld => ?_); refine with_tabW spec_IsWay.tab6 spec_IsWay.bits6 (fun HT_ HW_ => ?_)
             generalize wr.drew = w22 at BK849 HB hx851_0 hHeld ⊢
             refine zp HT_ 0 16 ?_
             refine zp HT_ 1 17 ?_
             refine zp HT_ 2 18 ?_
             refine zp HT_ 4 20 ?_
             refine zt HT_ HW_ 3 19 hHeld ?_ (hy := by rintro w' ⟨s0, s1, s2⟩; go_simp; with_reducible rfl)
             refine zt HT_ HW_ 5 21 hHeld ?_ (hy := by rintro w' ⟨s0, s1, s2⟩; go_simp; with_reducible rfl)
             refine zp HT_ 6 22 ?_
             refine zp HT_ 7 23 ?_
             refine zg HT_ 8 24 Try.func63 #[.int .i64 (rd l1 x6_1), .int .i64 0, .int .i64 (wrap64 ((l0_0.length : Int) - 1))] (fun K hK => ?_)
             with_reducible refine (spec_l1In.calls (rd l1 x6_1) 0 (wrap64 ((l0_0.length : Int) - 1)) true _ A10.out).mono ?_
             rintro e w' ⟨rfl, ⟨nd, rfl⟩⟩
             refine ⟨_, rfl, ?_⟩
             refine hK.out _ _ ⟨(blk_cell BK849.out 0).trans rfl, (blk_cell BK849.out 1).trans rfl, ((HB.out.cell (World.block_lt_of_cell? w _ hw851_0)).trans hw851_0)⟩ (fun hHeld => ?_)
             clear hK K
             refine zn 24 ?_
             refine zp HT_ 9 25 ?_
             refine zp HT_ 10 26 ?_
             refine zp HT_ 11 27 ?_
             refine zp HT_ 12 28 ?_
             refine zp HT_ 13 29 ?_
             refine zu HT_ 14 30 ?_
             refine zu HT_ 15 31 ?_
             refine zu HT_ 16 32 ?_
             refine zu HT_ 17 33 ?_
             refine zu HT_ 18 34 ?_
             refine zu HT_ 19 35 ?_
             refine zu HT_ 20 36 ?_
             refine zu HT_ 21 37 ?_
             refine zu HT_ 22 38 ?_
             refine zu HT_ 23 39 ?_
             refine zu HT_ 24 40 ?_
             refine zu HT_ 25 41 ?_
             refine zp HT_ 26 42 ?_
             refine zp HT_ 27 43 ?_
             refine zo HT_ ?_
             try go_wp2
             go_roundg k1
             case measure => have := HK1.out; omega
             case rel => exact ⟨(wrap64 (x6_1 + 1)), (by first | rfl | (simp; done) | (simp [*]; done)), H', ⟨by have := HK1.out; omega⟩, ⟨zK BK849.out⟩, ⟨zB⟩⟩
         · replace c11 := Bool.eq_false_iff.mpr c11
           subst c11
           have H1 : (some (false, true)) = some (r1, r2) := by rw [if_neg (show ¬ (false = true) by decide)] at H; exact H
           clear H
           have H := H1
           clear H1
           simp only [Option.some.injEq, Prod.mk.injEq] at H
           obtain ⟨rfl, rfl⟩ := H
           try go_wp2
           replace BK849 := zM (blk_drew BK849.out)
           replace HB := zM (below_drew1 HB.out)
           have p851 : 0 ≤ (x6_1 : Int) := of_decide_eq_true zA
           have q851 : x6_1 < (l1.length : Int) := of_decide_eq_true zA
           obtain ⟨ad851, e851, hx851_0⟩ := Kd.at_int HR1.out x6_1 p851 q851
           have hw851_0 := hx851_0
           cases e851
           (try replace hx851_0 := (HB.out.cell (World.block_lt_of_cell? w _ hx851_0)).trans hx851_0)
           replace p851 := eq_true p851
           replace q851 := eq_true q851
           refine zs (n := 28) (fun w' => w'.cell? ⟨gb849, 0, none⟩ = some (.slice A0_0 l0_0.length c0_0) ∧ w'.cell? ⟨gb849, 1, none⟩ = some (.slice A0_1 l0_1.length c0_1) ∧ w'.cell? (ad851.add (x6_1).toNat) = some (.int .i64 (rd l1 x6_1))) ⟨(blk_cell BK849.out 0).trans rfl, (blk_cell BK849.out 1).trans rfl, ((HB.out.cell (World.block_lt_of_cell? w _ hw851_0)).trans hw851_0)⟩ (fun hHeld => ?_); refine with_tabW spec_IsWay.tab6 spec_IsWay.bits6 (fun HT_ HW_ => ?_)
           generalize wr.drew = w23 at BK849 HB hx851_0 hHeld ⊢
           refine zp HT_ 0 16 ?_
           refine zp HT_ 1 17 ?_
           refine zp HT_ 2 18 ?_
           refine zp HT_ 4 20 ?_
           refine zt HT_ HW_ 3 19 hHeld ?_ (hy := by rintro w' ⟨s0, s1, s2⟩; go_simp; with_reducible rfl)
           refine zt HT_ HW_ 5 21 hHeld ?_ (hy := by rintro w' ⟨s0, s1, s2⟩; go_simp; with_reducible rfl)
           refine zp HT_ 6 22 ?_
           refine zp HT_ 7 23 ?_
           refine zg HT_ 8 24 Try.func63 #[.int .i64 (rd l1 x6_1), .int .i64 0, .int .i64 (wrap64 ((l0_0.length : Int) - 1))] (fun K hK => ?_)
           with_reducible refine (spec_l1In.calls (rd l1 x6_1) 0 (wrap64 ((l0_0.length : Int) - 1)) false _ A10.out).mono ?_
           rintro e w' ⟨rfl, ⟨nd, rfl⟩⟩
           refine ⟨_, rfl, ?_⟩
           refine hK.out _ _ ⟨(blk_cell BK849.out 0).trans rfl, (blk_cell BK849.out 1).trans rfl, ((HB.out.cell (World.block_lt_of_cell? w _ hw851_0)).trans hw851_0)⟩ (fun hHeld => ?_)
           clear hK K
           refine zn 24 ?_
           refine zp HT_ 9 25 ?_
           refine zp HT_ 10 26 ?_
           refine zu HT_ 11 27 ?_
           refine zu HT_ 12 28 ?_
           refine zu HT_ 13 29 ?_
           refine zu HT_ 14 30 ?_
           refine zu HT_ 15 31 ?_
           refine zu HT_ 16 32 ?_
           refine zu HT_ 17 33 ?_
           refine zu HT_ 18 34 ?_
           refine zu HT_ 19 35 ?_
           refine zu HT_ 20 36 ?_
           refine zu HT_ 21 37 ?_
           refine zu HT_ 22 38 ?_
           refine zu HT_ 23 39 ?_
           refine zu HT_ 24 40 ?_
           refine zu HT_ 25 41 ?_
           refine zu HT_ 26 42 ?_
           refine zp HT_ 27 43 ?_
           refine zo HT_ ?_
           try go_wp2
           go_ret2
           exact ⟨by first | rfl | (simp [errW_none, errW_some] <;> rfl) | (simp [*, errW_none, errW_some] <;> rfl), zB⟩
       · rw [if_neg c9] at H
         exact absurd H (by simp)
     · rw [if_neg c8] at H
       have c8b0 : decide (x6_1 < (l1.length : Int)) = false := decide_eq_false c8
       clear c8
       simp only [Option.some.injEq, Prod.mk.injEq] at H
       obtain ⟨rfl, rfl⟩ := H
       go_wp2
       go_ret2
       exact ⟨by first | rfl | (simp [errW_none, errW_some] <;> rfl) | (simp [*, errW_none, errW_some] <;> rfl), zB⟩
 · replace c4 := Bool.eq_false_iff.mpr c4
   subst c4
   have H1 : (some (false, false)) = some (r1, r2) := by rw [if_neg (show ¬ (false = true) by decide)] at H; exact H
   clear H
   have H := H1
   clear H1
   simp only [Option.some.injEq, Prod.mk.injEq] at H
   obtain ⟨rfl, rfl⟩ := H
   go_enter Try.func49, Try.ntmps49
   go_wp2_with (first | ((with_reducible refine gate_dst (N := 2) rfl ?_); refine zb (w := w) 2 #[.slice A0_0 l0_0.length c0_0, .slice A0_1 l0_1.length c0_1] 50 zB ?_; clear HB; intro gb849 w24 HB BK849 GW849; have GE849 := GW849; have hcz25_0 := zy BK849 0; have hcz25_1 := zy BK849 1; have hfz25_0 := blk_frozen BK849.out 0; have hfz25_1 := blk_frozen BK849.out 1) | ((with_reducible refine gate_callee (f := 73) rfl ?_); refine zc 8 Try.func73 #[.agg #[.slice A0_0 l0_0.length c0_0, .slice A0_1 l0_1.length c0_1]] ?_; (with_reducible refine (spec_l2Space.calls k _ _ l0_0 _ _ l0_1 false _ ?side1 ?side2 ?side3 ?side4 A3.out).mono ?_); (case side1 => exact zC (Kd.C_below HR0_0.out HB.out)); (case side2 => exact HC0_0.out); (case side3 => exact zC (Kd.C_below HR0_1.out HB.out)); (case side4 => exact HC0_1.out); rintro e w26 ⟨rfl, hb⟩; refine ⟨_, rfl, ?_⟩; replace BK849 := zM (blk_below (g := gb849) (o := .cells #[.slice A0_0 l0_0.length c0_0, .slice A0_1 l0_1.length c0_1] 50 (0, 0)) (zK BK849.out) hb); replace HB := zM (below_step zB hb); (try clear hb); (try clear hb2); (try clear hk); (try clear hi)))
   go_ret2
   exact ⟨by first | rfl | (simp [errW_none, errW_some] <;> rfl) | (simp [*, errW_none, errW_some] <;> rfl), zB⟩

end Go.Proofs.Ytpbngmkhpcgpkaa.P
