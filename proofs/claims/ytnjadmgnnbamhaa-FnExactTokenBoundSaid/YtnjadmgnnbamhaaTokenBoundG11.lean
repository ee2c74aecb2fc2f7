-- Written by a program of this session (the kit's print, turned: wip/print/patch.py) out of the translation. Not trusted: Lean checks it.
import Derived.Test.YtnjadmgnnbamhaaTokenBoundG5
import Derived.Test.YtnjadmgnnbamhaaTokenBoundG10
namespace Go.Proofs.Ytnjadmgnnbamhaa.P
open Go.RowKit Go.Proofs.YtnjadmgnnbamhaaW.PrintWords Go.Proofs.YtnjadmgnnbamhaaW.PrintLast Go.Proofs.YtnjadmgnnbamhaaW.PrintMore
attribute [local go_sem] max2_int min2_int max_two min_two max_three min_three max_four min_four   -- for this text's walks alone
set_option linter.unusedVariables false
set_option linter.unusedSimpArgs false

mutual
def spec_l3Match.l0 : Nat → List (List Int) → List Int → List Int → Int → Int → Option (Int)
 | 0, _, _, _, _, _ => none
 | k + 1, x0, x1, x2, x7, x8 => if x8 < (x2.length : Int) then (if 0 < (x1.length : Int) then (if 0 ≤ (rd x1 0) then (if (rd x1 0) < (x0.length : Int) then (if 0 ≤ x8 then (if 0 ≤ (rd x2 x8) then (if (rd x2 x8) < ((rd_L4 x0 (rd x1 0)).length : Int) then (if (rd (rd_L4 x0 (rd x1 0)) (rd x2 x8)) < 0 then (spec_l3Match.l0 k x0 x1 x2 x7 (wrap64 (x8 + 1))) else (if 1 ≤ (x1.length : Int) then (if x8 ≤ (x2.length : Int) then ((spec_l1Own.f (x2.take (x8 : Int).toNat)).bind fun t296 => (if 0 ≤ (wrap64 (x8 + 1)) then (if (wrap64 (x8 + 1)) ≤ (x2.length : Int) then (if t296.length + (x2.drop ((wrap64 (x8 + 1)) : Int).toNat).length < 17592186044416 then ((spec_l3Match.f k x0 (x1.drop 1) (t296 ++ (x2.drop ((wrap64 (x8 + 1)) : Int).toNat))).bind fun t303 => (if t303 ≥ 0 then (if x7 < 0 then (spec_l3Match.l0 k x0 x1 x2 (wrap64 ((rd (rd_L4 x0 (rd x1 0)) (rd x2 x8)) + t303)) (wrap64 (x8 + 1))) else (if (wrap64 ((rd (rd_L4 x0 (rd x1 0)) (rd x2 x8)) + t303)) < x7 then (spec_l3Match.l0 k x0 x1 x2 (wrap64 ((rd (rd_L4 x0 (rd x1 0)) (rd x2 x8)) + t303)) (wrap64 (x8 + 1))) else (spec_l3Match.l0 k x0 x1 x2 x7 (wrap64 (x8 + 1))))) else (spec_l3Match.l0 k x0 x1 x2 x7 (wrap64 (x8 + 1))))) else (none)) else (none)) else (none))) else (none)) else (none))) else (none)) else (none)) else (none)) else (none)) else (none)) else (none)) else (some x7)
def spec_l3Match.f : Nat → List (List Int) → List Int → List Int → Option (Int)
 | 0, _, _, _ => none
 | k + 1, l0, l1, l2 => if (l1.length : Int) = 0 then (some 0) else (spec_l3Match.l0 k l0 l1 l2 (-1) 0)
end
def spec_l3Match.T7 : Bool × List (List Nat × List Nat) := (true, [([], []), ([], []), ([1], [1]), ([2], [2]), ([0, 3], [0, 3]), ([4], [4]), ([], []), ([], []), ([6, 7], [6, 7]), ([8], [8]), ([5, 9], [5, 9]), ([10], [10]), ([11, 0, 1, 2, 3, 4, 5, 6, 7, 8, 9, 10, 11], [11])])
def spec_l3Match.B7 : List Nat := [0, 0, 2, 6, 15, 31, 0, 0, 192, 448, 1023, 2047, 4095]
theorem spec_l3Match.tab7 : rtab .any (opsOf Try.f14 7) = spec_l3Match.T7 := by kernel_rfl
theorem spec_l3Match.bits7 : waitsOk spec_l3Match.T7.2 spec_l3Match.B7 = true := by kernel_rfl
def spec_l3Match.T9 : Bool × List (List Nat × List Nat) := (true, [([], []), ([], []), ([1], [1]), ([], []), ([], []), ([3, 4], [3, 4]), ([5], [5]), ([], []), ([], []), ([8], [8]), ([7, 9], [7, 9]), ([6, 10, 6], [6, 10]), ([0, 2, 11, 11], [0, 2, 11]), ([12, 12, 0, 1, 2, 3, 4, 5, 6, 7, 8, 9, 10, 11, 12], [12])])
def spec_l3Match.B9 : List Nat := [0, 0, 2, 0, 0, 24, 56, 0, 0, 256, 896, 2040, 4095, 8191]
theorem spec_l3Match.tab9 : rtab .any (opsOf Try.f14 9) = spec_l3Match.T9 := by kernel_rfl
theorem spec_l3Match.bits9 : waitsOk spec_l3Match.T9.2 spec_l3Match.B9 = true := by kernel_rfl
set_option maxHeartbeats 8000000 in
set_option maxRecDepth 100000 in
theorem spec_l3Match.calls (k : Nat) : ∀ (A0 : Option Addr) (c0 : Nat) (l0 : List (List Int)) (A1 : Option Addr) (c1 : Nat) (l1 : List Int) (A2 : Option Addr) (c2 : Nat) (l2 : List Int) (r : Int) (w : World) (hr0 : Kd.C (Kd.slice 3 (Kd.int .i64)) w A0 l0.length l0) (hc0 : l0.length ≤ c0) (hr1 : Kd.C (Kd.int .i64) w A1 l1.length l1) (hc1 : l1.length ≤ c1) (hr2 : Kd.C (Kd.int .i64) w A2 l2.length l2) (hc2 : l2.length ≤ c2) (h : spec_l3Match.f k l0 l1 l2 = some r),
 Calls Try.prog 14 #[.slice A0 l0.length c0, .slice A1 l1.length c1, .slice A2 l2.length c2] w fun e w' => e = .returned (.int .i64 r) ∧ Below w.heap.size w w' := by
 induction k using Nat.strongRecOn with
 | _ k ih =>
 intro A0 c0 l0 A1 c1 l1 A2 c2 l2 r w hr0 hc0 hr1 hc1 hr2 hc2 h
 cases k with
 | zero => exact absurd h (by simp [spec_l3Match.f])
 | succ k =>
 simp only [spec_l3Match.f] at h
 have HR0 := Aside0.mk hr0
 have HC0 := Aside0.mk hc0
 clear hr0 hc0
 have HR1 := Aside0.mk hr1
 have HC1 := Aside0.mk hc1
 clear hr1 hc1
 have HR2 := Aside0.mk hr2
 have HC2 := Aside0.mk hc2
 clear hr2 hc2
 have HB := zM (Below.refl w.heap.size w)
 have H : (if (l1.length : Int) = 0 then (some 0) else (spec_l3Match.l0 k l0 l1 l2 (-1) 0)) = some r := h
 clear h
 by_cases c4 : (l1.length : Int) = 0
 · rw [if_pos c4] at H
   have c4b0 : ((l1.length : Int) == 0) = true := beq_iff_eq.mpr c4
   have c4b1 : ((l1.length : Int) != 0) = false := bne_eq_false_iff_eq.mpr c4
   clear c4
   obtain rfl := Option.some.inj H
   go_enter Try.func14, Try.ntmps14
   go_wp2
   go_ret
   exact ⟨by first | rfl | (simp [errW_none, errW_some] <;> rfl) | (simp [*, errW_none, errW_some] <;> rfl), zB⟩
 · rw [if_neg c4] at H
   have c4b0 : ((l1.length : Int) == 0) = false := beq_eq_false_iff_ne.mpr c4
   have c4b1 : ((l1.length : Int) != 0) = true := bne_iff_ne.mpr c4
   have c4b2 : ¬ (l1 = []) := fun h_ => c4 (by rw [h_]; rfl)
   have H' := Aside0.mk H
   clear H
   go_enter Try.func14, Try.ntmps14
   go_wp2
   go_loopg [7, 8] k (fun kq v7 v8 w' => ∃ (x7_1 : Int) (x8_1 : Int), v7 = .int .i64 x7_1 ∧ v8 = .int .i64 x8_1 ∧ Aside0 (spec_l3Match.l0 kq l0 l1 l2 x7_1 x8_1 = some r) ∧ Aside0 (kq ≤ k) ∧ Aside0 (Below w.heap.size w w'))
   case atStart => exact ⟨((-1)), (0), (by first | rfl | (simp; done) | (simp [*]; done)), (by first | rfl | (simp; done) | (simp [*]; done)), H', ⟨Nat.le_refl _⟩, ⟨zB⟩⟩
   case round =>
    clear H'
    try clear c1
    try clear c2
    try clear p2
    try clear c4
    try clear c4b0
    try clear c4b1
    try clear c4b2
    obtain ⟨x7_1, x8_1, rfl, rfl, HA, HK1, HB⟩ := hrel
    cases gk with
    | zero => exact absurd HA.out (by simp [spec_l3Match.l0])
    | succ k1 =>
     have H := HA.out
     clear HA
     simp only [spec_l3Match.l0] at H
     by_cases c5 : x8_1 < (l2.length : Int)
     · rw [if_pos c5] at H
       have c5b0 := decide_eq_true c5
       clear c5
       by_cases c6 : 0 < (l1.length : Int)
       · rw [if_pos c6] at H
         have c6b0 := decide_eq_true c6
         have c6b1 : decide (0 < l1.length) = true := decide_eq_true (by omega)
         clear c6
         by_cases c7 : 0 ≤ (rd l1 0)
         · rw [if_pos c7] at H
           have c7b0 := decide_eq_true c7
           clear c7
           by_cases c8 : (rd l1 0) < (l0.length : Int)
           · rw [if_pos c8] at H
             have c8b0 := decide_eq_true c8
             clear c8
             by_cases c9 : 0 ≤ x8_1
             · rw [if_pos c9] at H
               have c9b0 := decide_eq_true c9
               clear c9
               by_cases c10 : 0 ≤ (rd l2 x8_1)
               · rw [if_pos c10] at H
                 have c10b0 := decide_eq_true c10
                 clear c10
                 by_cases c11 : (rd l2 x8_1) < ((rd_L4 l0 (rd l1 0)).length : Int)
                 · rw [if_pos c11] at H
                   have c11b0 := decide_eq_true c11
                   clear c11
                   by_cases c12 : (rd (rd_L4 l0 (rd l1 0)) (rd l2 x8_1)) < 0
                   · rw [if_pos c12] at H
                     have c12b0 := decide_eq_true c12
                     clear c12
                     have H' := Aside0.mk H
                     clear H
                     try go_wp2
                     replace HB := zM (below_drew1 HB.out)
                     have p290 : 0 ≤ (0 : Int) := (by omega)
                     have q290 : 0 < (l1.length : Int) := of_decide_eq_true zA
                     obtain ⟨ad290, e290, hx290_0⟩ := Kd.at_int HR1.out 0 p290 q290
                     have hw290_0 := hx290_0
                     (try rw [show ((0 : Int)).toNat = 0 from rfl] at hw290_0)
                     (try rw [show 0 * 1 = 0 from rfl] at hw290_0)
                     (try rw [Addr.add_zero'] at hw290_0)
                     cases e290
                     have qi290 : (0 < l1.length) = True := eq_true (by omega)
                     (try rw [show ((0 : Int)).toNat = 0 from rfl] at hx290_0)
                     (try rw [Addr.add_zero'] at hx290_0)
                     (try replace hx290_0 := (HB.out.cell (World.block_lt_of_cell? w _ hx290_0)).trans hx290_0)
                     replace p290 := eq_true p290
                     replace q290 := eq_true q290
                     have p291 : 0 ≤ ((rd l1 0) : Int) := of_decide_eq_true zA
                     have q291 : (rd l1 0) < (l0.length : Int) := of_decide_eq_true zA
                     obtain ⟨ad291, A291_0, c291_0, e291, hx291_0, hl291_0, hi291_0⟩ := at_L4 HR0.out (rd l1 0) p291 q291
                     have hw291_0 := hx291_0
                     cases e291
                     (try replace hx291_0 := (HB.out.cell (World.block_lt_of_cell? w _ hx291_0)).trans hx291_0)
                     have HR291_0 := Aside0.mk hi291_0
                     have HC291_0 := Aside0.mk hl291_0
                     clear hi291_0 hl291_0
                     replace p291 := eq_true p291
                     replace q291 := eq_true q291
                     have p292 : 0 ≤ (x8_1 : Int) := of_decide_eq_true zA
                     have q292 : x8_1 < (l2.length : Int) := of_decide_eq_true zA
                     obtain ⟨ad292, e292, hx292_0⟩ := Kd.at_int HR2.out x8_1 p292 q292
                     have hw292_0 := hx292_0
                     cases e292
                     (try replace hx292_0 := (HB.out.cell (World.block_lt_of_cell? w _ hx292_0)).trans hx292_0)
                     replace p292 := eq_true p292
                     replace q292 := eq_true q292
                     have p293 : 0 ≤ ((rd l2 x8_1) : Int) := of_decide_eq_true zA
                     have q293 : (rd l2 x8_1) < ((rd_L4 l0 (rd l1 0)).length : Int) := of_decide_eq_true zA
                     obtain ⟨ad293, e293, hx293_0⟩ := Kd.at_int HR291_0.out (rd l2 x8_1) p293 q293
                     have hw293_0 := hx293_0
                     cases e293
                     (try replace hx293_0 := (HB.out.cell (World.block_lt_of_cell? w _ hx293_0)).trans hx293_0)
                     replace p293 := eq_true p293
                     replace q293 := eq_true q293
                     refine zs (n := 13) (fun w' => w'.cell? ad290 = some (.int .i64 (rd l1 0)) ∧ w'.cell? (ad291.add ((rd l1 0)).toNat) = some (.slice (some ad293) (rd_L4 l0 (rd l1 0)).length c291_0) ∧ w'.cell? (ad292.add (x8_1).toNat) = some (.int .i64 (rd l2 x8_1)) ∧ w'.cell? (ad293.add ((rd l2 x8_1)).toNat) = some (.int .i64 (rd (rd_L4 l0 (rd l1 0)) (rd l2 x8_1)))) ⟨((HB.out.cell (World.block_lt_of_cell? w _ hw290_0)).trans hw290_0), ((HB.out.cell (World.block_lt_of_cell? w _ hw291_0)).trans hw291_0), ((HB.out.cell (World.block_lt_of_cell? w _ hw292_0)).trans hw292_0), ((HB.out.cell (World.block_lt_of_cell? w _ hw293_0)).trans hw293_0)⟩ (fun hHeld => ?_); refine with_tabW spec_l3Match.tab7 spec_l3Match.bits7 (fun HT_ HW_ => ?_)
                     generalize wr.drew = w13 at HB HR291_0 hx290_0 hx291_0 hx292_0 hx293_0 hHeld ⊢
                     refine zp HT_ 0 20 ?_
                     refine zp HT_ 1 21 ?_
                     refine zp HT_ 2 22 ?_
                     refine zp HT_ 6 26 ?_
                     refine zp HT_ 7 27 ?_
                     refine zp HT_ 8 28 ?_
                     refine zt HT_ HW_ 3 23 hHeld ?_ (hy := by rintro w' ⟨s0, s1, s2, s3⟩; go_simp; with_reducible rfl)
                     refine zp HT_ 4 24 ?_
                     refine zt HT_ HW_ 5 25 hHeld ?_ (hy := by rintro w' ⟨s0, s1, s2, s3⟩; go_simp; with_reducible rfl)
                     refine zt HT_ HW_ 9 29 hHeld ?_ (hy := by rintro w' ⟨s0, s1, s2, s3⟩; go_simp; with_reducible rfl)
                     refine zp HT_ 10 30 ?_
                     refine zt HT_ HW_ 11 31 hHeld ?_ (hy := by rintro w' ⟨s0, s1, s2, s3⟩; go_simp; with_reducible rfl)
                     refine zp HT_ 12 9 ?_
                     refine zo HT_ ?_
                     try go_wp2
                     go_roundg k1
                     case measure => have := HK1.out; omega
                     case rel => exact ⟨(x7_1), (wrap64 (x8_1 + 1)), (by first | rfl | (simp; done) | (simp [*]; done)), (by first | rfl | (simp; done) | (simp [*]; done)), H', ⟨by have := HK1.out; omega⟩, ⟨zB⟩⟩
                   · rw [if_neg c12] at H
                     have c12b0 : decide ((rd (rd_L4 l0 (rd l1 0)) (rd l2 x8_1)) < 0) = false := decide_eq_false c12
                     clear c12
                     by_cases c14 : 1 ≤ (l1.length : Int)
                     · rw [if_pos c14] at H
                       have c14b0 := eq_true c14
                       have c14b1 : decide (1 ≤ (l1.length : Int)) = true := decide_eq_true c14
                       clear c14
                       have c15b0 := eq_true (of_decide_eq_true zA : 0 ≤ x8_1)
                       by_cases c16 : x8_1 ≤ (l2.length : Int)
                       · rw [if_pos c16] at H
                         have c16b0 := eq_true c16
                         have c16b1 : decide (x8_1 ≤ (l2.length : Int)) = true := decide_eq_true c16
                         clear c16
                         replace H := Option.bind_eq_some_iff.mp H
                         obtain ⟨t296, A170, H⟩ := H
                         have A17 := Aside0.mk A170
                         clear A170
                         obtain ⟨ji18, hji18⟩ : ∃ j_ : Int, (wrap64 (x8_1 + 1)) = j_ := ⟨_, rfl⟩
                         replace H : (if 0 ≤ (ji18) then (if (ji18) ≤ (l2.length : Int) then (if t296.length + (l2.drop ((ji18) : Int).toNat).length < 17592186044416 then ((spec_l3Match.f k1 l0 (l1.drop 1) (t296 ++ (l2.drop ((ji18) : Int).toNat))).bind fun t303 => (if t303 ≥ 0 then (if x7_1 < 0 then (spec_l3Match.l0 k1 l0 l1 l2 (wrap64 ((rd (rd_L4 l0 (rd l1 0)) (rd l2 x8_1)) + t303)) ji18) else (if (wrap64 ((rd (rd_L4 l0 (rd l1 0)) (rd l2 x8_1)) + t303)) < x7_1 then (spec_l3Match.l0 k1 l0 l1 l2 (wrap64 ((rd (rd_L4 l0 (rd l1 0)) (rd l2 x8_1)) + t303)) ji18) else (spec_l3Match.l0 k1 l0 l1 l2 x7_1 ji18))) else (spec_l3Match.l0 k1 l0 l1 l2 x7_1 ji18))) else (none)) else (none)) else (none)) = some r := by first | (rw [hji18] at H; exact H) | (simp only [hji18] at H ⊢; exact H)
                         (try rw [hji18] at A17)
                         have hji18w : (IntKind.i64.wrap (x8_1 + 1)) = ji18 := (i64_w _).trans hji18
                         by_cases c19 : 0 ≤ (ji18)
                         · rw [if_pos c19] at H
                           have c19b0 := eq_true c19
                           have c19b1 : decide (0 ≤ (ji18)) = true := decide_eq_true c19
                           clear c19
                           by_cases c20 : (ji18) ≤ (l2.length : Int)
                           · rw [if_pos c20] at H
                             have c20b0 := eq_true c20
                             have c20b1 : decide ((ji18) ≤ (l2.length : Int)) = true := decide_eq_true c20
                             clear c20
                             by_cases c21 : t296.length + (l2.drop ((ji18) : Int).toNat).length < 17592186044416
                             · rw [if_pos c21] at H
                               have LMc21 := Aside0.mk c21
                               clear c21
                               obtain ⟨y300, hy300⟩ : ∃ y_ : List Int, y_ = (t296 ++ (l2.drop ((ji18) : Int).toNat)) := ⟨_, rfl⟩
                               replace H : ((spec_l3Match.f k1 l0 (l1.drop 1) y300).bind fun t303 => (if t303 ≥ 0 then (if x7_1 < 0 then (spec_l3Match.l0 k1 l0 l1 l2 (wrap64 ((rd (rd_L4 l0 (rd l1 0)) (rd l2 x8_1)) + t303)) ji18) else (if (wrap64 ((rd (rd_L4 l0 (rd l1 0)) (rd l2 x8_1)) + t303)) < x7_1 then (spec_l3Match.l0 k1 l0 l1 l2 (wrap64 ((rd (rd_L4 l0 (rd l1 0)) (rd l2 x8_1)) + t303)) ji18) else (spec_l3Match.l0 k1 l0 l1 l2 x7_1 ji18))) else (spec_l3Match.l0 k1 l0 l1 l2 x7_1 ji18))) = some r := by first | (rw [hy300]; with_reducible exact H) | (have H2_ := (Option.bind_some _ _).symm.trans H; rw [hy300]; with_reducible exact H2_) | (have H2_ := (Option.bind_some _ _).symm.trans H; with_reducible exact H2_) | with_reducible exact H | (rw [hy300]; exact H) | exact H
                               have Ny300 := Aside0.mk hy300
                               clear hy300
                               replace H := Option.bind_eq_some_iff.mp H
                               obtain ⟨t303, A220, H⟩ := H
                               have A22 := Aside0.mk A220
                               clear A220
                               by_cases c23 : t303 ≥ 0
                               · rw [if_pos c23] at H
                                 have c23b0 : decide (0 ≤ t303) = true := decide_eq_true c23
                                 clear c23
                                 by_cases c24 : x7_1 < 0
                                 · rw [if_pos c24] at H
                                   have c24b0 := decide_eq_true c24
                                   clear c24
                                   have H' := Aside0.mk H
                                   clear H
                                   try go_wp2
                                   replace HB := zM (below_drew1 HB.out)
                                   have p290 : 0 ≤ (0 : Int) := (by omega)
                                   have q290 : 0 < (l1.length : Int) := of_decide_eq_true zA
                                   obtain ⟨ad290, e290, hx290_0⟩ := Kd.at_int HR1.out 0 p290 q290
                                   have hw290_0 := hx290_0
                                   (try rw [show ((0 : Int)).toNat = 0 from rfl] at hw290_0)
                                   (try rw [show 0 * 1 = 0 from rfl] at hw290_0)
                                   (try rw [Addr.add_zero'] at hw290_0)
                                   cases e290
                                   have qi290 : (0 < l1.length) = True := eq_true (by omega)
                                   (try rw [show ((0 : Int)).toNat = 0 from rfl] at hx290_0)
                                   (try rw [Addr.add_zero'] at hx290_0)
                                   (try replace hx290_0 := (HB.out.cell (World.block_lt_of_cell? w _ hx290_0)).trans hx290_0)
                                   replace p290 := eq_true p290
                                   replace q290 := eq_true q290
                                   have p291 : 0 ≤ ((rd l1 0) : Int) := of_decide_eq_true zA
                                   have q291 : (rd l1 0) < (l0.length : Int) := of_decide_eq_true zA
                                   obtain ⟨ad291, A291_0, c291_0, e291, hx291_0, hl291_0, hi291_0⟩ := at_L4 HR0.out (rd l1 0) p291 q291
                                   have hw291_0 := hx291_0
                                   cases e291
                                   (try replace hx291_0 := (HB.out.cell (World.block_lt_of_cell? w _ hx291_0)).trans hx291_0)
                                   have HR291_0 := Aside0.mk hi291_0
                                   have HC291_0 := Aside0.mk hl291_0
                                   clear hi291_0 hl291_0
                                   replace p291 := eq_true p291
                                   replace q291 := eq_true q291
                                   have p292 : 0 ≤ (x8_1 : Int) := of_decide_eq_true zA
                                   have q292 : x8_1 < (l2.length : Int) := of_decide_eq_true zA
                                   obtain ⟨ad292, e292, hx292_0⟩ := Kd.at_int HR2.out x8_1 p292 q292
                                   have hw292_0 := hx292_0
                                   cases e292
                                   (try replace hx292_0 := (HB.out.cell (World.block_lt_of_cell? w _ hx292_0)).trans hx292_0)
                                   replace p292 := eq_true p292
                                   replace q292 := eq_true q292
                                   have p293 : 0 ≤ ((rd l2 x8_1) : Int) := of_decide_eq_true zA
                                   have q293 : (rd l2 x8_1) < ((rd_L4 l0 (rd l1 0)).length : Int) := of_decide_eq_true zA
                                   obtain ⟨ad293, e293, hx293_0⟩ := Kd.at_int HR291_0.out (rd l2 x8_1) p293 q293
                                   have hw293_0 := hx293_0
                                   cases e293
                                   (try replace hx293_0 := (HB.out.cell (World.block_lt_of_cell? w _ hx293_0)).trans hx293_0)
                                   replace p293 := eq_true p293
                                   replace q293 := eq_true q293
                                   refine zs (n := 13) (fun w' => w'.cell? ad290 = some (.int .i64 (rd l1 0)) ∧ w'.cell? (ad291.add ((rd l1 0)).toNat) = some (.slice (some ad293) (rd_L4 l0 (rd l1 0)).length c291_0) ∧ w'.cell? (ad292.add (x8_1).toNat) = some (.int .i64 (rd l2 x8_1)) ∧ w'.cell? (ad293.add ((rd l2 x8_1)).toNat) = some (.int .i64 (rd (rd_L4 l0 (rd l1 0)) (rd l2 x8_1)))) ⟨((HB.out.cell (World.block_lt_of_cell? w _ hw290_0)).trans hw290_0), ((HB.out.cell (World.block_lt_of_cell? w _ hw291_0)).trans hw291_0), ((HB.out.cell (World.block_lt_of_cell? w _ hw292_0)).trans hw292_0), ((HB.out.cell (World.block_lt_of_cell? w _ hw293_0)).trans hw293_0)⟩ (fun hHeld => ?_); refine with_tabW spec_l3Match.tab7 spec_l3Match.bits7 (fun HT_ HW_ => ?_)
                                   generalize wr.drew = w25 at HB HR291_0 hx290_0 hx291_0 hx292_0 hx293_0 hHeld ⊢
                                   refine zp HT_ 0 20 ?_
                                   refine zp HT_ 1 21 ?_
                                   refine zp HT_ 2 22 ?_
                                   refine zp HT_ 6 26 ?_
                                   refine zp HT_ 7 27 ?_
                                   refine zp HT_ 8 28 ?_
                                   refine zt HT_ HW_ 3 23 hHeld ?_ (hy := by rintro w' ⟨s0, s1, s2, s3⟩; go_simp; with_reducible rfl)
                                   refine zp HT_ 4 24 ?_
                                   refine zt HT_ HW_ 5 25 hHeld ?_ (hy := by rintro w' ⟨s0, s1, s2, s3⟩; go_simp; with_reducible rfl)
                                   refine zt HT_ HW_ 9 29 hHeld ?_ (hy := by rintro w' ⟨s0, s1, s2, s3⟩; go_simp; with_reducible rfl)
                                   refine zp HT_ 10 30 ?_
                                   refine zt HT_ HW_ 11 31 hHeld ?_ (hy := by rintro w' ⟨s0, s1, s2, s3⟩; go_simp; with_reducible rfl)
                                   refine zp HT_ 12 9 ?_
                                   refine zo HT_ ?_
                                   try go_wp2
                                   replace HB := zM (below_drew1 HB.out)
                                   obtain ⟨i027, hi027, _, hsz27, _⟩ := info_parts info3
                                   obtain ⟨A27, hcut27, hA27, hC27⟩ := print_drop_of (P := Try.prog) (Value.int .i64) 0 25 3 .i64 Try.underlying25 hi027 hsz27 (some ad290) c1 l1 1 (by omega) (of_decide_eq_true zA) HC1.out
                                   have HR294 := zM (Kd.C_of_reads (h1 := fun _ => rfl) (hA27 _ (Kd.reads_of_C HR1.out)))
                                   have HC294 := Aside0.mk hC27
                                   clear hA27 hC27 hi027 hsz27
                                   obtain ⟨i028, hi028, _, hsz28, _⟩ := info_parts info3
                                   obtain ⟨hcut28, hA28, hC28⟩ := print_take_of (P := Try.prog) (Value.int .i64) 0 25 3 .i64 Try.underlying25 hi028 hsz28 (some ad292) c2 l2 x8_1 (of_decide_eq_true zA) (of_decide_eq_true zA) HC2.out
                                   have HR295 := zM (Kd.C_of_reads (h1 := fun _ => rfl) (hA28 _ (Kd.reads_of_C HR2.out)))
                                   have HC295 := Aside0.mk hC28
                                   clear hA28 hC28 hi028 hsz28
                                   obtain ⟨i029, hi029, _, hsz29, _⟩ := info_parts info3
                                   obtain ⟨A29, hcut29, hA29, hC29⟩ := print_drop_of (P := Try.prog) (Value.int .i64) 0 25 3 .i64 Try.underlying25 hi029 hsz29 (some ad292) c2 l2 (ji18) (of_decide_eq_true zA) (of_decide_eq_true zA) HC2.out
                                   have HR299 := zM (Kd.C_of_reads (h1 := fun _ => rfl) (hA29 _ (Kd.reads_of_C HR2.out)))
                                   have HC299 := Aside0.mk hC29
                                   clear hA29 hC29 hi029 hsz29
                                   refine zs (n := 14) (fun w' => True) trivial (fun hHeld => ?_); refine with_tabW spec_l3Match.tab9 spec_l3Match.bits9 (fun HT_ HW_ => ?_)
                                   generalize w25.drew = w26 at HB HR294 HR295 HR299 hHeld ⊢
                                   refine zp HT_ 0 34 ?_
                                   refine zp HT_ 1 35 ?_
                                   refine zp HT_ 2 36 ?_
                                   refine zp HT_ 3 37 ?_
                                   refine zp HT_ 4 38 ?_
                                   refine zp HT_ 5 39 ?_
                                   refine zp HT_ 7 41 ?_
                                   refine zp HT_ 8 42 ?_
                                   refine zp HT_ 9 43 ?_
                                   refine zp HT_ 10 44 ?_
                                   refine one_ (i := 6) (N := some 40) #[true, true, true, true, true, true, true, true, true, true, true, false, false, false] rfl rfl (one_of HT_.out (by kernel_rfl)) (by decide) (fun K hK => ?_)
                                   refine goes_ Try.func27 (by kernel_rfl) rfl #[.slice (some ad292) (l2.take (x8_1 : Int).toNat).length c2] (by rfl) rfl rfl (by (try simp only [List.map_toArray, List.map_cons, List.map_nil]); first | done | (rw [show (l2.take (x8_1 : Int).toNat).length = x8_1.toNat from (by rw [List.length_take]; have h_ : (x8_1 : Int) ≤ (l2.length : Int) := of_decide_eq_true zA; omega)] <;> rfl) | rfl | (simp only [List.length_drop, List.length_take]; rfl)) ?_
                                   with_reducible refine (spec_l1Own.calls _ _ (l2.take (x8_1 : Int).toNat) t296 _ ?side1 ?side2 A17.out).mono ?_
                                   (case side1 => exact zC (Kd.C_below HR295.out HB.out))
                                   (case side2 => exact HC295.out)
                                   rintro e w30 ⟨v297, rfl, ho0, hb⟩
                                   refine ⟨_, rfl, ?_⟩
                                   have HO298 := zM (Kd.R_lower ho0 (below_size zB))
                                   replace HB := zM (below_step zB hb)
                                   (try clear hb)
                                   (try clear hb2)
                                   (try clear hk)
                                   (try clear hi)
                                   (try clear ho0)
                                   refine hK.out _ _ trivial (fun hHeld => ?_)
                                   clear hK K
                                   refine zn 40 ?_
                                   refine one_ (i := 11) (N := some 45) #[true, true, true, true, true, true, true, true, true, true, true, true, false, false] rfl rfl (one_of HT_.out (by kernel_rfl)) (by decide) (fun K hK => ?_)
                                   refine Kd.R_append_rows_step (Kd.int .i64) (w0 := w) w.heap.size (by rfl) (.tmp 40) (.tmp 44) 25 3 (.int .i64 0) 8 rfl Try.underlying25 info3 rfl (by decide) (by omega) v297 t296 (l2.drop ((ji18) : Int).toNat) _ _ _ (fun _ => True) (fun _ => False) rfl rfl ?aO ?aR (fun _ _ h => h) (fun _ h => h.elim) ?aF ?aB ?aS ?aL ?_
                                   (case aR => first | (have hq_ := Kd.C_below HR299.out HB.out; rw [show (l2.drop ((ji18) : Int).toNat).length = (l2.length - (ji18).toNat) from List.length_drop] at hq_; repeat (first | exact hq_ | (with_reducible refine Kd.C_alloc ?_ _) | (with_reducible refine Kd.C_drewN ?_ _) | (with_reducible refine Kd.C_drew ?_)); done) | (rw [← show (l2.drop ((ji18) : Int).toNat).length = (l2.length - (ji18).toNat) from List.length_drop]; repeat (first | exact (Kd.C_below HR299.out HB.out) | (with_reducible refine Kd.C_alloc ?_ _) | (with_reducible refine Kd.C_drewN ?_ _) | (with_reducible refine Kd.C_drew ?_))) | (repeat (first | exact (Kd.C_below HR299.out HB.out) | (with_reducible refine Kd.C_alloc ?_ _) | (with_reducible refine Kd.C_drewN ?_ _) | (with_reducible refine Kd.C_drew ?_))))
                                   (case aB => exact zB)
                                   (case aF => exact (fun _ _ => trivial))
                                   (case aO => exact (zR HO298.out))
                                   (case aS => exact (below_size zB))
                                   (case aL => have := LMc21.out; have hlx_ := (show (l2.drop ((ji18) : Int).toNat).length = (l2.length - (ji18).toNat) from List.length_drop); omega)
                                   intro v301 w31 ho hb hg hat
                                   rw [← Ny300.out] at ho
                                   replace HB := zM (hb)
                                   have HO302 := zM (ho)
                                   clear HO298
                                   clear ho hb hg hat
                                   obtain ⟨Ao32, co32, eo32⟩ := Kd.R_slice HO302.out
                                   (first | subst eo32 | (injection eo32 with f1_ f2_ f3_; have f4_ := f1_.symm; have f5_ := f3_.symm; clear f1_ f2_ f3_; subst f4_; subst f5_))
                                   refine hK.out _ _ trivial (fun hHeld => ?_)
                                   clear hK K
                                   refine zn 45 ?_
                                   refine one_ (i := 12) (N := some 46) #[true, true, true, true, true, true, true, true, true, true, true, true, true, false] rfl rfl (one_of HT_.out (by kernel_rfl)) (by decide) (fun K hK => ?_)
                                   refine goes_ Try.func14 (by kernel_rfl) rfl #[.slice (some ad291) l0.length c0, .slice A27 (l1.drop 1).length (c1 - 1), .slice Ao32 y300.length co32] (by rfl) rfl rfl (by (try simp only [List.map_toArray, List.map_cons, List.map_nil]); first | done | (rw [show (l1.drop 1).length = (l1.length - 1) from List.length_drop] <;> rfl) | rfl | (simp only [List.length_drop, List.length_take]; rfl)) ?_
                                   with_reducible refine (ih k1 (by have := HK1.out; omega) _ _ l0 _ _ (l1.drop 1) _ _ y300 t303 _ ?side1 ?side2 ?side3 ?side4 ?side5 ?side6 A22.out).mono ?_
                                   (case side1 => exact zC (Kd.C_below HR0.out HB.out))
                                   (case side2 => exact HC0.out)
                                   (case side3 => exact zC (Kd.C_below HR294.out HB.out))
                                   (case side4 => exact HC294.out)
                                   (case side5 => exact zC (Kd.R_reads' HO302.out).2.2)
                                   (case side6 => exact (Kd.R_reads' HO302.out).2.1)
                                   rintro e w33 ⟨rfl, hb⟩
                                   refine ⟨_, rfl, ?_⟩
                                   replace HO302 := zM (Kd.R_below (zR HO302.out) hb)
                                   replace HB := zM (below_step zB hb)
                                   (try clear hb)
                                   (try clear hb2)
                                   (try clear hk)
                                   (try clear hi)
                                   refine hK.out _ _ trivial (fun hHeld => ?_)
                                   clear hK K
                                   refine zn 46 ?_
                                   refine zp HT_ 13 10 ?_
                                   refine zo HT_ ?_
                                   try go_wp2
                                   go_roundg k1
                                   case measure => have := HK1.out; omega
                                   case rel => exact ⟨(wrap64 ((rd (rd_L4 l0 (rd l1 0)) (rd l2 x8_1)) + t303)), (ji18), (by first | rfl | (simp; done) | (simp [*]; done)), (by first | rfl | (simp; done) | (simp only [← hji18] <;> (first | rfl | simp)) | (simp [*]; done)), H', ⟨by have := HK1.out; omega⟩, ⟨zB⟩⟩
                                 · rw [if_neg c24] at H
                                   have c24b0 : decide (x7_1 < 0) = false := decide_eq_false c24
                                   clear c24
                                   by_cases c34 : (wrap64 ((rd (rd_L4 l0 (rd l1 0)) (rd l2 x8_1)) + t303)) < x7_1
                                   · rw [if_pos c34] at H
                                     have c34b0 := decide_eq_true c34
                                     clear c34
                                     have H' := Aside0.mk H
                                     clear H
                                     try go_wp2
                                     replace HB := zM (below_drew1 HB.out)
                                     have p290 : 0 ≤ (0 : Int) := (by omega)
                                     have q290 : 0 < (l1.length : Int) := of_decide_eq_true zA
                                     obtain ⟨ad290, e290, hx290_0⟩ := Kd.at_int HR1.out 0 p290 q290
                                     have hw290_0 := hx290_0
                                     (try rw [show ((0 : Int)).toNat = 0 from rfl] at hw290_0)
                                     (try rw [show 0 * 1 = 0 from rfl] at hw290_0)
                                     (try rw [Addr.add_zero'] at hw290_0)
                                     cases e290
                                     have qi290 : (0 < l1.length) = True := eq_true (by omega)
                                     (try rw [show ((0 : Int)).toNat = 0 from rfl] at hx290_0)
                                     (try rw [Addr.add_zero'] at hx290_0)
                                     (try replace hx290_0 := (HB.out.cell (World.block_lt_of_cell? w _ hx290_0)).trans hx290_0)
                                     replace p290 := eq_true p290
                                     replace q290 := eq_true q290
                                     have p291 : 0 ≤ ((rd l1 0) : Int) := of_decide_eq_true zA
                                     have q291 : (rd l1 0) < (l0.length : Int) := of_decide_eq_true zA
                                     obtain ⟨ad291, A291_0, c291_0, e291, hx291_0, hl291_0, hi291_0⟩ := at_L4 HR0.out (rd l1 0) p291 q291
                                     have hw291_0 := hx291_0
                                     cases e291
                                     (try replace hx291_0 := (HB.out.cell (World.block_lt_of_cell? w _ hx291_0)).trans hx291_0)
                                     have HR291_0 := Aside0.mk hi291_0
                                     have HC291_0 := Aside0.mk hl291_0
                                     clear hi291_0 hl291_0
                                     replace p291 := eq_true p291
                                     replace q291 := eq_true q291
                                     have p292 : 0 ≤ (x8_1 : Int) := of_decide_eq_true zA
                                     have q292 : x8_1 < (l2.length : Int) := of_decide_eq_true zA
                                     obtain ⟨ad292, e292, hx292_0⟩ := Kd.at_int HR2.out x8_1 p292 q292
                                     have hw292_0 := hx292_0
                                     cases e292
                                     (try replace hx292_0 := (HB.out.cell (World.block_lt_of_cell? w _ hx292_0)).trans hx292_0)
                                     replace p292 := eq_true p292
                                     replace q292 := eq_true q292
                                     have p293 : 0 ≤ ((rd l2 x8_1) : Int) := of_decide_eq_true zA
                                     have q293 : (rd l2 x8_1) < ((rd_L4 l0 (rd l1 0)).length : Int) := of_decide_eq_true zA
                                     obtain ⟨ad293, e293, hx293_0⟩ := Kd.at_int HR291_0.out (rd l2 x8_1) p293 q293
                                     have hw293_0 := hx293_0
                                     cases e293
                                     (try replace hx293_0 := (HB.out.cell (World.block_lt_of_cell? w _ hx293_0)).trans hx293_0)
                                     replace p293 := eq_true p293
                                     replace q293 := eq_true q293
                                     refine zs (n := 13) (fun w' => w'.cell? ad290 = some (.int .i64 (rd l1 0)) ∧ w'.cell? (ad291.add ((rd l1 0)).toNat) = some (.slice (some ad293) (rd_L4 l0 (rd l1 0)).length c291_0) ∧ w'.cell? (ad292.add (x8_1).toNat) = some (.int .i64 (rd l2 x8_1)) ∧ w'.cell? (ad293.add ((rd l2 x8_1)).toNat) = some (.int .i64 (rd (rd_L4 l0 (rd l1 0)) (rd l2 x8_1)))) ⟨((HB.out.cell (World.block_lt_of_cell? w _ hw290_0)).trans hw290_0), ((HB.out.cell (World.block_lt_of_cell? w _ hw291_0)).trans hw291_0), ((HB.out.cell (World.block_lt_of_cell? w _ hw292_0)).trans hw292_0), ((HB.out.cell (World.block_lt_of_cell? w _ hw293_0)).trans hw293_0)⟩ (fun hHeld => ?_); refine with_tabW spec_l3Match.tab7 spec_l3Match.bits7 (fun HT_ HW_ => ?_)
                                     generalize wr.drew = w35 at HB HR291_0 hx290_0 hx291_0 hx292_0 hx293_0 hHeld ⊢
                                     refine zp HT_ 0 20 ?_
                                     refine zp HT_ 1 21 ?_
                                     refine zp HT_ 2 22 ?_
                                     refine zp HT_ 6 26 ?_
                                     refine zp HT_ 7 27 ?_
                                     refine zp HT_ 8 28 ?_
                                     refine zt HT_ HW_ 3 23 hHeld ?_ (hy := by rintro w' ⟨s0, s1, s2, s3⟩; go_simp; with_reducible rfl)
                                     refine zp HT_ 4 24 ?_
                                     refine zt HT_ HW_ 5 25 hHeld ?_ (hy := by rintro w' ⟨s0, s1, s2, s3⟩; go_simp; with_reducible rfl)
                                     refine zt HT_ HW_ 9 29 hHeld ?_ (hy := by rintro w' ⟨s0, s1, s2, s3⟩; go_simp; with_reducible rfl)
                                     refine zp HT_ 10 30 ?_
                                     refine zt HT_ HW_ 11 31 hHeld ?_ (hy := by rintro w' ⟨s0, s1, s2, s3⟩; go_simp; with_reducible rfl)
                                     refine zp HT_ 12 9 ?_
                                     refine zo HT_ ?_
                                     try go_wp2
                                     replace HB := zM (below_drew1 HB.out)
                                     obtain ⟨i037, hi037, _, hsz37, _⟩ := info_parts info3
                                     obtain ⟨A37, hcut37, hA37, hC37⟩ := print_drop_of (P := Try.prog) (Value.int .i64) 0 25 3 .i64 Try.underlying25 hi037 hsz37 (some ad290) c1 l1 1 (by omega) (of_decide_eq_true zA) HC1.out
                                     have HR294 := zM (Kd.C_of_reads (h1 := fun _ => rfl) (hA37 _ (Kd.reads_of_C HR1.out)))
                                     have HC294 := Aside0.mk hC37
                                     clear hA37 hC37 hi037 hsz37
                                     obtain ⟨i038, hi038, _, hsz38, _⟩ := info_parts info3
                                     obtain ⟨hcut38, hA38, hC38⟩ := print_take_of (P := Try.prog) (Value.int .i64) 0 25 3 .i64 Try.underlying25 hi038 hsz38 (some ad292) c2 l2 x8_1 (of_decide_eq_true zA) (of_decide_eq_true zA) HC2.out
                                     have HR295 := zM (Kd.C_of_reads (h1 := fun _ => rfl) (hA38 _ (Kd.reads_of_C HR2.out)))
                                     have HC295 := Aside0.mk hC38
                                     clear hA38 hC38 hi038 hsz38
                                     obtain ⟨i039, hi039, _, hsz39, _⟩ := info_parts info3
                                     obtain ⟨A39, hcut39, hA39, hC39⟩ := print_drop_of (P := Try.prog) (Value.int .i64) 0 25 3 .i64 Try.underlying25 hi039 hsz39 (some ad292) c2 l2 (ji18) (of_decide_eq_true zA) (of_decide_eq_true zA) HC2.out
                                     have HR299 := zM (Kd.C_of_reads (h1 := fun _ => rfl) (hA39 _ (Kd.reads_of_C HR2.out)))
                                     have HC299 := Aside0.mk hC39
                                     clear hA39 hC39 hi039 hsz39
                                     refine zs (n := 14) (fun w' => True) trivial (fun hHeld => ?_); refine with_tabW spec_l3Match.tab9 spec_l3Match.bits9 (fun HT_ HW_ => ?_)
                                     generalize w35.drew = w36 at HB HR294 HR295 HR299 hHeld ⊢
                                     refine zp HT_ 0 34 ?_
                                     refine zp HT_ 1 35 ?_
                                     refine zp HT_ 2 36 ?_
                                     refine zp HT_ 3 37 ?_
                                     refine zp HT_ 4 38 ?_
                                     refine zp HT_ 5 39 ?_
                                     refine zp HT_ 7 41 ?_
                                     refine zp HT_ 8 42 ?_
                                     refine zp HT_ 9 43 ?_
                                     refine zp HT_ 10 44 ?_
                                     refine one_ (i := 6) (N := some 40) #[true, true, true, true, true, true, true, true, true, true, true, false, false, false] rfl rfl (one_of HT_.out (by kernel_rfl)) (by decide) (fun K hK => ?_)
                                     refine goes_ Try.func27 (by kernel_rfl) rfl #[.slice (some ad292) (l2.take (x8_1 : Int).toNat).length c2] (by rfl) rfl rfl (by (try simp only [List.map_toArray, List.map_cons, List.map_nil]); first | done | (rw [show (l2.take (x8_1 : Int).toNat).length = x8_1.toNat from (by rw [List.length_take]; have h_ : (x8_1 : Int) ≤ (l2.length : Int) := of_decide_eq_true zA; omega)] <;> rfl) | rfl | (simp only [List.length_drop, List.length_take]; rfl)) ?_
                                     with_reducible refine (spec_l1Own.calls _ _ (l2.take (x8_1 : Int).toNat) t296 _ ?side1 ?side2 A17.out).mono ?_
                                     (case side1 => exact zC (Kd.C_below HR295.out HB.out))
                                     (case side2 => exact HC295.out)
                                     rintro e w40 ⟨v297, rfl, ho0, hb⟩
                                     refine ⟨_, rfl, ?_⟩
                                     have HO298 := zM (Kd.R_lower ho0 (below_size zB))
                                     replace HB := zM (below_step zB hb)
                                     (try clear hb)
                                     (try clear hb2)
                                     (try clear hk)
                                     (try clear hi)
                                     (try clear ho0)
                                     refine hK.out _ _ trivial (fun hHeld => ?_)
                                     clear hK K
                                     refine zn 40 ?_
                                     refine one_ (i := 11) (N := some 45) #[true, true, true, true, true, true, true, true, true, true, true, true, false, false] rfl rfl (one_of HT_.out (by kernel_rfl)) (by decide) (fun K hK => ?_)
                                     refine Kd.R_append_rows_step (Kd.int .i64) (w0 := w) w.heap.size (by rfl) (.tmp 40) (.tmp 44) 25 3 (.int .i64 0) 8 rfl Try.underlying25 info3 rfl (by decide) (by omega) v297 t296 (l2.drop ((ji18) : Int).toNat) _ _ _ (fun _ => True) (fun _ => False) rfl rfl ?aO ?aR (fun _ _ h => h) (fun _ h => h.elim) ?aF ?aB ?aS ?aL ?_
                                     (case aR => first | (have hq_ := Kd.C_below HR299.out HB.out; rw [show (l2.drop ((ji18) : Int).toNat).length = (l2.length - (ji18).toNat) from List.length_drop] at hq_; repeat (first | exact hq_ | (with_reducible refine Kd.C_alloc ?_ _) | (with_reducible refine Kd.C_drewN ?_ _) | (with_reducible refine Kd.C_drew ?_)); done) | (rw [← show (l2.drop ((ji18) : Int).toNat).length = (l2.length - (ji18).toNat) from List.length_drop]; repeat (first | exact (Kd.C_below HR299.out HB.out) | (with_reducible refine Kd.C_alloc ?_ _) | (with_reducible refine Kd.C_drewN ?_ _) | (with_reducible refine Kd.C_drew ?_))) | (repeat (first | exact (Kd.C_below HR299.out HB.out) | (with_reducible refine Kd.C_alloc ?_ _) | (with_reducible refine Kd.C_drewN ?_ _) | (with_reducible refine Kd.C_drew ?_))))
                                     (case aB => exact zB)
                                     (case aF => exact (fun _ _ => trivial))
                                     (case aO => exact (zR HO298.out))
                                     (case aS => exact (below_size zB))
                                     (case aL => have := LMc21.out; have hlx_ := (show (l2.drop ((ji18) : Int).toNat).length = (l2.length - (ji18).toNat) from List.length_drop); omega)
                                     intro v301 w41 ho hb hg hat
                                     rw [← Ny300.out] at ho
                                     replace HB := zM (hb)
                                     have HO302 := zM (ho)
                                     clear HO298
                                     clear ho hb hg hat
                                     obtain ⟨Ao42, co42, eo42⟩ := Kd.R_slice HO302.out
                                     (first | subst eo42 | (injection eo42 with f1_ f2_ f3_; have f4_ := f1_.symm; have f5_ := f3_.symm; clear f1_ f2_ f3_; subst f4_; subst f5_))
                                     refine hK.out _ _ trivial (fun hHeld => ?_)
                                     clear hK K
                                     refine zn 45 ?_
                                     refine one_ (i := 12) (N := some 46) #[true, true, true, true, true, true, true, true, true, true, true, true, true, false] rfl rfl (one_of HT_.out (by kernel_rfl)) (by decide) (fun K hK => ?_)
                                     refine goes_ Try.func14 (by kernel_rfl) rfl #[.slice (some ad291) l0.length c0, .slice A37 (l1.drop 1).length (c1 - 1), .slice Ao42 y300.length co42] (by rfl) rfl rfl (by (try simp only [List.map_toArray, List.map_cons, List.map_nil]); first | done | (rw [show (l1.drop 1).length = (l1.length - 1) from List.length_drop] <;> rfl) | rfl | (simp only [List.length_drop, List.length_take]; rfl)) ?_
                                     with_reducible refine (ih k1 (by have := HK1.out; omega) _ _ l0 _ _ (l1.drop 1) _ _ y300 t303 _ ?side1 ?side2 ?side3 ?side4 ?side5 ?side6 A22.out).mono ?_
                                     (case side1 => exact zC (Kd.C_below HR0.out HB.out))
                                     (case side2 => exact HC0.out)
                                     (case side3 => exact zC (Kd.C_below HR294.out HB.out))
                                     (case side4 => exact HC294.out)
                                     (case side5 => exact zC (Kd.R_reads' HO302.out).2.2)
                                     (case side6 => exact (Kd.R_reads' HO302.out).2.1)
                                     rintro e w43 ⟨rfl, hb⟩
                                     refine ⟨_, rfl, ?_⟩
                                     replace HO302 := zM (Kd.R_below (zR HO302.out) hb)
                                     replace HB := zM (below_step zB hb)
                                     (try clear hb)
                                     (try clear hb2)
                                     (try clear hk)
                                     (try clear hi)
                                     refine hK.out _ _ trivial (fun hHeld => ?_)
                                     clear hK K
                                     refine zn 46 ?_
                                     refine zp HT_ 13 10 ?_
                                     refine zo HT_ ?_
                                     try go_wp2
                                     go_roundg k1
                                     case measure => have := HK1.out; omega
                                     case rel => exact ⟨(wrap64 ((rd (rd_L4 l0 (rd l1 0)) (rd l2 x8_1)) + t303)), (ji18), (by first | rfl | (simp; done) | (simp [*]; done)), (by first | rfl | (simp; done) | (simp only [← hji18] <;> (first | rfl | simp)) | (simp [*]; done)), H', ⟨by have := HK1.out; omega⟩, ⟨zB⟩⟩
                                   · rw [if_neg c34] at H
                                     have c34b0 : decide ((wrap64 ((rd (rd_L4 l0 (rd l1 0)) (rd l2 x8_1)) + t303)) < x7_1) = false := decide_eq_false c34
                                     clear c34
                                     have H' := Aside0.mk H
                                     clear H
                                     try go_wp2
                                     replace HB := zM (below_drew1 HB.out)
                                     have p290 : 0 ≤ (0 : Int) := (by omega)
                                     have q290 : 0 < (l1.length : Int) := of_decide_eq_true zA
                                     obtain ⟨ad290, e290, hx290_0⟩ := Kd.at_int HR1.out 0 p290 q290
                                     have hw290_0 := hx290_0
                                     (try rw [show ((0 : Int)).toNat = 0 from rfl] at hw290_0)
                                     (try rw [show 0 * 1 = 0 from rfl] at hw290_0)
                                     (try rw [Addr.add_zero'] at hw290_0)
                                     cases e290
                                     have qi290 : (0 < l1.length) = True := eq_true (by omega)
                                     (try rw [show ((0 : Int)).toNat = 0 from rfl] at hx290_0)
                                     (try rw [Addr.add_zero'] at hx290_0)
                                     (try replace hx290_0 := (HB.out.cell (World.block_lt_of_cell? w _ hx290_0)).trans hx290_0)
                                     replace p290 := eq_true p290
                                     replace q290 := eq_true q290
                                     have p291 : 0 ≤ ((rd l1 0) : Int) := of_decide_eq_true zA
                                     have q291 : (rd l1 0) < (l0.length : Int) := of_decide_eq_true zA
                                     obtain ⟨ad291, A291_0, c291_0, e291, hx291_0, hl291_0, hi291_0⟩ := at_L4 HR0.out (rd l1 0) p291 q291
                                     have hw291_0 := hx291_0
                                     cases e291
                                     (try replace hx291_0 := (HB.out.cell (World.block_lt_of_cell? w _ hx291_0)).trans hx291_0)
                                     have HR291_0 := Aside0.mk hi291_0
                                     have HC291_0 := Aside0.mk hl291_0
                                     clear hi291_0 hl291_0
                                     replace p291 := eq_true p291
                                     replace q291 := eq_true q291
                                     have p292 : 0 ≤ (x8_1 : Int) := of_decide_eq_true zA
                                     have q292 : x8_1 < (l2.length : Int) := of_decide_eq_true zA
                                     obtain ⟨ad292, e292, hx292_0⟩ := Kd.at_int HR2.out x8_1 p292 q292
                                     have hw292_0 := hx292_0
                                     cases e292
                                     (try replace hx292_0 := (HB.out.cell (World.block_lt_of_cell? w _ hx292_0)).trans hx292_0)
                                     replace p292 := eq_true p292
                                     replace q292 := eq_true q292
                                     have p293 : 0 ≤ ((rd l2 x8_1) : Int) := of_decide_eq_true zA
                                     have q293 : (rd l2 x8_1) < ((rd_L4 l0 (rd l1 0)).length : Int) := of_decide_eq_true zA
                                     obtain ⟨ad293, e293, hx293_0⟩ := Kd.at_int HR291_0.out (rd l2 x8_1) p293 q293
                                     have hw293_0 := hx293_0
                                     cases e293
                                     (try replace hx293_0 := (HB.out.cell (World.block_lt_of_cell? w _ hx293_0)).trans hx293_0)
                                     replace p293 := eq_true p293
                                     replace q293 := eq_true q293
                                     refine zs (n := 13) (fun w' => w'.cell? ad290 = some (.int .i64 (rd l1 0)) ∧ w'.cell? (ad291.add ((rd l1 0)).toNat) = some (.slice (some ad293) (rd_L4 l0 (rd l1 0)).length c291_0) ∧ w'.cell? (ad292.add (x8_1).toNat) = some (.int .i64 (rd l2 x8_1)) ∧ w'.cell? (ad293.add ((rd l2 x8_1)).toNat) = some (.int .i64 (rd (rd_L4 l0 (rd l1 0)) (rd l2 x8_1)))) ⟨((HB.out.cell (World.block_lt_of_cell? w _ hw290_0)).trans hw290_0), ((HB.out.cell (World.block_lt_of_cell? w _ hw291_0)).trans hw291_0), ((HB.out.cell (World.block_lt_of_cell? w _ hw292_0)).trans hw292_0), ((HB.out.cell (World.block_lt_of_cell? w _ hw293_0)).trans hw293_0)⟩ (fun hHeld => ?_); refine with_tabW spec_l3Match.tab7 spec_l3Match.bits7 (fun HT_ HW_ => ?_)
                                     generalize wr.drew = w44 at HB HR291_0 hx290_0 hx291_0 hx292_0 hx293_0 hHeld ⊢
                                     refine zp HT_ 0 20 ?_
                                     refine zp HT_ 1 21 ?_
                                     refine zp HT_ 2 22 ?_
                                     refine zp HT_ 6 26 ?_
                                     refine zp HT_ 7 27 ?_
                                     refine zp HT_ 8 28 ?_
                                     refine zt HT_ HW_ 3 23 hHeld ?_ (hy := by rintro w' ⟨s0, s1, s2, s3⟩; go_simp; with_reducible rfl)
                                     refine zp HT_ 4 24 ?_
                                     refine zt HT_ HW_ 5 25 hHeld ?_ (hy := by rintro w' ⟨s0, s1, s2, s3⟩; go_simp; with_reducible rfl)
                                     refine zt HT_ HW_ 9 29 hHeld ?_ (hy := by rintro w' ⟨s0, s1, s2, s3⟩; go_simp; with_reducible rfl)
                                     refine zp HT_ 10 30 ?_
                                     refine zt HT_ HW_ 11 31 hHeld ?_ (hy := by rintro w' ⟨s0, s1, s2, s3⟩; go_simp; with_reducible rfl)
                                     refine zp HT_ 12 9 ?_
                                     refine zo HT_ ?_
                                     try go_wp2
                                     replace HB := zM (below_drew1 HB.out)
                                     obtain ⟨i046, hi046, _, hsz46, _⟩ := info_parts info3
                                     obtain ⟨A46, hcut46, hA46, hC46⟩ := print_drop_of (P := Try.prog) (Value.int .i64) 0 25 3 .i64 Try.underlying25 hi046 hsz46 (some ad290) c1 l1 1 (by omega) (of_decide_eq_true zA) HC1.out
                                     have HR294 := zM (Kd.C_of_reads (h1 := fun _ => rfl) (hA46 _ (Kd.reads_of_C HR1.out)))
                                     have HC294 := Aside0.mk hC46
                                     clear hA46 hC46 hi046 hsz46
                                     obtain ⟨i047, hi047, _, hsz47, _⟩ := info_parts info3
                                     obtain ⟨hcut47, hA47, hC47⟩ := print_take_of (P := Try.prog) (Value.int .i64) 0 25 3 .i64 Try.underlying25 hi047 hsz47 (some ad292) c2 l2 x8_1 (of_decide_eq_true zA) (of_decide_eq_true zA) HC2.out
                                     have HR295 := zM (Kd.C_of_reads (h1 := fun _ => rfl) (hA47 _ (Kd.reads_of_C HR2.out)))
                                     have HC295 := Aside0.mk hC47
                                     clear hA47 hC47 hi047 hsz47
                                     obtain ⟨i048, hi048, _, hsz48, _⟩ := info_parts info3
                                     obtain ⟨A48, hcut48, hA48, hC48⟩ := print_drop_of (P := Try.prog) (Value.int .i64) 0 25 3 .i64 Try.underlying25 hi048 hsz48 (some ad292) c2 l2 (ji18) (of_decide_eq_true zA) (of_decide_eq_true zA) HC2.out
                                     have HR299 := zM (Kd.C_of_reads (h1 := fun _ => rfl) (hA48 _ (Kd.reads_of_C HR2.out)))
                                     have HC299 := Aside0.mk hC48
                                     clear hA48 hC48 hi048 hsz48
                                     refine zs (n := 14) (fun w' => True) trivial (fun hHeld => ?_); refine with_tabW spec_l3Match.tab9 spec_l3Match.bits9 (fun HT_ HW_ => ?_)
                                     generalize w44.drew = w45 at HB HR294 HR295 HR299 hHeld ⊢
                                     refine zp HT_ 0 34 ?_
                                     refine zp HT_ 1 35 ?_
                                     refine zp HT_ 2 36 ?_
                                     refine zp HT_ 3 37 ?_
                                     refine zp HT_ 4 38 ?_
                                     refine zp HT_ 5 39 ?_
                                     refine zp HT_ 7 41 ?_
                                     refine zp HT_ 8 42 ?_
                                     refine zp HT_ 9 43 ?_
                                     refine zp HT_ 10 44 ?_
                                     refine one_ (i := 6) (N := some 40) #[true, true, true, true, true, true, true, true, true, true, true, false, false, false] rfl rfl (one_of HT_.out (by kernel_rfl)) (by decide) (fun K hK => ?_)
                                     refine goes_ Try.func27 (by kernel_rfl) rfl #[.slice (some ad292) (l2.take (x8_1 : Int).toNat).length c2] (by rfl) rfl rfl (by (try simp only [List.map_toArray, List.map_cons, List.map_nil]); first | done | (rw [show (l2.take (x8_1 : Int).toNat).length = x8_1.toNat from (by rw [List.length_take]; have h_ : (x8_1 : Int) ≤ (l2.length : Int) := of_decide_eq_true zA; omega)] <;> rfl) | rfl | (simp only [List.length_drop, List.length_take]; rfl)) ?_
                                     with_reducible refine (spec_l1Own.calls _ _ (l2.take (x8_1 : Int).toNat) t296 _ ?side1 ?side2 A17.out).mono ?_
                                     (case side1 => exact zC (Kd.C_below HR295.out HB.out))
                                     (case side2 => exact HC295.out)
                                     rintro e w49 ⟨v297, rfl, ho0, hb⟩
                                     refine ⟨_, rfl, ?_⟩
                                     have HO298 := zM (Kd.R_lower ho0 (below_size zB))
                                     replace HB := zM (below_step zB hb)
                                     (try clear hb)
                                     (try clear hb2)
                                     (try clear hk)
                                     (try clear hi)
                                     (try clear ho0)
                                     refine hK.out _ _ trivial (fun hHeld => ?_)
                                     clear hK K
                                     refine zn 40 ?_
                                     refine one_ (i := 11) (N := some 45) #[true, true, true, true, true, true, true, true, true, true, true, true, false, false] rfl rfl (one_of HT_.out (by kernel_rfl)) (by decide) (fun K hK => ?_)
                                     refine Kd.R_append_rows_step (Kd.int .i64) (w0 := w) w.heap.size (by rfl) (.tmp 40) (.tmp 44) 25 3 (.int .i64 0) 8 rfl Try.underlying25 info3 rfl (by decide) (by omega) v297 t296 (l2.drop ((ji18) : Int).toNat) _ _ _ (fun _ => True) (fun _ => False) rfl rfl ?aO ?aR (fun _ _ h => h) (fun _ h => h.elim) ?aF ?aB ?aS ?aL ?_
                                     (case aR => first | (have hq_ := Kd.C_below HR299.out HB.out; rw [show (l2.drop ((ji18) : Int).toNat).length = (l2.length - (ji18).toNat) from List.length_drop] at hq_; repeat (first | exact hq_ | (with_reducible refine Kd.C_alloc ?_ _) | (with_reducible refine Kd.C_drewN ?_ _) | (with_reducible refine Kd.C_drew ?_)); done) | (rw [← show (l2.drop ((ji18) : Int).toNat).length = (l2.length - (ji18).toNat) from List.length_drop]; repeat (first | exact (Kd.C_below HR299.out HB.out) | (with_reducible refine Kd.C_alloc ?_ _) | (with_reducible refine Kd.C_drewN ?_ _) | (with_reducible refine Kd.C_drew ?_))) | (repeat (first | exact (Kd.C_below HR299.out HB.out) | (with_reducible refine Kd.C_alloc ?_ _) | (with_reducible refine Kd.C_drewN ?_ _) | (with_reducible refine Kd.C_drew ?_))))
                                     (case aB => exact zB)
                                     (case aF => exact (fun _ _ => trivial))
                                     (case aO => exact (zR HO298.out))
                                     (case aS => exact (below_size zB))
                                     (case aL => have := LMc21.out; have hlx_ := (show (l2.drop ((ji18) : Int).toNat).length = (l2.length - (ji18).toNat) from List.length_drop); omega)
                                     intro v301 w50 ho hb hg hat
                                     rw [← Ny300.out] at ho
                                     replace HB := zM (hb)
                                     have HO302 := zM (ho)
                                     clear HO298
                                     clear ho hb hg hat
                                     obtain ⟨Ao51, co51, eo51⟩ := Kd.R_slice HO302.out
                                     (first | subst eo51 | (injection eo51 with f1_ f2_ f3_; have f4_ := f1_.symm; have f5_ := f3_.symm; clear f1_ f2_ f3_; subst f4_; subst f5_))
                                     refine hK.out _ _ trivial (fun hHeld => ?_)
                                     clear hK K
                                     refine zn 45 ?_
                                     refine one_ (i := 12) (N := some 46) #[true, true, true, true, true, true, true, true, true, true, true, true, true, false] rfl rfl (one_of HT_.out (by kernel_rfl)) (by decide) (fun K hK => ?_)
                                     refine goes_ Try.func14 (by kernel_rfl) rfl #[.slice (some ad291) l0.length c0, .slice A46 (l1.drop 1).length (c1 - 1), .slice Ao51 y300.length co51] (by rfl) rfl rfl (by (try simp only [List.map_toArray, List.map_cons, List.map_nil]); first | done | (rw [show (l1.drop 1).length = (l1.length - 1) from List.length_drop] <;> rfl) | rfl | (simp only [List.length_drop, List.length_take]; rfl)) ?_
                                     with_reducible refine (ih k1 (by have := HK1.out; omega) _ _ l0 _ _ (l1.drop 1) _ _ y300 t303 _ ?side1 ?side2 ?side3 ?side4 ?side5 ?side6 A22.out).mono ?_
                                     (case side1 => exact zC (Kd.C_below HR0.out HB.out))
                                     (case side2 => exact HC0.out)
                                     (case side3 => exact zC (Kd.C_below HR294.out HB.out))
                                     (case side4 => exact HC294.out)
                                     (case side5 => exact zC (Kd.R_reads' HO302.out).2.2)
                                     (case side6 => exact (Kd.R_reads' HO302.out).2.1)
                                     rintro e w52 ⟨rfl, hb⟩
                                     refine ⟨_, rfl, ?_⟩
                                     replace HO302 := zM (Kd.R_below (zR HO302.out) hb)
                                     replace HB := zM (below_step zB hb)
                                     (try clear hb)
                                     (try clear hb2)
                                     (try clear hk)
                                     (try clear hi)
                                     refine hK.out _ _ trivial (fun hHeld => ?_)
                                     clear hK K
                                     refine zn 46 ?_
                                     refine zp HT_ 13 10 ?_
                                     refine zo HT_ ?_
                                     try go_wp2
                                     go_roundg k1
                                     case measure => have := HK1.out; omega
                                     case rel => exact ⟨(x7_1), (ji18), (by first | rfl | (simp; done) | (simp [*]; done)), (by first | rfl | (simp; done) | (simp only [← hji18] <;> (first | rfl | simp)) | (simp [*]; done)), H', ⟨by have := HK1.out; omega⟩, ⟨zB⟩⟩
                               · rw [if_neg c23] at H
                                 have c23b0 : decide (0 ≤ t303) = false := decide_eq_false c23
                                 clear c23
                                 have H' := Aside0.mk H
                                 clear H
                                 try go_wp2
                                 replace HB := zM (below_drew1 HB.out)
                                 have p290 : 0 ≤ (0 : Int) := (by omega)
                                 have q290 : 0 < (l1.length : Int) := of_decide_eq_true zA
                                 obtain ⟨ad290, e290, hx290_0⟩ := Kd.at_int HR1.out 0 p290 q290
                                 have hw290_0 := hx290_0
                                 (try rw [show ((0 : Int)).toNat = 0 from rfl] at hw290_0)
                                 (try rw [show 0 * 1 = 0 from rfl] at hw290_0)
                                 (try rw [Addr.add_zero'] at hw290_0)
                                 cases e290
                                 have qi290 : (0 < l1.length) = True := eq_true (by omega)
                                 (try rw [show ((0 : Int)).toNat = 0 from rfl] at hx290_0)
                                 (try rw [Addr.add_zero'] at hx290_0)
                                 (try replace hx290_0 := (HB.out.cell (World.block_lt_of_cell? w _ hx290_0)).trans hx290_0)
                                 replace p290 := eq_true p290
                                 replace q290 := eq_true q290
                                 have p291 : 0 ≤ ((rd l1 0) : Int) := of_decide_eq_true zA
                                 have q291 : (rd l1 0) < (l0.length : Int) := of_decide_eq_true zA
                                 obtain ⟨ad291, A291_0, c291_0, e291, hx291_0, hl291_0, hi291_0⟩ := at_L4 HR0.out (rd l1 0) p291 q291
                                 have hw291_0 := hx291_0
                                 cases e291
                                 (try replace hx291_0 := (HB.out.cell (World.block_lt_of_cell? w _ hx291_0)).trans hx291_0)
                                 have HR291_0 := Aside0.mk hi291_0
                                 have HC291_0 := Aside0.mk hl291_0
                                 clear hi291_0 hl291_0
                                 replace p291 := eq_true p291
                                 replace q291 := eq_true q291
                                 have p292 : 0 ≤ (x8_1 : Int) := of_decide_eq_true zA
                                 have q292 : x8_1 < (l2.length : Int) := of_decide_eq_true zA
                                 obtain ⟨ad292, e292, hx292_0⟩ := Kd.at_int HR2.out x8_1 p292 q292
                                 have hw292_0 := hx292_0
                                 cases e292
                                 (try replace hx292_0 := (HB.out.cell (World.block_lt_of_cell? w _ hx292_0)).trans hx292_0)
                                 replace p292 := eq_true p292
                                 replace q292 := eq_true q292
                                 have p293 : 0 ≤ ((rd l2 x8_1) : Int) := of_decide_eq_true zA
                                 have q293 : (rd l2 x8_1) < ((rd_L4 l0 (rd l1 0)).length : Int) := of_decide_eq_true zA
                                 obtain ⟨ad293, e293, hx293_0⟩ := Kd.at_int HR291_0.out (rd l2 x8_1) p293 q293
                                 have hw293_0 := hx293_0
                                 cases e293
                                 (try replace hx293_0 := (HB.out.cell (World.block_lt_of_cell? w _ hx293_0)).trans hx293_0)
                                 replace p293 := eq_true p293
                                 replace q293 := eq_true q293
                                 refine zs (n := 13) (fun w' => w'.cell? ad290 = some (.int .i64 (rd l1 0)) ∧ w'.cell? (ad291.add ((rd l1 0)).toNat) = some (.slice (some ad293) (rd_L4 l0 (rd l1 0)).length c291_0) ∧ w'.cell? (ad292.add (x8_1).toNat) = some (.int .i64 (rd l2 x8_1)) ∧ w'.cell? (ad293.add ((rd l2 x8_1)).toNat) = some (.int .i64 (rd (rd_L4 l0 (rd l1 0)) (rd l2 x8_1)))) ⟨((HB.out.cell (World.block_lt_of_cell? w _ hw290_0)).trans hw290_0), ((HB.out.cell (World.block_lt_of_cell? w _ hw291_0)).trans hw291_0), ((HB.out.cell (World.block_lt_of_cell? w _ hw292_0)).trans hw292_0), ((HB.out.cell (World.block_lt_of_cell? w _ hw293_0)).trans hw293_0)⟩ (fun hHeld => ?_); refine with_tabW spec_l3Match.tab7 spec_l3Match.bits7 (fun HT_ HW_ => ?_)
                                 generalize wr.drew = w53 at HB HR291_0 hx290_0 hx291_0 hx292_0 hx293_0 hHeld ⊢
                                 refine zp HT_ 0 20 ?_
                                 refine zp HT_ 1 21 ?_
                                 refine zp HT_ 2 22 ?_
                                 refine zp HT_ 6 26 ?_
                                 refine zp HT_ 7 27 ?_
                                 refine zp HT_ 8 28 ?_
                                 refine zt HT_ HW_ 3 23 hHeld ?_ (hy := by rintro w' ⟨s0, s1, s2, s3⟩; go_simp; with_reducible rfl)
                                 refine zp HT_ 4 24 ?_
                                 refine zt HT_ HW_ 5 25 hHeld ?_ (hy := by rintro w' ⟨s0, s1, s2, s3⟩; go_simp; with_reducible rfl)
                                 refine zt HT_ HW_ 9 29 hHeld ?_ (hy := by rintro w' ⟨s0, s1, s2, s3⟩; go_simp; with_reducible rfl)
                                 refine zp HT_ 10 30 ?_
                                 refine zt HT_ HW_ 11 31 hHeld ?_ (hy := by rintro w' ⟨s0, s1, s2, s3⟩; go_simp; with_reducible rfl)
                                 refine zp HT_ 12 9 ?_
                                 refine zo HT_ ?_
                                 try go_wp2
                                 replace HB := zM (below_drew1 HB.out)
                                 obtain ⟨i055, hi055, _, hsz55, _⟩ := info_parts info3
                                 obtain ⟨A55, hcut55, hA55, hC55⟩ := print_drop_of (P := Try.prog) (Value.int .i64) 0 25 3 .i64 Try.underlying25 hi055 hsz55 (some ad290) c1 l1 1 (by omega) (of_decide_eq_true zA) HC1.out
                                 have HR294 := zM (Kd.C_of_reads (h1 := fun _ => rfl) (hA55 _ (Kd.reads_of_C HR1.out)))
                                 have HC294 := Aside0.mk hC55
                                 clear hA55 hC55 hi055 hsz55
                                 obtain ⟨i056, hi056, _, hsz56, _⟩ := info_parts info3
                                 obtain ⟨hcut56, hA56, hC56⟩ := print_take_of (P := Try.prog) (Value.int .i64) 0 25 3 .i64 Try.underlying25 hi056 hsz56 (some ad292) c2 l2 x8_1 (of_decide_eq_true zA) (of_decide_eq_true zA) HC2.out
                                 have HR295 := zM (Kd.C_of_reads (h1 := fun _ => rfl) (hA56 _ (Kd.reads_of_C HR2.out)))
                                 have HC295 := Aside0.mk hC56
                                 clear hA56 hC56 hi056 hsz56
                                 obtain ⟨i057, hi057, _, hsz57, _⟩ := info_parts info3
                                 obtain ⟨A57, hcut57, hA57, hC57⟩ := print_drop_of (P := Try.prog) (Value.int .i64) 0 25 3 .i64 Try.underlying25 hi057 hsz57 (some ad292) c2 l2 (ji18) (of_decide_eq_true zA) (of_decide_eq_true zA) HC2.out
                                 have HR299 := zM (Kd.C_of_reads (h1 := fun _ => rfl) (hA57 _ (Kd.reads_of_C HR2.out)))
                                 have HC299 := Aside0.mk hC57
                                 clear hA57 hC57 hi057 hsz57
                                 refine zs (n := 14) (fun w' => True) trivial (fun hHeld => ?_); refine with_tabW spec_l3Match.tab9 spec_l3Match.bits9 (fun HT_ HW_ => ?_)
                                 generalize w53.drew = w54 at HB HR294 HR295 HR299 hHeld ⊢
                                 refine zp HT_ 0 34 ?_
                                 refine zp HT_ 1 35 ?_
                                 refine zp HT_ 2 36 ?_
                                 refine zp HT_ 3 37 ?_
                                 refine zp HT_ 4 38 ?_
                                 refine zp HT_ 5 39 ?_
                                 refine zp HT_ 7 41 ?_
                                 refine zp HT_ 8 42 ?_
                                 refine zp HT_ 9 43 ?_
                                 refine zp HT_ 10 44 ?_
                                 refine one_ (i := 6) (N := some 40) #[true, true, true, true, true, true, true, true, true, true, true, false, false, false] rfl rfl (one_of HT_.out (by kernel_rfl)) (by decide) (fun K hK => ?_)
                                 refine goes_ Try.func27 (by kernel_rfl) rfl #[.slice (some ad292) (l2.take (x8_1 : Int).toNat).length c2] (by rfl) rfl rfl (by (try simp only [List.map_toArray, List.map_cons, List.map_nil]); first | done | (rw [show (l2.take (x8_1 : Int).toNat).length = x8_1.toNat from (by rw [List.length_take]; have h_ : (x8_1 : Int) ≤ (l2.length : Int) := of_decide_eq_true zA; omega)] <;> rfl) | rfl | (simp only [List.length_drop, List.length_take]; rfl)) ?_
                                 with_reducible refine (spec_l1Own.calls _ _ (l2.take (x8_1 : Int).toNat) t296 _ ?side1 ?side2 A17.out).mono ?_
                                 (case side1 => exact zC (Kd.C_below HR295.out HB.out))
                                 (case side2 => exact HC295.out)
                                 rintro e w58 ⟨v297, rfl, ho0, hb⟩
                                 refine ⟨_, rfl, ?_⟩
                                 have HO298 := zM (Kd.R_lower ho0 (below_size zB))
                                 replace HB := zM (below_step zB hb)
                                 (try clear hb)
                                 (try clear hb2)
                                 (try clear hk)
                                 (try clear hi)
                                 (try clear ho0)
                                 refine hK.out _ _ trivial (fun hHeld => ?_)
                                 clear hK K
                                 refine zn 40 ?_
                                 refine one_ (i := 11) (N := some 45) #[true, true, true, true, true, true, true, true, true, true, true, true, false, false] rfl rfl (one_of HT_.out (by kernel_rfl)) (by decide) (fun K hK => ?_)
                                 refine Kd.R_append_rows_step (Kd.int .i64) (w0 := w) w.heap.size (by rfl) (.tmp 40) (.tmp 44) 25 3 (.int .i64 0) 8 rfl Try.underlying25 info3 rfl (by decide) (by omega) v297 t296 (l2.drop ((ji18) : Int).toNat) _ _ _ (fun _ => True) (fun _ => False) rfl rfl ?aO ?aR (fun _ _ h => h) (fun _ h => h.elim) ?aF ?aB ?aS ?aL ?_
                                 (case aR => first | (have hq_ := Kd.C_below HR299.out HB.out; rw [show (l2.drop ((ji18) : Int).toNat).length = (l2.length - (ji18).toNat) from List.length_drop] at hq_; repeat (first | exact hq_ | (with_reducible refine Kd.C_alloc ?_ _) | (with_reducible refine Kd.C_drewN ?_ _) | (with_reducible refine Kd.C_drew ?_)); done) | (rw [← show (l2.drop ((ji18) : Int).toNat).length = (l2.length - (ji18).toNat) from List.length_drop]; repeat (first | exact (Kd.C_below HR299.out HB.out) | (with_reducible refine Kd.C_alloc ?_ _) | (with_reducible refine Kd.C_drewN ?_ _) | (with_reducible refine Kd.C_drew ?_))) | (repeat (first | exact (Kd.C_below HR299.out HB.out) | (with_reducible refine Kd.C_alloc ?_ _) | (with_reducible refine Kd.C_drewN ?_ _) | (with_reducible refine Kd.C_drew ?_))))
                                 (case aB => exact zB)
                                 (case aF => exact (fun _ _ => trivial))
                                 (case aO => exact (zR HO298.out))
                                 (case aS => exact (below_size zB))
                                 (case aL => have := LMc21.out; have hlx_ := (show (l2.drop ((ji18) : Int).toNat).length = (l2.length - (ji18).toNat) from List.length_drop); omega)
                                 intro v301 w59 ho hb hg hat
                                 rw [← Ny300.out] at ho
                                 replace HB := zM (hb)
                                 have HO302 := zM (ho)
                                 clear HO298
                                 clear ho hb hg hat
                                 obtain ⟨Ao60, co60, eo60⟩ := Kd.R_slice HO302.out
                                 (first | subst eo60 | (injection eo60 with f1_ f2_ f3_; have f4_ := f1_.symm; have f5_ := f3_.symm; clear f1_ f2_ f3_; subst f4_; subst f5_))
                                 refine hK.out _ _ trivial (fun hHeld => ?_)
                                 clear hK K
                                 refine zn 45 ?_
                                 refine one_ (i := 12) (N := some 46) #[true, true, true, true, true, true, true, true, true, true, true, true, true, false] rfl rfl (one_of HT_.out (by kernel_rfl)) (by decide) (fun K hK => ?_)
                                 refine goes_ Try.func14 (by kernel_rfl) rfl #[.slice (some ad291) l0.length c0, .slice A55 (l1.drop 1).length (c1 - 1), .slice Ao60 y300.length co60] (by rfl) rfl rfl (by (try simp only [List.map_toArray, List.map_cons, List.map_nil]); first | done | (rw [show (l1.drop 1).length = (l1.length - 1) from List.length_drop] <;> rfl) | rfl | (simp only [List.length_drop, List.length_take]; rfl)) ?_
                                 with_reducible refine (ih k1 (by have := HK1.out; omega) _ _ l0 _ _ (l1.drop 1) _ _ y300 t303 _ ?side1 ?side2 ?side3 ?side4 ?side5 ?side6 A22.out).mono ?_
                                 (case side1 => exact zC (Kd.C_below HR0.out HB.out))
                                 (case side2 => exact HC0.out)
                                 (case side3 => exact zC (Kd.C_below HR294.out HB.out))
                                 (case side4 => exact HC294.out)
                                 (case side5 => exact zC (Kd.R_reads' HO302.out).2.2)
                                 (case side6 => exact (Kd.R_reads' HO302.out).2.1)
                                 rintro e w61 ⟨rfl, hb⟩
                                 refine ⟨_, rfl, ?_⟩
                                 replace HO302 := zM (Kd.R_below (zR HO302.out) hb)
                                 replace HB := zM (below_step zB hb)
                                 (try clear hb)
                                 (try clear hb2)
                                 (try clear hk)
                                 (try clear hi)
                                 refine hK.out _ _ trivial (fun hHeld => ?_)
                                 clear hK K
                                 refine zn 46 ?_
                                 refine zp HT_ 13 10 ?_
                                 refine zo HT_ ?_
                                 try go_wp2
                                 go_roundg k1
                                 case measure => have := HK1.out; omega
                                 case rel => exact ⟨(x7_1), (ji18), (by first | rfl | (simp; done) | (simp [*]; done)), (by first | rfl | (simp; done) | (simp only [← hji18] <;> (first | rfl | simp)) | (simp [*]; done)), H', ⟨by have := HK1.out; omega⟩, ⟨zB⟩⟩
                             · rw [if_neg c21] at H
                               exact absurd H (by simp)
                           · rw [if_neg c20] at H
                             exact absurd H (by simp)
                         · rw [if_neg c19] at H
                           exact absurd H (by simp)
                       · rw [if_neg c16] at H
                         exact absurd H (by simp)
                     · rw [if_neg c14] at H
                       exact absurd H (by simp)
                 · rw [if_neg c11] at H
                   exact absurd H (by simp)
               · rw [if_neg c10] at H
                 exact absurd H (by simp)
             · rw [if_neg c9] at H
               exact absurd H (by simp)
           · rw [if_neg c8] at H
             exact absurd H (by simp)
         · rw [if_neg c7] at H
           exact absurd H (by simp)
       · rw [if_neg c6] at H
         exact absurd H (by simp)
     · rw [if_neg c5] at H
       have c5b0 : decide (x8_1 < (l2.length : Int)) = false := decide_eq_false c5
       clear c5
       obtain rfl := Option.some.inj H
       go_wp2
       go_ret
       exact ⟨by first | rfl | (simp [errW_none, errW_some] <;> rfl) | (simp [*, errW_none, errW_some] <;> rfl), zB⟩

end Go.Proofs.Ytnjadmgnnbamhaa.P
