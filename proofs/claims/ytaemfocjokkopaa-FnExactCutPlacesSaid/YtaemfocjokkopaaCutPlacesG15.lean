-- Written by a program of this session (the kit's print, turned: wip/print/patch.py) out of the translation. Not trusted: Lean checks it.
import Derived.Test.YtaemfocjokkopaaCutPlacesG5
import Derived.Test.YtaemfocjokkopaaCutPlacesG10
import Derived.Test.YtaemfocjokkopaaCutPlacesG12
import Derived.Test.YtaemfocjokkopaaCutPlacesG13
import Derived.Test.YtaemfocjokkopaaCutPlacesG14
namespace Go.Proofs.Ytaemfocjokkopaa.P
open Go.RowKit Go.Proofs.YtaemfocjokkopaaW.PrintWords Go.Proofs.YtaemfocjokkopaaW.PrintLast Go.Proofs.YtaemfocjokkopaaW.PrintMore
attribute [local go_sem] max2_int min2_int max_two min_two max_three min_three max_four min_four   -- for this text's walks alone
set_option linter.unusedVariables false
set_option linter.unusedSimpArgs false

/-! ### spec_CutPlaces: function 5 -/
mutual
def spec_CutPlaces.l0 : Nat → List Int → List (List Int) → Int → List (List Int) → List (S54) → Option (List Int × Bool)
 | 0, _, _, _, _, _ => none
 | k + 1, x4, x5, x6, x330000, x330001 => if x6 < (x5.length : Int) then (spec_CutPlaces.l1 k x4 x5 x6 0 x330000 x330001) else (some (x4, true))
def spec_CutPlaces.l1 : Nat → List Int → List (List Int) → Int → Int → List (List Int) → List (S54) → Option (List Int × Bool)
 | 0, _, _, _, _, _, _ => none
 | k + 1, x4, x5, x6, x7, x330000, x330001 => if 0 ≤ x6 then (if x6 < (x5.length : Int) then (if x7 < ((rd_L1 x5 x6).length : Int) then (if 0 ≤ x7 then (if x7 ≤ ((rd_L1 x5 x6).length : Int) then ((spec_l1Own.f ((rd_L1 x5 x6).take (x7 : Int).toNat)).bind fun t343 => (if 0 ≤ (wrap64 (x7 + 1)) then (if (wrap64 (x7 + 1)) ≤ ((rd_L1 x5 x6).length : Int) then ((some ((rd_L1 x5 x6).drop ((wrap64 (x7 + 1)) : Int).toNat : List Int)).bind fun y347 => (if t343.length + y347.length < 17592186044416 then ((spec_l2Induced.f k x330000 x330001 (t343 ++ y347)).bind fun bt354 => ((spec_l2Parts.f k bt354.1 bt354.2).bind fun t360 => (if (t360.length : Int) > 1 then ((spec_l1Put.f k x4 (rd (rd_L1 x5 x6) x7)).bind fun t365 => (spec_CutPlaces.l1 k t365 x5 x6 (wrap64 (x7 + 1)) x330000 x330001)) else (spec_CutPlaces.l1 k x4 x5 x6 (wrap64 (x7 + 1)) x330000 x330001)))) else (none))) else (none)) else (none))) else (none)) else (none)) else (spec_CutPlaces.l0 k x4 x5 (wrap64 (x6 + 1)) x330000 x330001)) else (none)) else (none)
end
def spec_CutPlaces.f (k : Nat) (l0_0 : List (List Int)) (l0_1 : List (S54)) : Option (List Int × Bool) := (some (([] : List Int) : List Int)).bind fun y330 => ((spec_l2Space.f k l0_0 l0_1).bind fun t333 => (if t333 = true then ((spec_l2Parts.f k l0_0 l0_1).bind fun t334 => (spec_CutPlaces.l0 k y330 t334 0 l0_0 l0_1)) else (some (y330, false))))
def spec_CutPlaces.T11 : Bool × List (List Nat × List Nat) := (true, [([], []), ([], []), ([0, 1], [0, 1]), ([2], [2]), ([], []), ([3, 4], [3, 4]), ([5], [5]), ([], []), ([], []), ([7, 8], [7, 8]), ([9], [9]), ([], []), ([11], [11]), ([10, 12], [10, 12]), ([6, 13, 6], [6, 13]), ([14, 14, 0, 1, 2, 3, 4, 5, 6, 7, 8, 9, 10, 11, 12, 13, 14], [14])])
def spec_CutPlaces.B11 : List Nat := [0, 0, 3, 7, 0, 31, 63, 0, 0, 384, 896, 0, 2048, 8064, 16383, 32767]
theorem spec_CutPlaces.tab11 : rtab .any (opsOf Try.f5 11) = spec_CutPlaces.T11 := by kernel_rfl
theorem spec_CutPlaces.bits11 : waitsOk spec_CutPlaces.T11.2 spec_CutPlaces.B11 = true := by kernel_rfl
set_option maxHeartbeats 8000000 in
set_option maxRecDepth 100000 in
theorem spec_CutPlaces.calls (k : Nat) (A0_0 : Option Addr) (c0_0 : Nat) (l0_0 : List (List Int)) (A0_1 : Option Addr) (c0_1 : Nat) (l0_1 : List (S54)) (r1 : List Int) (r2 : Bool) (w : World) (hr0_0 : Kd.C (Kd.slice 3 (Kd.int .i64)) w A0_0 l0_0.length l0_0) (hc0_0 : l0_0.length ≤ c0_0) (hr0_1 : Kd.C k54 w A0_1 l0_1.length l0_1) (hc0_1 : l0_1.length ≤ c0_1) (h : spec_CutPlaces.f k l0_0 l0_1 = some (r1, r2)) :
 Calls Try.prog 5 #[.agg #[.slice A0_0 l0_0.length c0_0, .slice A0_1 l0_1.length c0_1]] w fun e w' => ∃ v0_ : Value, e = .returned (.tuple #[v0_, .bool r2]) ∧ Kd.R (Kd.int .i64) 3 w' w.heap.size (fun _ => True) v0_ r1 ∧ Below w.heap.size w w' := by
 have hu30 := Try.underlying30
 have HR0_0 := Aside0.mk hr0_0
 have HC0_0 := Aside0.mk hc0_0
 clear hr0_0 hc0_0
 have HR0_1 := Aside0.mk hr0_1
 have HC0_1 := Aside0.mk hc0_1
 clear hr0_1 hc0_1
 have HB := zM (Below.refl w.heap.size w)
 have H : ((some (([] : List Int) : List Int)).bind fun y330 => ((spec_l2Space.f k l0_0 l0_1).bind fun t333 => (if t333 = true then ((spec_l2Parts.f k l0_0 l0_1).bind fun t334 => (spec_CutPlaces.l0 k y330 t334 0 l0_0 l0_1)) else (some (y330, false))))) = some (r1, r2) := h
 clear h
 obtain ⟨y330, hy330⟩ : ∃ y_ : List Int, y_ = (([] : List Int)) := ⟨_, rfl⟩
 replace H : ((spec_l2Space.f k l0_0 l0_1).bind fun t333 => (if t333 = true then ((spec_l2Parts.f k l0_0 l0_1).bind fun t334 => (spec_CutPlaces.l0 k y330 t334 0 l0_0 l0_1)) else (some (y330, false)))) = some (r1, r2) := by first | (rw [hy330]; with_reducible exact H) | (have H2_ := (Option.bind_some _ _).symm.trans H; rw [hy330]; with_reducible exact H2_) | (have H2_ := (Option.bind_some _ _).symm.trans H; with_reducible exact H2_) | with_reducible exact H | (rw [hy330]; exact H) | exact H
 have Ny330 := Aside0.mk hy330
 clear hy330
 replace H := Option.bind_eq_some_iff.mp H
 obtain ⟨t333, A20, H⟩ := H
 replace H : (if t333 = true then ((spec_l2Parts.f k l0_0 l0_1).bind fun t334 => (spec_CutPlaces.l0 k y330 t334 0 l0_0 l0_1)) else (some (y330, false))) = some (r1, r2) := H
 have A2 := Aside0.mk A20
 clear A20
 by_cases c3 : t333 = true
 · subst c3
   have H1 : ((spec_l2Parts.f k l0_0 l0_1).bind fun t334 => (spec_CutPlaces.l0 k y330 t334 0 l0_0 l0_1)) = some (r1, r2) := by rw [if_pos rfl] at H; exact H
   clear H
   have H := H1
   clear H1
   replace H := Option.bind_eq_some_iff.mp H
   obtain ⟨t334, A40, H⟩ := H
   replace H : (spec_CutPlaces.l0 k y330 t334 0 l0_0 l0_1) = some (r1, r2) := H
   have A4 := Aside0.mk A40
   clear A40
   have H' := Aside0.mk H
   clear H
   go_enter Try.func5, Try.ntmps5
   go_wp2_with (first | ((with_reducible refine gate_dst (N := 1) rfl ?_); refine zb (w := w) 1 #[.slice A0_0 l0_0.length c0_0, .slice A0_1 l0_1.length c0_1] 30 zB ?_; clear HB; intro gb329 w5 HB BK329 GW329; have GE329 := GW329) | ((with_reducible refine gate_dst (N := 9) rfl ?_); refine Kd.R_lit (Kd.int .i64) _ 3 ?hg (N := 9) ?hd (xs := ([] : List Int)) (inner := []) (ok := fun _ => True) (okp := fun _ => True) ?hr ?hp (fun _ hk => hk) trivial (Below.refl _ _) (Nat.le_refl _) (by simp) ?_; (case hd => rfl); (case hg => rfl); (case hr => first | (go_simp; done) | (go_simp; rfl)); (case hp => exact (Reps.none _ _)); intro v331 w6 ho7 hb hg_ hnew_; clear hg_ hnew_; (first | rw [← Ny330.out] at ho7 | (simp only [Int.reduceToNat] at ho7; rw [← Ny330.out] at ho7)); have HO332 := zM (Kd.R_lower ho7 (below_size zB)); replace BK329 := zM (blk_below (g := gb329) (o := .cells #[.slice A0_0 l0_0.length c0_0, .slice A0_1 l0_1.length c0_1] 30 (0, 0)) (zK BK329.out) hb); replace HB := zM (below_step zB hb); clear hb ho7; have hcz8_0 := zy BK329 0; have hcz8_1 := zy BK329 1; have hfz8_0 := blk_frozen BK329.out 0; have hfz8_1 := blk_frozen BK329.out 1) | ((with_reducible refine gate_callee (f := 15) rfl ?_); refine zc 11 Try.func15 #[.agg #[.slice A0_0 l0_0.length c0_0, .slice A0_1 l0_1.length c0_1]] ?_; (with_reducible refine (spec_l2Space.calls k _ _ l0_0 _ _ l0_1 true _ ?side1 ?side2 ?side3 ?side4 A2.out).mono ?_); (case side1 => exact zC (Kd.C_below HR0_0.out HB.out)); (case side2 => exact HC0_0.out); (case side3 => exact zC (Kd.C_below HR0_1.out HB.out)); (case side4 => exact HC0_1.out); rintro e w9 ⟨rfl, hb⟩; refine ⟨_, rfl, ?_⟩; replace HO332 := zM (Kd.R_below (zR HO332.out) hb); replace BK329 := zM (blk_below (g := gb329) (o := .cells #[.slice A0_0 l0_0.length c0_0, .slice A0_1 l0_1.length c0_1] 30 (0, 0)) (zK BK329.out) hb); replace HB := zM (below_step zB hb); (try clear hb); (try clear hb2); (try clear hk); (try clear hi); have hcz10_0 := zy BK329 0; have hcz10_1 := zy BK329 1; have hfz10_0 := blk_frozen BK329.out 0; have hfz10_1 := blk_frozen BK329.out 1) | ((with_reducible refine gate_callee (f := 16) rfl ?_); refine zc 15 Try.func16 #[.agg #[.slice A0_0 l0_0.length c0_0, .slice A0_1 l0_1.length c0_1]] ?_; (with_reducible refine (spec_l2Parts.calls k _ _ l0_0 _ _ l0_1 t334 _ ?side1 ?side2 ?side3 ?side4 A4.out).mono ?_); (case side1 => exact zC (Kd.C_below HR0_0.out HB.out)); (case side2 => exact HC0_0.out); (case side3 => exact zC (Kd.C_below HR0_1.out HB.out)); (case side4 => exact HC0_1.out); rintro e w11 ⟨v335, rfl, ho0, hb⟩; refine ⟨_, rfl, ?_⟩; have HO336 := zM (Kd.S_lower (Kd.S_new' ho0 (Kd.R_lt (zR HO332.out))) (below_size zB)); replace HO332 := zM (Kd.R_below (zR HO332.out) hb); replace BK329 := zM (blk_below (g := gb329) (o := .cells #[.slice A0_0 l0_0.length c0_0, .slice A0_1 l0_1.length c0_1] 30 (0, 0)) (zK BK329.out) hb); replace HB := zM (below_step zB hb); (try clear hb); (try clear hb2); (try clear hk); (try clear hi); (try clear ho0)))
   go_loopg [4, 6] k (fun kq v4 v6 w' => ∃ (x4_1 : List Int) (x6_1 : Int), v6 = .int .i64 x6_1 ∧ Aside0 (spec_CutPlaces.l0 kq x4_1 t334 x6_1 l0_0 l0_1 = some (r1, r2)) ∧ Aside0 (kq ≤ k) ∧ Aside0 (Kd.R (Kd.int .i64) 3 w' w.heap.size (fun _ => True) v4 x4_1) ∧ Aside0 (Kd.S (Kd.slice 3 (Kd.int .i64)) 27 w' w.heap.size (fun k_ => some k_ ≠ (v4 : Value).ownBlock) v335 t334) ∧ Aside0 (w'.heap[gb329]? = some (.cells #[(.slice A0_0 l0_0.length c0_0), (.slice A0_1 l0_1.length c0_1)] 30 (0, 0))) ∧ Aside0 (Below w.heap.size w w'))
   case atStart => exact ⟨(y330), (0), (by first | rfl | (simp; done) | (simp [*]; done)), H', ⟨Nat.le_refl _⟩, ⟨zR HO332.out⟩, ⟨by (with_reducible repeat (first | apply Kd.S_alloc | apply Kd.S_drewN | apply Kd.S_drew)); exact Kd.S_mono HO336.out (fun _ hk => hk.2)⟩, ⟨zK BK329.out⟩, ⟨zB⟩⟩
   case round =>
    clear H'
    try clear c1
    try clear p2
    try clear c3
    try clear c5
    try clear hcz10_0
    try clear hcz10_1
    try clear hcz8_0
    try clear hcz8_1
    try clear hfz10_0
    try clear hfz10_1
    try clear hfz8_0
    try clear hfz8_1
    obtain ⟨x4_1, x6_1, rfl, HA, HK1, HO_4, HO_5, BK329, HB⟩ := hrel
    cases gk with
    | zero => exact absurd HA.out (by simp [spec_CutPlaces.l0])
    | succ k1 =>
     have H := HA.out
     clear HA
     simp only [spec_CutPlaces.l0] at H
     by_cases c12 : x6_1 < (t334.length : Int)
     · rw [if_pos c12] at H
       have c12b0 := decide_eq_true c12
       clear c12
       have H' := Aside0.mk H
       clear H
       obtain ⟨Ao13, co13, eo13⟩ := Kd.S_slice HO_5.out
       subst eo13
       go_wp2
       go_loopg [4, 7] k1 (fun kq v4 v7 w' => ∃ (x4_2 : List Int) (x7_2 : Int), v7 = .int .i64 x7_2 ∧ Aside0 (spec_CutPlaces.l1 kq x4_2 t334 x6_1 x7_2 l0_0 l0_1 = some (r1, r2)) ∧ Aside0 (kq ≤ k1) ∧ Aside0 (Kd.R (Kd.int .i64) 3 w' w.heap.size (fun _ => True) v4 x4_2) ∧ Aside0 (Kd.S (Kd.slice 3 (Kd.int .i64)) 27 w' w.heap.size (fun k_ => some k_ ≠ (v4 : Value).ownBlock) (.slice Ao13 t334.length co13) t334) ∧ Aside0 (w'.heap[gb329]? = some (.cells #[(.slice A0_0 l0_0.length c0_0), (.slice A0_1 l0_1.length c0_1)] 30 (0, 0))) ∧ Aside0 (Below w.heap.size w w'))
       case atStart => exact ⟨(x4_1), (0), (by first | rfl | (simp; done) | (simp [*]; done)), H', ⟨Nat.le_refl _⟩, ⟨zR HO_4.out⟩, ⟨by (with_reducible repeat (first | apply Kd.S_alloc | apply Kd.S_drewN | apply Kd.S_drew)); exact HO_5.out⟩, ⟨zK BK329.out⟩, ⟨zB⟩⟩
       case round =>
        clear H'
        try clear c1
        try clear p2
        try clear c3
        try clear c5
        try clear c12
        try clear c12b0
        try clear hcz10_0
        try clear hcz10_1
        try clear hcz8_0
        try clear hcz8_1
        try clear hfz10_0
        try clear hfz10_1
        try clear hfz8_0
        try clear hfz8_1
        try clear p2
        obtain ⟨x4_2, x7_2, rfl, HA, HK2, HO_4, HO_5, BK329, HB⟩ := hrel
        cases gk with
        | zero => exact absurd HA.out (by simp [spec_CutPlaces.l1])
        | succ k2 =>
         have H := HA.out
         clear HA
         simp only [spec_CutPlaces.l1] at H
         by_cases c14 : 0 ≤ x6_1
         · rw [if_pos c14] at H
           have c14b0 := decide_eq_true c14
           clear c14
           by_cases c15 : x6_1 < (t334.length : Int)
           · rw [if_pos c15] at H
             have c15b0 := decide_eq_true c15
             clear c15
             by_cases c16 : x7_2 < ((rd_L1 t334 x6_1).length : Int)
             · rw [if_pos c16] at H
               have c16b0 := decide_eq_true c16
               clear c16
               by_cases c17 : 0 ≤ x7_2
               · rw [if_pos c17] at H
                 have c17b0 := eq_true c17
                 have c17b1 : decide (0 ≤ x7_2) = true := decide_eq_true c17
                 clear c17
                 by_cases c18 : x7_2 ≤ ((rd_L1 t334 x6_1).length : Int)
                 · rw [if_pos c18] at H
                   have c18b0 := eq_true c18
                   have c18b1 : decide (x7_2 ≤ ((rd_L1 t334 x6_1).length : Int)) = true := decide_eq_true c18
                   clear c18
                   obtain ⟨y339, hy339⟩ : ∃ y_ : List Int, y_ = ((rd_L1 t334 x6_1).take (x7_2 : Int).toNat) := ⟨_, rfl⟩
                   replace H : ((spec_l1Own.f y339).bind fun t343 => (if 0 ≤ (wrap64 (x7_2 + 1)) then (if (wrap64 (x7_2 + 1)) ≤ ((rd_L1 t334 x6_1).length : Int) then ((some ((rd_L1 t334 x6_1).drop ((wrap64 (x7_2 + 1)) : Int).toNat : List Int)).bind fun y347 => (if t343.length + y347.length < 17592186044416 then ((spec_l2Induced.f k2 l0_0 l0_1 (t343 ++ y347)).bind fun bt354 => ((spec_l2Parts.f k2 bt354.1 bt354.2).bind fun t360 => (if (t360.length : Int) > 1 then ((spec_l1Put.f k2 x4_2 (rd (rd_L1 t334 x6_1) x7_2)).bind fun t365 => (spec_CutPlaces.l1 k2 t365 t334 x6_1 (wrap64 (x7_2 + 1)) l0_0 l0_1)) else (spec_CutPlaces.l1 k2 x4_2 t334 x6_1 (wrap64 (x7_2 + 1)) l0_0 l0_1)))) else (none))) else (none)) else (none))) = some (r1, r2) := by first | (rw [hy339]; with_reducible exact H) | (have H2_ := (Option.bind_some _ _).symm.trans H; rw [hy339]; with_reducible exact H2_) | (have H2_ := (Option.bind_some _ _).symm.trans H; with_reducible exact H2_) | with_reducible exact H | (rw [hy339]; exact H) | exact H
                   have Ny339 := Aside0.mk hy339
                   clear hy339
                   replace H := Option.bind_eq_some_iff.mp H
                   obtain ⟨t343, A190, H⟩ := H
                   replace H : (if 0 ≤ (wrap64 (x7_2 + 1)) then (if (wrap64 (x7_2 + 1)) ≤ ((rd_L1 t334 x6_1).length : Int) then ((some ((rd_L1 t334 x6_1).drop ((wrap64 (x7_2 + 1)) : Int).toNat : List Int)).bind fun y347 => (if t343.length + y347.length < 17592186044416 then ((spec_l2Induced.f k2 l0_0 l0_1 (t343 ++ y347)).bind fun bt354 => ((spec_l2Parts.f k2 bt354.1 bt354.2).bind fun t360 => (if (t360.length : Int) > 1 then ((spec_l1Put.f k2 x4_2 (rd (rd_L1 t334 x6_1) x7_2)).bind fun t365 => (spec_CutPlaces.l1 k2 t365 t334 x6_1 (wrap64 (x7_2 + 1)) l0_0 l0_1)) else (spec_CutPlaces.l1 k2 x4_2 t334 x6_1 (wrap64 (x7_2 + 1)) l0_0 l0_1)))) else (none))) else (none)) else (none)) = some (r1, r2) := H
                   have A19 := Aside0.mk A190
                   clear A190
                   obtain ⟨ji20, hji20⟩ : ∃ j_ : Int, (wrap64 (x7_2 + 1)) = j_ := ⟨_, rfl⟩
                   replace H : (if 0 ≤ (ji20) then (if (ji20) ≤ ((rd_L1 t334 x6_1).length : Int) then ((some ((rd_L1 t334 x6_1).drop ((ji20) : Int).toNat : List Int)).bind fun y347 => (if t343.length + y347.length < 17592186044416 then ((spec_l2Induced.f k2 l0_0 l0_1 (t343 ++ y347)).bind fun bt354 => ((spec_l2Parts.f k2 bt354.1 bt354.2).bind fun t360 => (if (t360.length : Int) > 1 then ((spec_l1Put.f k2 x4_2 (rd (rd_L1 t334 x6_1) x7_2)).bind fun t365 => (spec_CutPlaces.l1 k2 t365 t334 x6_1 ji20 l0_0 l0_1)) else (spec_CutPlaces.l1 k2 x4_2 t334 x6_1 ji20 l0_0 l0_1)))) else (none))) else (none)) else (none)) = some (r1, r2) := by first | (rw [hji20] at H; exact H) | (simp only [hji20] at H ⊢; exact H)
                   (try rw [hji20] at A19)
                   have hji20w : (IntKind.i64.wrap (x7_2 + 1)) = ji20 := (i64_w _).trans hji20
                   by_cases c21 : 0 ≤ (ji20)
                   · rw [if_pos c21] at H
                     have c21b0 := eq_true c21
                     have c21b1 : decide (0 ≤ (ji20)) = true := decide_eq_true c21
                     clear c21
                     by_cases c22 : (ji20) ≤ ((rd_L1 t334 x6_1).length : Int)
                     · rw [if_pos c22] at H
                       have c22b0 := eq_true c22
                       have c22b1 : decide ((ji20) ≤ ((rd_L1 t334 x6_1).length : Int)) = true := decide_eq_true c22
                       clear c22
                       obtain ⟨y347, hy347⟩ : ∃ y_ : List Int, y_ = ((rd_L1 t334 x6_1).drop ((ji20) : Int).toNat) := ⟨_, rfl⟩
                       replace H : (if t343.length + y347.length < 17592186044416 then ((spec_l2Induced.f k2 l0_0 l0_1 (t343 ++ y347)).bind fun bt354 => ((spec_l2Parts.f k2 bt354.1 bt354.2).bind fun t360 => (if (t360.length : Int) > 1 then ((spec_l1Put.f k2 x4_2 (rd (rd_L1 t334 x6_1) x7_2)).bind fun t365 => (spec_CutPlaces.l1 k2 t365 t334 x6_1 ji20 l0_0 l0_1)) else (spec_CutPlaces.l1 k2 x4_2 t334 x6_1 ji20 l0_0 l0_1)))) else (none)) = some (r1, r2) := by first | (rw [hy347]; with_reducible exact H) | (have H2_ := (Option.bind_some _ _).symm.trans H; rw [hy347]; with_reducible exact H2_) | (have H2_ := (Option.bind_some _ _).symm.trans H; with_reducible exact H2_) | with_reducible exact H | (rw [hy347]; exact H) | exact H
                       have Ny347 := Aside0.mk hy347
                       clear hy347
                       by_cases c23 : t343.length + y347.length < 17592186044416
                       · rw [if_pos c23] at H
                         have LMc23 := Aside0.mk c23
                         clear c23
                         obtain ⟨y351, hy351⟩ : ∃ y_ : List Int, y_ = (t343 ++ y347) := ⟨_, rfl⟩
                         replace H : ((spec_l2Induced.f k2 l0_0 l0_1 y351).bind fun bt354 => ((spec_l2Parts.f k2 bt354.1 bt354.2).bind fun t360 => (if (t360.length : Int) > 1 then ((spec_l1Put.f k2 x4_2 (rd (rd_L1 t334 x6_1) x7_2)).bind fun t365 => (spec_CutPlaces.l1 k2 t365 t334 x6_1 ji20 l0_0 l0_1)) else (spec_CutPlaces.l1 k2 x4_2 t334 x6_1 ji20 l0_0 l0_1)))) = some (r1, r2) := by first | (rw [hy351]; with_reducible exact H) | (have H2_ := (Option.bind_some _ _).symm.trans H; rw [hy351]; with_reducible exact H2_) | (have H2_ := (Option.bind_some _ _).symm.trans H; with_reducible exact H2_) | with_reducible exact H | (rw [hy351]; exact H) | exact H
                         have Ny351 := Aside0.mk hy351
                         clear hy351
                         replace H := Option.bind_eq_some_iff.mp H
                         obtain ⟨⟨t354, t357⟩, A240, H⟩ := H
                         replace H : ((spec_l2Parts.f k2 t354 t357).bind fun t360 => (if (t360.length : Int) > 1 then ((spec_l1Put.f k2 x4_2 (rd (rd_L1 t334 x6_1) x7_2)).bind fun t365 => (spec_CutPlaces.l1 k2 t365 t334 x6_1 ji20 l0_0 l0_1)) else (spec_CutPlaces.l1 k2 x4_2 t334 x6_1 ji20 l0_0 l0_1))) = some (r1, r2) := H
                         have A24 := Aside0.mk A240
                         clear A240
                         replace H := Option.bind_eq_some_iff.mp H
                         obtain ⟨t360, A250, H⟩ := H
                         replace H : (if (t360.length : Int) > 1 then ((spec_l1Put.f k2 x4_2 (rd (rd_L1 t334 x6_1) x7_2)).bind fun t365 => (spec_CutPlaces.l1 k2 t365 t334 x6_1 ji20 l0_0 l0_1)) else (spec_CutPlaces.l1 k2 x4_2 t334 x6_1 ji20 l0_0 l0_1)) = some (r1, r2) := H
                         have A25 := Aside0.mk A250
                         clear A250
                         by_cases c26 : (t360.length : Int) > 1
                         · rw [if_pos c26] at H
                           have c26b0 : decide (1 < (t360.length : Int)) = true := decide_eq_true c26
                           have c26b1 : decide (1 < t360.length) = true := decide_eq_true (by omega)
                           clear c26
                           replace H := Option.bind_eq_some_iff.mp H
                           obtain ⟨t365, A270, H⟩ := H
                           replace H : (spec_CutPlaces.l1 k2 t365 t334 x6_1 ji20 l0_0 l0_1) = some (r1, r2) := H
                           have A27 := Aside0.mk A270
                           clear A270
                           have H' := Aside0.mk H
                           clear H
                           have p337 : 0 ≤ (x6_1 : Int) := of_decide_eq_true zA
                           have q337 : x6_1 < (t334.length : Int) := of_decide_eq_true zA
                           obtain ⟨ad337, A337_0, c337_0, e337, hx337_0, hl337_0, hi337_0⟩ := at_L1 (Kd.S_reads' HO_5.out).2.2 x6_1 p337 q337
                           cases e337
                           obtain ⟨ce337, hce337, hMe337, hcc337⟩ := Kd.S_get HO_5.out [] x6_1 p337 (by first | exact q337 | exact of_decide_eq_true zA | (have e_ := (Kd.S_reads' HO_5.out).1; omega))
                           obtain ⟨ve337_0, rfl, ge337_0⟩ := hMe337
                           have hv337_0 := hcc337 0 _ rfl
                           rw [Nat.add_zero, show ((Kd.slice 3 (Kd.int .i64))).sz = 1 from rfl, Nat.mul_one] at hv337_0
                           replace hv337_0 := Option.some.inj (hv337_0.symm.trans hx337_0)
                           rw [hv337_0] at ge337_0
                           have HL337_0 := zM (show Kd.R (Kd.int .i64) 3 _ _ _ _ (rd_L1 t334 x6_1) from ge337_0)
                           clear hv337_0 ge337_0
                           clear hcc337 hce337
                           have HR337_0 := Aside0.mk hi337_0
                           have HC337_0 := Aside0.mk hl337_0
                           clear hi337_0 hl337_0
                           replace p337 := eq_true p337
                           replace q337 := eq_true q337
                           try go_wp2
                           replace HO_4 := zM (Kd.R_drew HO_4.out)
                           replace HO_5 := zM (Kd.S_drew HO_5.out)
                           replace HL337_0 := zM (Kd.R_drew HL337_0.out)
                           replace BK329 := zM (blk_drew BK329.out)
                           replace HR337_0 := zM (Kd.C_drew HR337_0.out)
                           replace HB := zM (below_drew1 HB.out)
                           have p338 : 0 ≤ (x6_1 : Int) := of_decide_eq_true zA
                           have q338 : x6_1 < (t334.length : Int) := of_decide_eq_true zA
                           obtain ⟨ad338, A338_0, c338_0, e338, hx338_0, hl338_0, hi338_0⟩ := at_L1 (Kd.S_reads' HO_5.out).2.2 x6_1 p338 q338
                           obtain rfl : ad337 = ad338 := (by injection e338)
                           obtain ⟨ce338, hce338, hMe338, hcc338⟩ := Kd.S_get HO_5.out [] x6_1 p338 (by first | exact q338 | exact of_decide_eq_true zA | (have e_ := (Kd.S_reads' HO_5.out).1; omega))
                           obtain ⟨ve338_0, rfl, ge338_0⟩ := hMe338
                           have hv338_0 := hcc338 0 _ rfl
                           rw [Nat.add_zero, show ((Kd.slice 3 (Kd.int .i64))).sz = 1 from rfl, Nat.mul_one] at hv338_0
                           replace hv338_0 := Option.some.inj (hv338_0.symm.trans hx338_0)
                           rw [hv338_0] at ge338_0
                           have HL338_0 := zM (show Kd.R (Kd.int .i64) 3 _ _ _ _ (rd_L1 t334 x6_1) from ge338_0)
                           clear hv338_0 ge338_0
                           clear hcc338 hce338
                           have HR338_0 := Aside0.mk hi338_0
                           have HC338_0 := Aside0.mk hl338_0
                           clear hi338_0 hl338_0
                           replace p338 := eq_true p338
                           replace q338 := eq_true q338
                           have q29 : (x7_2 : Int) ≤ (((rd_L1 t334 x6_1).length : Int) : Int) := of_decide_eq_true zA
                           obtain ⟨i029, hi029, _, hsz29, _⟩ := info_parts info3
                           have hroom29 : (rd_L1 t334 x6_1).length ≤ c338_0 := HC338_0.out
                           have hC29 : Kd.C (Kd.int .i64) _ A338_0 (rd_L1 t334 x6_1).length (rd_L1 t334 x6_1) := (by repeat (first | (with_reducible exact HR338_0.out) | (with_reducible refine Kd.C_alloc ?_ _) | (with_reducible refine Kd.C_drewN ?_ _) | (with_reducible refine Kd.C_drew ?_) | exact HR338_0.out))
                           have hcut29 := cut_to (P := Try.prog) 27 3 .i64 Try.underlying27 hi029 A338_0 (rd_L1 t334 x6_1).length c338_0 x7_2 (of_decide_eq_true zA) q29 hroom29
                           have hr29 := Kd.C_take (m := (x7_2 : Int).toNat) hC29 (by omega)
                           have hy29 : y339.length = (x7_2 : Int).toNat := (by rw [Ny339.out, List.length_take]; omega)
                           rw [← Ny339.out] at hr29
                           rw [← hy29] at hcut29
                           have HR342 := Aside0.mk hr29
                           have HC342 := zM (show y339.length ≤ c338_0 from by omega)
                           clear hr29 hC29 hroom29 hi029 hsz29
                           have KY29 := Aside0.mk hy29
                           clear hy29
                           replace q29 := eq_true q29
                           have p346 : 0 ≤ (x6_1 : Int) := of_decide_eq_true zA
                           have q346 : x6_1 < (t334.length : Int) := of_decide_eq_true zA
                           obtain ⟨ad346, A346_0, c346_0, e346, hx346_0, hl346_0, hi346_0⟩ := at_L1 (Kd.S_reads' HO_5.out).2.2 x6_1 p346 q346
                           obtain rfl : ad337 = ad346 := (by injection e346)
                           obtain ⟨ce346, hce346, hMe346, hcc346⟩ := Kd.S_get HO_5.out [] x6_1 p346 (by first | exact q346 | exact of_decide_eq_true zA | (have e_ := (Kd.S_reads' HO_5.out).1; omega))
                           obtain ⟨ve346_0, rfl, ge346_0⟩ := hMe346
                           have hv346_0 := hcc346 0 _ rfl
                           rw [Nat.add_zero, show ((Kd.slice 3 (Kd.int .i64))).sz = 1 from rfl, Nat.mul_one] at hv346_0
                           replace hv346_0 := Option.some.inj (hv346_0.symm.trans hx346_0)
                           rw [hv346_0] at ge346_0
                           have HL346_0 := zM (show Kd.R (Kd.int .i64) 3 _ _ _ _ (rd_L1 t334 x6_1) from ge346_0)
                           clear hv346_0 ge346_0
                           clear hcc346 hce346
                           have HR346_0 := Aside0.mk hi346_0
                           have HC346_0 := Aside0.mk hl346_0
                           clear hi346_0 hl346_0
                           replace p346 := eq_true p346
                           replace q346 := eq_true q346
                           have ea_ := Option.some.inj (hx338_0.symm.trans hx346_0)
                           injection ea_ with ea_ en_ ec_
                           subst ea_
                           subst ec_
                           clear en_
                           have q30 : ((ji20) : Int) ≤ (((rd_L1 t334 x6_1).length : Int) : Int) := of_decide_eq_true zA
                           obtain ⟨i030, hi030, _, hsz30, _⟩ := info_parts info3
                           have hroom30 : (rd_L1 t334 x6_1).length ≤ c338_0 := HC346_0.out
                           have hC30 : Kd.C (Kd.int .i64) _ A338_0 (rd_L1 t334 x6_1).length (rd_L1 t334 x6_1) := (by repeat (first | (with_reducible exact HR346_0.out) | (with_reducible refine Kd.C_alloc ?_ _) | (with_reducible refine Kd.C_drewN ?_ _) | (with_reducible refine Kd.C_drew ?_) | exact HR346_0.out))
                           have q030 : (0 : Int) ≤ ((ji20) : Int) := of_decide_eq_true zA
                           have hcut30 := cut_from (P := Try.prog) 27 3 .i64 Try.underlying27 hi030 1 hsz30 A338_0 (rd_L1 t334 x6_1).length c338_0 (ji20) q030 q30
                           have hr30 := Kd.C_drop (m := ((ji20) : Int).toNat) (c := c338_0) hC30 (by omega) hroom30
                           obtain ⟨A30, hA30⟩ : ∃ A1, A1 = (if c338_0 = ((ji20) : Int).toNat then A338_0 else (A338_0 : Option Addr).map (·.add (((ji20) : Int).toNat * 1))) := ⟨_, rfl⟩
                           obtain ⟨c30, hc30⟩ : ∃ c1, c1 = c338_0 - ((ji20) : Int).toNat := ⟨_, rfl⟩
                           have hy30 : y347.length = (rd_L1 t334 x6_1).length - ((ji20) : Int).toNat := (by rw [Ny347.out, List.length_drop] <;> omega)
                           rw [show (rd_L1 t334 x6_1).drop ((ji20) : Int).toNat = y347 from Ny347.out.symm] at hr30
                           replace hr30 : Kd.C (Kd.int .i64) _ A30 y347.length y347 := (by rw [hA30]; exact hr30)
                           rw [← hy30, ← hA30, ← hc30] at hcut30
                           have HR350 := Aside0.mk hr30
                           have HC350 := zM (show y347.length ≤ c30 from by rw [hy30, hc30]; exact Nat.sub_le_sub_right hroom30 _)
                           clear hr30 hC30 hroom30 hi030 hsz30 hc30
                           have KY30 := Aside0.mk hy30
                           have KA30 := Aside0.mk hA30
                           clear hy30 hA30
                           replace q30 := eq_true q30
                           refine start_ (n := 16) (S := fun w' => w'.cell? (ad337.add (x6_1).toNat) = some (.slice A338_0 (rd_L1 t334 x6_1).length c338_0) ∧ w'.cell? (ad337.add (x6_1).toNat) = some (.slice A338_0 (rd_L1 t334 x6_1).length c338_0)) (ds := [14]) #[false, false, false, false, false, false, false, false, false, false, false, false, false, false, false, false] (by kernel_rfl) rfl rfl ⟨hx338_0, hx346_0⟩ (fun hHeld => ?_); refine with_tabW spec_CutPlaces.tab11 spec_CutPlaces.bits11 (fun HT_ HW_ => ?_)
                           generalize wr.drew = w28 at HO_4 HO_5 HL337_0 BK329 HR337_0 HB HL338_0 HL346_0 HR338_0 HR342 HR346_0 HR350 hx338_0 hx346_0 hHeld ⊢
                           refine zp HT_ 0 31 ?_
                           refine zp HT_ 1 32 ?_
                           refine zp HT_ 2 33 ?_
                           refine zp HT_ 4 35 ?_
                           refine zp HT_ 7 38 ?_
                           refine zp HT_ 8 39 ?_
                           refine zp HT_ 9 40 ?_
                           refine zp HT_ 11 42 ?_
                           refine zp HT_ 12 43 ?_
                           refine zt HT_ HW_ 3 34 hHeld ?_ (hy := by rintro w' ⟨s0, s1⟩; go_simp; with_reducible rfl)
                           refine zp HT_ 5 36 ?_
                           refine zt HT_ HW_ 10 41 hHeld ?_ (hy := by rintro w' ⟨s0, s1⟩; go_simp; with_reducible rfl)
                           refine zp HT_ 13 44 ?_
                           refine zg HT_ 6 37 Try.func17 #[.slice A338_0 y339.length c338_0] (fun K hK => ?_)
                           with_reducible refine (spec_l1Own.calls _ _ y339 t343 _ ?side1 ?side2 A19.out).mono ?_
                           (case side1 => repeat (first | exact (by repeat (first | (with_reducible exact HR342.out) | (with_reducible refine Kd.C_alloc ?_ _) | (with_reducible refine Kd.C_drewN ?_ _) | (with_reducible refine Kd.C_drew ?_) | exact HR342.out)) | (with_reducible refine Kd.C_alloc ?_ _) | (with_reducible refine Kd.C_drewN ?_ _) | (with_reducible refine Kd.C_drew ?_)))
                           (case side2 => exact HC342.out)
                           rintro e w31 ⟨v344, rfl, ho0, hb⟩
                           have HS0_ := (hb.cell (World.block_lt_of_cell? _ _ (hHeld.1))).trans (hHeld.1)
                           have HS1_ := (hb.cell (World.block_lt_of_cell? _ _ (hHeld.2))).trans (hHeld.2)
                           refine ⟨_, rfl, ?_⟩
                           replace HO_5 := zM (Kd.S_elder' (by (with_reducible repeat (first | apply Kd.S_alloc | apply Kd.S_drewN | apply Kd.S_drew)); exact HO_5.out) (Kd.R_base ho0) hb)
                           have HO345 := zM (Kd.R_lower (Kd.R_new' (Kd.R_new' (Kd.R_new' (Kd.R_new' ho0 (Kd.R_lt (zR HO_4.out))) (Kd.R_lt (zR HL337_0.out))) (Kd.R_lt (zR HL338_0.out))) (Kd.R_lt (zR HL346_0.out))) (below_size zB))
                           replace HO_4 := zM (Kd.R_elder' (zR HO_4.out) (Kd.R_base ho0) hb)
                           replace HL337_0 := zM (Kd.R_elder' (zR HL337_0.out) (Kd.R_base ho0) hb)
                           replace HL338_0 := zM (Kd.R_elder' (zR HL338_0.out) (Kd.R_base ho0) hb)
                           replace HL346_0 := zM (Kd.R_elder' (zR HL346_0.out) (Kd.R_base ho0) hb)
                           replace BK329 := zM (blk_below (g := gb329) (o := .cells #[.slice A0_0 l0_0.length c0_0, .slice A0_1 l0_1.length c0_1] 30 (0, 0)) (zK BK329.out) hb)
                           replace HR337_0 := zM (Kd.C_below (by repeat (first | (with_reducible exact HR337_0.out) | (with_reducible refine Kd.C_alloc ?_ _) | (with_reducible refine Kd.C_drewN ?_ _) | (with_reducible refine Kd.C_drew ?_) | exact HR337_0.out)) hb)
                           replace HR338_0 := zM (Kd.C_below (by repeat (first | (with_reducible exact HR338_0.out) | (with_reducible refine Kd.C_alloc ?_ _) | (with_reducible refine Kd.C_drewN ?_ _) | (with_reducible refine Kd.C_drew ?_) | exact HR338_0.out)) hb)
                           replace HR342 := zM (Kd.C_below (by repeat (first | (with_reducible exact HR342.out) | (with_reducible refine Kd.C_alloc ?_ _) | (with_reducible refine Kd.C_drewN ?_ _) | (with_reducible refine Kd.C_drew ?_) | exact HR342.out)) hb)
                           replace HR346_0 := zM (Kd.C_below (by repeat (first | (with_reducible exact HR346_0.out) | (with_reducible refine Kd.C_alloc ?_ _) | (with_reducible refine Kd.C_drewN ?_ _) | (with_reducible refine Kd.C_drew ?_) | exact HR346_0.out)) hb)
                           replace HR350 := zM (Kd.C_below (by repeat (first | (with_reducible exact HR350.out) | (with_reducible refine Kd.C_alloc ?_ _) | (with_reducible refine Kd.C_drewN ?_ _) | (with_reducible refine Kd.C_drew ?_) | exact HR350.out)) hb)
                           replace HB := zM (below_step zB hb)
                           (try clear hb)
                           (try clear hb2)
                           (try clear hk)
                           (try clear hi)
                           (try clear ho0)
                           refine hK.out _ _ ⟨HS0_, HS1_⟩ (fun hHeld => ?_)
                           clear hK K
                           refine zn 37 ?_
                           refine last_ (i := 14) (N := some 45) #[true, true, true, true, true, true, true, true, true, true, true, true, true, true, true, false] rfl rfl (one_of HT_.out (by kernel_rfl)) (by decide) (fun K hK => ?_)
                           refine Kd.R_append_rows_step (Kd.int .i64) (w0 := w) w.heap.size (by rfl) (.tmp 37) (.tmp 44) 27 3 (.int .i64 0) 8 rfl Try.underlying27 info3 rfl (by decide) (by omega) v344 t343 y347 _ _ _ (fun k_ => some k_ ≠ (u4 : Value).ownBlock ∧ some k_ ≠ (.slice A337_0 (rd_L1 t334 x6_1).length c337_0 : Value).ownBlock ∧ some k_ ≠ (.slice A338_0 (rd_L1 t334 x6_1).length c338_0 : Value).ownBlock ∧ some k_ ≠ (.slice A338_0 (rd_L1 t334 x6_1).length c338_0 : Value).ownBlock) (fun _ => False) rfl rfl ?aO ?aR (fun _ _ h => h) (fun _ h => h.elim) ?aF ?aB ?aS ?aL ?_
                           (case aR => repeat (first | exact (by repeat (first | (with_reducible exact HR350.out) | (with_reducible refine Kd.C_alloc ?_ _) | (with_reducible refine Kd.C_drewN ?_ _) | (with_reducible refine Kd.C_drew ?_) | exact HR350.out)) | (with_reducible refine Kd.C_alloc ?_ _) | (with_reducible refine Kd.C_drewN ?_ _) | (with_reducible refine Kd.C_drew ?_)))
                           (case aB => exact zB)
                           (case aF => exact (fun k_ hk => ⟨Kd.fresh' (Kd.R_lt (zR HO_4.out)) k_ hk, Kd.fresh' (Kd.R_lt (zR HL337_0.out)) k_ hk, Kd.fresh' (Kd.R_lt (zR HL338_0.out)) k_ hk, Kd.fresh' (Kd.R_lt (zR HL346_0.out)) k_ hk⟩))
                           (case aO => exact (by (with_reducible repeat (first | apply Kd.R_alloc | apply Kd.R_drewN | apply Kd.R_drew)); exact Kd.R_mono HO345.out (fun _ hk => ⟨hk.1.1.1.2, ⟨hk.1.1.2, ⟨hk.1.2, hk.2⟩⟩⟩)))
                           (case aS => exact (below_size zB))
                           (case aL => have := LMc23.out; omega)
                           intro v352 w32 ho hb hg hat
                           rw [← Ny351.out] at ho
                           replace HO_4 := zM (Kd.R_after (ok := (fun _ => True)) (zR HO_4.out) hg hat)
                           replace HO_5 := zM (Kd.S_after (ok := (fun k_ => some k_ ≠ (u4 : Value).ownBlock)) (by (with_reducible repeat (first | apply Kd.S_alloc | apply Kd.S_drewN | apply Kd.S_drew)); exact HO_5.out) hg hat)
                           replace BK329 := zM (blk_grown (g := gb329) (o := .cells #[.slice A0_0 l0_0.length c0_0, .slice A0_1 l0_1.length c0_1] 30 (0, 0)) (zK BK329.out) hg (Kd.R_ne HO345.out BK329.out (by decide)))
                           replace HL337_0 := zM (Kd.R_after (ok := (fun k_ => some k_ ≠ (u4 : Value).ownBlock ∧ some k_ ≠ (.slice (some ad337) t334.length co13 : Value).ownBlock)) (zR HL337_0.out) hg hat)
                           replace HL338_0 := zM (Kd.R_after (ok := (fun k_ => some k_ ≠ (u4 : Value).ownBlock ∧ some k_ ≠ (.slice (some ad337) t334.length co13 : Value).ownBlock)) (zR HL338_0.out) hg hat)
                           replace HL346_0 := zM (Kd.R_after (ok := (fun k_ => some k_ ≠ (u4 : Value).ownBlock ∧ some k_ ≠ (.slice (some ad337) t334.length co13 : Value).ownBlock)) (zR HL346_0.out) hg hat)
                           replace HB := zM (hb)
                           have HO353 := zM (ho)
                           clear HO345
                           clear ho hb hg hat
                           refine hK.out _ _ ?_
                           clear hK K
                           refine zn 45 ?_
                           refine zp HT_ 15 8 ?_
                           refine zo HT_ ?_
                           have hcz33_0 := zy BK329 0
                           have hcz33_1 := zy BK329 1
                           have hfz33_0 := blk_frozen BK329.out 0
                           have hfz33_1 := blk_frozen BK329.out 1
                           obtain ⟨Ao34, co34, eo34⟩ := Kd.R_slice HO353.out
                           subst eo34
                           try go_wp2_with (first | ((with_reducible refine gate_callee (f := 18) rfl ?_); refine zc 48 Try.func18 #[.agg #[.slice A0_0 l0_0.length c0_0, .slice A0_1 l0_1.length c0_1], .slice Ao34 y351.length co34] ?_; (with_reducible refine (spec_l2Induced.calls k2 _ _ l0_0 _ _ l0_1 _ _ y351 t354 t357 _ ?side1 ?side2 ?side3 ?side4 ?side5 ?side6 A24.out).mono ?_); (case side1 => exact zC (Kd.C_below HR0_0.out HB.out)); (case side2 => exact HC0_0.out); (case side3 => exact zC (Kd.C_below HR0_1.out HB.out)); (case side4 => exact HC0_1.out); (case side5 => exact zC (Kd.R_reads' HO353.out).2.2); (case side6 => exact (Kd.R_reads' HO353.out).2.1); rintro e w35 ⟨v355, v358, rfl, ho0, ho1, hb⟩; refine ⟨_, rfl, ?_⟩; have HO356 := zM (Kd.S_lower (Kd.S_new' (Kd.S_new' (Kd.S_new' (Kd.S_new' (Kd.S_new' (Kd.S_new' ho0 (Kd.R_lt (zR HO_4.out))) (Kd.S_lt (by (with_reducible repeat (first | apply Kd.S_alloc | apply Kd.S_drewN | apply Kd.S_drew)); exact HO_5.out))) (Kd.R_lt (zR HL337_0.out))) (Kd.R_lt (zR HL338_0.out))) (Kd.R_lt (zR HL346_0.out))) (Kd.R_lt (zR HO353.out))) (below_size zB)); replace HO_4 := zM (Kd.R_below (zR HO_4.out) hb); replace HO_5 := zM (Kd.S_elder' (by (with_reducible repeat (first | apply Kd.S_alloc | apply Kd.S_drewN | apply Kd.S_drew)); exact HO_5.out) (Kd.S_base ho0) hb); replace HL337_0 := zM (Kd.R_below (zR HL337_0.out) hb); replace HL338_0 := zM (Kd.R_below (zR HL338_0.out) hb); replace HL346_0 := zM (Kd.R_below (zR HL346_0.out) hb); replace HO353 := zM (Kd.R_below (zR HO353.out) hb); have HO359 := zM (Kd.R_lower ho1 (below_size zB)); replace BK329 := zM (blk_below (g := gb329) (o := .cells #[.slice A0_0 l0_0.length c0_0, .slice A0_1 l0_1.length c0_1] 30 (0, 0)) (zK BK329.out) hb); replace HB := zM (below_step zB hb); (try clear hb); (try clear hb2); (try clear hk); (try clear hi); (try clear ho0); (try clear ho1); obtain ⟨Ao36, co36, eo36⟩ := Kd.S_slice HO356.out; subst eo36; obtain ⟨Ao37, co37, eo37⟩ := Kd.R_slice HO359.out; subst eo37) | ((with_reducible refine gate_callee (f := 16) rfl ?_); refine zc 49 Try.func16 #[.agg #[.slice Ao36 t354.length co36, .slice Ao37 t357.length co37]] ?_; (with_reducible refine (spec_l2Parts.calls k2 _ _ t354 _ _ t357 t360 _ ?side1 ?side2 ?side3 ?side4 A25.out).mono ?_); (case side1 => exact zC (Kd.S_reads' HO356.out).2.2); (case side2 => exact (Kd.S_reads' HO356.out).2.1); (case side3 => exact zC (Kd.R_reads' HO359.out).2.2); (case side4 => exact (Kd.R_reads' HO359.out).2.1); rintro e w38 ⟨v361, rfl, ho0, hb⟩; refine ⟨_, rfl, ?_⟩; replace HO359 := zM (Kd.R_below (zR HO359.out) hb); have HO362 := zM (Kd.S_lower (Kd.S_new' (Kd.S_new' (Kd.S_new' (Kd.S_new' (Kd.S_new' (Kd.S_new' (Kd.S_new' ho0 (Kd.R_lt (zR HO_4.out))) (Kd.S_lt (by (with_reducible repeat (first | apply Kd.S_alloc | apply Kd.S_drewN | apply Kd.S_drew)); exact HO_5.out))) (Kd.R_lt (zR HL337_0.out))) (Kd.R_lt (zR HL338_0.out))) (Kd.R_lt (zR HL346_0.out))) (Kd.R_lt (zR HO353.out))) (Kd.S_lt (by (with_reducible repeat (first | apply Kd.S_alloc | apply Kd.S_drewN | apply Kd.S_drew)); exact HO356.out))) (below_size zB)); replace HO_4 := zM (Kd.R_below (zR HO_4.out) hb); replace HO_5 := zM (Kd.S_elder' (by (with_reducible repeat (first | apply Kd.S_alloc | apply Kd.S_drewN | apply Kd.S_drew)); exact HO_5.out) (Kd.S_base ho0) hb); replace HL337_0 := zM (Kd.R_below (zR HL337_0.out) hb); replace HL338_0 := zM (Kd.R_below (zR HL338_0.out) hb); replace HL346_0 := zM (Kd.R_below (zR HL346_0.out) hb); replace HO353 := zM (Kd.R_below (zR HO353.out) hb); replace HO356 := zM (Kd.S_elder' (by (with_reducible repeat (first | apply Kd.S_alloc | apply Kd.S_drewN | apply Kd.S_drew)); exact HO356.out) (Kd.S_base ho0) hb); replace BK329 := zM (blk_below (g := gb329) (o := .cells #[.slice A0_0 l0_0.length c0_0, .slice A0_1 l0_1.length c0_1] 30 (0, 0)) (zK BK329.out) hb); replace HB := zM (below_step zB hb); (try clear hb); (try clear hb2); (try clear hk); (try clear hi); (try clear ho0); obtain ⟨Ao39, co39, eo39⟩ := Kd.S_slice HO362.out; subst eo39; have p363 : 0 ≤ (x6_1 : Int) := of_decide_eq_true zA; have q363 : x6_1 < (t334.length : Int) := of_decide_eq_true zA; obtain ⟨ad363, A363_0, c363_0, e363, hx363_0, hl363_0, hi363_0⟩ := at_L1 (Kd.S_reads' HO_5.out).2.2 x6_1 p363 q363; obtain rfl : ad337 = ad363 := (by injection e363); obtain ⟨ce363, hce363, hMe363, hcc363⟩ := Kd.S_get HO_5.out [] x6_1 p363 (by first | exact q363 | exact of_decide_eq_true zA | (have e_ := (Kd.S_reads' HO_5.out).1; omega)); obtain ⟨ve363_0, rfl, ge363_0⟩ := hMe363; have hv363_0 := hcc363 0 _ rfl; rw [Nat.add_zero, show ((Kd.slice 3 (Kd.int .i64))).sz = 1 from rfl, Nat.mul_one] at hv363_0; replace hv363_0 := Option.some.inj (hv363_0.symm.trans hx363_0); rw [hv363_0] at ge363_0; have HL363_0 := zM (show Kd.R (Kd.int .i64) 3 _ _ _ _ (rd_L1 t334 x6_1) from ge363_0); clear hv363_0 ge363_0; clear hcc363 hce363; have HR363_0 := Aside0.mk hi363_0; have HC363_0 := Aside0.mk hl363_0; clear hi363_0 hl363_0; replace p363 := eq_true p363; replace q363 := eq_true q363; have p364 : 0 ≤ (x7_2 : Int) := of_decide_eq_true zA; have q364 : x7_2 < ((rd_L1 t334 x6_1).length : Int) := of_decide_eq_true zA; obtain ⟨ad364, e364, hx364_0⟩ := Kd.at_int (by repeat (first | (with_reducible exact HR363_0.out) | (with_reducible refine Kd.C_alloc ?_ _) | (with_reducible refine Kd.C_drewN ?_ _) | (with_reducible refine Kd.C_drew ?_) | exact HR363_0.out)) x7_2 p364 q364; cases e364; replace p364 := eq_true p364; replace q364 := eq_true q364; obtain ⟨Ao40, co40, eo40⟩ := Kd.R_slice HO_4.out; subst eo40) | ((with_reducible refine gate_callee (f := 19) rfl ?_); refine zc 60 Try.func19 #[.slice Ao40 x4_2.length co40, .int .i64 (rd (rd_L1 t334 x6_1) x7_2)] ?_; (with_reducible refine (spec_l1Put.calls k2 _ _ x4_2 (rd (rd_L1 t334 x6_1) x7_2) t365 _ ?side1 ?side2 A27.out).mono ?_); (case side1 => exact zC (Kd.R_reads' HO_4.out).2.2); (case side2 => exact (Kd.R_reads' HO_4.out).2.1); rintro e w41 ⟨v366, rfl, ho0, hb⟩; refine ⟨_, rfl, ?_⟩; replace HO_5 := zM (Kd.S_elder' (by (with_reducible repeat (first | apply Kd.S_alloc | apply Kd.S_drewN | apply Kd.S_drew)); exact HO_5.out) (Kd.R_base ho0) hb); replace HO356 := zM (Kd.S_elder' (by (with_reducible repeat (first | apply Kd.S_alloc | apply Kd.S_drewN | apply Kd.S_drew)); exact HO356.out) (Kd.R_base ho0) hb); replace HO359 := zM (Kd.R_below (zR HO359.out) hb); replace HO362 := zM (Kd.S_elder' (by (with_reducible repeat (first | apply Kd.S_alloc | apply Kd.S_drewN | apply Kd.S_drew)); exact HO362.out) (Kd.R_base ho0) hb); have HO367 := zM (Kd.R_lower (Kd.R_new' (Kd.R_new' (Kd.R_new' (Kd.R_new' (Kd.R_new' (Kd.R_new' ho0 (Kd.R_lt (zR HO_4.out))) (Kd.R_lt (zR HL337_0.out))) (Kd.R_lt (zR HL338_0.out))) (Kd.R_lt (zR HL346_0.out))) (Kd.R_lt (zR HO353.out))) (Kd.R_lt (zR HL363_0.out))) (below_size zB)); replace HO_4 := zM (Kd.R_elder' (zR HO_4.out) (Kd.R_base ho0) hb); replace HL337_0 := zM (Kd.R_elder' (zR HL337_0.out) (Kd.R_base ho0) hb); replace HL338_0 := zM (Kd.R_elder' (zR HL338_0.out) (Kd.R_base ho0) hb); replace HL346_0 := zM (Kd.R_elder' (zR HL346_0.out) (Kd.R_base ho0) hb); replace HO353 := zM (Kd.R_elder' (zR HO353.out) (Kd.R_base ho0) hb); replace HL363_0 := zM (Kd.R_elder' (zR HL363_0.out) (Kd.R_base ho0) hb); replace BK329 := zM (blk_below (g := gb329) (o := .cells #[.slice A0_0 l0_0.length c0_0, .slice A0_1 l0_1.length c0_1] 30 (0, 0)) (zK BK329.out) hb); replace HR363_0 := zM (Kd.C_below (by repeat (first | (with_reducible exact HR363_0.out) | (with_reducible refine Kd.C_alloc ?_ _) | (with_reducible refine Kd.C_drewN ?_ _) | (with_reducible refine Kd.C_drew ?_) | exact HR363_0.out)) hb); replace HB := zM (below_step zB hb); (try clear hb); (try clear hb2); (try clear hk); (try clear hi); (try clear ho0)))
                           go_roundg k2
                           case measure => have := HK1.out; have := HK2.out; omega
                           case rel => exact ⟨(t365), (ji20), (by first | rfl | (simp; done) | (simp only [← hji20] <;> (first | rfl | simp)) | (simp [*]; done)), H', ⟨by have := HK1.out; have := HK2.out; omega⟩, ⟨by (with_reducible repeat (first | apply Kd.R_alloc | apply Kd.R_drewN | apply Kd.R_drew)); exact Kd.R_mono HO367.out (fun _ hk => trivial)⟩, ⟨by (with_reducible repeat (first | apply Kd.S_alloc | apply Kd.S_drewN | apply Kd.S_drew)); exact Kd.S_mono HO_5.out (fun _ hk => hk.2)⟩, ⟨zK BK329.out⟩, ⟨zB⟩⟩
                         · rw [if_neg c26] at H
                           have c26b0 : decide (1 < (t360.length : Int)) = false := decide_eq_false c26
                           have c26b1 : decide (1 < t360.length) = false := decide_eq_false (by omega)
                           clear c26
                           have H' := Aside0.mk H
                           clear H
                           have p337 : 0 ≤ (x6_1 : Int) := of_decide_eq_true zA
                           have q337 : x6_1 < (t334.length : Int) := of_decide_eq_true zA
                           obtain ⟨ad337, A337_0, c337_0, e337, hx337_0, hl337_0, hi337_0⟩ := at_L1 (Kd.S_reads' HO_5.out).2.2 x6_1 p337 q337
                           cases e337
                           obtain ⟨ce337, hce337, hMe337, hcc337⟩ := Kd.S_get HO_5.out [] x6_1 p337 (by first | exact q337 | exact of_decide_eq_true zA | (have e_ := (Kd.S_reads' HO_5.out).1; omega))
                           obtain ⟨ve337_0, rfl, ge337_0⟩ := hMe337
                           have hv337_0 := hcc337 0 _ rfl
                           rw [Nat.add_zero, show ((Kd.slice 3 (Kd.int .i64))).sz = 1 from rfl, Nat.mul_one] at hv337_0
                           replace hv337_0 := Option.some.inj (hv337_0.symm.trans hx337_0)
                           rw [hv337_0] at ge337_0
                           have HL337_0 := zM (show Kd.R (Kd.int .i64) 3 _ _ _ _ (rd_L1 t334 x6_1) from ge337_0)
                           clear hv337_0 ge337_0
                           clear hcc337 hce337
                           have HR337_0 := Aside0.mk hi337_0
                           have HC337_0 := Aside0.mk hl337_0
                           clear hi337_0 hl337_0
                           replace p337 := eq_true p337
                           replace q337 := eq_true q337
                           try go_wp2
                           replace HO_4 := zM (Kd.R_drew HO_4.out)
                           replace HO_5 := zM (Kd.S_drew HO_5.out)
                           replace HL337_0 := zM (Kd.R_drew HL337_0.out)
                           replace BK329 := zM (blk_drew BK329.out)
                           replace HR337_0 := zM (Kd.C_drew HR337_0.out)
                           replace HB := zM (below_drew1 HB.out)
                           have p338 : 0 ≤ (x6_1 : Int) := of_decide_eq_true zA
                           have q338 : x6_1 < (t334.length : Int) := of_decide_eq_true zA
                           obtain ⟨ad338, A338_0, c338_0, e338, hx338_0, hl338_0, hi338_0⟩ := at_L1 (Kd.S_reads' HO_5.out).2.2 x6_1 p338 q338
                           obtain rfl : ad337 = ad338 := (by injection e338)
                           obtain ⟨ce338, hce338, hMe338, hcc338⟩ := Kd.S_get HO_5.out [] x6_1 p338 (by first | exact q338 | exact of_decide_eq_true zA | (have e_ := (Kd.S_reads' HO_5.out).1; omega))
                           obtain ⟨ve338_0, rfl, ge338_0⟩ := hMe338
                           have hv338_0 := hcc338 0 _ rfl
                           rw [Nat.add_zero, show ((Kd.slice 3 (Kd.int .i64))).sz = 1 from rfl, Nat.mul_one] at hv338_0
                           replace hv338_0 := Option.some.inj (hv338_0.symm.trans hx338_0)
                           rw [hv338_0] at ge338_0
                           have HL338_0 := zM (show Kd.R (Kd.int .i64) 3 _ _ _ _ (rd_L1 t334 x6_1) from ge338_0)
                           clear hv338_0 ge338_0
                           clear hcc338 hce338
                           have HR338_0 := Aside0.mk hi338_0
                           have HC338_0 := Aside0.mk hl338_0
                           clear hi338_0 hl338_0
                           replace p338 := eq_true p338
                           replace q338 := eq_true q338
                           have q43 : (x7_2 : Int) ≤ (((rd_L1 t334 x6_1).length : Int) : Int) := of_decide_eq_true zA
                           obtain ⟨i043, hi043, _, hsz43, _⟩ := info_parts info3
                           have hroom43 : (rd_L1 t334 x6_1).length ≤ c338_0 := HC338_0.out
                           have hC43 : Kd.C (Kd.int .i64) _ A338_0 (rd_L1 t334 x6_1).length (rd_L1 t334 x6_1) := (by repeat (first | (with_reducible exact HR338_0.out) | (with_reducible refine Kd.C_alloc ?_ _) | (with_reducible refine Kd.C_drewN ?_ _) | (with_reducible refine Kd.C_drew ?_) | exact HR338_0.out))
                           have hcut43 := cut_to (P := Try.prog) 27 3 .i64 Try.underlying27 hi043 A338_0 (rd_L1 t334 x6_1).length c338_0 x7_2 (of_decide_eq_true zA) q43 hroom43
                           have hr43 := Kd.C_take (m := (x7_2 : Int).toNat) hC43 (by omega)
                           have hy43 : y339.length = (x7_2 : Int).toNat := (by rw [Ny339.out, List.length_take]; omega)
                           rw [← Ny339.out] at hr43
                           rw [← hy43] at hcut43
                           have HR342 := Aside0.mk hr43
                           have HC342 := zM (show y339.length ≤ c338_0 from by omega)
                           clear hr43 hC43 hroom43 hi043 hsz43
                           have KY43 := Aside0.mk hy43
                           clear hy43
                           replace q43 := eq_true q43
                           have p346 : 0 ≤ (x6_1 : Int) := of_decide_eq_true zA
                           have q346 : x6_1 < (t334.length : Int) := of_decide_eq_true zA
                           obtain ⟨ad346, A346_0, c346_0, e346, hx346_0, hl346_0, hi346_0⟩ := at_L1 (Kd.S_reads' HO_5.out).2.2 x6_1 p346 q346
                           obtain rfl : ad337 = ad346 := (by injection e346)
                           obtain ⟨ce346, hce346, hMe346, hcc346⟩ := Kd.S_get HO_5.out [] x6_1 p346 (by first | exact q346 | exact of_decide_eq_true zA | (have e_ := (Kd.S_reads' HO_5.out).1; omega))
                           obtain ⟨ve346_0, rfl, ge346_0⟩ := hMe346
                           have hv346_0 := hcc346 0 _ rfl
                           rw [Nat.add_zero, show ((Kd.slice 3 (Kd.int .i64))).sz = 1 from rfl, Nat.mul_one] at hv346_0
                           replace hv346_0 := Option.some.inj (hv346_0.symm.trans hx346_0)
                           rw [hv346_0] at ge346_0
                           have HL346_0 := zM (show Kd.R (Kd.int .i64) 3 _ _ _ _ (rd_L1 t334 x6_1) from ge346_0)
                           clear hv346_0 ge346_0
                           clear hcc346 hce346
                           have HR346_0 := Aside0.mk hi346_0
                           have HC346_0 := Aside0.mk hl346_0
                           clear hi346_0 hl346_0
                           replace p346 := eq_true p346
                           replace q346 := eq_true q346
                           have ea_ := Option.some.inj (hx338_0.symm.trans hx346_0)
                           injection ea_ with ea_ en_ ec_
                           subst ea_
                           subst ec_
                           clear en_
                           have q44 : ((ji20) : Int) ≤ (((rd_L1 t334 x6_1).length : Int) : Int) := of_decide_eq_true zA
                           obtain ⟨i044, hi044, _, hsz44, _⟩ := info_parts info3
                           have hroom44 : (rd_L1 t334 x6_1).length ≤ c338_0 := HC346_0.out
                           have hC44 : Kd.C (Kd.int .i64) _ A338_0 (rd_L1 t334 x6_1).length (rd_L1 t334 x6_1) := (by repeat (first | (with_reducible exact HR346_0.out) | (with_reducible refine Kd.C_alloc ?_ _) | (with_reducible refine Kd.C_drewN ?_ _) | (with_reducible refine Kd.C_drew ?_) | exact HR346_0.out))
                           have q044 : (0 : Int) ≤ ((ji20) : Int) := of_decide_eq_true zA
                           have hcut44 := cut_from (P := Try.prog) 27 3 .i64 Try.underlying27 hi044 1 hsz44 A338_0 (rd_L1 t334 x6_1).length c338_0 (ji20) q044 q44
                           have hr44 := Kd.C_drop (m := ((ji20) : Int).toNat) (c := c338_0) hC44 (by omega) hroom44
                           obtain ⟨A44, hA44⟩ : ∃ A1, A1 = (if c338_0 = ((ji20) : Int).toNat then A338_0 else (A338_0 : Option Addr).map (·.add (((ji20) : Int).toNat * 1))) := ⟨_, rfl⟩
                           obtain ⟨c44, hc44⟩ : ∃ c1, c1 = c338_0 - ((ji20) : Int).toNat := ⟨_, rfl⟩
                           have hy44 : y347.length = (rd_L1 t334 x6_1).length - ((ji20) : Int).toNat := (by rw [Ny347.out, List.length_drop] <;> omega)
                           rw [show (rd_L1 t334 x6_1).drop ((ji20) : Int).toNat = y347 from Ny347.out.symm] at hr44
                           replace hr44 : Kd.C (Kd.int .i64) _ A44 y347.length y347 := (by rw [hA44]; exact hr44)
                           rw [← hy44, ← hA44, ← hc44] at hcut44
                           have HR350 := Aside0.mk hr44
                           have HC350 := zM (show y347.length ≤ c44 from by rw [hy44, hc44]; exact Nat.sub_le_sub_right hroom44 _)
                           clear hr44 hC44 hroom44 hi044 hsz44 hc44
                           have KY44 := Aside0.mk hy44
                           have KA44 := Aside0.mk hA44
                           clear hy44 hA44
                           replace q44 := eq_true q44
                           refine start_ (n := 16) (S := fun w' => w'.cell? (ad337.add (x6_1).toNat) = some (.slice A338_0 (rd_L1 t334 x6_1).length c338_0) ∧ w'.cell? (ad337.add (x6_1).toNat) = some (.slice A338_0 (rd_L1 t334 x6_1).length c338_0)) (ds := [14]) #[false, false, false, false, false, false, false, false, false, false, false, false, false, false, false, false] (by kernel_rfl) rfl rfl ⟨hx338_0, hx346_0⟩ (fun hHeld => ?_); refine with_tabW spec_CutPlaces.tab11 spec_CutPlaces.bits11 (fun HT_ HW_ => ?_)
                           generalize wr.drew = w42 at HO_4 HO_5 HL337_0 BK329 HR337_0 HB HL338_0 HL346_0 HR338_0 HR342 HR346_0 HR350 hx338_0 hx346_0 hHeld ⊢
                           refine zp HT_ 0 31 ?_
                           refine zp HT_ 1 32 ?_
                           refine zp HT_ 2 33 ?_
                           refine zp HT_ 4 35 ?_
                           refine zp HT_ 7 38 ?_
                           refine zp HT_ 8 39 ?_
                           refine zp HT_ 9 40 ?_
                           refine zp HT_ 11 42 ?_
                           refine zp HT_ 12 43 ?_
                           refine zt HT_ HW_ 3 34 hHeld ?_ (hy := by rintro w' ⟨s0, s1⟩; go_simp; with_reducible rfl)
                           refine zp HT_ 5 36 ?_
                           refine zt HT_ HW_ 10 41 hHeld ?_ (hy := by rintro w' ⟨s0, s1⟩; go_simp; with_reducible rfl)
                           refine zp HT_ 13 44 ?_
                           refine zg HT_ 6 37 Try.func17 #[.slice A338_0 y339.length c338_0] (fun K hK => ?_)
                           with_reducible refine (spec_l1Own.calls _ _ y339 t343 _ ?side1 ?side2 A19.out).mono ?_
                           (case side1 => repeat (first | exact (by repeat (first | (with_reducible exact HR342.out) | (with_reducible refine Kd.C_alloc ?_ _) | (with_reducible refine Kd.C_drewN ?_ _) | (with_reducible refine Kd.C_drew ?_) | exact HR342.out)) | (with_reducible refine Kd.C_alloc ?_ _) | (with_reducible refine Kd.C_drewN ?_ _) | (with_reducible refine Kd.C_drew ?_)))
                           (case side2 => exact HC342.out)
                           rintro e w45 ⟨v344, rfl, ho0, hb⟩
                           have HS0_ := (hb.cell (World.block_lt_of_cell? _ _ (hHeld.1))).trans (hHeld.1)
                           have HS1_ := (hb.cell (World.block_lt_of_cell? _ _ (hHeld.2))).trans (hHeld.2)
                           refine ⟨_, rfl, ?_⟩
                           replace HO_5 := zM (Kd.S_elder' (by (with_reducible repeat (first | apply Kd.S_alloc | apply Kd.S_drewN | apply Kd.S_drew)); exact HO_5.out) (Kd.R_base ho0) hb)
                           have HO345 := zM (Kd.R_lower (Kd.R_new' (Kd.R_new' (Kd.R_new' (Kd.R_new' ho0 (Kd.R_lt (zR HO_4.out))) (Kd.R_lt (zR HL337_0.out))) (Kd.R_lt (zR HL338_0.out))) (Kd.R_lt (zR HL346_0.out))) (below_size zB))
                           replace HO_4 := zM (Kd.R_elder' (zR HO_4.out) (Kd.R_base ho0) hb)
                           replace HL337_0 := zM (Kd.R_elder' (zR HL337_0.out) (Kd.R_base ho0) hb)
                           replace HL338_0 := zM (Kd.R_elder' (zR HL338_0.out) (Kd.R_base ho0) hb)
                           replace HL346_0 := zM (Kd.R_elder' (zR HL346_0.out) (Kd.R_base ho0) hb)
                           replace BK329 := zM (blk_below (g := gb329) (o := .cells #[.slice A0_0 l0_0.length c0_0, .slice A0_1 l0_1.length c0_1] 30 (0, 0)) (zK BK329.out) hb)
                           replace HR337_0 := zM (Kd.C_below (by repeat (first | (with_reducible exact HR337_0.out) | (with_reducible refine Kd.C_alloc ?_ _) | (with_reducible refine Kd.C_drewN ?_ _) | (with_reducible refine Kd.C_drew ?_) | exact HR337_0.out)) hb)
                           replace HR338_0 := zM (Kd.C_below (by repeat (first | (with_reducible exact HR338_0.out) | (with_reducible refine Kd.C_alloc ?_ _) | (with_reducible refine Kd.C_drewN ?_ _) | (with_reducible refine Kd.C_drew ?_) | exact HR338_0.out)) hb)
                           replace HR342 := zM (Kd.C_below (by repeat (first | (with_reducible exact HR342.out) | (with_reducible refine Kd.C_alloc ?_ _) | (with_reducible refine Kd.C_drewN ?_ _) | (with_reducible refine Kd.C_drew ?_) | exact HR342.out)) hb)
                           replace HR346_0 := zM (Kd.C_below (by repeat (first | (with_reducible exact HR346_0.out) | (with_reducible refine Kd.C_alloc ?_ _) | (with_reducible refine Kd.C_drewN ?_ _) | (with_reducible refine Kd.C_drew ?_) | exact HR346_0.out)) hb)
                           replace HR350 := zM (Kd.C_below (by repeat (first | (with_reducible exact HR350.out) | (with_reducible refine Kd.C_alloc ?_ _) | (with_reducible refine Kd.C_drewN ?_ _) | (with_reducible refine Kd.C_drew ?_) | exact HR350.out)) hb)
                           replace HB := zM (below_step zB hb)
                           (try clear hb)
                           (try clear hb2)
                           (try clear hk)
                           (try clear hi)
                           (try clear ho0)
                           refine hK.out _ _ ⟨HS0_, HS1_⟩ (fun hHeld => ?_)
                           clear hK K
                           refine zn 37 ?_
                           refine last_ (i := 14) (N := some 45) #[true, true, true, true, true, true, true, true, true, true, true, true, true, true, true, false] rfl rfl (one_of HT_.out (by kernel_rfl)) (by decide) (fun K hK => ?_)
                           refine Kd.R_append_rows_step (Kd.int .i64) (w0 := w) w.heap.size (by rfl) (.tmp 37) (.tmp 44) 27 3 (.int .i64 0) 8 rfl Try.underlying27 info3 rfl (by decide) (by omega) v344 t343 y347 _ _ _ (fun k_ => some k_ ≠ (u4 : Value).ownBlock ∧ some k_ ≠ (.slice A337_0 (rd_L1 t334 x6_1).length c337_0 : Value).ownBlock ∧ some k_ ≠ (.slice A338_0 (rd_L1 t334 x6_1).length c338_0 : Value).ownBlock ∧ some k_ ≠ (.slice A338_0 (rd_L1 t334 x6_1).length c338_0 : Value).ownBlock) (fun _ => False) rfl rfl ?aO ?aR (fun _ _ h => h) (fun _ h => h.elim) ?aF ?aB ?aS ?aL ?_
                           (case aR => repeat (first | exact (by repeat (first | (with_reducible exact HR350.out) | (with_reducible refine Kd.C_alloc ?_ _) | (with_reducible refine Kd.C_drewN ?_ _) | (with_reducible refine Kd.C_drew ?_) | exact HR350.out)) | (with_reducible refine Kd.C_alloc ?_ _) | (with_reducible refine Kd.C_drewN ?_ _) | (with_reducible refine Kd.C_drew ?_)))
                           (case aB => exact zB)
                           (case aF => exact (fun k_ hk => ⟨Kd.fresh' (Kd.R_lt (zR HO_4.out)) k_ hk, Kd.fresh' (Kd.R_lt (zR HL337_0.out)) k_ hk, Kd.fresh' (Kd.R_lt (zR HL338_0.out)) k_ hk, Kd.fresh' (Kd.R_lt (zR HL346_0.out)) k_ hk⟩))
                           (case aO => exact (by (with_reducible repeat (first | apply Kd.R_alloc | apply Kd.R_drewN | apply Kd.R_drew)); exact Kd.R_mono HO345.out (fun _ hk => ⟨hk.1.1.1.2, ⟨hk.1.1.2, ⟨hk.1.2, hk.2⟩⟩⟩)))
                           (case aS => exact (below_size zB))
                           (case aL => have := LMc23.out; omega)
                           intro v352 w46 ho hb hg hat
                           rw [← Ny351.out] at ho
                           replace HO_4 := zM (Kd.R_after (ok := (fun _ => True)) (zR HO_4.out) hg hat)
                           replace HO_5 := zM (Kd.S_after (ok := (fun k_ => some k_ ≠ (u4 : Value).ownBlock)) (by (with_reducible repeat (first | apply Kd.S_alloc | apply Kd.S_drewN | apply Kd.S_drew)); exact HO_5.out) hg hat)
                           replace BK329 := zM (blk_grown (g := gb329) (o := .cells #[.slice A0_0 l0_0.length c0_0, .slice A0_1 l0_1.length c0_1] 30 (0, 0)) (zK BK329.out) hg (Kd.R_ne HO345.out BK329.out (by decide)))
                           replace HL337_0 := zM (Kd.R_after (ok := (fun k_ => some k_ ≠ (u4 : Value).ownBlock ∧ some k_ ≠ (.slice (some ad337) t334.length co13 : Value).ownBlock)) (zR HL337_0.out) hg hat)
                           replace HL338_0 := zM (Kd.R_after (ok := (fun k_ => some k_ ≠ (u4 : Value).ownBlock ∧ some k_ ≠ (.slice (some ad337) t334.length co13 : Value).ownBlock)) (zR HL338_0.out) hg hat)
                           replace HL346_0 := zM (Kd.R_after (ok := (fun k_ => some k_ ≠ (u4 : Value).ownBlock ∧ some k_ ≠ (.slice (some ad337) t334.length co13 : Value).ownBlock)) (zR HL346_0.out) hg hat)
                           replace HB := zM (hb)
                           have HO353 := zM (ho)
                           clear HO345
                           clear ho hb hg hat
                           refine hK.out _ _ ?_
                           clear hK K
                           refine zn 45 ?_
                           refine zp HT_ 15 8 ?_
                           refine zo HT_ ?_
                           have hcz47_0 := zy BK329 0
                           have hcz47_1 := zy BK329 1
                           have hfz47_0 := blk_frozen BK329.out 0
                           have hfz47_1 := blk_frozen BK329.out 1
                           obtain ⟨Ao48, co48, eo48⟩ := Kd.R_slice HO353.out
                           subst eo48
                           try go_wp2_with (first | ((with_reducible refine gate_callee (f := 18) rfl ?_); refine zc 48 Try.func18 #[.agg #[.slice A0_0 l0_0.length c0_0, .slice A0_1 l0_1.length c0_1], .slice Ao48 y351.length co48] ?_; (with_reducible refine (spec_l2Induced.calls k2 _ _ l0_0 _ _ l0_1 _ _ y351 t354 t357 _ ?side1 ?side2 ?side3 ?side4 ?side5 ?side6 A24.out).mono ?_); (case side1 => exact zC (Kd.C_below HR0_0.out HB.out)); (case side2 => exact HC0_0.out); (case side3 => exact zC (Kd.C_below HR0_1.out HB.out)); (case side4 => exact HC0_1.out); (case side5 => exact zC (Kd.R_reads' HO353.out).2.2); (case side6 => exact (Kd.R_reads' HO353.out).2.1); rintro e w49 ⟨v355, v358, rfl, ho0, ho1, hb⟩; refine ⟨_, rfl, ?_⟩; have HO356 := zM (Kd.S_lower (Kd.S_new' (Kd.S_new' (Kd.S_new' (Kd.S_new' (Kd.S_new' (Kd.S_new' ho0 (Kd.R_lt (zR HO_4.out))) (Kd.S_lt (by (with_reducible repeat (first | apply Kd.S_alloc | apply Kd.S_drewN | apply Kd.S_drew)); exact HO_5.out))) (Kd.R_lt (zR HL337_0.out))) (Kd.R_lt (zR HL338_0.out))) (Kd.R_lt (zR HL346_0.out))) (Kd.R_lt (zR HO353.out))) (below_size zB)); replace HO_4 := zM (Kd.R_below (zR HO_4.out) hb); replace HO_5 := zM (Kd.S_elder' (by (with_reducible repeat (first | apply Kd.S_alloc | apply Kd.S_drewN | apply Kd.S_drew)); exact HO_5.out) (Kd.S_base ho0) hb); replace HL337_0 := zM (Kd.R_below (zR HL337_0.out) hb); replace HL338_0 := zM (Kd.R_below (zR HL338_0.out) hb); replace HL346_0 := zM (Kd.R_below (zR HL346_0.out) hb); replace HO353 := zM (Kd.R_below (zR HO353.out) hb); have HO359 := zM (Kd.R_lower ho1 (below_size zB)); replace BK329 := zM (blk_below (g := gb329) (o := .cells #[.slice A0_0 l0_0.length c0_0, .slice A0_1 l0_1.length c0_1] 30 (0, 0)) (zK BK329.out) hb); replace HB := zM (below_step zB hb); (try clear hb); (try clear hb2); (try clear hk); (try clear hi); (try clear ho0); (try clear ho1); obtain ⟨Ao50, co50, eo50⟩ := Kd.S_slice HO356.out; subst eo50; obtain ⟨Ao51, co51, eo51⟩ := Kd.R_slice HO359.out; subst eo51) | ((with_reducible refine gate_callee (f := 16) rfl ?_); refine zc 49 Try.func16 #[.agg #[.slice Ao50 t354.length co50, .slice Ao51 t357.length co51]] ?_; (with_reducible refine (spec_l2Parts.calls k2 _ _ t354 _ _ t357 t360 _ ?side1 ?side2 ?side3 ?side4 A25.out).mono ?_); (case side1 => exact zC (Kd.S_reads' HO356.out).2.2); (case side2 => exact (Kd.S_reads' HO356.out).2.1); (case side3 => exact zC (Kd.R_reads' HO359.out).2.2); (case side4 => exact (Kd.R_reads' HO359.out).2.1); rintro e w52 ⟨v361, rfl, ho0, hb⟩; refine ⟨_, rfl, ?_⟩; replace HO359 := zM (Kd.R_below (zR HO359.out) hb); have HO362 := zM (Kd.S_lower (Kd.S_new' (Kd.S_new' (Kd.S_new' (Kd.S_new' (Kd.S_new' (Kd.S_new' (Kd.S_new' ho0 (Kd.R_lt (zR HO_4.out))) (Kd.S_lt (by (with_reducible repeat (first | apply Kd.S_alloc | apply Kd.S_drewN | apply Kd.S_drew)); exact HO_5.out))) (Kd.R_lt (zR HL337_0.out))) (Kd.R_lt (zR HL338_0.out))) (Kd.R_lt (zR HL346_0.out))) (Kd.R_lt (zR HO353.out))) (Kd.S_lt (by (with_reducible repeat (first | apply Kd.S_alloc | apply Kd.S_drewN | apply Kd.S_drew)); exact HO356.out))) (below_size zB)); replace HO_4 := zM (Kd.R_below (zR HO_4.out) hb); replace HO_5 := zM (Kd.S_elder' (by (with_reducible repeat (first | apply Kd.S_alloc | apply Kd.S_drewN | apply Kd.S_drew)); exact HO_5.out) (Kd.S_base ho0) hb); replace HL337_0 := zM (Kd.R_below (zR HL337_0.out) hb); replace HL338_0 := zM (Kd.R_below (zR HL338_0.out) hb); replace HL346_0 := zM (Kd.R_below (zR HL346_0.out) hb); replace HO353 := zM (Kd.R_below (zR HO353.out) hb); replace HO356 := zM (Kd.S_elder' (by (with_reducible repeat (first | apply Kd.S_alloc | apply Kd.S_drewN | apply Kd.S_drew)); exact HO356.out) (Kd.S_base ho0) hb); replace BK329 := zM (blk_below (g := gb329) (o := .cells #[.slice A0_0 l0_0.length c0_0, .slice A0_1 l0_1.length c0_1] 30 (0, 0)) (zK BK329.out) hb); replace HB := zM (below_step zB hb); (try clear hb); (try clear hb2); (try clear hk); (try clear hi); (try clear ho0); obtain ⟨Ao53, co53, eo53⟩ := Kd.S_slice HO362.out; subst eo53))
                           go_roundg k2
                           case measure => have := HK1.out; have := HK2.out; omega
                           case rel => exact ⟨(x4_2), (ji20), (by first | rfl | (simp; done) | (simp only [← hji20] <;> (first | rfl | simp)) | (simp [*]; done)), H', ⟨by have := HK1.out; have := HK2.out; omega⟩, ⟨by (with_reducible repeat (first | apply Kd.R_alloc | apply Kd.R_drewN | apply Kd.R_drew)); exact Kd.R_mono HO_4.out (fun _ hk => trivial)⟩, ⟨by (with_reducible repeat (first | apply Kd.S_alloc | apply Kd.S_drewN | apply Kd.S_drew)); exact Kd.S_mono HO_5.out (fun _ hk => hk.1.1.1)⟩, ⟨zK BK329.out⟩, ⟨zB⟩⟩
                       · rw [if_neg c23] at H
                         exact absurd H (by simp)
                     · rw [if_neg c22] at H
                       exact absurd H (by simp)
                   · rw [if_neg c21] at H
                     exact absurd H (by simp)
                 · rw [if_neg c18] at H
                   exact absurd H (by simp)
               · rw [if_neg c17] at H
                 exact absurd H (by simp)
             · rw [if_neg c16] at H
               have c16b0 : decide (x7_2 < ((rd_L1 t334 x6_1).length : Int)) = false := decide_eq_false c16
               clear c16
               have H' := Aside0.mk H
               clear H
               have p337 : 0 ≤ (x6_1 : Int) := of_decide_eq_true zA
               have q337 : x6_1 < (t334.length : Int) := of_decide_eq_true zA
               obtain ⟨ad337, A337_0, c337_0, e337, hx337_0, hl337_0, hi337_0⟩ := at_L1 (Kd.S_reads' HO_5.out).2.2 x6_1 p337 q337
               cases e337
               obtain ⟨ce337, hce337, hMe337, hcc337⟩ := Kd.S_get HO_5.out [] x6_1 p337 (by first | exact q337 | exact of_decide_eq_true zA | (have e_ := (Kd.S_reads' HO_5.out).1; omega))
               obtain ⟨ve337_0, rfl, ge337_0⟩ := hMe337
               have hv337_0 := hcc337 0 _ rfl
               rw [Nat.add_zero, show ((Kd.slice 3 (Kd.int .i64))).sz = 1 from rfl, Nat.mul_one] at hv337_0
               replace hv337_0 := Option.some.inj (hv337_0.symm.trans hx337_0)
               rw [hv337_0] at ge337_0
               have HL337_0 := zM (show Kd.R (Kd.int .i64) 3 _ _ _ _ (rd_L1 t334 x6_1) from ge337_0)
               clear hv337_0 ge337_0
               clear hcc337 hce337
               have HR337_0 := Aside0.mk hi337_0
               have HC337_0 := Aside0.mk hl337_0
               clear hi337_0 hl337_0
               replace p337 := eq_true p337
               replace q337 := eq_true q337
               go_wp2
               go_roundg k2
               case measure => have := HK1.out; have := HK2.out; omega
               case rel => exact ⟨(x4_2), (wrap64 (x6_1 + 1)), (by first | rfl | (simp; done) | (simp [*]; done)), H', ⟨by have := HK1.out; have := HK2.out; omega⟩, ⟨zR HO_4.out⟩, ⟨by (with_reducible repeat (first | apply Kd.S_alloc | apply Kd.S_drewN | apply Kd.S_drew)); exact HO_5.out⟩, ⟨zK BK329.out⟩, ⟨zB⟩⟩
           · rw [if_neg c15] at H
             exact absurd H (by simp)
         · rw [if_neg c14] at H
           exact absurd H (by simp)
     · rw [if_neg c12] at H
       have c12b0 : decide (x6_1 < (t334.length : Int)) = false := decide_eq_false c12
       clear c12
       simp only [Option.some.injEq, Prod.mk.injEq] at H
       obtain ⟨rfl, rfl⟩ := H
       obtain ⟨Ao54, co54, eo54⟩ := Kd.S_slice HO_5.out
       subst eo54
       go_wp2
       go_ret2
       exact ⟨_, by first | rfl | (simp [errW_none, errW_some] <;> rfl) | (simp [*, errW_none, errW_some] <;> rfl), by (with_reducible repeat (first | apply Kd.R_alloc | apply Kd.R_drewN | apply Kd.R_drew)); exact HO_4.out, zB⟩
 · replace c3 := Bool.eq_false_iff.mpr c3
   subst c3
   have H1 : (some (y330, false)) = some (r1, r2) := by rw [if_neg (show ¬ (false = true) by decide)] at H; exact H
   clear H
   have H := H1
   clear H1
   simp only [Option.some.injEq, Prod.mk.injEq] at H
   obtain ⟨rfl, rfl⟩ := H
   go_enter Try.func5, Try.ntmps5
   go_wp2_with (first | ((with_reducible refine gate_dst (N := 1) rfl ?_); refine zb (w := w) 1 #[.slice A0_0 l0_0.length c0_0, .slice A0_1 l0_1.length c0_1] 30 zB ?_; clear HB; intro gb329 w55 HB BK329 GW329; have GE329 := GW329) | ((with_reducible refine gate_dst (N := 9) rfl ?_); refine Kd.R_lit (Kd.int .i64) _ 3 ?hg (N := 9) ?hd (xs := ([] : List Int)) (inner := []) (ok := fun _ => True) (okp := fun _ => True) ?hr ?hp (fun _ hk => hk) trivial (Below.refl _ _) (Nat.le_refl _) (by simp) ?_; (case hd => rfl); (case hg => rfl); (case hr => first | (go_simp; done) | (go_simp; rfl)); (case hp => exact (Reps.none _ _)); intro v331 w56 ho57 hb hg_ hnew_; clear hg_ hnew_; (first | rw [← Ny330.out] at ho57 | (simp only [Int.reduceToNat] at ho57; rw [← Ny330.out] at ho57)); have HO332 := zM (Kd.R_lower ho57 (below_size zB)); replace BK329 := zM (blk_below (g := gb329) (o := .cells #[.slice A0_0 l0_0.length c0_0, .slice A0_1 l0_1.length c0_1] 30 (0, 0)) (zK BK329.out) hb); replace HB := zM (below_step zB hb); clear hb ho57; have hcz58_0 := zy BK329 0; have hcz58_1 := zy BK329 1; have hfz58_0 := blk_frozen BK329.out 0; have hfz58_1 := blk_frozen BK329.out 1) | ((with_reducible refine gate_callee (f := 15) rfl ?_); refine zc 11 Try.func15 #[.agg #[.slice A0_0 l0_0.length c0_0, .slice A0_1 l0_1.length c0_1]] ?_; (with_reducible refine (spec_l2Space.calls k _ _ l0_0 _ _ l0_1 false _ ?side1 ?side2 ?side3 ?side4 A2.out).mono ?_); (case side1 => exact zC (Kd.C_below HR0_0.out HB.out)); (case side2 => exact HC0_0.out); (case side3 => exact zC (Kd.C_below HR0_1.out HB.out)); (case side4 => exact HC0_1.out); rintro e w59 ⟨rfl, hb⟩; refine ⟨_, rfl, ?_⟩; replace HO332 := zM (Kd.R_below (zR HO332.out) hb); replace BK329 := zM (blk_below (g := gb329) (o := .cells #[.slice A0_0 l0_0.length c0_0, .slice A0_1 l0_1.length c0_1] 30 (0, 0)) (zK BK329.out) hb); replace HB := zM (below_step zB hb); (try clear hb); (try clear hb2); (try clear hk); (try clear hi)))
   go_ret2
   exact ⟨_, by first | rfl | (simp [errW_none, errW_some] <;> rfl) | (simp [*, errW_none, errW_some] <;> rfl), by (with_reducible repeat (first | apply Kd.R_alloc | apply Kd.R_drewN | apply Kd.R_drew)); exact HO332.out, zB⟩

end Go.Proofs.Ytaemfocjokkopaa.P
