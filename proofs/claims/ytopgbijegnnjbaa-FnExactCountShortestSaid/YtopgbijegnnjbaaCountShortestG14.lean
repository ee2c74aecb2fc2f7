-- Written by a program of this session (the kit's print, turned: wip/print/patch.py) out of the translation. Not trusted: Lean checks it.
import Derived.Test.YtopgbijegnnjbaaCountShortestG5
import Derived.Test.YtopgbijegnnjbaaCountShortestG11
import Derived.Test.YtopgbijegnnjbaaCountShortestG12
import Derived.Test.YtopgbijegnnjbaaCountShortestG13
namespace Go.Proofs.Ytopgbijegnnjbaa.P
open Go.RowKit Go.Proofs.YtopgbijegnnjbaaW.PrintWords Go.Proofs.YtopgbijegnnjbaaW.PrintLast Go.Proofs.YtopgbijegnnjbaaW.PrintMore
attribute [local go_sem] max2_int min2_int max_two min_two max_three min_three max_four min_four   -- for this text's walks alone
set_option linter.unusedVariables false
set_option linter.unusedSimpArgs false

/-! ### spec_CountShortest: function 5 -/
mutual
def spec_CountShortest.j0 : Nat → Int → Int → Bool → List (List Int) → List (S50) → Option (Int × Bool)
 | 0, _, _, _, _, _ => none
 | k + 1, x1, x2, x24, x258000, x258001 => if x24 = true then (some (0, false)) else ((spec_l2Lists.f k x258000 x258001).bind fun t260 => ((spec_l2Spread.f k t260 x1).bind fun t263 => (if 0 ≤ x2 then (if x2 < (t263.length : Int) then (if (rd t263 x2) < 0 then (some (0, false)) else (if 0 ≤ (t260.length : Int) then (if ((t260.length : Int) : Int).toNat ≤ 35184372088832 then ((some (List.replicate ((t260.length : Int) : Int).toNat 0 : List Int)).bind fun y267 => (if 0 ≤ x1 then (if x1 < (y267.length : Int) then (spec_CountShortest.l0 k x2 t260 t263 (y267.set (x1 : Int).toNat 1) 0) else (none)) else (none))) else (none)) else (none))) else (none)) else (none))))
def spec_CountShortest.l0 : Nat → Int → List (List Int) → List Int → List Int → Int → Option (Int × Bool)
 | 0, _, _, _, _, _ => none
 | k + 1, x2, x8, x9, x10, x11 => if 0 ≤ x2 then (if x2 < (x9.length : Int) then (if x11 < (rd x9 x2) then (spec_CountShortest.l1 k x2 x8 x9 x10 x11 0) else (if x2 < (x10.length : Int) then (some (rd x10 x2, true)) else (none))) else (none)) else (none)
def spec_CountShortest.l1 : Nat → Int → List (List Int) → List Int → List Int → Int → Int → Option (Int × Bool)
 | 0, _, _, _, _, _, _ => none
 | k + 1, x2, x8, x9, x10, x11, x12 => if x12 < (x8.length : Int) then (spec_CountShortest.l2 k x2 x8 x9 x10 x11 x12 0) else (spec_CountShortest.l0 k x2 x8 x9 x10 (wrap64 (x11 + 1)))
def spec_CountShortest.l2 : Nat → Int → List (List Int) → List Int → List Int → Int → Int → Int → Option (Int × Bool)
 | 0, _, _, _, _, _, _, _ => none
 | k + 1, x2, x8, x9, x10, x11, x12, x13 => if 0 ≤ x12 then (if x12 < (x8.length : Int) then (if x13 < ((rd_L1 x8 x12).length : Int) then (if x12 < (x9.length : Int) then (spec_CountShortest.j4 k x2 x8 x9 x10 x11 x12 x13 ((rd x9 x12) == x11)) else (none)) else (spec_CountShortest.j4 k x2 x8 x9 x10 x11 x12 x13 false)) else (none)) else (none)
def spec_CountShortest.j4 : Nat → Int → List (List Int) → List Int → List Int → Int → Int → Int → Bool → Option (Int × Bool)
 | 0, _, _, _, _, _, _, _, _ => none
 | k + 1, x2, x8, x9, x10, x11, x12, x13, x69 => if x69 = true then (if 0 ≤ x12 then (if x12 < (x8.length : Int) then (if 0 ≤ x13 then (if x13 < ((rd_L1 x8 x12).length : Int) then (if 0 ≤ (rd (rd_L1 x8 x12) x13) then (if (rd (rd_L1 x8 x12) x13) < (x9.length : Int) then (if (rd x9 (rd (rd_L1 x8 x12) x13)) = (wrap64 (x11 + 1)) then (if (rd (rd_L1 x8 x12) x13) < (x10.length : Int) then (if x12 < (x10.length : Int) then ((spec_l1Least.f (wrap64 ((rd x10 (rd (rd_L1 x8 x12) x13)) + (rd x10 x12))) 1000000).bind fun t280 => (spec_CountShortest.l2 k x2 x8 x9 (x10.set ((rd (rd_L1 x8 x12) x13) : Int).toNat t280) x11 x12 (wrap64 (x13 + 1)))) else (none)) else (none)) else (spec_CountShortest.l2 k x2 x8 x9 x10 x11 x12 (wrap64 (x13 + 1)))) else (none)) else (none)) else (none)) else (none)) else (none)) else (none)) else (spec_CountShortest.l1 k x2 x8 x9 x10 x11 (wrap64 (x12 + 1)))
end
def spec_CountShortest.f (k : Nat) (l0_0 : List (List Int)) (l0_1 : List (S50)) (a1 : Int) (a2 : Int) : Option (Int × Bool) := (spec_l2Place.f k l0_0 l0_1 a1).bind fun t258 => (if t258 = true then ((spec_l2Place.f k l0_0 l0_1 a2).bind fun t259 => (spec_CountShortest.j0 k a1 a2 (!t259) l0_0 l0_1)) else (spec_CountShortest.j0 k a1 a2 true l0_0 l0_1))
def spec_CountShortest.T20 : Bool × List (List Nat × List Nat) := (true, [([], []), ([], []), ([], []), ([], []), ([2, 3], [2, 3]), ([4], [4]), ([], []), ([], []), ([6, 7], [6, 7]), ([8], [8]), ([5, 9], [5, 9]), ([10], [10]), ([0, 1, 0, 1, 2, 3, 4, 5, 6, 7, 8, 9, 10, 11], [0, 1]), ([12, 11, 11, 0, 1, 2, 3, 4, 5, 6, 7, 8, 9, 10, 11], [11, 12])])
def spec_CountShortest.B20 : List Nat := [0, 0, 0, 0, 12, 28, 0, 0, 192, 448, 1020, 2044, 4095, 8191]
theorem spec_CountShortest.tab20 : rtab .any (opsOf Try.f5 20) = spec_CountShortest.T20 := by kernel_rfl
theorem spec_CountShortest.bits20 : waitsOk spec_CountShortest.T20.2 spec_CountShortest.B20 = true := by kernel_rfl
set_option maxHeartbeats 8000000 in
set_option maxRecDepth 100000 in
theorem spec_CountShortest.calls (k : Nat) (A0_0 : Option Addr) (c0_0 : Nat) (l0_0 : List (List Int)) (A0_1 : Option Addr) (c0_1 : Nat) (l0_1 : List (S50)) (a1 : Int) (a2 : Int) (r1 : Int) (r2 : Bool) (w : World) (hr0_0 : Kd.C (Kd.slice 3 (Kd.int .i64)) w A0_0 l0_0.length l0_0) (hc0_0 : l0_0.length ≤ c0_0) (hr0_1 : Kd.C k50 w A0_1 l0_1.length l0_1) (hc0_1 : l0_1.length ≤ c0_1) (h : spec_CountShortest.f k l0_0 l0_1 a1 a2 = some (r1, r2)) :
 Calls Try.prog 5 #[.agg #[.slice A0_0 l0_0.length c0_0, .slice A0_1 l0_1.length c0_1], .int .i64 a1, .int .i64 a2] w fun e w' => e = .returned (.tuple #[.int .i64 r1, .bool r2]) ∧ Below w.heap.size w w' := by
 have hu29 := Try.underlying29
 have HR0_0 := Aside0.mk hr0_0
 have HC0_0 := Aside0.mk hc0_0
 clear hr0_0 hc0_0
 have HR0_1 := Aside0.mk hr0_1
 have HC0_1 := Aside0.mk hc0_1
 clear hr0_1 hc0_1
 have HB := zM (Below.refl w.heap.size w)
 have H : ((spec_l2Place.f k l0_0 l0_1 a1).bind fun t258 => (if t258 = true then ((spec_l2Place.f k l0_0 l0_1 a2).bind fun t259 => (spec_CountShortest.j0 k a1 a2 (!t259) l0_0 l0_1)) else (spec_CountShortest.j0 k a1 a2 true l0_0 l0_1))) = some (r1, r2) := h
 clear h
 have HC4 := Aside0.mk H
 clear H
 go_enter Try.func5, Try.ntmps5
 go_upto_region 1 with (first | ((with_reducible refine gate_dst (N := 3) rfl ?_); refine zb (w := w) 3 #[.slice A0_0 l0_0.length c0_0, .slice A0_1 l0_1.length c0_1] 29 zB ?_; clear HB; intro gb257 w5 HB BK257 GW257; have GE257 := GW257))
 (try simp only [Act.put, List.setIfInBounds_toArray, List.set_cons_zero, List.set_cons_succ])
 go_cut [24] (fun v24 wc => ∃ (kq : Nat) (x24_3 : Bool), v24 = .bool x24_3 ∧ Aside0 (spec_CountShortest.j0 kq a1 a2 x24_3 l0_0 l0_1 = some (r1, r2)) ∧ Aside0 (kq ≤ k) ∧ Aside0 (wc.heap[gb257]? = some (.cells #[(.slice A0_0 l0_0.length c0_0), (.slice A0_1 l0_1.length c0_1)] 29 (0, 0))) ∧ Aside0 (Below w.heap.size w wc))
 case first =>
  have H := HC4.out
  clear HC4
  replace H := Option.bind_eq_some_iff.mp H
  obtain ⟨t258, A60, H⟩ := H
  replace H : (if t258 = true then ((spec_l2Place.f k l0_0 l0_1 a2).bind fun t259 => (spec_CountShortest.j0 k a1 a2 (!t259) l0_0 l0_1)) else (spec_CountShortest.j0 k a1 a2 true l0_0 l0_1)) = some (r1, r2) := H
  have A6 := Aside0.mk A60
  clear A60
  by_cases c7 : t258 = true
  · subst c7
    have H1 : ((spec_l2Place.f k l0_0 l0_1 a2).bind fun t259 => (spec_CountShortest.j0 k a1 a2 (!t259) l0_0 l0_1)) = some (r1, r2) := by rw [if_pos rfl] at H; exact H
    clear H
    have H := H1
    clear H1
    replace H := Option.bind_eq_some_iff.mp H
    obtain ⟨t259, A80, H⟩ := H
    replace H : (spec_CountShortest.j0 k a1 a2 (!t259) l0_0 l0_1) = some (r1, r2) := H
    have A8 := Aside0.mk A80
    clear A80
    have H' := Aside0.mk H
    clear H
    have hcz9_0 := zy BK257 0
    have hcz9_1 := zy BK257 1
    have hfz9_0 := blk_frozen BK257.out 0
    have hfz9_1 := blk_frozen BK257.out 1
    go_wp2_with (first | ((with_reducible refine gate_callee (f := 11) rfl ?_); refine zc 17 Try.func11 #[.agg #[.slice A0_0 l0_0.length c0_0, .slice A0_1 l0_1.length c0_1], .int .i64 a1] ?_; (with_reducible refine (spec_l2Place.calls k _ _ l0_0 _ _ l0_1 a1 true _ ?side1 ?side2 ?side3 ?side4 A6.out).mono ?_); (case side1 => exact zC (Kd.C_below HR0_0.out HB.out)); (case side2 => exact HC0_0.out); (case side3 => exact zC (Kd.C_below HR0_1.out HB.out)); (case side4 => exact HC0_1.out); rintro e w10 ⟨rfl, hb⟩; refine ⟨_, rfl, ?_⟩; replace BK257 := zM (blk_below (g := gb257) (o := .cells #[.slice A0_0 l0_0.length c0_0, .slice A0_1 l0_1.length c0_1] 29 (0, 0)) (zK BK257.out) hb); replace HB := zM (below_step zB hb); (try clear hb); (try clear hb2); (try clear hk); (try clear hi); have hcz11_0 := zy BK257 0; have hcz11_1 := zy BK257 1; have hfz11_0 := blk_frozen BK257.out 0; have hfz11_1 := blk_frozen BK257.out 1) | (go_at_call 11; (with_reducible refine (spec_l2Place.calls k _ _ l0_0 _ _ l0_1 a2 t259 _ ?side1 ?side2 ?side3 ?side4 A8.out).mono ?_); (case side1 => exact zC (Kd.C_below HR0_0.out HB.out)); (case side2 => exact HC0_0.out); (case side3 => exact zC (Kd.C_below HR0_1.out HB.out)); (case side4 => exact HC0_1.out); rintro e w12 ⟨rfl, hb⟩; replace BK257 := zM (blk_below (g := gb257) (o := .cells #[.slice A0_0 l0_0.length c0_0, .slice A0_1 l0_1.length c0_1] 29 (0, 0)) (zK BK257.out) hb); replace HB := zM (below_step zB hb); (try clear hb); (try clear hb2); (try clear hk); (try clear hi)))
    go_meet
    case rel => exact ⟨_, (!t259), (by first | rfl | (simp; done) | (simp [*]; done)), H', ⟨by first | omega | exact Nat.le_refl _⟩, ⟨zK BK257.out⟩, ⟨zB⟩⟩
  · replace c7 := Bool.eq_false_iff.mpr c7
    subst c7
    have H1 : (spec_CountShortest.j0 k a1 a2 true l0_0 l0_1) = some (r1, r2) := by rw [if_neg (show ¬ (false = true) by decide)] at H; exact H
    clear H
    have H := H1
    clear H1
    have H' := Aside0.mk H
    clear H
    have hcz13_0 := zy BK257 0
    have hcz13_1 := zy BK257 1
    have hfz13_0 := blk_frozen BK257.out 0
    have hfz13_1 := blk_frozen BK257.out 1
    go_wp2_with (first | ((with_reducible refine gate_callee (f := 11) rfl ?_); refine zc 17 Try.func11 #[.agg #[.slice A0_0 l0_0.length c0_0, .slice A0_1 l0_1.length c0_1], .int .i64 a1] ?_; (with_reducible refine (spec_l2Place.calls k _ _ l0_0 _ _ l0_1 a1 false _ ?side1 ?side2 ?side3 ?side4 A6.out).mono ?_); (case side1 => exact zC (Kd.C_below HR0_0.out HB.out)); (case side2 => exact HC0_0.out); (case side3 => exact zC (Kd.C_below HR0_1.out HB.out)); (case side4 => exact HC0_1.out); rintro e w14 ⟨rfl, hb⟩; refine ⟨_, rfl, ?_⟩; replace BK257 := zM (blk_below (g := gb257) (o := .cells #[.slice A0_0 l0_0.length c0_0, .slice A0_1 l0_1.length c0_1] 29 (0, 0)) (zK BK257.out) hb); replace HB := zM (below_step zB hb); (try clear hb); (try clear hb2); (try clear hk); (try clear hi)))
    go_meet
    case rel => exact ⟨_, (true), (by first | rfl | (simp; done) | (simp [*]; done)), H', ⟨by first | omega | exact Nat.le_refl _⟩, ⟨zK BK257.out⟩, ⟨zB⟩⟩
 case rest =>
  clear HC4
  try clear c1
  try clear p2
  try clear c5
  try clear c7
  try clear c11
  try clear hcz11_0
  try clear hcz11_1
  try clear hcz13_0
  try clear hcz13_1
  try clear hcz9_0
  try clear hcz9_1
  try clear hfz11_0
  try clear hfz11_1
  try clear hfz13_0
  try clear hfz13_1
  try clear hfz9_0
  try clear hfz9_1
  obtain ⟨kq, x24_3, rfl, HA, HJ3, BK257, HB⟩ := hcut
  cases kq with
  | zero => exact absurd HA.out (by simp [spec_CountShortest.j0])
  | succ kj3 =>
   have H := HA.out
   clear HA
   simp only [spec_CountShortest.j0] at H
   by_cases c15 : x24_3 = true
   · subst c15
     have H1 : (some (0, false)) = some (r1, r2) := by rw [if_pos rfl] at H; exact H
     clear H
     have H := H1
     clear H1
     simp only [Option.some.injEq, Prod.mk.injEq] at H
     obtain ⟨rfl, rfl⟩ := H
     go_wp2
     go_ret2
     exact ⟨by first | rfl | (simp [errW_none, errW_some] <;> rfl) | (simp [*, errW_none, errW_some] <;> rfl), zB⟩
   · replace c15 := Bool.eq_false_iff.mpr c15
     subst c15
     have H1 : ((spec_l2Lists.f kj3 l0_0 l0_1).bind fun t260 => ((spec_l2Spread.f kj3 t260 a1).bind fun t263 => (if 0 ≤ a2 then (if a2 < (t263.length : Int) then (if (rd t263 a2) < 0 then (some (0, false)) else (if 0 ≤ (t260.length : Int) then (if ((t260.length : Int) : Int).toNat ≤ 35184372088832 then ((some (List.replicate ((t260.length : Int) : Int).toNat 0 : List Int)).bind fun y267 => (if 0 ≤ a1 then (if a1 < (y267.length : Int) then (spec_CountShortest.l0 kj3 a2 t260 t263 (y267.set (a1 : Int).toNat 1) 0) else (none)) else (none))) else (none)) else (none))) else (none)) else (none)))) = some (r1, r2) := by rw [if_neg (show ¬ (false = true) by decide)] at H; exact H
     clear H
     have H := H1
     clear H1
     replace H := Option.bind_eq_some_iff.mp H
     obtain ⟨t260, A160, H⟩ := H
     replace H : ((spec_l2Spread.f kj3 t260 a1).bind fun t263 => (if 0 ≤ a2 then (if a2 < (t263.length : Int) then (if (rd t263 a2) < 0 then (some (0, false)) else (if 0 ≤ (t260.length : Int) then (if ((t260.length : Int) : Int).toNat ≤ 35184372088832 then ((some (List.replicate ((t260.length : Int) : Int).toNat 0 : List Int)).bind fun y267 => (if 0 ≤ a1 then (if a1 < (y267.length : Int) then (spec_CountShortest.l0 kj3 a2 t260 t263 (y267.set (a1 : Int).toNat 1) 0) else (none)) else (none))) else (none)) else (none))) else (none)) else (none))) = some (r1, r2) := H
     have A16 := Aside0.mk A160
     clear A160
     replace H := Option.bind_eq_some_iff.mp H
     obtain ⟨t263, A170, H⟩ := H
     replace H : (if 0 ≤ a2 then (if a2 < (t263.length : Int) then (if (rd t263 a2) < 0 then (some (0, false)) else (if 0 ≤ (t260.length : Int) then (if ((t260.length : Int) : Int).toNat ≤ 35184372088832 then ((some (List.replicate ((t260.length : Int) : Int).toNat 0 : List Int)).bind fun y267 => (if 0 ≤ a1 then (if a1 < (y267.length : Int) then (spec_CountShortest.l0 kj3 a2 t260 t263 (y267.set (a1 : Int).toNat 1) 0) else (none)) else (none))) else (none)) else (none))) else (none)) else (none)) = some (r1, r2) := H
     have A17 := Aside0.mk A170
     clear A170
     by_cases c18 : 0 ≤ a2
     · rw [if_pos c18] at H
       have c18b0 := decide_eq_true c18
       clear c18
       by_cases c19 : a2 < (t263.length : Int)
       · rw [if_pos c19] at H
         have c19b0 := decide_eq_true c19
         clear c19
         by_cases c20 : (rd t263 a2) < 0
         · rw [if_pos c20] at H
           have c20b0 := decide_eq_true c20
           clear c20
           simp only [Option.some.injEq, Prod.mk.injEq] at H
           obtain ⟨rfl, rfl⟩ := H
           have hcz21_0 := zy BK257 0
           have hcz21_1 := zy BK257 1
           have hfz21_0 := blk_frozen BK257.out 0
           have hfz21_1 := blk_frozen BK257.out 1
           go_wp2_with (first | ((with_reducible refine gate_callee (f := 12) rfl ?_); refine zc 26 Try.func12 #[.agg #[.slice A0_0 l0_0.length c0_0, .slice A0_1 l0_1.length c0_1]] ?_; (with_reducible refine (spec_l2Lists.calls kj3 _ _ l0_0 _ _ l0_1 t260 _ ?side1 ?side2 ?side3 ?side4 A16.out).mono ?_); (case side1 => exact zC (Kd.C_below HR0_0.out HB.out)); (case side2 => exact HC0_0.out); (case side3 => exact zC (Kd.C_below HR0_1.out HB.out)); (case side4 => exact HC0_1.out); rintro e w22 ⟨v261, rfl, ho0, hb⟩; refine ⟨_, rfl, ?_⟩; have HO262 := zM (Kd.S_lower ho0 (below_size zB)); replace BK257 := zM (blk_below (g := gb257) (o := .cells #[.slice A0_0 l0_0.length c0_0, .slice A0_1 l0_1.length c0_1] 29 (0, 0)) (zK BK257.out) hb); replace HB := zM (below_step zB hb); (try clear hb); (try clear hb2); (try clear hk); (try clear hi); (try clear ho0); obtain ⟨Ao23, co23, eo23⟩ := Kd.S_slice HO262.out; subst eo23) | ((with_reducible refine gate_callee (f := 13) rfl ?_); refine zc 29 Try.func13 #[.slice Ao23 t260.length co23, .int .i64 a1] ?_; (with_reducible refine (spec_l2Spread.calls kj3 _ _ t260 a1 t263 _ ?side1 ?side2 A17.out).mono ?_); (case side1 => exact zC (Kd.S_reads' HO262.out).2.2); (case side2 => exact (Kd.S_reads' HO262.out).2.1); rintro e w24 ⟨v264, rfl, ho0, hb⟩; refine ⟨_, rfl, ?_⟩; replace HO262 := zM (Kd.S_elder' (by (with_reducible repeat (first | apply Kd.S_alloc | apply Kd.S_drewN | apply Kd.S_drew)); exact HO262.out) (Kd.R_base ho0) hb); have HO265 := zM (Kd.R_lower ho0 (below_size zB)); replace BK257 := zM (blk_below (g := gb257) (o := .cells #[.slice A0_0 l0_0.length c0_0, .slice A0_1 l0_1.length c0_1] 29 (0, 0)) (zK BK257.out) hb); replace HB := zM (below_step zB hb); (try clear hb); (try clear hb2); (try clear hk); (try clear hi); (try clear ho0); obtain ⟨Ao25, co25, eo25⟩ := Kd.R_slice HO265.out; subst eo25; have p266 : 0 ≤ (a2 : Int) := of_decide_eq_true zA; have q266 : a2 < (t263.length : Int) := of_decide_eq_true zA; obtain ⟨ad266, e266, hx266_0⟩ := Kd.at_int (Kd.R_reads' HO265.out).2.2 a2 p266 q266; cases e266; replace p266 := eq_true p266; replace q266 := eq_true q266))
           go_ret2
           exact ⟨by first | rfl | (simp [errW_none, errW_some] <;> rfl) | (simp [*, errW_none, errW_some] <;> rfl), zB⟩
         · rw [if_neg c20] at H
           have c20b0 : decide ((rd t263 a2) < 0) = false := decide_eq_false c20
           clear c20
           by_cases c26 : 0 ≤ (t260.length : Int)
           · rw [if_pos c26] at H
             have c26b0 := eq_true c26
             have c26b1 : decide (0 ≤ (t260.length : Int)) = true := decide_eq_true c26
             clear c26
             by_cases c27 : ((t260.length : Int) : Int).toNat ≤ 35184372088832
             · rw [if_pos c27] at H
               have c27b0 := eq_true c27
               have c27b1 : decide (((t260.length : Int) : Int).toNat ≤ 35184372088832) = true := decide_eq_true c27
               clear c27
               obtain ⟨y267, hy267⟩ : ∃ y_ : List Int, y_ = (List.replicate ((t260.length : Int) : Int).toNat 0) := ⟨_, rfl⟩
               replace H : (if 0 ≤ a1 then (if a1 < (y267.length : Int) then (spec_CountShortest.l0 kj3 a2 t260 t263 (y267.set (a1 : Int).toNat 1) 0) else (none)) else (none)) = some (r1, r2) := by first | (rw [hy267]; with_reducible exact H) | (have H2_ := (Option.bind_some _ _).symm.trans H; rw [hy267]; with_reducible exact H2_) | (have H2_ := (Option.bind_some _ _).symm.trans H; with_reducible exact H2_) | with_reducible exact H | (rw [hy267]; exact H) | exact H
               have Ny267 := Aside0.mk hy267
               clear hy267
               by_cases c28 : 0 ≤ a1
               · rw [if_pos c28] at H
                 have c28b0 := decide_eq_true c28
                 clear c28
                 by_cases c29 : a1 < (y267.length : Int)
                 · rw [if_pos c29] at H
                   have c29b0 := decide_eq_true c29
                   clear c29
                   obtain ⟨y270, hy270⟩ : ∃ y_ : List Int, y_ = (y267.set (a1 : Int).toNat 1) := ⟨_, rfl⟩
                   replace H : (spec_CountShortest.l0 kj3 a2 t260 t263 y270 0) = some (r1, r2) := by first | (rw [hy270]; with_reducible exact H) | (have H2_ := (Option.bind_some _ _).symm.trans H; rw [hy270]; with_reducible exact H2_) | (have H2_ := (Option.bind_some _ _).symm.trans H; with_reducible exact H2_) | with_reducible exact H | (rw [hy270]; exact H) | exact H
                   have Ny270 := Aside0.mk hy270
                   clear hy270
                   have H' := Aside0.mk H
                   clear H
                   have hcz31_0 := zy BK257 0
                   have hcz31_1 := zy BK257 1
                   have hfz31_0 := blk_frozen BK257.out 0
                   have hfz31_1 := blk_frozen BK257.out 1
                   go_wp2_with (first | ((with_reducible refine gate_callee (f := 12) rfl ?_); refine zc 26 Try.func12 #[.agg #[.slice A0_0 l0_0.length c0_0, .slice A0_1 l0_1.length c0_1]] ?_; (with_reducible refine (spec_l2Lists.calls kj3 _ _ l0_0 _ _ l0_1 t260 _ ?side1 ?side2 ?side3 ?side4 A16.out).mono ?_); (case side1 => exact zC (Kd.C_below HR0_0.out HB.out)); (case side2 => exact HC0_0.out); (case side3 => exact zC (Kd.C_below HR0_1.out HB.out)); (case side4 => exact HC0_1.out); rintro e w32 ⟨v261, rfl, ho0, hb⟩; refine ⟨_, rfl, ?_⟩; have HO262 := zM (Kd.S_lower ho0 (below_size zB)); replace BK257 := zM (blk_below (g := gb257) (o := .cells #[.slice A0_0 l0_0.length c0_0, .slice A0_1 l0_1.length c0_1] 29 (0, 0)) (zK BK257.out) hb); replace HB := zM (below_step zB hb); (try clear hb); (try clear hb2); (try clear hk); (try clear hi); (try clear ho0); obtain ⟨Ao33, co33, eo33⟩ := Kd.S_slice HO262.out; subst eo33) | ((with_reducible refine gate_callee (f := 13) rfl ?_); refine zc 29 Try.func13 #[.slice Ao33 t260.length co33, .int .i64 a1] ?_; (with_reducible refine (spec_l2Spread.calls kj3 _ _ t260 a1 t263 _ ?side1 ?side2 A17.out).mono ?_); (case side1 => exact zC (Kd.S_reads' HO262.out).2.2); (case side2 => exact (Kd.S_reads' HO262.out).2.1); rintro e w34 ⟨v264, rfl, ho0, hb⟩; refine ⟨_, rfl, ?_⟩; replace HO262 := zM (Kd.S_elder' (by (with_reducible repeat (first | apply Kd.S_alloc | apply Kd.S_drewN | apply Kd.S_drew)); exact HO262.out) (Kd.R_base ho0) hb); have HO265 := zM (Kd.R_lower ho0 (below_size zB)); replace BK257 := zM (blk_below (g := gb257) (o := .cells #[.slice A0_0 l0_0.length c0_0, .slice A0_1 l0_1.length c0_1] 29 (0, 0)) (zK BK257.out) hb); replace HB := zM (below_step zB hb); (try clear hb); (try clear hb2); (try clear hk); (try clear hi); (try clear ho0); obtain ⟨Ao35, co35, eo35⟩ := Kd.R_slice HO265.out; subst eo35; have p266 : 0 ≤ (a2 : Int) := of_decide_eq_true zA; have q266 : a2 < (t263.length : Int) := of_decide_eq_true zA; obtain ⟨ad266, e266, hx266_0⟩ := Kd.at_int (Kd.R_reads' HO265.out).2.2 a2 p266 q266; cases e266; replace p266 := eq_true p266; replace q266 := eq_true q266) | ((with_reducible refine gate_dst (N := 37) rfl ?_); refine Kd.R_make (Kd.int .i64) _ 3 rfl (N := 37) rfl 37 _ _ rfl (t260.length : Int) rfl rfl Try.underlying37 (.int .i64 0) 8 info3 rfl (by decide) (by omega) 0 (ok := fun _ => True) (okp := fun _ => True) rfl (fun _ hk => hk) trivial (of_decide_eq_true zA) (Nat.le_trans (Nat.mul_le_mul_right _ (of_decide_eq_true zA : (t260.length : Int).toNat ≤ 35184372088832)) (by omega)) (Below.refl _ _) (Nat.le_refl _) ?_; intro v268 w36 ho37 hb hg_ hnew_; clear hg_ hnew_; (first | rw [← Ny267.out] at ho37 | (simp only [Int.reduceToNat] at ho37; rw [← Ny267.out] at ho37)); replace HO262 := zM (Kd.S_elder' (by (with_reducible repeat (first | apply Kd.S_alloc | apply Kd.S_drewN | apply Kd.S_drew)); exact HO262.out) (Kd.R_base ho37) hb); have HO269 := zM (Kd.R_lower (Kd.R_new' ho37 (Kd.R_lt (zR HO265.out))) (below_size zB)); replace HO265 := zM (Kd.R_elder' (zR HO265.out) (Kd.R_base ho37) hb); replace BK257 := zM (blk_below (g := gb257) (o := .cells #[.slice A0_0 l0_0.length c0_0, .slice A0_1 l0_1.length c0_1] 29 (0, 0)) (zK BK257.out) hb); replace HB := zM (below_step zB hb); clear hb ho37; have p30 : 0 ≤ (a1 : Int) := of_decide_eq_true zA; have q30 : (a1 : Int) < ((y267.length : Int) : Int) := of_decide_eq_true zA; obtain ⟨go30, co30, eo30, gb30, gl30, cl30, HG30⟩ := Kd.R_form HO269.out (by omega); (first | cases eo30 | (injection eo30 with ea_ en_ ec_; (first | subst ea_ | (injection ea_ with ea_; subst ea_)); subst ec_; clear en_)); have GB30 := Aside0.mk gb30; have GG30 := Aside0.mk HG30; clear gb30 gl30 HG30; obtain ⟨hx30_0, hf30_0⟩ := Kd.R_celln 0 HO269.out (a1 : Int) p30 q30; replace p30 := eq_true p30; replace q30 := eq_true q30; have n_ := zM (Kd.R_mono (ok' := (fun k_ => some k_ ≠ (.slice (some ad266) t263.length co35 : Value).ownBlock)) HO269.out (fun k_ hk => hk.2)); clear HO269; have HO269 := n_; clear n_; obtain ⟨hy38_, hz38_⟩ := Kd.R_celln 0 HO269.out (a1 : Int) (of_decide_eq_true zA) (of_decide_eq_true zA); have HP38 := Kd.R_putg HO269.out (a1 : Int) 1) | ((with_reducible refine gate_store (t := 3) (p := 40) rfl ?_); refine store_event (t := 3) (p := 40) (v := ?vo_w39) (w1 := (w36.setCell ⟨go30, (a1 : Int).toNat, none⟩ (.int .i64 1))) ?hg ?ho ?hn ?hr ?_; (case ho => rfl); (case hg => rfl); (case hn => rfl); (case hr => first | (go_simp; done) | (go_simp; rfl)); intro w39 hw; have hg : w36.grownBy w39 (some go30) := (by rw [hw]; exact HP38.2); have hp_ : Kd.R (Kd.int .i64) 3 w39 w.heap.size (fun k_ => some k_ ≠ (.slice (some ad266) t263.length co35 : Value).ownBlock) (.slice (some ⟨go30, 0, none⟩) y267.length co30) y270 := (by rw [hw, Ny270.out]; exact HP38.1); clear HP38; replace BK257 := zM (blk_grown (g := gb257) (o := .cells #[.slice A0_0 l0_0.length c0_0, .slice A0_1 l0_1.length c0_1] 29 (0, 0)) (zK BK257.out) hg (Kd.R_ne HO269.out BK257.out (by decide))); replace HO262 := zM (Kd.S_after (v := (.slice (some ⟨go30, 0, none⟩) y267.length co30)) (v1 := (.slice (some ⟨go30, 0, none⟩) y267.length co30)) (ok := (fun k_ => some k_ ≠ (.slice (some ad266) t263.length co35 : Value).ownBlock)) (by (with_reducible repeat (first | apply Kd.S_alloc | apply Kd.S_drewN | apply Kd.S_drew)); exact Kd.S_mono HO262.out (fun _ hk => ⟨hk.1.2, hk.2⟩)) hg (.inl rfl)); replace HO265 := zM (Kd.R_after (v := (.slice (some ⟨go30, 0, none⟩) y267.length co30)) (v1 := (.slice (some ⟨go30, 0, none⟩) y267.length co30)) (ok := (fun _ => True)) (zR HO265.out) hg (.inl rfl)); replace HO269 := zM (hp_); replace HB := zM ((by rw [hw]; exact below_set (HB.out) GB30.out : Below w.heap.size w w39)); clear hg hw hp_))
                   go_loopg [11] kj3 (fun kq v11 w' => ∃ (x10_2 : List Int) (x11_2 : Int), v11 = .int .i64 x11_2 ∧ Aside0 (spec_CountShortest.l0 kq a2 t260 t263 x10_2 x11_2 = some (r1, r2)) ∧ Aside0 (kq ≤ kj3) ∧ Aside0 (Kd.S (Kd.slice 3 (Kd.int .i64)) 37 w' w.heap.size (fun k_ => some k_ ≠ ((.slice (some ad266) t263.length co35) : Value).ownBlock ∧ some k_ ≠ ((.slice (some ⟨go30, 0, none⟩) y267.length co30) : Value).ownBlock) (.slice Ao33 t260.length co33) t260) ∧ Aside0 (Kd.R (Kd.int .i64) 3 w' w.heap.size (fun k_ => some k_ ≠ ((.slice (some ⟨go30, 0, none⟩) y267.length co30) : Value).ownBlock) (.slice (some ad266) t263.length co35) t263) ∧ Aside0 (Kd.R (Kd.int .i64) 3 w' w.heap.size (fun k_ => some k_ ≠ ((.slice (some ad266) t263.length co35) : Value).ownBlock) (.slice (some ⟨go30, 0, none⟩) y267.length co30) x10_2) ∧ Aside0 (w'.heap[gb257]? = some (.cells #[(.slice A0_0 l0_0.length c0_0), (.slice A0_1 l0_1.length c0_1)] 29 (0, 0))) ∧ Aside0 (Below w.heap.size w w'))
                   case atStart => exact ⟨(y270), (0), (by first | rfl | (simp; done) | (simp [*]; done)), H', ⟨Nat.le_refl _⟩, ⟨by (with_reducible repeat (first | apply Kd.S_alloc | apply Kd.S_drewN | apply Kd.S_drew)); exact HO262.out⟩, ⟨by (with_reducible repeat (first | apply Kd.R_alloc | apply Kd.R_drewN | apply Kd.R_drew)); exact Kd.R_mono HO265.out (fun _ hk => hk.2)⟩, ⟨zR HO269.out⟩, ⟨zK BK257.out⟩, ⟨zB⟩⟩
                   case round =>
                    clear H'
                    try clear c1
                    try clear c2
                    try clear p2
                    try clear q2
                    try clear hx2
                    try clear p3
                    try clear q3
                    try clear hx3
                    try clear hf3
                    try clear c5
                    try clear c7
                    try clear c11
                    try clear c12
                    try clear c13
                    try clear c15
                    try clear c18
                    try clear c18b0
                    try clear c19
                    try clear c19b0
                    try clear c20
                    try clear c20b0
                    try clear c26
                    try clear c26b0
                    try clear c26b1
                    try clear p26
                    try clear q26
                    try clear hx26
                    try clear c27
                    try clear c27b0
                    try clear c27b1
                    try clear c28
                    try clear c28b0
                    try clear c29
                    try clear c29b0
                    try clear p30
                    try clear q30
                    try clear hx30
                    try clear hf30
                    try clear hcz11_0
                    try clear hcz11_1
                    try clear hcz13_0
                    try clear hcz13_1
                    try clear hcz21_0
                    try clear hcz21_1
                    try clear hcz31_0
                    try clear hcz31_1
                    try clear hcz9_0
                    try clear hcz9_1
                    try clear hfz11_0
                    try clear hfz11_1
                    try clear hfz13_0
                    try clear hfz13_1
                    try clear hfz21_0
                    try clear hfz21_1
                    try clear hfz31_0
                    try clear hfz31_1
                    try clear hfz9_0
                    try clear hfz9_1
                    try clear hx266_0
                    try clear hx30_0
                    try clear p2
                    try clear p266
                    try clear p30
                    try clear q266
                    try clear q30
                    obtain ⟨x10_2, x11_2, rfl, HA, HK2, HO_8, HO_9, HO_10, BK257, HB⟩ := hrel
                    have hl10_2 := (Kd.R_reads' HO_10.out).1
                    rw [hl10_2] at HO_10
                    (try simp only [hl10_2])
                    (try simp only [hl10_2] at BK257)
                    (try simp only [hl10_2] at HO_8)
                    (try simp only [hl10_2] at HO_9)
                    cases gk with
                    | zero => exact absurd HA.out (by simp [spec_CountShortest.l0])
                    | succ k2 =>
                     have H := HA.out
                     clear HA
                     simp only [spec_CountShortest.l0] at H
                     by_cases c40 : 0 ≤ a2
                     · rw [if_pos c40] at H
                       have c40b0 := decide_eq_true c40
                       clear c40
                       by_cases c41 : a2 < (t263.length : Int)
                       · rw [if_pos c41] at H
                         have c41b0 := decide_eq_true c41
                         clear c41
                         by_cases c42 : x11_2 < (rd t263 a2)
                         · rw [if_pos c42] at H
                           have c42b0 := decide_eq_true c42
                           clear c42
                           have H' := Aside0.mk H
                           clear H
                           have p271 : 0 ≤ (a2 : Int) := of_decide_eq_true zA
                           have q271 : a2 < (t263.length : Int) := of_decide_eq_true zA
                           obtain ⟨ad271, e271, hx271_0⟩ := Kd.at_int (Kd.R_reads' HO_9.out).2.2 a2 p271 q271
                           obtain rfl : ad266 = ad271 := (by injection e271)
                           replace p271 := eq_true p271
                           replace q271 := eq_true q271
                           go_wp2
                           go_loopg [12] k2 (fun kq v12 w' => ∃ (x10_3 : List Int) (x12_3 : Int), v12 = .int .i64 x12_3 ∧ Aside0 (spec_CountShortest.l1 kq a2 t260 t263 x10_3 x11_2 x12_3 = some (r1, r2)) ∧ Aside0 (kq ≤ k2) ∧ Aside0 (Kd.S (Kd.slice 3 (Kd.int .i64)) 37 w' w.heap.size (fun k_ => some k_ ≠ ((.slice (some ad266) t263.length co35) : Value).ownBlock ∧ some k_ ≠ ((.slice (some ⟨go30, 0, none⟩) x10_2.length co30) : Value).ownBlock) (.slice Ao33 t260.length co33) t260) ∧ Aside0 (Kd.R (Kd.int .i64) 3 w' w.heap.size (fun k_ => some k_ ≠ ((.slice (some ⟨go30, 0, none⟩) x10_2.length co30) : Value).ownBlock) (.slice (some ad266) t263.length co35) t263) ∧ Aside0 (Kd.R (Kd.int .i64) 3 w' w.heap.size (fun k_ => some k_ ≠ ((.slice (some ad266) t263.length co35) : Value).ownBlock) (.slice (some ⟨go30, 0, none⟩) x10_2.length co30) x10_3) ∧ Aside0 (w'.heap[gb257]? = some (.cells #[(.slice A0_0 l0_0.length c0_0), (.slice A0_1 l0_1.length c0_1)] 29 (0, 0))) ∧ Aside0 (Below w.heap.size w w'))
                           case atStart => exact ⟨(x10_2), (0), (by first | rfl | (simp; done) | (simp [*]; done)), H', ⟨Nat.le_refl _⟩, ⟨by (try simp only [hl10_2]); (with_reducible repeat (first | apply Kd.S_alloc | apply Kd.S_drewN | apply Kd.S_drew)); exact HO_8.out⟩, ⟨by (try simp only [hl10_2]); (with_reducible repeat (first | apply Kd.R_alloc | apply Kd.R_drewN | apply Kd.R_drew)); exact HO_9.out⟩, ⟨by (try simp only [hl10_2]); (with_reducible repeat (first | apply Kd.R_alloc | apply Kd.R_drewN | apply Kd.R_drew)); exact HO_10.out⟩, ⟨by (try simp only [hl10_2]); (with_reducible repeat (first | refine blk_drewN ?_ _ | refine blk_drew ?_ | refine blk_alloc ?_ _)); exact BK257.out⟩, ⟨zB⟩⟩
                           case round =>
                            clear H'
                            try clear c1
                            try clear c2
                            try clear p2
                            try clear q2
                            try clear hx2
                            try clear p3
                            try clear q3
                            try clear hx3
                            try clear hf3
                            try clear c4
                            try clear c5
                            try clear c7
                            try clear c11
                            try clear c12
                            try clear c13
                            try clear c15
                            try clear c18
                            try clear c18b0
                            try clear c19
                            try clear c19b0
                            try clear c20
                            try clear c20b0
                            try clear c26
                            try clear c26b0
                            try clear c26b1
                            try clear p26
                            try clear q26
                            try clear hx26
                            try clear c27
                            try clear c27b0
                            try clear c27b1
                            try clear p27
                            try clear q27
                            try clear hx27
                            try clear c28
                            try clear c28b0
                            try clear c29
                            try clear c29b0
                            try clear p30
                            try clear q30
                            try clear hx30
                            try clear hf30
                            try clear c40
                            try clear c40b0
                            try clear c41
                            try clear c41b0
                            try clear c42
                            try clear c42b0
                            try clear hcz11_0
                            try clear hcz11_1
                            try clear hcz13_0
                            try clear hcz13_1
                            try clear hcz21_0
                            try clear hcz21_1
                            try clear hcz31_0
                            try clear hcz31_1
                            try clear hcz9_0
                            try clear hcz9_1
                            try clear hfz11_0
                            try clear hfz11_1
                            try clear hfz13_0
                            try clear hfz13_1
                            try clear hfz21_0
                            try clear hfz21_1
                            try clear hfz31_0
                            try clear hfz31_1
                            try clear hfz9_0
                            try clear hfz9_1
                            try clear hx266_0
                            try clear hx271_0
                            try clear hx30_0
                            try clear p2
                            try clear p26
                            try clear p266
                            try clear p271
                            try clear p3
                            try clear p30
                            try clear q2
                            try clear q26
                            try clear q266
                            try clear q271
                            try clear q3
                            try clear q30
                            obtain ⟨x10_3, x12_3, rfl, HA, HK3, HO_8, HO_9, HO_10, BK257, HB⟩ := hrel
                            have hl10_3 := (Kd.R_reads' HO_10.out).1
                            rw [hl10_3] at HO_10
                            (try simp only [hl10_3])
                            (try simp only [hl10_3] at BK257)
                            (try simp only [hl10_3] at HO_8)
                            (try simp only [hl10_3] at HO_9)
                            cases gk with
                            | zero => exact absurd HA.out (by simp [spec_CountShortest.l1])
                            | succ k3 =>
                             have H := HA.out
                             clear HA
                             simp only [spec_CountShortest.l1] at H
                             by_cases c43 : x12_3 < (t260.length : Int)
                             · rw [if_pos c43] at H
                               have c43b0 := decide_eq_true c43
                               clear c43
                               have H' := Aside0.mk H
                               clear H
                               go_wp2
                               go_loopg [13] k3 (fun kq v13 w' => ∃ (x10_4 : List Int) (x13_4 : Int), v13 = .int .i64 x13_4 ∧ Aside0 (spec_CountShortest.l2 kq a2 t260 t263 x10_4 x11_2 x12_3 x13_4 = some (r1, r2)) ∧ Aside0 (kq ≤ k3) ∧ Aside0 (Kd.S (Kd.slice 3 (Kd.int .i64)) 37 w' w.heap.size (fun k_ => some k_ ≠ ((.slice (some ad266) t263.length co35) : Value).ownBlock ∧ some k_ ≠ ((.slice (some ⟨go30, 0, none⟩) x10_3.length co30) : Value).ownBlock) (.slice Ao33 t260.length co33) t260) ∧ Aside0 (Kd.R (Kd.int .i64) 3 w' w.heap.size (fun k_ => some k_ ≠ ((.slice (some ⟨go30, 0, none⟩) x10_3.length co30) : Value).ownBlock) (.slice (some ad266) t263.length co35) t263) ∧ Aside0 (Kd.R (Kd.int .i64) 3 w' w.heap.size (fun k_ => some k_ ≠ ((.slice (some ad266) t263.length co35) : Value).ownBlock) (.slice (some ⟨go30, 0, none⟩) x10_3.length co30) x10_4) ∧ Aside0 (w'.heap[gb257]? = some (.cells #[(.slice A0_0 l0_0.length c0_0), (.slice A0_1 l0_1.length c0_1)] 29 (0, 0))) ∧ Aside0 (Below w.heap.size w w'))
                               case atStart => exact ⟨(x10_3), (0), (by first | rfl | (simp; done) | (simp [*]; done)), H', ⟨Nat.le_refl _⟩, ⟨by (try simp only [hl10_2]); (try simp only [hl10_3]); (with_reducible repeat (first | apply Kd.S_alloc | apply Kd.S_drewN | apply Kd.S_drew)); exact HO_8.out⟩, ⟨by (try simp only [hl10_2]); (try simp only [hl10_3]); (with_reducible repeat (first | apply Kd.R_alloc | apply Kd.R_drewN | apply Kd.R_drew)); exact HO_9.out⟩, ⟨by (try simp only [hl10_2]); (try simp only [hl10_3]); (with_reducible repeat (first | apply Kd.R_alloc | apply Kd.R_drewN | apply Kd.R_drew)); exact HO_10.out⟩, ⟨by (try simp only [hl10_2]); (try simp only [hl10_3]); (with_reducible repeat (first | refine blk_drewN ?_ _ | refine blk_drew ?_ | refine blk_alloc ?_ _)); exact BK257.out⟩, ⟨zB⟩⟩
                               case round =>
                                clear H'
                                try clear c1
                                try clear c2
                                try clear p2
                                try clear q2
                                try clear hx2
                                try clear p3
                                try clear q3
                                try clear hx3
                                try clear hf3
                                try clear c4
                                try clear c5
                                try clear c7
                                try clear c11
                                try clear c12
                                try clear c13
                                try clear c15
                                try clear c18
                                try clear c18b0
                                try clear c19
                                try clear c19b0
                                try clear c20
                                try clear c20b0
                                try clear c26
                                try clear c26b0
                                try clear c26b1
                                try clear p26
                                try clear q26
                                try clear hx26
                                try clear c27
                                try clear c27b0
                                try clear c27b1
                                try clear p27
                                try clear q27
                                try clear hx27
                                try clear c28
                                try clear c28b0
                                try clear c29
                                try clear c29b0
                                try clear p30
                                try clear q30
                                try clear hx30
                                try clear hf30
                                try clear c40
                                try clear c40b0
                                try clear c41
                                try clear c41b0
                                try clear c42
                                try clear c42b0
                                try clear c43
                                try clear c43b0
                                try clear hcz11_0
                                try clear hcz11_1
                                try clear hcz13_0
                                try clear hcz13_1
                                try clear hcz21_0
                                try clear hcz21_1
                                try clear hcz31_0
                                try clear hcz31_1
                                try clear hcz9_0
                                try clear hcz9_1
                                try clear hfz11_0
                                try clear hfz11_1
                                try clear hfz13_0
                                try clear hfz13_1
                                try clear hfz21_0
                                try clear hfz21_1
                                try clear hfz31_0
                                try clear hfz31_1
                                try clear hfz9_0
                                try clear hfz9_1
                                try clear hx266_0
                                try clear hx271_0
                                try clear hx30_0
                                try clear p2
                                try clear p26
                                try clear p266
                                try clear p27
                                try clear p271
                                try clear p3
                                try clear p30
                                try clear q2
                                try clear q26
                                try clear q266
                                try clear q27
                                try clear q271
                                try clear q3
                                try clear q30
                                obtain ⟨x10_4, x13_4, rfl, HA, HK4, HO_8, HO_9, HO_10, BK257, HB⟩ := hrel
                                have hl10_4 := (Kd.R_reads' HO_10.out).1
                                rw [hl10_4] at HO_10
                                (try simp only [hl10_4])
                                (try simp only [hl10_4] at BK257)
                                (try simp only [hl10_4] at HO_8)
                                (try simp only [hl10_4] at HO_9)
                                cases gk with
                                | zero => exact absurd HA.out (by simp [spec_CountShortest.l2])
                                | succ k4 =>
                                 have H := HA.out
                                 clear HA
                                 simp only [spec_CountShortest.l2] at H
                                 have HC44 := Aside0.mk H
                                 clear H
                                 go_upto_region 16 with (fail)
                                 go_cut [69] (fun v69 wc => ∃ (kq : Nat) (x69_43 : Bool), v69 = .bool x69_43 ∧ Aside0 (spec_CountShortest.j4 kq a2 t260 t263 x10_4 x11_2 x12_3 x13_4 x69_43 = some (r1, r2)) ∧ Aside0 (kq ≤ k4) ∧ Aside0 (Kd.S (Kd.slice 3 (Kd.int .i64)) 37 wc w.heap.size (fun k_ => some k_ ≠ ((.slice (some ad266) t263.length co35) : Value).ownBlock ∧ some k_ ≠ ((.slice (some ⟨go30, 0, none⟩) x10_4.length co30) : Value).ownBlock) (.slice Ao33 t260.length co33) t260) ∧ Aside0 (Kd.R (Kd.int .i64) 3 wc w.heap.size (fun k_ => some k_ ≠ ((.slice (some ⟨go30, 0, none⟩) x10_4.length co30) : Value).ownBlock) (.slice (some ad266) t263.length co35) t263) ∧ Aside0 (Kd.R (Kd.int .i64) 3 wc w.heap.size (fun k_ => some k_ ≠ ((.slice (some ad266) t263.length co35) : Value).ownBlock) (.slice (some ⟨go30, 0, none⟩) x10_4.length co30) x10_4) ∧ Aside0 (wc.heap[gb257]? = some (.cells #[(.slice A0_0 l0_0.length c0_0), (.slice A0_1 l0_1.length c0_1)] 29 (0, 0))) ∧ Aside0 (Below w.heap.size w wc))
                                 case first =>
                                  have H := HC44.out
                                  clear HC44
                                  by_cases c45 : 0 ≤ x12_3
                                  · rw [if_pos c45] at H
                                    have c45b0 := decide_eq_true c45
                                    clear c45
                                    (first | rw [c45b0] | (simp only [i64_w, i32_w]; rw [c45b0]) | skip)
                                    by_cases c46 : x12_3 < (t260.length : Int)
                                    · rw [if_pos c46] at H
                                      have c46b0 := decide_eq_true c46
                                      clear c46
                                      by_cases c47 : x13_4 < ((rd_L1 t260 x12_3).length : Int)
                                      · rw [if_pos c47] at H
                                        have c47b0 := decide_eq_true c47
                                        clear c47
                                        by_cases c48 : x12_3 < (t263.length : Int)
                                        · rw [if_pos c48] at H
                                          have c48b0 := decide_eq_true c48
                                          clear c48
                                          have H' := Aside0.mk H
                                          clear H
                                          have p273 : 0 ≤ (x12_3 : Int) := of_decide_eq_true zA
                                          have q273 : x12_3 < (t260.length : Int) := of_decide_eq_true zA
                                          obtain ⟨ad273, A273_0, c273_0, e273, hx273_0, hl273_0, hi273_0⟩ := at_L1 (Kd.S_reads' HO_8.out).2.2 x12_3 p273 q273
                                          cases e273
                                          obtain ⟨ce273, hce273, hMe273, hcc273⟩ := Kd.S_get HO_8.out [] x12_3 p273 (by first | exact q273 | exact of_decide_eq_true zA | (have e_ := (Kd.S_reads' HO_8.out).1; omega))
                                          obtain ⟨ve273_0, rfl, ge273_0⟩ := hMe273
                                          have hv273_0 := hcc273 0 _ rfl
                                          rw [Nat.add_zero, show ((Kd.slice 3 (Kd.int .i64))).sz = 1 from rfl, Nat.mul_one] at hv273_0
                                          replace hv273_0 := Option.some.inj (hv273_0.symm.trans hx273_0)
                                          rw [hv273_0] at ge273_0
                                          have HL273_0 := zM (show Kd.R (Kd.int .i64) 3 _ _ _ _ (rd_L1 t260 x12_3) from ge273_0)
                                          clear hv273_0 ge273_0
                                          clear hcc273 hce273
                                          have HR273_0 := Aside0.mk hi273_0
                                          have HC273_0 := Aside0.mk hl273_0
                                          clear hi273_0 hl273_0
                                          replace p273 := eq_true p273
                                          replace q273 := eq_true q273
                                          have p274 : 0 ≤ (x12_3 : Int) := of_decide_eq_true zA
                                          have q274 : x12_3 < (t263.length : Int) := of_decide_eq_true zA
                                          obtain ⟨ad274, e274, hx274_0⟩ := Kd.at_int (Kd.R_reads' HO_9.out).2.2 x12_3 p274 q274
                                          obtain rfl : ad266 = ad274 := (by injection e274)
                                          replace p274 := eq_true p274
                                          replace q274 := eq_true q274
                                          go_wp2
                                          go_meet
                                          case rel => exact ⟨_, (((rd t263 x12_3) == x11_2)), (by first | rfl | (simp; done) | (simp [*]; done)), H', ⟨by have := HJ3.out; have := HK2.out; have := HK3.out; have := HK4.out; first | omega | exact Nat.le_refl _⟩, ⟨by (try simp only [hl10_2]); (try simp only [hl10_3]); (try simp only [hl10_4]); (with_reducible repeat (first | apply Kd.S_alloc | apply Kd.S_drewN | apply Kd.S_drew)); exact HO_8.out⟩, ⟨by (try simp only [hl10_2]); (try simp only [hl10_3]); (try simp only [hl10_4]); (with_reducible repeat (first | apply Kd.R_alloc | apply Kd.R_drewN | apply Kd.R_drew)); exact HO_9.out⟩, ⟨by (try simp only [hl10_2]); (try simp only [hl10_3]); (try simp only [hl10_4]); (with_reducible repeat (first | apply Kd.R_alloc | apply Kd.R_drewN | apply Kd.R_drew)); exact HO_10.out⟩, ⟨by (try simp only [hl10_2]); (try simp only [hl10_3]); (try simp only [hl10_4]); (with_reducible repeat (first | refine blk_drewN ?_ _ | refine blk_drew ?_ | refine blk_alloc ?_ _)); exact BK257.out⟩, ⟨zB⟩⟩
                                        · rw [if_neg c48] at H
                                          exact absurd H (by simp)
                                      · rw [if_neg c47] at H
                                        have c47b0 : decide (x13_4 < ((rd_L1 t260 x12_3).length : Int)) = false := decide_eq_false c47
                                        clear c47
                                        have H' := Aside0.mk H
                                        clear H
                                        have p273 : 0 ≤ (x12_3 : Int) := of_decide_eq_true zA
                                        have q273 : x12_3 < (t260.length : Int) := of_decide_eq_true zA
                                        obtain ⟨ad273, A273_0, c273_0, e273, hx273_0, hl273_0, hi273_0⟩ := at_L1 (Kd.S_reads' HO_8.out).2.2 x12_3 p273 q273
                                        cases e273
                                        obtain ⟨ce273, hce273, hMe273, hcc273⟩ := Kd.S_get HO_8.out [] x12_3 p273 (by first | exact q273 | exact of_decide_eq_true zA | (have e_ := (Kd.S_reads' HO_8.out).1; omega))
                                        obtain ⟨ve273_0, rfl, ge273_0⟩ := hMe273
                                        have hv273_0 := hcc273 0 _ rfl
                                        rw [Nat.add_zero, show ((Kd.slice 3 (Kd.int .i64))).sz = 1 from rfl, Nat.mul_one] at hv273_0
                                        replace hv273_0 := Option.some.inj (hv273_0.symm.trans hx273_0)
                                        rw [hv273_0] at ge273_0
                                        have HL273_0 := zM (show Kd.R (Kd.int .i64) 3 _ _ _ _ (rd_L1 t260 x12_3) from ge273_0)
                                        clear hv273_0 ge273_0
                                        clear hcc273 hce273
                                        have HR273_0 := Aside0.mk hi273_0
                                        have HC273_0 := Aside0.mk hl273_0
                                        clear hi273_0 hl273_0
                                        replace p273 := eq_true p273
                                        replace q273 := eq_true q273
                                        go_wp2
                                        go_meet
                                        case rel => exact ⟨_, (false), (by first | rfl | (simp; done) | (simp [*]; done)), H', ⟨by have := HJ3.out; have := HK2.out; have := HK3.out; have := HK4.out; first | omega | exact Nat.le_refl _⟩, ⟨by (try simp only [hl10_2]); (try simp only [hl10_3]); (try simp only [hl10_4]); (with_reducible repeat (first | apply Kd.S_alloc | apply Kd.S_drewN | apply Kd.S_drew)); exact HO_8.out⟩, ⟨by (try simp only [hl10_2]); (try simp only [hl10_3]); (try simp only [hl10_4]); (with_reducible repeat (first | apply Kd.R_alloc | apply Kd.R_drewN | apply Kd.R_drew)); exact HO_9.out⟩, ⟨by (try simp only [hl10_2]); (try simp only [hl10_3]); (try simp only [hl10_4]); (with_reducible repeat (first | apply Kd.R_alloc | apply Kd.R_drewN | apply Kd.R_drew)); exact HO_10.out⟩, ⟨by (try simp only [hl10_2]); (try simp only [hl10_3]); (try simp only [hl10_4]); (with_reducible repeat (first | refine blk_drewN ?_ _ | refine blk_drew ?_ | refine blk_alloc ?_ _)); exact BK257.out⟩, ⟨zB⟩⟩
                                    · rw [if_neg c46] at H
                                      exact absurd H (by simp)
                                  · rw [if_neg c45] at H
                                    exact absurd H (by simp)
                                 case rest =>
                                  clear HC44
                                  try clear c1
                                  try clear c2
                                  try clear p2
                                  try clear q2
                                  try clear hx2
                                  try clear p3
                                  try clear q3
                                  try clear hx3
                                  try clear hf3
                                  try clear c4
                                  try clear c5
                                  try clear c7
                                  try clear c11
                                  try clear c12
                                  try clear c13
                                  try clear c15
                                  try clear c18
                                  try clear c18b0
                                  try clear c19
                                  try clear c19b0
                                  try clear c20
                                  try clear c20b0
                                  try clear c26
                                  try clear c26b0
                                  try clear c26b1
                                  try clear p26
                                  try clear q26
                                  try clear hx26
                                  try clear c27
                                  try clear c27b0
                                  try clear c27b1
                                  try clear p27
                                  try clear q27
                                  try clear hx27
                                  try clear c28
                                  try clear c28b0
                                  try clear c29
                                  try clear c29b0
                                  try clear p30
                                  try clear q30
                                  try clear hx30
                                  try clear hf30
                                  try clear c40
                                  try clear c40b0
                                  try clear c41
                                  try clear c41b0
                                  try clear c42
                                  try clear c42b0
                                  try clear c43
                                  try clear c43b0
                                  try clear c45
                                  try clear c45b0
                                  try clear c46
                                  try clear c46b0
                                  try clear c47
                                  try clear c47b0
                                  try clear c48
                                  try clear c48b0
                                  try clear hcz11_0
                                  try clear hcz11_1
                                  try clear hcz13_0
                                  try clear hcz13_1
                                  try clear hcz21_0
                                  try clear hcz21_1
                                  try clear hcz31_0
                                  try clear hcz31_1
                                  try clear hcz9_0
                                  try clear hcz9_1
                                  try clear hfz11_0
                                  try clear hfz11_1
                                  try clear hfz13_0
                                  try clear hfz13_1
                                  try clear hfz21_0
                                  try clear hfz21_1
                                  try clear hfz31_0
                                  try clear hfz31_1
                                  try clear hfz9_0
                                  try clear hfz9_1
                                  try clear hx266_0
                                  try clear hx271_0
                                  try clear hx273_0
                                  try clear hx274_0
                                  try clear hx30_0
                                  try clear p2
                                  try clear p26
                                  try clear p266
                                  try clear p27
                                  try clear p271
                                  try clear p273
                                  try clear p274
                                  try clear p3
                                  try clear p30
                                  try clear q2
                                  try clear q26
                                  try clear q266
                                  try clear q27
                                  try clear q271
                                  try clear q273
                                  try clear q274
                                  try clear q3
                                  try clear q30
                                  obtain ⟨kq, x69_43, rfl, HA, HJ43, HO_8, HO_9, HO_10, BK257, HB⟩ := hcut
                                  cases kq with
                                  | zero => exact absurd HA.out (by simp [spec_CountShortest.j4])
                                  | succ kj43 =>
                                   have H := HA.out
                                   clear HA
                                   simp only [spec_CountShortest.j4] at H
                                   by_cases c49 : x69_43 = true
                                   · subst c49
                                     have H1 : (if 0 ≤ x12_3 then (if x12_3 < (t260.length : Int) then (if 0 ≤ x13_4 then (if x13_4 < ((rd_L1 t260 x12_3).length : Int) then (if 0 ≤ (rd (rd_L1 t260 x12_3) x13_4) then (if (rd (rd_L1 t260 x12_3) x13_4) < (t263.length : Int) then (if (rd t263 (rd (rd_L1 t260 x12_3) x13_4)) = (wrap64 (x11_2 + 1)) then (if (rd (rd_L1 t260 x12_3) x13_4) < (x10_4.length : Int) then (if x12_3 < (x10_4.length : Int) then ((spec_l1Least.f (wrap64 ((rd x10_4 (rd (rd_L1 t260 x12_3) x13_4)) + (rd x10_4 x12_3))) 1000000).bind fun t280 => (spec_CountShortest.l2 kj43 a2 t260 t263 (x10_4.set ((rd (rd_L1 t260 x12_3) x13_4) : Int).toNat t280) x11_2 x12_3 (wrap64 (x13_4 + 1)))) else (none)) else (none)) else (spec_CountShortest.l2 kj43 a2 t260 t263 x10_4 x11_2 x12_3 (wrap64 (x13_4 + 1)))) else (none)) else (none)) else (none)) else (none)) else (none)) else (none)) = some (r1, r2) := by rw [if_pos rfl] at H; exact H
                                     clear H
                                     have H := H1
                                     clear H1
                                     by_cases c50 : 0 ≤ x12_3
                                     · rw [if_pos c50] at H
                                       have c50b0 := decide_eq_true c50
                                       clear c50
                                       by_cases c51 : x12_3 < (t260.length : Int)
                                       · rw [if_pos c51] at H
                                         have c51b0 := decide_eq_true c51
                                         clear c51
                                         by_cases c52 : 0 ≤ x13_4
                                         · rw [if_pos c52] at H
                                           have c52b0 := decide_eq_true c52
                                           clear c52
                                           by_cases c53 : x13_4 < ((rd_L1 t260 x12_3).length : Int)
                                           · rw [if_pos c53] at H
                                             have c53b0 := decide_eq_true c53
                                             clear c53
                                             by_cases c54 : 0 ≤ (rd (rd_L1 t260 x12_3) x13_4)
                                             · rw [if_pos c54] at H
                                               have c54b0 := decide_eq_true c54
                                               clear c54
                                               by_cases c55 : (rd (rd_L1 t260 x12_3) x13_4) < (t263.length : Int)
                                               · rw [if_pos c55] at H
                                                 have c55b0 := decide_eq_true c55
                                                 clear c55
                                                 by_cases c56 : (rd t263 (rd (rd_L1 t260 x12_3) x13_4)) = (wrap64 (x11_2 + 1))
                                                 · rw [if_pos c56] at H
                                                   have c56b0 : ((rd t263 (rd (rd_L1 t260 x12_3) x13_4)) == (wrap64 (x11_2 + 1))) = true := beq_iff_eq.mpr c56
                                                   have c56b1 : ((rd t263 (rd (rd_L1 t260 x12_3) x13_4)) != (wrap64 (x11_2 + 1))) = false := bne_eq_false_iff_eq.mpr c56
                                                   clear c56
                                                   by_cases c57 : (rd (rd_L1 t260 x12_3) x13_4) < (x10_4.length : Int)
                                                   · rw [if_pos c57] at H
                                                     have c57b0 := decide_eq_true c57
                                                     clear c57
                                                     by_cases c58 : x12_3 < (x10_4.length : Int)
                                                     · rw [if_pos c58] at H
                                                       have c58b0 := decide_eq_true c58
                                                       clear c58
                                                       replace H := Option.bind_eq_some_iff.mp H
                                                       obtain ⟨t280, A590, H⟩ := H
                                                       replace H : (spec_CountShortest.l2 kj43 a2 t260 t263 (x10_4.set ((rd (rd_L1 t260 x12_3) x13_4) : Int).toNat t280) x11_2 x12_3 (wrap64 (x13_4 + 1))) = some (r1, r2) := H
                                                       have A59 := Aside0.mk A590
                                                       clear A590
                                                       obtain ⟨y281, hy281⟩ : ∃ y_ : List Int, y_ = (x10_4.set ((rd (rd_L1 t260 x12_3) x13_4) : Int).toNat t280) := ⟨_, rfl⟩
                                                       replace H : (spec_CountShortest.l2 kj43 a2 t260 t263 y281 x11_2 x12_3 (wrap64 (x13_4 + 1))) = some (r1, r2) := by first | (rw [hy281]; with_reducible exact H) | (have H2_ := (Option.bind_some _ _).symm.trans H; rw [hy281]; with_reducible exact H2_) | (have H2_ := (Option.bind_some _ _).symm.trans H; with_reducible exact H2_) | with_reducible exact H | (rw [hy281]; exact H) | exact H
                                                       have Ny281 := Aside0.mk hy281
                                                       clear hy281
                                                       have H' := Aside0.mk H
                                                       clear H
                                                       have p275 : 0 ≤ (x12_3 : Int) := of_decide_eq_true zA
                                                       have q275 : x12_3 < (t260.length : Int) := of_decide_eq_true zA
                                                       obtain ⟨ad275, A275_0, c275_0, e275, hx275_0, hl275_0, hi275_0⟩ := at_L1 (Kd.S_reads' HO_8.out).2.2 x12_3 p275 q275
                                                       cases e275
                                                       obtain ⟨ce275, hce275, hMe275, hcc275⟩ := Kd.S_get HO_8.out [] x12_3 p275 (by first | exact q275 | exact of_decide_eq_true zA | (have e_ := (Kd.S_reads' HO_8.out).1; omega))
                                                       obtain ⟨ve275_0, rfl, ge275_0⟩ := hMe275
                                                       have hv275_0 := hcc275 0 _ rfl
                                                       rw [Nat.add_zero, show ((Kd.slice 3 (Kd.int .i64))).sz = 1 from rfl, Nat.mul_one] at hv275_0
                                                       replace hv275_0 := Option.some.inj (hv275_0.symm.trans hx275_0)
                                                       rw [hv275_0] at ge275_0
                                                       have HL275_0 := zM (show Kd.R (Kd.int .i64) 3 _ _ _ _ (rd_L1 t260 x12_3) from ge275_0)
                                                       clear hv275_0 ge275_0
                                                       clear hcc275 hce275
                                                       have HR275_0 := Aside0.mk hi275_0
                                                       have HC275_0 := Aside0.mk hl275_0
                                                       clear hi275_0 hl275_0
                                                       replace p275 := eq_true p275
                                                       replace q275 := eq_true q275
                                                       have p276 : 0 ≤ (x13_4 : Int) := of_decide_eq_true zA
                                                       have q276 : x13_4 < ((rd_L1 t260 x12_3).length : Int) := of_decide_eq_true zA
                                                       obtain ⟨ad276, e276, hx276_0⟩ := Kd.at_int (by repeat (first | (with_reducible exact HR275_0.out) | (with_reducible refine Kd.C_alloc ?_ _) | (with_reducible refine Kd.C_drewN ?_ _) | (with_reducible refine Kd.C_drew ?_) | exact HR275_0.out)) x13_4 p276 q276
                                                       cases e276
                                                       replace p276 := eq_true p276
                                                       replace q276 := eq_true q276
                                                       have p277 : 0 ≤ ((rd (rd_L1 t260 x12_3) x13_4) : Int) := of_decide_eq_true zA
                                                       have q277 : (rd (rd_L1 t260 x12_3) x13_4) < (t263.length : Int) := of_decide_eq_true zA
                                                       obtain ⟨ad277, e277, hx277_0⟩ := Kd.at_int (Kd.R_reads' HO_9.out).2.2 (rd (rd_L1 t260 x12_3) x13_4) p277 q277
                                                       obtain rfl : ad266 = ad277 := (by injection e277)
                                                       replace p277 := eq_true p277
                                                       replace q277 := eq_true q277
                                                       try go_wp2
                                                       replace HO_8 := zM (Kd.S_drew HO_8.out)
                                                       replace HO_9 := zM (Kd.R_drew HO_9.out)
                                                       replace HO_10 := zM (Kd.R_drew HO_10.out)
                                                       replace HL275_0 := zM (Kd.R_drew HL275_0.out)
                                                       replace BK257 := zM (blk_drew BK257.out)
                                                       replace HR275_0 := zM (Kd.C_drew HR275_0.out)
                                                       replace HB := zM (below_drew1 HB.out)
                                                       have p278 : 0 ≤ ((rd (rd_L1 t260 x12_3) x13_4) : Int) := of_decide_eq_true zA
                                                       have q278 : (rd (rd_L1 t260 x12_3) x13_4) < (x10_4.length : Int) := of_decide_eq_true zA
                                                       obtain ⟨ad278, e278, hx278_0⟩ := Kd.at_int (Kd.R_reads' HO_10.out).2.2 (rd (rd_L1 t260 x12_3) x13_4) p278 q278
                                                       obtain rfl : (⟨go30, 0, none⟩ : Addr) = ad278 := (by injection e278)
                                                       (first | simp only [add_plain] at hx278_0 | simp only [add_at] at hx278_0 | simp only [Addr.add, Nat.zero_add] at hx278_0 | skip)
                                                       replace p278 := eq_true p278
                                                       replace q278 := eq_true q278
                                                       have p279 : 0 ≤ (x12_3 : Int) := of_decide_eq_true zA
                                                       have q279 : x12_3 < (x10_4.length : Int) := of_decide_eq_true zA
                                                       obtain ⟨ad279, e279, hx279_0⟩ := Kd.at_int (Kd.R_reads' HO_10.out).2.2 x12_3 p279 q279
                                                       obtain rfl : (⟨go30, 0, none⟩ : Addr) = ad279 := (by injection e279)
                                                       (first | simp only [add_plain] at hx279_0 | simp only [add_at] at hx279_0 | simp only [Addr.add, Nat.zero_add] at hx279_0 | skip)
                                                       replace p279 := eq_true p279
                                                       replace q279 := eq_true q279
                                                       refine start_ (n := 14) (S := fun w' => w'.cell? ⟨go30, ((rd (rd_L1 t260 x12_3) x13_4)).toNat, none⟩ = some (.int .i64 (rd x10_4 (rd (rd_L1 t260 x12_3) x13_4))) ∧ w'.cell? ⟨go30, (x12_3).toNat, none⟩ = some (.int .i64 (rd x10_4 x12_3))) (ds := [13]) #[false, false, false, false, false, false, false, false, false, false, false, false, false, false] (by kernel_rfl) rfl rfl ⟨hx278_0, hx279_0⟩ (fun hHeld => ?_); refine with_tabW spec_CountShortest.tab20 spec_CountShortest.bits20 (fun HT_ HW_ => ?_)
                                                       generalize wc.drew = w61 at HO_8 HO_9 HO_10 HL275_0 BK257 HR275_0 HB hx278_0 hx279_0 hHeld ⊢
                                                       refine zp HT_ 0 86 ?_
                                                       refine zp HT_ 1 87 ?_
                                                       refine zp HT_ 2 88 ?_
                                                       refine zp HT_ 3 89 ?_
                                                       refine zp HT_ 4 90 ?_
                                                       refine zp HT_ 6 92 ?_
                                                       refine zp HT_ 7 93 ?_
                                                       refine zp HT_ 8 94 ?_
                                                       refine zt HT_ HW_ 5 91 hHeld ?_ (hy := by rintro w' ⟨s0, s1⟩; go_simp; with_reducible rfl)
                                                       refine zt HT_ HW_ 9 95 hHeld ?_ (hy := by rintro w' ⟨s0, s1⟩; go_simp; with_reducible rfl)
                                                       refine zp HT_ 10 96 ?_
                                                       refine zg HT_ 11 97 Try.func14 #[.int .i64 (wrap64 ((rd x10_4 (rd (rd_L1 t260 x12_3) x13_4)) + (rd x10_4 x12_3))), .int .i64 1000000] (fun K hK => ?_)
                                                       with_reducible refine (spec_l1Least.calls (wrap64 ((rd x10_4 (rd (rd_L1 t260 x12_3) x13_4)) + (rd x10_4 x12_3))) 1000000 t280 _ A59.out).mono ?_
                                                       rintro e w' ⟨rfl, ⟨nd, rfl⟩⟩
                                                       refine ⟨_, rfl, ?_⟩
                                                       have p60 : 0 ≤ ((rd (rd_L1 t260 x12_3) x13_4) : Int) := of_decide_eq_true zA
                                                       have q60 : ((rd (rd_L1 t260 x12_3) x13_4) : Int) < ((x10_4.length : Int) : Int) := of_decide_eq_true zA
                                                       obtain ⟨hx60_0, hf60_0⟩ := Kd.R_celln 0 HO_10.out ((rd (rd_L1 t260 x12_3) x13_4) : Int) p60 q60
                                                       replace p60 := eq_true p60
                                                       replace q60 := eq_true q60
                                                       have HP62 := Kd.R_putn HO_10.out ((rd (rd_L1 t260 x12_3) x13_4) : Int) t280
                                                       rw [← Ny281.out] at HP62
                                                       have HQ62 := Aside0.mk HP62
                                                       clear HP62
                                                       refine hK.out _ _ ⟨hHeld.1, hHeld.2⟩ (fun hHeld => ?_)
                                                       clear hK K
                                                       refine zn 97 ?_
                                                       refine zp HT_ 12 98 ?_
                                                       refine last_ (i := 13) (N := none) #[true, true, true, true, true, true, true, true, true, true, true, true, true, true] rfl rfl (one_of HT_.out (by kernel_rfl)) (by decide) (fun K hK => ?_)
                                                       refine skip_ (w1 := ?_) (by rfl) rfl ?_ ?_
                                                       rotate_left
                                                       · go_simp
                                                         rfl
                                                       refine hK.out _ _ ?_
                                                       clear hK K
                                                       refine zo HT_ ?_
                                                       try go_wp2
                                                       (try simp only [← hl10_4])
                                                       go_roundg kj43
                                                       case measure => have := HJ3.out; have := HK2.out; have := HK3.out; have := HK4.out; have := HJ43.out; omega
                                                       case rel => exact ⟨(y281), (wrap64 (x13_4 + 1)), (by first | rfl | (simp; done) | (simp [*]; done)), H', ⟨by have := HJ3.out; have := HK2.out; have := HK3.out; have := HK4.out; have := HJ43.out; omega⟩, ⟨by (try simp only [hl10_2]); (try simp only [hl10_3]); (try simp only [hl10_4]); (with_reducible repeat (first | apply Kd.S_alloc | apply Kd.S_drewN | apply Kd.S_drew)); exact Kd.S_mono (Kd.S_far (p := ⟨go30, ((rd (rd_L1 t260 x12_3) x13_4) : Int).toNat, none⟩) (Kd.S_mono HO_8.out (fun k_ hk => (⟨hk, fun e_ => hk.2 (by rw [e_]; rfl)⟩ : _ ∧ k_ ≠ go30))) (fun _ hk => hk.2) (.int .i64 t280)) (fun _ hk => ⟨hk.1.1, hk.1.2⟩)⟩, ⟨by (try simp only [hl10_2]); (try simp only [hl10_3]); (try simp only [hl10_4]); (with_reducible repeat (first | apply Kd.R_alloc | apply Kd.R_drewN | apply Kd.R_drew)); exact Kd.R_mono (Kd.R_far (p := ⟨go30, ((rd (rd_L1 t260 x12_3) x13_4) : Int).toNat, none⟩) (Kd.R_mono HO_9.out (fun k_ hk => (⟨hk, fun e_ => hk (by rw [e_]; rfl)⟩ : _ ∧ k_ ≠ go30))) (fun _ hk => hk.2) (.int .i64 t280)) (fun _ hk => hk.1)⟩, ⟨by (try simp only [hl10_2]); (try simp only [hl10_3]); (try simp only [hl10_4]); (with_reducible repeat (first | apply Kd.R_alloc | apply Kd.R_drewN | apply Kd.R_drew)); exact HQ62.out⟩, ⟨by (try simp only [hl10_2]); (try simp only [hl10_3]); (try simp only [hl10_4]); (with_reducible repeat (first | refine blk_drewN ?_ _ | refine blk_drew ?_ | refine blk_alloc ?_ _)); refine blk_far ?_ (by have h_ := Kd.R_ne HO_10.out BK257.out (by decide); intro e_; exact h_ (by rw [e_]; rfl)) _; (with_reducible repeat (first | refine blk_drewN ?_ _ | refine blk_drew ?_ | refine blk_alloc ?_ _)); exact BK257.out⟩, ⟨zB⟩⟩
                                                     · rw [if_neg c58] at H
                                                       exact absurd H (by simp)
                                                   · rw [if_neg c57] at H
                                                     exact absurd H (by simp)
                                                 · rw [if_neg c56] at H
                                                   have c56b0 : ((rd t263 (rd (rd_L1 t260 x12_3) x13_4)) == (wrap64 (x11_2 + 1))) = false := beq_eq_false_iff_ne.mpr c56
                                                   have c56b1 : ((rd t263 (rd (rd_L1 t260 x12_3) x13_4)) != (wrap64 (x11_2 + 1))) = true := bne_iff_ne.mpr c56
                                                   have H' := Aside0.mk H
                                                   clear H
                                                   have p275 : 0 ≤ (x12_3 : Int) := of_decide_eq_true zA
                                                   have q275 : x12_3 < (t260.length : Int) := of_decide_eq_true zA
                                                   obtain ⟨ad275, A275_0, c275_0, e275, hx275_0, hl275_0, hi275_0⟩ := at_L1 (Kd.S_reads' HO_8.out).2.2 x12_3 p275 q275
                                                   cases e275
                                                   obtain ⟨ce275, hce275, hMe275, hcc275⟩ := Kd.S_get HO_8.out [] x12_3 p275 (by first | exact q275 | exact of_decide_eq_true zA | (have e_ := (Kd.S_reads' HO_8.out).1; omega))
                                                   obtain ⟨ve275_0, rfl, ge275_0⟩ := hMe275
                                                   have hv275_0 := hcc275 0 _ rfl
                                                   rw [Nat.add_zero, show ((Kd.slice 3 (Kd.int .i64))).sz = 1 from rfl, Nat.mul_one] at hv275_0
                                                   replace hv275_0 := Option.some.inj (hv275_0.symm.trans hx275_0)
                                                   rw [hv275_0] at ge275_0
                                                   have HL275_0 := zM (show Kd.R (Kd.int .i64) 3 _ _ _ _ (rd_L1 t260 x12_3) from ge275_0)
                                                   clear hv275_0 ge275_0
                                                   clear hcc275 hce275
                                                   have HR275_0 := Aside0.mk hi275_0
                                                   have HC275_0 := Aside0.mk hl275_0
                                                   clear hi275_0 hl275_0
                                                   replace p275 := eq_true p275
                                                   replace q275 := eq_true q275
                                                   have p276 : 0 ≤ (x13_4 : Int) := of_decide_eq_true zA
                                                   have q276 : x13_4 < ((rd_L1 t260 x12_3).length : Int) := of_decide_eq_true zA
                                                   obtain ⟨ad276, e276, hx276_0⟩ := Kd.at_int (by repeat (first | (with_reducible exact HR275_0.out) | (with_reducible refine Kd.C_alloc ?_ _) | (with_reducible refine Kd.C_drewN ?_ _) | (with_reducible refine Kd.C_drew ?_) | exact HR275_0.out)) x13_4 p276 q276
                                                   cases e276
                                                   replace p276 := eq_true p276
                                                   replace q276 := eq_true q276
                                                   have p277 : 0 ≤ ((rd (rd_L1 t260 x12_3) x13_4) : Int) := of_decide_eq_true zA
                                                   have q277 : (rd (rd_L1 t260 x12_3) x13_4) < (t263.length : Int) := of_decide_eq_true zA
                                                   obtain ⟨ad277, e277, hx277_0⟩ := Kd.at_int (Kd.R_reads' HO_9.out).2.2 (rd (rd_L1 t260 x12_3) x13_4) p277 q277
                                                   obtain rfl : ad266 = ad277 := (by injection e277)
                                                   replace p277 := eq_true p277
                                                   replace q277 := eq_true q277
                                                   go_wp2
                                                   (try simp only [← hl10_4])
                                                   go_roundg kj43
                                                   case measure => have := HJ3.out; have := HK2.out; have := HK3.out; have := HK4.out; have := HJ43.out; omega
                                                   case rel => exact ⟨(x10_4), (wrap64 (x13_4 + 1)), (by first | rfl | (simp; done) | (simp [*]; done)), H', ⟨by have := HJ3.out; have := HK2.out; have := HK3.out; have := HK4.out; have := HJ43.out; omega⟩, ⟨by (try simp only [hl10_2]); (try simp only [hl10_3]); (try simp only [hl10_4]); (with_reducible repeat (first | apply Kd.S_alloc | apply Kd.S_drewN | apply Kd.S_drew)); exact HO_8.out⟩, ⟨by (try simp only [hl10_2]); (try simp only [hl10_3]); (try simp only [hl10_4]); (with_reducible repeat (first | apply Kd.R_alloc | apply Kd.R_drewN | apply Kd.R_drew)); exact HO_9.out⟩, ⟨by (try simp only [hl10_2]); (try simp only [hl10_3]); (try simp only [hl10_4]); (with_reducible repeat (first | apply Kd.R_alloc | apply Kd.R_drewN | apply Kd.R_drew)); exact HO_10.out⟩, ⟨by (try simp only [hl10_2]); (try simp only [hl10_3]); (try simp only [hl10_4]); (with_reducible repeat (first | refine blk_drewN ?_ _ | refine blk_drew ?_ | refine blk_alloc ?_ _)); exact BK257.out⟩, ⟨zB⟩⟩
                                               · rw [if_neg c55] at H
                                                 exact absurd H (by simp)
                                             · rw [if_neg c54] at H
                                               exact absurd H (by simp)
                                           · rw [if_neg c53] at H
                                             exact absurd H (by simp)
                                         · rw [if_neg c52] at H
                                           exact absurd H (by simp)
                                       · rw [if_neg c51] at H
                                         exact absurd H (by simp)
                                     · rw [if_neg c50] at H
                                       exact absurd H (by simp)
                                   · replace c49 := Bool.eq_false_iff.mpr c49
                                     subst c49
                                     have H1 : (spec_CountShortest.l1 kj43 a2 t260 t263 x10_4 x11_2 (wrap64 (x12_3 + 1))) = some (r1, r2) := by rw [if_neg (show ¬ (false = true) by decide)] at H; exact H
                                     clear H
                                     have H := H1
                                     clear H1
                                     have H' := Aside0.mk H
                                     clear H
                                     go_wp2
                                     (try simp only [← hl10_3, ← hl10_4])
                                     go_roundg kj43
                                     case measure => have := HJ3.out; have := HK2.out; have := HK3.out; have := HK4.out; have := HJ43.out; omega
                                     case rel => exact ⟨(x10_4), (wrap64 (x12_3 + 1)), (by first | rfl | (simp; done) | (simp [*]; done)), H', ⟨by have := HJ3.out; have := HK2.out; have := HK3.out; have := HK4.out; have := HJ43.out; omega⟩, ⟨by (try simp only [hl10_2]); (try simp only [hl10_3]); (try simp only [hl10_4]); (with_reducible repeat (first | apply Kd.S_alloc | apply Kd.S_drewN | apply Kd.S_drew)); exact HO_8.out⟩, ⟨by (try simp only [hl10_2]); (try simp only [hl10_3]); (try simp only [hl10_4]); (with_reducible repeat (first | apply Kd.R_alloc | apply Kd.R_drewN | apply Kd.R_drew)); exact HO_9.out⟩, ⟨by (try simp only [hl10_2]); (try simp only [hl10_3]); (try simp only [hl10_4]); (with_reducible repeat (first | apply Kd.R_alloc | apply Kd.R_drewN | apply Kd.R_drew)); exact HO_10.out⟩, ⟨by (try simp only [hl10_2]); (try simp only [hl10_3]); (try simp only [hl10_4]); (with_reducible repeat (first | refine blk_drewN ?_ _ | refine blk_drew ?_ | refine blk_alloc ?_ _)); exact BK257.out⟩, ⟨zB⟩⟩
                             · rw [if_neg c43] at H
                               have c43b0 : decide (x12_3 < (t260.length : Int)) = false := decide_eq_false c43
                               clear c43
                               have H' := Aside0.mk H
                               clear H
                               go_wp2
                               (try simp only [← hl10_2, ← hl10_3])
                               go_roundg k3
                               case measure => have := HJ3.out; have := HK2.out; have := HK3.out; omega
                               case rel => exact ⟨(x10_3), (wrap64 (x11_2 + 1)), (by first | rfl | (simp; done) | (simp [*]; done)), H', ⟨by have := HJ3.out; have := HK2.out; have := HK3.out; omega⟩, ⟨by (try simp only [hl10_2]); (try simp only [hl10_3]); (with_reducible repeat (first | apply Kd.S_alloc | apply Kd.S_drewN | apply Kd.S_drew)); exact HO_8.out⟩, ⟨by (try simp only [hl10_2]); (try simp only [hl10_3]); (with_reducible repeat (first | apply Kd.R_alloc | apply Kd.R_drewN | apply Kd.R_drew)); exact HO_9.out⟩, ⟨by (try simp only [hl10_2]); (try simp only [hl10_3]); (with_reducible repeat (first | apply Kd.R_alloc | apply Kd.R_drewN | apply Kd.R_drew)); exact HO_10.out⟩, ⟨by (try simp only [hl10_2]); (try simp only [hl10_3]); (with_reducible repeat (first | refine blk_drewN ?_ _ | refine blk_drew ?_ | refine blk_alloc ?_ _)); exact BK257.out⟩, ⟨zB⟩⟩
                         · rw [if_neg c42] at H
                           have c42b0 : decide (x11_2 < (rd t263 a2)) = false := decide_eq_false c42
                           clear c42
                           by_cases c63 : a2 < (x10_2.length : Int)
                           · rw [if_pos c63] at H
                             have c63b0 := decide_eq_true c63
                             clear c63
                             simp only [Option.some.injEq, Prod.mk.injEq] at H
                             obtain ⟨rfl, rfl⟩ := H
                             have p271 : 0 ≤ (a2 : Int) := of_decide_eq_true zA
                             have q271 : a2 < (t263.length : Int) := of_decide_eq_true zA
                             obtain ⟨ad271, e271, hx271_0⟩ := Kd.at_int (Kd.R_reads' HO_9.out).2.2 a2 p271 q271
                             obtain rfl : ad266 = ad271 := (by injection e271)
                             replace p271 := eq_true p271
                             replace q271 := eq_true q271
                             have p272 : 0 ≤ (a2 : Int) := of_decide_eq_true zA
                             have q272 : a2 < (x10_2.length : Int) := of_decide_eq_true zA
                             obtain ⟨ad272, e272, hx272_0⟩ := Kd.at_int (Kd.R_reads' HO_10.out).2.2 a2 p272 q272
                             obtain rfl : (⟨go30, 0, none⟩ : Addr) = ad272 := (by injection e272)
                             (first | simp only [add_plain] at hx272_0 | simp only [add_at] at hx272_0 | simp only [Addr.add, Nat.zero_add] at hx272_0 | skip)
                             replace p272 := eq_true p272
                             replace q272 := eq_true q272
                             go_wp2
                             go_ret2
                             exact ⟨by first | rfl | (simp [errW_none, errW_some] <;> rfl) | (simp [*, errW_none, errW_some] <;> rfl), zB⟩
                           · rw [if_neg c63] at H
                             exact absurd H (by simp)
                       · rw [if_neg c41] at H
                         exact absurd H (by simp)
                     · rw [if_neg c40] at H
                       exact absurd H (by simp)
                 · rw [if_neg c29] at H
                   exact absurd H (by simp)
               · rw [if_neg c28] at H
                 exact absurd H (by simp)
             · rw [if_neg c27] at H
               exact absurd H (by simp)
           · rw [if_neg c26] at H
             exact absurd H (by simp)
       · rw [if_neg c19] at H
         exact absurd H (by simp)
     · rw [if_neg c18] at H
       exact absurd H (by simp)

end Go.Proofs.Ytopgbijegnnjbaa.P
