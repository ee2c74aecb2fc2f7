-- Written by a program of this session (the kit's print, turned: wip/print/patch.py) out of the translation. Not trusted: Lean checks it.
import Derived.Test.YtihfpngolcjkiaaProductSpaceG5
import Derived.Test.YtihfpngolcjkiaaProductSpaceG10
import Derived.Test.YtihfpngolcjkiaaProductSpaceG11
namespace Go.Proofs.Ytihfpngolcjkiaa.P
open Go.RowKit Go.Proofs.YtihfpngolcjkiaaW.PrintWords Go.Proofs.YtihfpngolcjkiaaW.PrintLast Go.Proofs.YtihfpngolcjkiaaW.PrintMore
attribute [local go_sem] max2_int min2_int max_two min_two max_three min_three max_four min_four   -- for this text's walks alone
set_option linter.unusedVariables false
set_option linter.unusedSimpArgs false

/-! (OKsp: fixprod.py) -/
/-! ### spec_ProductSpace: function 6 -/
mutual
def spec_ProductSpace.j0 : Nat → Bool → List (List Int) → List (S41) → List (List Int) → List (S41) → Option ((List (List Int)) × (List (S41)) × Bool)
 | 0, _, _, _, _, _ => none
 | k + 1, x36, x293000, x293001, x294000, x294001 => if x36 = true then (some (([] : List (List Int)), ([] : List (S41)), false)) else (if (wrap64 ((x293000.length : Int) * (x294000.length : Int))) > 0 then ((spec_l2Longest.f k x293000 x293001).bind fun t298 => ((spec_l2Longest.f k x294000 x294001).bind fun t299 => (if (wrap64 (t298 + t299)) > 24 then (spec_ProductSpace.j1 k (x294000.length : Int) true x293000 x293001 x294000 x294001) else (spec_ProductSpace.j1 k (x294000.length : Int) (decide ((wrap64 ((wrap64 ((x293001.length : Int) * (x294000.length : Int))) + (wrap64 ((x294001.length : Int) * (x293000.length : Int))))) > 6000)) x293000 x293001 x294000 x294001)))) else (spec_ProductSpace.j1 k (x294000.length : Int) (decide ((wrap64 ((wrap64 ((x293001.length : Int) * (x294000.length : Int))) + (wrap64 ((x294001.length : Int) * (x293000.length : Int))))) > 6000)) x293000 x293001 x294000 x294001))
def spec_ProductSpace.j1 : Nat → Int → Bool → List (List Int) → List (S41) → List (List Int) → List (S41) → Option ((List (List Int)) × (List (S41)) × Bool)
 | 0, _, _, _, _, _, _ => none
 | k + 1, x6, x70, x293000, x293001, x294000, x294001 => if x70 = true then (some (([] : List (List Int)), ([] : List (S41)), false)) else ((spec_l2Lists.f k x293000 x293001).bind fun t306 => ((spec_l2Lists.f k x294000 x294001).bind fun t309 => (spec_ProductSpace.l0 k x6 t306 t309 0 x293000 x293001 x294000 x294001 (([] : List (List Int))) (([] : List (S41))))))
def spec_ProductSpace.l0 : Nat → Int → List (List Int) → List (List Int) → Int → List (List Int) → List (S41) → List (List Int) → List (S41) → List (List Int) → List (S41) → Option ((List (List Int)) × (List (S41)) × Bool)
 | 0, _, _, _, _, _, _, _, _, _, _ => none
 | k + 1, x6, x8, x9, x10, x293000, x293001, x294000, x294001, x313000, x313001 => if x10 < (x293000.length : Int) then (spec_ProductSpace.l1 k x6 x8 x9 x10 0 x293000 x293001 x294000 x294001 x313000 x313001) else (some (x313000, x313001, true))
def spec_ProductSpace.l1 : Nat → Int → List (List Int) → List (List Int) → Int → Int → List (List Int) → List (S41) → List (List Int) → List (S41) → List (List Int) → List (S41) → Option ((List (List Int)) × (List (S41)) × Bool)
 | 0, _, _, _, _, _, _, _, _, _, _, _ => none
 | k + 1, x6, x8, x9, x10, x11, x293000, x293001, x294000, x294001, x313000, x313001 => if x11 < x6 then (if 0 ≤ x10 then (if x10 < (x293000.length : Int) then ((spec_l1Own.f (rd_L1 x293000 x10)).bind fun t314 => (if 0 ≤ x11 then (if x11 < (x294000.length : Int) then (if t314.length + (rd_L1 x294000 x11).length < 17592186044416 then (if x313000.length < 5864062014805 then (spec_ProductSpace.l2 k x6 x8 x9 x10 x11 0 x293000 x293001 x294000 x294001 (x313000 ++ [(t314 ++ (rd_L1 x294000 x11))]) x313001) else (none)) else (none)) else (none)) else (none))) else (none)) else (none)) else (spec_ProductSpace.l0 k x6 x8 x9 (wrap64 (x10 + 1)) x293000 x293001 x294000 x294001 x313000 x313001)
def spec_ProductSpace.l2 : Nat → Int → List (List Int) → List (List Int) → Int → Int → Int → List (List Int) → List (S41) → List (List Int) → List (S41) → List (List Int) → List (S41) → Option ((List (List Int)) × (List (S41)) × Bool)
 | 0, _, _, _, _, _, _, _, _, _, _, _, _ => none
 | k + 1, x6, x8, x9, x10, x11, x12, x293000, x293001, x294000, x294001, x313000, x313001 => if 0 ≤ x11 then (if x11 < (x9.length : Int) then (if x12 < ((rd_L1 x9 x11).length : Int) then (if 0 ≤ x12 then (if (rd (rd_L1 x9 x11) x12) > x11 then (if x313001.length < 8796093022208 then (spec_ProductSpace.l2 k x6 x8 x9 x10 x11 (wrap64 (x12 + 1)) x293000 x293001 x294000 x294001 x313000 (x313001 ++ [(⟨wrap64 ((wrap64 (x10 * x6)) + x11), wrap64 ((wrap64 (x10 * x6)) + (rd (rd_L1 x9 x11) x12))⟩ : S41)])) else (none)) else (spec_ProductSpace.l2 k x6 x8 x9 x10 x11 (wrap64 (x12 + 1)) x293000 x293001 x294000 x294001 x313000 x313001)) else (none)) else (spec_ProductSpace.l3 k x6 x8 x9 x10 x11 0 x293000 x293001 x294000 x294001 x313000 x313001)) else (none)) else (none)
def spec_ProductSpace.l3 : Nat → Int → List (List Int) → List (List Int) → Int → Int → Int → List (List Int) → List (S41) → List (List Int) → List (S41) → List (List Int) → List (S41) → Option ((List (List Int)) × (List (S41)) × Bool)
 | 0, _, _, _, _, _, _, _, _, _, _, _, _ => none
 | k + 1, x6, x8, x9, x10, x11, x13, x293000, x293001, x294000, x294001, x313000, x313001 => if 0 ≤ x10 then (if x10 < (x8.length : Int) then (if x13 < ((rd_L1 x8 x10).length : Int) then (if 0 ≤ x13 then (if (rd (rd_L1 x8 x10) x13) > x10 then (if x313001.length < 8796093022208 then (spec_ProductSpace.l3 k x6 x8 x9 x10 x11 (wrap64 (x13 + 1)) x293000 x293001 x294000 x294001 x313000 (x313001 ++ [(⟨wrap64 ((wrap64 (x10 * x6)) + x11), wrap64 ((wrap64 ((rd (rd_L1 x8 x10) x13) * x6)) + x11)⟩ : S41)])) else (none)) else (spec_ProductSpace.l3 k x6 x8 x9 x10 x11 (wrap64 (x13 + 1)) x293000 x293001 x294000 x294001 x313000 x313001)) else (none)) else (spec_ProductSpace.l1 k x6 x8 x9 x10 (wrap64 (x11 + 1)) x293000 x293001 x294000 x294001 x313000 x313001)) else (none)) else (none)
end
def spec_ProductSpace.f (k : Nat) (l0_0 : List (List Int)) (l0_1 : List (S41)) (l1_0 : List (List Int)) (l1_1 : List (S41)) : Option ((List (List Int)) × (List (S41)) × Bool) := (spec_l2Space.f k l0_0 l0_1).bind fun t295 => (if t295 = true then ((spec_l2Space.f k l1_0 l1_1).bind fun t296 => (if t296 = true then ((spec_l2Even.f k l0_0 l0_1).bind fun t297 => (if t297 = true then (spec_ProductSpace.j0 k (decide ((wrap64 ((l0_0.length : Int) * (l1_0.length : Int))) > 300)) l0_0 l0_1 l1_0 l1_1) else (spec_ProductSpace.j0 k true l0_0 l0_1 l1_0 l1_1))) else (spec_ProductSpace.j0 k true l0_0 l0_1 l1_0 l1_1))) else (spec_ProductSpace.j0 k true l0_0 l0_1 l1_0 l1_1))
def spec_ProductSpace.T4 : Bool × List (List Nat × List Nat) := (true, [([], []), ([0], [0]), ([1], [1]), ([], []), ([2, 3], [2, 3]), ([4], [4]), ([5], [5]), ([6], [6]), ([7, 6, 6], [6, 7]), ([6], [6]), ([9, 8, 6], [6, 9]), ([8, 10, 6], [6, 8, 10]), ([11, 6], [6, 11]), ([6, 12], [6, 12]), ([13, 10], [13]), ([14], [14]), ([15, 14], [14, 15]), ([16, 14], [14, 16]), ([14], [14]), ([17, 18, 14], [14, 17, 18]), ([14], [14]), ([20, 14], [14, 20]), ([21, 14], [14, 21]), ([14], [14]), ([23, 14], [14, 23]), ([24, 14], [14, 24]), ([22, 25, 14], [14, 22, 25]), ([19, 26, 14], [14, 19, 26]), ([27, 14], [14, 27]), ([14, 28], [14, 28])])
def spec_ProductSpace.B4 : List Nat := [0, 1, 3, 0, 15, 31, 63, 127, 255, 127, 1023, 2047, 4095, 8191, 16383, 32767, 65535, 131071, 32767, 524287, 32767, 1081343, 3178495, 32767, 8421375, 25198591, 66093055, 134217727, 268435455, 536870911]
theorem spec_ProductSpace.tab4 : rtab .any (opsOf Try.f6 4) = spec_ProductSpace.T4 := by kernel_rfl
theorem spec_ProductSpace.bits4 : waitsOk spec_ProductSpace.T4.2 spec_ProductSpace.B4 = true := by kernel_rfl
def spec_ProductSpace.T6 : Bool × List (List Nat × List Nat) := (true, [([], []), ([], []), ([0, 1], [0, 1]), ([], []), ([3], [3]), ([], []), ([5, 4], [5]), ([], []), ([7, 2, 6, 0, 1, 2, 7], [2, 7]), ([4, 8, 0, 1, 2, 3, 4, 7, 8], [4]), ([6, 9, 0, 1, 2, 3, 4, 5, 6, 7, 8, 9], [6])])
def spec_ProductSpace.B6 : List Nat := [0, 0, 3, 0, 8, 0, 56, 0, 255, 511, 1023]
theorem spec_ProductSpace.tab6 : rtab .any (opsOf Try.f6 6) = spec_ProductSpace.T6 := by kernel_rfl
theorem spec_ProductSpace.bits6 : waitsOk spec_ProductSpace.T6.2 spec_ProductSpace.B6 = true := by kernel_rfl
def spec_ProductSpace.T13 : Bool × List (List Nat × List Nat) := (true, [([], []), ([0], [0]), ([], []), ([2], [2]), ([], []), ([3, 4], [3, 4]), ([5], [5]), ([6], [6]), ([], []), ([8], [8]), ([], []), ([9, 10], [9, 10]), ([11], [11]), ([7, 12, 7], [7, 12]), ([13], [13]), ([1, 14, 13], [1, 14]), ([0, 1, 2, 3, 4, 5, 6, 7, 8, 9, 10, 11, 12, 13, 14, 15], []), ([16, 15, 15, 0, 1, 2, 3, 4, 5, 6, 7, 8, 9, 10, 11, 12, 13, 14, 15], [15, 16])])
def spec_ProductSpace.B13 : List Nat := [0, 1, 0, 4, 0, 28, 60, 124, 0, 256, 0, 1792, 3840, 8188, 16380, 32767, 65535, 131071]
theorem spec_ProductSpace.tab13 : rtab .any (opsOf Try.f6 13) = spec_ProductSpace.T13 := by kernel_rfl
theorem spec_ProductSpace.bits13 : waitsOk spec_ProductSpace.T13.2 spec_ProductSpace.B13 = true := by kernel_rfl
def spec_ProductSpace.T18 : Bool × List (List Nat × List Nat) := (true, [([], []), ([0], [0]), ([], []), ([], []), ([2, 3], [2, 3]), ([], []), ([4, 5], [4, 5]), ([], []), ([], []), ([7, 8], [7, 8]), ([], []), ([], []), ([10, 11], [10, 11]), ([12], [12]), ([], []), ([13, 14], [13, 14]), ([15], [15]), ([9, 16], [9, 16]), ([6, 17], [6, 17]), ([18], [18]), ([1, 19], [1, 19]), ([0, 1, 2, 3, 4, 5, 6, 7, 8, 9, 10, 11, 12, 13, 14, 15, 16, 17, 18, 19, 20], []), ([21, 20, 20, 0, 1, 2, 3, 4, 5, 6, 7, 8, 9, 10, 11, 12, 13, 14, 15, 16, 17, 18, 19, 20], [20, 21])])
def spec_ProductSpace.B18 : List Nat := [0, 1, 0, 0, 12, 0, 60, 0, 0, 384, 0, 0, 3072, 7168, 0, 31744, 64512, 130944, 262140, 524284, 1048575, 2097151, 4194303]
theorem spec_ProductSpace.tab18 : rtab .any (opsOf Try.f6 18) = spec_ProductSpace.T18 := by kernel_rfl
theorem spec_ProductSpace.bits18 : waitsOk spec_ProductSpace.T18.2 spec_ProductSpace.B18 = true := by kernel_rfl
def spec_ProductSpace.T23 : Bool × List (List Nat × List Nat) := (true, [([], []), ([0], [0]), ([], []), ([], []), ([2, 3], [2, 3]), ([], []), ([4, 5], [4, 5]), ([], []), ([], []), ([7, 8], [7, 8]), ([9], [9]), ([], []), ([10, 11], [10, 11]), ([12], [12]), ([], []), ([13, 14], [13, 14]), ([], []), ([15, 16], [15, 16]), ([6, 17], [6, 17]), ([18], [18]), ([1, 19], [1, 19]), ([0, 1, 2, 3, 4, 5, 6, 7, 8, 9, 10, 11, 12, 13, 14, 15, 16, 17, 18, 19, 20], []), ([21, 20, 20, 0, 1, 2, 3, 4, 5, 6, 7, 8, 9, 10, 11, 12, 13, 14, 15, 16, 17, 18, 19, 20], [20, 21])])
def spec_ProductSpace.B23 : List Nat := [0, 1, 0, 0, 12, 0, 60, 0, 0, 384, 896, 0, 3968, 8064, 0, 32640, 0, 130944, 262140, 524284, 1048575, 2097151, 4194303]
theorem spec_ProductSpace.tab23 : rtab .any (opsOf Try.f6 23) = spec_ProductSpace.T23 := by kernel_rfl
theorem spec_ProductSpace.bits23 : waitsOk spec_ProductSpace.T23.2 spec_ProductSpace.B23 = true := by kernel_rfl
set_option maxHeartbeats 8000000 in
set_option maxRecDepth 100000 in
theorem spec_ProductSpace.calls (k : Nat) (A0_0 : Option Addr) (c0_0 : Nat) (l0_0 : List (List Int)) (A0_1 : Option Addr) (c0_1 : Nat) (l0_1 : List (S41)) (A1_0 : Option Addr) (c1_0 : Nat) (l1_0 : List (List Int)) (A1_1 : Option Addr) (c1_1 : Nat) (l1_1 : List (S41)) (r1 : List (List Int)) (r2 : List (S41)) (r3 : Bool) (w : World) (hr0_0 : Kd.C (Kd.slice 3 (Kd.int .i64)) w A0_0 l0_0.length l0_0) (hc0_0 : l0_0.length ≤ c0_0) (hr0_1 : Kd.C k41 w A0_1 l0_1.length l0_1) (hc0_1 : l0_1.length ≤ c0_1) (hr1_0 : Kd.C (Kd.slice 3 (Kd.int .i64)) w A1_0 l1_0.length l1_0) (hc1_0 : l1_0.length ≤ c1_0) (hr1_1 : Kd.C k41 w A1_1 l1_1.length l1_1) (hc1_1 : l1_1.length ≤ c1_1) (h : spec_ProductSpace.f k l0_0 l0_1 l1_0 l1_1 = some (r1, r2, r3)) :
 Calls Try.prog 6 #[.agg #[.slice A0_0 l0_0.length c0_0, .slice A0_1 l0_1.length c0_1], .agg #[.slice A1_0 l1_0.length c1_0, .slice A1_1 l1_1.length c1_1]] w fun e w' => ∃ v0_ v1_ : Value, e = .returned (.tuple #[.agg #[v0_, v1_], .bool r3]) ∧ Kd.S (Kd.slice 3 (Kd.int .i64)) 39 w' w.heap.size (fun _ => True) v0_ r1 ∧ Kd.R k41 41 w' w.heap.size (fun _ => True) v1_ r2 ∧ Below w.heap.size w w' := by
 have hu27 := Try.underlying27
 have hu41 := Try.underlying41
 have HR0_0 := Aside0.mk hr0_0
 have HC0_0 := Aside0.mk hc0_0
 clear hr0_0 hc0_0
 have HR0_1 := Aside0.mk hr0_1
 have HC0_1 := Aside0.mk hc0_1
 clear hr0_1 hc0_1
 have HR1_0 := Aside0.mk hr1_0
 have HC1_0 := Aside0.mk hc1_0
 clear hr1_0 hc1_0
 have HR1_1 := Aside0.mk hr1_1
 have HC1_1 := Aside0.mk hc1_1
 clear hr1_1 hc1_1
 have HB := zM (Below.refl w.heap.size w)
 have H : ((spec_l2Space.f k l0_0 l0_1).bind fun t295 => (if t295 = true then ((spec_l2Space.f k l1_0 l1_1).bind fun t296 => (if t296 = true then ((spec_l2Even.f k l0_0 l0_1).bind fun t297 => (if t297 = true then (spec_ProductSpace.j0 k (decide ((wrap64 ((l0_0.length : Int) * (l1_0.length : Int))) > 300)) l0_0 l0_1 l1_0 l1_1) else (spec_ProductSpace.j0 k true l0_0 l0_1 l1_0 l1_1))) else (spec_ProductSpace.j0 k true l0_0 l0_1 l1_0 l1_1))) else (spec_ProductSpace.j0 k true l0_0 l0_1 l1_0 l1_1))) = some (r1, r2, r3) := h
 clear h
 have HC3 := Aside0.mk H
 clear H
 go_enter Try.func6, Try.ntmps6
 go_upto_region 1 with (first | ((with_reducible refine gate_dst (N := 2) rfl ?_); (try (refine gate_guard (by rfl) ?_; dsimp only)); refine zb (w := w) 2 #[.slice A0_0 l0_0.length c0_0, .slice A0_1 l0_1.length c0_1] 27 zB ?_; clear HB; intro gb292 w4 HB BK292 GW292; have GE292 := GW292) | ((with_reducible refine gate_dst (N := 3) rfl ?_); (try (refine gate_guard (by rfl) ?_; dsimp only)); refine ze 3 #[.slice A1_0 l1_0.length c1_0, .slice A1_1 l1_1.length c1_1] 27 ?_; intro gb293 hg w5 hbox hb; have BK293 := zM (hbox); have GW293 := zM ((by rw [hg]; exact (below_size zB) : w.heap.size ≤ gb293)); have GE293 := zM ((by rw [hg]; exact (below_size zB) : w.heap.size ≤ gb293)); replace HB := zM (below_step zB hb); have NB292_293 := zM ((by rw [hg]; exact Nat.ne_of_lt (blk_lt (g := gb292) (o := .cells #[.slice A0_0 l0_0.length c0_0, .slice A0_1 l0_1.length c0_1] 27 (0, 0)) (zK BK292.out)) : gb292 ≠ gb293)); have NB293_292 := zM ((by rw [hg]; exact Nat.ne_of_gt (blk_lt (g := gb292) (o := .cells #[.slice A0_0 l0_0.length c0_0, .slice A0_1 l0_1.length c0_1] 27 (0, 0)) (zK BK292.out)) : gb293 ≠ gb292)); replace BK292 := zM (blk_below (g := gb292) (o := .cells #[.slice A0_0 l0_0.length c0_0, .slice A0_1 l0_1.length c0_1] 27 (0, 0)) (zK BK292.out) hb); clear hb hbox hg) | ((with_reducible refine gate_dst (N := 4) rfl ?_); (try (refine gate_guard (by rfl) ?_; dsimp only)); refine ze 4 #[.slice none 0 0, .slice none 0 0] 27 ?_; intro gb294 hg w6 hbox hb; have BK294 := zM (hbox); have GW294 := zM ((by rw [hg]; exact (below_size zB) : w.heap.size ≤ gb294)); have GE294 := zM ((by rw [hg]; exact (below_size zB) : w.heap.size ≤ gb294)); replace HB := zM (below_step zB hb); have NB292_294 := zM ((by rw [hg]; exact Nat.ne_of_lt (blk_lt (g := gb292) (o := .cells #[.slice A0_0 l0_0.length c0_0, .slice A0_1 l0_1.length c0_1] 27 (0, 0)) (zK BK292.out)) : gb292 ≠ gb294)); have NB294_292 := zM ((by rw [hg]; exact Nat.ne_of_gt (blk_lt (g := gb292) (o := .cells #[.slice A0_0 l0_0.length c0_0, .slice A0_1 l0_1.length c0_1] 27 (0, 0)) (zK BK292.out)) : gb294 ≠ gb292)); replace BK292 := zM (blk_below (g := gb292) (o := .cells #[.slice A0_0 l0_0.length c0_0, .slice A0_1 l0_1.length c0_1] 27 (0, 0)) (zK BK292.out) hb); have NB293_294 := zM ((by rw [hg]; exact Nat.ne_of_lt (blk_lt (g := gb293) (o := .cells #[.slice A1_0 l1_0.length c1_0, .slice A1_1 l1_1.length c1_1] 27 (0, 0)) (zK BK293.out)) : gb293 ≠ gb294)); have NB294_293 := zM ((by rw [hg]; exact Nat.ne_of_gt (blk_lt (g := gb293) (o := .cells #[.slice A1_0 l1_0.length c1_0, .slice A1_1 l1_1.length c1_1] 27 (0, 0)) (zK BK293.out)) : gb294 ≠ gb293)); replace BK293 := zM (blk_below (g := gb293) (o := .cells #[.slice A1_0 l1_0.length c1_0, .slice A1_1 l1_1.length c1_1] 27 (0, 0)) (zK BK293.out) hb); clear hb hbox hg))
 (try simp only [Act.put, List.setIfInBounds_toArray, List.set_cons_zero, List.set_cons_succ])
 go_cut [36] (fun v36 wc => ∃ (kq : Nat) (x36_2 : Bool), v36 = .bool x36_2 ∧ Aside0 (spec_ProductSpace.j0 kq x36_2 l0_0 l0_1 l1_0 l1_1 = some (r1, r2, r3)) ∧ Aside0 (kq ≤ k) ∧ Aside0 (wc.heap[gb292]? = some (.cells #[(.slice A0_0 l0_0.length c0_0), (.slice A0_1 l0_1.length c0_1)] 27 (0, 0))) ∧ Aside0 (wc.heap[gb293]? = some (.cells #[(.slice A1_0 l1_0.length c1_0), (.slice A1_1 l1_1.length c1_1)] 27 (0, 0))) ∧ Aside0 (wc.heap[gb294]? = some (.cells #[(.slice none 0 0), (.slice none 0 0)] 27 (0, 0))) ∧ Aside0 (Below w.heap.size w wc))
 case first =>
  have H := HC3.out
  clear HC3
  replace H := Option.bind_eq_some_iff.mp H
  obtain ⟨t295, A70, H⟩ := H
  replace H : (if t295 = true then ((spec_l2Space.f k l1_0 l1_1).bind fun t296 => (if t296 = true then ((spec_l2Even.f k l0_0 l0_1).bind fun t297 => (if t297 = true then (spec_ProductSpace.j0 k (decide ((wrap64 ((l0_0.length : Int) * (l1_0.length : Int))) > 300)) l0_0 l0_1 l1_0 l1_1) else (spec_ProductSpace.j0 k true l0_0 l0_1 l1_0 l1_1))) else (spec_ProductSpace.j0 k true l0_0 l0_1 l1_0 l1_1))) else (spec_ProductSpace.j0 k true l0_0 l0_1 l1_0 l1_1)) = some (r1, r2, r3) := H
  have A7 := Aside0.mk A70
  clear A70
  by_cases c8 : t295 = true
  · subst c8
    have H1 : ((spec_l2Space.f k l1_0 l1_1).bind fun t296 => (if t296 = true then ((spec_l2Even.f k l0_0 l0_1).bind fun t297 => (if t297 = true then (spec_ProductSpace.j0 k (decide ((wrap64 ((l0_0.length : Int) * (l1_0.length : Int))) > 300)) l0_0 l0_1 l1_0 l1_1) else (spec_ProductSpace.j0 k true l0_0 l0_1 l1_0 l1_1))) else (spec_ProductSpace.j0 k true l0_0 l0_1 l1_0 l1_1))) = some (r1, r2, r3) := by rw [if_pos rfl] at H; exact H
    clear H
    have H := H1
    clear H1
    replace H := Option.bind_eq_some_iff.mp H
    obtain ⟨t296, A90, H⟩ := H
    replace H : (if t296 = true then ((spec_l2Even.f k l0_0 l0_1).bind fun t297 => (if t297 = true then (spec_ProductSpace.j0 k (decide ((wrap64 ((l0_0.length : Int) * (l1_0.length : Int))) > 300)) l0_0 l0_1 l1_0 l1_1) else (spec_ProductSpace.j0 k true l0_0 l0_1 l1_0 l1_1))) else (spec_ProductSpace.j0 k true l0_0 l0_1 l1_0 l1_1)) = some (r1, r2, r3) := H
    have A9 := Aside0.mk A90
    clear A90
    by_cases c10 : t296 = true
    · subst c10
      have H1 : ((spec_l2Even.f k l0_0 l0_1).bind fun t297 => (if t297 = true then (spec_ProductSpace.j0 k (decide ((wrap64 ((l0_0.length : Int) * (l1_0.length : Int))) > 300)) l0_0 l0_1 l1_0 l1_1) else (spec_ProductSpace.j0 k true l0_0 l0_1 l1_0 l1_1))) = some (r1, r2, r3) := by rw [if_pos rfl] at H; exact H
      clear H
      have H := H1
      clear H1
      replace H := Option.bind_eq_some_iff.mp H
      obtain ⟨t297, A110, H⟩ := H
      replace H : (if t297 = true then (spec_ProductSpace.j0 k (decide ((wrap64 ((l0_0.length : Int) * (l1_0.length : Int))) > 300)) l0_0 l0_1 l1_0 l1_1) else (spec_ProductSpace.j0 k true l0_0 l0_1 l1_0 l1_1)) = some (r1, r2, r3) := H
      have A11 := Aside0.mk A110
      clear A110
      by_cases c12 : t297 = true
      · subst c12
        have H1 : (spec_ProductSpace.j0 k (decide ((wrap64 ((l0_0.length : Int) * (l1_0.length : Int))) > 300)) l0_0 l0_1 l1_0 l1_1) = some (r1, r2, r3) := by rw [if_pos rfl] at H; exact H
        clear H
        have H := H1
        clear H1
        have H' := Aside0.mk H
        clear H
        have hnb13 := NB292_293.out
        have hnc13 := NB293_292.out
        have hnb14 := NB292_294.out
        have hnc14 := NB294_292.out
        have hcz15_0 := zy BK292 0
        have hcz15_1 := zy BK292 1
        have hfz15_0 := blk_frozen BK292.out 0
        have hfz15_1 := blk_frozen BK292.out 1
        go_wp2_with (first | ((with_reducible refine gate_callee (f := 16) rfl ?_); refine zc 15 Try.func16 #[.agg #[.slice A0_0 l0_0.length c0_0, .slice A0_1 l0_1.length c0_1]] ?_; (with_reducible refine (spec_l2Space.calls k _ _ l0_0 _ _ l0_1 true _ ?side1 ?side2 ?side3 ?side4 A7.out).mono ?_); (case side1 => exact zC (Kd.C_below HR0_0.out HB.out)); (case side2 => exact HC0_0.out); (case side3 => exact zC (Kd.C_below HR0_1.out HB.out)); (case side4 => exact HC0_1.out); rintro e w16 ⟨rfl, hb⟩; refine ⟨_, rfl, ?_⟩; replace BK292 := zM (blk_below (g := gb292) (o := .cells #[.slice A0_0 l0_0.length c0_0, .slice A0_1 l0_1.length c0_1] 27 (0, 0)) (zK BK292.out) hb); replace BK293 := zM (blk_below (g := gb293) (o := .cells #[.slice A1_0 l1_0.length c1_0, .slice A1_1 l1_1.length c1_1] 27 (0, 0)) (zK BK293.out) hb); replace BK294 := zM (blk_below (g := gb294) (o := .cells #[.slice none 0 0, .slice none 0 0] 27 (0, 0)) (zK BK294.out) hb); replace HB := zM (below_step zB hb); (try clear hb); (try clear hb2); (try clear hk); (try clear hi); have hnb17 := NB293_294.out; have hnc17 := NB294_293.out; have hcz18_0 := zy BK293 0; have hcz18_1 := zy BK293 1; have hfz18_0 := blk_frozen BK293.out 0; have hfz18_1 := blk_frozen BK293.out 1) | (go_at_call 16; (with_reducible refine (spec_l2Space.calls k _ _ l1_0 _ _ l1_1 true _ ?side1 ?side2 ?side3 ?side4 A9.out).mono ?_); (case side1 => exact zC (Kd.C_below HR1_0.out HB.out)); (case side2 => exact HC1_0.out); (case side3 => exact zC (Kd.C_below HR1_1.out HB.out)); (case side4 => exact HC1_1.out); rintro e w19 ⟨rfl, hb⟩; replace BK292 := zM (blk_below (g := gb292) (o := .cells #[.slice A0_0 l0_0.length c0_0, .slice A0_1 l0_1.length c0_1] 27 (0, 0)) (zK BK292.out) hb); replace BK293 := zM (blk_below (g := gb293) (o := .cells #[.slice A1_0 l1_0.length c1_0, .slice A1_1 l1_1.length c1_1] 27 (0, 0)) (zK BK293.out) hb); replace BK294 := zM (blk_below (g := gb294) (o := .cells #[.slice none 0 0, .slice none 0 0] 27 (0, 0)) (zK BK294.out) hb); replace HB := zM (below_step zB hb); (try clear hb); (try clear hb2); (try clear hk); (try clear hi); have hcz20_0 := zy BK292 0; have hcz20_1 := zy BK292 1; have hfz20_0 := blk_frozen BK292.out 0; have hfz20_1 := blk_frozen BK292.out 1) | (go_at_call 17; (with_reducible refine (spec_l2Even.calls k _ _ l0_0 _ _ l0_1 true _ ?side1 ?side2 ?side3 ?side4 A11.out).mono ?_); (case side1 => exact zC (Kd.C_below HR0_0.out HB.out)); (case side2 => exact HC0_0.out); (case side3 => exact zC (Kd.C_below HR0_1.out HB.out)); (case side4 => exact HC0_1.out); rintro e w21 ⟨rfl, hb⟩; replace BK292 := zM (blk_below (g := gb292) (o := .cells #[.slice A0_0 l0_0.length c0_0, .slice A0_1 l0_1.length c0_1] 27 (0, 0)) (zK BK292.out) hb); replace BK293 := zM (blk_below (g := gb293) (o := .cells #[.slice A1_0 l1_0.length c1_0, .slice A1_1 l1_1.length c1_1] 27 (0, 0)) (zK BK293.out) hb); replace BK294 := zM (blk_below (g := gb294) (o := .cells #[.slice none 0 0, .slice none 0 0] 27 (0, 0)) (zK BK294.out) hb); replace HB := zM (below_step zB hb); (try clear hb); (try clear hb2); (try clear hk); (try clear hi); have hcz22_0 := zy BK292 0; have hcz22_1 := zy BK292 1; have hfz22_0 := blk_frozen BK292.out 0; have hfz22_1 := blk_frozen BK292.out 1; have hcz23_0 := zy BK293 0; have hcz23_1 := zy BK293 1; have hfz23_0 := blk_frozen BK293.out 0; have hfz23_1 := blk_frozen BK293.out 1))
        go_meet
        case rel => exact ⟨_, (decide ((wrap64 ((l0_0.length : Int) * (l1_0.length : Int))) > 300)), (by first | rfl | (simp; done) | (simp [*]; done)), H', ⟨by first | omega | exact Nat.le_refl _⟩, ⟨zK BK292.out⟩, ⟨zK BK293.out⟩, ⟨zK BK294.out⟩, ⟨zB⟩⟩
      · replace c12 := Bool.eq_false_iff.mpr c12
        subst c12
        have H1 : (spec_ProductSpace.j0 k true l0_0 l0_1 l1_0 l1_1) = some (r1, r2, r3) := by rw [if_neg (show ¬ (false = true) by decide)] at H; exact H
        clear H
        have H := H1
        clear H1
        have H' := Aside0.mk H
        clear H
        have hnb24 := NB292_293.out
        have hnc24 := NB293_292.out
        have hnb25 := NB292_294.out
        have hnc25 := NB294_292.out
        have hcz26_0 := zy BK292 0
        have hcz26_1 := zy BK292 1
        have hfz26_0 := blk_frozen BK292.out 0
        have hfz26_1 := blk_frozen BK292.out 1
        go_wp2_with (first | ((with_reducible refine gate_callee (f := 16) rfl ?_); refine zc 15 Try.func16 #[.agg #[.slice A0_0 l0_0.length c0_0, .slice A0_1 l0_1.length c0_1]] ?_; (with_reducible refine (spec_l2Space.calls k _ _ l0_0 _ _ l0_1 true _ ?side1 ?side2 ?side3 ?side4 A7.out).mono ?_); (case side1 => exact zC (Kd.C_below HR0_0.out HB.out)); (case side2 => exact HC0_0.out); (case side3 => exact zC (Kd.C_below HR0_1.out HB.out)); (case side4 => exact HC0_1.out); rintro e w27 ⟨rfl, hb⟩; refine ⟨_, rfl, ?_⟩; replace BK292 := zM (blk_below (g := gb292) (o := .cells #[.slice A0_0 l0_0.length c0_0, .slice A0_1 l0_1.length c0_1] 27 (0, 0)) (zK BK292.out) hb); replace BK293 := zM (blk_below (g := gb293) (o := .cells #[.slice A1_0 l1_0.length c1_0, .slice A1_1 l1_1.length c1_1] 27 (0, 0)) (zK BK293.out) hb); replace BK294 := zM (blk_below (g := gb294) (o := .cells #[.slice none 0 0, .slice none 0 0] 27 (0, 0)) (zK BK294.out) hb); replace HB := zM (below_step zB hb); (try clear hb); (try clear hb2); (try clear hk); (try clear hi); have hnb28 := NB293_294.out; have hnc28 := NB294_293.out; have hcz29_0 := zy BK293 0; have hcz29_1 := zy BK293 1; have hfz29_0 := blk_frozen BK293.out 0; have hfz29_1 := blk_frozen BK293.out 1) | (go_at_call 16; (with_reducible refine (spec_l2Space.calls k _ _ l1_0 _ _ l1_1 true _ ?side1 ?side2 ?side3 ?side4 A9.out).mono ?_); (case side1 => exact zC (Kd.C_below HR1_0.out HB.out)); (case side2 => exact HC1_0.out); (case side3 => exact zC (Kd.C_below HR1_1.out HB.out)); (case side4 => exact HC1_1.out); rintro e w30 ⟨rfl, hb⟩; replace BK292 := zM (blk_below (g := gb292) (o := .cells #[.slice A0_0 l0_0.length c0_0, .slice A0_1 l0_1.length c0_1] 27 (0, 0)) (zK BK292.out) hb); replace BK293 := zM (blk_below (g := gb293) (o := .cells #[.slice A1_0 l1_0.length c1_0, .slice A1_1 l1_1.length c1_1] 27 (0, 0)) (zK BK293.out) hb); replace BK294 := zM (blk_below (g := gb294) (o := .cells #[.slice none 0 0, .slice none 0 0] 27 (0, 0)) (zK BK294.out) hb); replace HB := zM (below_step zB hb); (try clear hb); (try clear hb2); (try clear hk); (try clear hi); have hcz31_0 := zy BK292 0; have hcz31_1 := zy BK292 1; have hfz31_0 := blk_frozen BK292.out 0; have hfz31_1 := blk_frozen BK292.out 1) | (go_at_call 17; (with_reducible refine (spec_l2Even.calls k _ _ l0_0 _ _ l0_1 false _ ?side1 ?side2 ?side3 ?side4 A11.out).mono ?_); (case side1 => exact zC (Kd.C_below HR0_0.out HB.out)); (case side2 => exact HC0_0.out); (case side3 => exact zC (Kd.C_below HR0_1.out HB.out)); (case side4 => exact HC0_1.out); rintro e w32 ⟨rfl, hb⟩; replace BK292 := zM (blk_below (g := gb292) (o := .cells #[.slice A0_0 l0_0.length c0_0, .slice A0_1 l0_1.length c0_1] 27 (0, 0)) (zK BK292.out) hb); replace BK293 := zM (blk_below (g := gb293) (o := .cells #[.slice A1_0 l1_0.length c1_0, .slice A1_1 l1_1.length c1_1] 27 (0, 0)) (zK BK293.out) hb); replace BK294 := zM (blk_below (g := gb294) (o := .cells #[.slice none 0 0, .slice none 0 0] 27 (0, 0)) (zK BK294.out) hb); replace HB := zM (below_step zB hb); (try clear hb); (try clear hb2); (try clear hk); (try clear hi)))
        go_meet
        case rel => exact ⟨_, (true), (by first | rfl | (simp; done) | (simp [*]; done)), H', ⟨by first | omega | exact Nat.le_refl _⟩, ⟨zK BK292.out⟩, ⟨zK BK293.out⟩, ⟨zK BK294.out⟩, ⟨zB⟩⟩
    · replace c10 := Bool.eq_false_iff.mpr c10
      subst c10
      have H1 : (spec_ProductSpace.j0 k true l0_0 l0_1 l1_0 l1_1) = some (r1, r2, r3) := by rw [if_neg (show ¬ (false = true) by decide)] at H; exact H
      clear H
      have H := H1
      clear H1
      have H' := Aside0.mk H
      clear H
      have hnb33 := NB292_293.out
      have hnc33 := NB293_292.out
      have hnb34 := NB292_294.out
      have hnc34 := NB294_292.out
      have hcz35_0 := zy BK292 0
      have hcz35_1 := zy BK292 1
      have hfz35_0 := blk_frozen BK292.out 0
      have hfz35_1 := blk_frozen BK292.out 1
      go_wp2_with (first | ((with_reducible refine gate_callee (f := 16) rfl ?_); refine zc 15 Try.func16 #[.agg #[.slice A0_0 l0_0.length c0_0, .slice A0_1 l0_1.length c0_1]] ?_; (with_reducible refine (spec_l2Space.calls k _ _ l0_0 _ _ l0_1 true _ ?side1 ?side2 ?side3 ?side4 A7.out).mono ?_); (case side1 => exact zC (Kd.C_below HR0_0.out HB.out)); (case side2 => exact HC0_0.out); (case side3 => exact zC (Kd.C_below HR0_1.out HB.out)); (case side4 => exact HC0_1.out); rintro e w36 ⟨rfl, hb⟩; refine ⟨_, rfl, ?_⟩; replace BK292 := zM (blk_below (g := gb292) (o := .cells #[.slice A0_0 l0_0.length c0_0, .slice A0_1 l0_1.length c0_1] 27 (0, 0)) (zK BK292.out) hb); replace BK293 := zM (blk_below (g := gb293) (o := .cells #[.slice A1_0 l1_0.length c1_0, .slice A1_1 l1_1.length c1_1] 27 (0, 0)) (zK BK293.out) hb); replace BK294 := zM (blk_below (g := gb294) (o := .cells #[.slice none 0 0, .slice none 0 0] 27 (0, 0)) (zK BK294.out) hb); replace HB := zM (below_step zB hb); (try clear hb); (try clear hb2); (try clear hk); (try clear hi); have hnb37 := NB293_294.out; have hnc37 := NB294_293.out; have hcz38_0 := zy BK293 0; have hcz38_1 := zy BK293 1; have hfz38_0 := blk_frozen BK293.out 0; have hfz38_1 := blk_frozen BK293.out 1) | (go_at_call 16; (with_reducible refine (spec_l2Space.calls k _ _ l1_0 _ _ l1_1 false _ ?side1 ?side2 ?side3 ?side4 A9.out).mono ?_); (case side1 => exact zC (Kd.C_below HR1_0.out HB.out)); (case side2 => exact HC1_0.out); (case side3 => exact zC (Kd.C_below HR1_1.out HB.out)); (case side4 => exact HC1_1.out); rintro e w39 ⟨rfl, hb⟩; replace BK292 := zM (blk_below (g := gb292) (o := .cells #[.slice A0_0 l0_0.length c0_0, .slice A0_1 l0_1.length c0_1] 27 (0, 0)) (zK BK292.out) hb); replace BK293 := zM (blk_below (g := gb293) (o := .cells #[.slice A1_0 l1_0.length c1_0, .slice A1_1 l1_1.length c1_1] 27 (0, 0)) (zK BK293.out) hb); replace BK294 := zM (blk_below (g := gb294) (o := .cells #[.slice none 0 0, .slice none 0 0] 27 (0, 0)) (zK BK294.out) hb); replace HB := zM (below_step zB hb); (try clear hb); (try clear hb2); (try clear hk); (try clear hi)))
      go_meet
      case rel => exact ⟨_, (true), (by first | rfl | (simp; done) | (simp [*]; done)), H', ⟨by first | omega | exact Nat.le_refl _⟩, ⟨zK BK292.out⟩, ⟨zK BK293.out⟩, ⟨zK BK294.out⟩, ⟨zB⟩⟩
  · replace c8 := Bool.eq_false_iff.mpr c8
    subst c8
    have H1 : (spec_ProductSpace.j0 k true l0_0 l0_1 l1_0 l1_1) = some (r1, r2, r3) := by rw [if_neg (show ¬ (false = true) by decide)] at H; exact H
    clear H
    have H := H1
    clear H1
    have H' := Aside0.mk H
    clear H
    have hnb40 := NB292_293.out
    have hnc40 := NB293_292.out
    have hnb41 := NB292_294.out
    have hnc41 := NB294_292.out
    have hcz42_0 := zy BK292 0
    have hcz42_1 := zy BK292 1
    have hfz42_0 := blk_frozen BK292.out 0
    have hfz42_1 := blk_frozen BK292.out 1
    go_wp2_with (first | ((with_reducible refine gate_callee (f := 16) rfl ?_); refine zc 15 Try.func16 #[.agg #[.slice A0_0 l0_0.length c0_0, .slice A0_1 l0_1.length c0_1]] ?_; (with_reducible refine (spec_l2Space.calls k _ _ l0_0 _ _ l0_1 false _ ?side1 ?side2 ?side3 ?side4 A7.out).mono ?_); (case side1 => exact zC (Kd.C_below HR0_0.out HB.out)); (case side2 => exact HC0_0.out); (case side3 => exact zC (Kd.C_below HR0_1.out HB.out)); (case side4 => exact HC0_1.out); rintro e w43 ⟨rfl, hb⟩; refine ⟨_, rfl, ?_⟩; replace BK292 := zM (blk_below (g := gb292) (o := .cells #[.slice A0_0 l0_0.length c0_0, .slice A0_1 l0_1.length c0_1] 27 (0, 0)) (zK BK292.out) hb); replace BK293 := zM (blk_below (g := gb293) (o := .cells #[.slice A1_0 l1_0.length c1_0, .slice A1_1 l1_1.length c1_1] 27 (0, 0)) (zK BK293.out) hb); replace BK294 := zM (blk_below (g := gb294) (o := .cells #[.slice none 0 0, .slice none 0 0] 27 (0, 0)) (zK BK294.out) hb); replace HB := zM (below_step zB hb); (try clear hb); (try clear hb2); (try clear hk); (try clear hi)))
    go_meet
    case rel => exact ⟨_, (true), (by first | rfl | (simp; done) | (simp [*]; done)), H', ⟨by first | omega | exact Nat.le_refl _⟩, ⟨zK BK292.out⟩, ⟨zK BK293.out⟩, ⟨zK BK294.out⟩, ⟨zB⟩⟩
 case rest =>
  clear HC3
  try clear c1
  try clear c2
  try clear p2
  try clear c3
  try clear c4
  try clear c6
  try clear p6
  try clear c8
  try clear c10
  try clear c12
  try clear c13
  try clear c14
  try clear c16
  try clear c17
  try clear c24
  try clear c25
  try clear c28
  try clear c33
  try clear c34
  try clear c37
  try clear c40
  try clear c41
  try clear hcz15_0
  try clear hcz15_1
  try clear hcz18_0
  try clear hcz18_1
  try clear hcz20_0
  try clear hcz20_1
  try clear hcz22_0
  try clear hcz22_1
  try clear hcz23_0
  try clear hcz23_1
  try clear hcz26_0
  try clear hcz26_1
  try clear hcz29_0
  try clear hcz29_1
  try clear hcz31_0
  try clear hcz31_1
  try clear hcz35_0
  try clear hcz35_1
  try clear hcz38_0
  try clear hcz38_1
  try clear hcz42_0
  try clear hcz42_1
  try clear hfz15_0
  try clear hfz15_1
  try clear hfz18_0
  try clear hfz18_1
  try clear hfz20_0
  try clear hfz20_1
  try clear hfz22_0
  try clear hfz22_1
  try clear hfz23_0
  try clear hfz23_1
  try clear hfz26_0
  try clear hfz26_1
  try clear hfz29_0
  try clear hfz29_1
  try clear hfz31_0
  try clear hfz31_1
  try clear hfz35_0
  try clear hfz35_1
  try clear hfz38_0
  try clear hfz38_1
  try clear hfz42_0
  try clear hfz42_1
  obtain ⟨kq, x36_2, rfl, HA, HJ2, BK292, BK293, BK294, HB⟩ := hcut
  cases kq with
  | zero => exact absurd HA.out (by simp [spec_ProductSpace.j0])
  | succ kj2 =>
   have H := HA.out
   clear HA
   simp only [spec_ProductSpace.j0] at H
   by_cases c44 : x36_2 = true
   · subst c44
     have H1 : (some (([] : List (List Int)), ([] : List (S41)), false)) = some (r1, r2, r3) := by rw [if_pos rfl] at H; exact H
     clear H
     have H := H1
     clear H1
     simp only [Option.some.injEq, Prod.mk.injEq] at H
     obtain ⟨rfl, rfl, rfl⟩ := H
     have hnb45 := NB294_292.out
     have hnc45 := NB292_294.out
     have hnb46 := NB294_293.out
     have hnc46 := NB293_294.out
     have hcz47_0 := zy BK294 0
     have hcz47_1 := zy BK294 1
     have hfz47_0 := blk_frozen BK294.out 0
     have hfz47_1 := blk_frozen BK294.out 1
     go_wp2
     refine bodyPost_ret (results_ct rfl _ _ gb294 27 #[.slice none 0 0, .slice none 0 0] (0, 0) _ rfl (by (with_reducible repeat (first | refine blk_drewN ?_ _ | refine blk_drew ?_ | refine blk_alloc ?_ _)); refine blk_put (cs := #[.slice none 0 0, .slice none 0 0]) ?_ 1 _ rfl; (with_reducible repeat (first | refine blk_drewN ?_ _ | refine blk_drew ?_ | refine blk_alloc ?_ _)); refine blk_put (cs := #[.slice none 0 0, .slice none 0 0]) ?_ 0 _ rfl; (with_reducible repeat (first | refine blk_drewN ?_ _ | refine blk_drew ?_ | refine blk_alloc ?_ _)); exact BK294.out) Try.underlying27 rfl (by kernel_rfl)) rfl ?_
     exact ⟨_, _, by first | rfl | (simp [errW_none, errW_some] <;> rfl) | (simp [*, errW_none, errW_some] <;> rfl), by first | exact Kd.S_nil _ _ _ _ _ | exact Kd.N_nil _ _ _ _ _ | exact Kd.V_nil _ _ _ _ _ | exact Kd.Q_nil _ _ _ _ _ | exact Kd.R_nil _ _ _ _ _, by first | exact Kd.R_nil _ _ _ _ _ | exact Kd.N_nil _ _ _ _ _ | exact Kd.V_nil _ _ _ _ _ | exact Kd.Q_nil _ _ _ _ _ | exact Kd.S_nil _ _ _ _ _, zB⟩
   · replace c44 := Bool.eq_false_iff.mpr c44
     subst c44
     have H1 : (if (wrap64 ((l0_0.length : Int) * (l1_0.length : Int))) > 0 then ((spec_l2Longest.f kj2 l0_0 l0_1).bind fun t298 => ((spec_l2Longest.f kj2 l1_0 l1_1).bind fun t299 => (if (wrap64 (t298 + t299)) > 24 then (spec_ProductSpace.j1 kj2 (l1_0.length : Int) true l0_0 l0_1 l1_0 l1_1) else (spec_ProductSpace.j1 kj2 (l1_0.length : Int) (decide ((wrap64 ((wrap64 ((l0_1.length : Int) * (l1_0.length : Int))) + (wrap64 ((l1_1.length : Int) * (l0_0.length : Int))))) > 6000)) l0_0 l0_1 l1_0 l1_1)))) else (spec_ProductSpace.j1 kj2 (l1_0.length : Int) (decide ((wrap64 ((wrap64 ((l0_1.length : Int) * (l1_0.length : Int))) + (wrap64 ((l1_1.length : Int) * (l0_0.length : Int))))) > 6000)) l0_0 l0_1 l1_0 l1_1)) = some (r1, r2, r3) := by rw [if_neg (show ¬ (false = true) by decide)] at H; exact H
     clear H
     have H := H1
     clear H1
     have HC48 := Aside0.mk H
     clear H
     have hnb49 := NB293_292.out
     have hnc49 := NB292_293.out
     have hnb50 := NB293_294.out
     have hnc50 := NB294_293.out
     have hcz51_0 := zy BK293 0
     have hcz51_1 := zy BK293 1
     have hfz51_0 := blk_frozen BK293.out 0
     have hfz51_1 := blk_frozen BK293.out 1
     go_upto_region 4 with (fail)
     go_cut [70] (fun v70 wc => ∃ (kq : Nat) (x70_47 : Bool), v70 = .bool x70_47 ∧ Aside0 (spec_ProductSpace.j1 kq (l1_0.length : Int) x70_47 l0_0 l0_1 l1_0 l1_1 = some (r1, r2, r3)) ∧ Aside0 (kq ≤ kj2) ∧ Aside0 (wc.heap[gb292]? = some (.cells #[(.slice A0_0 l0_0.length c0_0), (.slice A0_1 l0_1.length c0_1)] 27 (0, 0))) ∧ Aside0 (wc.heap[gb293]? = some (.cells #[(.slice A1_0 l1_0.length c1_0), (.slice A1_1 l1_1.length c1_1)] 27 (0, 0))) ∧ Aside0 (wc.heap[gb294]? = some (.cells #[(.slice none 0 0), (.slice none 0 0)] 27 (0, 0))) ∧ Aside0 (Below w.heap.size w wc))
     case first =>
      as_aux_lemma =>
      have H := HC48.out
      clear HC48
      by_cases c52 : (wrap64 ((l0_0.length : Int) * (l1_0.length : Int))) > 0
      · rw [if_pos c52] at H
        have c52b0 : decide (0 < (wrap64 ((l0_0.length : Int) * (l1_0.length : Int)))) = true := decide_eq_true c52
        clear c52
        (first | rw [c52b0] | (simp only [i64_w, i32_w]; rw [c52b0]) | skip)
        replace H := Option.bind_eq_some_iff.mp H
        obtain ⟨t298, A530, H⟩ := H
        replace H : ((spec_l2Longest.f kj2 l1_0 l1_1).bind fun t299 => (if (wrap64 (t298 + t299)) > 24 then (spec_ProductSpace.j1 kj2 (l1_0.length : Int) true l0_0 l0_1 l1_0 l1_1) else (spec_ProductSpace.j1 kj2 (l1_0.length : Int) (decide ((wrap64 ((wrap64 ((l0_1.length : Int) * (l1_0.length : Int))) + (wrap64 ((l1_1.length : Int) * (l0_0.length : Int))))) > 6000)) l0_0 l0_1 l1_0 l1_1))) = some (r1, r2, r3) := H
        have A53 := Aside0.mk A530
        clear A530
        replace H := Option.bind_eq_some_iff.mp H
        obtain ⟨t299, A540, H⟩ := H
        replace H : (if (wrap64 (t298 + t299)) > 24 then (spec_ProductSpace.j1 kj2 (l1_0.length : Int) true l0_0 l0_1 l1_0 l1_1) else (spec_ProductSpace.j1 kj2 (l1_0.length : Int) (decide ((wrap64 ((wrap64 ((l0_1.length : Int) * (l1_0.length : Int))) + (wrap64 ((l1_1.length : Int) * (l0_0.length : Int))))) > 6000)) l0_0 l0_1 l1_0 l1_1)) = some (r1, r2, r3) := H
        have A54 := Aside0.mk A540
        clear A540
        by_cases c55 : (wrap64 (t298 + t299)) > 24
        · rw [if_pos c55] at H
          have c55b0 : decide (24 < (wrap64 (t298 + t299))) = true := decide_eq_true c55
          clear c55
          have H' := Aside0.mk H
          clear H
          (repeat (first | go_skip | go_guarded | go_step | go_upon))
          replace BK292 := zM (blk_drew BK292.out)
          replace BK293 := zM (blk_drew BK293.out)
          replace BK294 := zM (blk_drew BK294.out)
          replace HB := zM (below_drew1 HB.out)
          refine zs (n := 30) (fun w' => w'.cell? ⟨gb292, 0, none⟩ = some (.slice A0_0 l0_0.length c0_0) ∧ w'.cell? ⟨gb292, 1, none⟩ = some (.slice A0_1 l0_1.length c0_1) ∧ w'.cell? ⟨gb293, 0, none⟩ = some (.slice A1_0 l1_0.length c1_0) ∧ w'.cell? ⟨gb293, 1, none⟩ = some (.slice A1_1 l1_1.length c1_1)) ⟨(blk_cell BK292.out 0).trans rfl, (blk_cell BK292.out 1).trans rfl, (blk_cell BK293.out 0).trans rfl, (blk_cell BK293.out 1).trans rfl⟩ (fun hHeld => ?_); refine with_tabW spec_ProductSpace.tab4 spec_ProductSpace.bits4 (fun HT_ HW_ => ?_)
          generalize wc.drew = w56 at BK292 BK293 BK294 HB hHeld ⊢
          refine zp HT_ 0 41 ?_
          refine zp HT_ 3 44 ?_
          refine zt HT_ HW_ 1 42 hHeld ?_ (hy := by rintro w' ⟨s0, s1, s2, s3⟩; go_simp; with_reducible rfl)
          refine zp HT_ 2 43 ?_
          refine zp HT_ 4 45 ?_
          refine zp HT_ 5 46 ?_
          refine zp HT_ 6 47 ?_
          refine zt HT_ HW_ 7 48 hHeld ?_ (hy := by rintro w' ⟨s0, s1, s2, s3⟩; go_simp; with_reducible rfl)
          refine zt HT_ HW_ 9 50 hHeld ?_ (hy := by rintro w' ⟨s0, s1, s2, s3⟩; go_simp; with_reducible rfl)
          refine zg HT_ 8 49 Try.func18 #[.agg #[.slice A0_0 l0_0.length c0_0, .slice A0_1 l0_1.length c0_1]] (fun K hK => ?_)
          with_reducible refine (spec_l2Longest.calls kj2 _ _ l0_0 _ _ l0_1 t298 _ ?side1 ?side2 ?side3 ?side4 A53.out).mono ?_
          (case side1 => exact zC (Kd.C_below HR0_0.out HB.out))
          (case side2 => exact HC0_0.out)
          (case side3 => exact zC (Kd.C_below HR0_1.out HB.out))
          (case side4 => exact HC0_1.out)
          rintro e w57 ⟨rfl, hb⟩
          refine ⟨_, rfl, ?_⟩
          replace BK292 := zM (blk_below (g := gb292) (o := .cells #[.slice A0_0 l0_0.length c0_0, .slice A0_1 l0_1.length c0_1] 27 (0, 0)) (zK BK292.out) hb)
          replace BK293 := zM (blk_below (g := gb293) (o := .cells #[.slice A1_0 l1_0.length c1_0, .slice A1_1 l1_1.length c1_1] 27 (0, 0)) (zK BK293.out) hb)
          replace BK294 := zM (blk_below (g := gb294) (o := .cells #[.slice none 0 0, .slice none 0 0] 27 (0, 0)) (zK BK294.out) hb)
          replace HB := zM (below_step zB hb)
          (try clear hb)
          (try clear hb2)
          (try clear hk)
          (try clear hi)
          refine hK.out _ _ ⟨(blk_cell BK292.out 0).trans rfl, (blk_cell BK292.out 1).trans rfl, (blk_cell BK293.out 0).trans rfl, (blk_cell BK293.out 1).trans rfl⟩ (fun hHeld => ?_)
          clear hK K
          refine zn 49 ?_
          refine zg HT_ 10 51 Try.func18 #[.agg #[.slice A1_0 l1_0.length c1_0, .slice A1_1 l1_1.length c1_1]] (fun K hK => ?_)
          with_reducible refine (spec_l2Longest.calls kj2 _ _ l1_0 _ _ l1_1 t299 _ ?side1 ?side2 ?side3 ?side4 A54.out).mono ?_
          (case side1 => exact zC (Kd.C_below HR1_0.out HB.out))
          (case side2 => exact HC1_0.out)
          (case side3 => exact zC (Kd.C_below HR1_1.out HB.out))
          (case side4 => exact HC1_1.out)
          rintro e w58 ⟨rfl, hb⟩
          refine ⟨_, rfl, ?_⟩
          replace BK292 := zM (blk_below (g := gb292) (o := .cells #[.slice A0_0 l0_0.length c0_0, .slice A0_1 l0_1.length c0_1] 27 (0, 0)) (zK BK292.out) hb)
          replace BK293 := zM (blk_below (g := gb293) (o := .cells #[.slice A1_0 l1_0.length c1_0, .slice A1_1 l1_1.length c1_1] 27 (0, 0)) (zK BK293.out) hb)
          replace BK294 := zM (blk_below (g := gb294) (o := .cells #[.slice none 0 0, .slice none 0 0] 27 (0, 0)) (zK BK294.out) hb)
          replace HB := zM (below_step zB hb)
          (try clear hb)
          (try clear hb2)
          (try clear hk)
          (try clear hi)
          refine hK.out _ _ ⟨(blk_cell BK292.out 0).trans rfl, (blk_cell BK292.out 1).trans rfl, (blk_cell BK293.out 0).trans rfl, (blk_cell BK293.out 1).trans rfl⟩ (fun hHeld => ?_)
          clear hK K
          refine zn 51 ?_
          refine zp HT_ 11 52 ?_
          refine zp HT_ 12 53 ?_
          refine zp HT_ 13 54 ?_
          refine zp HT_ 14 55 ?_
          refine zu HT_ 15 56 ?_
          refine zu HT_ 16 57 ?_
          refine zu HT_ 17 58 ?_
          refine zu HT_ 18 59 ?_
          refine zu HT_ 19 60 ?_
          refine zu HT_ 20 61 ?_
          refine zu HT_ 21 62 ?_
          refine zu HT_ 22 63 ?_
          refine zu HT_ 23 64 ?_
          refine zu HT_ 24 65 ?_
          refine zu HT_ 25 66 ?_
          refine zu HT_ 26 67 ?_
          refine zu HT_ 27 68 ?_
          refine zu HT_ 28 69 ?_
          refine zp HT_ 29 70 ?_
          refine zo HT_ ?_
          (repeat (first | go_skip | go_guarded | go_step | go_upon))
          go_meet
          case rel => exact ⟨_, (true), (by first | rfl | (simp; done) | (simp [*]; done)), H', ⟨by have := HJ2.out; first | omega | exact Nat.le_refl _⟩, ⟨zK BK292.out⟩, ⟨zK BK293.out⟩, ⟨zK BK294.out⟩, ⟨zB⟩⟩
        · rw [if_neg c55] at H
          have c55b0 : decide (24 < (wrap64 (t298 + t299))) = false := decide_eq_false c55
          clear c55
          have H' := Aside0.mk H
          clear H
          (repeat (first | go_skip | go_guarded | go_step | go_upon))
          replace BK292 := zM (blk_drew BK292.out)
          replace BK293 := zM (blk_drew BK293.out)
          replace BK294 := zM (blk_drew BK294.out)
          replace HB := zM (below_drew1 HB.out)
          refine zs (n := 30) (fun w' => w'.cell? ⟨gb292, 0, none⟩ = some (.slice A0_0 l0_0.length c0_0) ∧ w'.cell? ⟨gb292, 1, none⟩ = some (.slice A0_1 l0_1.length c0_1) ∧ w'.cell? ⟨gb293, 0, none⟩ = some (.slice A1_0 l1_0.length c1_0) ∧ w'.cell? ⟨gb293, 1, none⟩ = some (.slice A1_1 l1_1.length c1_1)) ⟨(blk_cell BK292.out 0).trans rfl, (blk_cell BK292.out 1).trans rfl, (blk_cell BK293.out 0).trans rfl, (blk_cell BK293.out 1).trans rfl⟩ (fun hHeld => ?_); refine with_tabW spec_ProductSpace.tab4 spec_ProductSpace.bits4 (fun HT_ HW_ => ?_)
          generalize wc.drew = w59 at BK292 BK293 BK294 HB hHeld ⊢
          refine zp HT_ 0 41 ?_
          refine zp HT_ 3 44 ?_
          refine zt HT_ HW_ 1 42 hHeld ?_ (hy := by rintro w' ⟨s0, s1, s2, s3⟩; go_simp; with_reducible rfl)
          refine zp HT_ 2 43 ?_
          refine zp HT_ 4 45 ?_
          refine zp HT_ 5 46 ?_
          refine zp HT_ 6 47 ?_
          refine zt HT_ HW_ 7 48 hHeld ?_ (hy := by rintro w' ⟨s0, s1, s2, s3⟩; go_simp; with_reducible rfl)
          refine zt HT_ HW_ 9 50 hHeld ?_ (hy := by rintro w' ⟨s0, s1, s2, s3⟩; go_simp; with_reducible rfl)
          refine zg HT_ 8 49 Try.func18 #[.agg #[.slice A0_0 l0_0.length c0_0, .slice A0_1 l0_1.length c0_1]] (fun K hK => ?_)
          with_reducible refine (spec_l2Longest.calls kj2 _ _ l0_0 _ _ l0_1 t298 _ ?side1 ?side2 ?side3 ?side4 A53.out).mono ?_
          (case side1 => exact zC (Kd.C_below HR0_0.out HB.out))
          (case side2 => exact HC0_0.out)
          (case side3 => exact zC (Kd.C_below HR0_1.out HB.out))
          (case side4 => exact HC0_1.out)
          rintro e w60 ⟨rfl, hb⟩
          refine ⟨_, rfl, ?_⟩
          replace BK292 := zM (blk_below (g := gb292) (o := .cells #[.slice A0_0 l0_0.length c0_0, .slice A0_1 l0_1.length c0_1] 27 (0, 0)) (zK BK292.out) hb)
          replace BK293 := zM (blk_below (g := gb293) (o := .cells #[.slice A1_0 l1_0.length c1_0, .slice A1_1 l1_1.length c1_1] 27 (0, 0)) (zK BK293.out) hb)
          replace BK294 := zM (blk_below (g := gb294) (o := .cells #[.slice none 0 0, .slice none 0 0] 27 (0, 0)) (zK BK294.out) hb)
          replace HB := zM (below_step zB hb)
          (try clear hb)
          (try clear hb2)
          (try clear hk)
          (try clear hi)
          refine hK.out _ _ ⟨(blk_cell BK292.out 0).trans rfl, (blk_cell BK292.out 1).trans rfl, (blk_cell BK293.out 0).trans rfl, (blk_cell BK293.out 1).trans rfl⟩ (fun hHeld => ?_)
          clear hK K
          refine zn 49 ?_
          refine zg HT_ 10 51 Try.func18 #[.agg #[.slice A1_0 l1_0.length c1_0, .slice A1_1 l1_1.length c1_1]] (fun K hK => ?_)
          with_reducible refine (spec_l2Longest.calls kj2 _ _ l1_0 _ _ l1_1 t299 _ ?side1 ?side2 ?side3 ?side4 A54.out).mono ?_
          (case side1 => exact zC (Kd.C_below HR1_0.out HB.out))
          (case side2 => exact HC1_0.out)
          (case side3 => exact zC (Kd.C_below HR1_1.out HB.out))
          (case side4 => exact HC1_1.out)
          rintro e w61 ⟨rfl, hb⟩
          refine ⟨_, rfl, ?_⟩
          replace BK292 := zM (blk_below (g := gb292) (o := .cells #[.slice A0_0 l0_0.length c0_0, .slice A0_1 l0_1.length c0_1] 27 (0, 0)) (zK BK292.out) hb)
          replace BK293 := zM (blk_below (g := gb293) (o := .cells #[.slice A1_0 l1_0.length c1_0, .slice A1_1 l1_1.length c1_1] 27 (0, 0)) (zK BK293.out) hb)
          replace BK294 := zM (blk_below (g := gb294) (o := .cells #[.slice none 0 0, .slice none 0 0] 27 (0, 0)) (zK BK294.out) hb)
          replace HB := zM (below_step zB hb)
          (try clear hb)
          (try clear hb2)
          (try clear hk)
          (try clear hi)
          refine hK.out _ _ ⟨(blk_cell BK292.out 0).trans rfl, (blk_cell BK292.out 1).trans rfl, (blk_cell BK293.out 0).trans rfl, (blk_cell BK293.out 1).trans rfl⟩ (fun hHeld => ?_)
          clear hK K
          refine zn 51 ?_
          refine zp HT_ 11 52 ?_
          refine zp HT_ 12 53 ?_
          refine zp HT_ 13 54 ?_
          refine zp HT_ 14 55 ?_
          refine zp HT_ 15 56 ?_
          refine zp HT_ 18 59 ?_
          refine zp HT_ 20 61 ?_
          refine zp HT_ 23 64 ?_
          refine zt HT_ HW_ 16 57 hHeld ?_ (hy := by rintro w' ⟨s0, s1, s2, s3⟩; go_simp; with_reducible rfl)
          refine zp HT_ 17 58 ?_
          refine zp HT_ 19 60 ?_
          refine zt HT_ HW_ 21 62 hHeld ?_ (hy := by rintro w' ⟨s0, s1, s2, s3⟩; go_simp; with_reducible rfl)
          refine zp HT_ 22 63 ?_
          refine zt HT_ HW_ 24 65 hHeld ?_ (hy := by rintro w' ⟨s0, s1, s2, s3⟩; go_simp; with_reducible rfl)
          refine zp HT_ 25 66 ?_
          refine zp HT_ 26 67 ?_
          refine zp HT_ 27 68 ?_
          refine zp HT_ 28 69 ?_
          refine zp HT_ 29 70 ?_
          refine zo HT_ ?_
          (repeat (first | go_skip | go_guarded | go_step | go_upon))
          go_meet
          case rel => exact ⟨_, (decide ((wrap64 ((wrap64 ((l0_1.length : Int) * (l1_0.length : Int))) + (wrap64 ((l1_1.length : Int) * (l0_0.length : Int))))) > 6000)), (by first | rfl | (simp; done) | (simp [*]; done)), H', ⟨by have := HJ2.out; first | omega | exact Nat.le_refl _⟩, ⟨zK BK292.out⟩, ⟨zK BK293.out⟩, ⟨zK BK294.out⟩, ⟨zB⟩⟩
      · rw [if_neg c52] at H
        have c52b0 : decide (0 < (wrap64 ((l0_0.length : Int) * (l1_0.length : Int)))) = false := decide_eq_false c52
        clear c52
        (first | rw [c52b0] | (simp only [i64_w, i32_w]; rw [c52b0]) | skip)
        have H' := Aside0.mk H
        clear H
        (repeat (first | go_skip | go_guarded | go_step | go_upon))
        replace BK292 := zM (blk_drew BK292.out)
        replace BK293 := zM (blk_drew BK293.out)
        replace BK294 := zM (blk_drew BK294.out)
        replace HB := zM (below_drew1 HB.out)
        refine zs (n := 30) (fun w' => w'.cell? ⟨gb292, 0, none⟩ = some (.slice A0_0 l0_0.length c0_0) ∧ w'.cell? ⟨gb292, 1, none⟩ = some (.slice A0_1 l0_1.length c0_1) ∧ w'.cell? ⟨gb293, 0, none⟩ = some (.slice A1_0 l1_0.length c1_0) ∧ w'.cell? ⟨gb293, 1, none⟩ = some (.slice A1_1 l1_1.length c1_1)) ⟨(blk_cell BK292.out 0).trans rfl, (blk_cell BK292.out 1).trans rfl, (blk_cell BK293.out 0).trans rfl, (blk_cell BK293.out 1).trans rfl⟩ (fun hHeld => ?_); refine with_tabW spec_ProductSpace.tab4 spec_ProductSpace.bits4 (fun HT_ HW_ => ?_)
        generalize wc.drew = w62 at BK292 BK293 BK294 HB hHeld ⊢
        refine zp HT_ 0 41 ?_
        refine zp HT_ 3 44 ?_
        refine zt HT_ HW_ 1 42 hHeld ?_ (hy := by rintro w' ⟨s0, s1, s2, s3⟩; go_simp; with_reducible rfl)
        refine zp HT_ 2 43 ?_
        refine zp HT_ 4 45 ?_
        refine zp HT_ 5 46 ?_
        refine zp HT_ 6 47 ?_
        refine zu HT_ 7 48 ?_
        refine zu HT_ 8 49 ?_
        refine zu HT_ 9 50 ?_
        refine zu HT_ 10 51 ?_
        refine zu HT_ 11 52 ?_
        refine zu HT_ 12 53 ?_
        refine zp HT_ 13 54 ?_
        refine zp HT_ 14 55 ?_
        refine zp HT_ 15 56 ?_
        refine zp HT_ 18 59 ?_
        refine zp HT_ 20 61 ?_
        refine zp HT_ 23 64 ?_
        refine zt HT_ HW_ 16 57 hHeld ?_ (hy := by rintro w' ⟨s0, s1, s2, s3⟩; go_simp; with_reducible rfl)
        refine zp HT_ 17 58 ?_
        refine zp HT_ 19 60 ?_
        refine zt HT_ HW_ 21 62 hHeld ?_ (hy := by rintro w' ⟨s0, s1, s2, s3⟩; go_simp; with_reducible rfl)
        refine zp HT_ 22 63 ?_
        refine zt HT_ HW_ 24 65 hHeld ?_ (hy := by rintro w' ⟨s0, s1, s2, s3⟩; go_simp; with_reducible rfl)
        refine zp HT_ 25 66 ?_
        refine zp HT_ 26 67 ?_
        refine zp HT_ 27 68 ?_
        refine zp HT_ 28 69 ?_
        refine zp HT_ 29 70 ?_
        refine zo HT_ ?_
        (repeat (first | go_skip | go_guarded | go_step | go_upon))
        go_meet
        case rel => exact ⟨_, (decide ((wrap64 ((wrap64 ((l0_1.length : Int) * (l1_0.length : Int))) + (wrap64 ((l1_1.length : Int) * (l0_0.length : Int))))) > 6000)), (by first | rfl | (simp; done) | (simp [*]; done)), H', ⟨by have := HJ2.out; first | omega | exact Nat.le_refl _⟩, ⟨zK BK292.out⟩, ⟨zK BK293.out⟩, ⟨zK BK294.out⟩, ⟨zB⟩⟩
     case rest =>
      clear HC48
      try clear c1
      try clear p2
      try clear c5
      try clear p6
      try clear c18
      try clear c52
      try clear c52b0
      try clear c55
      try clear c55b0
      obtain ⟨kq, x70_47, rfl, HA, HJ47, BK292, BK293, BK294, HB⟩ := hcut
      cases kq with
      | zero => exact absurd HA.out (by simp [spec_ProductSpace.j1])
      | succ kj47 =>
       have H := HA.out
       clear HA
       simp only [spec_ProductSpace.j1] at H
       by_cases c63 : x70_47 = true
       · subst c63
         have H1 : (some (([] : List (List Int)), ([] : List (S41)), false)) = some (r1, r2, r3) := by rw [if_pos rfl] at H; exact H
         clear H
         have H := H1
         clear H1
         simp only [Option.some.injEq, Prod.mk.injEq] at H
         obtain ⟨rfl, rfl, rfl⟩ := H
         have hnb64 := NB294_292.out
         have hnc64 := NB292_294.out
         have hnb65 := NB294_293.out
         have hnc65 := NB293_294.out
         have hcz66_0 := zy BK294 0
         have hcz66_1 := zy BK294 1
         have hfz66_0 := blk_frozen BK294.out 0
         have hfz66_1 := blk_frozen BK294.out 1
         (repeat (first | go_skip | go_guarded | go_step | go_upon))
         refine bodyPost_ret (results_ct rfl _ _ gb294 27 #[.slice none 0 0, .slice none 0 0] (0, 0) _ rfl (by (with_reducible repeat (first | refine blk_drewN ?_ _ | refine blk_drew ?_ | refine blk_alloc ?_ _)); refine blk_put (cs := #[.slice none 0 0, .slice none 0 0]) ?_ 1 _ rfl; (with_reducible repeat (first | refine blk_drewN ?_ _ | refine blk_drew ?_ | refine blk_alloc ?_ _)); refine blk_put (cs := #[.slice none 0 0, .slice none 0 0]) ?_ 0 _ rfl; (with_reducible repeat (first | refine blk_drewN ?_ _ | refine blk_drew ?_ | refine blk_alloc ?_ _)); exact BK294.out) Try.underlying27 rfl (by kernel_rfl)) rfl ?_
         exact ⟨_, _, by first | rfl | (simp [errW_none, errW_some] <;> rfl) | (simp [*, errW_none, errW_some] <;> rfl), by first | exact Kd.S_nil _ _ _ _ _ | exact Kd.N_nil _ _ _ _ _ | exact Kd.V_nil _ _ _ _ _ | exact Kd.Q_nil _ _ _ _ _ | exact Kd.R_nil _ _ _ _ _, by first | exact Kd.R_nil _ _ _ _ _ | exact Kd.N_nil _ _ _ _ _ | exact Kd.V_nil _ _ _ _ _ | exact Kd.Q_nil _ _ _ _ _ | exact Kd.S_nil _ _ _ _ _, zB⟩
       · replace c63 := Bool.eq_false_iff.mpr c63
         subst c63
         have H1 : ((spec_l2Lists.f kj47 l0_0 l0_1).bind fun t306 => ((spec_l2Lists.f kj47 l1_0 l1_1).bind fun t309 => (spec_ProductSpace.l0 kj47 (l1_0.length : Int) t306 t309 0 l0_0 l0_1 l1_0 l1_1 (([] : List (List Int))) (([] : List (S41)))))) = some (r1, r2, r3) := by rw [if_neg (show ¬ (false = true) by decide)] at H; exact H
         clear H
         have H := H1
         clear H1
         obtain ⟨y300, hy300⟩ : ∃ y_ : List (List Int), y_ = (([] : List (List Int))) := ⟨_, rfl⟩
         replace H : ((spec_l2Lists.f kj47 l0_0 l0_1).bind fun t306 => ((spec_l2Lists.f kj47 l1_0 l1_1).bind fun t309 => (spec_ProductSpace.l0 kj47 (l1_0.length : Int) t306 t309 0 l0_0 l0_1 l1_0 l1_1 y300 (([] : List (S41)))))) = some (r1, r2, r3) := by first | (rw [hy300]; with_reducible exact H) | (have H2_ := (Option.bind_some _ _).symm.trans H; rw [hy300]; with_reducible exact H2_) | (have H2_ := (Option.bind_some _ _).symm.trans H; with_reducible exact H2_) | with_reducible exact H | (rw [hy300]; exact H) | exact H
         have Ny300 := Aside0.mk hy300
         clear hy300
         obtain ⟨y303, hy303⟩ : ∃ y_ : List (S41), y_ = (([] : List (S41))) := ⟨_, rfl⟩
         replace H : ((spec_l2Lists.f kj47 l0_0 l0_1).bind fun t306 => ((spec_l2Lists.f kj47 l1_0 l1_1).bind fun t309 => (spec_ProductSpace.l0 kj47 (l1_0.length : Int) t306 t309 0 l0_0 l0_1 l1_0 l1_1 y300 y303))) = some (r1, r2, r3) := by first | (rw [hy303]; with_reducible exact H) | (have H2_ := (Option.bind_some _ _).symm.trans H; rw [hy303]; with_reducible exact H2_) | (have H2_ := (Option.bind_some _ _).symm.trans H; with_reducible exact H2_) | with_reducible exact H | (rw [hy303]; exact H) | exact H
         have Ny303 := Aside0.mk hy303
         clear hy303
         replace H := Option.bind_eq_some_iff.mp H
         obtain ⟨t306, A670, H⟩ := H
         replace H : ((spec_l2Lists.f kj47 l1_0 l1_1).bind fun t309 => (spec_ProductSpace.l0 kj47 (l1_0.length : Int) t306 t309 0 l0_0 l0_1 l1_0 l1_1 y300 y303)) = some (r1, r2, r3) := H
         have A67 := Aside0.mk A670
         clear A670
         replace H := Option.bind_eq_some_iff.mp H
         obtain ⟨t309, A680, H⟩ := H
         replace H : (spec_ProductSpace.l0 kj47 (l1_0.length : Int) t306 t309 0 l0_0 l0_1 l1_0 l1_1 y300 y303) = some (r1, r2, r3) := H
         have A68 := Aside0.mk A680
         clear A680
         have H' := Aside0.mk H
         clear H
         (repeat (first | go_skip | go_guarded | go_step | go_upon))
         replace BK292 := zM (blk_drew BK292.out)
         replace BK293 := zM (blk_drew BK293.out)
         replace BK294 := zM (blk_drew BK294.out)
         replace HB := zM (below_drew1 HB.out)
         refine zs (n := 11) (fun w' => True) trivial (fun hHeld => ?_); refine with_tabW spec_ProductSpace.tab6 spec_ProductSpace.bits6 (fun HT_ HW_ => ?_)
         generalize wc.drew = w69 at BK292 BK293 BK294 HB hHeld ⊢
         refine inv_at [0, 1, 2, 3, 4, 5, 6, 7, 8, 9, 10] (fun a0_ b a w' => ∃ (v301 : Value) (v304 : Value) (v307 : Value) (v310 : Value) (gb312 : Nat) (m2_ : Value) (m7_ : Value) (m9_ : Value) (m10_ : Value), a = putSel a0_ b [(0, 72, v301), (1, 73, v304), (2, 74, m2_), (3, 75, .agg #[.slice A0_0 l0_0.length c0_0, .slice A0_1 l0_1.length c0_1]), (4, 76, v307), (5, 77, .agg #[.slice A1_0 l1_0.length c1_0, .slice A1_1 l1_1.length c1_1]), (6, 78, v310), (7, 7, m7_), (9, 8, m9_), (10, 9, m10_)] ∧ (w'.heap[gb292]? = some (.cells #[.slice A0_0 l0_0.length c0_0, .slice A0_1 l0_1.length c0_1] 27 (0, 0))) ∧ (w'.heap[gb293]? = some (.cells #[.slice A1_0 l1_0.length c1_0, .slice A1_1 l1_1.length c1_1] 27 (0, 0))) ∧ (w'.heap[gb294]? = some (.cells #[.slice none 0 0, .slice none 0 0] 27 (0, 0))) ∧ (Below w.heap.size w w') ∧ (b 0 = true → Kd.S (Kd.slice 3 (Kd.int .i64)) 39 w' w.heap.size (fun (k_ : Nat) => (b 4 = true → some k_ ≠ (v307 : Value).ownBlock) ∧ (b 6 = true → some k_ ≠ (v310 : Value).ownBlock)) v301 y300) ∧ (b 1 = true → Kd.R k41 41 w' w.heap.size (fun _ => True) v304 y303) ∧ (b 4 = true → Kd.S (Kd.slice 3 (Kd.int .i64)) 39 w' w.heap.size (fun (k_ : Nat) => (b 0 = true → some k_ ≠ (v301 : Value).ownBlock) ∧ (b 6 = true → some k_ ≠ (v310 : Value).ownBlock)) v307 t306) ∧ (b 6 = true → Kd.S (Kd.slice 3 (Kd.int .i64)) 39 w' w.heap.size (fun (k_ : Nat) => (b 0 = true → some k_ ≠ (v301 : Value).ownBlock) ∧ (b 4 = true → some k_ ≠ (v307 : Value).ownBlock)) v310 t309) ∧ (b 7 = true → b 8 = false → w'.heap[gb312]? = some (.cells #[.slice none 0 0, .slice none 0 0] 27 (0, 0))) ∧ (b 7 = true → w.heap.size ≤ gb312) ∧ (b 7 = true → w.heap.size ≤ gb312) ∧ (b 7 = true → gb292 ≠ gb312) ∧ (b 7 = true → gb312 ≠ gb292) ∧ (b 7 = true → gb293 ≠ gb312) ∧ (b 7 = true → gb312 ≠ gb293) ∧ (b 7 = true → gb294 ≠ gb312) ∧ (b 7 = true → gb312 ≠ gb294) ∧ (b 8 = true → w'.heap[gb312]? = some (.cells #[v301, v304] 27 (0, 0))) ∧ (b 2 = true → (m2_ : Value) = .agg #[v301, v304]) ∧ (b 7 = true → (m7_ : Value) = .pointer (some ⟨gb312, 0, none⟩)) ∧ (b 9 = true → (m9_ : Value) = v307) ∧ (b 10 = true → (m10_ : Value) = v310)) HT_.out HW_.out (by kernel_rfl) (by kernel_rfl) ?_ ?_ ?_
         · exact ⟨.bool false, .bool false, .bool false, .bool false, 0, .bool false, .bool false, .bool false, .bool false, by simp only [putSel, Bool.false_eq_true, if_false], BK292.out, BK293.out, BK294.out, HB.out, fun h_ => absurd h_ (by decide), fun h_ => absurd h_ (by decide), fun h_ => absurd h_ (by decide), fun h_ => absurd h_ (by decide), fun h_ => absurd h_ (by decide), fun h_ => absurd h_ (by decide), fun h_ => absurd h_ (by decide), fun h_ => absurd h_ (by decide), fun h_ => absurd h_ (by decide), fun h_ => absurd h_ (by decide), fun h_ => absurd h_ (by decide), fun h_ => absurd h_ (by decide), fun h_ => absurd h_ (by decide), fun h_ => absurd h_ (by decide), fun h_ => absurd h_ (by decide), fun h_ => absurd h_ (by decide), fun h_ => absurd h_ (by decide), fun h_ => absurd h_ (by decide)⟩
         · skip
           clear BK292 BK293 BK294 HB
           refine steps_cons ?_ ?_
           · rintro b a w' ⟨v301, v304, v307, v310, gb312, m2_, m7_, m9_, m10_, ha, Q_BK292, Q_BK293, Q_BK294, Q_HB, Q_HO302, Q_HO305, Q_HO308, Q_HO311, Q_BK312, Q_GW312, Q_GE312, Q_NB292_312, Q_NB312_292, Q_NB293_312, Q_NB312_293, Q_NB294_312, Q_NB312_294, Q_BK312_e8, Q_X2_, Q_X7_, Q_X9_, Q_X10_⟩ hb_ hon hoff
             refine ⟨_, rfl, fun K hK => ?_⟩
             replace ha := Aside0.mk ha
             have BK292 := Aside0.mk Q_BK292
             have BK293 := Aside0.mk Q_BK293
             have BK294 := Aside0.mk Q_BK294
             have HB := Aside0.mk Q_HB
             refine Kd.S_lit_step (Kd.slice 3 (Kd.int .i64)) _ 39 ?hg (N := 72) ?hd (xs := ([] : List (List Int))) (inner := []) (ok := fun _ => True) (okp := fun _ => True) ?hr ?hp (fun _ hk => hk) trivial (Below.refl _ _) (Nat.le_refl _) (by simp) ?_; (case hd => rfl); (case hg => rfl); (case hr => first | (go_simp; done) | (go_simp; rfl)); (case hp => exact (Reps.none _ _))
             intro v301 w70 ho71 hb hg_ hnew_
             clear hg_ hnew_
             (first | rw [← Ny300.out] at ho71 | (simp only [Int.reduceToNat] at ho71; rw [← Ny300.out] at ho71))
             have n0_ := zM (Kd.S_lower (show Kd.S _ _ _ _ (fun (k_ : Nat) => (b 4 = true → some k_ ≠ (v307 : Value).ownBlock) ∧ (b 6 = true → some k_ ≠ (v310 : Value).ownBlock)) v301 y300 from Kd.S_mono (Kd.S_bound ho71) (fun k_ hk => ⟨fun h_ e_ => absurd (Kd.S_lt (Q_HO308 h_) k_ e_.symm) (by have := hk.2.1; omega), fun h_ e_ => absurd (Kd.S_lt (Q_HO311 h_) k_ e_.symm) (by have := hk.2.1; omega)⟩)) (below_size zB))
             have n1_ := zM (blk_below (g := gb292) (o := .cells #[.slice A0_0 l0_0.length c0_0, .slice A0_1 l0_1.length c0_1] 27 (0, 0)) (zK BK292.out) hb)
             have n2_ := zM (blk_below (g := gb293) (o := .cells #[.slice A1_0 l1_0.length c1_0, .slice A1_1 l1_1.length c1_1] 27 (0, 0)) (zK BK293.out) hb)
             have n3_ := zM (blk_below (g := gb294) (o := .cells #[.slice none 0 0, .slice none 0 0] 27 (0, 0)) (zK BK294.out) hb)
             have n4_ := zM (below_step zB hb)
             have z_HO305 := fun (h0_ : b 1 = true) => (show Kd.R k41 41 w70 w.heap.size (fun _ => True) v304 y303 from by first | exact (Kd.R_below (by (with_reducible repeat (first | apply Kd.R_alloc | apply Kd.R_drewN | apply Kd.R_drew)); exact (Q_HO305 h0_)) hb) | exact Kd.R_mono (Kd.R_below (by (with_reducible repeat (first | apply Kd.R_alloc | apply Kd.R_drewN | apply Kd.R_drew)); exact (Q_HO305 h0_)) hb) (fun _ h_ => by first | trivial | exact h_ | exact h_.1))
             have z_HO308 := fun (h0_ : b 4 = true) => (show Kd.S (Kd.slice 3 (Kd.int .i64)) 39 w70 w.heap.size (fun (k_ : Nat) => (up b 0 0 = true → some k_ ≠ (v301 : Value).ownBlock) ∧ (up b 0 6 = true → some k_ ≠ (v310 : Value).ownBlock)) v307 t306 from Kd.S_mono (Kd.S_elder' (Q_HO308 h0_) (Kd.S_base ho71) hb) (fun _ h_ => ⟨fun _ => h_.2, h_.1.2⟩))
             have z_HO311 := fun (h0_ : b 6 = true) => (show Kd.S (Kd.slice 3 (Kd.int .i64)) 39 w70 w.heap.size (fun (k_ : Nat) => (up b 0 0 = true → some k_ ≠ (v301 : Value).ownBlock) ∧ (up b 0 4 = true → some k_ ≠ (v307 : Value).ownBlock)) v310 t309 from Kd.S_mono (Kd.S_elder' (Q_HO311 h0_) (Kd.S_base ho71) hb) (fun _ h_ => ⟨fun _ => h_.2, h_.1.2⟩))
             have z_BK312 := fun (h0_ : b 7 = true) (h1_ : b 8 = false) => (show w70.heap[gb312]? = some (.cells #[.slice none 0 0, .slice none 0 0] 27 (0, 0)) from by first | exact (blk_below (g := gb312) (o := .cells #[.slice none 0 0, .slice none 0 0] 27 (0, 0)) (by (with_reducible repeat (first | refine blk_drewN ?_ _ | refine blk_drew ?_ | refine blk_alloc ?_ _)); exact (Q_BK312 h0_ h1_)) hb))
             clear BK292
             clear BK293
             clear BK294
             clear HB
             have HO302 := n0_
             have BK292 := n1_
             have BK293 := n2_
             have BK294 := n3_
             have HB := n4_
             clear n0_ n1_ n2_ n3_ n4_
             clear hb ho71
             refine hK.out _ _ ⟨v301, v304, v307, v310, gb312, m2_, m7_, m9_, m10_, (by rw [ha.out]; exact putSel_upk 0 hb_ rfl rfl rfl), (zK BK292.out), (zK BK293.out), (zK BK294.out), zB, fun _ => (by (with_reducible repeat (first | apply Kd.S_alloc | apply Kd.S_drewN | apply Kd.S_drew)); exact HO302.out), z_HO305, z_HO308, z_HO311, z_BK312, Q_GW312, Q_GE312, Q_NB292_312, Q_NB312_292, Q_NB293_312, Q_NB312_293, Q_NB294_312, Q_NB312_294, fun h0_ => absurd ((hoff 8 (by kernel_rfl)).symm.trans h0_) (by decide), fun h0_ => absurd ((hoff 2 (by kernel_rfl)).symm.trans h0_) (by decide), Q_X7_, fun h0_ => absurd ((hoff 9 (by kernel_rfl)).symm.trans h0_) (by decide), fun h0_ => absurd ((hoff 10 (by kernel_rfl)).symm.trans h0_) (by decide)⟩
           refine steps_cons ?_ ?_
           · rintro b a w' ⟨v301, v304, v307, v310, gb312, m2_, m7_, m9_, m10_, ha, Q_BK292, Q_BK293, Q_BK294, Q_HB, Q_HO302, Q_HO305, Q_HO308, Q_HO311, Q_BK312, Q_GW312, Q_GE312, Q_NB292_312, Q_NB312_292, Q_NB293_312, Q_NB312_293, Q_NB294_312, Q_NB312_294, Q_BK312_e8, Q_X2_, Q_X7_, Q_X9_, Q_X10_⟩ hb_ hon hoff
             refine ⟨_, rfl, fun K hK => ?_⟩
             replace ha := Aside0.mk ha
             have BK292 := Aside0.mk Q_BK292
             have BK293 := Aside0.mk Q_BK293
             have BK294 := Aside0.mk Q_BK294
             have HB := Aside0.mk Q_HB
             refine Kd.R_lit_step k41 _ 41 ?hg (N := 73) ?hd (xs := ([] : List (S41))) (inner := []) (ok := fun _ => True) (okp := fun _ => True) ?hr ?hp (fun _ hk => hk) trivial (Below.refl _ _) (Nat.le_refl _) (by simp) ?_; (case hd => rfl); (case hg => rfl); (case hr => first | (go_simp; done) | (go_simp; rfl)); (case hp => exact (Reps.none _ _))
             intro v304 w70 ho71 hb hg_ hnew_
             clear hg_ hnew_
             (first | rw [← Ny303.out] at ho71 | (simp only [Int.reduceToNat] at ho71; rw [← Ny303.out] at ho71))
             have n0_ := zM (Kd.R_lower ho71 (below_size zB))
             have n1_ := zM (blk_below (g := gb292) (o := .cells #[.slice A0_0 l0_0.length c0_0, .slice A0_1 l0_1.length c0_1] 27 (0, 0)) (zK BK292.out) hb)
             have n2_ := zM (blk_below (g := gb293) (o := .cells #[.slice A1_0 l1_0.length c1_0, .slice A1_1 l1_1.length c1_1] 27 (0, 0)) (zK BK293.out) hb)
             have n3_ := zM (blk_below (g := gb294) (o := .cells #[.slice none 0 0, .slice none 0 0] 27 (0, 0)) (zK BK294.out) hb)
             have n4_ := zM (below_step zB hb)
             have z_HO302 := fun (h0_ : b 0 = true) => (show Kd.S (Kd.slice 3 (Kd.int .i64)) 39 w70 w.heap.size (fun (k_ : Nat) => (b 4 = true → some k_ ≠ (v307 : Value).ownBlock) ∧ (b 6 = true → some k_ ≠ (v310 : Value).ownBlock)) v301 y300 from by first | exact (Kd.S_below (by (with_reducible repeat (first | apply Kd.S_alloc | apply Kd.S_drewN | apply Kd.S_drew)); exact (Q_HO302 h0_)) hb) | exact Kd.S_mono (Kd.S_below (by (with_reducible repeat (first | apply Kd.S_alloc | apply Kd.S_drewN | apply Kd.S_drew)); exact (Q_HO302 h0_)) hb) (fun _ h_ => by first | trivial | exact h_ | exact h_.1))
             have z_HO308 := fun (h0_ : b 4 = true) => (show Kd.S (Kd.slice 3 (Kd.int .i64)) 39 w70 w.heap.size (fun (k_ : Nat) => (b 0 = true → some k_ ≠ (v301 : Value).ownBlock) ∧ (b 6 = true → some k_ ≠ (v310 : Value).ownBlock)) v307 t306 from by first | exact (Kd.S_below (by (with_reducible repeat (first | apply Kd.S_alloc | apply Kd.S_drewN | apply Kd.S_drew)); exact (Q_HO308 h0_)) hb) | exact Kd.S_mono (Kd.S_below (by (with_reducible repeat (first | apply Kd.S_alloc | apply Kd.S_drewN | apply Kd.S_drew)); exact (Q_HO308 h0_)) hb) (fun _ h_ => by first | trivial | exact h_ | exact h_.1))
             have z_HO311 := fun (h0_ : b 6 = true) => (show Kd.S (Kd.slice 3 (Kd.int .i64)) 39 w70 w.heap.size (fun (k_ : Nat) => (b 0 = true → some k_ ≠ (v301 : Value).ownBlock) ∧ (b 4 = true → some k_ ≠ (v307 : Value).ownBlock)) v310 t309 from by first | exact (Kd.S_below (by (with_reducible repeat (first | apply Kd.S_alloc | apply Kd.S_drewN | apply Kd.S_drew)); exact (Q_HO311 h0_)) hb) | exact Kd.S_mono (Kd.S_below (by (with_reducible repeat (first | apply Kd.S_alloc | apply Kd.S_drewN | apply Kd.S_drew)); exact (Q_HO311 h0_)) hb) (fun _ h_ => by first | trivial | exact h_ | exact h_.1))
             have z_BK312 := fun (h0_ : b 7 = true) (h1_ : b 8 = false) => (show w70.heap[gb312]? = some (.cells #[.slice none 0 0, .slice none 0 0] 27 (0, 0)) from by first | exact (blk_below (g := gb312) (o := .cells #[.slice none 0 0, .slice none 0 0] 27 (0, 0)) (by (with_reducible repeat (first | refine blk_drewN ?_ _ | refine blk_drew ?_ | refine blk_alloc ?_ _)); exact (Q_BK312 h0_ h1_)) hb))
             clear BK292
             clear BK293
             clear BK294
             clear HB
             have HO305 := n0_
             have BK292 := n1_
             have BK293 := n2_
             have BK294 := n3_
             have HB := n4_
             clear n0_ n1_ n2_ n3_ n4_
             clear hb ho71
             refine hK.out _ _ ⟨v301, v304, v307, v310, gb312, m2_, m7_, m9_, m10_, (by rw [ha.out]; exact putSel_upk 1 hb_ rfl rfl rfl), (zK BK292.out), (zK BK293.out), (zK BK294.out), zB, z_HO302, fun _ => (zR HO305.out), z_HO308, z_HO311, z_BK312, Q_GW312, Q_GE312, Q_NB292_312, Q_NB312_292, Q_NB293_312, Q_NB312_293, Q_NB294_312, Q_NB312_294, fun h0_ => absurd ((hoff 8 (by kernel_rfl)).symm.trans h0_) (by decide), fun h0_ => absurd ((hoff 2 (by kernel_rfl)).symm.trans h0_) (by decide), Q_X7_, fun h0_ => absurd ((hoff 9 (by kernel_rfl)).symm.trans h0_) (by decide), fun h0_ => absurd ((hoff 10 (by kernel_rfl)).symm.trans h0_) (by decide)⟩
           refine steps_cons ?_ ?_
           · rintro b a w' ⟨v301, v304, v307, v310, gb312, m2_, m7_, m9_, m10_, ha, Q_BK292, Q_BK293, Q_BK294, Q_HB, Q_HO302, Q_HO305, Q_HO308, Q_HO311, Q_BK312, Q_GW312, Q_GE312, Q_NB292_312, Q_NB312_292, Q_NB293_312, Q_NB312_293, Q_NB294_312, Q_NB312_294, Q_BK312_e8, Q_X2_, Q_X7_, Q_X9_, Q_X10_⟩ hb_ hon hoff
             refine ⟨_, rfl, fun K hK => ?_⟩
             have e72 : a.tmps[72]? = some (v301) := by rw [ha]; exact putSel_on (e := (0, 72, v301)) 0 rfl rfl (hon 0 (by kernel_rfl)) rfl
             have e73 : a.tmps[73]? = some (v304) := by rw [ha]; exact putSel_on (e := (1, 73, v304)) 1 rfl rfl (hon 1 (by kernel_rfl)) rfl
             replace ha := Aside0.mk ha
             have BK292 := Aside0.mk Q_BK292
             have BK293 := Aside0.mk Q_BK293
             have BK294 := Aside0.mk Q_BK294
             have HB := Aside0.mk Q_HB
             have HO302 := zM (Q_HO302 (hon 0 (by kernel_rfl)))
             have HO305 := zM (Q_HO305 (hon 1 (by kernel_rfl)))
             obtain ⟨Ao2_0, co2_0, eo_⟩ := Kd.S_slice HO302.out
             subst eo_
             obtain ⟨Ao2_1, co2_1, eo_⟩ := Kd.R_slice HO305.out
             subst eo_
             refine value_ (w1 := w') (v := .agg #[.slice Ao2_0 y300.length co2_0, .slice Ao2_1 y303.length co2_1]) (by rfl) rfl ?_ ?_
             · go_simp
               (try simp only [i64_w])
               try rfl
             refine hK.out _ _ ⟨.slice Ao2_0 y300.length co2_0, .slice Ao2_1 y303.length co2_1, v307, v310, gb312, (.agg #[.slice Ao2_0 y300.length co2_0, .slice Ao2_1 y303.length co2_1]), m7_, m9_, m10_, (by rw [ha.out]; exact putSel_upk 2 hb_ rfl rfl rfl), Q_BK292, Q_BK293, Q_BK294, Q_HB, Q_HO302, Q_HO305, Q_HO308, Q_HO311, Q_BK312, Q_GW312, Q_GE312, Q_NB292_312, Q_NB312_292, Q_NB293_312, Q_NB312_293, Q_NB294_312, Q_NB312_294, fun h0_ => absurd ((hoff 8 (by kernel_rfl)).symm.trans h0_) (by decide), fun _ => rfl, Q_X7_, fun h0_ => absurd ((hoff 9 (by kernel_rfl)).symm.trans h0_) (by decide), fun h0_ => absurd ((hoff 10 (by kernel_rfl)).symm.trans h0_) (by decide)⟩
           refine steps_cons ?_ ?_
           · rintro b a w' ⟨v301, v304, v307, v310, gb312, m2_, m7_, m9_, m10_, ha, Q_BK292, Q_BK293, Q_BK294, Q_HB, Q_HO302, Q_HO305, Q_HO308, Q_HO311, Q_BK312, Q_GW312, Q_GE312, Q_NB292_312, Q_NB312_292, Q_NB293_312, Q_NB312_293, Q_NB294_312, Q_NB312_294, Q_BK312_e8, Q_X2_, Q_X7_, Q_X9_, Q_X10_⟩ hb_ hon hoff
             refine ⟨_, rfl, fun K hK => ?_⟩
             have e2 : a.tmps[2]? = some (.pointer (some ⟨gb292, 0, none⟩)) := by rw [ha]; exact (putSel_off rfl).trans rfl
             replace ha := Aside0.mk ha
             have BK292 := Aside0.mk Q_BK292
             have BK293 := Aside0.mk Q_BK293
             have BK294 := Aside0.mk Q_BK294
             have HB := Aside0.mk Q_HB
             have hc0_ : w'.cell? ⟨gb292, 0, none⟩ = some (.slice A0_0 l0_0.length c0_0) := (blk_cell BK292.out 0).trans rfl
             have hc1_ : w'.cell? ⟨gb292, 1, none⟩ = some (.slice A0_1 l0_1.length c0_1) := (blk_cell BK292.out 1).trans rfl
             refine value_ (w1 := w') (v := .agg #[.slice A0_0 l0_0.length c0_0, .slice A0_1 l0_1.length c0_1]) (by rfl) rfl ?_ ?_
             · go_simp
               (try simp only [i64_w])
               try rfl
             refine hK.out _ _ ⟨v301, v304, v307, v310, gb312, m2_, m7_, m9_, m10_, (by rw [ha.out]; exact putSel_upk 3 hb_ rfl rfl rfl), Q_BK292, Q_BK293, Q_BK294, Q_HB, Q_HO302, Q_HO305, fun h0_ => absurd ((hoff 4 (by kernel_rfl)).symm.trans h0_) (by decide), fun h0_ => absurd ((hoff 6 (by kernel_rfl)).symm.trans h0_) (by decide), Q_BK312, Q_GW312, Q_GE312, Q_NB292_312, Q_NB312_292, Q_NB293_312, Q_NB312_293, Q_NB294_312, Q_NB312_294, fun h0_ => absurd ((hoff 8 (by kernel_rfl)).symm.trans h0_) (by decide), Q_X2_, Q_X7_, fun h0_ => absurd ((hoff 9 (by kernel_rfl)).symm.trans h0_) (by decide), fun h0_ => absurd ((hoff 10 (by kernel_rfl)).symm.trans h0_) (by decide)⟩
           refine steps_cons ?_ ?_
           · rintro b a w' ⟨v301, v304, v307, v310, gb312, m2_, m7_, m9_, m10_, ha, Q_BK292, Q_BK293, Q_BK294, Q_HB, Q_HO302, Q_HO305, Q_HO308, Q_HO311, Q_BK312, Q_GW312, Q_GE312, Q_NB292_312, Q_NB312_292, Q_NB293_312, Q_NB312_293, Q_NB294_312, Q_NB312_294, Q_BK312_e8, Q_X2_, Q_X7_, Q_X9_, Q_X10_⟩ hb_ hon hoff
             refine ⟨_, rfl, fun K hK => ?_⟩
             have e75 : a.tmps[75]? = some (.agg #[.slice A0_0 l0_0.length c0_0, .slice A0_1 l0_1.length c0_1]) := by rw [ha]; exact putSel_on (e := (3, 75, .agg #[.slice A0_0 l0_0.length c0_0, .slice A0_1 l0_1.length c0_1])) 3 rfl rfl (hon 3 (by kernel_rfl)) rfl
             replace ha := Aside0.mk ha
             have BK292 := Aside0.mk Q_BK292
             have BK293 := Aside0.mk Q_BK293
             have BK294 := Aside0.mk Q_BK294
             have HB := Aside0.mk Q_HB
             refine goes_ Try.func19 (by kernel_rfl) rfl #[.agg #[.slice A0_0 l0_0.length c0_0, .slice A0_1 l0_1.length c0_1]] (by rfl) rfl rfl (by first | (simp only [List.map_toArray, List.map_cons, List.map_nil, Act.eval, Array.getD_eq_getD_getElem?, Option.getD_some, e75]; done) | (simp only [List.map_toArray, List.map_cons, List.map_nil, Act.eval, Array.getD_eq_getD_getElem?, Option.getD_some, e75]; rfl)) ?_
             with_reducible refine (spec_l2Lists.calls kj47 _ _ l0_0 _ _ l0_1 t306 _ ?side1 ?side2 ?side3 ?side4 A67.out).mono ?_
             (case side1 => exact zC (Kd.C_below HR0_0.out HB.out))
             (case side2 => exact HC0_0.out)
             (case side3 => exact zC (Kd.C_below HR0_1.out HB.out))
             (case side4 => exact HC0_1.out)
             rintro e w70 ⟨v307, rfl, ho0, hb⟩
             refine ⟨_, rfl, ?_⟩
             have n0_ := zM (Kd.S_lower (show Kd.S _ _ _ _ (fun (k_ : Nat) => (b 0 = true → some k_ ≠ (v301 : Value).ownBlock) ∧ (b 6 = true → some k_ ≠ (v310 : Value).ownBlock)) v307 t306 from Kd.S_mono (Kd.S_bound ho0) (fun k_ hk => ⟨fun h_ e_ => absurd (Kd.S_lt (Q_HO302 h_) k_ e_.symm) (by have := hk.2.1; omega), fun h_ e_ => absurd (Kd.S_lt (Q_HO311 h_) k_ e_.symm) (by have := hk.2.1; omega)⟩)) (below_size zB))
             have n1_ := zM (blk_below (g := gb292) (o := .cells #[.slice A0_0 l0_0.length c0_0, .slice A0_1 l0_1.length c0_1] 27 (0, 0)) (zK BK292.out) hb)
             have n2_ := zM (blk_below (g := gb293) (o := .cells #[.slice A1_0 l1_0.length c1_0, .slice A1_1 l1_1.length c1_1] 27 (0, 0)) (zK BK293.out) hb)
             have n3_ := zM (blk_below (g := gb294) (o := .cells #[.slice none 0 0, .slice none 0 0] 27 (0, 0)) (zK BK294.out) hb)
             have n4_ := zM (below_step zB hb)
             have z_HO302 := fun (h0_ : b 0 = true) => (show Kd.S (Kd.slice 3 (Kd.int .i64)) 39 w70 w.heap.size (fun (k_ : Nat) => (up b 4 4 = true → some k_ ≠ (v307 : Value).ownBlock) ∧ (up b 4 6 = true → some k_ ≠ (v310 : Value).ownBlock)) v301 y300 from Kd.S_mono (Kd.S_elder' (Q_HO302 h0_) (Kd.S_base ho0) hb) (fun _ h_ => ⟨fun _ => h_.2, h_.1.2⟩))
             have z_HO305 := fun (h0_ : b 1 = true) => (show Kd.R k41 41 w70 w.heap.size (fun _ => True) v304 y303 from by first | exact (Kd.R_below (by (with_reducible repeat (first | apply Kd.R_alloc | apply Kd.R_drewN | apply Kd.R_drew)); exact (Q_HO305 h0_)) hb) | exact Kd.R_mono (Kd.R_below (by (with_reducible repeat (first | apply Kd.R_alloc | apply Kd.R_drewN | apply Kd.R_drew)); exact (Q_HO305 h0_)) hb) (fun _ h_ => by first | trivial | exact h_ | exact h_.1))
             have z_BK312 := fun (h0_ : b 7 = true) (h1_ : b 8 = false) => (show w70.heap[gb312]? = some (.cells #[.slice none 0 0, .slice none 0 0] 27 (0, 0)) from by first | exact (blk_below (g := gb312) (o := .cells #[.slice none 0 0, .slice none 0 0] 27 (0, 0)) (by (with_reducible repeat (first | refine blk_drewN ?_ _ | refine blk_drew ?_ | refine blk_alloc ?_ _)); exact (Q_BK312 h0_ h1_)) hb))
             clear BK292
             clear BK293
             clear BK294
             clear HB
             have HO308 := n0_
             have BK292 := n1_
             have BK293 := n2_
             have BK294 := n3_
             have HB := n4_
             clear n0_ n1_ n2_ n3_ n4_
             (try clear hb)
             (try clear hb2)
             (try clear hk)
             (try clear hi)
             (try clear ho0)
             refine hK.out _ _ ⟨v301, v304, v307, v310, gb312, m2_, m7_, m9_, m10_, (by rw [ha.out]; exact putSel_upk 4 hb_ rfl rfl rfl), (zK BK292.out), (zK BK293.out), (zK BK294.out), zB, z_HO302, z_HO305, fun _ => (by (with_reducible repeat (first | apply Kd.S_alloc | apply Kd.S_drewN | apply Kd.S_drew)); exact HO308.out), fun h0_ => absurd ((hoff 6 (by kernel_rfl)).symm.trans h0_) (by decide), z_BK312, Q_GW312, Q_GE312, Q_NB292_312, Q_NB312_292, Q_NB293_312, Q_NB312_293, Q_NB294_312, Q_NB312_294, fun h0_ => absurd ((hoff 8 (by kernel_rfl)).symm.trans h0_) (by decide), Q_X2_, Q_X7_, fun h0_ => absurd ((hoff 9 (by kernel_rfl)).symm.trans h0_) (by decide), fun h0_ => absurd ((hoff 10 (by kernel_rfl)).symm.trans h0_) (by decide)⟩
           refine steps_cons ?_ ?_
           · rintro b a w' ⟨v301, v304, v307, v310, gb312, m2_, m7_, m9_, m10_, ha, Q_BK292, Q_BK293, Q_BK294, Q_HB, Q_HO302, Q_HO305, Q_HO308, Q_HO311, Q_BK312, Q_GW312, Q_GE312, Q_NB292_312, Q_NB312_292, Q_NB293_312, Q_NB312_293, Q_NB294_312, Q_NB312_294, Q_BK312_e8, Q_X2_, Q_X7_, Q_X9_, Q_X10_⟩ hb_ hon hoff
             refine ⟨_, rfl, fun K hK => ?_⟩
             have e3 : a.tmps[3]? = some (.pointer (some ⟨gb293, 0, none⟩)) := by rw [ha]; exact (putSel_off rfl).trans rfl
             replace ha := Aside0.mk ha
             have BK292 := Aside0.mk Q_BK292
             have BK293 := Aside0.mk Q_BK293
             have BK294 := Aside0.mk Q_BK294
             have HB := Aside0.mk Q_HB
             have hc0_ : w'.cell? ⟨gb293, 0, none⟩ = some (.slice A1_0 l1_0.length c1_0) := (blk_cell BK293.out 0).trans rfl
             have hc1_ : w'.cell? ⟨gb293, 1, none⟩ = some (.slice A1_1 l1_1.length c1_1) := (blk_cell BK293.out 1).trans rfl
             refine value_ (w1 := w') (v := .agg #[.slice A1_0 l1_0.length c1_0, .slice A1_1 l1_1.length c1_1]) (by rfl) rfl ?_ ?_
             · go_simp
               (try simp only [i64_w])
               try rfl
             refine hK.out _ _ ⟨v301, v304, v307, v310, gb312, m2_, m7_, m9_, m10_, (by rw [ha.out]; exact putSel_upk 5 hb_ rfl rfl rfl), Q_BK292, Q_BK293, Q_BK294, Q_HB, Q_HO302, Q_HO305, Q_HO308, fun h0_ => absurd ((hoff 6 (by kernel_rfl)).symm.trans h0_) (by decide), Q_BK312, Q_GW312, Q_GE312, Q_NB292_312, Q_NB312_292, Q_NB293_312, Q_NB312_293, Q_NB294_312, Q_NB312_294, fun h0_ => absurd ((hoff 8 (by kernel_rfl)).symm.trans h0_) (by decide), Q_X2_, Q_X7_, fun h0_ => absurd ((hoff 9 (by kernel_rfl)).symm.trans h0_) (by decide), fun h0_ => absurd ((hoff 10 (by kernel_rfl)).symm.trans h0_) (by decide)⟩
           refine steps_cons ?_ ?_
           · rintro b a w' ⟨v301, v304, v307, v310, gb312, m2_, m7_, m9_, m10_, ha, Q_BK292, Q_BK293, Q_BK294, Q_HB, Q_HO302, Q_HO305, Q_HO308, Q_HO311, Q_BK312, Q_GW312, Q_GE312, Q_NB292_312, Q_NB312_292, Q_NB293_312, Q_NB312_293, Q_NB294_312, Q_NB312_294, Q_BK312_e8, Q_X2_, Q_X7_, Q_X9_, Q_X10_⟩ hb_ hon hoff
             refine ⟨_, rfl, fun K hK => ?_⟩
             have e77 : a.tmps[77]? = some (.agg #[.slice A1_0 l1_0.length c1_0, .slice A1_1 l1_1.length c1_1]) := by rw [ha]; exact putSel_on (e := (5, 77, .agg #[.slice A1_0 l1_0.length c1_0, .slice A1_1 l1_1.length c1_1])) 5 rfl rfl (hon 5 (by kernel_rfl)) rfl
             replace ha := Aside0.mk ha
             have BK292 := Aside0.mk Q_BK292
             have BK293 := Aside0.mk Q_BK293
             have BK294 := Aside0.mk Q_BK294
             have HB := Aside0.mk Q_HB
             have HO308 := zM (Q_HO308 (hon 4 (by kernel_rfl)))
             refine goes_ Try.func19 (by kernel_rfl) rfl #[.agg #[.slice A1_0 l1_0.length c1_0, .slice A1_1 l1_1.length c1_1]] (by rfl) rfl rfl (by first | (simp only [List.map_toArray, List.map_cons, List.map_nil, Act.eval, Array.getD_eq_getD_getElem?, Option.getD_some, e77]; done) | (simp only [List.map_toArray, List.map_cons, List.map_nil, Act.eval, Array.getD_eq_getD_getElem?, Option.getD_some, e77]; rfl)) ?_
             with_reducible refine (spec_l2Lists.calls kj47 _ _ l1_0 _ _ l1_1 t309 _ ?side1 ?side2 ?side3 ?side4 A68.out).mono ?_
             (case side1 => exact zC (Kd.C_below HR1_0.out HB.out))
             (case side2 => exact HC1_0.out)
             (case side3 => exact zC (Kd.C_below HR1_1.out HB.out))
             (case side4 => exact HC1_1.out)
             rintro e w72 ⟨v310, rfl, ho0, hb⟩
             refine ⟨_, rfl, ?_⟩
             have n0_ := zM (Kd.S_elder' (by (with_reducible repeat (first | apply Kd.S_alloc | apply Kd.S_drewN | apply Kd.S_drew)); exact HO308.out) (Kd.S_base ho0) hb)
             have n1_ := zM (Kd.S_lower (show Kd.S _ _ _ _ (fun (k_ : Nat) => (b 0 = true → some k_ ≠ (v301 : Value).ownBlock) ∧ (b 4 = true → some k_ ≠ (v307 : Value).ownBlock)) v310 t309 from Kd.S_mono (Kd.S_bound ho0) (fun k_ hk => ⟨fun h_ e_ => absurd (Kd.S_lt (Q_HO302 h_) k_ e_.symm) (by have := hk.2.1; omega), fun h_ e_ => absurd (Kd.S_lt (Q_HO308 h_) k_ e_.symm) (by have := hk.2.1; omega)⟩)) (below_size zB))
             have n2_ := zM (blk_below (g := gb292) (o := .cells #[.slice A0_0 l0_0.length c0_0, .slice A0_1 l0_1.length c0_1] 27 (0, 0)) (zK BK292.out) hb)
             have n3_ := zM (blk_below (g := gb293) (o := .cells #[.slice A1_0 l1_0.length c1_0, .slice A1_1 l1_1.length c1_1] 27 (0, 0)) (zK BK293.out) hb)
             have n4_ := zM (blk_below (g := gb294) (o := .cells #[.slice none 0 0, .slice none 0 0] 27 (0, 0)) (zK BK294.out) hb)
             have n5_ := zM (below_step zB hb)
             have z_HO302 := fun (h0_ : b 0 = true) => (show Kd.S (Kd.slice 3 (Kd.int .i64)) 39 w72 w.heap.size (fun (k_ : Nat) => (up b 6 4 = true → some k_ ≠ (v307 : Value).ownBlock) ∧ (up b 6 6 = true → some k_ ≠ (v310 : Value).ownBlock)) v301 y300 from Kd.S_mono (Kd.S_elder' (Q_HO302 h0_) (Kd.S_base ho0) hb) (fun _ h_ => ⟨h_.1.1, fun _ => h_.2⟩))
             have z_HO305 := fun (h0_ : b 1 = true) => (show Kd.R k41 41 w72 w.heap.size (fun _ => True) v304 y303 from by first | exact (Kd.R_below (by (with_reducible repeat (first | apply Kd.R_alloc | apply Kd.R_drewN | apply Kd.R_drew)); exact (Q_HO305 h0_)) hb) | exact Kd.R_mono (Kd.R_below (by (with_reducible repeat (first | apply Kd.R_alloc | apply Kd.R_drewN | apply Kd.R_drew)); exact (Q_HO305 h0_)) hb) (fun _ h_ => by first | trivial | exact h_ | exact h_.1))
             have z_BK312 := fun (h0_ : b 7 = true) (h1_ : b 8 = false) => (show w72.heap[gb312]? = some (.cells #[.slice none 0 0, .slice none 0 0] 27 (0, 0)) from by first | exact (blk_below (g := gb312) (o := .cells #[.slice none 0 0, .slice none 0 0] 27 (0, 0)) (by (with_reducible repeat (first | refine blk_drewN ?_ _ | refine blk_drew ?_ | refine blk_alloc ?_ _)); exact (Q_BK312 h0_ h1_)) hb))
             clear HO308
             clear BK292
             clear BK293
             clear BK294
             clear HB
             have HO308 := n0_
             have HO311 := n1_
             have BK292 := n2_
             have BK293 := n3_
             have BK294 := n4_
             have HB := n5_
             clear n0_ n1_ n2_ n3_ n4_ n5_
             (try clear hb)
             (try clear hb2)
             (try clear hk)
             (try clear hi)
             (try clear ho0)
             refine hK.out _ _ ⟨v301, v304, v307, v310, gb312, m2_, m7_, m9_, m10_, (by rw [ha.out]; exact putSel_upk 6 hb_ rfl rfl rfl), (zK BK292.out), (zK BK293.out), (zK BK294.out), zB, z_HO302, z_HO305, fun _ => (by (with_reducible repeat (first | apply Kd.S_alloc | apply Kd.S_drewN | apply Kd.S_drew)); exact Kd.S_mono HO308.out (fun _ hk => ⟨hk.1.1, fun _ => hk.2⟩)), fun _ => (by (with_reducible repeat (first | apply Kd.S_alloc | apply Kd.S_drewN | apply Kd.S_drew)); exact HO311.out), z_BK312, Q_GW312, Q_GE312, Q_NB292_312, Q_NB312_292, Q_NB293_312, Q_NB312_293, Q_NB294_312, Q_NB312_294, fun h0_ => absurd ((hoff 8 (by kernel_rfl)).symm.trans h0_) (by decide), Q_X2_, Q_X7_, fun h0_ => absurd ((hoff 9 (by kernel_rfl)).symm.trans h0_) (by decide), fun h0_ => absurd ((hoff 10 (by kernel_rfl)).symm.trans h0_) (by decide)⟩
           refine steps_cons ?_ ?_
           · rintro b a w' ⟨v301, v304, v307, v310, gb312, m2_, m7_, m9_, m10_, ha, Q_BK292, Q_BK293, Q_BK294, Q_HB, Q_HO302, Q_HO305, Q_HO308, Q_HO311, Q_BK312, Q_GW312, Q_GE312, Q_NB292_312, Q_NB312_292, Q_NB293_312, Q_NB312_293, Q_NB294_312, Q_NB312_294, Q_BK312_e8, Q_X2_, Q_X7_, Q_X9_, Q_X10_⟩ hb_ hon hoff
             refine ⟨_, rfl, fun K hK => ?_⟩
             replace ha := Aside0.mk ha
             have BK292 := Aside0.mk Q_BK292
             have BK293 := Aside0.mk Q_BK293
             have BK294 := Aside0.mk Q_BK294
             have HB := Aside0.mk Q_HB
             refine box_step ?hg (N := 7) ?hd (cs := #[.slice none 0 0, .slice none 0 0]) (t := 27) ?hr ?_; (case hd => rfl); (case hg => rfl); (case hr => first | (go_simp; done) | (go_simp; rfl))
             intro gb312 hg w70 hbox hb
             have n0_ := zM (blk_below (g := gb292) (o := .cells #[.slice A0_0 l0_0.length c0_0, .slice A0_1 l0_1.length c0_1] 27 (0, 0)) (zK BK292.out) hb)
             have n1_ := zM (blk_below (g := gb293) (o := .cells #[.slice A1_0 l1_0.length c1_0, .slice A1_1 l1_1.length c1_1] 27 (0, 0)) (zK BK293.out) hb)
             have n2_ := zM (blk_below (g := gb294) (o := .cells #[.slice none 0 0, .slice none 0 0] 27 (0, 0)) (zK BK294.out) hb)
             have n3_ := zM (below_step zB hb)
             have n4_ := zM (hbox)
             have n5_ := zM ((by rw [hg]; exact (below_size zB) : w.heap.size ≤ gb312))
             have n6_ := zM ((by rw [hg]; exact (below_size zB) : w.heap.size ≤ gb312))
             have n7_ := zM ((by rw [hg]; exact Nat.ne_of_lt (blk_lt (g := gb292) (o := .cells #[.slice A0_0 l0_0.length c0_0, .slice A0_1 l0_1.length c0_1] 27 (0, 0)) (zK BK292.out)) : gb292 ≠ gb312))
             have n8_ := zM ((by rw [hg]; exact Nat.ne_of_gt (blk_lt (g := gb292) (o := .cells #[.slice A0_0 l0_0.length c0_0, .slice A0_1 l0_1.length c0_1] 27 (0, 0)) (zK BK292.out)) : gb312 ≠ gb292))
             have n9_ := zM ((by rw [hg]; exact Nat.ne_of_lt (blk_lt (g := gb293) (o := .cells #[.slice A1_0 l1_0.length c1_0, .slice A1_1 l1_1.length c1_1] 27 (0, 0)) (zK BK293.out)) : gb293 ≠ gb312))
             have n10_ := zM ((by rw [hg]; exact Nat.ne_of_gt (blk_lt (g := gb293) (o := .cells #[.slice A1_0 l1_0.length c1_0, .slice A1_1 l1_1.length c1_1] 27 (0, 0)) (zK BK293.out)) : gb312 ≠ gb293))
             have n11_ := zM ((by rw [hg]; exact Nat.ne_of_lt (blk_lt (g := gb294) (o := .cells #[.slice none 0 0, .slice none 0 0] 27 (0, 0)) (zK BK294.out)) : gb294 ≠ gb312))
             have n12_ := zM ((by rw [hg]; exact Nat.ne_of_gt (blk_lt (g := gb294) (o := .cells #[.slice none 0 0, .slice none 0 0] 27 (0, 0)) (zK BK294.out)) : gb312 ≠ gb294))
             have z_HO302 := fun (h0_ : b 0 = true) => (show Kd.S (Kd.slice 3 (Kd.int .i64)) 39 w70 w.heap.size (fun (k_ : Nat) => (b 4 = true → some k_ ≠ (v307 : Value).ownBlock) ∧ (b 6 = true → some k_ ≠ (v310 : Value).ownBlock)) v301 y300 from by first | exact (Kd.S_below (by (with_reducible repeat (first | apply Kd.S_alloc | apply Kd.S_drewN | apply Kd.S_drew)); exact (Q_HO302 h0_)) hb) | exact Kd.S_mono (Kd.S_below (by (with_reducible repeat (first | apply Kd.S_alloc | apply Kd.S_drewN | apply Kd.S_drew)); exact (Q_HO302 h0_)) hb) (fun _ h_ => by first | trivial | exact h_ | exact h_.1))
             have z_HO305 := fun (h0_ : b 1 = true) => (show Kd.R k41 41 w70 w.heap.size (fun _ => True) v304 y303 from by first | exact (Kd.R_below (by (with_reducible repeat (first | apply Kd.R_alloc | apply Kd.R_drewN | apply Kd.R_drew)); exact (Q_HO305 h0_)) hb) | exact Kd.R_mono (Kd.R_below (by (with_reducible repeat (first | apply Kd.R_alloc | apply Kd.R_drewN | apply Kd.R_drew)); exact (Q_HO305 h0_)) hb) (fun _ h_ => by first | trivial | exact h_ | exact h_.1))
             have z_HO308 := fun (h0_ : b 4 = true) => (show Kd.S (Kd.slice 3 (Kd.int .i64)) 39 w70 w.heap.size (fun (k_ : Nat) => (b 0 = true → some k_ ≠ (v301 : Value).ownBlock) ∧ (b 6 = true → some k_ ≠ (v310 : Value).ownBlock)) v307 t306 from by first | exact (Kd.S_below (by (with_reducible repeat (first | apply Kd.S_alloc | apply Kd.S_drewN | apply Kd.S_drew)); exact (Q_HO308 h0_)) hb) | exact Kd.S_mono (Kd.S_below (by (with_reducible repeat (first | apply Kd.S_alloc | apply Kd.S_drewN | apply Kd.S_drew)); exact (Q_HO308 h0_)) hb) (fun _ h_ => by first | trivial | exact h_ | exact h_.1))
             have z_HO311 := fun (h0_ : b 6 = true) => (show Kd.S (Kd.slice 3 (Kd.int .i64)) 39 w70 w.heap.size (fun (k_ : Nat) => (b 0 = true → some k_ ≠ (v301 : Value).ownBlock) ∧ (b 4 = true → some k_ ≠ (v307 : Value).ownBlock)) v310 t309 from by first | exact (Kd.S_below (by (with_reducible repeat (first | apply Kd.S_alloc | apply Kd.S_drewN | apply Kd.S_drew)); exact (Q_HO311 h0_)) hb) | exact Kd.S_mono (Kd.S_below (by (with_reducible repeat (first | apply Kd.S_alloc | apply Kd.S_drewN | apply Kd.S_drew)); exact (Q_HO311 h0_)) hb) (fun _ h_ => by first | trivial | exact h_ | exact h_.1))
             clear BK292
             clear BK293
             clear BK294
             clear HB
             have BK292 := n0_
             have BK293 := n1_
             have BK294 := n2_
             have HB := n3_
             have BK312 := n4_
             have GW312 := n5_
             have GE312 := n6_
             have NB292_312 := n7_
             have NB312_292 := n8_
             have NB293_312 := n9_
             have NB312_293 := n10_
             have NB294_312 := n11_
             have NB312_294 := n12_
             clear n0_ n1_ n2_ n3_ n4_ n5_ n6_ n7_ n8_ n9_ n10_ n11_ n12_
             clear hb hbox hg
             refine hK.out _ _ ⟨v301, v304, v307, v310, gb312, m2_, (.pointer (some ⟨gb312, 0, none⟩)), m9_, m10_, (by rw [ha.out]; exact putSel_upk 7 hb_ rfl rfl rfl), (zK BK292.out), (zK BK293.out), (zK BK294.out), zB, z_HO302, z_HO305, z_HO308, z_HO311, fun _ _ => (zK BK312.out), fun _ => GW312.out, fun _ => GE312.out, fun _ => NB292_312.out, fun _ => NB312_292.out, fun _ => NB293_312.out, fun _ => NB312_293.out, fun _ => NB294_312.out, fun _ => NB312_294.out, fun h0_ => absurd ((hoff 8 (by kernel_rfl)).symm.trans h0_) (by decide), Q_X2_, fun _ => rfl, fun h0_ => absurd ((hoff 9 (by kernel_rfl)).symm.trans h0_) (by decide), fun h0_ => absurd ((hoff 10 (by kernel_rfl)).symm.trans h0_) (by decide)⟩
           refine steps_cons ?_ ?_
           · rintro b a w' ⟨v301, v304, v307, v310, gb312, m2_, m7_, m9_, m10_, ha, Q_BK292, Q_BK293, Q_BK294, Q_HB, Q_HO302, Q_HO305, Q_HO308, Q_HO311, Q_BK312, Q_GW312, Q_GE312, Q_NB292_312, Q_NB312_292, Q_NB293_312, Q_NB312_293, Q_NB294_312, Q_NB312_294, Q_BK312_e8, Q_X2_, Q_X7_, Q_X9_, Q_X10_⟩ hb_ hon hoff
             refine ⟨_, rfl, fun K hK => ?_⟩
             have e7 : a.tmps[7]? = some (m7_) := by rw [ha]; exact putSel_on (e := (7, 7, m7_)) 7 rfl rfl (hon 7 (by kernel_rfl)) rfl
             rw [Q_X7_ (hon 7 (by kernel_rfl))] at e7
             have e74 : a.tmps[74]? = some (m2_) := by rw [ha]; exact putSel_on (e := (2, 74, m2_)) 2 rfl rfl (hon 2 (by kernel_rfl)) rfl
             rw [Q_X2_ (hon 2 (by kernel_rfl))] at e74
             replace ha := Aside0.mk ha
             have BK292 := Aside0.mk Q_BK292
             have BK293 := Aside0.mk Q_BK293
             have BK294 := Aside0.mk Q_BK294
             have HB := Aside0.mk Q_HB
             have HO302 := zM (Q_HO302 (hon 0 (by kernel_rfl)))
             have HO305 := zM (Q_HO305 (hon 1 (by kernel_rfl)))
             have HO308 := zM (Q_HO308 (hon 4 (by kernel_rfl)))
             have HO311 := zM (Q_HO311 (hon 6 (by kernel_rfl)))
             have BK312 := zM (Q_BK312 (hon 7 (by kernel_rfl)) hb_)
             have GW312 := zM (Q_GW312 (hon 7 (by kernel_rfl)))
             have GE312 := zM (Q_GE312 (hon 7 (by kernel_rfl)))
             have NB292_312 := zM (Q_NB292_312 (hon 7 (by kernel_rfl)))
             have NB312_292 := zM (Q_NB312_292 (hon 7 (by kernel_rfl)))
             have NB293_312 := zM (Q_NB293_312 (hon 7 (by kernel_rfl)))
             have NB312_293 := zM (Q_NB312_293 (hon 7 (by kernel_rfl)))
             have NB294_312 := zM (Q_NB294_312 (hon 7 (by kernel_rfl)))
             have NB312_294 := zM (Q_NB312_294 (hon 7 (by kernel_rfl)))
             obtain ⟨Ao80, co80, eo80⟩ := Kd.R_slice HO305.out
             (first | subst eo80 | (injection eo80 with f1_ f2_ f3_; have f4_ := f1_.symm; have f5_ := f3_.symm; clear f1_ f2_ f3_; subst f4_; subst f5_))
             obtain ⟨Ao81, co81, eo81⟩ := Kd.S_slice HO302.out
             (first | subst eo81 | (injection eo81 with f1_ f2_ f3_; have f4_ := f1_.symm; have f5_ := f3_.symm; clear f1_ f2_ f3_; subst f4_; subst f5_))
             have hs82 : w'.cell? ⟨gb312, 0, none⟩ = some (.slice none 0 0) := (blk_cell BK312.out 0).trans rfl
             have hfs82 := blk_frozen BK312.out 0
             have hns82_0 := NB292_312.out
             have hns82_1 := NB293_312.out
             have hns82_2 := NB294_312.out
             have hms82_0 := NB312_292.out
             have hms82_1 := NB312_293.out
             have hms82_2 := NB312_294.out
             have hs83 : w'.cell? ⟨gb312, 1, none⟩ = some (.slice none 0 0) := (blk_cell BK312.out 1).trans rfl
             have hfs83 := blk_frozen BK312.out 1
             have hns83_0 := NB292_312.out
             have hns83_1 := NB293_312.out
             have hns83_2 := NB294_312.out
             have hms83_0 := NB312_292.out
             have hms83_1 := NB312_293.out
             have hms83_2 := NB312_294.out
             refine skip_ (w1 := ?_) (by rfl) rfl ?_ ?_
             rotate_left
             · go_simp
               rfl
             refine hK.out _ _ ⟨.slice Ao81 y300.length co81, .slice Ao80 y303.length co80, v307, v310, gb312, m2_, m7_, m9_, m10_, (by rw [ha.out]; exact putSel_none (v := undef) rfl), (by (with_reducible repeat (first | refine blk_drewN ?_ _ | refine blk_drew ?_ | refine blk_alloc ?_ _)); refine blk_far ?_ NB292_312.out _; (with_reducible repeat (first | refine blk_drewN ?_ _ | refine blk_drew ?_ | refine blk_alloc ?_ _)); refine blk_far ?_ NB292_312.out _; (with_reducible repeat (first | refine blk_drewN ?_ _ | refine blk_drew ?_ | refine blk_alloc ?_ _)); exact BK292.out), (by (with_reducible repeat (first | refine blk_drewN ?_ _ | refine blk_drew ?_ | refine blk_alloc ?_ _)); refine blk_far ?_ NB293_312.out _; (with_reducible repeat (first | refine blk_drewN ?_ _ | refine blk_drew ?_ | refine blk_alloc ?_ _)); refine blk_far ?_ NB293_312.out _; (with_reducible repeat (first | refine blk_drewN ?_ _ | refine blk_drew ?_ | refine blk_alloc ?_ _)); exact BK293.out), (by (with_reducible repeat (first | refine blk_drewN ?_ _ | refine blk_drew ?_ | refine blk_alloc ?_ _)); refine blk_far ?_ NB294_312.out _; (with_reducible repeat (first | refine blk_drewN ?_ _ | refine blk_drew ?_ | refine blk_alloc ?_ _)); refine blk_far ?_ NB294_312.out _; (with_reducible repeat (first | refine blk_drewN ?_ _ | refine blk_drew ?_ | refine blk_alloc ?_ _)); exact BK294.out), zB, fun _ => (by (with_reducible repeat (first | apply Kd.S_alloc | apply Kd.S_drewN | apply Kd.S_drew)); exact Kd.S_mono (Kd.S_far (p := ⟨gb312, 1, none⟩) (Kd.S_far (p := ⟨gb312, 0, none⟩) (Kd.S_types HO302.out BK312.out (by decide)) (fun _ hk => hk.2) (.slice Ao81 y300.length co81)) (fun _ hk => hk.2) (.slice Ao80 y303.length co80)) (fun _ hk => ⟨hk.1.1, hk.1.2⟩)), fun _ => (by (with_reducible repeat (first | apply Kd.R_alloc | apply Kd.R_drewN | apply Kd.R_drew)); exact Kd.R_mono (Kd.R_far (p := ⟨gb312, 1, none⟩) (Kd.R_far (p := ⟨gb312, 0, none⟩) (Kd.R_types HO305.out BK312.out (by decide)) (fun _ hk => hk.2) (.slice Ao81 y300.length co81)) (fun _ hk => hk.2) (.slice Ao80 y303.length co80)) (fun _ hk => trivial)), fun _ => (by (with_reducible repeat (first | apply Kd.S_alloc | apply Kd.S_drewN | apply Kd.S_drew)); exact Kd.S_mono (Kd.S_far (p := ⟨gb312, 1, none⟩) (Kd.S_far (p := ⟨gb312, 0, none⟩) (Kd.S_types HO308.out BK312.out (by decide)) (fun _ hk => hk.2) (.slice Ao81 y300.length co81)) (fun _ hk => hk.2) (.slice Ao80 y303.length co80)) (fun _ hk => ⟨hk.1.1, hk.1.2⟩)), fun _ => (by (with_reducible repeat (first | apply Kd.S_alloc | apply Kd.S_drewN | apply Kd.S_drew)); exact Kd.S_mono (Kd.S_far (p := ⟨gb312, 1, none⟩) (Kd.S_far (p := ⟨gb312, 0, none⟩) (Kd.S_types HO311.out BK312.out (by decide)) (fun _ hk => hk.2) (.slice Ao81 y300.length co81)) (fun _ hk => hk.2) (.slice Ao80 y303.length co80)) (fun _ hk => ⟨hk.1.1, hk.1.2⟩)), fun _ h1_ => absurd ((up_self b 8).symm.trans h1_) (by decide), fun _ => GW312.out, fun _ => GE312.out, fun _ => NB292_312.out, fun _ => NB312_292.out, fun _ => NB293_312.out, fun _ => NB312_293.out, fun _ => NB294_312.out, fun _ => NB312_294.out, fun _ => (by (with_reducible repeat (first | refine blk_drewN ?_ _ | refine blk_drew ?_ | refine blk_alloc ?_ _)); refine blk_put (cs := #[.slice Ao81 y300.length co81, .slice none 0 0]) ?_ 1 _ rfl; (with_reducible repeat (first | refine blk_drewN ?_ _ | refine blk_drew ?_ | refine blk_alloc ?_ _)); refine blk_put (cs := #[.slice none 0 0, .slice none 0 0]) ?_ 0 _ rfl; (with_reducible repeat (first | refine blk_drewN ?_ _ | refine blk_drew ?_ | refine blk_alloc ?_ _)); exact BK312.out), Q_X2_, Q_X7_, fun h0_ => absurd ((hoff 9 (by kernel_rfl)).symm.trans h0_) (by decide), fun h0_ => absurd ((hoff 10 (by kernel_rfl)).symm.trans h0_) (by decide)⟩
           refine steps_cons ?_ ?_
           · rintro b a w' ⟨v301, v304, v307, v310, gb312, m2_, m7_, m9_, m10_, ha, Q_BK292, Q_BK293, Q_BK294, Q_HB, Q_HO302, Q_HO305, Q_HO308, Q_HO311, Q_BK312, Q_GW312, Q_GE312, Q_NB292_312, Q_NB312_292, Q_NB293_312, Q_NB312_293, Q_NB294_312, Q_NB312_294, Q_BK312_e8, Q_X2_, Q_X7_, Q_X9_, Q_X10_⟩ hb_ hon hoff
             refine ⟨_, rfl, fun K hK => ?_⟩
             have e76 : a.tmps[76]? = some (v307) := by rw [ha]; exact putSel_on (e := (4, 76, v307)) 4 rfl rfl (hon 4 (by kernel_rfl)) rfl
             replace ha := Aside0.mk ha
             have BK292 := Aside0.mk Q_BK292
             have BK293 := Aside0.mk Q_BK293
             have BK294 := Aside0.mk Q_BK294
             have HB := Aside0.mk Q_HB
             have HO302 := zM (Q_HO302 (hon 0 (by kernel_rfl)))
             have HO305 := zM (Q_HO305 (hon 1 (by kernel_rfl)))
             have HO308 := zM (Q_HO308 (hon 4 (by kernel_rfl)))
             have HO311 := zM (Q_HO311 (hon 6 (by kernel_rfl)))
             have GW312 := zM (Q_GW312 (hon 7 (by kernel_rfl)))
             have GE312 := zM (Q_GE312 (hon 7 (by kernel_rfl)))
             have NB292_312 := zM (Q_NB292_312 (hon 7 (by kernel_rfl)))
             have NB312_292 := zM (Q_NB312_292 (hon 7 (by kernel_rfl)))
             have NB293_312 := zM (Q_NB293_312 (hon 7 (by kernel_rfl)))
             have NB312_293 := zM (Q_NB312_293 (hon 7 (by kernel_rfl)))
             have NB294_312 := zM (Q_NB294_312 (hon 7 (by kernel_rfl)))
             have NB312_294 := zM (Q_NB312_294 (hon 7 (by kernel_rfl)))
             have BK312 := zM (Q_BK312_e8 (hon 8 (by kernel_rfl)))
             refine value_ (w1 := w') (v := v307) (by rfl) rfl ?_ ?_
             · go_simp
               (try simp only [i64_w])
               try rfl
             refine hK.out _ _ ⟨v301, v304, v307, v310, gb312, m2_, m7_, (v307), m10_, (by rw [ha.out]; exact putSel_upk 8 hb_ rfl rfl rfl), Q_BK292, Q_BK293, Q_BK294, Q_HB, Q_HO302, Q_HO305, Q_HO308, Q_HO311, fun _ h1_ => absurd ((hon 8 (by kernel_rfl)).symm.trans h1_) (by decide), Q_GW312, Q_GE312, Q_NB292_312, Q_NB312_292, Q_NB293_312, Q_NB312_293, Q_NB294_312, Q_NB312_294, Q_BK312_e8, Q_X2_, Q_X7_, fun _ => rfl, fun h0_ => absurd ((hoff 10 (by kernel_rfl)).symm.trans h0_) (by decide)⟩
           refine steps_cons ?_ ?_
           · rintro b a w' ⟨v301, v304, v307, v310, gb312, m2_, m7_, m9_, m10_, ha, Q_BK292, Q_BK293, Q_BK294, Q_HB, Q_HO302, Q_HO305, Q_HO308, Q_HO311, Q_BK312, Q_GW312, Q_GE312, Q_NB292_312, Q_NB312_292, Q_NB293_312, Q_NB312_293, Q_NB294_312, Q_NB312_294, Q_BK312_e8, Q_X2_, Q_X7_, Q_X9_, Q_X10_⟩ hb_ hon hoff
             refine ⟨_, rfl, fun K hK => ?_⟩
             have e78 : a.tmps[78]? = some (v310) := by rw [ha]; exact putSel_on (e := (6, 78, v310)) 6 rfl rfl (hon 6 (by kernel_rfl)) rfl
             replace ha := Aside0.mk ha
             have BK292 := Aside0.mk Q_BK292
             have BK293 := Aside0.mk Q_BK293
             have BK294 := Aside0.mk Q_BK294
             have HB := Aside0.mk Q_HB
             have HO302 := zM (Q_HO302 (hon 0 (by kernel_rfl)))
             have HO305 := zM (Q_HO305 (hon 1 (by kernel_rfl)))
             have HO308 := zM (Q_HO308 (hon 4 (by kernel_rfl)))
             have HO311 := zM (Q_HO311 (hon 6 (by kernel_rfl)))
             have GW312 := zM (Q_GW312 (hon 7 (by kernel_rfl)))
             have GE312 := zM (Q_GE312 (hon 7 (by kernel_rfl)))
             have NB292_312 := zM (Q_NB292_312 (hon 7 (by kernel_rfl)))
             have NB312_292 := zM (Q_NB312_292 (hon 7 (by kernel_rfl)))
             have NB293_312 := zM (Q_NB293_312 (hon 7 (by kernel_rfl)))
             have NB312_293 := zM (Q_NB312_293 (hon 7 (by kernel_rfl)))
             have NB294_312 := zM (Q_NB294_312 (hon 7 (by kernel_rfl)))
             have NB312_294 := zM (Q_NB312_294 (hon 7 (by kernel_rfl)))
             have BK312 := zM (Q_BK312_e8 (hon 8 (by kernel_rfl)))
             refine value_ (w1 := w') (v := v310) (by rfl) rfl ?_ ?_
             · go_simp
               (try simp only [i64_w])
               try rfl
             refine hK.out _ _ ⟨v301, v304, v307, v310, gb312, m2_, m7_, m9_, (v310), (by rw [ha.out]; exact putSel_upk 9 hb_ rfl rfl rfl), Q_BK292, Q_BK293, Q_BK294, Q_HB, Q_HO302, Q_HO305, Q_HO308, Q_HO311, fun _ h1_ => absurd ((hon 8 (by kernel_rfl)).symm.trans h1_) (by decide), Q_GW312, Q_GE312, Q_NB292_312, Q_NB312_292, Q_NB293_312, Q_NB312_293, Q_NB294_312, Q_NB312_294, Q_BK312_e8, Q_X2_, Q_X7_, Q_X9_, fun _ => rfl⟩
           exact steps_nil
         rintro b a w81 hall ⟨v301, v304, v307, v310, gb312, m2_, m7_, m9_, m10_, ha, Q_BK292, Q_BK293, Q_BK294, Q_HB, Q_HO302, Q_HO305, Q_HO308, Q_HO311, Q_BK312, Q_GW312, Q_GE312, Q_NB292_312, Q_NB312_292, Q_NB293_312, Q_NB312_293, Q_NB294_312, Q_NB312_294, Q_BK312_e8, Q_X2_, Q_X7_, Q_X9_, Q_X10_⟩
         clear BK292 BK293 BK294 HB
         have hb0_ := hall 0 (by kernel_rfl)
         have hb1_ := hall 1 (by kernel_rfl)
         have hb2_ := hall 2 (by kernel_rfl)
         have hb3_ := hall 3 (by kernel_rfl)
         have hb4_ := hall 4 (by kernel_rfl)
         have hb5_ := hall 5 (by kernel_rfl)
         have hb6_ := hall 6 (by kernel_rfl)
         have hb7_ := hall 7 (by kernel_rfl)
         have hb8_ := hall 8 (by kernel_rfl)
         have hb9_ := hall 9 (by kernel_rfl)
         have hb10_ := hall 10 (by kernel_rfl)
         subst ha
         have h_ := (Q_X2_ hb2_).symm; subst h_
         have h_ := (Q_X7_ hb7_).symm; subst h_
         have h_ := (Q_X9_ hb9_).symm; subst h_
         have h_ := (Q_X10_ hb10_).symm; subst h_
         simp only [putSel, hb0_, hb1_, hb2_, hb3_, hb4_, hb5_, hb6_, hb7_, hb8_, hb9_, hb10_, if_true, Act.put, List.setIfInBounds_toArray, List.set_cons_zero, List.set_cons_succ]
         have BK292 := Aside0.mk Q_BK292
         clear Q_BK292
         have BK293 := Aside0.mk Q_BK293
         clear Q_BK293
         have BK294 := Aside0.mk Q_BK294
         clear Q_BK294
         have HB := Aside0.mk Q_HB
         clear Q_HB
         have HO302 := zM (Kd.S_mono (Q_HO302 hb0_) (fun k_ hk => (show some k_ ≠ (v307 : Value).ownBlock ∧ some k_ ≠ (v310 : Value).ownBlock from ⟨hk.1 hb4_, hk.2 hb6_⟩)))
         clear Q_HO302
         have HO305 := zM (Q_HO305 hb1_)
         clear Q_HO305
         have HO308 := zM (Kd.S_mono (Q_HO308 hb4_) (fun k_ hk => (show some k_ ≠ (v301 : Value).ownBlock ∧ some k_ ≠ (v310 : Value).ownBlock from ⟨hk.1 hb0_, hk.2 hb6_⟩)))
         clear Q_HO308
         have HO311 := zM (Kd.S_mono (Q_HO311 hb6_) (fun k_ hk => (show some k_ ≠ (v301 : Value).ownBlock ∧ some k_ ≠ (v307 : Value).ownBlock from ⟨hk.1 hb0_, hk.2 hb4_⟩)))
         clear Q_HO311
         clear Q_BK312
         have GW312 := zM (Q_GW312 hb7_)
         clear Q_GW312
         have GE312 := zM (Q_GE312 hb7_)
         clear Q_GE312
         have NB292_312 := zM (Q_NB292_312 hb7_)
         clear Q_NB292_312
         have NB312_292 := zM (Q_NB312_292 hb7_)
         clear Q_NB312_292
         have NB293_312 := zM (Q_NB293_312 hb7_)
         clear Q_NB293_312
         have NB312_293 := zM (Q_NB312_293 hb7_)
         clear Q_NB312_293
         have NB294_312 := zM (Q_NB294_312 hb7_)
         clear Q_NB294_312
         have NB312_294 := zM (Q_NB312_294 hb7_)
         clear Q_NB312_294
         have BK312 := zM (Q_BK312_e8 hb8_)
         clear Q_BK312_e8
         clear hall hb0_ hb1_ hb2_ hb3_ hb4_ hb5_ hb6_ hb7_ hb8_ hb9_ hb10_
         obtain ⟨Ao82, co82, eo82⟩ := Kd.R_slice HO305.out
         (first | subst eo82 | (injection eo82 with f1_ f2_ f3_; have f4_ := f1_.symm; have f5_ := f3_.symm; clear f1_ f2_ f3_; subst f4_; subst f5_))
         obtain ⟨Ao83, co83, eo83⟩ := Kd.S_slice HO302.out
         (first | subst eo83 | (injection eo83 with f1_ f2_ f3_; have f4_ := f1_.symm; have f5_ := f3_.symm; clear f1_ f2_ f3_; subst f4_; subst f5_))
         (repeat (first | go_skip | go_guarded | go_step | go_upon))
         go_loopg [10] kj47 (fun kq v10 w' => ∃ (x10_3 : Int) (x313000_3 : List (List Int)) (x313001_3 : List (S41)) (u313000 : Value) (u313001 : Value), v10 = .int .i64 x10_3 ∧ Aside0 (spec_ProductSpace.l0 kq (l1_0.length : Int) t306 t309 x10_3 l0_0 l0_1 l1_0 l1_1 x313000_3 x313001_3 = some (r1, r2, r3)) ∧ Aside0 (kq ≤ kj47) ∧ Aside0 (Kd.S (Kd.slice 3 (Kd.int .i64)) 39 w' w.heap.size (fun k_ => some k_ ≠ (v310 : Value).ownBlock ∧ some k_ ≠ (u313000 : Value).ownBlock) v307 t306) ∧ Aside0 (Kd.S (Kd.slice 3 (Kd.int .i64)) 39 w' w.heap.size (fun k_ => some k_ ≠ (v307 : Value).ownBlock ∧ some k_ ≠ (u313000 : Value).ownBlock) v310 t309) ∧ Aside0 (Kd.S (Kd.slice 3 (Kd.int .i64)) 39 w' w.heap.size (fun k_ => some k_ ≠ (v307 : Value).ownBlock ∧ some k_ ≠ (v310 : Value).ownBlock) u313000 x313000_3) ∧ Aside0 (Kd.R k41 41 w' w.heap.size (fun _ => True) u313001 x313001_3) ∧ Aside0 (w'.heap[gb292]? = some (.cells #[(.slice A0_0 l0_0.length c0_0), (.slice A0_1 l0_1.length c0_1)] 27 (0, 0))) ∧ Aside0 (w'.heap[gb293]? = some (.cells #[(.slice A1_0 l1_0.length c1_0), (.slice A1_1 l1_1.length c1_1)] 27 (0, 0))) ∧ Aside0 (w'.heap[gb294]? = some (.cells #[(.slice none 0 0), (.slice none 0 0)] 27 (0, 0))) ∧ Aside0 (w'.heap[gb312]? = some (.cells #[u313000, u313001] 27 (0, 0))) ∧ Aside0 (Below w.heap.size w w'))
         case atStart => exact ⟨(0), (y300), (y303), (.slice Ao83 y300.length co83), (.slice Ao82 y303.length co82), (by first | rfl | (simp; done) | (simp [*]; done)), H', ⟨Nat.le_refl _⟩, ⟨by (with_reducible repeat (first | apply Kd.S_alloc | apply Kd.S_drewN | apply Kd.S_drew)); exact Kd.S_mono HO308.out (fun _ hk => ⟨hk.2, hk.1⟩)⟩, ⟨by (with_reducible repeat (first | apply Kd.S_alloc | apply Kd.S_drewN | apply Kd.S_drew)); exact Kd.S_mono HO311.out (fun _ hk => ⟨hk.2, hk.1⟩)⟩, ⟨by (with_reducible repeat (first | apply Kd.S_alloc | apply Kd.S_drewN | apply Kd.S_drew)); exact HO302.out⟩, ⟨zR HO305.out⟩, ⟨zK BK292.out⟩, ⟨zK BK293.out⟩, ⟨zK BK294.out⟩, ⟨zK BK312.out⟩, ⟨zB⟩⟩
         case round =>
          as_aux_lemma =>
          clear H'
          try clear c1
          try clear p2
          try clear c5
          try clear c6
          try clear p6
          try clear c18
          try clear c19
          try clear c52
          try clear c52b0
          try clear c55
          try clear c55b0
          try clear c63
          try clear c64
          try clear p64
          try clear c65
          try clear hcz66_0
          try clear hcz66_1
          try clear hfz66_0
          try clear hfz66_1
          try clear p2
          try clear p6
          obtain ⟨x10_3, x313000_3, x313001_3, u313000, u313001, rfl, HA, HK3, HO_8, HO_9, HO_313000, HO_313001, BK292, BK293, BK294, BK312, HB⟩ := hrel
          cases gk with
          | zero => exact absurd HA.out (by simp [spec_ProductSpace.l0])
          | succ k3 =>
           have H := HA.out
           clear HA
           simp only [spec_ProductSpace.l0] at H
           by_cases c84 : x10_3 < (l0_0.length : Int)
           · rw [if_pos c84] at H
             have c84b0 := decide_eq_true c84
             clear c84
             have H' := Aside0.mk H
             clear H
             have hnb85 := NB292_293.out
             have hnc85 := NB293_292.out
             have hnb86 := NB292_294.out
             have hnc86 := NB294_292.out
             have hnb87 := NB292_312.out
             have hnc87 := NB312_292.out
             have hcz88_0 := zy BK292 0
             have hcz88_1 := zy BK292 1
             have hfz88_0 := blk_frozen BK292.out 0
             have hfz88_1 := blk_frozen BK292.out 1
             (repeat (first | go_skip | go_guarded | go_step | go_upon))
             go_loopg [11] k3 (fun kq v11 w' => ∃ (x11_4 : Int) (x313000_4 : List (List Int)) (x313001_4 : List (S41)) (u313000 : Value) (u313001 : Value), v11 = .int .i64 x11_4 ∧ Aside0 (spec_ProductSpace.l1 kq (l1_0.length : Int) t306 t309 x10_3 x11_4 l0_0 l0_1 l1_0 l1_1 x313000_4 x313001_4 = some (r1, r2, r3)) ∧ Aside0 (kq ≤ k3) ∧ Aside0 (Kd.S (Kd.slice 3 (Kd.int .i64)) 39 w' w.heap.size (fun k_ => some k_ ≠ (v310 : Value).ownBlock ∧ some k_ ≠ (u313000 : Value).ownBlock) v307 t306) ∧ Aside0 (Kd.S (Kd.slice 3 (Kd.int .i64)) 39 w' w.heap.size (fun k_ => some k_ ≠ (v307 : Value).ownBlock ∧ some k_ ≠ (u313000 : Value).ownBlock) v310 t309) ∧ Aside0 (Kd.S (Kd.slice 3 (Kd.int .i64)) 39 w' w.heap.size (fun k_ => some k_ ≠ (v307 : Value).ownBlock ∧ some k_ ≠ (v310 : Value).ownBlock) u313000 x313000_4) ∧ Aside0 (Kd.R k41 41 w' w.heap.size (fun _ => True) u313001 x313001_4) ∧ Aside0 (w'.heap[gb292]? = some (.cells #[(.slice A0_0 l0_0.length c0_0), (.slice A0_1 l0_1.length c0_1)] 27 (0, 0))) ∧ Aside0 (w'.heap[gb293]? = some (.cells #[(.slice A1_0 l1_0.length c1_0), (.slice A1_1 l1_1.length c1_1)] 27 (0, 0))) ∧ Aside0 (w'.heap[gb294]? = some (.cells #[(.slice none 0 0), (.slice none 0 0)] 27 (0, 0))) ∧ Aside0 (w'.heap[gb312]? = some (.cells #[u313000, u313001] 27 (0, 0))) ∧ Aside0 (Below w.heap.size w w'))
             case atStart => exact ⟨(0), (x313000_3), (x313001_3), (u313000), (u313001), (by first | rfl | (simp; done) | (simp [*]; done)), H', ⟨Nat.le_refl _⟩, ⟨by (with_reducible repeat (first | apply Kd.S_alloc | apply Kd.S_drewN | apply Kd.S_drew)); exact HO_8.out⟩, ⟨by (with_reducible repeat (first | apply Kd.S_alloc | apply Kd.S_drewN | apply Kd.S_drew)); exact HO_9.out⟩, ⟨by (with_reducible repeat (first | apply Kd.S_alloc | apply Kd.S_drewN | apply Kd.S_drew)); exact HO_313000.out⟩, ⟨zR HO_313001.out⟩, ⟨zK BK292.out⟩, ⟨zK BK293.out⟩, ⟨zK BK294.out⟩, ⟨zK BK312.out⟩, ⟨zB⟩⟩
             case round =>
              as_aux_lemma =>
              clear H'
              try clear c1
              try clear p2
              try clear c5
              try clear c6
              try clear p6
              try clear c8
              try clear c18
              try clear c19
              try clear c52
              try clear c52b0
              try clear c55
              try clear c55b0
              try clear c63
              try clear c64
              try clear p64
              try clear c65
              try clear c84
              try clear c84b0
              try clear c85
              try clear c86
              try clear c87
              try clear hcz66_0
              try clear hcz66_1
              try clear hcz88_0
              try clear hcz88_1
              try clear hfz66_0
              try clear hfz66_1
              try clear hfz88_0
              try clear hfz88_1
              try clear p2
              try clear p6
              try clear p64
              obtain ⟨x11_4, x313000_4, x313001_4, u313000, u313001, rfl, HA, HK4, HO_8, HO_9, HO_313000, HO_313001, BK292, BK293, BK294, BK312, HB⟩ := hrel
              cases gk with
              | zero => exact absurd HA.out (by simp [spec_ProductSpace.l1])
              | succ k4 =>
               have H := HA.out
               clear HA
               simp only [spec_ProductSpace.l1] at H
               by_cases c89 : x11_4 < (l1_0.length : Int)
               · rw [if_pos c89] at H
                 have c89b0 := decide_eq_true c89
                 clear c89
                 by_cases c90 : 0 ≤ x10_3
                 · rw [if_pos c90] at H
                   have c90b0 := decide_eq_true c90
                   clear c90
                   by_cases c91 : x10_3 < (l0_0.length : Int)
                   · rw [if_pos c91] at H
                     have c91b0 := decide_eq_true c91
                     clear c91
                     replace H := Option.bind_eq_some_iff.mp H
                     obtain ⟨t314, A920, H⟩ := H
                     replace H : (if 0 ≤ x11_4 then (if x11_4 < (l1_0.length : Int) then (if t314.length + (rd_L1 l1_0 x11_4).length < 17592186044416 then (if x313000_4.length < 5864062014805 then (spec_ProductSpace.l2 k4 (l1_0.length : Int) t306 t309 x10_3 x11_4 0 l0_0 l0_1 l1_0 l1_1 (x313000_4 ++ [(t314 ++ (rd_L1 l1_0 x11_4))]) x313001_4) else (none)) else (none)) else (none)) else (none)) = some (r1, r2, r3) := H
                     have A92 := Aside0.mk A920
                     clear A920
                     by_cases c93 : 0 ≤ x11_4
                     · rw [if_pos c93] at H
                       have c93b0 := decide_eq_true c93
                       clear c93
                       by_cases c94 : x11_4 < (l1_0.length : Int)
                       · rw [if_pos c94] at H
                         have c94b0 := decide_eq_true c94
                         clear c94
                         by_cases c95 : t314.length + (rd_L1 l1_0 x11_4).length < 17592186044416
                         · rw [if_pos c95] at H
                           have LMc95 := Aside0.mk c95
                           clear c95
                           obtain ⟨y318, hy318⟩ : ∃ y_ : List Int, y_ = (t314 ++ (rd_L1 l1_0 x11_4)) := ⟨_, rfl⟩
                           replace H : (if x313000_4.length < 5864062014805 then (spec_ProductSpace.l2 k4 (l1_0.length : Int) t306 t309 x10_3 x11_4 0 l0_0 l0_1 l1_0 l1_1 (x313000_4 ++ [y318]) x313001_4) else (none)) = some (r1, r2, r3) := by first | (rw [hy318]; with_reducible exact H) | (have H2_ := (Option.bind_some _ _).symm.trans H; rw [hy318]; with_reducible exact H2_) | (have H2_ := (Option.bind_some _ _).symm.trans H; with_reducible exact H2_) | with_reducible exact H | (rw [hy318]; exact H) | exact H
                           have Ny318 := Aside0.mk hy318
                           clear hy318
                           by_cases c96 : x313000_4.length < 5864062014805
                           · rw [if_pos c96] at H
                             have LMc96 := Aside0.mk c96
                             clear c96
                             obtain ⟨y321, hy321⟩ : ∃ y_ : List (List Int), y_ = (x313000_4 ++ [y318]) := ⟨_, rfl⟩
                             replace H : (spec_ProductSpace.l2 k4 (l1_0.length : Int) t306 t309 x10_3 x11_4 0 l0_0 l0_1 l1_0 l1_1 y321 x313001_4) = some (r1, r2, r3) := by first | (rw [hy321]; with_reducible exact H) | (have H2_ := (Option.bind_some _ _).symm.trans H; rw [hy321]; with_reducible exact H2_) | (have H2_ := (Option.bind_some _ _).symm.trans H; with_reducible exact H2_) | with_reducible exact H | (rw [hy321]; exact H) | exact H
                             have Ny321 := Aside0.mk hy321
                             clear hy321
                             have H' := Aside0.mk H
                             clear H
                             (repeat (first | go_skip | go_guarded | go_step | go_upon))
                             replace HO_8 := zM (Kd.S_drew HO_8.out)
                             replace HO_9 := zM (Kd.S_drew HO_9.out)
                             replace HO_313000 := zM (Kd.S_drew HO_313000.out)
                             replace HO_313001 := zM (Kd.R_drew HO_313001.out)
                             replace BK292 := zM (blk_drew BK292.out)
                             replace BK293 := zM (blk_drew BK293.out)
                             replace BK294 := zM (blk_drew BK294.out)
                             replace BK312 := zM (blk_drew BK312.out)
                             replace HB := zM (below_drew1 HB.out)
                             have p313 : 0 ≤ (x10_3 : Int) := of_decide_eq_true zA
                             have q313 : x10_3 < (l0_0.length : Int) := of_decide_eq_true zA
                             obtain ⟨ad313, A313_0, c313_0, e313, hx313_0, hl313_0, hi313_0⟩ := at_L1 HR0_0.out x10_3 p313 q313
                             have hw313_0 := hx313_0
                             cases e313
                             (try replace hx313_0 := (HB.out.cell (World.block_lt_of_cell? w _ hx313_0)).trans hx313_0)
                             have HR313_0 := Aside0.mk hi313_0
                             have HC313_0 := Aside0.mk hl313_0
                             clear hi313_0 hl313_0
                             replace p313 := eq_true p313
                             replace q313 := eq_true q313
                             have p317 : 0 ≤ (x11_4 : Int) := of_decide_eq_true zA
                             have q317 : x11_4 < (l1_0.length : Int) := of_decide_eq_true zA
                             obtain ⟨ad317, A317_0, c317_0, e317, hx317_0, hl317_0, hi317_0⟩ := at_L1 HR1_0.out x11_4 p317 q317
                             have hw317_0 := hx317_0
                             cases e317
                             (try replace hx317_0 := (HB.out.cell (World.block_lt_of_cell? w _ hx317_0)).trans hx317_0)
                             have HR317_0 := Aside0.mk hi317_0
                             have HC317_0 := Aside0.mk hl317_0
                             clear hi317_0 hl317_0
                             replace p317 := eq_true p317
                             replace q317 := eq_true q317
                             refine start_ (n := 18) (S := fun w' => w'.cell? ⟨gb312, 0, none⟩ = some (u313000) ∧ w'.cell? ⟨gb312, 1, none⟩ = some (u313001) ∧ w'.cell? ⟨gb292, 0, none⟩ = some (.slice (some ad313) l0_0.length c0_0) ∧ w'.cell? ⟨gb292, 1, none⟩ = some (.slice A0_1 l0_1.length c0_1) ∧ w'.cell? ⟨gb293, 0, none⟩ = some (.slice (some ad317) l1_0.length c1_0) ∧ w'.cell? ⟨gb293, 1, none⟩ = some (.slice A1_1 l1_1.length c1_1) ∧ w'.cell? (ad313.add (x10_3).toNat) = some (.slice A313_0 (rd_L1 l0_0 x10_3).length c313_0) ∧ w'.cell? (ad317.add (x11_4).toNat) = some (.slice A317_0 (rd_L1 l1_0 x11_4).length c317_0)) (ds := [17]) #[false, false, false, false, false, false, false, false, false, false, false, false, false, false, false, false, false, false] (by kernel_rfl) rfl rfl ⟨(blk_cell BK312.out 0).trans rfl, (blk_cell BK312.out 1).trans rfl, (blk_cell BK292.out 0).trans rfl, (blk_cell BK292.out 1).trans rfl, (blk_cell BK293.out 0).trans rfl, (blk_cell BK293.out 1).trans rfl, ((HB.out.cell (World.block_lt_of_cell? w _ hw313_0)).trans hw313_0), ((HB.out.cell (World.block_lt_of_cell? w _ hw317_0)).trans hw317_0)⟩ (fun hHeld => ?_); refine with_tabW spec_ProductSpace.tab13 spec_ProductSpace.bits13 (fun HT_ HW_ => ?_)
                             generalize wr.drew = w97 at HO_8 HO_9 HO_313000 HO_313001 BK292 BK293 BK294 BK312 HB HR313_0 HR317_0 hx313_0 hx317_0 hHeld ⊢
                             refine zp HT_ 0 91 ?_
                             refine zp HT_ 2 93 ?_
                             refine zp HT_ 4 95 ?_
                             refine zp HT_ 8 99 ?_
                             refine zp HT_ 10 101 ?_
                             refine zt HT_ HW_ 1 92 hHeld ?_ (hy := by rintro w' ⟨s0, s1, s2, s3, s4, s5, s6, s7⟩; go_simp; with_reducible rfl)
                             refine zt HT_ HW_ 3 94 hHeld ?_ (hy := by rintro w' ⟨s0, s1, s2, s3, s4, s5, s6, s7⟩; go_simp; with_reducible rfl)
                             refine zp HT_ 5 96 ?_
                             refine zt HT_ HW_ 6 97 hHeld ?_ (hy := by rintro w' ⟨s0, s1, s2, s3, s4, s5, s6, s7⟩; go_simp; with_reducible rfl)
                             refine zt HT_ HW_ 9 100 hHeld ?_ (hy := by rintro w' ⟨s0, s1, s2, s3, s4, s5, s6, s7⟩; go_simp; with_reducible rfl)
                             refine zp HT_ 11 102 ?_
                             refine zt HT_ HW_ 12 103 hHeld ?_ (hy := by rintro w' ⟨s0, s1, s2, s3, s4, s5, s6, s7⟩; go_simp; with_reducible rfl)
                             refine zg HT_ 7 98 Try.func20 #[.slice A313_0 (rd_L1 l0_0 x10_3).length c313_0] (fun K hK => ?_)
                             with_reducible refine (spec_l1Own.calls _ _ (rd_L1 l0_0 x10_3) t314 _ ?side1 ?side2 A92.out).mono ?_
                             (case side1 => exact zC (Kd.C_below HR313_0.out HB.out))
                             (case side2 => exact HC313_0.out)
                             rintro e w98 ⟨v315, rfl, ho0, hb⟩
                             refine ⟨_, rfl, ?_⟩
                             replace HO_8 := zM (Kd.S_elder' (by (with_reducible repeat (first | apply Kd.S_alloc | apply Kd.S_drewN | apply Kd.S_drew)); exact HO_8.out) (Kd.R_base ho0) hb)
                             replace HO_9 := zM (Kd.S_elder' (by (with_reducible repeat (first | apply Kd.S_alloc | apply Kd.S_drewN | apply Kd.S_drew)); exact HO_9.out) (Kd.R_base ho0) hb)
                             replace HO_313000 := zM (Kd.S_elder' (by (with_reducible repeat (first | apply Kd.S_alloc | apply Kd.S_drewN | apply Kd.S_drew)); exact HO_313000.out) (Kd.R_base ho0) hb)
                             replace HO_313001 := zM (Kd.R_below (zR HO_313001.out) hb)
                             have HO316 := zM (Kd.R_lower ho0 (below_size zB))
                             replace BK292 := zM (blk_below (g := gb292) (o := .cells #[.slice (some ad313) l0_0.length c0_0, .slice A0_1 l0_1.length c0_1] 27 (0, 0)) (zK BK292.out) hb)
                             replace BK293 := zM (blk_below (g := gb293) (o := .cells #[.slice (some ad317) l1_0.length c1_0, .slice A1_1 l1_1.length c1_1] 27 (0, 0)) (zK BK293.out) hb)
                             replace BK294 := zM (blk_below (g := gb294) (o := .cells #[.slice none 0 0, .slice none 0 0] 27 (0, 0)) (zK BK294.out) hb)
                             replace BK312 := zM (blk_below (g := gb312) (o := .cells #[u313000, u313001] 27 (0, 0)) (zK BK312.out) hb)
                             replace HB := zM (below_step zB hb)
                             (try clear hb)
                             (try clear hb2)
                             (try clear hk)
                             (try clear hi)
                             (try clear ho0)
                             refine hK.out _ _ ⟨(blk_cell BK312.out 0).trans rfl, (blk_cell BK312.out 1).trans rfl, (blk_cell BK292.out 0).trans rfl, (blk_cell BK292.out 1).trans rfl, (blk_cell BK293.out 0).trans rfl, (blk_cell BK293.out 1).trans rfl, ((HB.out.cell (World.block_lt_of_cell? w _ hw313_0)).trans hw313_0), ((HB.out.cell (World.block_lt_of_cell? w _ hw317_0)).trans hw317_0)⟩ (fun hHeld => ?_)
                             clear hK K
                             refine zn 98 ?_
                             refine one_ (i := 13) (N := some 104) #[true, true, true, true, true, true, true, true, true, true, true, true, true, true, false, false, false, false] rfl rfl (one_of HT_.out (by kernel_rfl)) (by decide) (fun K hK => ?_)
                             refine Kd.R_append_rows_step (Kd.int .i64) (w0 := w) w.heap.size (by rfl) (.tmp 98) (.tmp 103) 39 3 (.int .i64 0) 8 rfl Try.underlying39 info3 rfl (by decide) (by omega) v315 t314 (rd_L1 l1_0 x11_4) _ _ _ (fun _ => True) (fun _ => False) rfl rfl ?aO ?aR (fun _ _ h => h) (fun _ h => h.elim) ?aF ?aB ?aS ?aL ?_
                             (case aR => exact zC (Kd.C_below HR317_0.out HB.out))
                             (case aB => exact zB)
                             (case aF => exact (fun _ _ => trivial))
                             (case aO => exact (zR HO316.out))
                             (case aS => exact (below_size zB))
                             (case aL => have := LMc95.out; omega)
                             intro v319 w99 ho hb hg hat
                             rw [← Ny318.out] at ho
                             replace HO_8 := zM (Kd.S_after (ok := (fun k_ => some k_ ≠ (v310 : Value).ownBlock ∧ some k_ ≠ (u313000 : Value).ownBlock)) (by (with_reducible repeat (first | apply Kd.S_alloc | apply Kd.S_drewN | apply Kd.S_drew)); exact HO_8.out) hg hat)
                             replace HO_9 := zM (Kd.S_after (ok := (fun k_ => some k_ ≠ (v307 : Value).ownBlock ∧ some k_ ≠ (u313000 : Value).ownBlock)) (by (with_reducible repeat (first | apply Kd.S_alloc | apply Kd.S_drewN | apply Kd.S_drew)); exact HO_9.out) hg hat)
                             replace HO_313000 := zM (Kd.S_after (ok := (fun k_ => some k_ ≠ (v307 : Value).ownBlock ∧ some k_ ≠ (v310 : Value).ownBlock)) (by (with_reducible repeat (first | apply Kd.S_alloc | apply Kd.S_drewN | apply Kd.S_drew)); exact HO_313000.out) hg hat)
                             replace HO_313001 := zM (Kd.R_over' (zR HO_313001.out) (Kd.R_typed (zR HO316.out)) (by decide) hg)
                             replace BK292 := zM (blk_grown (g := gb292) (o := .cells #[.slice (some ad313) l0_0.length c0_0, .slice A0_1 l0_1.length c0_1] 27 (0, 0)) (zK BK292.out) hg (Kd.R_ne HO316.out BK292.out (by decide)))
                             replace BK293 := zM (blk_grown (g := gb293) (o := .cells #[.slice (some ad317) l1_0.length c1_0, .slice A1_1 l1_1.length c1_1] 27 (0, 0)) (zK BK293.out) hg (Kd.R_ne HO316.out BK293.out (by decide)))
                             replace BK294 := zM (blk_grown (g := gb294) (o := .cells #[.slice none 0 0, .slice none 0 0] 27 (0, 0)) (zK BK294.out) hg (Kd.R_ne HO316.out BK294.out (by decide)))
                             replace BK312 := zM (blk_grown (g := gb312) (o := .cells #[u313000, u313001] 27 (0, 0)) (zK BK312.out) hg (Kd.R_ne HO316.out BK312.out (by decide)))
                             replace HB := zM (hb)
                             have HO320 := zM (ho)
                             clear HO316
                             clear ho hb hg hat
                             obtain ⟨Ao101, co101, eo101⟩ := Kd.R_slice HO320.out
                             (first | subst eo101 | (injection eo101 with f1_ f2_ f3_; have f4_ := f1_.symm; have f5_ := f3_.symm; clear f1_ f2_ f3_; subst f4_; subst f5_))
                             refine hK.out _ _ ⟨(blk_cell BK312.out 0).trans rfl, (blk_cell BK312.out 1).trans rfl, (blk_cell BK292.out 0).trans rfl, (blk_cell BK292.out 1).trans rfl, (blk_cell BK293.out 0).trans rfl, (blk_cell BK293.out 1).trans rfl, ((HB.out.cell (World.block_lt_of_cell? w _ hw313_0)).trans hw313_0), ((HB.out.cell (World.block_lt_of_cell? w _ hw317_0)).trans hw317_0)⟩ (fun hHeld => ?_)
                             clear hK K
                             refine zn 104 ?_
                             refine one_ (i := 14) (N := some 105) #[true, true, true, true, true, true, true, true, true, true, true, true, true, true, true, false, false, false] rfl rfl (one_of HT_.out (by kernel_rfl)) (by decide) (fun K hK => ?_)
                             refine value_ (w1 := ?_) (v := ?_) (by rfl) rfl ?_ ?_
                             rotate_left 2
                             · go_simp
                               constructor
                               · rfl
                               · rfl
                             refine hK.out _ _ ⟨(blk_cell (blk_alloc BK312.out _) 0).trans rfl, (blk_cell (blk_alloc BK312.out _) 1).trans rfl, (blk_cell (blk_alloc BK292.out _) 0).trans rfl, (blk_cell (blk_alloc BK292.out _) 1).trans rfl, (blk_cell (blk_alloc BK293.out _) 0).trans rfl, (blk_cell (blk_alloc BK293.out _) 1).trans rfl, (World.cell?_alloc_lt _ _ _ (World.block_lt_of_cell? _ _ (((HB.out.cell (World.block_lt_of_cell? w _ hw313_0)).trans hw313_0)))).trans (((HB.out.cell (World.block_lt_of_cell? w _ hw313_0)).trans hw313_0)), (World.cell?_alloc_lt _ _ _ (World.block_lt_of_cell? _ _ (((HB.out.cell (World.block_lt_of_cell? w _ hw317_0)).trans hw317_0)))).trans (((HB.out.cell (World.block_lt_of_cell? w _ hw317_0)).trans hw317_0))⟩ (fun hHeld => ?_)
                             clear hK K
                             refine zn 105 ?_
                             refine one_ (i := 15) (N := some 106) #[true, true, true, true, true, true, true, true, true, true, true, true, true, true, true, true, false, false] rfl rfl (one_of HT_.out (by kernel_rfl)) (by decide) (fun K hK => ?_)
                             refine Kd.S_append_step (Kd.slice 3 (Kd.int .i64)) (w0 := w) w.heap.size (by rfl) (.tmp 92) (.tmp 105) 22 39 (.slice none 0 0) 24 rfl Try.underlying22 info39 rfl (by decide) (by omega) u313000 x313000_4 y318 [.slice Ao101 y318.length co101] (fun k_ => some k_ ≠ (v307 : Value).ownBlock ∧ some k_ ≠ (v310 : Value).ownBlock) (fun k_ => some k_ = (.slice Ao101 y318.length co101 : Value).ownBlock) rfl rfl ?aP (fun k_ hk_ => ((Kd.R_mono (ok' := fun k_ => ((fun k_ => some k_ ≠ (v307 : Value).ownBlock ∧ some k_ ≠ (v310 : Value).ownBlock)) k_ ∧ some k_ ≠ (u313000 : Value).ownBlock) (Kd.R_apart' (Kd.R_apart' (Kd.R_apart' (HO320.out) (Kd.S_typed HO_8.out) (by decide)) (Kd.S_typed HO_9.out) (by decide)) (Kd.S_typed HO_313000.out) (by decide)) (fun k_ hk => ⟨⟨hk.1.1.2, hk.1.2⟩, hk.2⟩))).1 k_ hk_.symm) ?aF ?aO ?aB ?aS ?aL ?_
                             (case aP => exact Kd.M_row (Kd.R_mono (Kd.R_tight rfl (Kd.R_mono (ok' := fun k_ => ((fun k_ => some k_ ≠ (v307 : Value).ownBlock ∧ some k_ ≠ (v310 : Value).ownBlock)) k_ ∧ some k_ ≠ (u313000 : Value).ownBlock) (Kd.R_apart' (Kd.R_apart' (Kd.R_apart' (HO320.out) (Kd.S_typed HO_8.out) (by decide)) (Kd.S_typed HO_9.out) (by decide)) (Kd.S_typed HO_313000.out) (by decide)) (fun k_ hk => ⟨⟨hk.1.1.2, hk.1.2⟩, hk.2⟩))) (fun _ h_ => h_)))
                             (case aB => exact zB)
                             (case aF => exact (fun k_ hk => ⟨Kd.fresh' (Kd.S_lt (by (with_reducible repeat (first | apply Kd.S_alloc | apply Kd.S_drewN | apply Kd.S_drew)); exact HO_8.out)) k_ hk, Kd.fresh' (Kd.S_lt (by (with_reducible repeat (first | apply Kd.S_alloc | apply Kd.S_drewN | apply Kd.S_drew)); exact HO_9.out)) k_ hk⟩))
                             (case aO => exact (by (with_reducible repeat (first | apply Kd.S_alloc | apply Kd.S_drewN | apply Kd.S_drew)); exact Kd.S_mono HO_313000.out (fun k_ hk => ⟨⟨hk.1.1, hk.1.2⟩, fun e_ => hk.2 e_⟩)))
                             (case aS => exact (below_size zB))
                             (case aL => have := LMc96.out; omega)
                             intro v322 w100 ho hb hg hat
                             rw [← Ny321.out] at ho
                             replace HO_8 := zM (Kd.S_after (ok := (fun k_ => some k_ ≠ (v310 : Value).ownBlock ∧ some k_ ≠ (.slice Ao101 y318.length co101 : Value).ownBlock)) (by (with_reducible repeat (first | apply Kd.S_alloc | apply Kd.S_drewN | apply Kd.S_drew)); exact Kd.S_mono HO_8.out (fun _ hk => ⟨⟨hk.1.1, hk.2⟩, hk.1.2⟩)) hg hat)
                             replace HO_9 := zM (Kd.S_after (ok := (fun k_ => some k_ ≠ (v307 : Value).ownBlock ∧ some k_ ≠ (.slice Ao101 y318.length co101 : Value).ownBlock)) (by (with_reducible repeat (first | apply Kd.S_alloc | apply Kd.S_drewN | apply Kd.S_drew)); exact Kd.S_mono HO_9.out (fun _ hk => ⟨⟨hk.1.1, hk.2⟩, hk.1.2⟩)) hg hat)
                             replace HO_313001 := zM (Kd.R_over' (zR HO_313001.out) (Kd.S_typed (by (with_reducible repeat (first | apply Kd.S_alloc | apply Kd.S_drewN | apply Kd.S_drew)); exact HO_313000.out)) (by decide) hg)
                             replace BK292 := zM (blk_grown (g := gb292) (o := .cells #[.slice (some ad313) l0_0.length c0_0, .slice A0_1 l0_1.length c0_1] 27 (0, 0)) (zK BK292.out) hg (Kd.S_ne HO_313000.out BK292.out (by decide)))
                             replace BK293 := zM (blk_grown (g := gb293) (o := .cells #[.slice (some ad317) l1_0.length c1_0, .slice A1_1 l1_1.length c1_1] 27 (0, 0)) (zK BK293.out) hg (Kd.S_ne HO_313000.out BK293.out (by decide)))
                             replace BK294 := zM (blk_grown (g := gb294) (o := .cells #[.slice none 0 0, .slice none 0 0] 27 (0, 0)) (zK BK294.out) hg (Kd.S_ne HO_313000.out BK294.out (by decide)))
                             replace BK312 := zM (blk_grown (g := gb312) (o := .cells #[u313000, u313001] 27 (0, 0)) (zK BK312.out) hg (Kd.S_ne HO_313000.out BK312.out (by decide)))
                             replace HB := zM (hb)
                             have HO323 := zM (ho)
                             clear HO_313000 HO320
                             clear ho hb hg hat
                             obtain ⟨Ao102, co102, eo102⟩ := Kd.S_slice HO323.out
                             (first | subst eo102 | (injection eo102 with f1_ f2_ f3_; have f4_ := f1_.symm; have f5_ := f3_.symm; clear f1_ f2_ f3_; subst f4_; subst f5_))
                             refine hK.out _ _ ⟨(blk_cell BK312.out 0).trans rfl, (blk_cell BK312.out 1).trans rfl, (blk_cell BK292.out 0).trans rfl, (blk_cell BK292.out 1).trans rfl, (blk_cell BK293.out 0).trans rfl, (blk_cell BK293.out 1).trans rfl, ((HB.out.cell (World.block_lt_of_cell? w _ hw313_0)).trans hw313_0), ((HB.out.cell (World.block_lt_of_cell? w _ hw317_0)).trans hw317_0)⟩ (fun hHeld => ?_)
                             clear hK K
                             refine zn 106 ?_
                             refine zp HT_ 16 107 ?_
                             refine last_ (i := 17) (N := none) #[true, true, true, true, true, true, true, true, true, true, true, true, true, true, true, true, true, true] rfl rfl (one_of HT_.out (by kernel_rfl)) (by decide) (fun K hK => ?_)
                             have hs103 : w100.cell? ⟨gb312, 0, none⟩ = some (u313000) := (blk_cell BK312.out 0).trans rfl
                             have hfs103 := blk_frozen BK312.out 0
                             have hns103_0 := NB292_312.out
                             have hns103_1 := NB293_312.out
                             have hns103_2 := NB294_312.out
                             have hms103_0 := NB312_292.out
                             have hms103_1 := NB312_293.out
                             have hms103_2 := NB312_294.out
                             refine skip_ (w1 := ?_) (by rfl) rfl ?_ ?_
                             rotate_left
                             · go_simp
                               rfl
                             refine hK.out _ _ ?_
                             clear hK K
                             refine zo HT_ ?_
                             (repeat (first | go_skip | go_guarded | go_step | go_upon))
                             go_loopg [12] k4 (fun kq v12 w' => ∃ (x12_5 : Int) (x313001_5 : List (S41)) (u313001 : Value), v12 = .int .i64 x12_5 ∧ Aside0 (spec_ProductSpace.l2 kq (l1_0.length : Int) t306 t309 x10_3 x11_4 x12_5 l0_0 l0_1 l1_0 l1_1 y321 x313001_5 = some (r1, r2, r3)) ∧ Aside0 (kq ≤ k4) ∧ Aside0 (Kd.S (Kd.slice 3 (Kd.int .i64)) 39 w' w.heap.size (fun k_ => some k_ ≠ (v310 : Value).ownBlock ∧ some k_ ≠ ((.slice Ao102 y321.length co102) : Value).ownBlock) v307 t306) ∧ Aside0 (Kd.S (Kd.slice 3 (Kd.int .i64)) 39 w' w.heap.size (fun k_ => some k_ ≠ (v307 : Value).ownBlock ∧ some k_ ≠ ((.slice Ao102 y321.length co102) : Value).ownBlock) v310 t309) ∧ Aside0 (Kd.S (Kd.slice 3 (Kd.int .i64)) 39 w' w.heap.size (fun k_ => some k_ ≠ (v307 : Value).ownBlock ∧ some k_ ≠ (v310 : Value).ownBlock) (.slice Ao102 y321.length co102) y321) ∧ Aside0 (Kd.R k41 41 w' w.heap.size (fun _ => True) u313001 x313001_5) ∧ Aside0 (w'.heap[gb292]? = some (.cells #[(.slice (some ad313) l0_0.length c0_0), (.slice A0_1 l0_1.length c0_1)] 27 (0, 0))) ∧ Aside0 (w'.heap[gb293]? = some (.cells #[(.slice (some ad317) l1_0.length c1_0), (.slice A1_1 l1_1.length c1_1)] 27 (0, 0))) ∧ Aside0 (w'.heap[gb294]? = some (.cells #[(.slice none 0 0), (.slice none 0 0)] 27 (0, 0))) ∧ Aside0 (w'.heap[gb312]? = some (.cells #[(.slice Ao102 y321.length co102), u313001] 27 (0, 0))) ∧ Aside0 (Below w.heap.size w w'))
                             case atStart => exact ⟨(0), (x313001_4), (u313001), (by first | rfl | (simp; done) | (simp [*]; done)), H', ⟨Nat.le_refl _⟩, ⟨by (with_reducible repeat (first | apply Kd.S_alloc | apply Kd.S_drewN | apply Kd.S_drew)); exact Kd.S_mono (Kd.S_far (p := ⟨gb312, 0, none⟩) (Kd.S_types HO_8.out BK312.out (by decide)) (fun _ hk => hk.2) (.slice Ao102 y321.length co102)) (fun _ hk => ⟨hk.1.1.1, hk.1.2⟩)⟩, ⟨by (with_reducible repeat (first | apply Kd.S_alloc | apply Kd.S_drewN | apply Kd.S_drew)); exact Kd.S_mono (Kd.S_far (p := ⟨gb312, 0, none⟩) (Kd.S_types HO_9.out BK312.out (by decide)) (fun _ hk => hk.2) (.slice Ao102 y321.length co102)) (fun _ hk => ⟨hk.1.1.1, hk.1.2⟩)⟩, ⟨by (with_reducible repeat (first | apply Kd.S_alloc | apply Kd.S_drewN | apply Kd.S_drew)); exact Kd.S_mono (Kd.S_far (p := ⟨gb312, 0, none⟩) (Kd.S_types HO323.out BK312.out (by decide)) (fun _ hk => hk.2) (.slice Ao102 y321.length co102)) (fun _ hk => ⟨hk.1.1, hk.1.2⟩)⟩, ⟨by (with_reducible repeat (first | apply Kd.R_alloc | apply Kd.R_drewN | apply Kd.R_drew)); exact Kd.R_mono (Kd.R_far (p := ⟨gb312, 0, none⟩) (Kd.R_types HO_313001.out BK312.out (by decide)) (fun _ hk => hk.2) (.slice Ao102 y321.length co102)) (fun _ hk => trivial)⟩, ⟨by (with_reducible repeat (first | refine blk_drewN ?_ _ | refine blk_drew ?_ | refine blk_alloc ?_ _)); refine blk_far ?_ NB292_312.out _; (with_reducible repeat (first | refine blk_drewN ?_ _ | refine blk_drew ?_ | refine blk_alloc ?_ _)); exact BK292.out⟩, ⟨by (with_reducible repeat (first | refine blk_drewN ?_ _ | refine blk_drew ?_ | refine blk_alloc ?_ _)); refine blk_far ?_ NB293_312.out _; (with_reducible repeat (first | refine blk_drewN ?_ _ | refine blk_drew ?_ | refine blk_alloc ?_ _)); exact BK293.out⟩, ⟨by (with_reducible repeat (first | refine blk_drewN ?_ _ | refine blk_drew ?_ | refine blk_alloc ?_ _)); refine blk_far ?_ NB294_312.out _; (with_reducible repeat (first | refine blk_drewN ?_ _ | refine blk_drew ?_ | refine blk_alloc ?_ _)); exact BK294.out⟩, ⟨by (with_reducible repeat (first | refine blk_drewN ?_ _ | refine blk_drew ?_ | refine blk_alloc ?_ _)); refine blk_put (cs := #[u313000, u313001]) ?_ 0 _ rfl; (with_reducible repeat (first | refine blk_drewN ?_ _ | refine blk_drew ?_ | refine blk_alloc ?_ _)); exact BK312.out⟩, ⟨zB⟩⟩
                             case round =>
                              as_aux_lemma =>
                              clear H'
                              try clear c1
                              try clear c2
                              try clear p2
                              try clear c3
                              try clear p3
                              try clear q3
                              try clear hx3
                              try clear c5
                              try clear c6
                              try clear p6
                              try clear c8
                              try clear c9
                              try clear c18
                              try clear c19
                              try clear c20
                              try clear c31
                              try clear p31
                              try clear q31
                              try clear hx31
                              try clear c52
                              try clear c52b0
                              try clear c55
                              try clear c55b0
                              try clear c63
                              try clear c64
                              try clear p64
                              try clear c65
                              try clear c84
                              try clear c84b0
                              try clear c85
                              try clear c86
                              try clear c87
                              try clear c89
                              try clear c89b0
                              try clear c90
                              try clear c90b0
                              try clear c91
                              try clear c91b0
                              try clear c93
                              try clear c93b0
                              try clear c94
                              try clear c94b0
                              try clear c95
                              try clear c96
                              try clear hcz66_0
                              try clear hcz66_1
                              try clear hcz88_0
                              try clear hcz88_1
                              try clear hfz66_0
                              try clear hfz66_1
                              try clear hfz88_0
                              try clear hfz88_1
                              try clear hx313_0
                              try clear hx317_0
                              try clear p2
                              try clear p313
                              try clear p317
                              try clear p6
                              try clear p64
                              try clear q313
                              try clear q317
                              obtain ⟨x12_5, x313001_5, u313001, rfl, HA, HK5, HO_8, HO_9, HO_313000, HO_313001, BK292, BK293, BK294, BK312, HB⟩ := hrel
                              cases gk with
                              | zero => exact absurd HA.out (by simp [spec_ProductSpace.l2])
                              | succ k5 =>
                               have H := HA.out
                               clear HA
                               simp only [spec_ProductSpace.l2] at H
                               by_cases c104 : 0 ≤ x11_4
                               · rw [if_pos c104] at H
                                 have c104b0 := decide_eq_true c104
                                 clear c104
                                 by_cases c105 : x11_4 < (t309.length : Int)
                                 · rw [if_pos c105] at H
                                   have c105b0 := decide_eq_true c105
                                   clear c105
                                   by_cases c106 : x12_5 < ((rd_L1 t309 x11_4).length : Int)
                                   · rw [if_pos c106] at H
                                     have c106b0 := decide_eq_true c106
                                     clear c106
                                     by_cases c107 : 0 ≤ x12_5
                                     · rw [if_pos c107] at H
                                       have c107b0 := decide_eq_true c107
                                       clear c107
                                       by_cases c108 : (rd (rd_L1 t309 x11_4) x12_5) > x11_4
                                       · rw [if_pos c108] at H
                                         have c108b0 : decide (x11_4 < (rd (rd_L1 t309 x11_4) x12_5)) = true := decide_eq_true c108
                                         clear c108
                                         by_cases c109 : x313001_5.length < 8796093022208
                                         · rw [if_pos c109] at H
                                           have LMc109 := Aside0.mk c109
                                           clear c109
                                           obtain ⟨y329, hy329⟩ : ∃ y_ : List (S41), y_ = (x313001_5 ++ [(⟨wrap64 ((wrap64 (x10_3 * (l1_0.length : Int))) + x11_4), wrap64 ((wrap64 (x10_3 * (l1_0.length : Int))) + (rd (rd_L1 t309 x11_4) x12_5))⟩ : S41)]) := ⟨_, rfl⟩
                                           replace H : (spec_ProductSpace.l2 k5 (l1_0.length : Int) t306 t309 x10_3 x11_4 (wrap64 (x12_5 + 1)) l0_0 l0_1 l1_0 l1_1 y321 y329) = some (r1, r2, r3) := by first | (rw [hy329]; with_reducible exact H) | (have H2_ := (Option.bind_some _ _).symm.trans H; rw [hy329]; with_reducible exact H2_) | (have H2_ := (Option.bind_some _ _).symm.trans H; with_reducible exact H2_) | with_reducible exact H | (rw [hy329]; exact H) | exact H
                                           have Ny329 := Aside0.mk hy329
                                           clear hy329
                                           have H' := Aside0.mk H
                                           clear H
                                           obtain ⟨Ao110, co110, eo110⟩ := Kd.S_slice HO_9.out
                                           subst eo110
                                           have p324 : 0 ≤ (x11_4 : Int) := of_decide_eq_true zA
                                           have q324 : x11_4 < (t309.length : Int) := of_decide_eq_true zA
                                           obtain ⟨ad324, A324_0, c324_0, e324, hx324_0, hl324_0, hi324_0⟩ := at_L1 (Kd.S_reads' HO_9.out).2.2 x11_4 p324 q324
                                           cases e324
                                           obtain ⟨ce324, hce324, hMe324, hcc324⟩ := Kd.S_get HO_9.out [] x11_4 p324 (by first | exact q324 | exact of_decide_eq_true zA | (have e_ := (Kd.S_reads' HO_9.out).1; omega))
                                           obtain ⟨ve324_0, rfl, ge324_0⟩ := hMe324
                                           have hv324_0 := hcc324 0 _ rfl
                                           rw [Nat.add_zero, show ((Kd.slice 3 (Kd.int .i64))).sz = 1 from rfl, Nat.mul_one] at hv324_0
                                           replace hv324_0 := Option.some.inj (hv324_0.symm.trans hx324_0)
                                           rw [hv324_0] at ge324_0
                                           have HL324_0 := zM (show Kd.R (Kd.int .i64) 3 _ _ _ _ (rd_L1 t309 x11_4) from ge324_0)
                                           clear hv324_0 ge324_0
                                           clear hcc324 hce324
                                           have HR324_0 := Aside0.mk hi324_0
                                           have HC324_0 := Aside0.mk hl324_0
                                           clear hi324_0 hl324_0
                                           replace p324 := eq_true p324
                                           replace q324 := eq_true q324
                                           have p325 : 0 ≤ (x11_4 : Int) := of_decide_eq_true zA
                                           have q325 : x11_4 < (t309.length : Int) := of_decide_eq_true zA
                                           obtain ⟨ad325, A325_0, c325_0, e325, hx325_0, hl325_0, hi325_0⟩ := at_L1 (Kd.S_reads' HO_9.out).2.2 x11_4 p325 q325
                                           obtain rfl : ad324 = ad325 := (by injection e325)
                                           obtain ⟨ce325, hce325, hMe325, hcc325⟩ := Kd.S_get HO_9.out [] x11_4 p325 (by first | exact q325 | exact of_decide_eq_true zA | (have e_ := (Kd.S_reads' HO_9.out).1; omega))
                                           obtain ⟨ve325_0, rfl, ge325_0⟩ := hMe325
                                           have hv325_0 := hcc325 0 _ rfl
                                           rw [Nat.add_zero, show ((Kd.slice 3 (Kd.int .i64))).sz = 1 from rfl, Nat.mul_one] at hv325_0
                                           replace hv325_0 := Option.some.inj (hv325_0.symm.trans hx325_0)
                                           rw [hv325_0] at ge325_0
                                           have HL325_0 := zM (show Kd.R (Kd.int .i64) 3 _ _ _ _ (rd_L1 t309 x11_4) from ge325_0)
                                           clear hv325_0 ge325_0
                                           clear hcc325 hce325
                                           have HR325_0 := Aside0.mk hi325_0
                                           have HC325_0 := Aside0.mk hl325_0
                                           clear hi325_0 hl325_0
                                           replace p325 := eq_true p325
                                           replace q325 := eq_true q325
                                           have ea_ := Option.some.inj (hx324_0.symm.trans hx325_0)
                                           injection ea_ with ea_ en_ ec_
                                           subst ea_
                                           subst ec_
                                           clear en_
                                           have p326 : 0 ≤ (x12_5 : Int) := of_decide_eq_true zA
                                           have q326 : x12_5 < ((rd_L1 t309 x11_4).length : Int) := of_decide_eq_true zA
                                           obtain ⟨ad326, e326, hx326_0⟩ := Kd.at_int (by repeat (first | (with_reducible exact HR325_0.out) | (with_reducible refine Kd.C_alloc ?_ _) | (with_reducible refine Kd.C_drewN ?_ _) | (with_reducible refine Kd.C_drew ?_) | exact HR325_0.out)) x12_5 p326 q326
                                           cases e326
                                           replace p326 := eq_true p326
                                           replace q326 := eq_true q326
                                           (repeat (first | go_skip | go_guarded | go_step | go_upon))
                                           replace HO_8 := zM (Kd.S_drew HO_8.out)
                                           replace HO_9 := zM (Kd.S_drew HO_9.out)
                                           replace HO_313000 := zM (Kd.S_drew HO_313000.out)
                                           replace HO_313001 := zM (Kd.R_drew HO_313001.out)
                                           replace HL324_0 := zM (Kd.R_drew HL324_0.out)
                                           replace HL325_0 := zM (Kd.R_drew HL325_0.out)
                                           replace BK292 := zM (blk_drew BK292.out)
                                           replace BK293 := zM (blk_drew BK293.out)
                                           replace BK294 := zM (blk_drew BK294.out)
                                           replace BK312 := zM (blk_drew BK312.out)
                                           replace HR324_0 := zM (Kd.C_drew HR324_0.out)
                                           replace HR325_0 := zM (Kd.C_drew HR325_0.out)
                                           replace HB := zM (below_drew1 HB.out)
                                           have p327 : 0 ≤ (x11_4 : Int) := of_decide_eq_true zA
                                           have q327 : x11_4 < (t309.length : Int) := of_decide_eq_true zA
                                           obtain ⟨ad327, A327_0, c327_0, e327, hx327_0, hl327_0, hi327_0⟩ := at_L1 (Kd.S_reads' HO_9.out).2.2 x11_4 p327 q327
                                           obtain rfl : ad324 = ad327 := (by injection e327)
                                           obtain ⟨ce327, hce327, hMe327, hcc327⟩ := Kd.S_get HO_9.out [] x11_4 p327 (by first | exact q327 | exact of_decide_eq_true zA | (have e_ := (Kd.S_reads' HO_9.out).1; omega))
                                           obtain ⟨ve327_0, rfl, ge327_0⟩ := hMe327
                                           have hv327_0 := hcc327 0 _ rfl
                                           rw [Nat.add_zero, show ((Kd.slice 3 (Kd.int .i64))).sz = 1 from rfl, Nat.mul_one] at hv327_0
                                           replace hv327_0 := Option.some.inj (hv327_0.symm.trans hx327_0)
                                           rw [hv327_0] at ge327_0
                                           have HL327_0 := zM (show Kd.R (Kd.int .i64) 3 _ _ _ _ (rd_L1 t309 x11_4) from ge327_0)
                                           clear hv327_0 ge327_0
                                           clear hcc327 hce327
                                           have HR327_0 := Aside0.mk hi327_0
                                           have HC327_0 := Aside0.mk hl327_0
                                           clear hi327_0 hl327_0
                                           replace p327 := eq_true p327
                                           replace q327 := eq_true q327
                                           have p328 : 0 ≤ (x12_5 : Int) := of_decide_eq_true zA
                                           have q328 : x12_5 < ((rd_L1 t309 x11_4).length : Int) := of_decide_eq_true zA
                                           obtain ⟨ad328, e328, hx328_0⟩ := Kd.at_int (by repeat (first | (with_reducible exact HR327_0.out) | (with_reducible refine Kd.C_alloc ?_ _) | (with_reducible refine Kd.C_drewN ?_ _) | (with_reducible refine Kd.C_drew ?_) | exact HR327_0.out)) x12_5 p328 q328
                                           cases e328
                                           replace p328 := eq_true p328
                                           replace q328 := eq_true q328
                                           refine start_ (n := 23) (S := fun w' => w'.cell? ⟨gb312, 0, none⟩ = some (.slice Ao102 y321.length co102) ∧ w'.cell? ⟨gb312, 1, none⟩ = some (u313001) ∧ w'.cell? (ad324.add (x11_4).toNat) = some (.slice (some ad328) (rd_L1 t309 x11_4).length c327_0) ∧ w'.cell? (ad328.add (x12_5).toNat) = some (.int .i64 (rd (rd_L1 t309 x11_4) x12_5))) (ds := [20, 22]) #[false, false, false, false, false, false, false, false, false, false, false, false, false, false, false, false, false, false, false, false, false, false, false] (by kernel_rfl) rfl rfl ⟨(blk_cell BK312.out 0).trans rfl, (blk_cell BK312.out 1).trans rfl, hx327_0, hx328_0⟩ (fun hHeld => ?_); refine with_tabW spec_ProductSpace.tab18 spec_ProductSpace.bits18 (fun HT_ HW_ => ?_)
                                           generalize wr.drew = w111 at HO_8 HO_9 HO_313000 HO_313001 HL324_0 HL325_0 BK292 BK293 BK294 BK312 HR324_0 HR325_0 HB HL327_0 HR327_0 hx327_0 hx328_0 hHeld ⊢
                                           refine zp HT_ 0 126 ?_
                                           refine zp HT_ 2 128 ?_
                                           refine zp HT_ 3 129 ?_
                                           refine zp HT_ 4 130 ?_
                                           refine zp HT_ 5 131 ?_
                                           refine zp HT_ 6 132 ?_
                                           refine zp HT_ 7 133 ?_
                                           refine zp HT_ 8 134 ?_
                                           refine zp HT_ 9 135 ?_
                                           refine zp HT_ 10 136 ?_
                                           refine zp HT_ 11 137 ?_
                                           refine zp HT_ 12 138 ?_
                                           refine zp HT_ 14 140 ?_
                                           refine zt HT_ HW_ 1 127 hHeld ?_ (hy := by rintro w' ⟨s0, s1, s2, s3⟩; go_simp; with_reducible rfl)
                                           refine zt HT_ HW_ 13 139 hHeld ?_ (hy := by rintro w' ⟨s0, s1, s2, s3⟩; go_simp; with_reducible rfl)
                                           refine zp HT_ 15 141 ?_
                                           refine zt HT_ HW_ 16 142 hHeld ?_ (hy := by rintro w' ⟨s0, s1, s2, s3⟩; go_simp; with_reducible rfl)
                                           refine zp HT_ 17 143 ?_
                                           refine zp HT_ 18 144 ?_
                                           refine one_ (i := 19) (N := some 145) #[true, true, true, true, true, true, true, true, true, true, true, true, true, true, true, true, true, true, true, true, false, false, false] rfl rfl (one_of HT_.out (by kernel_rfl)) (by decide) (fun K hK => ?_)
                                           refine value_ (w1 := ?_) (v := ?_) (by rfl) rfl ?_ ?_
                                           rotate_left 2
                                           · go_simp
                                             constructor
                                             · rfl
                                             · rfl
                                           refine hK.out _ _ ⟨(blk_cell (blk_alloc BK312.out _) 0).trans rfl, (blk_cell (blk_alloc BK312.out _) 1).trans rfl, (World.cell?_alloc_lt _ _ _ (World.block_lt_of_cell? _ _ (hHeld.2.2.1))).trans (hHeld.2.2.1), (World.cell?_alloc_lt _ _ _ (World.block_lt_of_cell? _ _ (hHeld.2.2.2))).trans (hHeld.2.2.2)⟩ (fun hHeld => ?_)
                                           clear hK K
                                           refine zn 145 ?_
                                           refine last_ (i := 20) (N := some 146) #[true, true, true, true, true, true, true, true, true, true, true, true, true, true, true, true, true, true, true, true, true, false, false] rfl rfl (one_of HT_.out (by kernel_rfl)) (by decide) (fun K hK => ?_)
                                           refine Kd.R_append_step k41 (w0 := w) w.heap.size (by rfl) (.tmp 127) (.tmp 145) 23 41 (.agg #[(.int .i64 0), (.int .i64 0)]) 16 rfl Try.underlying23 info41 rfl (by decide) (by omega) u313001 x313001_5 (⟨wrap64 ((wrap64 (x10_3 * (l1_0.length : Int))) + x11_4), wrap64 ((wrap64 (x10_3 * (l1_0.length : Int))) + (rd (rd_L1 t309 x11_4) x12_5))⟩ : S41) [.int .i64 (wrap64 ((wrap64 (x10_3 * (l1_0.length : Int))) + x11_4)), .int .i64 (wrap64 ((wrap64 (x10_3 * (l1_0.length : Int))) + (rd (rd_L1 t309 x11_4) x12_5)))] (fun _ => True) (fun _ => False) rfl rfl ?aP (fun _ hk => hk.elim) ?aF ?aO ?aB ?aS ?aL ?_
                                           (case aP => exact k41_mkM _ _ _ (⟨wrap64 ((wrap64 (x10_3 * (l1_0.length : Int))) + x11_4), wrap64 ((wrap64 (x10_3 * (l1_0.length : Int))) + (rd (rd_L1 t309 x11_4) x12_5))⟩ : S41))
                                           (case aB => exact zB)
                                           (case aF => exact (fun _ _ => trivial))
                                           (case aO => exact (zR HO_313001.out))
                                           (case aS => exact (below_size zB))
                                           (case aL => have := LMc109.out; omega)
                                           intro v330 w112 ho hb hg hat
                                           rw [← Ny329.out] at ho
                                           replace HO_8 := zM (Kd.S_over' (by (with_reducible repeat (first | apply Kd.S_alloc | apply Kd.S_drewN | apply Kd.S_drew)); exact HO_8.out) (Kd.R_typed (zR HO_313001.out)) (by decide) hg)
                                           replace HO_9 := zM (Kd.S_over' (by (with_reducible repeat (first | apply Kd.S_alloc | apply Kd.S_drewN | apply Kd.S_drew)); exact HO_9.out) (Kd.R_typed (zR HO_313001.out)) (by decide) hg)
                                           replace HO_313000 := zM (Kd.S_over' (by (with_reducible repeat (first | apply Kd.S_alloc | apply Kd.S_drewN | apply Kd.S_drew)); exact HO_313000.out) (Kd.R_typed (zR HO_313001.out)) (by decide) hg)
                                           replace BK292 := zM (blk_grown (g := gb292) (o := .cells #[.slice (some ad313) l0_0.length c0_0, .slice A0_1 l0_1.length c0_1] 27 (0, 0)) (zK BK292.out) hg (Kd.R_ne HO_313001.out BK292.out (by decide)))
                                           replace BK293 := zM (blk_grown (g := gb293) (o := .cells #[.slice (some ad317) l1_0.length c1_0, .slice A1_1 l1_1.length c1_1] 27 (0, 0)) (zK BK293.out) hg (Kd.R_ne HO_313001.out BK293.out (by decide)))
                                           replace BK294 := zM (blk_grown (g := gb294) (o := .cells #[.slice none 0 0, .slice none 0 0] 27 (0, 0)) (zK BK294.out) hg (Kd.R_ne HO_313001.out BK294.out (by decide)))
                                           replace BK312 := zM (blk_grown (g := gb312) (o := .cells #[.slice Ao102 y321.length co102, u313001] 27 (0, 0)) (zK BK312.out) hg (Kd.R_ne HO_313001.out BK312.out (by decide)))
                                           replace HL324_0 := zM (Kd.R_over' (zR HL324_0.out) (Kd.R_typed (zR HO_313001.out)) (by decide) hg)
                                           replace HL325_0 := zM (Kd.R_over' (zR HL325_0.out) (Kd.R_typed (zR HO_313001.out)) (by decide) hg)
                                           replace HL327_0 := zM (Kd.R_over' (zR HL327_0.out) (Kd.R_typed (zR HO_313001.out)) (by decide) hg)
                                           replace HB := zM (hb)
                                           have HO331 := zM (ho)
                                           clear HO_313001
                                           clear ho hb hg hat
                                           obtain ⟨Ao113, co113, eo113⟩ := Kd.R_slice HO331.out
                                           (first | subst eo113 | (injection eo113 with f1_ f2_ f3_; have f4_ := f1_.symm; have f5_ := f3_.symm; clear f1_ f2_ f3_; subst f4_; subst f5_))
                                           refine hK.out _ _ ?_
                                           clear hK K
                                           refine zn 146 ?_
                                           refine zp HT_ 21 147 ?_
                                           refine last_ (i := 22) (N := none) #[true, true, true, true, true, true, true, true, true, true, true, true, true, true, true, true, true, true, true, true, true, true, true] rfl rfl (one_of HT_.out (by kernel_rfl)) (by decide) (fun K hK => ?_)
                                           have hs114 : w112.cell? ⟨gb312, 1, none⟩ = some (u313001) := (blk_cell BK312.out 1).trans rfl
                                           have hfs114 := blk_frozen BK312.out 1
                                           have hns114_0 := NB292_312.out
                                           have hns114_1 := NB293_312.out
                                           have hns114_2 := NB294_312.out
                                           have hms114_0 := NB312_292.out
                                           have hms114_1 := NB312_293.out
                                           have hms114_2 := NB312_294.out
                                           refine skip_ (w1 := ?_) (by rfl) rfl ?_ ?_
                                           rotate_left
                                           · go_simp
                                             rfl
                                           refine hK.out _ _ ?_
                                           clear hK K
                                           refine zo HT_ ?_
                                           (repeat (first | go_skip | go_guarded | go_step | go_upon))
                                           go_roundg k5
                                           case measure => have := HJ2.out; have := HJ47.out; have := HK3.out; have := HK4.out; have := HK5.out; omega
                                           case rel => exact ⟨(wrap64 (x12_5 + 1)), (y329), (.slice Ao113 y329.length co113), (by first | rfl | (simp; done) | (simp [*]; done)), H', ⟨by have := HJ2.out; have := HJ47.out; have := HK3.out; have := HK4.out; have := HK5.out; omega⟩, ⟨by (with_reducible repeat (first | apply Kd.S_alloc | apply Kd.S_drewN | apply Kd.S_drew)); exact Kd.S_mono (Kd.S_far (p := ⟨gb312, 1, none⟩) (Kd.S_types HO_8.out BK312.out (by decide)) (fun _ hk => hk.2) (.slice Ao113 y329.length co113)) (fun _ hk => ⟨hk.1.1, hk.1.2⟩)⟩, ⟨by (with_reducible repeat (first | apply Kd.S_alloc | apply Kd.S_drewN | apply Kd.S_drew)); exact Kd.S_mono (Kd.S_far (p := ⟨gb312, 1, none⟩) (Kd.S_types HO_9.out BK312.out (by decide)) (fun _ hk => hk.2) (.slice Ao113 y329.length co113)) (fun _ hk => ⟨hk.1.1, hk.1.2⟩)⟩, ⟨by (with_reducible repeat (first | apply Kd.S_alloc | apply Kd.S_drewN | apply Kd.S_drew)); exact Kd.S_mono (Kd.S_far (p := ⟨gb312, 1, none⟩) (Kd.S_types HO_313000.out BK312.out (by decide)) (fun _ hk => hk.2) (.slice Ao113 y329.length co113)) (fun _ hk => ⟨hk.1.1, hk.1.2⟩)⟩, ⟨by (with_reducible repeat (first | apply Kd.R_alloc | apply Kd.R_drewN | apply Kd.R_drew)); exact Kd.R_mono (Kd.R_far (p := ⟨gb312, 1, none⟩) (Kd.R_types HO331.out BK312.out (by decide)) (fun _ hk => hk.2) (.slice Ao113 y329.length co113)) (fun _ hk => trivial)⟩, ⟨by (with_reducible repeat (first | refine blk_drewN ?_ _ | refine blk_drew ?_ | refine blk_alloc ?_ _)); refine blk_far ?_ NB292_312.out _; (with_reducible repeat (first | refine blk_drewN ?_ _ | refine blk_drew ?_ | refine blk_alloc ?_ _)); exact BK292.out⟩, ⟨by (with_reducible repeat (first | refine blk_drewN ?_ _ | refine blk_drew ?_ | refine blk_alloc ?_ _)); refine blk_far ?_ NB293_312.out _; (with_reducible repeat (first | refine blk_drewN ?_ _ | refine blk_drew ?_ | refine blk_alloc ?_ _)); exact BK293.out⟩, ⟨by (with_reducible repeat (first | refine blk_drewN ?_ _ | refine blk_drew ?_ | refine blk_alloc ?_ _)); refine blk_far ?_ NB294_312.out _; (with_reducible repeat (first | refine blk_drewN ?_ _ | refine blk_drew ?_ | refine blk_alloc ?_ _)); exact BK294.out⟩, ⟨by (with_reducible repeat (first | refine blk_drewN ?_ _ | refine blk_drew ?_ | refine blk_alloc ?_ _)); refine blk_put (cs := #[.slice Ao102 y321.length co102, u313001]) ?_ 1 _ rfl; (with_reducible repeat (first | refine blk_drewN ?_ _ | refine blk_drew ?_ | refine blk_alloc ?_ _)); exact BK312.out⟩, ⟨zB⟩⟩
                                         · rw [if_neg c109] at H
                                           exact absurd H (by simp)
                                       · rw [if_neg c108] at H
                                         have c108b0 : decide (x11_4 < (rd (rd_L1 t309 x11_4) x12_5)) = false := decide_eq_false c108
                                         clear c108
                                         have H' := Aside0.mk H
                                         clear H
                                         obtain ⟨Ao115, co115, eo115⟩ := Kd.S_slice HO_9.out
                                         subst eo115
                                         have p324 : 0 ≤ (x11_4 : Int) := of_decide_eq_true zA
                                         have q324 : x11_4 < (t309.length : Int) := of_decide_eq_true zA
                                         obtain ⟨ad324, A324_0, c324_0, e324, hx324_0, hl324_0, hi324_0⟩ := at_L1 (Kd.S_reads' HO_9.out).2.2 x11_4 p324 q324
                                         cases e324
                                         obtain ⟨ce324, hce324, hMe324, hcc324⟩ := Kd.S_get HO_9.out [] x11_4 p324 (by first | exact q324 | exact of_decide_eq_true zA | (have e_ := (Kd.S_reads' HO_9.out).1; omega))
                                         obtain ⟨ve324_0, rfl, ge324_0⟩ := hMe324
                                         have hv324_0 := hcc324 0 _ rfl
                                         rw [Nat.add_zero, show ((Kd.slice 3 (Kd.int .i64))).sz = 1 from rfl, Nat.mul_one] at hv324_0
                                         replace hv324_0 := Option.some.inj (hv324_0.symm.trans hx324_0)
                                         rw [hv324_0] at ge324_0
                                         have HL324_0 := zM (show Kd.R (Kd.int .i64) 3 _ _ _ _ (rd_L1 t309 x11_4) from ge324_0)
                                         clear hv324_0 ge324_0
                                         clear hcc324 hce324
                                         have HR324_0 := Aside0.mk hi324_0
                                         have HC324_0 := Aside0.mk hl324_0
                                         clear hi324_0 hl324_0
                                         replace p324 := eq_true p324
                                         replace q324 := eq_true q324
                                         have p325 : 0 ≤ (x11_4 : Int) := of_decide_eq_true zA
                                         have q325 : x11_4 < (t309.length : Int) := of_decide_eq_true zA
                                         obtain ⟨ad325, A325_0, c325_0, e325, hx325_0, hl325_0, hi325_0⟩ := at_L1 (Kd.S_reads' HO_9.out).2.2 x11_4 p325 q325
                                         obtain rfl : ad324 = ad325 := (by injection e325)
                                         obtain ⟨ce325, hce325, hMe325, hcc325⟩ := Kd.S_get HO_9.out [] x11_4 p325 (by first | exact q325 | exact of_decide_eq_true zA | (have e_ := (Kd.S_reads' HO_9.out).1; omega))
                                         obtain ⟨ve325_0, rfl, ge325_0⟩ := hMe325
                                         have hv325_0 := hcc325 0 _ rfl
                                         rw [Nat.add_zero, show ((Kd.slice 3 (Kd.int .i64))).sz = 1 from rfl, Nat.mul_one] at hv325_0
                                         replace hv325_0 := Option.some.inj (hv325_0.symm.trans hx325_0)
                                         rw [hv325_0] at ge325_0
                                         have HL325_0 := zM (show Kd.R (Kd.int .i64) 3 _ _ _ _ (rd_L1 t309 x11_4) from ge325_0)
                                         clear hv325_0 ge325_0
                                         clear hcc325 hce325
                                         have HR325_0 := Aside0.mk hi325_0
                                         have HC325_0 := Aside0.mk hl325_0
                                         clear hi325_0 hl325_0
                                         replace p325 := eq_true p325
                                         replace q325 := eq_true q325
                                         have ea_ := Option.some.inj (hx324_0.symm.trans hx325_0)
                                         injection ea_ with ea_ en_ ec_
                                         subst ea_
                                         subst ec_
                                         clear en_
                                         have p326 : 0 ≤ (x12_5 : Int) := of_decide_eq_true zA
                                         have q326 : x12_5 < ((rd_L1 t309 x11_4).length : Int) := of_decide_eq_true zA
                                         obtain ⟨ad326, e326, hx326_0⟩ := Kd.at_int (by repeat (first | (with_reducible exact HR325_0.out) | (with_reducible refine Kd.C_alloc ?_ _) | (with_reducible refine Kd.C_drewN ?_ _) | (with_reducible refine Kd.C_drew ?_) | exact HR325_0.out)) x12_5 p326 q326
                                         cases e326
                                         replace p326 := eq_true p326
                                         replace q326 := eq_true q326
                                         (repeat (first | go_skip | go_guarded | go_step | go_upon))
                                         go_roundg k5
                                         case measure => have := HJ2.out; have := HJ47.out; have := HK3.out; have := HK4.out; have := HK5.out; omega
                                         case rel => exact ⟨(wrap64 (x12_5 + 1)), (x313001_5), (u313001), (by first | rfl | (simp; done) | (simp [*]; done)), H', ⟨by have := HJ2.out; have := HJ47.out; have := HK3.out; have := HK4.out; have := HK5.out; omega⟩, ⟨by (with_reducible repeat (first | apply Kd.S_alloc | apply Kd.S_drewN | apply Kd.S_drew)); exact HO_8.out⟩, ⟨by (with_reducible repeat (first | apply Kd.S_alloc | apply Kd.S_drewN | apply Kd.S_drew)); exact HO_9.out⟩, ⟨by (with_reducible repeat (first | apply Kd.S_alloc | apply Kd.S_drewN | apply Kd.S_drew)); exact HO_313000.out⟩, ⟨zR HO_313001.out⟩, ⟨zK BK292.out⟩, ⟨zK BK293.out⟩, ⟨zK BK294.out⟩, ⟨zK BK312.out⟩, ⟨zB⟩⟩
                                     · rw [if_neg c107] at H
                                       exact absurd H (by simp)
                                   · rw [if_neg c106] at H
                                     have c106b0 : decide (x12_5 < ((rd_L1 t309 x11_4).length : Int)) = false := decide_eq_false c106
                                     clear c106
                                     have H' := Aside0.mk H
                                     clear H
                                     obtain ⟨Ao116, co116, eo116⟩ := Kd.S_slice HO_9.out
                                     subst eo116
                                     have p324 : 0 ≤ (x11_4 : Int) := of_decide_eq_true zA
                                     have q324 : x11_4 < (t309.length : Int) := of_decide_eq_true zA
                                     obtain ⟨ad324, A324_0, c324_0, e324, hx324_0, hl324_0, hi324_0⟩ := at_L1 (Kd.S_reads' HO_9.out).2.2 x11_4 p324 q324
                                     cases e324
                                     obtain ⟨ce324, hce324, hMe324, hcc324⟩ := Kd.S_get HO_9.out [] x11_4 p324 (by first | exact q324 | exact of_decide_eq_true zA | (have e_ := (Kd.S_reads' HO_9.out).1; omega))
                                     obtain ⟨ve324_0, rfl, ge324_0⟩ := hMe324
                                     have hv324_0 := hcc324 0 _ rfl
                                     rw [Nat.add_zero, show ((Kd.slice 3 (Kd.int .i64))).sz = 1 from rfl, Nat.mul_one] at hv324_0
                                     replace hv324_0 := Option.some.inj (hv324_0.symm.trans hx324_0)
                                     rw [hv324_0] at ge324_0
                                     have HL324_0 := zM (show Kd.R (Kd.int .i64) 3 _ _ _ _ (rd_L1 t309 x11_4) from ge324_0)
                                     clear hv324_0 ge324_0
                                     clear hcc324 hce324
                                     have HR324_0 := Aside0.mk hi324_0
                                     have HC324_0 := Aside0.mk hl324_0
                                     clear hi324_0 hl324_0
                                     replace p324 := eq_true p324
                                     replace q324 := eq_true q324
                                     (repeat (first | go_skip | go_guarded | go_step | go_upon))
                                     go_loopg [13] k5 (fun kq v13 w' => ∃ (x13_6 : Int) (x313001_6 : List (S41)) (u313001 : Value), v13 = .int .i64 x13_6 ∧ Aside0 (spec_ProductSpace.l3 kq (l1_0.length : Int) t306 t309 x10_3 x11_4 x13_6 l0_0 l0_1 l1_0 l1_1 y321 x313001_6 = some (r1, r2, r3)) ∧ Aside0 (kq ≤ k5) ∧ Aside0 (Kd.S (Kd.slice 3 (Kd.int .i64)) 39 w' w.heap.size (fun k_ => some k_ ≠ ((.slice (some ad324) t309.length co116) : Value).ownBlock ∧ some k_ ≠ ((.slice Ao102 y321.length co102) : Value).ownBlock) v307 t306) ∧ Aside0 (Kd.S (Kd.slice 3 (Kd.int .i64)) 39 w' w.heap.size (fun k_ => some k_ ≠ (v307 : Value).ownBlock ∧ some k_ ≠ ((.slice Ao102 y321.length co102) : Value).ownBlock) (.slice (some ad324) t309.length co116) t309) ∧ Aside0 (Kd.S (Kd.slice 3 (Kd.int .i64)) 39 w' w.heap.size (fun k_ => some k_ ≠ (v307 : Value).ownBlock ∧ some k_ ≠ ((.slice (some ad324) t309.length co116) : Value).ownBlock) (.slice Ao102 y321.length co102) y321) ∧ Aside0 (Kd.R k41 41 w' w.heap.size (fun _ => True) u313001 x313001_6) ∧ Aside0 (w'.heap[gb292]? = some (.cells #[(.slice (some ad313) l0_0.length c0_0), (.slice A0_1 l0_1.length c0_1)] 27 (0, 0))) ∧ Aside0 (w'.heap[gb293]? = some (.cells #[(.slice (some ad317) l1_0.length c1_0), (.slice A1_1 l1_1.length c1_1)] 27 (0, 0))) ∧ Aside0 (w'.heap[gb294]? = some (.cells #[(.slice none 0 0), (.slice none 0 0)] 27 (0, 0))) ∧ Aside0 (w'.heap[gb312]? = some (.cells #[(.slice Ao102 y321.length co102), u313001] 27 (0, 0))) ∧ Aside0 (Below w.heap.size w w'))
                                     case atStart => exact ⟨(0), (x313001_5), (u313001), (by first | rfl | (simp; done) | (simp [*]; done)), H', ⟨Nat.le_refl _⟩, ⟨by (with_reducible repeat (first | apply Kd.S_alloc | apply Kd.S_drewN | apply Kd.S_drew)); exact HO_8.out⟩, ⟨by (with_reducible repeat (first | apply Kd.S_alloc | apply Kd.S_drewN | apply Kd.S_drew)); exact HO_9.out⟩, ⟨by (with_reducible repeat (first | apply Kd.S_alloc | apply Kd.S_drewN | apply Kd.S_drew)); exact HO_313000.out⟩, ⟨zR HO_313001.out⟩, ⟨zK BK292.out⟩, ⟨zK BK293.out⟩, ⟨zK BK294.out⟩, ⟨zK BK312.out⟩, ⟨zB⟩⟩
                                     case round =>
                                      as_aux_lemma =>
                                      clear H'
                                      try clear c1
                                      try clear c2
                                      try clear p2
                                      try clear c3
                                      try clear p3
                                      try clear q3
                                      try clear hx3
                                      try clear c5
                                      try clear c6
                                      try clear p6
                                      try clear c8
                                      try clear c9
                                      try clear c10
                                      try clear c18
                                      try clear c19
                                      try clear c20
                                      try clear c31
                                      try clear p31
                                      try clear q31
                                      try clear hx31
                                      try clear c32
                                      try clear p32
                                      try clear q32
                                      try clear hx32
                                      try clear c52
                                      try clear c52b0
                                      try clear c55
                                      try clear c55b0
                                      try clear c63
                                      try clear c64
                                      try clear p64
                                      try clear c65
                                      try clear c84
                                      try clear c84b0
                                      try clear c85
                                      try clear c86
                                      try clear c87
                                      try clear c89
                                      try clear c89b0
                                      try clear c90
                                      try clear c90b0
                                      try clear c91
                                      try clear c91b0
                                      try clear c93
                                      try clear c93b0
                                      try clear c94
                                      try clear c94b0
                                      try clear c95
                                      try clear c96
                                      try clear c104
                                      try clear c104b0
                                      try clear c105
                                      try clear c105b0
                                      try clear c106
                                      try clear c106b0
                                      try clear c107
                                      try clear c107b0
                                      try clear c108
                                      try clear c108b0
                                      try clear c109
                                      try clear hcz66_0
                                      try clear hcz66_1
                                      try clear hcz88_0
                                      try clear hcz88_1
                                      try clear hfz66_0
                                      try clear hfz66_1
                                      try clear hfz88_0
                                      try clear hfz88_1
                                      try clear hx313_0
                                      try clear hx317_0
                                      try clear hx324_0
                                      try clear hx325_0
                                      try clear hx326_0
                                      try clear hx327_0
                                      try clear hx328_0
                                      try clear p2
                                      try clear p3
                                      try clear p31
                                      try clear p313
                                      try clear p317
                                      try clear p324
                                      try clear p325
                                      try clear p326
                                      try clear p327
                                      try clear p328
                                      try clear p6
                                      try clear p64
                                      try clear q3
                                      try clear q31
                                      try clear q313
                                      try clear q317
                                      try clear q324
                                      try clear q325
                                      try clear q326
                                      try clear q327
                                      try clear q328
                                      obtain ⟨x13_6, x313001_6, u313001, rfl, HA, HK6, HO_8, HO_9, HO_313000, HO_313001, BK292, BK293, BK294, BK312, HB⟩ := hrel
                                      cases gk with
                                      | zero => exact absurd HA.out (by simp [spec_ProductSpace.l3])
                                      | succ k6 =>
                                       have H := HA.out
                                       clear HA
                                       simp only [spec_ProductSpace.l3] at H
                                       by_cases c117 : 0 ≤ x10_3
                                       · rw [if_pos c117] at H
                                         have c117b0 := decide_eq_true c117
                                         clear c117
                                         by_cases c118 : x10_3 < (t306.length : Int)
                                         · rw [if_pos c118] at H
                                           have c118b0 := decide_eq_true c118
                                           clear c118
                                           by_cases c119 : x13_6 < ((rd_L1 t306 x10_3).length : Int)
                                           · rw [if_pos c119] at H
                                             have c119b0 := decide_eq_true c119
                                             clear c119
                                             by_cases c120 : 0 ≤ x13_6
                                             · rw [if_pos c120] at H
                                               have c120b0 := decide_eq_true c120
                                               clear c120
                                               by_cases c121 : (rd (rd_L1 t306 x10_3) x13_6) > x10_3
                                               · rw [if_pos c121] at H
                                                 have c121b0 : decide (x10_3 < (rd (rd_L1 t306 x10_3) x13_6)) = true := decide_eq_true c121
                                                 clear c121
                                                 by_cases c122 : x313001_6.length < 8796093022208
                                                 · rw [if_pos c122] at H
                                                   have LMc122 := Aside0.mk c122
                                                   clear c122
                                                   obtain ⟨y337, hy337⟩ : ∃ y_ : List (S41), y_ = (x313001_6 ++ [(⟨wrap64 ((wrap64 (x10_3 * (l1_0.length : Int))) + x11_4), wrap64 ((wrap64 ((rd (rd_L1 t306 x10_3) x13_6) * (l1_0.length : Int))) + x11_4)⟩ : S41)]) := ⟨_, rfl⟩
                                                   replace H : (spec_ProductSpace.l3 k6 (l1_0.length : Int) t306 t309 x10_3 x11_4 (wrap64 (x13_6 + 1)) l0_0 l0_1 l1_0 l1_1 y321 y337) = some (r1, r2, r3) := by first | (rw [hy337]; with_reducible exact H) | (have H2_ := (Option.bind_some _ _).symm.trans H; rw [hy337]; with_reducible exact H2_) | (have H2_ := (Option.bind_some _ _).symm.trans H; with_reducible exact H2_) | with_reducible exact H | (rw [hy337]; exact H) | exact H
                                                   have Ny337 := Aside0.mk hy337
                                                   clear hy337
                                                   have H' := Aside0.mk H
                                                   clear H
                                                   obtain ⟨Ao123, co123, eo123⟩ := Kd.S_slice HO_8.out
                                                   subst eo123
                                                   have p332 : 0 ≤ (x10_3 : Int) := of_decide_eq_true zA
                                                   have q332 : x10_3 < (t306.length : Int) := of_decide_eq_true zA
                                                   obtain ⟨ad332, A332_0, c332_0, e332, hx332_0, hl332_0, hi332_0⟩ := at_L1 (Kd.S_reads' HO_8.out).2.2 x10_3 p332 q332
                                                   cases e332
                                                   obtain ⟨ce332, hce332, hMe332, hcc332⟩ := Kd.S_get HO_8.out [] x10_3 p332 (by first | exact q332 | exact of_decide_eq_true zA | (have e_ := (Kd.S_reads' HO_8.out).1; omega))
                                                   obtain ⟨ve332_0, rfl, ge332_0⟩ := hMe332
                                                   have hv332_0 := hcc332 0 _ rfl
                                                   rw [Nat.add_zero, show ((Kd.slice 3 (Kd.int .i64))).sz = 1 from rfl, Nat.mul_one] at hv332_0
                                                   replace hv332_0 := Option.some.inj (hv332_0.symm.trans hx332_0)
                                                   rw [hv332_0] at ge332_0
                                                   have HL332_0 := zM (show Kd.R (Kd.int .i64) 3 _ _ _ _ (rd_L1 t306 x10_3) from ge332_0)
                                                   clear hv332_0 ge332_0
                                                   clear hcc332 hce332
                                                   have HR332_0 := Aside0.mk hi332_0
                                                   have HC332_0 := Aside0.mk hl332_0
                                                   clear hi332_0 hl332_0
                                                   replace p332 := eq_true p332
                                                   replace q332 := eq_true q332
                                                   have p333 : 0 ≤ (x10_3 : Int) := of_decide_eq_true zA
                                                   have q333 : x10_3 < (t306.length : Int) := of_decide_eq_true zA
                                                   obtain ⟨ad333, A333_0, c333_0, e333, hx333_0, hl333_0, hi333_0⟩ := at_L1 (Kd.S_reads' HO_8.out).2.2 x10_3 p333 q333
                                                   obtain rfl : ad332 = ad333 := (by injection e333)
                                                   obtain ⟨ce333, hce333, hMe333, hcc333⟩ := Kd.S_get HO_8.out [] x10_3 p333 (by first | exact q333 | exact of_decide_eq_true zA | (have e_ := (Kd.S_reads' HO_8.out).1; omega))
                                                   obtain ⟨ve333_0, rfl, ge333_0⟩ := hMe333
                                                   have hv333_0 := hcc333 0 _ rfl
                                                   rw [Nat.add_zero, show ((Kd.slice 3 (Kd.int .i64))).sz = 1 from rfl, Nat.mul_one] at hv333_0
                                                   replace hv333_0 := Option.some.inj (hv333_0.symm.trans hx333_0)
                                                   rw [hv333_0] at ge333_0
                                                   have HL333_0 := zM (show Kd.R (Kd.int .i64) 3 _ _ _ _ (rd_L1 t306 x10_3) from ge333_0)
                                                   clear hv333_0 ge333_0
                                                   clear hcc333 hce333
                                                   have HR333_0 := Aside0.mk hi333_0
                                                   have HC333_0 := Aside0.mk hl333_0
                                                   clear hi333_0 hl333_0
                                                   replace p333 := eq_true p333
                                                   replace q333 := eq_true q333
                                                   have ea_ := Option.some.inj (hx332_0.symm.trans hx333_0)
                                                   injection ea_ with ea_ en_ ec_
                                                   subst ea_
                                                   subst ec_
                                                   clear en_
                                                   have p334 : 0 ≤ (x13_6 : Int) := of_decide_eq_true zA
                                                   have q334 : x13_6 < ((rd_L1 t306 x10_3).length : Int) := of_decide_eq_true zA
                                                   obtain ⟨ad334, e334, hx334_0⟩ := Kd.at_int (by repeat (first | (with_reducible exact HR333_0.out) | (with_reducible refine Kd.C_alloc ?_ _) | (with_reducible refine Kd.C_drewN ?_ _) | (with_reducible refine Kd.C_drew ?_) | exact HR333_0.out)) x13_6 p334 q334
                                                   cases e334
                                                   replace p334 := eq_true p334
                                                   replace q334 := eq_true q334
                                                   (repeat (first | go_skip | go_guarded | go_step | go_upon))
                                                   replace HO_8 := zM (Kd.S_drew HO_8.out)
                                                   replace HO_9 := zM (Kd.S_drew HO_9.out)
                                                   replace HO_313000 := zM (Kd.S_drew HO_313000.out)
                                                   replace HO_313001 := zM (Kd.R_drew HO_313001.out)
                                                   replace HL332_0 := zM (Kd.R_drew HL332_0.out)
                                                   replace HL333_0 := zM (Kd.R_drew HL333_0.out)
                                                   replace BK292 := zM (blk_drew BK292.out)
                                                   replace BK293 := zM (blk_drew BK293.out)
                                                   replace BK294 := zM (blk_drew BK294.out)
                                                   replace BK312 := zM (blk_drew BK312.out)
                                                   replace HR332_0 := zM (Kd.C_drew HR332_0.out)
                                                   replace HR333_0 := zM (Kd.C_drew HR333_0.out)
                                                   replace HB := zM (below_drew1 HB.out)
                                                   have p335 : 0 ≤ (x10_3 : Int) := of_decide_eq_true zA
                                                   have q335 : x10_3 < (t306.length : Int) := of_decide_eq_true zA
                                                   obtain ⟨ad335, A335_0, c335_0, e335, hx335_0, hl335_0, hi335_0⟩ := at_L1 (Kd.S_reads' HO_8.out).2.2 x10_3 p335 q335
                                                   obtain rfl : ad332 = ad335 := (by injection e335)
                                                   obtain ⟨ce335, hce335, hMe335, hcc335⟩ := Kd.S_get HO_8.out [] x10_3 p335 (by first | exact q335 | exact of_decide_eq_true zA | (have e_ := (Kd.S_reads' HO_8.out).1; omega))
                                                   obtain ⟨ve335_0, rfl, ge335_0⟩ := hMe335
                                                   have hv335_0 := hcc335 0 _ rfl
                                                   rw [Nat.add_zero, show ((Kd.slice 3 (Kd.int .i64))).sz = 1 from rfl, Nat.mul_one] at hv335_0
                                                   replace hv335_0 := Option.some.inj (hv335_0.symm.trans hx335_0)
                                                   rw [hv335_0] at ge335_0
                                                   have HL335_0 := zM (show Kd.R (Kd.int .i64) 3 _ _ _ _ (rd_L1 t306 x10_3) from ge335_0)
                                                   clear hv335_0 ge335_0
                                                   clear hcc335 hce335
                                                   have HR335_0 := Aside0.mk hi335_0
                                                   have HC335_0 := Aside0.mk hl335_0
                                                   clear hi335_0 hl335_0
                                                   replace p335 := eq_true p335
                                                   replace q335 := eq_true q335
                                                   have p336 : 0 ≤ (x13_6 : Int) := of_decide_eq_true zA
                                                   have q336 : x13_6 < ((rd_L1 t306 x10_3).length : Int) := of_decide_eq_true zA
                                                   obtain ⟨ad336, e336, hx336_0⟩ := Kd.at_int (by repeat (first | (with_reducible exact HR335_0.out) | (with_reducible refine Kd.C_alloc ?_ _) | (with_reducible refine Kd.C_drewN ?_ _) | (with_reducible refine Kd.C_drew ?_) | exact HR335_0.out)) x13_6 p336 q336
                                                   cases e336
                                                   replace p336 := eq_true p336
                                                   replace q336 := eq_true q336
                                                   refine start_ (n := 23) (S := fun w' => w'.cell? ⟨gb312, 0, none⟩ = some (.slice Ao102 y321.length co102) ∧ w'.cell? ⟨gb312, 1, none⟩ = some (u313001) ∧ w'.cell? (ad332.add (x10_3).toNat) = some (.slice (some ad336) (rd_L1 t306 x10_3).length c335_0) ∧ w'.cell? (ad336.add (x13_6).toNat) = some (.int .i64 (rd (rd_L1 t306 x10_3) x13_6))) (ds := [20, 22]) #[false, false, false, false, false, false, false, false, false, false, false, false, false, false, false, false, false, false, false, false, false, false, false] (by kernel_rfl) rfl rfl ⟨(blk_cell BK312.out 0).trans rfl, (blk_cell BK312.out 1).trans rfl, hx335_0, hx336_0⟩ (fun hHeld => ?_); refine with_tabW spec_ProductSpace.tab23 spec_ProductSpace.bits23 (fun HT_ HW_ => ?_)
                                                   generalize wr.drew = w124 at HO_8 HO_9 HO_313000 HO_313001 HL332_0 HL333_0 BK292 BK293 BK294 BK312 HR332_0 HR333_0 HB HL335_0 HR335_0 hx335_0 hx336_0 hHeld ⊢
                                                   refine zp HT_ 0 166 ?_
                                                   refine zp HT_ 2 168 ?_
                                                   refine zp HT_ 3 169 ?_
                                                   refine zp HT_ 4 170 ?_
                                                   refine zp HT_ 5 171 ?_
                                                   refine zp HT_ 6 172 ?_
                                                   refine zp HT_ 7 173 ?_
                                                   refine zp HT_ 8 174 ?_
                                                   refine zp HT_ 9 175 ?_
                                                   refine zp HT_ 11 177 ?_
                                                   refine zp HT_ 14 180 ?_
                                                   refine zp HT_ 16 182 ?_
                                                   refine zt HT_ HW_ 1 167 hHeld ?_ (hy := by rintro w' ⟨s0, s1, s2, s3⟩; go_simp; with_reducible rfl)
                                                   refine zt HT_ HW_ 10 176 hHeld ?_ (hy := by rintro w' ⟨s0, s1, s2, s3⟩; go_simp; with_reducible rfl)
                                                   refine zp HT_ 12 178 ?_
                                                   refine zt HT_ HW_ 13 179 hHeld ?_ (hy := by rintro w' ⟨s0, s1, s2, s3⟩; go_simp; with_reducible rfl)
                                                   refine zp HT_ 15 181 ?_
                                                   refine zp HT_ 17 183 ?_
                                                   refine zp HT_ 18 184 ?_
                                                   refine one_ (i := 19) (N := some 185) #[true, true, true, true, true, true, true, true, true, true, true, true, true, true, true, true, true, true, true, true, false, false, false] rfl rfl (one_of HT_.out (by kernel_rfl)) (by decide) (fun K hK => ?_)
                                                   refine value_ (w1 := ?_) (v := ?_) (by rfl) rfl ?_ ?_
                                                   rotate_left 2
                                                   · go_simp
                                                     constructor
                                                     · rfl
                                                     · rfl
                                                   refine hK.out _ _ ⟨(blk_cell (blk_alloc BK312.out _) 0).trans rfl, (blk_cell (blk_alloc BK312.out _) 1).trans rfl, (World.cell?_alloc_lt _ _ _ (World.block_lt_of_cell? _ _ (hHeld.2.2.1))).trans (hHeld.2.2.1), (World.cell?_alloc_lt _ _ _ (World.block_lt_of_cell? _ _ (hHeld.2.2.2))).trans (hHeld.2.2.2)⟩ (fun hHeld => ?_)
                                                   clear hK K
                                                   refine zn 185 ?_
                                                   refine last_ (i := 20) (N := some 186) #[true, true, true, true, true, true, true, true, true, true, true, true, true, true, true, true, true, true, true, true, true, false, false] rfl rfl (one_of HT_.out (by kernel_rfl)) (by decide) (fun K hK => ?_)
                                                   refine Kd.R_append_step k41 (w0 := w) w.heap.size (by rfl) (.tmp 167) (.tmp 185) 23 41 (.agg #[(.int .i64 0), (.int .i64 0)]) 16 rfl Try.underlying23 info41 rfl (by decide) (by omega) u313001 x313001_6 (⟨wrap64 ((wrap64 (x10_3 * (l1_0.length : Int))) + x11_4), wrap64 ((wrap64 ((rd (rd_L1 t306 x10_3) x13_6) * (l1_0.length : Int))) + x11_4)⟩ : S41) [.int .i64 (wrap64 ((wrap64 (x10_3 * (l1_0.length : Int))) + x11_4)), .int .i64 (wrap64 ((wrap64 ((rd (rd_L1 t306 x10_3) x13_6) * (l1_0.length : Int))) + x11_4))] (fun _ => True) (fun _ => False) rfl rfl ?aP (fun _ hk => hk.elim) ?aF ?aO ?aB ?aS ?aL ?_
                                                   (case aP => exact k41_mkM _ _ _ (⟨wrap64 ((wrap64 (x10_3 * (l1_0.length : Int))) + x11_4), wrap64 ((wrap64 ((rd (rd_L1 t306 x10_3) x13_6) * (l1_0.length : Int))) + x11_4)⟩ : S41))
                                                   (case aB => exact zB)
                                                   (case aF => exact (fun _ _ => trivial))
                                                   (case aO => exact (zR HO_313001.out))
                                                   (case aS => exact (below_size zB))
                                                   (case aL => have := LMc122.out; omega)
                                                   intro v338 w125 ho hb hg hat
                                                   rw [← Ny337.out] at ho
                                                   replace HO_8 := zM (Kd.S_over' (by (with_reducible repeat (first | apply Kd.S_alloc | apply Kd.S_drewN | apply Kd.S_drew)); exact HO_8.out) (Kd.R_typed (zR HO_313001.out)) (by decide) hg)
                                                   replace HO_9 := zM (Kd.S_over' (by (with_reducible repeat (first | apply Kd.S_alloc | apply Kd.S_drewN | apply Kd.S_drew)); exact HO_9.out) (Kd.R_typed (zR HO_313001.out)) (by decide) hg)
                                                   replace HO_313000 := zM (Kd.S_over' (by (with_reducible repeat (first | apply Kd.S_alloc | apply Kd.S_drewN | apply Kd.S_drew)); exact HO_313000.out) (Kd.R_typed (zR HO_313001.out)) (by decide) hg)
                                                   replace BK292 := zM (blk_grown (g := gb292) (o := .cells #[.slice (some ad313) l0_0.length c0_0, .slice A0_1 l0_1.length c0_1] 27 (0, 0)) (zK BK292.out) hg (Kd.R_ne HO_313001.out BK292.out (by decide)))
                                                   replace BK293 := zM (blk_grown (g := gb293) (o := .cells #[.slice (some ad317) l1_0.length c1_0, .slice A1_1 l1_1.length c1_1] 27 (0, 0)) (zK BK293.out) hg (Kd.R_ne HO_313001.out BK293.out (by decide)))
                                                   replace BK294 := zM (blk_grown (g := gb294) (o := .cells #[.slice none 0 0, .slice none 0 0] 27 (0, 0)) (zK BK294.out) hg (Kd.R_ne HO_313001.out BK294.out (by decide)))
                                                   replace BK312 := zM (blk_grown (g := gb312) (o := .cells #[.slice Ao102 y321.length co102, u313001] 27 (0, 0)) (zK BK312.out) hg (Kd.R_ne HO_313001.out BK312.out (by decide)))
                                                   replace HL332_0 := zM (Kd.R_over' (zR HL332_0.out) (Kd.R_typed (zR HO_313001.out)) (by decide) hg)
                                                   replace HL333_0 := zM (Kd.R_over' (zR HL333_0.out) (Kd.R_typed (zR HO_313001.out)) (by decide) hg)
                                                   replace HL335_0 := zM (Kd.R_over' (zR HL335_0.out) (Kd.R_typed (zR HO_313001.out)) (by decide) hg)
                                                   replace HB := zM (hb)
                                                   have HO339 := zM (ho)
                                                   clear HO_313001
                                                   clear ho hb hg hat
                                                   obtain ⟨Ao126, co126, eo126⟩ := Kd.R_slice HO339.out
                                                   (first | subst eo126 | (injection eo126 with f1_ f2_ f3_; have f4_ := f1_.symm; have f5_ := f3_.symm; clear f1_ f2_ f3_; subst f4_; subst f5_))
                                                   refine hK.out _ _ ?_
                                                   clear hK K
                                                   refine zn 186 ?_
                                                   refine zp HT_ 21 187 ?_
                                                   refine last_ (i := 22) (N := none) #[true, true, true, true, true, true, true, true, true, true, true, true, true, true, true, true, true, true, true, true, true, true, true] rfl rfl (one_of HT_.out (by kernel_rfl)) (by decide) (fun K hK => ?_)
                                                   have hs127 : w125.cell? ⟨gb312, 1, none⟩ = some (u313001) := (blk_cell BK312.out 1).trans rfl
                                                   have hfs127 := blk_frozen BK312.out 1
                                                   have hns127_0 := NB292_312.out
                                                   have hns127_1 := NB293_312.out
                                                   have hns127_2 := NB294_312.out
                                                   have hms127_0 := NB312_292.out
                                                   have hms127_1 := NB312_293.out
                                                   have hms127_2 := NB312_294.out
                                                   refine skip_ (w1 := ?_) (by rfl) rfl ?_ ?_
                                                   rotate_left
                                                   · go_simp
                                                     rfl
                                                   refine hK.out _ _ ?_
                                                   clear hK K
                                                   refine zo HT_ ?_
                                                   (repeat (first | go_skip | go_guarded | go_step | go_upon))
                                                   go_roundg k6
                                                   case measure => have := HJ2.out; have := HJ47.out; have := HK3.out; have := HK4.out; have := HK5.out; have := HK6.out; omega
                                                   case rel => exact ⟨(wrap64 (x13_6 + 1)), (y337), (.slice Ao126 y337.length co126), (by first | rfl | (simp; done) | (simp [*]; done)), H', ⟨by have := HJ2.out; have := HJ47.out; have := HK3.out; have := HK4.out; have := HK5.out; have := HK6.out; omega⟩, ⟨by (with_reducible repeat (first | apply Kd.S_alloc | apply Kd.S_drewN | apply Kd.S_drew)); exact Kd.S_mono (Kd.S_far (p := ⟨gb312, 1, none⟩) (Kd.S_types HO_8.out BK312.out (by decide)) (fun _ hk => hk.2) (.slice Ao126 y337.length co126)) (fun _ hk => ⟨hk.1.1, hk.1.2⟩)⟩, ⟨by (with_reducible repeat (first | apply Kd.S_alloc | apply Kd.S_drewN | apply Kd.S_drew)); exact Kd.S_mono (Kd.S_far (p := ⟨gb312, 1, none⟩) (Kd.S_types HO_9.out BK312.out (by decide)) (fun _ hk => hk.2) (.slice Ao126 y337.length co126)) (fun _ hk => ⟨hk.1.1, hk.1.2⟩)⟩, ⟨by (with_reducible repeat (first | apply Kd.S_alloc | apply Kd.S_drewN | apply Kd.S_drew)); exact Kd.S_mono (Kd.S_far (p := ⟨gb312, 1, none⟩) (Kd.S_types HO_313000.out BK312.out (by decide)) (fun _ hk => hk.2) (.slice Ao126 y337.length co126)) (fun _ hk => ⟨hk.1.1, hk.1.2⟩)⟩, ⟨by (with_reducible repeat (first | apply Kd.R_alloc | apply Kd.R_drewN | apply Kd.R_drew)); exact Kd.R_mono (Kd.R_far (p := ⟨gb312, 1, none⟩) (Kd.R_types HO339.out BK312.out (by decide)) (fun _ hk => hk.2) (.slice Ao126 y337.length co126)) (fun _ hk => trivial)⟩, ⟨by (with_reducible repeat (first | refine blk_drewN ?_ _ | refine blk_drew ?_ | refine blk_alloc ?_ _)); refine blk_far ?_ NB292_312.out _; (with_reducible repeat (first | refine blk_drewN ?_ _ | refine blk_drew ?_ | refine blk_alloc ?_ _)); exact BK292.out⟩, ⟨by (with_reducible repeat (first | refine blk_drewN ?_ _ | refine blk_drew ?_ | refine blk_alloc ?_ _)); refine blk_far ?_ NB293_312.out _; (with_reducible repeat (first | refine blk_drewN ?_ _ | refine blk_drew ?_ | refine blk_alloc ?_ _)); exact BK293.out⟩, ⟨by (with_reducible repeat (first | refine blk_drewN ?_ _ | refine blk_drew ?_ | refine blk_alloc ?_ _)); refine blk_far ?_ NB294_312.out _; (with_reducible repeat (first | refine blk_drewN ?_ _ | refine blk_drew ?_ | refine blk_alloc ?_ _)); exact BK294.out⟩, ⟨by (with_reducible repeat (first | refine blk_drewN ?_ _ | refine blk_drew ?_ | refine blk_alloc ?_ _)); refine blk_put (cs := #[.slice Ao102 y321.length co102, u313001]) ?_ 1 _ rfl; (with_reducible repeat (first | refine blk_drewN ?_ _ | refine blk_drew ?_ | refine blk_alloc ?_ _)); exact BK312.out⟩, ⟨zB⟩⟩
                                                 · rw [if_neg c122] at H
                                                   exact absurd H (by simp)
                                               · rw [if_neg c121] at H
                                                 have c121b0 : decide (x10_3 < (rd (rd_L1 t306 x10_3) x13_6)) = false := decide_eq_false c121
                                                 clear c121
                                                 have H' := Aside0.mk H
                                                 clear H
                                                 obtain ⟨Ao128, co128, eo128⟩ := Kd.S_slice HO_8.out
                                                 subst eo128
                                                 have p332 : 0 ≤ (x10_3 : Int) := of_decide_eq_true zA
                                                 have q332 : x10_3 < (t306.length : Int) := of_decide_eq_true zA
                                                 obtain ⟨ad332, A332_0, c332_0, e332, hx332_0, hl332_0, hi332_0⟩ := at_L1 (Kd.S_reads' HO_8.out).2.2 x10_3 p332 q332
                                                 cases e332
                                                 obtain ⟨ce332, hce332, hMe332, hcc332⟩ := Kd.S_get HO_8.out [] x10_3 p332 (by first | exact q332 | exact of_decide_eq_true zA | (have e_ := (Kd.S_reads' HO_8.out).1; omega))
                                                 obtain ⟨ve332_0, rfl, ge332_0⟩ := hMe332
                                                 have hv332_0 := hcc332 0 _ rfl
                                                 rw [Nat.add_zero, show ((Kd.slice 3 (Kd.int .i64))).sz = 1 from rfl, Nat.mul_one] at hv332_0
                                                 replace hv332_0 := Option.some.inj (hv332_0.symm.trans hx332_0)
                                                 rw [hv332_0] at ge332_0
                                                 have HL332_0 := zM (show Kd.R (Kd.int .i64) 3 _ _ _ _ (rd_L1 t306 x10_3) from ge332_0)
                                                 clear hv332_0 ge332_0
                                                 clear hcc332 hce332
                                                 have HR332_0 := Aside0.mk hi332_0
                                                 have HC332_0 := Aside0.mk hl332_0
                                                 clear hi332_0 hl332_0
                                                 replace p332 := eq_true p332
                                                 replace q332 := eq_true q332
                                                 have p333 : 0 ≤ (x10_3 : Int) := of_decide_eq_true zA
                                                 have q333 : x10_3 < (t306.length : Int) := of_decide_eq_true zA
                                                 obtain ⟨ad333, A333_0, c333_0, e333, hx333_0, hl333_0, hi333_0⟩ := at_L1 (Kd.S_reads' HO_8.out).2.2 x10_3 p333 q333
                                                 obtain rfl : ad332 = ad333 := (by injection e333)
                                                 obtain ⟨ce333, hce333, hMe333, hcc333⟩ := Kd.S_get HO_8.out [] x10_3 p333 (by first | exact q333 | exact of_decide_eq_true zA | (have e_ := (Kd.S_reads' HO_8.out).1; omega))
                                                 obtain ⟨ve333_0, rfl, ge333_0⟩ := hMe333
                                                 have hv333_0 := hcc333 0 _ rfl
                                                 rw [Nat.add_zero, show ((Kd.slice 3 (Kd.int .i64))).sz = 1 from rfl, Nat.mul_one] at hv333_0
                                                 replace hv333_0 := Option.some.inj (hv333_0.symm.trans hx333_0)
                                                 rw [hv333_0] at ge333_0
                                                 have HL333_0 := zM (show Kd.R (Kd.int .i64) 3 _ _ _ _ (rd_L1 t306 x10_3) from ge333_0)
                                                 clear hv333_0 ge333_0
                                                 clear hcc333 hce333
                                                 have HR333_0 := Aside0.mk hi333_0
                                                 have HC333_0 := Aside0.mk hl333_0
                                                 clear hi333_0 hl333_0
                                                 replace p333 := eq_true p333
                                                 replace q333 := eq_true q333
                                                 have ea_ := Option.some.inj (hx332_0.symm.trans hx333_0)
                                                 injection ea_ with ea_ en_ ec_
                                                 subst ea_
                                                 subst ec_
                                                 clear en_
                                                 have p334 : 0 ≤ (x13_6 : Int) := of_decide_eq_true zA
                                                 have q334 : x13_6 < ((rd_L1 t306 x10_3).length : Int) := of_decide_eq_true zA
                                                 obtain ⟨ad334, e334, hx334_0⟩ := Kd.at_int (by repeat (first | (with_reducible exact HR333_0.out) | (with_reducible refine Kd.C_alloc ?_ _) | (with_reducible refine Kd.C_drewN ?_ _) | (with_reducible refine Kd.C_drew ?_) | exact HR333_0.out)) x13_6 p334 q334
                                                 cases e334
                                                 replace p334 := eq_true p334
                                                 replace q334 := eq_true q334
                                                 (repeat (first | go_skip | go_guarded | go_step | go_upon))
                                                 go_roundg k6
                                                 case measure => have := HJ2.out; have := HJ47.out; have := HK3.out; have := HK4.out; have := HK5.out; have := HK6.out; omega
                                                 case rel => exact ⟨(wrap64 (x13_6 + 1)), (x313001_6), (u313001), (by first | rfl | (simp; done) | (simp [*]; done)), H', ⟨by have := HJ2.out; have := HJ47.out; have := HK3.out; have := HK4.out; have := HK5.out; have := HK6.out; omega⟩, ⟨by (with_reducible repeat (first | apply Kd.S_alloc | apply Kd.S_drewN | apply Kd.S_drew)); exact HO_8.out⟩, ⟨by (with_reducible repeat (first | apply Kd.S_alloc | apply Kd.S_drewN | apply Kd.S_drew)); exact HO_9.out⟩, ⟨by (with_reducible repeat (first | apply Kd.S_alloc | apply Kd.S_drewN | apply Kd.S_drew)); exact HO_313000.out⟩, ⟨zR HO_313001.out⟩, ⟨zK BK292.out⟩, ⟨zK BK293.out⟩, ⟨zK BK294.out⟩, ⟨zK BK312.out⟩, ⟨zB⟩⟩
                                             · rw [if_neg c120] at H
                                               exact absurd H (by simp)
                                           · rw [if_neg c119] at H
                                             have c119b0 : decide (x13_6 < ((rd_L1 t306 x10_3).length : Int)) = false := decide_eq_false c119
                                             clear c119
                                             have H' := Aside0.mk H
                                             clear H
                                             obtain ⟨Ao129, co129, eo129⟩ := Kd.S_slice HO_8.out
                                             subst eo129
                                             have p332 : 0 ≤ (x10_3 : Int) := of_decide_eq_true zA
                                             have q332 : x10_3 < (t306.length : Int) := of_decide_eq_true zA
                                             obtain ⟨ad332, A332_0, c332_0, e332, hx332_0, hl332_0, hi332_0⟩ := at_L1 (Kd.S_reads' HO_8.out).2.2 x10_3 p332 q332
                                             cases e332
                                             obtain ⟨ce332, hce332, hMe332, hcc332⟩ := Kd.S_get HO_8.out [] x10_3 p332 (by first | exact q332 | exact of_decide_eq_true zA | (have e_ := (Kd.S_reads' HO_8.out).1; omega))
                                             obtain ⟨ve332_0, rfl, ge332_0⟩ := hMe332
                                             have hv332_0 := hcc332 0 _ rfl
                                             rw [Nat.add_zero, show ((Kd.slice 3 (Kd.int .i64))).sz = 1 from rfl, Nat.mul_one] at hv332_0
                                             replace hv332_0 := Option.some.inj (hv332_0.symm.trans hx332_0)
                                             rw [hv332_0] at ge332_0
                                             have HL332_0 := zM (show Kd.R (Kd.int .i64) 3 _ _ _ _ (rd_L1 t306 x10_3) from ge332_0)
                                             clear hv332_0 ge332_0
                                             clear hcc332 hce332
                                             have HR332_0 := Aside0.mk hi332_0
                                             have HC332_0 := Aside0.mk hl332_0
                                             clear hi332_0 hl332_0
                                             replace p332 := eq_true p332
                                             replace q332 := eq_true q332
                                             (repeat (first | go_skip | go_guarded | go_step | go_upon))
                                             go_roundg k6
                                             case measure => have := HJ2.out; have := HJ47.out; have := HK3.out; have := HK4.out; have := HK5.out; have := HK6.out; omega
                                             case rel => exact ⟨(wrap64 (x11_4 + 1)), (y321), (x313001_6), (.slice Ao102 y321.length co102), (u313001), (by first | rfl | (simp; done) | (simp [*]; done)), H', ⟨by have := HJ2.out; have := HJ47.out; have := HK3.out; have := HK4.out; have := HK5.out; have := HK6.out; omega⟩, ⟨by (with_reducible repeat (first | apply Kd.S_alloc | apply Kd.S_drewN | apply Kd.S_drew)); exact HO_8.out⟩, ⟨by (with_reducible repeat (first | apply Kd.S_alloc | apply Kd.S_drewN | apply Kd.S_drew)); exact HO_9.out⟩, ⟨by (with_reducible repeat (first | apply Kd.S_alloc | apply Kd.S_drewN | apply Kd.S_drew)); exact HO_313000.out⟩, ⟨zR HO_313001.out⟩, ⟨zK BK292.out⟩, ⟨zK BK293.out⟩, ⟨zK BK294.out⟩, ⟨zK BK312.out⟩, ⟨zB⟩⟩
                                         · rw [if_neg c118] at H
                                           exact absurd H (by simp)
                                       · rw [if_neg c117] at H
                                         exact absurd H (by simp)
                                 · rw [if_neg c105] at H
                                   exact absurd H (by simp)
                               · rw [if_neg c104] at H
                                 exact absurd H (by simp)
                           · rw [if_neg c96] at H
                             exact absurd H (by simp)
                         · rw [if_neg c95] at H
                           exact absurd H (by simp)
                       · rw [if_neg c94] at H
                         exact absurd H (by simp)
                     · rw [if_neg c93] at H
                       exact absurd H (by simp)
                   · rw [if_neg c91] at H
                     exact absurd H (by simp)
                 · rw [if_neg c90] at H
                   exact absurd H (by simp)
               · rw [if_neg c89] at H
                 have c89b0 : decide (x11_4 < (l1_0.length : Int)) = false := decide_eq_false c89
                 clear c89
                 have H' := Aside0.mk H
                 clear H
                 (repeat (first | go_skip | go_guarded | go_step | go_upon))
                 go_roundg k4
                 case measure => have := HJ2.out; have := HJ47.out; have := HK3.out; have := HK4.out; omega
                 case rel => exact ⟨(wrap64 (x10_3 + 1)), (x313000_4), (x313001_4), (u313000), (u313001), (by first | rfl | (simp; done) | (simp [*]; done)), H', ⟨by have := HJ2.out; have := HJ47.out; have := HK3.out; have := HK4.out; omega⟩, ⟨by (with_reducible repeat (first | apply Kd.S_alloc | apply Kd.S_drewN | apply Kd.S_drew)); exact HO_8.out⟩, ⟨by (with_reducible repeat (first | apply Kd.S_alloc | apply Kd.S_drewN | apply Kd.S_drew)); exact HO_9.out⟩, ⟨by (with_reducible repeat (first | apply Kd.S_alloc | apply Kd.S_drewN | apply Kd.S_drew)); exact HO_313000.out⟩, ⟨zR HO_313001.out⟩, ⟨zK BK292.out⟩, ⟨zK BK293.out⟩, ⟨zK BK294.out⟩, ⟨zK BK312.out⟩, ⟨zB⟩⟩
           · rw [if_neg c84] at H
             have c84b0 : decide (x10_3 < (l0_0.length : Int)) = false := decide_eq_false c84
             clear c84
             simp only [Option.some.injEq, Prod.mk.injEq] at H
             obtain ⟨rfl, rfl, rfl⟩ := H
             have hnb130 := NB292_293.out
             have hnc130 := NB293_292.out
             have hnb131 := NB292_294.out
             have hnc131 := NB294_292.out
             have hnb132 := NB292_312.out
             have hnc132 := NB312_292.out
             have hcz133_0 := zy BK292 0
             have hcz133_1 := zy BK292 1
             have hfz133_0 := blk_frozen BK292.out 0
             have hfz133_1 := blk_frozen BK292.out 1
             have hnb134 := NB312_293.out
             have hnc134 := NB293_312.out
             have hnb135 := NB312_294.out
             have hnc135 := NB294_312.out
             have hcz136_0 := zy BK312 0
             have hcz136_1 := zy BK312 1
             have hfz136_0 := blk_frozen BK312.out 0
             have hfz136_1 := blk_frozen BK312.out 1
             obtain ⟨Ao137, co137, eo137⟩ := Kd.S_slice HO_313000.out
             subst eo137
             have hnb138 := NB294_293.out
             have hnc138 := NB293_294.out
             have hcz139_0 := zy BK294 0
             have hcz139_1 := zy BK294 1
             have hfz139_0 := blk_frozen BK294.out 0
             have hfz139_1 := blk_frozen BK294.out 1
             obtain ⟨Ao140, co140, eo140⟩ := Kd.R_slice HO_313001.out
             subst eo140
             (repeat (first | go_skip | go_guarded | go_step | go_upon))
             refine bodyPost_ret (results_ct rfl _ _ gb294 27 #[.slice Ao137 x313000_3.length co137, .slice Ao140 x313001_3.length co140] (0, 0) _ rfl (by (with_reducible repeat (first | refine blk_drewN ?_ _ | refine blk_drew ?_ | refine blk_alloc ?_ _)); refine blk_put (cs := #[.slice Ao137 x313000_3.length co137, .slice none 0 0]) ?_ 1 _ rfl; (with_reducible repeat (first | refine blk_drewN ?_ _ | refine blk_drew ?_ | refine blk_alloc ?_ _)); refine blk_put (cs := #[.slice none 0 0, .slice none 0 0]) ?_ 0 _ rfl; (with_reducible repeat (first | refine blk_drewN ?_ _ | refine blk_drew ?_ | refine blk_alloc ?_ _)); exact BK294.out) Try.underlying27 rfl (by kernel_rfl)) rfl ?_
             exact ⟨_, _, by first | rfl | (simp [errW_none, errW_some] <;> rfl) | (simp [*, errW_none, errW_some] <;> rfl), by (with_reducible repeat (first | apply Kd.S_alloc | apply Kd.S_drewN | apply Kd.S_drew)); exact Kd.S_mono (Kd.S_far (p := ⟨gb294, 1, none⟩) (Kd.S_far (p := ⟨gb294, 0, none⟩) (Kd.S_types HO_313000.out BK294.out (by decide)) (fun _ hk => hk.2) (.slice Ao137 x313000_3.length co137)) (fun _ hk => hk.2) (.slice Ao140 x313001_3.length co140)) (fun _ hk => trivial), by (with_reducible repeat (first | apply Kd.R_alloc | apply Kd.R_drewN | apply Kd.R_drew)); exact Kd.R_mono (Kd.R_far (p := ⟨gb294, 1, none⟩) (Kd.R_far (p := ⟨gb294, 0, none⟩) (Kd.R_types HO_313001.out BK294.out (by decide)) (fun _ hk => hk.2) (.slice Ao137 x313000_3.length co137)) (fun _ hk => hk.2) (.slice Ao140 x313001_3.length co140)) (fun _ hk => trivial), zB⟩

end Go.Proofs.Ytihfpngolcjkiaa.P
