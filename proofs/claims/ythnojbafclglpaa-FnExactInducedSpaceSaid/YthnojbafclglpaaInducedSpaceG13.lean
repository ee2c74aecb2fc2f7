-- Written by a program of this session (the kit's print, turned: wip/print/patch.py) out of the translation. Not trusted: Lean checks it.
import Derived.Test.YthnojbafclglpaaInducedSpaceG5
import Derived.Test.YthnojbafclglpaaInducedSpaceG12
namespace Go.Proofs.Ythnojbafclglpaa.P
open Go.RowKit Go.Proofs.YthnojbafclglpaaW.PrintWords Go.Proofs.YthnojbafclglpaaW.PrintLast Go.Proofs.YthnojbafclglpaaW.PrintMore
attribute [local go_sem] max2_int min2_int max_two min_two max_three min_three max_four min_four   -- for this text's walks alone
set_option linter.unusedVariables false
set_option linter.unusedSimpArgs false

/-! ### impl_InducedSpace: function 16 -/
mutual
def impl_InducedSpace.j0 : Nat → List Int → Bool → List (List Int) → List (S64) → Option ((List (List Int)) × (List (S64)) × Bool)
 | 0, _, _, _, _ => none
 | k + 1, x1, x25, x295000, x295001 => if x25 = true then (some (([] : List (List Int)), ([] : List (S64)), false)) else (impl_InducedSpace.l0 k x1 x1 (x1.length : Int) 0 x295000 x295001 ([] : List (List Int)))
def impl_InducedSpace.l0 : Nat → List Int → List Int → Int → Int → List (List Int) → List (S64) → List (List Int) → Option ((List (List Int)) × (List (S64)) × Bool)
 | 0, _, _, _, _, _, _, _ => none
 | k + 1, x1, x28, x29, x30, x295000, x295001, x299000 => if x30 < x29 then (if 0 ≤ x30 then (if x30 < (x28.length : Int) then (if 0 ≤ (rd x28 x30) then (if (rd x28 x30) < (x295000.length : Int) then ((slices_Clone_int_int.f (rd_L4 x295000 (rd x28 x30))).bind fun t301 => (if x299000.length < 5864062014805 then (impl_InducedSpace.l0 k x1 x28 x29 (wrap64 (x30 + 1)) x295000 x295001 (x299000 ++ [t301])) else (none))) else (none)) else (none)) else (none)) else (none)) else (impl_InducedSpace.l1 k x1 x295001 (x295001.length : Int) 0 x299000 ([] : List (S64)))
def impl_InducedSpace.l1 : Nat → List Int → List (S64) → Int → Int → List (List Int) → List (S64) → Option ((List (List Int)) × (List (S64)) × Bool)
 | 0, _, _, _, _, _, _ => none
 | k + 1, x1, x47, x48, x49, x299000, x299001 => if x49 < x48 then (if 0 ≤ x49 then (if x49 < (x47.length : Int) then ((slices_BinarySearch_int_int.f k x1 ((rd_T64 x47 x49).f0)).bind fun bt309 => ((slices_BinarySearch_int_int.f k x1 ((rd_T64 x47 x49).f1)).bind fun bt311 => (if bt309.2 = true then (if bt311.2 = true then (if x299001.length < 8796093022208 then (impl_InducedSpace.l1 k x1 x47 x48 (wrap64 (x49 + 1)) x299000 (x299001 ++ [(⟨bt309.1, bt311.1⟩ : S64)])) else (none)) else (impl_InducedSpace.l1 k x1 x47 x48 (wrap64 (x49 + 1)) x299000 x299001)) else (impl_InducedSpace.l1 k x1 x47 x48 (wrap64 (x49 + 1)) x299000 x299001)))) else (none)) else (none)) else (some (x299000, x299001, true))
end
def impl_InducedSpace.f (k : Nat) (l0_0 : List (List Int)) (l0_1 : List (S64)) (l1 : List Int) : Option ((List (List Int)) × (List (S64)) × Bool) := (impl_IsSpace.f k l0_0 l0_1).bind fun t296 => (if t296 = true then ((impl_isRising.f k l1 (l0_0.length : Int)).bind fun t297 => (impl_InducedSpace.j0 k l1 (!t297) l0_0 l0_1)) else (impl_InducedSpace.j0 k l1 true l0_0 l0_1))
def impl_InducedSpace.T7 : Bool × List (List Nat × List Nat) := (true, [([], []), ([0], [0]), ([], []), ([2], [2]), ([], []), ([3, 4], [3, 4]), ([5], [5]), ([6], [6]), ([7], [7]), ([1, 8, 7], [1, 8]), ([0, 1, 2, 3, 4, 5, 6, 7, 8, 9], []), ([10, 9, 9, 0, 1, 2, 3, 4, 5, 6, 7, 8, 9], [9, 10])])
def impl_InducedSpace.B7 : List Nat := [0, 1, 0, 4, 0, 28, 60, 124, 252, 511, 1023, 2047]
theorem impl_InducedSpace.tab7 : rtab .any (opsOf Try.f16 7) = impl_InducedSpace.T7 := by kernel_rfl
theorem impl_InducedSpace.bits7 : waitsOk impl_InducedSpace.T7.2 impl_InducedSpace.B7 = true := by kernel_rfl
set_option maxHeartbeats 8000000 in
set_option maxRecDepth 100000 in
theorem impl_InducedSpace.calls (k : Nat) (A0_0 : Option Addr) (c0_0 : Nat) (l0_0 : List (List Int)) (A0_1 : Option Addr) (c0_1 : Nat) (l0_1 : List (S64)) (A1 : Option Addr) (c1 : Nat) (l1 : List Int) (r1 : List (List Int)) (r2 : List (S64)) (r3 : Bool) (w : World) (hr0_0 : Kd.C (Kd.slice 3 (Kd.int .i64)) w A0_0 l0_0.length l0_0) (hc0_0 : l0_0.length ≤ c0_0) (hr0_1 : Kd.C k64 w A0_1 l0_1.length l0_1) (hc0_1 : l0_1.length ≤ c0_1) (hr1 : Kd.C (Kd.int .i64) w A1 l1.length l1) (hc1 : l1.length ≤ c1) (h : impl_InducedSpace.f k l0_0 l0_1 l1 = some (r1, r2, r3)) :
 Calls Try.prog 16 #[.agg #[.slice A0_0 l0_0.length c0_0, .slice A0_1 l0_1.length c0_1], .slice A1 l1.length c1] w fun e w' => ∃ v0_ v1_ : Value, e = .returned (.tuple #[.agg #[v0_, v1_], .bool r3]) ∧ Kd.S (Kd.slice 3 (Kd.int .i64)) 26 w' w.heap.size (fun _ => True) v0_ r1 ∧ Kd.R k64 64 w' w.heap.size (fun _ => True) v1_ r2 ∧ Below w.heap.size w w' := by
 have hu28 := Try.underlying28
 have hu64 := Try.underlying64
 have HR0_0 := Aside0.mk hr0_0
 have HC0_0 := Aside0.mk hc0_0
 clear hr0_0 hc0_0
 have HR0_1 := Aside0.mk hr0_1
 have HC0_1 := Aside0.mk hc0_1
 clear hr0_1 hc0_1
 have HR1 := Aside0.mk hr1
 have HC1 := Aside0.mk hc1
 clear hr1 hc1
 have HB := zM (Below.refl w.heap.size w)
 have H : ((impl_IsSpace.f k l0_0 l0_1).bind fun t296 => (if t296 = true then ((impl_isRising.f k l1 (l0_0.length : Int)).bind fun t297 => (impl_InducedSpace.j0 k l1 (!t297) l0_0 l0_1)) else (impl_InducedSpace.j0 k l1 true l0_0 l0_1))) = some (r1, r2, r3) := h
 clear h
 have HC3 := Aside0.mk H
 clear H
 go_enter Try.func16, Try.ntmps16
 go_upto_region 1 with (first | ((with_reducible refine gate_dst (N := 2) rfl ?_); (try (refine gate_guard (by rfl) ?_; dsimp only)); refine zb (w := w) 2 #[.slice A0_0 l0_0.length c0_0, .slice A0_1 l0_1.length c0_1] 28 zB ?_; clear HB; intro gb294 w4 HB BK294 GW294; have GE294 := GW294) | ((with_reducible refine gate_dst (N := 4) rfl ?_); (try (refine gate_guard (by rfl) ?_; dsimp only)); refine ze 4 #[.slice none 0 0, .slice none 0 0] 28 ?_; intro gb295 hg w5 hbox hb; have BK295 := zM (hbox); have GW295 := zM ((by rw [hg]; exact (below_size zB) : w.heap.size ≤ gb295)); have GE295 := zM ((by rw [hg]; exact (below_size zB) : w.heap.size ≤ gb295)); replace HB := zM (below_step zB hb); have NB294_295 := zM ((by rw [hg]; exact Nat.ne_of_lt (blk_lt (g := gb294) (o := .cells #[.slice A0_0 l0_0.length c0_0, .slice A0_1 l0_1.length c0_1] 28 (0, 0)) (zK BK294.out)) : gb294 ≠ gb295)); have NB295_294 := zM ((by rw [hg]; exact Nat.ne_of_gt (blk_lt (g := gb294) (o := .cells #[.slice A0_0 l0_0.length c0_0, .slice A0_1 l0_1.length c0_1] 28 (0, 0)) (zK BK294.out)) : gb295 ≠ gb294)); replace BK294 := zM (blk_below (g := gb294) (o := .cells #[.slice A0_0 l0_0.length c0_0, .slice A0_1 l0_1.length c0_1] 28 (0, 0)) (zK BK294.out) hb); clear hb hbox hg))
 (try simp only [Act.put, List.setIfInBounds_toArray, List.set_cons_zero, List.set_cons_succ])
 go_cut [25] (fun v25 wc => ∃ (kq : Nat) (x25_2 : Bool), v25 = .bool x25_2 ∧ Aside0 (impl_InducedSpace.j0 kq l1 x25_2 l0_0 l0_1 = some (r1, r2, r3)) ∧ Aside0 (kq ≤ k) ∧ Aside0 (wc.heap[gb294]? = some (.cells #[(.slice A0_0 l0_0.length c0_0), (.slice A0_1 l0_1.length c0_1)] 28 (0, 0))) ∧ Aside0 (wc.heap[gb295]? = some (.cells #[(.slice none 0 0), (.slice none 0 0)] 28 (0, 0))) ∧ Aside0 (Below w.heap.size w wc))
 case first =>
  have H := HC3.out
  clear HC3
  replace H := Option.bind_eq_some_iff.mp H
  obtain ⟨t296, A60, H⟩ := H
  replace H : (if t296 = true then ((impl_isRising.f k l1 (l0_0.length : Int)).bind fun t297 => (impl_InducedSpace.j0 k l1 (!t297) l0_0 l0_1)) else (impl_InducedSpace.j0 k l1 true l0_0 l0_1)) = some (r1, r2, r3) := H
  have A6 := Aside0.mk A60
  clear A60
  by_cases c7 : t296 = true
  · subst c7
    have H1 : ((impl_isRising.f k l1 (l0_0.length : Int)).bind fun t297 => (impl_InducedSpace.j0 k l1 (!t297) l0_0 l0_1)) = some (r1, r2, r3) := by rw [if_pos rfl] at H; exact H
    clear H
    have H := H1
    clear H1
    replace H := Option.bind_eq_some_iff.mp H
    obtain ⟨t297, A80, H⟩ := H
    replace H : (impl_InducedSpace.j0 k l1 (!t297) l0_0 l0_1) = some (r1, r2, r3) := H
    have A8 := Aside0.mk A80
    clear A80
    have H' := Aside0.mk H
    clear H
    have hnb9 := NB294_295.out
    have hnc9 := NB295_294.out
    have hcz10_0 := zy BK294 0
    have hcz10_1 := zy BK294 1
    have hfz10_0 := blk_frozen BK294.out 0
    have hfz10_1 := blk_frozen BK294.out 1
    go_wp2_with (first | ((with_reducible refine gate_callee (f := 58) rfl ?_); refine zc 16 Try.func58 #[.agg #[.slice A0_0 l0_0.length c0_0, .slice A0_1 l0_1.length c0_1]] ?_; (with_reducible refine (impl_IsSpace.calls k _ _ l0_0 _ _ l0_1 true _ ?side1 ?side2 ?side3 ?side4 A6.out).mono ?_); (case side1 => exact zC (Kd.C_below HR0_0.out HB.out)); (case side2 => exact HC0_0.out); (case side3 => exact zC (Kd.C_below HR0_1.out HB.out)); (case side4 => exact HC0_1.out); rintro e w11 ⟨rfl, hb⟩; refine ⟨_, rfl, ?_⟩; replace BK294 := zM (blk_below (g := gb294) (o := .cells #[.slice A0_0 l0_0.length c0_0, .slice A0_1 l0_1.length c0_1] 28 (0, 0)) (zK BK294.out) hb); replace BK295 := zM (blk_below (g := gb295) (o := .cells #[.slice none 0 0, .slice none 0 0] 28 (0, 0)) (zK BK295.out) hb); replace HB := zM (below_step zB hb); (try clear hb); (try clear hb2); (try clear hk); (try clear hi); have hcz12_0 := zy BK294 0; have hcz12_1 := zy BK294 1; have hfz12_0 := blk_frozen BK294.out 0; have hfz12_1 := blk_frozen BK294.out 1) | (go_at_call 71; (with_reducible refine (impl_isRising.calls k _ _ l1 (l0_0.length : Int) t297 _ ?side1 ?side2 A8.out).mono ?_); (case side1 => exact zC (Kd.C_below HR1.out HB.out)); (case side2 => exact HC1.out); rintro e w' ⟨rfl, ⟨nd, rfl⟩⟩))
    go_meet
    case rel => exact ⟨_, (!t297), (by first | rfl | (simp; done) | (simp [*]; done)), H', ⟨by first | omega | exact Nat.le_refl _⟩, ⟨zK BK294.out⟩, ⟨zK BK295.out⟩, ⟨zB⟩⟩
  · replace c7 := Bool.eq_false_iff.mpr c7
    subst c7
    have H1 : (impl_InducedSpace.j0 k l1 true l0_0 l0_1) = some (r1, r2, r3) := by rw [if_neg (show ¬ (false = true) by decide)] at H; exact H
    clear H
    have H := H1
    clear H1
    have H' := Aside0.mk H
    clear H
    have hnb13 := NB294_295.out
    have hnc13 := NB295_294.out
    have hcz14_0 := zy BK294 0
    have hcz14_1 := zy BK294 1
    have hfz14_0 := blk_frozen BK294.out 0
    have hfz14_1 := blk_frozen BK294.out 1
    go_wp2_with (first | ((with_reducible refine gate_callee (f := 58) rfl ?_); refine zc 16 Try.func58 #[.agg #[.slice A0_0 l0_0.length c0_0, .slice A0_1 l0_1.length c0_1]] ?_; (with_reducible refine (impl_IsSpace.calls k _ _ l0_0 _ _ l0_1 false _ ?side1 ?side2 ?side3 ?side4 A6.out).mono ?_); (case side1 => exact zC (Kd.C_below HR0_0.out HB.out)); (case side2 => exact HC0_0.out); (case side3 => exact zC (Kd.C_below HR0_1.out HB.out)); (case side4 => exact HC0_1.out); rintro e w15 ⟨rfl, hb⟩; refine ⟨_, rfl, ?_⟩; replace BK294 := zM (blk_below (g := gb294) (o := .cells #[.slice A0_0 l0_0.length c0_0, .slice A0_1 l0_1.length c0_1] 28 (0, 0)) (zK BK294.out) hb); replace BK295 := zM (blk_below (g := gb295) (o := .cells #[.slice none 0 0, .slice none 0 0] 28 (0, 0)) (zK BK295.out) hb); replace HB := zM (below_step zB hb); (try clear hb); (try clear hb2); (try clear hk); (try clear hi)))
    go_meet
    case rel => exact ⟨_, (true), (by first | rfl | (simp; done) | (simp [*]; done)), H', ⟨by first | omega | exact Nat.le_refl _⟩, ⟨zK BK294.out⟩, ⟨zK BK295.out⟩, ⟨zB⟩⟩
 case rest =>
  clear HC3
  try clear c1
  try clear p2
  try clear c5
  try clear c7
  try clear c9
  try clear c13
  try clear hcz10_0
  try clear hcz10_1
  try clear hcz12_0
  try clear hcz12_1
  try clear hcz14_0
  try clear hcz14_1
  try clear hfz10_0
  try clear hfz10_1
  try clear hfz12_0
  try clear hfz12_1
  try clear hfz14_0
  try clear hfz14_1
  obtain ⟨kq, x25_2, rfl, HA, HJ2, BK294, BK295, HB⟩ := hcut
  cases kq with
  | zero => exact absurd HA.out (by simp [impl_InducedSpace.j0])
  | succ kj2 =>
   have H := HA.out
   clear HA
   simp only [impl_InducedSpace.j0] at H
   by_cases c16 : x25_2 = true
   · subst c16
     have H1 : (some (([] : List (List Int)), ([] : List (S64)), false)) = some (r1, r2, r3) := by rw [if_pos rfl] at H; exact H
     clear H
     have H := H1
     clear H1
     simp only [Option.some.injEq, Prod.mk.injEq] at H
     obtain ⟨rfl, rfl, rfl⟩ := H
     have hnb17 := NB295_294.out
     have hnc17 := NB294_295.out
     have hcz18_0 := zy BK295 0
     have hcz18_1 := zy BK295 1
     have hfz18_0 := blk_frozen BK295.out 0
     have hfz18_1 := blk_frozen BK295.out 1
     go_wp2
     refine bodyPost_ret (results_ct rfl _ _ gb295 28 #[.slice none 0 0, .slice none 0 0] (0, 0) _ rfl (by (with_reducible repeat (first | refine blk_drewN ?_ _ | refine blk_drew ?_ | refine blk_alloc ?_ _)); refine blk_put (cs := #[.slice none 0 0, .slice none 0 0]) ?_ 1 _ rfl; (with_reducible repeat (first | refine blk_drewN ?_ _ | refine blk_drew ?_ | refine blk_alloc ?_ _)); refine blk_put (cs := #[.slice none 0 0, .slice none 0 0]) ?_ 0 _ rfl; (with_reducible repeat (first | refine blk_drewN ?_ _ | refine blk_drew ?_ | refine blk_alloc ?_ _)); exact BK295.out) Try.underlying28 rfl (by kernel_rfl)) rfl ?_
     exact ⟨_, _, by first | rfl | (simp [errW_none, errW_some] <;> rfl) | (simp [*, errW_none, errW_some] <;> rfl), by first | exact Kd.S_nil _ _ _ _ _ | exact Kd.N_nil _ _ _ _ _ | exact Kd.V_nil _ _ _ _ _ | exact Kd.Q_nil _ _ _ _ _ | exact Kd.R_nil _ _ _ _ _, by first | exact Kd.R_nil _ _ _ _ _ | exact Kd.N_nil _ _ _ _ _ | exact Kd.V_nil _ _ _ _ _ | exact Kd.Q_nil _ _ _ _ _ | exact Kd.S_nil _ _ _ _ _, zB⟩
   · replace c16 := Bool.eq_false_iff.mpr c16
     subst c16
     have H1 : (impl_InducedSpace.l0 kj2 l1 l1 (l1.length : Int) 0 l0_0 l0_1 ([] : List (List Int))) = some (r1, r2, r3) := by rw [if_neg (show ¬ (false = true) by decide)] at H; exact H
     clear H
     have H := H1
     clear H1
     have H' := Aside0.mk H
     clear H
     go_wp2_with (first | ((with_reducible refine gate_dst (N := 6) rfl ?_); (try (refine gate_guard (by rfl) ?_; dsimp only)); refine ze 6 #[.slice none 0 0, .slice none 0 0] 28 ?_; intro gb298 hg w19 hbox hb; have BK298 := zM (hbox); have GW298 := zM ((by rw [hg]; exact (below_size zB) : w.heap.size ≤ gb298)); have GE298 := zM ((by rw [hg]; exact (below_size zB) : w.heap.size ≤ gb298)); replace HB := zM (below_step zB hb); have NB294_298 := zM ((by rw [hg]; exact Nat.ne_of_lt (blk_lt (g := gb294) (o := .cells #[.slice A0_0 l0_0.length c0_0, .slice A0_1 l0_1.length c0_1] 28 (0, 0)) (zK BK294.out)) : gb294 ≠ gb298)); have NB298_294 := zM ((by rw [hg]; exact Nat.ne_of_gt (blk_lt (g := gb294) (o := .cells #[.slice A0_0 l0_0.length c0_0, .slice A0_1 l0_1.length c0_1] 28 (0, 0)) (zK BK294.out)) : gb298 ≠ gb294)); replace BK294 := zM (blk_below (g := gb294) (o := .cells #[.slice A0_0 l0_0.length c0_0, .slice A0_1 l0_1.length c0_1] 28 (0, 0)) (zK BK294.out) hb); have NB295_298 := zM ((by rw [hg]; exact Nat.ne_of_lt (blk_lt (g := gb295) (o := .cells #[.slice none 0 0, .slice none 0 0] 28 (0, 0)) (zK BK295.out)) : gb295 ≠ gb298)); have NB298_295 := zM ((by rw [hg]; exact Nat.ne_of_gt (blk_lt (g := gb295) (o := .cells #[.slice none 0 0, .slice none 0 0] 28 (0, 0)) (zK BK295.out)) : gb298 ≠ gb295)); replace BK295 := zM (blk_below (g := gb295) (o := .cells #[.slice none 0 0, .slice none 0 0] 28 (0, 0)) (zK BK295.out) hb); clear hb hbox hg; have hnb20 := NB298_294.out; have hnc20 := NB294_298.out; have hnb21 := NB298_295.out; have hnc21 := NB295_298.out; have hcz22_0 := zy BK298 0; have hcz22_1 := zy BK298 1; have hfz22_0 := blk_frozen BK298.out 0; have hfz22_1 := blk_frozen BK298.out 1))
     go_loopg [30] kj2 (fun kq v30 w' => ∃ (x30_2 : Int) (x299000_2 : List (List Int)) (u299000 : Value), v30 = .int .i64 x30_2 ∧ Aside0 (impl_InducedSpace.l0 kq l1 l1 (l1.length : Int) x30_2 l0_0 l0_1 x299000_2 = some (r1, r2, r3)) ∧ Aside0 (kq ≤ kj2) ∧ Aside0 (Kd.S (Kd.slice 3 (Kd.int .i64)) 26 w' w.heap.size (fun _ => True) u299000 x299000_2) ∧ Aside0 (w'.heap[gb294]? = some (.cells #[(.slice A0_0 l0_0.length c0_0), (.slice A0_1 l0_1.length c0_1)] 28 (0, 0))) ∧ Aside0 (w'.heap[gb295]? = some (.cells #[(.slice none 0 0), (.slice none 0 0)] 28 (0, 0))) ∧ Aside0 (w'.heap[gb298]? = some (.cells #[u299000, (.slice none 0 0)] 28 (0, 0))) ∧ Aside0 (Below w.heap.size w w'))
     case atStart => exact ⟨(0), (([] : List (List Int))), (.slice none 0 0), (by first | rfl | (simp; done) | (simp [*]; done)), H', ⟨Nat.le_refl _⟩, ⟨by first | exact Kd.S_nil _ _ _ _ _ | exact Kd.N_nil _ _ _ _ _ | exact Kd.V_nil _ _ _ _ _ | exact Kd.Q_nil _ _ _ _ _ | exact Kd.R_nil _ _ _ _ _⟩, ⟨by (with_reducible repeat (first | refine blk_drewN ?_ _ | refine blk_drew ?_ | refine blk_alloc ?_ _)); refine blk_far ?_ NB294_298.out _; (with_reducible repeat (first | refine blk_drewN ?_ _ | refine blk_drew ?_ | refine blk_alloc ?_ _)); refine blk_far ?_ NB294_298.out _; (with_reducible repeat (first | refine blk_drewN ?_ _ | refine blk_drew ?_ | refine blk_alloc ?_ _)); exact BK294.out⟩, ⟨by (with_reducible repeat (first | refine blk_drewN ?_ _ | refine blk_drew ?_ | refine blk_alloc ?_ _)); refine blk_far ?_ NB295_298.out _; (with_reducible repeat (first | refine blk_drewN ?_ _ | refine blk_drew ?_ | refine blk_alloc ?_ _)); refine blk_far ?_ NB295_298.out _; (with_reducible repeat (first | refine blk_drewN ?_ _ | refine blk_drew ?_ | refine blk_alloc ?_ _)); exact BK295.out⟩, ⟨by (with_reducible repeat (first | refine blk_drewN ?_ _ | refine blk_drew ?_ | refine blk_alloc ?_ _)); refine blk_put (cs := #[.slice none 0 0, .slice none 0 0]) ?_ 1 _ rfl; (with_reducible repeat (first | refine blk_drewN ?_ _ | refine blk_drew ?_ | refine blk_alloc ?_ _)); refine blk_put (cs := #[.slice none 0 0, .slice none 0 0]) ?_ 0 _ rfl; (with_reducible repeat (first | refine blk_drewN ?_ _ | refine blk_drew ?_ | refine blk_alloc ?_ _)); exact BK298.out⟩, ⟨zB⟩⟩
     case round =>
      clear H'
      try clear c1
      try clear c2
      try clear p2
      try clear c5
      try clear c7
      try clear c9
      try clear c13
      try clear c16
      try clear c17
      try clear c20
      try clear c21
      try clear hcz10_0
      try clear hcz10_1
      try clear hcz12_0
      try clear hcz12_1
      try clear hcz14_0
      try clear hcz14_1
      try clear hcz18_0
      try clear hcz18_1
      try clear hcz22_0
      try clear hcz22_1
      try clear hfz10_0
      try clear hfz10_1
      try clear hfz12_0
      try clear hfz12_1
      try clear hfz14_0
      try clear hfz14_1
      try clear hfz18_0
      try clear hfz18_1
      try clear hfz22_0
      try clear hfz22_1
      try clear p2
      obtain ⟨x30_2, x299000_2, u299000, rfl, HA, HK2, HO_299000, BK294, BK295, BK298, HB⟩ := hrel
      cases gk with
      | zero => exact absurd HA.out (by simp [impl_InducedSpace.l0])
      | succ k2 =>
       have H := HA.out
       clear HA
       simp only [impl_InducedSpace.l0] at H
       by_cases c23 : x30_2 < (l1.length : Int)
       · rw [if_pos c23] at H
         have c23b0 := decide_eq_true c23
         clear c23
         by_cases c24 : 0 ≤ x30_2
         · rw [if_pos c24] at H
           have c24b0 := decide_eq_true c24
           clear c24
           by_cases c25 : x30_2 < (l1.length : Int)
           · rw [if_pos c25] at H
             have c25b0 := decide_eq_true c25
             clear c25
             by_cases c26 : 0 ≤ (rd l1 x30_2)
             · rw [if_pos c26] at H
               have c26b0 := decide_eq_true c26
               clear c26
               by_cases c27 : (rd l1 x30_2) < (l0_0.length : Int)
               · rw [if_pos c27] at H
                 have c27b0 := decide_eq_true c27
                 clear c27
                 replace H := Option.bind_eq_some_iff.mp H
                 obtain ⟨t301, A280, H⟩ := H
                 replace H : (if x299000_2.length < 5864062014805 then (impl_InducedSpace.l0 k2 l1 l1 (l1.length : Int) (wrap64 (x30_2 + 1)) l0_0 l0_1 (x299000_2 ++ [t301])) else (none)) = some (r1, r2, r3) := H
                 have A28 := Aside0.mk A280
                 clear A280
                 by_cases c29 : x299000_2.length < 5864062014805
                 · rw [if_pos c29] at H
                   have LMc29 := Aside0.mk c29
                   clear c29
                   obtain ⟨y304, hy304⟩ : ∃ y_ : List (List Int), y_ = (x299000_2 ++ [t301]) := ⟨_, rfl⟩
                   replace H : (impl_InducedSpace.l0 k2 l1 l1 (l1.length : Int) (wrap64 (x30_2 + 1)) l0_0 l0_1 y304) = some (r1, r2, r3) := by first | (rw [hy304]; with_reducible exact H) | (have H2_ := (Option.bind_some _ _).symm.trans H; rw [hy304]; with_reducible exact H2_) | (have H2_ := (Option.bind_some _ _).symm.trans H; with_reducible exact H2_) | with_reducible exact H | (rw [hy304]; exact H) | exact H
                   have Ny304 := Aside0.mk hy304
                   clear hy304
                   have H' := Aside0.mk H
                   clear H
                   have p299 : 0 ≤ (x30_2 : Int) := of_decide_eq_true zA
                   have q299 : x30_2 < (l1.length : Int) := of_decide_eq_true zA
                   obtain ⟨ad299, e299, hx299_0⟩ := Kd.at_int HR1.out x30_2 p299 q299
                   cases e299
                   (try replace hx299_0 := (HB.out.cell (World.block_lt_of_cell? w _ hx299_0)).trans hx299_0)
                   replace p299 := eq_true p299
                   replace q299 := eq_true q299
                   try go_wp2
                   replace HO_299000 := zM (Kd.S_drew HO_299000.out)
                   replace BK294 := zM (blk_drew BK294.out)
                   replace BK295 := zM (blk_drew BK295.out)
                   replace BK298 := zM (blk_drew BK298.out)
                   replace HB := zM (below_drew1 HB.out)
                   have p300 : 0 ≤ ((rd l1 x30_2) : Int) := of_decide_eq_true zA
                   have q300 : (rd l1 x30_2) < (l0_0.length : Int) := of_decide_eq_true zA
                   obtain ⟨ad300, A300_0, c300_0, e300, hx300_0, hl300_0, hi300_0⟩ := at_L4 HR0_0.out (rd l1 x30_2) p300 q300
                   have hw300_0 := hx300_0
                   cases e300
                   (try replace hx300_0 := (HB.out.cell (World.block_lt_of_cell? w _ hx300_0)).trans hx300_0)
                   have HR300_0 := Aside0.mk hi300_0
                   have HC300_0 := Aside0.mk hl300_0
                   clear hi300_0 hl300_0
                   replace p300 := eq_true p300
                   replace q300 := eq_true q300
                   refine start_ (n := 12) (S := fun w' => w'.cell? ⟨gb298, 0, none⟩ = some (u299000) ∧ w'.cell? ⟨gb298, 1, none⟩ = some (.slice none 0 0) ∧ w'.cell? ⟨gb294, 0, none⟩ = some (.slice (some ad300) l0_0.length c0_0) ∧ w'.cell? ⟨gb294, 1, none⟩ = some (.slice A0_1 l0_1.length c0_1) ∧ w'.cell? (ad300.add ((rd l1 x30_2)).toNat) = some (.slice A300_0 (rd_L4 l0_0 (rd l1 x30_2)).length c300_0)) (ds := [11]) #[false, false, false, false, false, false, false, false, false, false, false, false] (by kernel_rfl) rfl rfl ⟨(blk_cell BK298.out 0).trans rfl, (blk_cell BK298.out 1).trans rfl, (blk_cell BK294.out 0).trans rfl, (blk_cell BK294.out 1).trans rfl, ((HB.out.cell (World.block_lt_of_cell? w _ hw300_0)).trans hw300_0)⟩ (fun hHeld => ?_); refine with_tabW impl_InducedSpace.tab7 impl_InducedSpace.bits7 (fun HT_ HW_ => ?_)
                   generalize wr.drew = w30 at HO_299000 BK294 BK295 BK298 HB HR300_0 hx300_0 hHeld ⊢
                   refine zp HT_ 0 34 ?_
                   refine zp HT_ 2 36 ?_
                   refine zp HT_ 4 38 ?_
                   refine zt HT_ HW_ 1 35 hHeld ?_ (hy := by rintro w' ⟨s0, s1, s2, s3, s4⟩; go_simp; with_reducible rfl)
                   refine zt HT_ HW_ 3 37 hHeld ?_ (hy := by rintro w' ⟨s0, s1, s2, s3, s4⟩; go_simp; with_reducible rfl)
                   refine zp HT_ 5 39 ?_
                   refine zt HT_ HW_ 6 40 hHeld ?_ (hy := by rintro w' ⟨s0, s1, s2, s3, s4⟩; go_simp; with_reducible rfl)
                   refine zg HT_ 7 41 Try.func72 #[.slice A300_0 (rd_L4 l0_0 (rd l1 x30_2)).length c300_0] (fun K hK => ?_)
                   with_reducible refine (slices_Clone_int_int.calls _ _ (rd_L4 l0_0 (rd l1 x30_2)) t301 _ ?side1 ?side2 A28.out).mono ?_
                   (case side1 => exact zC (Kd.C_below HR300_0.out HB.out))
                   (case side2 => exact HC300_0.out)
                   rintro e w31 ⟨v302, rfl, ho0, hb⟩
                   refine ⟨_, rfl, ?_⟩
                   replace HO_299000 := zM (Kd.S_elder' (by (with_reducible repeat (first | apply Kd.S_alloc | apply Kd.S_drewN | apply Kd.S_drew)); exact HO_299000.out) (Kd.R_base ho0) hb)
                   have HO303 := zM (Kd.R_lower ho0 (below_size zB))
                   replace BK294 := zM (blk_below (g := gb294) (o := .cells #[.slice (some ad300) l0_0.length c0_0, .slice A0_1 l0_1.length c0_1] 28 (0, 0)) (zK BK294.out) hb)
                   replace BK295 := zM (blk_below (g := gb295) (o := .cells #[.slice none 0 0, .slice none 0 0] 28 (0, 0)) (zK BK295.out) hb)
                   replace BK298 := zM (blk_below (g := gb298) (o := .cells #[u299000, .slice none 0 0] 28 (0, 0)) (zK BK298.out) hb)
                   replace HB := zM (below_step zB hb)
                   (try clear hb)
                   (try clear hb2)
                   (try clear hk)
                   (try clear hi)
                   (try clear ho0)
                   obtain ⟨Ao33, co33, eo33⟩ := Kd.R_slice HO303.out
                   (first | subst eo33 | (injection eo33 with f1_ f2_ f3_; have f4_ := f1_.symm; have f5_ := f3_.symm; clear f1_ f2_ f3_; subst f4_; subst f5_))
                   refine hK.out _ _ ⟨(blk_cell BK298.out 0).trans rfl, (blk_cell BK298.out 1).trans rfl, (blk_cell BK294.out 0).trans rfl, (blk_cell BK294.out 1).trans rfl, ((HB.out.cell (World.block_lt_of_cell? w _ hw300_0)).trans hw300_0)⟩ (fun hHeld => ?_)
                   clear hK K
                   refine zn 41 ?_
                   refine one_ (i := 8) (N := some 42) #[true, true, true, true, true, true, true, true, true, false, false, false] rfl rfl (one_of HT_.out (by kernel_rfl)) (by decide) (fun K hK => ?_)
                   refine value_ (w1 := ?_) (v := ?_) (by rfl) rfl ?_ ?_
                   rotate_left 2
                   · go_simp
                     constructor
                     · rfl
                     · rfl
                   refine hK.out _ _ ⟨(blk_cell (blk_alloc BK298.out _) 0).trans rfl, (blk_cell (blk_alloc BK298.out _) 1).trans rfl, (blk_cell (blk_alloc BK294.out _) 0).trans rfl, (blk_cell (blk_alloc BK294.out _) 1).trans rfl, (World.cell?_alloc_lt _ _ _ (World.block_lt_of_cell? _ _ (((HB.out.cell (World.block_lt_of_cell? w _ hw300_0)).trans hw300_0)))).trans (((HB.out.cell (World.block_lt_of_cell? w _ hw300_0)).trans hw300_0))⟩ (fun hHeld => ?_)
                   clear hK K
                   refine zn 42 ?_
                   refine one_ (i := 9) (N := some 43) #[true, true, true, true, true, true, true, true, true, true, false, false] rfl rfl (one_of HT_.out (by kernel_rfl)) (by decide) (fun K hK => ?_)
                   refine Kd.S_append_step (Kd.slice 3 (Kd.int .i64)) (w0 := w) w.heap.size (by rfl) (.tmp 35) (.tmp 42) 22 26 (.slice none 0 0) 24 rfl Try.underlying22 info26 rfl (by decide) (by omega) u299000 x299000_2 t301 [.slice Ao33 t301.length co33] (fun _ => True) (fun k_ => some k_ = (.slice Ao33 t301.length co33 : Value).ownBlock) rfl rfl ?aP (fun k_ hk_ => ((Kd.R_mono (ok' := fun k_ => ((fun _ => True)) k_ ∧ some k_ ≠ (u299000 : Value).ownBlock) (Kd.R_apart' (HO303.out) (Kd.S_typed HO_299000.out) (by decide)) (fun k_ hk => ⟨trivial, hk.2⟩))).1 k_ hk_.symm) ?aF ?aO ?aB ?aS ?aL ?_
                   (case aP => exact Kd.M_row (Kd.R_mono (Kd.R_tight rfl (Kd.R_mono (ok' := fun k_ => ((fun _ => True)) k_ ∧ some k_ ≠ (u299000 : Value).ownBlock) (Kd.R_apart' (HO303.out) (Kd.S_typed HO_299000.out) (by decide)) (fun k_ hk => ⟨trivial, hk.2⟩))) (fun _ h_ => h_)))
                   (case aB => exact zB)
                   (case aF => exact (fun _ _ => trivial))
                   (case aO => exact (by (with_reducible repeat (first | apply Kd.S_alloc | apply Kd.S_drewN | apply Kd.S_drew)); exact Kd.S_mono HO_299000.out (fun k_ hk => ⟨trivial, fun e_ => hk.2 e_⟩)))
                   (case aS => exact (below_size zB))
                   (case aL => have := LMc29.out; omega)
                   intro v305 w32 ho hb hg hat
                   rw [← Ny304.out] at ho
                   replace BK294 := zM (blk_grown (g := gb294) (o := .cells #[.slice (some ad300) l0_0.length c0_0, .slice A0_1 l0_1.length c0_1] 28 (0, 0)) (zK BK294.out) hg (Kd.S_ne HO_299000.out BK294.out (by decide)))
                   replace BK295 := zM (blk_grown (g := gb295) (o := .cells #[.slice none 0 0, .slice none 0 0] 28 (0, 0)) (zK BK295.out) hg (Kd.S_ne HO_299000.out BK295.out (by decide)))
                   replace BK298 := zM (blk_grown (g := gb298) (o := .cells #[u299000, .slice none 0 0] 28 (0, 0)) (zK BK298.out) hg (Kd.S_ne HO_299000.out BK298.out (by decide)))
                   replace HB := zM (hb)
                   have HO306 := zM (ho)
                   clear HO_299000 HO303
                   clear ho hb hg hat
                   obtain ⟨Ao34, co34, eo34⟩ := Kd.S_slice HO306.out
                   (first | subst eo34 | (injection eo34 with f1_ f2_ f3_; have f4_ := f1_.symm; have f5_ := f3_.symm; clear f1_ f2_ f3_; subst f4_; subst f5_))
                   refine hK.out _ _ ⟨(blk_cell BK298.out 0).trans rfl, (blk_cell BK298.out 1).trans rfl, (blk_cell BK294.out 0).trans rfl, (blk_cell BK294.out 1).trans rfl, ((HB.out.cell (World.block_lt_of_cell? w _ hw300_0)).trans hw300_0)⟩ (fun hHeld => ?_)
                   clear hK K
                   refine zn 43 ?_
                   refine zp HT_ 10 44 ?_
                   refine last_ (i := 11) (N := none) #[true, true, true, true, true, true, true, true, true, true, true, true] rfl rfl (one_of HT_.out (by kernel_rfl)) (by decide) (fun K hK => ?_)
                   have hs35 : w32.cell? ⟨gb298, 0, none⟩ = some (u299000) := (blk_cell BK298.out 0).trans rfl
                   have hfs35 := blk_frozen BK298.out 0
                   have hns35_0 := NB294_298.out
                   have hns35_1 := NB295_298.out
                   have hms35_0 := NB298_294.out
                   have hms35_1 := NB298_295.out
                   refine skip_ (w1 := ?_) (by rfl) rfl ?_ ?_
                   rotate_left
                   · go_simp
                     rfl
                   refine hK.out _ _ ?_
                   clear hK K
                   refine zo HT_ ?_
                   try go_wp2
                   go_roundg k2
                   case measure => have := HJ2.out; have := HK2.out; omega
                   case rel => exact ⟨(wrap64 (x30_2 + 1)), (y304), (.slice Ao34 y304.length co34), (by first | rfl | (simp; done) | (simp [*]; done)), H', ⟨by have := HJ2.out; have := HK2.out; omega⟩, ⟨by (with_reducible repeat (first | apply Kd.S_alloc | apply Kd.S_drewN | apply Kd.S_drew)); exact Kd.S_mono (Kd.S_far (p := ⟨gb298, 0, none⟩) (Kd.S_types HO306.out BK298.out (by decide)) (fun _ hk => hk.2) (.slice Ao34 y304.length co34)) (fun _ hk => trivial)⟩, ⟨by (with_reducible repeat (first | refine blk_drewN ?_ _ | refine blk_drew ?_ | refine blk_alloc ?_ _)); refine blk_far ?_ NB294_298.out _; (with_reducible repeat (first | refine blk_drewN ?_ _ | refine blk_drew ?_ | refine blk_alloc ?_ _)); exact BK294.out⟩, ⟨by (with_reducible repeat (first | refine blk_drewN ?_ _ | refine blk_drew ?_ | refine blk_alloc ?_ _)); refine blk_far ?_ NB295_298.out _; (with_reducible repeat (first | refine blk_drewN ?_ _ | refine blk_drew ?_ | refine blk_alloc ?_ _)); exact BK295.out⟩, ⟨by (with_reducible repeat (first | refine blk_drewN ?_ _ | refine blk_drew ?_ | refine blk_alloc ?_ _)); refine blk_put (cs := #[u299000, .slice none 0 0]) ?_ 0 _ rfl; (with_reducible repeat (first | refine blk_drewN ?_ _ | refine blk_drew ?_ | refine blk_alloc ?_ _)); exact BK298.out⟩, ⟨zB⟩⟩
                 · rw [if_neg c29] at H
                   exact absurd H (by simp)
               · rw [if_neg c27] at H
                 exact absurd H (by simp)
             · rw [if_neg c26] at H
               exact absurd H (by simp)
           · rw [if_neg c25] at H
             exact absurd H (by simp)
         · rw [if_neg c24] at H
           exact absurd H (by simp)
       · rw [if_neg c23] at H
         have c23b0 : decide (x30_2 < (l1.length : Int)) = false := decide_eq_false c23
         clear c23
         have H' := Aside0.mk H
         clear H
         have hnb36 := NB294_295.out
         have hnc36 := NB295_294.out
         have hnb37 := NB294_298.out
         have hnc37 := NB298_294.out
         have hcz38_0 := zy BK294 0
         have hcz38_1 := zy BK294 1
         have hfz38_0 := blk_frozen BK294.out 0
         have hfz38_1 := blk_frozen BK294.out 1
         go_wp2
         go_loopg [49] k2 (fun kq v49 w' => ∃ (x49_3 : Int) (x299001_3 : List (S64)) (u299001 : Value), v49 = .int .i64 x49_3 ∧ Aside0 (impl_InducedSpace.l1 kq l1 l0_1 (l0_1.length : Int) x49_3 x299000_2 x299001_3 = some (r1, r2, r3)) ∧ Aside0 (kq ≤ k2) ∧ Aside0 (Kd.S (Kd.slice 3 (Kd.int .i64)) 26 w' w.heap.size (fun _ => True) u299000 x299000_2) ∧ Aside0 (Kd.R k64 64 w' w.heap.size (fun _ => True) u299001 x299001_3) ∧ Aside0 (w'.heap[gb294]? = some (.cells #[(.slice A0_0 l0_0.length c0_0), (.slice A0_1 l0_1.length c0_1)] 28 (0, 0))) ∧ Aside0 (w'.heap[gb295]? = some (.cells #[(.slice none 0 0), (.slice none 0 0)] 28 (0, 0))) ∧ Aside0 (w'.heap[gb298]? = some (.cells #[u299000, u299001] 28 (0, 0))) ∧ Aside0 (Below w.heap.size w w'))
         case atStart => exact ⟨(0), (([] : List (S64))), (.slice none 0 0), (by first | rfl | (simp; done) | (simp [*]; done)), H', ⟨Nat.le_refl _⟩, ⟨by (with_reducible repeat (first | apply Kd.S_alloc | apply Kd.S_drewN | apply Kd.S_drew)); exact HO_299000.out⟩, ⟨by first | exact Kd.R_nil _ _ _ _ _ | exact Kd.N_nil _ _ _ _ _ | exact Kd.V_nil _ _ _ _ _ | exact Kd.Q_nil _ _ _ _ _ | exact Kd.S_nil _ _ _ _ _⟩, ⟨zK BK294.out⟩, ⟨zK BK295.out⟩, ⟨zK BK298.out⟩, ⟨zB⟩⟩
         case round =>
          clear H'
          try clear c1
          try clear c2
          try clear p2
          try clear q2
          try clear hx2
          try clear c3
          try clear p3
          try clear q3
          try clear hx3
          try clear c5
          try clear p6
          try clear c7
          try clear c9
          try clear c13
          try clear c16
          try clear c17
          try clear c20
          try clear c21
          try clear c23
          try clear c23b0
          try clear c24
          try clear c24b0
          try clear c25
          try clear c25b0
          try clear c26
          try clear c26b0
          try clear c27
          try clear c27b0
          try clear c29
          try clear p29
          try clear q29
          try clear hx29
          try clear c30
          try clear p30
          try clear q30
          try clear hx30
          try clear c36
          try clear c37
          try clear hcz10_0
          try clear hcz10_1
          try clear hcz12_0
          try clear hcz12_1
          try clear hcz14_0
          try clear hcz14_1
          try clear hcz18_0
          try clear hcz18_1
          try clear hcz22_0
          try clear hcz22_1
          try clear hcz38_0
          try clear hcz38_1
          try clear hfz10_0
          try clear hfz10_1
          try clear hfz12_0
          try clear hfz12_1
          try clear hfz14_0
          try clear hfz14_1
          try clear hfz18_0
          try clear hfz18_1
          try clear hfz22_0
          try clear hfz22_1
          try clear hfz38_0
          try clear hfz38_1
          try clear hx299_0
          try clear hx300_0
          try clear p2
          try clear p299
          try clear p300
          try clear q299
          try clear q300
          obtain ⟨x49_3, x299001_3, u299001, rfl, HA, HK3, HO_299000, HO_299001, BK294, BK295, BK298, HB⟩ := hrel
          cases gk with
          | zero => exact absurd HA.out (by simp [impl_InducedSpace.l1])
          | succ k3 =>
           have H := HA.out
           clear HA
           simp only [impl_InducedSpace.l1] at H
           by_cases c39 : x49_3 < (l0_1.length : Int)
           · rw [if_pos c39] at H
             have c39b0 := decide_eq_true c39
             clear c39
             by_cases c40 : 0 ≤ x49_3
             · rw [if_pos c40] at H
               have c40b0 := decide_eq_true c40
               clear c40
               by_cases c41 : x49_3 < (l0_1.length : Int)
               · rw [if_pos c41] at H
                 have c41b0 := decide_eq_true c41
                 clear c41
                 replace H := Option.bind_eq_some_iff.mp H
                 obtain ⟨⟨t309, t310⟩, A420, H⟩ := H
                 replace H : ((slices_BinarySearch_int_int.f k3 l1 ((rd_T64 l0_1 x49_3).f1)).bind fun bt311 => (if t310 = true then (if bt311.2 = true then (if x299001_3.length < 8796093022208 then (impl_InducedSpace.l1 k3 l1 l0_1 (l0_1.length : Int) (wrap64 (x49_3 + 1)) x299000_2 (x299001_3 ++ [(⟨t309, bt311.1⟩ : S64)])) else (none)) else (impl_InducedSpace.l1 k3 l1 l0_1 (l0_1.length : Int) (wrap64 (x49_3 + 1)) x299000_2 x299001_3)) else (impl_InducedSpace.l1 k3 l1 l0_1 (l0_1.length : Int) (wrap64 (x49_3 + 1)) x299000_2 x299001_3))) = some (r1, r2, r3) := H
                 have A42 := Aside0.mk A420
                 clear A420
                 replace H := Option.bind_eq_some_iff.mp H
                 obtain ⟨⟨t311, t312⟩, A430, H⟩ := H
                 replace H : (if t310 = true then (if t312 = true then (if x299001_3.length < 8796093022208 then (impl_InducedSpace.l1 k3 l1 l0_1 (l0_1.length : Int) (wrap64 (x49_3 + 1)) x299000_2 (x299001_3 ++ [(⟨t309, t311⟩ : S64)])) else (none)) else (impl_InducedSpace.l1 k3 l1 l0_1 (l0_1.length : Int) (wrap64 (x49_3 + 1)) x299000_2 x299001_3)) else (impl_InducedSpace.l1 k3 l1 l0_1 (l0_1.length : Int) (wrap64 (x49_3 + 1)) x299000_2 x299001_3)) = some (r1, r2, r3) := H
                 have A43 := Aside0.mk A430
                 clear A430
                 by_cases c44 : t310 = true
                 · subst c44
                   have H1 : (if t312 = true then (if x299001_3.length < 8796093022208 then (impl_InducedSpace.l1 k3 l1 l0_1 (l0_1.length : Int) (wrap64 (x49_3 + 1)) x299000_2 (x299001_3 ++ [(⟨t309, t311⟩ : S64)])) else (none)) else (impl_InducedSpace.l1 k3 l1 l0_1 (l0_1.length : Int) (wrap64 (x49_3 + 1)) x299000_2 x299001_3)) = some (r1, r2, r3) := by rw [if_pos rfl] at H; exact H
                   clear H
                   have H := H1
                   clear H1
                   by_cases c45 : t312 = true
                   · subst c45
                     have H1 : (if x299001_3.length < 8796093022208 then (impl_InducedSpace.l1 k3 l1 l0_1 (l0_1.length : Int) (wrap64 (x49_3 + 1)) x299000_2 (x299001_3 ++ [(⟨t309, t311⟩ : S64)])) else (none)) = some (r1, r2, r3) := by rw [if_pos rfl] at H; exact H
                     clear H
                     have H := H1
                     clear H1
                     by_cases c46 : x299001_3.length < 8796093022208
                     · rw [if_pos c46] at H
                       have LMc46 := Aside0.mk c46
                       clear c46
                       obtain ⟨y313, hy313⟩ : ∃ y_ : List (S64), y_ = (x299001_3 ++ [(⟨t309, t311⟩ : S64)]) := ⟨_, rfl⟩
                       replace H : (impl_InducedSpace.l1 k3 l1 l0_1 (l0_1.length : Int) (wrap64 (x49_3 + 1)) x299000_2 y313) = some (r1, r2, r3) := by first | (rw [hy313]; with_reducible exact H) | (have H2_ := (Option.bind_some _ _).symm.trans H; rw [hy313]; with_reducible exact H2_) | (have H2_ := (Option.bind_some _ _).symm.trans H; with_reducible exact H2_) | with_reducible exact H | (rw [hy313]; exact H) | exact H
                       have Ny313 := Aside0.mk hy313
                       clear hy313
                       have H' := Aside0.mk H
                       clear H
                       have p307 : 0 ≤ (x49_3 : Int) := of_decide_eq_true zA
                       have q307 : x49_3 < (l0_1.length : Int) := of_decide_eq_true zA
                       obtain ⟨ad307, e307, hx307_0, hx307_1⟩ := at_T64 HR0_1.out x49_3 p307 q307
                       cases e307
                       (try replace hx307_0 := (HB.out.cell (World.block_lt_of_cell? w _ hx307_0)).trans hx307_0)
                       (try replace hx307_1 := (HB.out.cell (World.block_lt_of_cell? w _ hx307_1)).trans hx307_1)
                       replace p307 := eq_true p307
                       replace q307 := eq_true q307
                       go_wp2_with (first | ((with_reducible refine gate_dst (N := 10) rfl ?_); (try (refine gate_guard (by rfl) ?_; dsimp only)); refine ze 10 #[.int .i64 0, .int .i64 0] 64 ?_; intro gb308 hg w47 hbox hb; replace HO_299000 := zM (Kd.S_below (by (with_reducible repeat (first | apply Kd.S_alloc | apply Kd.S_drewN | apply Kd.S_drew)); exact HO_299000.out) hb); replace HO_299001 := zM (Kd.R_below (Kd.R_elderB (zR HO_299001.out) gb308 (Nat.le_of_eq hg.symm)) hb); have BK308 := zM (hbox); have GW308 := zM ((by rw [hg]; exact (below_size zB) : w.heap.size ≤ gb308)); have GE308 := zM ((by rw [hg]; exact (below_size zB) : w.heap.size ≤ gb308)); replace HB := zM (below_step zB hb); have NB294_308 := zM ((by rw [hg]; exact Nat.ne_of_lt (blk_lt (g := gb294) (o := .cells #[.slice A0_0 l0_0.length c0_0, .slice (some ad307) l0_1.length c0_1] 28 (0, 0)) (zK BK294.out)) : gb294 ≠ gb308)); have NB308_294 := zM ((by rw [hg]; exact Nat.ne_of_gt (blk_lt (g := gb294) (o := .cells #[.slice A0_0 l0_0.length c0_0, .slice (some ad307) l0_1.length c0_1] 28 (0, 0)) (zK BK294.out)) : gb308 ≠ gb294)); replace BK294 := zM (blk_below (g := gb294) (o := .cells #[.slice A0_0 l0_0.length c0_0, .slice (some ad307) l0_1.length c0_1] 28 (0, 0)) (zK BK294.out) hb); have NB295_308 := zM ((by rw [hg]; exact Nat.ne_of_lt (blk_lt (g := gb295) (o := .cells #[.slice none 0 0, .slice none 0 0] 28 (0, 0)) (zK BK295.out)) : gb295 ≠ gb308)); have NB308_295 := zM ((by rw [hg]; exact Nat.ne_of_gt (blk_lt (g := gb295) (o := .cells #[.slice none 0 0, .slice none 0 0] 28 (0, 0)) (zK BK295.out)) : gb308 ≠ gb295)); replace BK295 := zM (blk_below (g := gb295) (o := .cells #[.slice none 0 0, .slice none 0 0] 28 (0, 0)) (zK BK295.out) hb); have NB298_308 := zM ((by rw [hg]; exact Nat.ne_of_lt (blk_lt (g := gb298) (o := .cells #[u299000, u299001] 28 (0, 0)) (zK BK298.out)) : gb298 ≠ gb308)); have NB308_298 := zM ((by rw [hg]; exact Nat.ne_of_gt (blk_lt (g := gb298) (o := .cells #[u299000, u299001] 28 (0, 0)) (zK BK298.out)) : gb308 ≠ gb298)); replace BK298 := zM (blk_below (g := gb298) (o := .cells #[u299000, u299001] 28 (0, 0)) (zK BK298.out) hb); clear hb hbox hg; have hnb48 := NB308_294.out; have hnc48 := NB294_308.out; have hnb49 := NB308_295.out; have hnc49 := NB295_308.out; have hnb50 := NB308_298.out; have hnc50 := NB298_308.out; have hcz51_0 := zy BK308 0; have hcz51_1 := zy BK308 1; have hfz51_0 := blk_frozen BK308.out 0; have hfz51_1 := blk_frozen BK308.out 1) | ((with_reducible refine gate_callee (f := 73) rfl ?_); refine zc 57 Try.func73 #[.slice A1 l1.length c1, .int .i64 ((rd_T64 l0_1 x49_3).f0)] ?_; (with_reducible refine (slices_BinarySearch_int_int.calls k3 _ _ l1 ((rd_T64 l0_1 x49_3).f0) t309 true _ ?side1 ?side2 A42.out).mono ?_); (case side1 => exact Kd.C_below HR1.out zB); (case side2 => exact HC1.out); rintro e w' ⟨rfl, ⟨nd, rfl⟩⟩; refine ⟨_, rfl, ?_⟩) | ((with_reducible refine gate_callee (f := 73) rfl ?_); refine zc 64 Try.func73 #[.slice A1 l1.length c1, .int .i64 ((rd_T64 l0_1 x49_3).f1)] ?_; (with_reducible refine (slices_BinarySearch_int_int.calls k3 _ _ l1 ((rd_T64 l0_1 x49_3).f1) t311 true _ ?side1 ?side2 A43.out).mono ?_); (case side1 => exact Kd.C_below HR1.out zB); (case side2 => exact HC1.out); rintro e w' ⟨rfl, ⟨nd, rfl⟩⟩; refine ⟨_, rfl, ?_⟩; have hnb52 := NB298_294.out; have hnc52 := NB294_298.out; have hnb53 := NB298_295.out; have hnc53 := NB295_298.out; have hcz54_0 := zy BK298 0; have hcz54_1 := zy BK298 1; have hfz54_0 := blk_frozen BK298.out 0; have hfz54_1 := blk_frozen BK298.out 1) | ((with_reducible refine gate_builtin (b := .append) (xs := #[.tmp 72, .tmp 76]) rfl ?_); (try (refine gate_guard (by rfl) ?_; dsimp only)); at_builtin; refine Kd.R_append k64 (w0 := w) w.heap.size rfl (.tmp 72) (.tmp 76) 23 64 (.agg #[(.int .i64 0), (.int .i64 0)]) 16 rfl Try.underlying23 info64 rfl (by decide) (by omega) u299001 x299001_3 (⟨t309, t311⟩ : S64) [.int .i64 t309, .int .i64 t311] (fun k_ => k_ ≠ gb308) (fun _ => False) rfl (by first | (go_simp; done) | (go_simp; rfl)) ?aP (fun _ hk => hk.elim) ?aF ?aO ?aB ?aS ?aL ?_; (case aP => exact k64_mkM _ _ _ (⟨t309, t311⟩ : S64)); (case aB => exact zB); (case aF => exact (fun k_ hk => Kd.freshB (g := gb308) (o := .cells #[.int .i64 ((rd_T64 l0_1 x49_3).f0), .int .i64 ((rd_T64 l0_1 x49_3).f1)] 64 (0, 0)) (by (with_reducible repeat (first | refine blk_drewN ?_ _ | refine blk_drew ?_ | refine blk_alloc ?_ _)); refine blk_put (cs := #[.int .i64 ((rd_T64 l0_1 x49_3).f0), .int .i64 0]) ?_ 1 _ rfl; (with_reducible repeat (first | refine blk_drewN ?_ _ | refine blk_drew ?_ | refine blk_alloc ?_ _)); refine blk_put (cs := #[.int .i64 0, .int .i64 0]) ?_ 0 _ rfl; (with_reducible repeat (first | refine blk_drewN ?_ _ | refine blk_drew ?_ | refine blk_alloc ?_ _)); exact BK308.out) k_ hk)); (case aO => exact (by (with_reducible repeat (first | apply Kd.R_alloc | apply Kd.R_drewN | apply Kd.R_drew)); exact Kd.R_mono (Kd.R_far (p := ⟨gb308, 1, none⟩) (Kd.R_far (p := ⟨gb308, 0, none⟩) (Kd.R_mono HO_299001.out (fun k_ hk => (⟨hk, hk.2⟩ : _ ∧ k_ ≠ gb308))) (fun _ hk => hk.2) (.int .i64 ((rd_T64 l0_1 x49_3).f0))) (fun _ hk => hk.2) (.int .i64 ((rd_T64 l0_1 x49_3).f1))) (fun _ hk => hk.1.2))); (case aS => exact (below_size zB)); (case aL => have := LMc46.out; omega); intro v314 w55 ho hb hg hat; rw [← Ny313.out] at ho; replace HO_299000 := zM (Kd.S_over' (by (with_reducible repeat (first | apply Kd.S_alloc | apply Kd.S_drewN | apply Kd.S_drew)); exact (Kd.S_mono (Kd.S_far (p := ⟨gb308, 1, none⟩) (Kd.S_far (p := ⟨gb308, 0, none⟩) (Kd.S_types HO_299000.out BK308.out (by decide)) (fun _ hk => hk.2) (.int .i64 ((rd_T64 l0_1 x49_3).f0))) (fun _ hk => hk.2) (.int .i64 ((rd_T64 l0_1 x49_3).f1))) (fun _ h_ => h_.1))) (Kd.R_typed (by (with_reducible repeat (first | apply Kd.R_alloc | apply Kd.R_drewN | apply Kd.R_drew)); exact (Kd.R_mono (Kd.R_far (p := ⟨gb308, 1, none⟩) (Kd.R_far (p := ⟨gb308, 0, none⟩) (Kd.R_mono HO_299001.out (fun k_ hk => (⟨hk, hk.2⟩ : _ ∧ k_ ≠ gb308))) (fun _ hk => hk.2) (.int .i64 ((rd_T64 l0_1 x49_3).f0))) (fun _ hk => hk.2) (.int .i64 ((rd_T64 l0_1 x49_3).f1))) (fun _ h_ => h_.1)))) (by decide) hg); replace BK294 := zM (blk_grown (g := gb294) (o := .cells #[.slice A0_0 l0_0.length c0_0, .slice (some ad307) l0_1.length c0_1] 28 (0, 0)) (by (with_reducible repeat (first | refine blk_drewN ?_ _ | refine blk_drew ?_ | refine blk_alloc ?_ _)); refine blk_far ?_ NB294_308.out _; (with_reducible repeat (first | refine blk_drewN ?_ _ | refine blk_drew ?_ | refine blk_alloc ?_ _)); refine blk_far ?_ NB294_308.out _; (with_reducible repeat (first | refine blk_drewN ?_ _ | refine blk_drew ?_ | refine blk_alloc ?_ _)); exact BK294.out) hg (Kd.R_ne HO_299001.out BK294.out (by decide))); replace BK295 := zM (blk_grown (g := gb295) (o := .cells #[.slice none 0 0, .slice none 0 0] 28 (0, 0)) (by (with_reducible repeat (first | refine blk_drewN ?_ _ | refine blk_drew ?_ | refine blk_alloc ?_ _)); refine blk_far ?_ NB295_308.out _; (with_reducible repeat (first | refine blk_drewN ?_ _ | refine blk_drew ?_ | refine blk_alloc ?_ _)); refine blk_far ?_ NB295_308.out _; (with_reducible repeat (first | refine blk_drewN ?_ _ | refine blk_drew ?_ | refine blk_alloc ?_ _)); exact BK295.out) hg (Kd.R_ne HO_299001.out BK295.out (by decide))); replace BK298 := zM (blk_grown (g := gb298) (o := .cells #[u299000, u299001] 28 (0, 0)) (by (with_reducible repeat (first | refine blk_drewN ?_ _ | refine blk_drew ?_ | refine blk_alloc ?_ _)); refine blk_far ?_ NB298_308.out _; (with_reducible repeat (first | refine blk_drewN ?_ _ | refine blk_drew ?_ | refine blk_alloc ?_ _)); refine blk_far ?_ NB298_308.out _; (with_reducible repeat (first | refine blk_drewN ?_ _ | refine blk_drew ?_ | refine blk_alloc ?_ _)); exact BK298.out) hg (Kd.R_ne HO_299001.out BK298.out (by decide))); replace BK308 := zM (blk_grown (g := gb308) (o := .cells #[.int .i64 ((rd_T64 l0_1 x49_3).f0), .int .i64 ((rd_T64 l0_1 x49_3).f1)] 64 (0, 0)) (by (with_reducible repeat (first | refine blk_drewN ?_ _ | refine blk_drew ?_ | refine blk_alloc ?_ _)); refine blk_put (cs := #[.int .i64 ((rd_T64 l0_1 x49_3).f0), .int .i64 0]) ?_ 1 _ rfl; (with_reducible repeat (first | refine blk_drewN ?_ _ | refine blk_drew ?_ | refine blk_alloc ?_ _)); refine blk_put (cs := #[.int .i64 0, .int .i64 0]) ?_ 0 _ rfl; (with_reducible repeat (first | refine blk_drewN ?_ _ | refine blk_drew ?_ | refine blk_alloc ?_ _)); exact BK308.out) hg (Kd.R_away HO_299001.out (fun _ hk => hk.2))); replace HB := zM (hb); have HO315 := zM (ho); clear HO_299001; clear ho hb hg hat; obtain ⟨Ao56, co56, eo56⟩ := Kd.R_slice HO315.out; subst eo56; have hcz57_0 := zy BK298 0; have hcz57_1 := zy BK298 1; have hfz57_0 := blk_frozen BK298.out 0; have hfz57_1 := blk_frozen BK298.out 1))
                       go_roundg k3
                       case measure => have := HJ2.out; have := HK2.out; have := HK3.out; omega
                       case rel => exact ⟨(wrap64 (x49_3 + 1)), (y313), (.slice Ao56 y313.length co56), (by first | rfl | (simp; done) | (simp [*]; done)), H', ⟨by have := HJ2.out; have := HK2.out; have := HK3.out; omega⟩, ⟨by (with_reducible repeat (first | apply Kd.S_alloc | apply Kd.S_drewN | apply Kd.S_drew)); exact Kd.S_mono (Kd.S_far (p := ⟨gb298, 1, none⟩) (Kd.S_types HO_299000.out BK298.out (by decide)) (fun _ hk => hk.2) (.slice Ao56 y313.length co56)) (fun _ hk => trivial)⟩, ⟨by (with_reducible repeat (first | apply Kd.R_alloc | apply Kd.R_drewN | apply Kd.R_drew)); exact Kd.R_mono (Kd.R_far (p := ⟨gb298, 1, none⟩) (Kd.R_types HO315.out BK298.out (by decide)) (fun _ hk => hk.2) (.slice Ao56 y313.length co56)) (fun _ hk => trivial)⟩, ⟨by (with_reducible repeat (first | refine blk_drewN ?_ _ | refine blk_drew ?_ | refine blk_alloc ?_ _)); refine blk_far ?_ NB294_298.out _; (with_reducible repeat (first | refine blk_drewN ?_ _ | refine blk_drew ?_ | refine blk_alloc ?_ _)); exact BK294.out⟩, ⟨by (with_reducible repeat (first | refine blk_drewN ?_ _ | refine blk_drew ?_ | refine blk_alloc ?_ _)); refine blk_far ?_ NB295_298.out _; (with_reducible repeat (first | refine blk_drewN ?_ _ | refine blk_drew ?_ | refine blk_alloc ?_ _)); exact BK295.out⟩, ⟨by (with_reducible repeat (first | refine blk_drewN ?_ _ | refine blk_drew ?_ | refine blk_alloc ?_ _)); refine blk_put (cs := #[u299000, u299001]) ?_ 1 _ rfl; (with_reducible repeat (first | refine blk_drewN ?_ _ | refine blk_drew ?_ | refine blk_alloc ?_ _)); exact BK298.out⟩, ⟨zB⟩⟩
                     · rw [if_neg c46] at H
                       exact absurd H (by simp)
                   · replace c45 := Bool.eq_false_iff.mpr c45
                     subst c45
                     have H1 : (impl_InducedSpace.l1 k3 l1 l0_1 (l0_1.length : Int) (wrap64 (x49_3 + 1)) x299000_2 x299001_3) = some (r1, r2, r3) := by rw [if_neg (show ¬ (false = true) by decide)] at H; exact H
                     clear H
                     have H := H1
                     clear H1
                     have H' := Aside0.mk H
                     clear H
                     have p307 : 0 ≤ (x49_3 : Int) := of_decide_eq_true zA
                     have q307 : x49_3 < (l0_1.length : Int) := of_decide_eq_true zA
                     obtain ⟨ad307, e307, hx307_0, hx307_1⟩ := at_T64 HR0_1.out x49_3 p307 q307
                     cases e307
                     (try replace hx307_0 := (HB.out.cell (World.block_lt_of_cell? w _ hx307_0)).trans hx307_0)
                     (try replace hx307_1 := (HB.out.cell (World.block_lt_of_cell? w _ hx307_1)).trans hx307_1)
                     replace p307 := eq_true p307
                     replace q307 := eq_true q307
                     go_wp2_with (first | ((with_reducible refine gate_dst (N := 10) rfl ?_); (try (refine gate_guard (by rfl) ?_; dsimp only)); refine ze 10 #[.int .i64 0, .int .i64 0] 64 ?_; intro gb308 hg w58 hbox hb; replace HO_299000 := zM (Kd.S_below (by (with_reducible repeat (first | apply Kd.S_alloc | apply Kd.S_drewN | apply Kd.S_drew)); exact HO_299000.out) hb); replace HO_299001 := zM (Kd.R_below (Kd.R_elderB (zR HO_299001.out) gb308 (Nat.le_of_eq hg.symm)) hb); have BK308 := zM (hbox); have GW308 := zM ((by rw [hg]; exact (below_size zB) : w.heap.size ≤ gb308)); have GE308 := zM ((by rw [hg]; exact (below_size zB) : w.heap.size ≤ gb308)); replace HB := zM (below_step zB hb); have NB294_308 := zM ((by rw [hg]; exact Nat.ne_of_lt (blk_lt (g := gb294) (o := .cells #[.slice A0_0 l0_0.length c0_0, .slice (some ad307) l0_1.length c0_1] 28 (0, 0)) (zK BK294.out)) : gb294 ≠ gb308)); have NB308_294 := zM ((by rw [hg]; exact Nat.ne_of_gt (blk_lt (g := gb294) (o := .cells #[.slice A0_0 l0_0.length c0_0, .slice (some ad307) l0_1.length c0_1] 28 (0, 0)) (zK BK294.out)) : gb308 ≠ gb294)); replace BK294 := zM (blk_below (g := gb294) (o := .cells #[.slice A0_0 l0_0.length c0_0, .slice (some ad307) l0_1.length c0_1] 28 (0, 0)) (zK BK294.out) hb); have NB295_308 := zM ((by rw [hg]; exact Nat.ne_of_lt (blk_lt (g := gb295) (o := .cells #[.slice none 0 0, .slice none 0 0] 28 (0, 0)) (zK BK295.out)) : gb295 ≠ gb308)); have NB308_295 := zM ((by rw [hg]; exact Nat.ne_of_gt (blk_lt (g := gb295) (o := .cells #[.slice none 0 0, .slice none 0 0] 28 (0, 0)) (zK BK295.out)) : gb308 ≠ gb295)); replace BK295 := zM (blk_below (g := gb295) (o := .cells #[.slice none 0 0, .slice none 0 0] 28 (0, 0)) (zK BK295.out) hb); have NB298_308 := zM ((by rw [hg]; exact Nat.ne_of_lt (blk_lt (g := gb298) (o := .cells #[u299000, u299001] 28 (0, 0)) (zK BK298.out)) : gb298 ≠ gb308)); have NB308_298 := zM ((by rw [hg]; exact Nat.ne_of_gt (blk_lt (g := gb298) (o := .cells #[u299000, u299001] 28 (0, 0)) (zK BK298.out)) : gb308 ≠ gb298)); replace BK298 := zM (blk_below (g := gb298) (o := .cells #[u299000, u299001] 28 (0, 0)) (zK BK298.out) hb); clear hb hbox hg; have hnb59 := NB308_294.out; have hnc59 := NB294_308.out; have hnb60 := NB308_295.out; have hnc60 := NB295_308.out; have hnb61 := NB308_298.out; have hnc61 := NB298_308.out; have hcz62_0 := zy BK308 0; have hcz62_1 := zy BK308 1; have hfz62_0 := blk_frozen BK308.out 0; have hfz62_1 := blk_frozen BK308.out 1) | ((with_reducible refine gate_callee (f := 73) rfl ?_); refine zc 57 Try.func73 #[.slice A1 l1.length c1, .int .i64 ((rd_T64 l0_1 x49_3).f0)] ?_; (with_reducible refine (slices_BinarySearch_int_int.calls k3 _ _ l1 ((rd_T64 l0_1 x49_3).f0) t309 true _ ?side1 ?side2 A42.out).mono ?_); (case side1 => exact Kd.C_below HR1.out zB); (case side2 => exact HC1.out); rintro e w' ⟨rfl, ⟨nd, rfl⟩⟩; refine ⟨_, rfl, ?_⟩) | ((with_reducible refine gate_callee (f := 73) rfl ?_); refine zc 64 Try.func73 #[.slice A1 l1.length c1, .int .i64 ((rd_T64 l0_1 x49_3).f1)] ?_; (with_reducible refine (slices_BinarySearch_int_int.calls k3 _ _ l1 ((rd_T64 l0_1 x49_3).f1) t311 false _ ?side1 ?side2 A43.out).mono ?_); (case side1 => exact Kd.C_below HR1.out zB); (case side2 => exact HC1.out); rintro e w' ⟨rfl, ⟨nd, rfl⟩⟩; refine ⟨_, rfl, ?_⟩))
                     go_roundg k3
                     case measure => have := HJ2.out; have := HK2.out; have := HK3.out; omega
                     case rel => exact ⟨(wrap64 (x49_3 + 1)), (x299001_3), (u299001), (by first | rfl | (simp; done) | (simp [*]; done)), H', ⟨by have := HJ2.out; have := HK2.out; have := HK3.out; omega⟩, ⟨by (with_reducible repeat (first | apply Kd.S_alloc | apply Kd.S_drewN | apply Kd.S_drew)); exact Kd.S_mono (Kd.S_far (p := ⟨gb308, 1, none⟩) (Kd.S_far (p := ⟨gb308, 0, none⟩) (Kd.S_types HO_299000.out BK308.out (by decide)) (fun _ hk => hk.2) (.int .i64 ((rd_T64 l0_1 x49_3).f0))) (fun _ hk => hk.2) (.int .i64 ((rd_T64 l0_1 x49_3).f1))) (fun _ hk => trivial)⟩, ⟨by (with_reducible repeat (first | apply Kd.R_alloc | apply Kd.R_drewN | apply Kd.R_drew)); exact Kd.R_mono (Kd.R_far (p := ⟨gb308, 1, none⟩) (Kd.R_far (p := ⟨gb308, 0, none⟩) (Kd.R_mono HO_299001.out (fun k_ hk => (⟨hk, hk.2⟩ : _ ∧ k_ ≠ gb308))) (fun _ hk => hk.2) (.int .i64 ((rd_T64 l0_1 x49_3).f0))) (fun _ hk => hk.2) (.int .i64 ((rd_T64 l0_1 x49_3).f1))) (fun _ hk => trivial)⟩, ⟨by (with_reducible repeat (first | refine blk_drewN ?_ _ | refine blk_drew ?_ | refine blk_alloc ?_ _)); refine blk_far ?_ NB294_308.out _; (with_reducible repeat (first | refine blk_drewN ?_ _ | refine blk_drew ?_ | refine blk_alloc ?_ _)); refine blk_far ?_ NB294_308.out _; (with_reducible repeat (first | refine blk_drewN ?_ _ | refine blk_drew ?_ | refine blk_alloc ?_ _)); exact BK294.out⟩, ⟨by (with_reducible repeat (first | refine blk_drewN ?_ _ | refine blk_drew ?_ | refine blk_alloc ?_ _)); refine blk_far ?_ NB295_308.out _; (with_reducible repeat (first | refine blk_drewN ?_ _ | refine blk_drew ?_ | refine blk_alloc ?_ _)); refine blk_far ?_ NB295_308.out _; (with_reducible repeat (first | refine blk_drewN ?_ _ | refine blk_drew ?_ | refine blk_alloc ?_ _)); exact BK295.out⟩, ⟨by (with_reducible repeat (first | refine blk_drewN ?_ _ | refine blk_drew ?_ | refine blk_alloc ?_ _)); refine blk_far ?_ NB298_308.out _; (with_reducible repeat (first | refine blk_drewN ?_ _ | refine blk_drew ?_ | refine blk_alloc ?_ _)); refine blk_far ?_ NB298_308.out _; (with_reducible repeat (first | refine blk_drewN ?_ _ | refine blk_drew ?_ | refine blk_alloc ?_ _)); exact BK298.out⟩, ⟨zB⟩⟩
                 · replace c44 := Bool.eq_false_iff.mpr c44
                   subst c44
                   have H1 : (impl_InducedSpace.l1 k3 l1 l0_1 (l0_1.length : Int) (wrap64 (x49_3 + 1)) x299000_2 x299001_3) = some (r1, r2, r3) := by rw [if_neg (show ¬ (false = true) by decide)] at H; exact H
                   clear H
                   have H := H1
                   clear H1
                   have H' := Aside0.mk H
                   clear H
                   have p307 : 0 ≤ (x49_3 : Int) := of_decide_eq_true zA
                   have q307 : x49_3 < (l0_1.length : Int) := of_decide_eq_true zA
                   obtain ⟨ad307, e307, hx307_0, hx307_1⟩ := at_T64 HR0_1.out x49_3 p307 q307
                   cases e307
                   (try replace hx307_0 := (HB.out.cell (World.block_lt_of_cell? w _ hx307_0)).trans hx307_0)
                   (try replace hx307_1 := (HB.out.cell (World.block_lt_of_cell? w _ hx307_1)).trans hx307_1)
                   replace p307 := eq_true p307
                   replace q307 := eq_true q307
                   go_wp2_with (first | ((with_reducible refine gate_dst (N := 10) rfl ?_); (try (refine gate_guard (by rfl) ?_; dsimp only)); refine ze 10 #[.int .i64 0, .int .i64 0] 64 ?_; intro gb308 hg w63 hbox hb; replace HO_299000 := zM (Kd.S_below (by (with_reducible repeat (first | apply Kd.S_alloc | apply Kd.S_drewN | apply Kd.S_drew)); exact HO_299000.out) hb); replace HO_299001 := zM (Kd.R_below (Kd.R_elderB (zR HO_299001.out) gb308 (Nat.le_of_eq hg.symm)) hb); have BK308 := zM (hbox); have GW308 := zM ((by rw [hg]; exact (below_size zB) : w.heap.size ≤ gb308)); have GE308 := zM ((by rw [hg]; exact (below_size zB) : w.heap.size ≤ gb308)); replace HB := zM (below_step zB hb); have NB294_308 := zM ((by rw [hg]; exact Nat.ne_of_lt (blk_lt (g := gb294) (o := .cells #[.slice A0_0 l0_0.length c0_0, .slice (some ad307) l0_1.length c0_1] 28 (0, 0)) (zK BK294.out)) : gb294 ≠ gb308)); have NB308_294 := zM ((by rw [hg]; exact Nat.ne_of_gt (blk_lt (g := gb294) (o := .cells #[.slice A0_0 l0_0.length c0_0, .slice (some ad307) l0_1.length c0_1] 28 (0, 0)) (zK BK294.out)) : gb308 ≠ gb294)); replace BK294 := zM (blk_below (g := gb294) (o := .cells #[.slice A0_0 l0_0.length c0_0, .slice (some ad307) l0_1.length c0_1] 28 (0, 0)) (zK BK294.out) hb); have NB295_308 := zM ((by rw [hg]; exact Nat.ne_of_lt (blk_lt (g := gb295) (o := .cells #[.slice none 0 0, .slice none 0 0] 28 (0, 0)) (zK BK295.out)) : gb295 ≠ gb308)); have NB308_295 := zM ((by rw [hg]; exact Nat.ne_of_gt (blk_lt (g := gb295) (o := .cells #[.slice none 0 0, .slice none 0 0] 28 (0, 0)) (zK BK295.out)) : gb308 ≠ gb295)); replace BK295 := zM (blk_below (g := gb295) (o := .cells #[.slice none 0 0, .slice none 0 0] 28 (0, 0)) (zK BK295.out) hb); have NB298_308 := zM ((by rw [hg]; exact Nat.ne_of_lt (blk_lt (g := gb298) (o := .cells #[u299000, u299001] 28 (0, 0)) (zK BK298.out)) : gb298 ≠ gb308)); have NB308_298 := zM ((by rw [hg]; exact Nat.ne_of_gt (blk_lt (g := gb298) (o := .cells #[u299000, u299001] 28 (0, 0)) (zK BK298.out)) : gb308 ≠ gb298)); replace BK298 := zM (blk_below (g := gb298) (o := .cells #[u299000, u299001] 28 (0, 0)) (zK BK298.out) hb); clear hb hbox hg; have hnb64 := NB308_294.out; have hnc64 := NB294_308.out; have hnb65 := NB308_295.out; have hnc65 := NB295_308.out; have hnb66 := NB308_298.out; have hnc66 := NB298_308.out; have hcz67_0 := zy BK308 0; have hcz67_1 := zy BK308 1; have hfz67_0 := blk_frozen BK308.out 0; have hfz67_1 := blk_frozen BK308.out 1) | ((with_reducible refine gate_callee (f := 73) rfl ?_); refine zc 57 Try.func73 #[.slice A1 l1.length c1, .int .i64 ((rd_T64 l0_1 x49_3).f0)] ?_; (with_reducible refine (slices_BinarySearch_int_int.calls k3 _ _ l1 ((rd_T64 l0_1 x49_3).f0) t309 false _ ?side1 ?side2 A42.out).mono ?_); (case side1 => exact Kd.C_below HR1.out zB); (case side2 => exact HC1.out); rintro e w' ⟨rfl, ⟨nd, rfl⟩⟩; refine ⟨_, rfl, ?_⟩) | ((with_reducible refine gate_callee (f := 73) rfl ?_); refine zc 64 Try.func73 #[.slice A1 l1.length c1, .int .i64 ((rd_T64 l0_1 x49_3).f1)] ?_; (with_reducible refine (slices_BinarySearch_int_int.calls k3 _ _ l1 ((rd_T64 l0_1 x49_3).f1) t311 t312 _ ?side1 ?side2 A43.out).mono ?_); (case side1 => exact Kd.C_below HR1.out zB); (case side2 => exact HC1.out); rintro e w' ⟨rfl, ⟨nd, rfl⟩⟩; refine ⟨_, rfl, ?_⟩))
                   go_roundg k3
                   case measure => have := HJ2.out; have := HK2.out; have := HK3.out; omega
                   case rel => exact ⟨(wrap64 (x49_3 + 1)), (x299001_3), (u299001), (by first | rfl | (simp; done) | (simp [*]; done)), H', ⟨by have := HJ2.out; have := HK2.out; have := HK3.out; omega⟩, ⟨by (with_reducible repeat (first | apply Kd.S_alloc | apply Kd.S_drewN | apply Kd.S_drew)); exact Kd.S_mono (Kd.S_far (p := ⟨gb308, 1, none⟩) (Kd.S_far (p := ⟨gb308, 0, none⟩) (Kd.S_types HO_299000.out BK308.out (by decide)) (fun _ hk => hk.2) (.int .i64 ((rd_T64 l0_1 x49_3).f0))) (fun _ hk => hk.2) (.int .i64 ((rd_T64 l0_1 x49_3).f1))) (fun _ hk => trivial)⟩, ⟨by (with_reducible repeat (first | apply Kd.R_alloc | apply Kd.R_drewN | apply Kd.R_drew)); exact Kd.R_mono (Kd.R_far (p := ⟨gb308, 1, none⟩) (Kd.R_far (p := ⟨gb308, 0, none⟩) (Kd.R_mono HO_299001.out (fun k_ hk => (⟨hk, hk.2⟩ : _ ∧ k_ ≠ gb308))) (fun _ hk => hk.2) (.int .i64 ((rd_T64 l0_1 x49_3).f0))) (fun _ hk => hk.2) (.int .i64 ((rd_T64 l0_1 x49_3).f1))) (fun _ hk => trivial)⟩, ⟨by (with_reducible repeat (first | refine blk_drewN ?_ _ | refine blk_drew ?_ | refine blk_alloc ?_ _)); refine blk_far ?_ NB294_308.out _; (with_reducible repeat (first | refine blk_drewN ?_ _ | refine blk_drew ?_ | refine blk_alloc ?_ _)); refine blk_far ?_ NB294_308.out _; (with_reducible repeat (first | refine blk_drewN ?_ _ | refine blk_drew ?_ | refine blk_alloc ?_ _)); exact BK294.out⟩, ⟨by (with_reducible repeat (first | refine blk_drewN ?_ _ | refine blk_drew ?_ | refine blk_alloc ?_ _)); refine blk_far ?_ NB295_308.out _; (with_reducible repeat (first | refine blk_drewN ?_ _ | refine blk_drew ?_ | refine blk_alloc ?_ _)); refine blk_far ?_ NB295_308.out _; (with_reducible repeat (first | refine blk_drewN ?_ _ | refine blk_drew ?_ | refine blk_alloc ?_ _)); exact BK295.out⟩, ⟨by (with_reducible repeat (first | refine blk_drewN ?_ _ | refine blk_drew ?_ | refine blk_alloc ?_ _)); refine blk_far ?_ NB298_308.out _; (with_reducible repeat (first | refine blk_drewN ?_ _ | refine blk_drew ?_ | refine blk_alloc ?_ _)); refine blk_far ?_ NB298_308.out _; (with_reducible repeat (first | refine blk_drewN ?_ _ | refine blk_drew ?_ | refine blk_alloc ?_ _)); exact BK298.out⟩, ⟨zB⟩⟩
               · rw [if_neg c41] at H
                 exact absurd H (by simp)
             · rw [if_neg c40] at H
               exact absurd H (by simp)
           · rw [if_neg c39] at H
             have c39b0 : decide (x49_3 < (l0_1.length : Int)) = false := decide_eq_false c39
             clear c39
             simp only [Option.some.injEq, Prod.mk.injEq] at H
             obtain ⟨rfl, rfl, rfl⟩ := H
             have hnb68 := NB298_294.out
             have hnc68 := NB294_298.out
             have hnb69 := NB298_295.out
             have hnc69 := NB295_298.out
             have hcz70_0 := zy BK298 0
             have hcz70_1 := zy BK298 1
             have hfz70_0 := blk_frozen BK298.out 0
             have hfz70_1 := blk_frozen BK298.out 1
             obtain ⟨Ao71, co71, eo71⟩ := Kd.S_slice HO_299000.out
             subst eo71
             have hnb72 := NB295_294.out
             have hnc72 := NB294_295.out
             have hcz73_0 := zy BK295 0
             have hcz73_1 := zy BK295 1
             have hfz73_0 := blk_frozen BK295.out 0
             have hfz73_1 := blk_frozen BK295.out 1
             obtain ⟨Ao74, co74, eo74⟩ := Kd.R_slice HO_299001.out
             subst eo74
             go_wp2
             refine bodyPost_ret (results_ct rfl _ _ gb295 28 #[.slice Ao71 x299000_2.length co71, .slice Ao74 x299001_3.length co74] (0, 0) _ rfl (by (with_reducible repeat (first | refine blk_drewN ?_ _ | refine blk_drew ?_ | refine blk_alloc ?_ _)); refine blk_put (cs := #[.slice Ao71 x299000_2.length co71, .slice none 0 0]) ?_ 1 _ rfl; (with_reducible repeat (first | refine blk_drewN ?_ _ | refine blk_drew ?_ | refine blk_alloc ?_ _)); refine blk_put (cs := #[.slice none 0 0, .slice none 0 0]) ?_ 0 _ rfl; (with_reducible repeat (first | refine blk_drewN ?_ _ | refine blk_drew ?_ | refine blk_alloc ?_ _)); exact BK295.out) Try.underlying28 rfl (by kernel_rfl)) rfl ?_
             exact ⟨_, _, by first | rfl | (simp [errW_none, errW_some] <;> rfl) | (simp [*, errW_none, errW_some] <;> rfl), by (with_reducible repeat (first | apply Kd.S_alloc | apply Kd.S_drewN | apply Kd.S_drew)); exact Kd.S_mono (Kd.S_far (p := ⟨gb295, 1, none⟩) (Kd.S_far (p := ⟨gb295, 0, none⟩) (Kd.S_types HO_299000.out BK295.out (by decide)) (fun _ hk => hk.2) (.slice Ao71 x299000_2.length co71)) (fun _ hk => hk.2) (.slice Ao74 x299001_3.length co74)) (fun _ hk => trivial), by (with_reducible repeat (first | apply Kd.R_alloc | apply Kd.R_drewN | apply Kd.R_drew)); exact Kd.R_mono (Kd.R_far (p := ⟨gb295, 1, none⟩) (Kd.R_far (p := ⟨gb295, 0, none⟩) (Kd.R_types HO_299001.out BK295.out (by decide)) (fun _ hk => hk.2) (.slice Ao71 x299000_2.length co71)) (fun _ hk => hk.2) (.slice Ao74 x299001_3.length co74)) (fun _ hk => trivial), zB⟩

end Go.Proofs.Ythnojbafclglpaa.P
