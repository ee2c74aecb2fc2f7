/- The contract of impl.ProductSpace: out of a printed walk, with the closure's call, the joined lists and the sort set in (prod.py). -/
import Derived.Test.YtihfpngolcjkiaaProductSpaceG13
import Derived.Test.YtihfpngolcjkiaaProductSpaceG5
import Derived.Test.YtihfpngolcjkiaaProductSpaceG8
namespace Go.Proofs.Ytihfpngolcjkiaa.P
open Go.RowKit Go.Proofs.YtihfpngolcjkiaaW.PrintWords Go.Proofs.YtihfpngolcjkiaaW.PrintLast Go.Proofs.YtihfpngolcjkiaaW.PrintMore
attribute [local go_sem] max2_int min2_int max_two min_two max_three min_three max_four min_four   -- for this text's walks alone
set_option linter.unusedVariables false
set_option linter.unusedSimpArgs false

/-! ### impl_ProductSpace: function 8 -/
mutual
def impl_ProductSpace.j0 : Nat → Bool → List (List Int) → List (S41) → List (List Int) → List (S41) → Option ((List (List Int)) × (List (S41)) × Bool)
 | 0, _, _, _, _, _ => none
 | k + 1, x30, x261000, x261001, x262000, x262001 => if x30 = true then (some (([] : List (List Int)), ([] : List (S41)), false)) else (if (wrap64 ((x261000.length : Int) * (x262000.length : Int))) > 300 then (impl_ProductSpace.j1 k (x262000.length : Int) true x261000 x261001 x262000 x262001) else (impl_ProductSpace.j1 k (x262000.length : Int) (decide ((wrap64 ((wrap64 ((x261000.length : Int) * (x262001.length : Int))) + (wrap64 ((x262000.length : Int) * (x261001.length : Int))))) > 6000)) x261000 x261001 x262000 x262001))
def impl_ProductSpace.j1 : Nat → Int → Bool → List (List Int) → List (S41) → List (List Int) → List (S41) → Option ((List (List Int)) × (List (S41)) × Bool)
 | 0, _, _, _, _, _, _ => none
 | k + 1, x6, x56, x261000, x261001, x262000, x262001 => if x56 = true then (some (([] : List (List Int)), ([] : List (S41)), false)) else (impl_ProductSpace.l0 k x6 x261000 (x261000.length : Int) 0 x261000 x261001 x262000 x262001 ([] : List (List Int)) ([] : List (S41)))
def impl_ProductSpace.l0 : Nat → Int → List (List Int) → Int → Int → List (List Int) → List (S41) → List (List Int) → List (S41) → List (List Int) → List (S41) → Option ((List (List Int)) × (List (S41)) × Bool)
 | 0, _, _, _, _, _, _, _, _, _, _ => none
 | k + 1, x6, x60, x61, x62, x261000, x261001, x262000, x262001, x267000, x267001 => if x62 < x61 then (if 0 ≤ x62 then (if x62 < (x60.length : Int) then (impl_ProductSpace.l1 k x6 x62 (rd_L1 x60 x62) x60 x61 x62 x262000 (x262000.length : Int) 0 x261000 x261001 x262000 x262001 x267000 x267001) else (none)) else (none)) else (impl_ProductSpace.l3 k x6 x261001 (x261001.length : Int) 0 x267000 x267001)
def impl_ProductSpace.l1 : Nat → Int → Int → List Int → List (List Int) → Int → Int → List (List Int) → Int → Int → List (List Int) → List (S41) → List (List Int) → List (S41) → List (List Int) → List (S41) → Option ((List (List Int)) × (List (S41)) × Bool)
 | 0, _, _, _, _, _, _, _, _, _, _, _, _, _, _, _ => none
 | k + 1, x6, x8, x9, x60, x61, x62, x68, x69, x70, x261000, x261001, x262000, x262001, x267000, x267001 => if x70 < x69 then (if 0 ≤ x70 then (if x70 < (x68.length : Int) then (if (wrap64 ((x9.length : Int) + ((rd_L1 x68 x70).length : Int))) > 24 then (some (([] : List (List Int)), ([] : List (S41)), false)) else ((slices_Concat_int_int.f k [x9, (rd_L1 x68 x70)]).bind fun t269 => (if x267000.length < 5864062014805 then (impl_ProductSpace.l1 k x6 x8 x9 x60 x61 x62 x68 x69 (wrap64 (x70 + 1)) x261000 x261001 x262000 x262001 (x267000 ++ [t269]) x267001) else (none)))) else (none)) else (none)) else (impl_ProductSpace.l2 k x6 x8 x60 x61 x62 x262001 (x262001.length : Int) 0 x261000 x261001 x262000 x262001 x267000 x267001)
def impl_ProductSpace.l2 : Nat → Int → Int → List (List Int) → Int → Int → List (S41) → Int → Int → List (List Int) → List (S41) → List (List Int) → List (S41) → List (List Int) → List (S41) → Option ((List (List Int)) × (List (S41)) × Bool)
 | 0, _, _, _, _, _, _, _, _, _, _, _, _, _, _ => none
 | k + 1, x6, x8, x60, x61, x62, x92, x93, x94, x261000, x261001, x262000, x262001, x267000, x267001 => if x94 < x93 then (if 0 ≤ x94 then (if x94 < (x92.length : Int) then (if x267001.length < 8796093022208 then (impl_ProductSpace.l2 k x6 x8 x60 x61 x62 x92 x93 (wrap64 (x94 + 1)) x261000 x261001 x262000 x262001 x267000 (x267001 ++ [(⟨wrap64 ((wrap64 (x8 * x6)) + ((rd_T41 x92 x94).f0)), wrap64 ((wrap64 (x8 * x6)) + ((rd_T41 x92 x94).f1))⟩ : S41)])) else (none)) else (none)) else (none)) else (impl_ProductSpace.l0 k x6 x60 x61 (wrap64 (x62 + 1)) x261000 x261001 x262000 x262001 x267000 x267001)
def impl_ProductSpace.l3 : Nat → Int → List (S41) → Int → Int → List (List Int) → List (S41) → Option ((List (List Int)) × (List (S41)) × Bool)
 | 0, _, _, _, _, _, _ => none
 | k + 1, x6, x119, x120, x121, x267000, x267001 => if x121 < x120 then (if 0 ≤ x121 then (if x121 < (x119.length : Int) then (impl_ProductSpace.l4 k x6 x119 x120 x121 x6 0 x267000 x267001 ((rd_T41 x119 x121).f0) ((rd_T41 x119 x121).f1)) else (none)) else (none)) else (if x267001.length < 4611686018427387904 then some (x267000, sortP x267001, true) else none)
def impl_ProductSpace.l4 : Nat → Int → List (S41) → Int → Int → Int → Int → List (List Int) → List (S41) → Int → Int → Option ((List (List Int)) × (List (S41)) × Bool)
 | 0, _, _, _, _, _, _, _, _, _, _ => none
 | k + 1, x6, x119, x120, x121, x125, x126, x267000, x267001, x282000, x282001 => if x126 < x125 then (if x267001.length < 8796093022208 then (impl_ProductSpace.l4 k x6 x119 x120 x121 x125 (wrap64 (x126 + 1)) x267000 (x267001 ++ [(⟨wrap64 ((wrap64 (x282000 * x6)) + x126), wrap64 ((wrap64 (x282001 * x6)) + x126)⟩ : S41)]) x282000 x282001) else (none)) else (impl_ProductSpace.l3 k x6 x119 x120 (wrap64 (x121 + 1)) x267000 x267001)
end
def impl_ProductSpace.f (k : Nat) (l0_0 : List (List Int)) (l0_1 : List (S41)) (l1_0 : List (List Int)) (l1_1 : List (S41)) : Option ((List (List Int)) × (List (S41)) × Bool) := (impl_IsSpace.f k l0_0 l0_1).bind fun t263 => (if t263 = true then ((impl_IsSpace.f k l1_0 l1_1).bind fun t264 => (if t264 = true then ((slices_ContainsFunc_int_int.f l0_0).bind fun t265 => (impl_ProductSpace.j0 k t265 l0_0 l0_1 l1_0 l1_1)) else (impl_ProductSpace.j0 k true l0_0 l0_1 l1_0 l1_1))) else (impl_ProductSpace.j0 k true l0_0 l0_1 l1_0 l1_1))
def impl_ProductSpace.T15 : Bool × List (List Nat × List Nat) := (true, [([], []), ([0], [0]), ([], []), ([], []), ([2, 3], [2, 3]), ([4], [4]), ([5], [5]), ([1, 6, 5], [1, 6]), ([0, 1, 2, 3, 4, 5, 6, 7], []), ([8, 7, 7, 0, 1, 2, 3, 4, 5, 6, 7], [7, 8])])
def impl_ProductSpace.B15 : List Nat := [0, 1, 0, 0, 12, 28, 60, 127, 255, 511]
theorem impl_ProductSpace.tab15 : rtab .any (opsOf Try.f8 15) = impl_ProductSpace.T15 := by kernel_rfl
theorem impl_ProductSpace.bits15 : waitsOk impl_ProductSpace.T15.2 impl_ProductSpace.B15 = true := by kernel_rfl
set_option maxHeartbeats 8000000 in
set_option maxRecDepth 100000 in
theorem impl_ProductSpace.calls (k : Nat) (A0_0 : Option Addr) (c0_0 : Nat) (l0_0 : List (List Int)) (A0_1 : Option Addr) (c0_1 : Nat) (l0_1 : List (S41)) (A1_0 : Option Addr) (c1_0 : Nat) (l1_0 : List (List Int)) (A1_1 : Option Addr) (c1_1 : Nat) (l1_1 : List (S41)) (r1 : List (List Int)) (r2 : List (S41)) (r3 : Bool) (w : World) (hr0_0 : Kd.C (Kd.slice 3 (Kd.int .i64)) w A0_0 l0_0.length l0_0) (hc0_0 : l0_0.length ≤ c0_0) (hr0_1 : Kd.C k41 w A0_1 l0_1.length l0_1) (hc0_1 : l0_1.length ≤ c0_1) (hr1_0 : Kd.C (Kd.slice 3 (Kd.int .i64)) w A1_0 l1_0.length l1_0) (hc1_0 : l1_0.length ≤ c1_0) (hr1_1 : Kd.C k41 w A1_1 l1_1.length l1_1) (hc1_1 : l1_1.length ≤ c1_1) (h : impl_ProductSpace.f k l0_0 l0_1 l1_0 l1_1 = some (r1, r2, r3)) :
 Calls Try.prog 8 #[.agg #[.slice A0_0 l0_0.length c0_0, .slice A0_1 l0_1.length c0_1], .agg #[.slice A1_0 l1_0.length c1_0, .slice A1_1 l1_1.length c1_1]] w fun e w' => ∃ v0_ v1_ : Value, e = .returned (.tuple #[.agg #[v0_, v1_], .bool r3]) ∧ Kd.S (Kd.slice 3 (Kd.int .i64)) 39 w' w.heap.size (fun _ => True) v0_ r1 ∧ Kd.R k41 41 w' w.heap.size (fun _ => True) v1_ r2 ∧ Below w.heap.size w w' := by
 have hu27 := Try.underlying27
 have hu41 := Try.underlying41
 have HR0_0 := Aside0.mk hr0_0
 have HC0_0 := Aside0.mk hc0_0
 clear hr0_0 hc0_0
 have HR0_1 := Aside0.mk hr0_1
 have HC0_1 := Aside0.mk hc0_1
 clear hr0_1 hc0_1
 have HR1_0 := Aside0.mk hr1_0
 have HC1_0 := Aside0.mk hc1_0
 clear hr1_0 hc1_0
 have HR1_1 := Aside0.mk hr1_1
 have HC1_1 := Aside0.mk hc1_1
 clear hr1_1 hc1_1
 have HB := zM (Below.refl w.heap.size w)
 have H : ((impl_IsSpace.f k l0_0 l0_1).bind fun t263 => (if t263 = true then ((impl_IsSpace.f k l1_0 l1_1).bind fun t264 => (if t264 = true then ((slices_ContainsFunc_int_int.f l0_0).bind fun t265 => (impl_ProductSpace.j0 k t265 l0_0 l0_1 l1_0 l1_1)) else (impl_ProductSpace.j0 k true l0_0 l0_1 l1_0 l1_1))) else (impl_ProductSpace.j0 k true l0_0 l0_1 l1_0 l1_1))) = some (r1, r2, r3) := h
 clear h
 have HC3 := Aside0.mk H
 clear H
 go_enter Try.func8, Try.ntmps8
 go_upto_region 1 with (first | ((with_reducible refine gate_dst (N := 2) rfl ?_); (try (refine gate_guard (by rfl) ?_; dsimp only)); refine zb (w := w) 2 #[.slice A0_0 l0_0.length c0_0, .slice A0_1 l0_1.length c0_1] 27 zB ?_; clear HB; intro gb260 w4 HB BK260 GW260; have GE260 := GW260) | ((with_reducible refine gate_dst (N := 3) rfl ?_); (try (refine gate_guard (by rfl) ?_; dsimp only)); refine ze 3 #[.slice A1_0 l1_0.length c1_0, .slice A1_1 l1_1.length c1_1] 27 ?_; intro gb261 hg w5 hbox hb; have BK261 := zM (hbox); have GW261 := zM ((by rw [hg]; exact (below_size zB) : w.heap.size ≤ gb261)); have GE261 := zM ((by rw [hg]; exact (below_size zB) : w.heap.size ≤ gb261)); replace HB := zM (below_step zB hb); have NB260_261 := zM ((by rw [hg]; exact Nat.ne_of_lt (blk_lt (g := gb260) (o := .cells #[.slice A0_0 l0_0.length c0_0, .slice A0_1 l0_1.length c0_1] 27 (0, 0)) (zK BK260.out)) : gb260 ≠ gb261)); have NB261_260 := zM ((by rw [hg]; exact Nat.ne_of_gt (blk_lt (g := gb260) (o := .cells #[.slice A0_0 l0_0.length c0_0, .slice A0_1 l0_1.length c0_1] 27 (0, 0)) (zK BK260.out)) : gb261 ≠ gb260)); replace BK260 := zM (blk_below (g := gb260) (o := .cells #[.slice A0_0 l0_0.length c0_0, .slice A0_1 l0_1.length c0_1] 27 (0, 0)) (zK BK260.out) hb); clear hb hbox hg) | ((with_reducible refine gate_dst (N := 4) rfl ?_); (try (refine gate_guard (by rfl) ?_; dsimp only)); refine ze 4 #[.slice none 0 0, .slice none 0 0] 27 ?_; intro gb262 hg w6 hbox hb; have BK262 := zM (hbox); have GW262 := zM ((by rw [hg]; exact (below_size zB) : w.heap.size ≤ gb262)); have GE262 := zM ((by rw [hg]; exact (below_size zB) : w.heap.size ≤ gb262)); replace HB := zM (below_step zB hb); have NB260_262 := zM ((by rw [hg]; exact Nat.ne_of_lt (blk_lt (g := gb260) (o := .cells #[.slice A0_0 l0_0.length c0_0, .slice A0_1 l0_1.length c0_1] 27 (0, 0)) (zK BK260.out)) : gb260 ≠ gb262)); have NB262_260 := zM ((by rw [hg]; exact Nat.ne_of_gt (blk_lt (g := gb260) (o := .cells #[.slice A0_0 l0_0.length c0_0, .slice A0_1 l0_1.length c0_1] 27 (0, 0)) (zK BK260.out)) : gb262 ≠ gb260)); replace BK260 := zM (blk_below (g := gb260) (o := .cells #[.slice A0_0 l0_0.length c0_0, .slice A0_1 l0_1.length c0_1] 27 (0, 0)) (zK BK260.out) hb); have NB261_262 := zM ((by rw [hg]; exact Nat.ne_of_lt (blk_lt (g := gb261) (o := .cells #[.slice A1_0 l1_0.length c1_0, .slice A1_1 l1_1.length c1_1] 27 (0, 0)) (zK BK261.out)) : gb261 ≠ gb262)); have NB262_261 := zM ((by rw [hg]; exact Nat.ne_of_gt (blk_lt (g := gb261) (o := .cells #[.slice A1_0 l1_0.length c1_0, .slice A1_1 l1_1.length c1_1] 27 (0, 0)) (zK BK261.out)) : gb262 ≠ gb261)); replace BK261 := zM (blk_below (g := gb261) (o := .cells #[.slice A1_0 l1_0.length c1_0, .slice A1_1 l1_1.length c1_1] 27 (0, 0)) (zK BK261.out) hb); clear hb hbox hg))
 (try simp only [Act.put, List.setIfInBounds_toArray, List.set_cons_zero, List.set_cons_succ])
 go_cut [30] (fun v30 wc => ∃ (kq : Nat) (x30_2 : Bool), v30 = .bool x30_2 ∧ Aside0 (impl_ProductSpace.j0 kq x30_2 l0_0 l0_1 l1_0 l1_1 = some (r1, r2, r3)) ∧ Aside0 (kq ≤ k) ∧ Aside0 (wc.heap[gb260]? = some (.cells #[(.slice A0_0 l0_0.length c0_0), (.slice A0_1 l0_1.length c0_1)] 27 (0, 0))) ∧ Aside0 (wc.heap[gb261]? = some (.cells #[(.slice A1_0 l1_0.length c1_0), (.slice A1_1 l1_1.length c1_1)] 27 (0, 0))) ∧ Aside0 (wc.heap[gb262]? = some (.cells #[(.slice none 0 0), (.slice none 0 0)] 27 (0, 0))) ∧ Aside0 (Below w.heap.size w wc))
 case first =>
  have H := HC3.out
  clear HC3
  replace H := Option.bind_eq_some_iff.mp H
  obtain ⟨t263, A70, H⟩ := H
  replace H : (if t263 = true then ((impl_IsSpace.f k l1_0 l1_1).bind fun t264 => (if t264 = true then ((slices_ContainsFunc_int_int.f l0_0).bind fun t265 => (impl_ProductSpace.j0 k t265 l0_0 l0_1 l1_0 l1_1)) else (impl_ProductSpace.j0 k true l0_0 l0_1 l1_0 l1_1))) else (impl_ProductSpace.j0 k true l0_0 l0_1 l1_0 l1_1)) = some (r1, r2, r3) := H
  have A7 := Aside0.mk A70
  clear A70
  by_cases c8 : t263 = true
  · subst c8
    have H1 : ((impl_IsSpace.f k l1_0 l1_1).bind fun t264 => (if t264 = true then ((slices_ContainsFunc_int_int.f l0_0).bind fun t265 => (impl_ProductSpace.j0 k t265 l0_0 l0_1 l1_0 l1_1)) else (impl_ProductSpace.j0 k true l0_0 l0_1 l1_0 l1_1))) = some (r1, r2, r3) := by rw [if_pos rfl] at H; exact H
    clear H
    have H := H1
    clear H1
    replace H := Option.bind_eq_some_iff.mp H
    obtain ⟨t264, A90, H⟩ := H
    replace H : (if t264 = true then ((slices_ContainsFunc_int_int.f l0_0).bind fun t265 => (impl_ProductSpace.j0 k t265 l0_0 l0_1 l1_0 l1_1)) else (impl_ProductSpace.j0 k true l0_0 l0_1 l1_0 l1_1)) = some (r1, r2, r3) := H
    have A9 := Aside0.mk A90
    clear A90
    by_cases c10 : t264 = true
    · subst c10
      have H1 : ((slices_ContainsFunc_int_int.f l0_0).bind fun t265 => (impl_ProductSpace.j0 k t265 l0_0 l0_1 l1_0 l1_1)) = some (r1, r2, r3) := by rw [if_pos rfl] at H; exact H
      clear H
      have H := H1
      clear H1
      replace H := Option.bind_eq_some_iff.mp H
      obtain ⟨t265, A110, H⟩ := H
      replace H : (impl_ProductSpace.j0 k t265 l0_0 l0_1 l1_0 l1_1) = some (r1, r2, r3) := H
      have A11 := Aside0.mk A110
      clear A110
      have H' := Aside0.mk H
      clear H
      have hnb12 := NB260_261.out
      have hnc12 := NB261_260.out
      have hnb13 := NB260_262.out
      have hnc13 := NB262_260.out
      have hcz14_0 := zy BK260 0
      have hcz14_1 := zy BK260 1
      have hfz14_0 := blk_frozen BK260.out 0
      have hfz14_1 := blk_frozen BK260.out 1
      go_wp2_with (first | ((with_reducible refine gate_callee (f := 23) rfl ?_); refine zc 18 Try.func23 #[.agg #[.slice A0_0 l0_0.length c0_0, .slice A0_1 l0_1.length c0_1]] ?_; (with_reducible refine (impl_IsSpace.calls k _ _ l0_0 _ _ l0_1 true _ ?side1 ?side2 ?side3 ?side4 A7.out).mono ?_); (case side1 => exact zC (Kd.C_below HR0_0.out HB.out)); (case side2 => exact HC0_0.out); (case side3 => exact zC (Kd.C_below HR0_1.out HB.out)); (case side4 => exact HC0_1.out); rintro e w15 ⟨rfl, hb⟩; refine ⟨_, rfl, ?_⟩; replace BK260 := zM (blk_below (g := gb260) (o := .cells #[.slice A0_0 l0_0.length c0_0, .slice A0_1 l0_1.length c0_1] 27 (0, 0)) (zK BK260.out) hb); replace BK261 := zM (blk_below (g := gb261) (o := .cells #[.slice A1_0 l1_0.length c1_0, .slice A1_1 l1_1.length c1_1] 27 (0, 0)) (zK BK261.out) hb); replace BK262 := zM (blk_below (g := gb262) (o := .cells #[.slice none 0 0, .slice none 0 0] 27 (0, 0)) (zK BK262.out) hb); replace HB := zM (below_step zB hb); (try clear hb); (try clear hb2); (try clear hk); (try clear hi); have hnb16 := NB261_262.out; have hnc16 := NB262_261.out; have hcz17_0 := zy BK261 0; have hcz17_1 := zy BK261 1; have hfz17_0 := blk_frozen BK261.out 0; have hfz17_1 := blk_frozen BK261.out 1) | (go_at_call 23; (with_reducible refine (impl_IsSpace.calls k _ _ l1_0 _ _ l1_1 true _ ?side1 ?side2 ?side3 ?side4 A9.out).mono ?_); (case side1 => exact zC (Kd.C_below HR1_0.out HB.out)); (case side2 => exact HC1_0.out); (case side3 => exact zC (Kd.C_below HR1_1.out HB.out)); (case side4 => exact HC1_1.out); rintro e w18 ⟨rfl, hb⟩; replace BK260 := zM (blk_below (g := gb260) (o := .cells #[.slice A0_0 l0_0.length c0_0, .slice A0_1 l0_1.length c0_1] 27 (0, 0)) (zK BK260.out) hb); replace BK261 := zM (blk_below (g := gb261) (o := .cells #[.slice A1_0 l1_0.length c1_0, .slice A1_1 l1_1.length c1_1] 27 (0, 0)) (zK BK261.out) hb); replace BK262 := zM (blk_below (g := gb262) (o := .cells #[.slice none 0 0, .slice none 0 0] 27 (0, 0)) (zK BK262.out) hb); replace HB := zM (below_step zB hb); (try clear hb); (try clear hb2); (try clear hk); (try clear hi); have hcz19_0 := zy BK260 0; have hcz19_1 := zy BK260 1; have hfz19_0 := blk_frozen BK260.out 0; have hfz19_1 := blk_frozen BK260.out 1) | (go_at_call 24; refine (uneven_of gb260 A0_0 c0_0 l0_0 t265 _ (zy BK260 0) (Kd.C_below HR0_0.out HB.out) HC0_0.out A11.out).mono ?_; rintro e w20 ⟨rfl, hb⟩; replace BK260 := zM (blk_below (g := gb260) (o := .cells #[.slice A0_0 l0_0.length c0_0, .slice A0_1 l0_1.length c0_1] 27 (0, 0)) (zK BK260.out) hb); replace BK261 := zM (blk_below (g := gb261) (o := .cells #[.slice A1_0 l1_0.length c1_0, .slice A1_1 l1_1.length c1_1] 27 (0, 0)) (zK BK261.out) hb); replace BK262 := zM (blk_below (g := gb262) (o := .cells #[.slice none 0 0, .slice none 0 0] 27 (0, 0)) (zK BK262.out) hb); replace HB := zM (below_step zB hb); (try clear hb); (try clear hb2); (try clear hk); (try clear hi)))
      go_meet
      case rel => exact ⟨_, (t265), (by first | rfl | (simp; done) | (simp [*]; done)), H', ⟨by first | omega | exact Nat.le_refl _⟩, ⟨zK BK260.out⟩, ⟨zK BK261.out⟩, ⟨zK BK262.out⟩, ⟨zB⟩⟩
    · replace c10 := Bool.eq_false_iff.mpr c10
      subst c10
      have H1 : (impl_ProductSpace.j0 k true l0_0 l0_1 l1_0 l1_1) = some (r1, r2, r3) := by rw [if_neg (show ¬ (false = true) by decide)] at H; exact H
      clear H
      have H := H1
      clear H1
      have H' := Aside0.mk H
      clear H
      have hnb21 := NB260_261.out
      have hnc21 := NB261_260.out
      have hnb22 := NB260_262.out
      have hnc22 := NB262_260.out
      have hcz23_0 := zy BK260 0
      have hcz23_1 := zy BK260 1
      have hfz23_0 := blk_frozen BK260.out 0
      have hfz23_1 := blk_frozen BK260.out 1
      go_wp2_with (first | ((with_reducible refine gate_callee (f := 23) rfl ?_); refine zc 18 Try.func23 #[.agg #[.slice A0_0 l0_0.length c0_0, .slice A0_1 l0_1.length c0_1]] ?_; (with_reducible refine (impl_IsSpace.calls k _ _ l0_0 _ _ l0_1 true _ ?side1 ?side2 ?side3 ?side4 A7.out).mono ?_); (case side1 => exact zC (Kd.C_below HR0_0.out HB.out)); (case side2 => exact HC0_0.out); (case side3 => exact zC (Kd.C_below HR0_1.out HB.out)); (case side4 => exact HC0_1.out); rintro e w24 ⟨rfl, hb⟩; refine ⟨_, rfl, ?_⟩; replace BK260 := zM (blk_below (g := gb260) (o := .cells #[.slice A0_0 l0_0.length c0_0, .slice A0_1 l0_1.length c0_1] 27 (0, 0)) (zK BK260.out) hb); replace BK261 := zM (blk_below (g := gb261) (o := .cells #[.slice A1_0 l1_0.length c1_0, .slice A1_1 l1_1.length c1_1] 27 (0, 0)) (zK BK261.out) hb); replace BK262 := zM (blk_below (g := gb262) (o := .cells #[.slice none 0 0, .slice none 0 0] 27 (0, 0)) (zK BK262.out) hb); replace HB := zM (below_step zB hb); (try clear hb); (try clear hb2); (try clear hk); (try clear hi); have hnb25 := NB261_262.out; have hnc25 := NB262_261.out; have hcz26_0 := zy BK261 0; have hcz26_1 := zy BK261 1; have hfz26_0 := blk_frozen BK261.out 0; have hfz26_1 := blk_frozen BK261.out 1) | (go_at_call 23; (with_reducible refine (impl_IsSpace.calls k _ _ l1_0 _ _ l1_1 false _ ?side1 ?side2 ?side3 ?side4 A9.out).mono ?_); (case side1 => exact zC (Kd.C_below HR1_0.out HB.out)); (case side2 => exact HC1_0.out); (case side3 => exact zC (Kd.C_below HR1_1.out HB.out)); (case side4 => exact HC1_1.out); rintro e w27 ⟨rfl, hb⟩; replace BK260 := zM (blk_below (g := gb260) (o := .cells #[.slice A0_0 l0_0.length c0_0, .slice A0_1 l0_1.length c0_1] 27 (0, 0)) (zK BK260.out) hb); replace BK261 := zM (blk_below (g := gb261) (o := .cells #[.slice A1_0 l1_0.length c1_0, .slice A1_1 l1_1.length c1_1] 27 (0, 0)) (zK BK261.out) hb); replace BK262 := zM (blk_below (g := gb262) (o := .cells #[.slice none 0 0, .slice none 0 0] 27 (0, 0)) (zK BK262.out) hb); replace HB := zM (below_step zB hb); (try clear hb); (try clear hb2); (try clear hk); (try clear hi)))
      go_meet
      case rel => exact ⟨_, (true), (by first | rfl | (simp; done) | (simp [*]; done)), H', ⟨by first | omega | exact Nat.le_refl _⟩, ⟨zK BK260.out⟩, ⟨zK BK261.out⟩, ⟨zK BK262.out⟩, ⟨zB⟩⟩
  · replace c8 := Bool.eq_false_iff.mpr c8
    subst c8
    have H1 : (impl_ProductSpace.j0 k true l0_0 l0_1 l1_0 l1_1) = some (r1, r2, r3) := by rw [if_neg (show ¬ (false = true) by decide)] at H; exact H
    clear H
    have H := H1
    clear H1
    have H' := Aside0.mk H
    clear H
    have hnb28 := NB260_261.out
    have hnc28 := NB261_260.out
    have hnb29 := NB260_262.out
    have hnc29 := NB262_260.out
    have hcz30_0 := zy BK260 0
    have hcz30_1 := zy BK260 1
    have hfz30_0 := blk_frozen BK260.out 0
    have hfz30_1 := blk_frozen BK260.out 1
    go_wp2_with (first | ((with_reducible refine gate_callee (f := 23) rfl ?_); refine zc 18 Try.func23 #[.agg #[.slice A0_0 l0_0.length c0_0, .slice A0_1 l0_1.length c0_1]] ?_; (with_reducible refine (impl_IsSpace.calls k _ _ l0_0 _ _ l0_1 false _ ?side1 ?side2 ?side3 ?side4 A7.out).mono ?_); (case side1 => exact zC (Kd.C_below HR0_0.out HB.out)); (case side2 => exact HC0_0.out); (case side3 => exact zC (Kd.C_below HR0_1.out HB.out)); (case side4 => exact HC0_1.out); rintro e w31 ⟨rfl, hb⟩; refine ⟨_, rfl, ?_⟩; replace BK260 := zM (blk_below (g := gb260) (o := .cells #[.slice A0_0 l0_0.length c0_0, .slice A0_1 l0_1.length c0_1] 27 (0, 0)) (zK BK260.out) hb); replace BK261 := zM (blk_below (g := gb261) (o := .cells #[.slice A1_0 l1_0.length c1_0, .slice A1_1 l1_1.length c1_1] 27 (0, 0)) (zK BK261.out) hb); replace BK262 := zM (blk_below (g := gb262) (o := .cells #[.slice none 0 0, .slice none 0 0] 27 (0, 0)) (zK BK262.out) hb); replace HB := zM (below_step zB hb); (try clear hb); (try clear hb2); (try clear hk); (try clear hi)))
    go_meet
    case rel => exact ⟨_, (true), (by first | rfl | (simp; done) | (simp [*]; done)), H', ⟨by first | omega | exact Nat.le_refl _⟩, ⟨zK BK260.out⟩, ⟨zK BK261.out⟩, ⟨zK BK262.out⟩, ⟨zB⟩⟩
 case rest =>
  clear HC3
  try clear c1
  try clear c2
  try clear p2
  try clear c8
  try clear c10
  try clear c12
  try clear c13
  try clear c16
  try clear c21
  try clear c22
  try clear c23
  try clear c25
  try clear c28
  try clear c29
  try clear hcz14_0
  try clear hcz14_1
  try clear hcz17_0
  try clear hcz17_1
  try clear hcz19_0
  try clear hcz19_1
  try clear hcz23_0
  try clear hcz23_1
  try clear hcz26_0
  try clear hcz26_1
  try clear hcz30_0
  try clear hcz30_1
  try clear hfz14_0
  try clear hfz14_1
  try clear hfz17_0
  try clear hfz17_1
  try clear hfz19_0
  try clear hfz19_1
  try clear hfz23_0
  try clear hfz23_1
  try clear hfz26_0
  try clear hfz26_1
  try clear hfz30_0
  try clear hfz30_1
  obtain ⟨kq, x30_2, rfl, HA, HJ2, BK260, BK261, BK262, HB⟩ := hcut
  cases kq with
  | zero => exact absurd HA.out (by simp [impl_ProductSpace.j0])
  | succ kj2 =>
   have H := HA.out
   clear HA
   simp only [impl_ProductSpace.j0] at H
   by_cases c32 : x30_2 = true
   · subst c32
     have H1 : (some (([] : List (List Int)), ([] : List (S41)), false)) = some (r1, r2, r3) := by rw [if_pos rfl] at H; exact H
     clear H
     have H := H1
     clear H1
     simp only [Option.some.injEq, Prod.mk.injEq] at H
     obtain ⟨rfl, rfl, rfl⟩ := H
     have hnb33 := NB262_260.out
     have hnc33 := NB260_262.out
     have hnb34 := NB262_261.out
     have hnc34 := NB261_262.out
     have hcz35_0 := zy BK262 0
     have hcz35_1 := zy BK262 1
     have hfz35_0 := blk_frozen BK262.out 0
     have hfz35_1 := blk_frozen BK262.out 1
     go_wp2
     refine bodyPost_ret (results_ct rfl _ _ gb262 27 #[.slice none 0 0, .slice none 0 0] (0, 0) _ rfl (by (with_reducible repeat (first | refine blk_drewN ?_ _ | refine blk_drew ?_ | refine blk_alloc ?_ _)); refine blk_put (cs := #[.slice none 0 0, .slice none 0 0]) ?_ 1 _ rfl; (with_reducible repeat (first | refine blk_drewN ?_ _ | refine blk_drew ?_ | refine blk_alloc ?_ _)); refine blk_put (cs := #[.slice none 0 0, .slice none 0 0]) ?_ 0 _ rfl; (with_reducible repeat (first | refine blk_drewN ?_ _ | refine blk_drew ?_ | refine blk_alloc ?_ _)); exact BK262.out) Try.underlying27 rfl (by kernel_rfl)) rfl ?_
     exact ⟨_, _, by first | rfl | (simp [errW_none, errW_some] <;> rfl) | (simp [*, errW_none, errW_some] <;> rfl), by first | exact Kd.S_nil _ _ _ _ _ | exact Kd.N_nil _ _ _ _ _ | exact Kd.V_nil _ _ _ _ _ | exact Kd.Q_nil _ _ _ _ _ | exact Kd.R_nil _ _ _ _ _, by first | exact Kd.R_nil _ _ _ _ _ | exact Kd.N_nil _ _ _ _ _ | exact Kd.V_nil _ _ _ _ _ | exact Kd.Q_nil _ _ _ _ _ | exact Kd.S_nil _ _ _ _ _, zB⟩
   · replace c32 := Bool.eq_false_iff.mpr c32
     subst c32
     have H1 : (if (wrap64 ((l0_0.length : Int) * (l1_0.length : Int))) > 300 then (impl_ProductSpace.j1 kj2 (l1_0.length : Int) true l0_0 l0_1 l1_0 l1_1) else (impl_ProductSpace.j1 kj2 (l1_0.length : Int) (decide ((wrap64 ((wrap64 ((l0_0.length : Int) * (l1_1.length : Int))) + (wrap64 ((l1_0.length : Int) * (l0_1.length : Int))))) > 6000)) l0_0 l0_1 l1_0 l1_1)) = some (r1, r2, r3) := by rw [if_neg (show ¬ (false = true) by decide)] at H; exact H
     clear H
     have H := H1
     clear H1
     have HC36 := Aside0.mk H
     clear H
     have hnb37 := NB261_260.out
     have hnc37 := NB260_261.out
     have hnb38 := NB261_262.out
     have hnc38 := NB262_261.out
     have hcz39_0 := zy BK261 0
     have hcz39_1 := zy BK261 1
     have hfz39_0 := blk_frozen BK261.out 0
     have hfz39_1 := blk_frozen BK261.out 1
     go_upto_region 4 with (fail)
     go_cut [56] (fun v56 wc => ∃ (kq : Nat) (x56_35 : Bool), v56 = .bool x56_35 ∧ Aside0 (impl_ProductSpace.j1 kq (l1_0.length : Int) x56_35 l0_0 l0_1 l1_0 l1_1 = some (r1, r2, r3)) ∧ Aside0 (kq ≤ kj2) ∧ Aside0 (wc.heap[gb260]? = some (.cells #[(.slice A0_0 l0_0.length c0_0), (.slice A0_1 l0_1.length c0_1)] 27 (0, 0))) ∧ Aside0 (wc.heap[gb261]? = some (.cells #[(.slice A1_0 l1_0.length c1_0), (.slice A1_1 l1_1.length c1_1)] 27 (0, 0))) ∧ Aside0 (wc.heap[gb262]? = some (.cells #[(.slice none 0 0), (.slice none 0 0)] 27 (0, 0))) ∧ Aside0 (Below w.heap.size w wc))
     case first =>
      have H := HC36.out
      clear HC36
      by_cases c40 : (wrap64 ((l0_0.length : Int) * (l1_0.length : Int))) > 300
      · rw [if_pos c40] at H
        have c40b0 : decide (300 < (wrap64 ((l0_0.length : Int) * (l1_0.length : Int)))) = true := decide_eq_true c40
        clear c40
        (first | rw [c40b0] | (simp only [i64_w, i32_w]; rw [c40b0]) | skip)
        have H' := Aside0.mk H
        clear H
        have hnb41 := NB260_261.out
        have hnc41 := NB261_260.out
        have hnb42 := NB260_262.out
        have hnc42 := NB262_260.out
        have hcz43_0 := zy BK260 0
        have hcz43_1 := zy BK260 1
        have hfz43_0 := blk_frozen BK260.out 0
        have hfz43_1 := blk_frozen BK260.out 1
        (repeat (first | go_skip | go_guarded | go_step | go_upon))
        go_meet
        case rel => exact ⟨_, (true), (by first | rfl | (simp; done) | (simp [*]; done)), H', ⟨by have := HJ2.out; first | omega | exact Nat.le_refl _⟩, ⟨zK BK260.out⟩, ⟨zK BK261.out⟩, ⟨zK BK262.out⟩, ⟨zB⟩⟩
      · rw [if_neg c40] at H
        have c40b0 : decide (300 < (wrap64 ((l0_0.length : Int) * (l1_0.length : Int)))) = false := decide_eq_false c40
        clear c40
        (first | rw [c40b0] | (simp only [i64_w, i32_w]; rw [c40b0]) | skip)
        have H' := Aside0.mk H
        clear H
        have hnb44 := NB260_261.out
        have hnc44 := NB261_260.out
        have hnb45 := NB260_262.out
        have hnc45 := NB262_260.out
        have hcz46_0 := zy BK260 0
        have hcz46_1 := zy BK260 1
        have hfz46_0 := blk_frozen BK260.out 0
        have hfz46_1 := blk_frozen BK260.out 1
        have hnb47 := NB261_262.out
        have hnc47 := NB262_261.out
        have hcz48_0 := zy BK261 0
        have hcz48_1 := zy BK261 1
        have hfz48_0 := blk_frozen BK261.out 0
        have hfz48_1 := blk_frozen BK261.out 1
        (repeat (first | go_skip | go_guarded | go_step | go_upon))
        go_meet
        case rel => exact ⟨_, (decide ((wrap64 ((wrap64 ((l0_0.length : Int) * (l1_1.length : Int))) + (wrap64 ((l1_0.length : Int) * (l0_1.length : Int))))) > 6000)), (by first | rfl | (simp; done) | (simp [*]; done)), H', ⟨by have := HJ2.out; first | omega | exact Nat.le_refl _⟩, ⟨zK BK260.out⟩, ⟨zK BK261.out⟩, ⟨zK BK262.out⟩, ⟨zB⟩⟩
     case rest =>
      clear HC36
      try clear c1
      try clear c2
      try clear p2
      try clear c3
      try clear c4
      try clear p6
      try clear c8
      try clear c10
      try clear c12
      try clear c13
      try clear c16
      try clear c21
      try clear c22
      try clear c23
      try clear c25
      try clear c28
      try clear c29
      try clear c32
      try clear c33
      try clear c34
      try clear c37
      try clear c38
      try clear c40
      try clear c40b0
      try clear c41
      try clear c42
      try clear c44
      try clear c45
      try clear c47
      try clear hcz14_0
      try clear hcz14_1
      try clear hcz17_0
      try clear hcz17_1
      try clear hcz19_0
      try clear hcz19_1
      try clear hcz23_0
      try clear hcz23_1
      try clear hcz26_0
      try clear hcz26_1
      try clear hcz30_0
      try clear hcz30_1
      try clear hcz35_0
      try clear hcz35_1
      try clear hcz39_0
      try clear hcz39_1
      try clear hcz43_0
      try clear hcz43_1
      try clear hcz46_0
      try clear hcz46_1
      try clear hcz48_0
      try clear hcz48_1
      try clear hfz14_0
      try clear hfz14_1
      try clear hfz17_0
      try clear hfz17_1
      try clear hfz19_0
      try clear hfz19_1
      try clear hfz23_0
      try clear hfz23_1
      try clear hfz26_0
      try clear hfz26_1
      try clear hfz30_0
      try clear hfz30_1
      try clear hfz35_0
      try clear hfz35_1
      try clear hfz39_0
      try clear hfz39_1
      try clear hfz43_0
      try clear hfz43_1
      try clear hfz46_0
      try clear hfz46_1
      try clear hfz48_0
      try clear hfz48_1
      try clear p2
      obtain ⟨kq, x56_35, rfl, HA, HJ35, BK260, BK261, BK262, HB⟩ := hcut
      cases kq with
      | zero => exact absurd HA.out (by simp [impl_ProductSpace.j1])
      | succ kj35 =>
       have H := HA.out
       clear HA
       simp only [impl_ProductSpace.j1] at H
       by_cases c49 : x56_35 = true
       · subst c49
         have H1 : (some (([] : List (List Int)), ([] : List (S41)), false)) = some (r1, r2, r3) := by rw [if_pos rfl] at H; exact H
         clear H
         have H := H1
         clear H1
         simp only [Option.some.injEq, Prod.mk.injEq] at H
         obtain ⟨rfl, rfl, rfl⟩ := H
         have hnb50 := NB262_260.out
         have hnc50 := NB260_262.out
         have hnb51 := NB262_261.out
         have hnc51 := NB261_262.out
         have hcz52_0 := zy BK262 0
         have hcz52_1 := zy BK262 1
         have hfz52_0 := blk_frozen BK262.out 0
         have hfz52_1 := blk_frozen BK262.out 1
         (repeat (first | go_skip | go_guarded | go_step | go_upon))
         refine bodyPost_ret (results_ct rfl _ _ gb262 27 #[.slice none 0 0, .slice none 0 0] (0, 0) _ rfl (by (with_reducible repeat (first | refine blk_drewN ?_ _ | refine blk_drew ?_ | refine blk_alloc ?_ _)); refine blk_put (cs := #[.slice none 0 0, .slice none 0 0]) ?_ 1 _ rfl; (with_reducible repeat (first | refine blk_drewN ?_ _ | refine blk_drew ?_ | refine blk_alloc ?_ _)); refine blk_put (cs := #[.slice none 0 0, .slice none 0 0]) ?_ 0 _ rfl; (with_reducible repeat (first | refine blk_drewN ?_ _ | refine blk_drew ?_ | refine blk_alloc ?_ _)); exact BK262.out) Try.underlying27 rfl (by kernel_rfl)) rfl ?_
         exact ⟨_, _, by first | rfl | (simp [errW_none, errW_some] <;> rfl) | (simp [*, errW_none, errW_some] <;> rfl), by first | exact Kd.S_nil _ _ _ _ _ | exact Kd.N_nil _ _ _ _ _ | exact Kd.V_nil _ _ _ _ _ | exact Kd.Q_nil _ _ _ _ _ | exact Kd.R_nil _ _ _ _ _, by first | exact Kd.R_nil _ _ _ _ _ | exact Kd.N_nil _ _ _ _ _ | exact Kd.V_nil _ _ _ _ _ | exact Kd.Q_nil _ _ _ _ _ | exact Kd.S_nil _ _ _ _ _, zB⟩
       · replace c49 := Bool.eq_false_iff.mpr c49
         subst c49
         have H1 : (impl_ProductSpace.l0 kj35 (l1_0.length : Int) l0_0 (l0_0.length : Int) 0 l0_0 l0_1 l1_0 l1_1 ([] : List (List Int)) ([] : List (S41))) = some (r1, r2, r3) := by rw [if_neg (show ¬ (false = true) by decide)] at H; exact H
         clear H
         have H := H1
         clear H1
         have H' := Aside0.mk H
         clear H
         (repeat (first | (first | ((with_reducible refine gate_dst (N := 7) rfl ?_); (try (refine gate_guard (by rfl) ?_; dsimp only)); refine ze 7 #[.slice none 0 0, .slice none 0 0] 27 ?_; intro gb266 hg w53 hbox hb; have BK266 := zM (hbox); have GW266 := zM ((by rw [hg]; exact (below_size zB) : w.heap.size ≤ gb266)); have GE266 := zM ((by rw [hg]; exact (below_size zB) : w.heap.size ≤ gb266)); replace HB := zM (below_step zB hb); have NB260_266 := zM ((by rw [hg]; exact Nat.ne_of_lt (blk_lt (g := gb260) (o := .cells #[.slice A0_0 l0_0.length c0_0, .slice A0_1 l0_1.length c0_1] 27 (0, 0)) (zK BK260.out)) : gb260 ≠ gb266)); have NB266_260 := zM ((by rw [hg]; exact Nat.ne_of_gt (blk_lt (g := gb260) (o := .cells #[.slice A0_0 l0_0.length c0_0, .slice A0_1 l0_1.length c0_1] 27 (0, 0)) (zK BK260.out)) : gb266 ≠ gb260)); replace BK260 := zM (blk_below (g := gb260) (o := .cells #[.slice A0_0 l0_0.length c0_0, .slice A0_1 l0_1.length c0_1] 27 (0, 0)) (zK BK260.out) hb); have NB261_266 := zM ((by rw [hg]; exact Nat.ne_of_lt (blk_lt (g := gb261) (o := .cells #[.slice A1_0 l1_0.length c1_0, .slice A1_1 l1_1.length c1_1] 27 (0, 0)) (zK BK261.out)) : gb261 ≠ gb266)); have NB266_261 := zM ((by rw [hg]; exact Nat.ne_of_gt (blk_lt (g := gb261) (o := .cells #[.slice A1_0 l1_0.length c1_0, .slice A1_1 l1_1.length c1_1] 27 (0, 0)) (zK BK261.out)) : gb266 ≠ gb261)); replace BK261 := zM (blk_below (g := gb261) (o := .cells #[.slice A1_0 l1_0.length c1_0, .slice A1_1 l1_1.length c1_1] 27 (0, 0)) (zK BK261.out) hb); have NB262_266 := zM ((by rw [hg]; exact Nat.ne_of_lt (blk_lt (g := gb262) (o := .cells #[.slice none 0 0, .slice none 0 0] 27 (0, 0)) (zK BK262.out)) : gb262 ≠ gb266)); have NB266_262 := zM ((by rw [hg]; exact Nat.ne_of_gt (blk_lt (g := gb262) (o := .cells #[.slice none 0 0, .slice none 0 0] 27 (0, 0)) (zK BK262.out)) : gb266 ≠ gb262)); replace BK262 := zM (blk_below (g := gb262) (o := .cells #[.slice none 0 0, .slice none 0 0] 27 (0, 0)) (zK BK262.out) hb); clear hb hbox hg; have hnb54 := NB266_260.out; have hnc54 := NB260_266.out; have hnb55 := NB266_261.out; have hnc55 := NB261_266.out; have hnb56 := NB266_262.out; have hnc56 := NB262_266.out; have hcz57_0 := zy BK266 0; have hcz57_1 := zy BK266 1; have hfz57_0 := blk_frozen BK266.out 0; have hfz57_1 := blk_frozen BK266.out 1; have hnb58 := NB260_261.out; have hnc58 := NB261_260.out; have hnb59 := NB260_262.out; have hnc59 := NB262_260.out; have hcz60_0 := zy BK260 0; have hcz60_1 := zy BK260 1; have hfz60_0 := blk_frozen BK260.out 0; have hfz60_1 := blk_frozen BK260.out 1)) | go_skip | go_guarded | go_step | go_upon))
         go_loopg [62] kj35 (fun kq v62 w' => ∃ (x62_3 : Int) (x267000_3 : List (List Int)) (x267001_3 : List (S41)) (u267000 : Value) (u267001 : Value), v62 = .int .i64 x62_3 ∧ Aside0 (impl_ProductSpace.l0 kq (l1_0.length : Int) l0_0 (l0_0.length : Int) x62_3 l0_0 l0_1 l1_0 l1_1 x267000_3 x267001_3 = some (r1, r2, r3)) ∧ Aside0 (kq ≤ kj35) ∧ Aside0 (Kd.S (Kd.slice 3 (Kd.int .i64)) 39 w' w.heap.size (fun _ => True) u267000 x267000_3) ∧ Aside0 (Kd.R k41 41 w' w.heap.size (fun _ => True) u267001 x267001_3) ∧ Aside0 (w'.heap[gb260]? = some (.cells #[(.slice A0_0 l0_0.length c0_0), (.slice A0_1 l0_1.length c0_1)] 27 (0, 0))) ∧ Aside0 (w'.heap[gb261]? = some (.cells #[(.slice A1_0 l1_0.length c1_0), (.slice A1_1 l1_1.length c1_1)] 27 (0, 0))) ∧ Aside0 (w'.heap[gb262]? = some (.cells #[(.slice none 0 0), (.slice none 0 0)] 27 (0, 0))) ∧ Aside0 (w'.heap[gb266]? = some (.cells #[u267000, u267001] 27 (0, 0))) ∧ Aside0 (Below w.heap.size w w'))
         case atStart => exact ⟨(0), (([] : List (List Int))), (([] : List (S41))), (.slice none 0 0), (.slice none 0 0), (by first | rfl | (simp; done) | (simp [*]; done)), H', ⟨Nat.le_refl _⟩, ⟨by first | exact Kd.S_nil _ _ _ _ _ | exact Kd.N_nil _ _ _ _ _ | exact Kd.V_nil _ _ _ _ _ | exact Kd.Q_nil _ _ _ _ _ | exact Kd.R_nil _ _ _ _ _⟩, ⟨by first | exact Kd.R_nil _ _ _ _ _ | exact Kd.N_nil _ _ _ _ _ | exact Kd.V_nil _ _ _ _ _ | exact Kd.Q_nil _ _ _ _ _ | exact Kd.S_nil _ _ _ _ _⟩, ⟨by (with_reducible repeat (first | refine blk_drewN ?_ _ | refine blk_drew ?_ | refine blk_alloc ?_ _)); refine blk_far ?_ NB260_266.out _; (with_reducible repeat (first | refine blk_drewN ?_ _ | refine blk_drew ?_ | refine blk_alloc ?_ _)); refine blk_far ?_ NB260_266.out _; (with_reducible repeat (first | refine blk_drewN ?_ _ | refine blk_drew ?_ | refine blk_alloc ?_ _)); exact BK260.out⟩, ⟨by (with_reducible repeat (first | refine blk_drewN ?_ _ | refine blk_drew ?_ | refine blk_alloc ?_ _)); refine blk_far ?_ NB261_266.out _; (with_reducible repeat (first | refine blk_drewN ?_ _ | refine blk_drew ?_ | refine blk_alloc ?_ _)); refine blk_far ?_ NB261_266.out _; (with_reducible repeat (first | refine blk_drewN ?_ _ | refine blk_drew ?_ | refine blk_alloc ?_ _)); exact BK261.out⟩, ⟨by (with_reducible repeat (first | refine blk_drewN ?_ _ | refine blk_drew ?_ | refine blk_alloc ?_ _)); refine blk_far ?_ NB262_266.out _; (with_reducible repeat (first | refine blk_drewN ?_ _ | refine blk_drew ?_ | refine blk_alloc ?_ _)); refine blk_far ?_ NB262_266.out _; (with_reducible repeat (first | refine blk_drewN ?_ _ | refine blk_drew ?_ | refine blk_alloc ?_ _)); exact BK262.out⟩, ⟨by (with_reducible repeat (first | refine blk_drewN ?_ _ | refine blk_drew ?_ | refine blk_alloc ?_ _)); refine blk_put (cs := #[.slice none 0 0, .slice none 0 0]) ?_ 1 _ rfl; (with_reducible repeat (first | refine blk_drewN ?_ _ | refine blk_drew ?_ | refine blk_alloc ?_ _)); refine blk_put (cs := #[.slice none 0 0, .slice none 0 0]) ?_ 0 _ rfl; (with_reducible repeat (first | refine blk_drewN ?_ _ | refine blk_drew ?_ | refine blk_alloc ?_ _)); exact BK266.out⟩, ⟨zB⟩⟩
         case round =>
          clear H'
          try clear c1
          try clear c2
          try clear p2
          try clear c3
          try clear c4
          try clear c5
          try clear p6
          try clear c8
          try clear c10
          try clear c12
          try clear c13
          try clear c16
          try clear c21
          try clear c22
          try clear c23
          try clear c25
          try clear c28
          try clear c29
          try clear c32
          try clear c33
          try clear c34
          try clear c37
          try clear c38
          try clear c40
          try clear c40b0
          try clear c41
          try clear c42
          try clear c44
          try clear c45
          try clear c47
          try clear c49
          try clear c50
          try clear c51
          try clear c54
          try clear c55
          try clear c56
          try clear c58
          try clear c59
          try clear hcz14_0
          try clear hcz14_1
          try clear hcz17_0
          try clear hcz17_1
          try clear hcz19_0
          try clear hcz19_1
          try clear hcz23_0
          try clear hcz23_1
          try clear hcz26_0
          try clear hcz26_1
          try clear hcz30_0
          try clear hcz30_1
          try clear hcz35_0
          try clear hcz35_1
          try clear hcz39_0
          try clear hcz39_1
          try clear hcz43_0
          try clear hcz43_1
          try clear hcz46_0
          try clear hcz46_1
          try clear hcz48_0
          try clear hcz48_1
          try clear hcz52_0
          try clear hcz52_1
          try clear hcz57_0
          try clear hcz57_1
          try clear hcz60_0
          try clear hcz60_1
          try clear hfz14_0
          try clear hfz14_1
          try clear hfz17_0
          try clear hfz17_1
          try clear hfz19_0
          try clear hfz19_1
          try clear hfz23_0
          try clear hfz23_1
          try clear hfz26_0
          try clear hfz26_1
          try clear hfz30_0
          try clear hfz30_1
          try clear hfz35_0
          try clear hfz35_1
          try clear hfz39_0
          try clear hfz39_1
          try clear hfz43_0
          try clear hfz43_1
          try clear hfz46_0
          try clear hfz46_1
          try clear hfz48_0
          try clear hfz48_1
          try clear hfz52_0
          try clear hfz52_1
          try clear hfz57_0
          try clear hfz57_1
          try clear hfz60_0
          try clear hfz60_1
          try clear p2
          try clear p6
          obtain ⟨x62_3, x267000_3, x267001_3, u267000, u267001, rfl, HA, HK3, HO_267000, HO_267001, BK260, BK261, BK262, BK266, HB⟩ := hrel
          cases gk with
          | zero => exact absurd HA.out (by simp [impl_ProductSpace.l0])
          | succ k3 =>
           have H := HA.out
           clear HA
           simp only [impl_ProductSpace.l0] at H
           by_cases c61 : x62_3 < (l0_0.length : Int)
           · rw [if_pos c61] at H
             have c61b0 := decide_eq_true c61
             clear c61
             by_cases c62 : 0 ≤ x62_3
             · rw [if_pos c62] at H
               have c62b0 := decide_eq_true c62
               clear c62
               by_cases c63 : x62_3 < (l0_0.length : Int)
               · rw [if_pos c63] at H
                 have c63b0 := decide_eq_true c63
                 clear c63
                 have H' := Aside0.mk H
                 clear H
                 have p267 : 0 ≤ (x62_3 : Int) := of_decide_eq_true zA
                 have q267 : x62_3 < (l0_0.length : Int) := of_decide_eq_true zA
                 obtain ⟨ad267, A267_0, c267_0, e267, hx267_0, hl267_0, hi267_0⟩ := at_L1 HR0_0.out x62_3 p267 q267
                 cases e267
                 (try replace hx267_0 := (HB.out.cell (World.block_lt_of_cell? w _ hx267_0)).trans hx267_0)
                 have HR267_0 := Aside0.mk hi267_0
                 have HC267_0 := Aside0.mk hl267_0
                 clear hi267_0 hl267_0
                 replace p267 := eq_true p267
                 replace q267 := eq_true q267
                 have hnb64 := NB261_260.out
                 have hnc64 := NB260_261.out
                 have hnb65 := NB261_262.out
                 have hnc65 := NB262_261.out
                 have hnb66 := NB261_266.out
                 have hnc66 := NB266_261.out
                 have hcz67_0 := zy BK261 0
                 have hcz67_1 := zy BK261 1
                 have hfz67_0 := blk_frozen BK261.out 0
                 have hfz67_1 := blk_frozen BK261.out 1
                 (repeat (first | go_skip | go_guarded | go_step | go_upon))
                 go_loopg [70] k3 (fun kq v70 w' => ∃ (x70_4 : Int) (x267000_4 : List (List Int)) (u267000 : Value), v70 = .int .i64 x70_4 ∧ Aside0 (impl_ProductSpace.l1 kq (l1_0.length : Int) x62_3 (rd_L1 l0_0 x62_3) l0_0 (l0_0.length : Int) x62_3 l1_0 (l1_0.length : Int) x70_4 l0_0 l0_1 l1_0 l1_1 x267000_4 x267001_3 = some (r1, r2, r3)) ∧ Aside0 (kq ≤ k3) ∧ Aside0 (Kd.S (Kd.slice 3 (Kd.int .i64)) 39 w' w.heap.size (fun _ => True) u267000 x267000_4) ∧ Aside0 (Kd.R k41 41 w' w.heap.size (fun _ => True) u267001 x267001_3) ∧ Aside0 (w'.heap[gb260]? = some (.cells #[(.slice (some ad267) l0_0.length c0_0), (.slice A0_1 l0_1.length c0_1)] 27 (0, 0))) ∧ Aside0 (w'.heap[gb261]? = some (.cells #[(.slice A1_0 l1_0.length c1_0), (.slice A1_1 l1_1.length c1_1)] 27 (0, 0))) ∧ Aside0 (w'.heap[gb262]? = some (.cells #[(.slice none 0 0), (.slice none 0 0)] 27 (0, 0))) ∧ Aside0 (w'.heap[gb266]? = some (.cells #[u267000, u267001] 27 (0, 0))) ∧ Aside0 (Below w.heap.size w w'))
                 case atStart => exact ⟨(0), (x267000_3), (u267000), (by first | rfl | (simp; done) | (simp [*]; done)), H', ⟨Nat.le_refl _⟩, ⟨by (with_reducible repeat (first | apply Kd.S_alloc | apply Kd.S_drewN | apply Kd.S_drew)); exact HO_267000.out⟩, ⟨zR HO_267001.out⟩, ⟨zK BK260.out⟩, ⟨zK BK261.out⟩, ⟨zK BK262.out⟩, ⟨zK BK266.out⟩, ⟨zB⟩⟩
                 case round =>
                  clear H'
                  try clear c1
                  try clear c2
                  try clear p2
                  try clear q2
                  try clear hx2
                  try clear c3
                  try clear c4
                  try clear c5
                  try clear c6
                  try clear p6
                  try clear c8
                  try clear c10
                  try clear c12
                  try clear c13
                  try clear c16
                  try clear c21
                  try clear c22
                  try clear c23
                  try clear c25
                  try clear c26
                  try clear p26
                  try clear q26
                  try clear hx26
                  try clear c28
                  try clear c29
                  try clear c32
                  try clear c33
                  try clear c34
                  try clear c37
                  try clear c38
                  try clear c40
                  try clear c40b0
                  try clear c41
                  try clear c42
                  try clear c44
                  try clear c45
                  try clear c47
                  try clear c49
                  try clear c50
                  try clear c51
                  try clear c54
                  try clear c55
                  try clear c56
                  try clear c58
                  try clear c59
                  try clear c61
                  try clear c61b0
                  try clear c62
                  try clear c62b0
                  try clear c63
                  try clear c63b0
                  try clear c64
                  try clear p64
                  try clear c65
                  try clear c66
                  try clear hcz14_0
                  try clear hcz14_1
                  try clear hcz17_0
                  try clear hcz17_1
                  try clear hcz19_0
                  try clear hcz19_1
                  try clear hcz23_0
                  try clear hcz23_1
                  try clear hcz26_0
                  try clear hcz26_1
                  try clear hcz30_0
                  try clear hcz30_1
                  try clear hcz35_0
                  try clear hcz35_1
                  try clear hcz39_0
                  try clear hcz39_1
                  try clear hcz43_0
                  try clear hcz43_1
                  try clear hcz46_0
                  try clear hcz46_1
                  try clear hcz48_0
                  try clear hcz48_1
                  try clear hcz52_0
                  try clear hcz52_1
                  try clear hcz57_0
                  try clear hcz57_1
                  try clear hcz60_0
                  try clear hcz60_1
                  try clear hcz67_0
                  try clear hcz67_1
                  try clear hfz14_0
                  try clear hfz14_1
                  try clear hfz17_0
                  try clear hfz17_1
                  try clear hfz19_0
                  try clear hfz19_1
                  try clear hfz23_0
                  try clear hfz23_1
                  try clear hfz26_0
                  try clear hfz26_1
                  try clear hfz30_0
                  try clear hfz30_1
                  try clear hfz35_0
                  try clear hfz35_1
                  try clear hfz39_0
                  try clear hfz39_1
                  try clear hfz43_0
                  try clear hfz43_1
                  try clear hfz46_0
                  try clear hfz46_1
                  try clear hfz48_0
                  try clear hfz48_1
                  try clear hfz52_0
                  try clear hfz52_1
                  try clear hfz57_0
                  try clear hfz57_1
                  try clear hfz60_0
                  try clear hfz60_1
                  try clear hfz67_0
                  try clear hfz67_1
                  try clear hx267_0
                  try clear p2
                  try clear p267
                  try clear p6
                  try clear q267
                  obtain ⟨x70_4, x267000_4, u267000, rfl, HA, HK4, HO_267000, HO_267001, BK260, BK261, BK262, BK266, HB⟩ := hrel
                  cases gk with
                  | zero => exact absurd HA.out (by simp [impl_ProductSpace.l1])
                  | succ k4 =>
                   have H := HA.out
                   clear HA
                   simp only [impl_ProductSpace.l1] at H
                   by_cases c68 : x70_4 < (l1_0.length : Int)
                   · rw [if_pos c68] at H
                     have c68b0 := decide_eq_true c68
                     clear c68
                     by_cases c69 : 0 ≤ x70_4
                     · rw [if_pos c69] at H
                       have c69b0 := decide_eq_true c69
                       clear c69
                       by_cases c70 : x70_4 < (l1_0.length : Int)
                       · rw [if_pos c70] at H
                         have c70b0 := decide_eq_true c70
                         clear c70
                         by_cases c71 : (wrap64 (((rd_L1 l0_0 x62_3).length : Int) + ((rd_L1 l1_0 x70_4).length : Int))) > 24
                         · rw [if_pos c71] at H
                           have c71b0 : decide (24 < (wrap64 (((rd_L1 l0_0 x62_3).length : Int) + ((rd_L1 l1_0 x70_4).length : Int)))) = true := decide_eq_true c71
                           clear c71
                           simp only [Option.some.injEq, Prod.mk.injEq] at H
                           obtain ⟨rfl, rfl, rfl⟩ := H
                           have p268 : 0 ≤ (x70_4 : Int) := of_decide_eq_true zA
                           have q268 : x70_4 < (l1_0.length : Int) := of_decide_eq_true zA
                           obtain ⟨ad268, A268_0, c268_0, e268, hx268_0, hl268_0, hi268_0⟩ := at_L1 HR1_0.out x70_4 p268 q268
                           cases e268
                           (try replace hx268_0 := (HB.out.cell (World.block_lt_of_cell? w _ hx268_0)).trans hx268_0)
                           have HR268_0 := Aside0.mk hi268_0
                           have HC268_0 := Aside0.mk hl268_0
                           clear hi268_0 hl268_0
                           replace p268 := eq_true p268
                           replace q268 := eq_true q268
                           have hnb72 := NB262_260.out
                           have hnc72 := NB260_262.out
                           have hnb73 := NB262_261.out
                           have hnc73 := NB261_262.out
                           have hnb74 := NB262_266.out
                           have hnc74 := NB266_262.out
                           have hcz75_0 := zy BK262 0
                           have hcz75_1 := zy BK262 1
                           have hfz75_0 := blk_frozen BK262.out 0
                           have hfz75_1 := blk_frozen BK262.out 1
                           (repeat (first | go_skip | go_guarded | go_step | go_upon))
                           refine bodyPost_ret (results_ct rfl _ _ gb262 27 #[.slice none 0 0, .slice none 0 0] (0, 0) _ rfl (by (with_reducible repeat (first | refine blk_drewN ?_ _ | refine blk_drew ?_ | refine blk_alloc ?_ _)); refine blk_put (cs := #[.slice none 0 0, .slice none 0 0]) ?_ 1 _ rfl; (with_reducible repeat (first | refine blk_drewN ?_ _ | refine blk_drew ?_ | refine blk_alloc ?_ _)); refine blk_put (cs := #[.slice none 0 0, .slice none 0 0]) ?_ 0 _ rfl; (with_reducible repeat (first | refine blk_drewN ?_ _ | refine blk_drew ?_ | refine blk_alloc ?_ _)); exact BK262.out) Try.underlying27 rfl (by kernel_rfl)) rfl ?_
                           exact ⟨_, _, by first | rfl | (simp [errW_none, errW_some] <;> rfl) | (simp [*, errW_none, errW_some] <;> rfl), by first | exact Kd.S_nil _ _ _ _ _ | exact Kd.N_nil _ _ _ _ _ | exact Kd.V_nil _ _ _ _ _ | exact Kd.Q_nil _ _ _ _ _ | exact Kd.R_nil _ _ _ _ _, by first | exact Kd.R_nil _ _ _ _ _ | exact Kd.N_nil _ _ _ _ _ | exact Kd.V_nil _ _ _ _ _ | exact Kd.Q_nil _ _ _ _ _ | exact Kd.S_nil _ _ _ _ _, zB⟩
                         · rw [if_neg c71] at H
                           have c71b0 : decide (24 < (wrap64 (((rd_L1 l0_0 x62_3).length : Int) + ((rd_L1 l1_0 x70_4).length : Int)))) = false := decide_eq_false c71
                           clear c71
                           replace H := Option.bind_eq_some_iff.mp H
                           obtain ⟨t269, A760, H⟩ := H
                           replace H : (if x267000_4.length < 5864062014805 then (impl_ProductSpace.l1 k4 (l1_0.length : Int) x62_3 (rd_L1 l0_0 x62_3) l0_0 (l0_0.length : Int) x62_3 l1_0 (l1_0.length : Int) (wrap64 (x70_4 + 1)) l0_0 l0_1 l1_0 l1_1 (x267000_4 ++ [t269]) x267001_3) else (none)) = some (r1, r2, r3) := H
                           have A76 := Aside0.mk A760
                           clear A760
                           by_cases c77 : x267000_4.length < 5864062014805
                           · rw [if_pos c77] at H
                             have LMc77 := Aside0.mk c77
                             clear c77
                             obtain ⟨y272, hy272⟩ : ∃ y_ : List (List Int), y_ = (x267000_4 ++ [t269]) := ⟨_, rfl⟩
                             replace H : (impl_ProductSpace.l1 k4 (l1_0.length : Int) x62_3 (rd_L1 l0_0 x62_3) l0_0 (l0_0.length : Int) x62_3 l1_0 (l1_0.length : Int) (wrap64 (x70_4 + 1)) l0_0 l0_1 l1_0 l1_1 y272 x267001_3) = some (r1, r2, r3) := by first | (rw [hy272]; with_reducible exact H) | (have H2_ := (Option.bind_some _ _).symm.trans H; rw [hy272]; with_reducible exact H2_) | (have H2_ := (Option.bind_some _ _).symm.trans H; with_reducible exact H2_) | with_reducible exact H | (rw [hy272]; exact H) | exact H
                             have Ny272 := Aside0.mk hy272
                             clear hy272
                             have H' := Aside0.mk H
                             clear H
                             have p268 : 0 ≤ (x70_4 : Int) := of_decide_eq_true zA
                             have q268 : x70_4 < (l1_0.length : Int) := of_decide_eq_true zA
                             obtain ⟨ad268, A268_0, c268_0, e268, hx268_0, hl268_0, hi268_0⟩ := at_L1 HR1_0.out x70_4 p268 q268
                             cases e268
                             (try replace hx268_0 := (HB.out.cell (World.block_lt_of_cell? w _ hx268_0)).trans hx268_0)
                             have HR268_0 := Aside0.mk hi268_0
                             have HC268_0 := Aside0.mk hl268_0
                             clear hi268_0 hl268_0
                             replace p268 := eq_true p268
                             replace q268 := eq_true q268
                             (repeat (first | go_skip | go_guarded | go_step | go_upon))
                             replace HO_267000 := zM (Kd.S_drew HO_267000.out)
                             replace HO_267001 := zM (Kd.R_drew HO_267001.out)
                             replace BK260 := zM (blk_drew BK260.out)
                             replace BK261 := zM (blk_drew BK261.out)
                             replace BK262 := zM (blk_drew BK262.out)
                             replace BK266 := zM (blk_drew BK266.out)
                             replace HB := zM (below_drew1 HB.out)
                             refine start_ (n := 10) (S := fun w' => w'.cell? ⟨gb266, 0, none⟩ = some (u267000) ∧ w'.cell? ⟨gb266, 1, none⟩ = some (u267001)) (ds := [9]) #[false, false, false, false, false, false, false, false, false, false] (by kernel_rfl) rfl rfl ⟨(blk_cell BK266.out 0).trans rfl, (blk_cell BK266.out 1).trans rfl⟩ (fun hHeld => ?_); refine with_tabW impl_ProductSpace.tab15 impl_ProductSpace.bits15 (fun HT_ HW_ => ?_)
                             generalize wr.drew = w78 at HO_267000 HO_267001 BK260 BK261 BK262 BK266 HB hHeld ⊢
                             refine zp HT_ 0 81 ?_
                             refine zp HT_ 2 83 ?_
                             refine zp HT_ 3 84 ?_
                             refine zt HT_ HW_ 1 82 hHeld ?_ (hy := by rintro w' ⟨s0, s1⟩; go_simp; with_reducible rfl)
                             refine one_ (i := 4) (N := some 85) #[true, true, true, true, true, false, false, false, false, false] rfl rfl (one_of HT_.out (by kernel_rfl)) (by decide) (fun K hK => ?_)
                             refine value_ (w1 := w78.alloc (.cells #[.slice A267_0 (rd_L1 l0_0 x62_3).length c267_0, .slice A268_0 (rd_L1 l1_0 x70_4).length c268_0] 39)) (v := .slice (some ⟨w78.heap.size, 0, none⟩) 2 2) (by rfl) rfl ?_ ?_
                             · first | (go_simp; done) | (go_simp; rfl)
                             refine hK.out _ _ ⟨(blk_cell (blk_alloc BK266.out _) 0).trans rfl, (blk_cell (blk_alloc BK266.out _) 1).trans rfl⟩ (fun hHeld => ?_)
                             clear hK K
                             refine zn 85 ?_
                             have hcat_ := two_rows w78 (rd_L1 l0_0 x62_3) (rd_L1 l1_0 x70_4) _ _ _ _ 39 (zC (Kd.C_below HR267_0.out HB.out)) (HC267_0.out) (zC (Kd.C_below HR268_0.out HB.out)) (HC268_0.out)
                             refine zg HT_ 5 86 Try.func26 #[.slice (some ⟨w78.heap.size, 0, none⟩) 2 2] (fun K hK => ?_)
                             refine (slices_Concat_int_int.calls k4 (some ⟨w78.heap.size, 0, none⟩) 2 [rd_L1 l0_0 x62_3, rd_L1 l1_0 x70_4] t269 _ hcat_ (Nat.le_refl _) A76.out).mono ?_
                             clear hcat_
                             rintro e w79 ⟨v270, rfl, ho0, hb⟩
                             refine ⟨_, rfl, ?_⟩
                             replace HO_267000 := zM (Kd.S_elder' (by (with_reducible repeat (first | apply Kd.S_alloc | apply Kd.S_drewN | apply Kd.S_drew)); exact HO_267000.out) (Kd.R_base ho0) hb)
                             replace HO_267001 := zM (Kd.R_below (zR HO_267001.out) hb)
                             have HO271 := zM (Kd.R_lower ho0 (below_size zB))
                             replace BK260 := zM (blk_below (g := gb260) (o := .cells #[.slice (some ad267) l0_0.length c0_0, .slice A0_1 l0_1.length c0_1] 27 (0, 0)) (zK BK260.out) hb)
                             replace BK261 := zM (blk_below (g := gb261) (o := .cells #[.slice (some ad268) l1_0.length c1_0, .slice A1_1 l1_1.length c1_1] 27 (0, 0)) (zK BK261.out) hb)
                             replace BK262 := zM (blk_below (g := gb262) (o := .cells #[.slice none 0 0, .slice none 0 0] 27 (0, 0)) (zK BK262.out) hb)
                             replace BK266 := zM (blk_below (g := gb266) (o := .cells #[u267000, u267001] 27 (0, 0)) (zK BK266.out) hb)
                             replace HB := zM (below_step zB hb)
                             (try clear hb)
                             (try clear hb2)
                             (try clear hk)
                             (try clear hi)
                             (try clear ho0)
                             obtain ⟨Ao81, co81, eo81⟩ := Kd.R_slice HO271.out
                             (first | subst eo81 | (injection eo81 with f1_ f2_ f3_; have f4_ := f1_.symm; have f5_ := f3_.symm; clear f1_ f2_ f3_; subst f4_; subst f5_))
                             refine hK.out _ _ ⟨(blk_cell BK266.out 0).trans rfl, (blk_cell BK266.out 1).trans rfl⟩ (fun hHeld => ?_)
                             clear hK K
                             refine zn 86 ?_
                             refine one_ (i := 6) (N := some 87) #[true, true, true, true, true, true, true, false, false, false] rfl rfl (one_of HT_.out (by kernel_rfl)) (by decide) (fun K hK => ?_)
                             refine value_ (w1 := ?_) (v := ?_) (by rfl) rfl ?_ ?_
                             rotate_left 2
                             · go_simp
                               constructor
                               · rfl
                               · rfl
                             refine hK.out _ _ ⟨(blk_cell (blk_alloc BK266.out _) 0).trans rfl, (blk_cell (blk_alloc BK266.out _) 1).trans rfl⟩ (fun hHeld => ?_)
                             clear hK K
                             refine zn 87 ?_
                             refine one_ (i := 7) (N := some 88) #[true, true, true, true, true, true, true, true, false, false] rfl rfl (one_of HT_.out (by kernel_rfl)) (by decide) (fun K hK => ?_)
                             refine Kd.S_append_step (Kd.slice 3 (Kd.int .i64)) (w0 := w) w.heap.size (by rfl) (.tmp 82) (.tmp 87) 22 39 (.slice none 0 0) 24 rfl Try.underlying22 info39 rfl (by decide) (by omega) u267000 x267000_4 t269 [.slice Ao81 t269.length co81] (fun _ => True) (fun k_ => some k_ = (.slice Ao81 t269.length co81 : Value).ownBlock) rfl rfl ?aP (fun k_ hk_ => ((Kd.R_mono (ok' := fun k_ => ((fun _ => True)) k_ ∧ some k_ ≠ (u267000 : Value).ownBlock) (Kd.R_apart' (HO271.out) (Kd.S_typed HO_267000.out) (by decide)) (fun k_ hk => ⟨trivial, hk.2⟩))).1 k_ hk_.symm) ?aF ?aO ?aB ?aS ?aL ?_
                             (case aP => exact Kd.M_row (Kd.R_mono (Kd.R_tight rfl (Kd.R_mono (ok' := fun k_ => ((fun _ => True)) k_ ∧ some k_ ≠ (u267000 : Value).ownBlock) (Kd.R_apart' (HO271.out) (Kd.S_typed HO_267000.out) (by decide)) (fun k_ hk => ⟨trivial, hk.2⟩))) (fun _ h_ => h_)))
                             (case aB => exact zB)
                             (case aF => exact (fun _ _ => trivial))
                             (case aO => exact (by (with_reducible repeat (first | apply Kd.S_alloc | apply Kd.S_drewN | apply Kd.S_drew)); exact Kd.S_mono HO_267000.out (fun k_ hk => ⟨trivial, fun e_ => hk.2 e_⟩)))
                             (case aS => exact (below_size zB))
                             (case aL => have := LMc77.out; omega)
                             intro v273 w80 ho hb hg hat
                             rw [← Ny272.out] at ho
                             replace HO_267001 := zM (Kd.R_over' (zR HO_267001.out) (Kd.S_typed (by (with_reducible repeat (first | apply Kd.S_alloc | apply Kd.S_drewN | apply Kd.S_drew)); exact HO_267000.out)) (by decide) hg)
                             replace BK260 := zM (blk_grown (g := gb260) (o := .cells #[.slice (some ad267) l0_0.length c0_0, .slice A0_1 l0_1.length c0_1] 27 (0, 0)) (zK BK260.out) hg (Kd.S_ne HO_267000.out BK260.out (by decide)))
                             replace BK261 := zM (blk_grown (g := gb261) (o := .cells #[.slice (some ad268) l1_0.length c1_0, .slice A1_1 l1_1.length c1_1] 27 (0, 0)) (zK BK261.out) hg (Kd.S_ne HO_267000.out BK261.out (by decide)))
                             replace BK262 := zM (blk_grown (g := gb262) (o := .cells #[.slice none 0 0, .slice none 0 0] 27 (0, 0)) (zK BK262.out) hg (Kd.S_ne HO_267000.out BK262.out (by decide)))
                             replace BK266 := zM (blk_grown (g := gb266) (o := .cells #[u267000, u267001] 27 (0, 0)) (zK BK266.out) hg (Kd.S_ne HO_267000.out BK266.out (by decide)))
                             replace HB := zM (hb)
                             have HO274 := zM (ho)
                             clear HO_267000 HO271
                             clear ho hb hg hat
                             obtain ⟨Ao82, co82, eo82⟩ := Kd.S_slice HO274.out
                             (first | subst eo82 | (injection eo82 with f1_ f2_ f3_; have f4_ := f1_.symm; have f5_ := f3_.symm; clear f1_ f2_ f3_; subst f4_; subst f5_))
                             refine hK.out _ _ ⟨(blk_cell BK266.out 0).trans rfl, (blk_cell BK266.out 1).trans rfl⟩ (fun hHeld => ?_)
                             clear hK K
                             refine zn 88 ?_
                             refine zp HT_ 8 89 ?_
                             refine last_ (i := 9) (N := none) #[true, true, true, true, true, true, true, true, true, true] rfl rfl (one_of HT_.out (by kernel_rfl)) (by decide) (fun K hK => ?_)
                             have hs83 : w80.cell? ⟨gb266, 0, none⟩ = some (u267000) := (blk_cell BK266.out 0).trans rfl
                             have hfs83 := blk_frozen BK266.out 0
                             have hns83_0 := NB260_266.out
                             have hns83_1 := NB261_266.out
                             have hns83_2 := NB262_266.out
                             have hms83_0 := NB266_260.out
                             have hms83_1 := NB266_261.out
                             have hms83_2 := NB266_262.out
                             refine skip_ (w1 := ?_) (by rfl) rfl ?_ ?_
                             rotate_left
                             · go_simp
                               rfl
                             refine hK.out _ _ ?_
                             clear hK K
                             refine zo HT_ ?_
                             (repeat (first | go_skip | go_guarded | go_step | go_upon))
                             go_roundg k4
                             case measure => have := HJ2.out; have := HJ35.out; have := HK3.out; have := HK4.out; omega
                             case rel => exact ⟨(wrap64 (x70_4 + 1)), (y272), (.slice Ao82 y272.length co82), (by first | rfl | (simp; done) | (simp [*]; done)), H', ⟨by have := HJ2.out; have := HJ35.out; have := HK3.out; have := HK4.out; omega⟩, ⟨by (with_reducible repeat (first | apply Kd.S_alloc | apply Kd.S_drewN | apply Kd.S_drew)); exact Kd.S_mono (Kd.S_far (p := ⟨gb266, 0, none⟩) (Kd.S_types HO274.out BK266.out (by decide)) (fun _ hk => hk.2) (.slice Ao82 y272.length co82)) (fun _ hk => trivial)⟩, ⟨by (with_reducible repeat (first | apply Kd.R_alloc | apply Kd.R_drewN | apply Kd.R_drew)); exact Kd.R_mono (Kd.R_far (p := ⟨gb266, 0, none⟩) (Kd.R_types HO_267001.out BK266.out (by decide)) (fun _ hk => hk.2) (.slice Ao82 y272.length co82)) (fun _ hk => trivial)⟩, ⟨by (with_reducible repeat (first | refine blk_drewN ?_ _ | refine blk_drew ?_ | refine blk_alloc ?_ _)); refine blk_far ?_ NB260_266.out _; (with_reducible repeat (first | refine blk_drewN ?_ _ | refine blk_drew ?_ | refine blk_alloc ?_ _)); exact BK260.out⟩, ⟨by (with_reducible repeat (first | refine blk_drewN ?_ _ | refine blk_drew ?_ | refine blk_alloc ?_ _)); refine blk_far ?_ NB261_266.out _; (with_reducible repeat (first | refine blk_drewN ?_ _ | refine blk_drew ?_ | refine blk_alloc ?_ _)); exact BK261.out⟩, ⟨by (with_reducible repeat (first | refine blk_drewN ?_ _ | refine blk_drew ?_ | refine blk_alloc ?_ _)); refine blk_far ?_ NB262_266.out _; (with_reducible repeat (first | refine blk_drewN ?_ _ | refine blk_drew ?_ | refine blk_alloc ?_ _)); exact BK262.out⟩, ⟨by (with_reducible repeat (first | refine blk_drewN ?_ _ | refine blk_drew ?_ | refine blk_alloc ?_ _)); refine blk_put (cs := #[u267000, u267001]) ?_ 0 _ rfl; (with_reducible repeat (first | refine blk_drewN ?_ _ | refine blk_drew ?_ | refine blk_alloc ?_ _)); exact BK266.out⟩, ⟨zB⟩⟩
                           · rw [if_neg c77] at H
                             exact absurd H (by simp)
                       · rw [if_neg c70] at H
                         exact absurd H (by simp)
                     · rw [if_neg c69] at H
                       exact absurd H (by simp)
                   · rw [if_neg c68] at H
                     have c68b0 : decide (x70_4 < (l1_0.length : Int)) = false := decide_eq_false c68
                     clear c68
                     have H' := Aside0.mk H
                     clear H
                     have hnb84 := NB261_260.out
                     have hnc84 := NB260_261.out
                     have hnb85 := NB261_262.out
                     have hnc85 := NB262_261.out
                     have hnb86 := NB261_266.out
                     have hnc86 := NB266_261.out
                     have hcz87_0 := zy BK261 0
                     have hcz87_1 := zy BK261 1
                     have hfz87_0 := blk_frozen BK261.out 0
                     have hfz87_1 := blk_frozen BK261.out 1
                     (repeat (first | go_skip | go_guarded | go_step | go_upon))
                     go_loopg [94] k4 (fun kq v94 w' => ∃ (x94_5 : Int) (x267001_5 : List (S41)) (u267001 : Value), v94 = .int .i64 x94_5 ∧ Aside0 (impl_ProductSpace.l2 kq (l1_0.length : Int) x62_3 l0_0 (l0_0.length : Int) x62_3 l1_1 (l1_1.length : Int) x94_5 l0_0 l0_1 l1_0 l1_1 x267000_4 x267001_5 = some (r1, r2, r3)) ∧ Aside0 (kq ≤ k4) ∧ Aside0 (Kd.S (Kd.slice 3 (Kd.int .i64)) 39 w' w.heap.size (fun _ => True) u267000 x267000_4) ∧ Aside0 (Kd.R k41 41 w' w.heap.size (fun _ => True) u267001 x267001_5) ∧ Aside0 (w'.heap[gb260]? = some (.cells #[(.slice (some ad267) l0_0.length c0_0), (.slice A0_1 l0_1.length c0_1)] 27 (0, 0))) ∧ Aside0 (w'.heap[gb261]? = some (.cells #[(.slice A1_0 l1_0.length c1_0), (.slice A1_1 l1_1.length c1_1)] 27 (0, 0))) ∧ Aside0 (w'.heap[gb262]? = some (.cells #[(.slice none 0 0), (.slice none 0 0)] 27 (0, 0))) ∧ Aside0 (w'.heap[gb266]? = some (.cells #[u267000, u267001] 27 (0, 0))) ∧ Aside0 (Below w.heap.size w w'))
                     case atStart => exact ⟨(0), (x267001_3), (u267001), (by first | rfl | (simp; done) | (simp [*]; done)), H', ⟨Nat.le_refl _⟩, ⟨by (with_reducible repeat (first | apply Kd.S_alloc | apply Kd.S_drewN | apply Kd.S_drew)); exact HO_267000.out⟩, ⟨zR HO_267001.out⟩, ⟨zK BK260.out⟩, ⟨zK BK261.out⟩, ⟨zK BK262.out⟩, ⟨zK BK266.out⟩, ⟨zB⟩⟩
                     case round =>
                      clear H'
                      try clear c1
                      try clear c2
                      try clear p2
                      try clear q2
                      try clear hx2
                      try clear c3
                      try clear c4
                      try clear c5
                      try clear c6
                      try clear p6
                      try clear c7
                      try clear c8
                      try clear c10
                      try clear c12
                      try clear c13
                      try clear c16
                      try clear c21
                      try clear c22
                      try clear c23
                      try clear c25
                      try clear c26
                      try clear p26
                      try clear q26
                      try clear hx26
                      try clear c28
                      try clear c29
                      try clear c32
                      try clear c33
                      try clear c34
                      try clear c37
                      try clear c38
                      try clear c40
                      try clear c40b0
                      try clear c41
                      try clear c42
                      try clear c44
                      try clear c45
                      try clear c47
                      try clear c49
                      try clear c50
                      try clear c51
                      try clear c54
                      try clear c55
                      try clear c56
                      try clear c58
                      try clear c59
                      try clear c61
                      try clear c61b0
                      try clear c62
                      try clear c62b0
                      try clear c63
                      try clear c63b0
                      try clear c64
                      try clear p64
                      try clear c65
                      try clear c66
                      try clear c68
                      try clear c68b0
                      try clear c69
                      try clear c69b0
                      try clear c70
                      try clear c70b0
                      try clear c71
                      try clear c71b0
                      try clear c72
                      try clear c73
                      try clear c74
                      try clear c77
                      try clear c84
                      try clear c85
                      try clear c86
                      try clear hcz14_0
                      try clear hcz14_1
                      try clear hcz17_0
                      try clear hcz17_1
                      try clear hcz19_0
                      try clear hcz19_1
                      try clear hcz23_0
                      try clear hcz23_1
                      try clear hcz26_0
                      try clear hcz26_1
                      try clear hcz30_0
                      try clear hcz30_1
                      try clear hcz35_0
                      try clear hcz35_1
                      try clear hcz39_0
                      try clear hcz39_1
                      try clear hcz43_0
                      try clear hcz43_1
                      try clear hcz46_0
                      try clear hcz46_1
                      try clear hcz48_0
                      try clear hcz48_1
                      try clear hcz52_0
                      try clear hcz52_1
                      try clear hcz57_0
                      try clear hcz57_1
                      try clear hcz60_0
                      try clear hcz60_1
                      try clear hcz67_0
                      try clear hcz67_1
                      try clear hcz75_0
                      try clear hcz75_1
                      try clear hcz87_0
                      try clear hcz87_1
                      try clear hfz14_0
                      try clear hfz14_1
                      try clear hfz17_0
                      try clear hfz17_1
                      try clear hfz19_0
                      try clear hfz19_1
                      try clear hfz23_0
                      try clear hfz23_1
                      try clear hfz26_0
                      try clear hfz26_1
                      try clear hfz30_0
                      try clear hfz30_1
                      try clear hfz35_0
                      try clear hfz35_1
                      try clear hfz39_0
                      try clear hfz39_1
                      try clear hfz43_0
                      try clear hfz43_1
                      try clear hfz46_0
                      try clear hfz46_1
                      try clear hfz48_0
                      try clear hfz48_1
                      try clear hfz52_0
                      try clear hfz52_1
                      try clear hfz57_0
                      try clear hfz57_1
                      try clear hfz60_0
                      try clear hfz60_1
                      try clear hfz67_0
                      try clear hfz67_1
                      try clear hfz75_0
                      try clear hfz75_1
                      try clear hfz87_0
                      try clear hfz87_1
                      try clear hx267_0
                      try clear hx268_0
                      try clear p2
                      try clear p26
                      try clear p267
                      try clear p268
                      try clear p6
                      try clear p64
                      try clear q2
                      try clear q26
                      try clear q267
                      try clear q268
                      obtain ⟨x94_5, x267001_5, u267001, rfl, HA, HK5, HO_267000, HO_267001, BK260, BK261, BK262, BK266, HB⟩ := hrel
                      cases gk with
                      | zero => exact absurd HA.out (by simp [impl_ProductSpace.l2])
                      | succ k5 =>
                       have H := HA.out
                       clear HA
                       simp only [impl_ProductSpace.l2] at H
                       by_cases c88 : x94_5 < (l1_1.length : Int)
                       · rw [if_pos c88] at H
                         have c88b0 := decide_eq_true c88
                         clear c88
                         by_cases c89 : 0 ≤ x94_5
                         · rw [if_pos c89] at H
                           have c89b0 := decide_eq_true c89
                           clear c89
                           by_cases c90 : x94_5 < (l1_1.length : Int)
                           · rw [if_pos c90] at H
                             have c90b0 := decide_eq_true c90
                             clear c90
                             by_cases c91 : x267001_5.length < 8796093022208
                             · rw [if_pos c91] at H
                               have LMc91 := Aside0.mk c91
                               clear c91
                               obtain ⟨y277, hy277⟩ : ∃ y_ : List (S41), y_ = (x267001_5 ++ [(⟨wrap64 ((wrap64 (x62_3 * (l1_0.length : Int))) + ((rd_T41 l1_1 x94_5).f0)), wrap64 ((wrap64 (x62_3 * (l1_0.length : Int))) + ((rd_T41 l1_1 x94_5).f1))⟩ : S41)]) := ⟨_, rfl⟩
                               replace H : (impl_ProductSpace.l2 k5 (l1_0.length : Int) x62_3 l0_0 (l0_0.length : Int) x62_3 l1_1 (l1_1.length : Int) (wrap64 (x94_5 + 1)) l0_0 l0_1 l1_0 l1_1 x267000_4 y277) = some (r1, r2, r3) := by first | (rw [hy277]; with_reducible exact H) | (have H2_ := (Option.bind_some _ _).symm.trans H; rw [hy277]; with_reducible exact H2_) | (have H2_ := (Option.bind_some _ _).symm.trans H; with_reducible exact H2_) | with_reducible exact H | (rw [hy277]; exact H) | exact H
                               have Ny277 := Aside0.mk hy277
                               clear hy277
                               have H' := Aside0.mk H
                               clear H
                               have p275 : 0 ≤ (x94_5 : Int) := of_decide_eq_true zA
                               have q275 : x94_5 < (l1_1.length : Int) := of_decide_eq_true zA
                               obtain ⟨ad275, e275, hx275_0, hx275_1⟩ := at_T41 HR1_1.out x94_5 p275 q275
                               cases e275
                               (try replace hx275_0 := (HB.out.cell (World.block_lt_of_cell? w _ hx275_0)).trans hx275_0)
                               (try replace hx275_1 := (HB.out.cell (World.block_lt_of_cell? w _ hx275_1)).trans hx275_1)
                               replace p275 := eq_true p275
                               replace q275 := eq_true q275
                               (repeat (first | (first | ((with_reducible refine gate_dst (N := 13) rfl ?_); (try (refine gate_guard (by rfl) ?_; dsimp only)); refine ze 13 #[.int .i64 0, .int .i64 0] 41 ?_; intro gb276 hg w92 hbox hb; replace HO_267000 := zM (Kd.S_below (by (with_reducible repeat (first | apply Kd.S_alloc | apply Kd.S_drewN | apply Kd.S_drew)); exact HO_267000.out) hb); replace HO_267001 := zM (Kd.R_below (Kd.R_elderB (zR HO_267001.out) gb276 (Nat.le_of_eq hg.symm)) hb); have BK276 := zM (hbox); have GW276 := zM ((by rw [hg]; exact (below_size zB) : w.heap.size ≤ gb276)); have GE276 := zM ((by rw [hg]; exact (below_size zB) : w.heap.size ≤ gb276)); replace HB := zM (below_step zB hb); have NB260_276 := zM ((by rw [hg]; exact Nat.ne_of_lt (blk_lt (g := gb260) (o := .cells #[.slice (some ad267) l0_0.length c0_0, .slice A0_1 l0_1.length c0_1] 27 (0, 0)) (zK BK260.out)) : gb260 ≠ gb276)); have NB276_260 := zM ((by rw [hg]; exact Nat.ne_of_gt (blk_lt (g := gb260) (o := .cells #[.slice (some ad267) l0_0.length c0_0, .slice A0_1 l0_1.length c0_1] 27 (0, 0)) (zK BK260.out)) : gb276 ≠ gb260)); replace BK260 := zM (blk_below (g := gb260) (o := .cells #[.slice (some ad267) l0_0.length c0_0, .slice A0_1 l0_1.length c0_1] 27 (0, 0)) (zK BK260.out) hb); have NB261_276 := zM ((by rw [hg]; exact Nat.ne_of_lt (blk_lt (g := gb261) (o := .cells #[.slice A1_0 l1_0.length c1_0, .slice (some ad275) l1_1.length c1_1] 27 (0, 0)) (zK BK261.out)) : gb261 ≠ gb276)); have NB276_261 := zM ((by rw [hg]; exact Nat.ne_of_gt (blk_lt (g := gb261) (o := .cells #[.slice A1_0 l1_0.length c1_0, .slice (some ad275) l1_1.length c1_1] 27 (0, 0)) (zK BK261.out)) : gb276 ≠ gb261)); replace BK261 := zM (blk_below (g := gb261) (o := .cells #[.slice A1_0 l1_0.length c1_0, .slice (some ad275) l1_1.length c1_1] 27 (0, 0)) (zK BK261.out) hb); have NB262_276 := zM ((by rw [hg]; exact Nat.ne_of_lt (blk_lt (g := gb262) (o := .cells #[.slice none 0 0, .slice none 0 0] 27 (0, 0)) (zK BK262.out)) : gb262 ≠ gb276)); have NB276_262 := zM ((by rw [hg]; exact Nat.ne_of_gt (blk_lt (g := gb262) (o := .cells #[.slice none 0 0, .slice none 0 0] 27 (0, 0)) (zK BK262.out)) : gb276 ≠ gb262)); replace BK262 := zM (blk_below (g := gb262) (o := .cells #[.slice none 0 0, .slice none 0 0] 27 (0, 0)) (zK BK262.out) hb); have NB266_276 := zM ((by rw [hg]; exact Nat.ne_of_lt (blk_lt (g := gb266) (o := .cells #[u267000, u267001] 27 (0, 0)) (zK BK266.out)) : gb266 ≠ gb276)); have NB276_266 := zM ((by rw [hg]; exact Nat.ne_of_gt (blk_lt (g := gb266) (o := .cells #[u267000, u267001] 27 (0, 0)) (zK BK266.out)) : gb276 ≠ gb266)); replace BK266 := zM (blk_below (g := gb266) (o := .cells #[u267000, u267001] 27 (0, 0)) (zK BK266.out) hb); clear hb hbox hg; have hnb93 := NB276_260.out; have hnc93 := NB260_276.out; have hnb94 := NB276_261.out; have hnc94 := NB261_276.out; have hnb95 := NB276_262.out; have hnc95 := NB262_276.out; have hnb96 := NB276_266.out; have hnc96 := NB266_276.out; have hcz97_0 := zy BK276 0; have hcz97_1 := zy BK276 1; have hfz97_0 := blk_frozen BK276.out 0; have hfz97_1 := blk_frozen BK276.out 1; have hnb98 := NB266_260.out; have hnc98 := NB260_266.out; have hnb99 := NB266_261.out; have hnc99 := NB261_266.out; have hnb100 := NB266_262.out; have hnc100 := NB262_266.out; have hcz101_0 := zy BK266 0; have hcz101_1 := zy BK266 1; have hfz101_0 := blk_frozen BK266.out 0; have hfz101_1 := blk_frozen BK266.out 1) | ((with_reducible refine gate_builtin (b := .append) (xs := #[.tmp 99, .tmp 113]) rfl ?_); (try (refine gate_guard (by rfl) ?_; dsimp only)); at_builtin; refine Kd.R_append k41 (w0 := w) w.heap.size rfl (.tmp 99) (.tmp 113) 23 41 (.agg #[(.int .i64 0), (.int .i64 0)]) 16 rfl Try.underlying23 info41 rfl (by decide) (by omega) u267001 x267001_5 (⟨wrap64 ((wrap64 (x62_3 * (l1_0.length : Int))) + ((rd_T41 l1_1 x94_5).f0)), wrap64 ((wrap64 (x62_3 * (l1_0.length : Int))) + ((rd_T41 l1_1 x94_5).f1))⟩ : S41) [.int .i64 (wrap64 ((wrap64 (x62_3 * (l1_0.length : Int))) + ((rd_T41 l1_1 x94_5).f0))), .int .i64 (wrap64 ((wrap64 (x62_3 * (l1_0.length : Int))) + ((rd_T41 l1_1 x94_5).f1)))] (fun k_ => k_ ≠ gb276) (fun _ => False) rfl (by first | (go_simp; done) | (go_simp; rfl)) ?aP (fun _ hk => hk.elim) ?aF ?aO ?aB ?aS ?aL ?_; (case aP => exact k41_mkM _ _ _ (⟨wrap64 ((wrap64 (x62_3 * (l1_0.length : Int))) + ((rd_T41 l1_1 x94_5).f0)), wrap64 ((wrap64 (x62_3 * (l1_0.length : Int))) + ((rd_T41 l1_1 x94_5).f1))⟩ : S41)); (case aB => exact zB); (case aF => exact (fun k_ hk => Kd.freshB (g := gb276) (o := .cells #[.int .i64 ((rd_T41 l1_1 x94_5).f0), .int .i64 ((rd_T41 l1_1 x94_5).f1)] 41 (0, 0)) (by (with_reducible repeat (first | refine blk_drewN ?_ _ | refine blk_drew ?_ | refine blk_alloc ?_ _)); refine blk_put (cs := #[.int .i64 ((rd_T41 l1_1 x94_5).f0), .int .i64 0]) ?_ 1 _ rfl; (with_reducible repeat (first | refine blk_drewN ?_ _ | refine blk_drew ?_ | refine blk_alloc ?_ _)); refine blk_put (cs := #[.int .i64 0, .int .i64 0]) ?_ 0 _ rfl; (with_reducible repeat (first | refine blk_drewN ?_ _ | refine blk_drew ?_ | refine blk_alloc ?_ _)); exact BK276.out) k_ hk)); (case aO => exact (by (with_reducible repeat (first | apply Kd.R_alloc | apply Kd.R_drewN | apply Kd.R_drew)); exact Kd.R_mono (Kd.R_far (p := ⟨gb276, 1, none⟩) (Kd.R_far (p := ⟨gb276, 0, none⟩) (Kd.R_mono HO_267001.out (fun k_ hk => (⟨hk, hk.2⟩ : _ ∧ k_ ≠ gb276))) (fun _ hk => hk.2) (.int .i64 ((rd_T41 l1_1 x94_5).f0))) (fun _ hk => hk.2) (.int .i64 ((rd_T41 l1_1 x94_5).f1))) (fun _ hk => hk.1.2))); (case aS => exact (below_size zB)); (case aL => have := LMc91.out; omega); intro v278 w102 ho hb hg hat; rw [← Ny277.out] at ho; replace HO_267000 := zM (Kd.S_over' (by (with_reducible repeat (first | apply Kd.S_alloc | apply Kd.S_drewN | apply Kd.S_drew)); exact (Kd.S_mono (Kd.S_far (p := ⟨gb276, 1, none⟩) (Kd.S_far (p := ⟨gb276, 0, none⟩) (Kd.S_types HO_267000.out BK276.out (by decide)) (fun _ hk => hk.2) (.int .i64 ((rd_T41 l1_1 x94_5).f0))) (fun _ hk => hk.2) (.int .i64 ((rd_T41 l1_1 x94_5).f1))) (fun _ h_ => h_.1))) (Kd.R_typed (by (with_reducible repeat (first | apply Kd.R_alloc | apply Kd.R_drewN | apply Kd.R_drew)); exact (Kd.R_mono (Kd.R_far (p := ⟨gb276, 1, none⟩) (Kd.R_far (p := ⟨gb276, 0, none⟩) (Kd.R_mono HO_267001.out (fun k_ hk => (⟨hk, hk.2⟩ : _ ∧ k_ ≠ gb276))) (fun _ hk => hk.2) (.int .i64 ((rd_T41 l1_1 x94_5).f0))) (fun _ hk => hk.2) (.int .i64 ((rd_T41 l1_1 x94_5).f1))) (fun _ h_ => h_.1)))) (by decide) hg); replace BK260 := zM (blk_grown (g := gb260) (o := .cells #[.slice (some ad267) l0_0.length c0_0, .slice A0_1 l0_1.length c0_1] 27 (0, 0)) (by (with_reducible repeat (first | refine blk_drewN ?_ _ | refine blk_drew ?_ | refine blk_alloc ?_ _)); refine blk_far ?_ NB260_276.out _; (with_reducible repeat (first | refine blk_drewN ?_ _ | refine blk_drew ?_ | refine blk_alloc ?_ _)); refine blk_far ?_ NB260_276.out _; (with_reducible repeat (first | refine blk_drewN ?_ _ | refine blk_drew ?_ | refine blk_alloc ?_ _)); exact BK260.out) hg (Kd.R_ne HO_267001.out BK260.out (by decide))); replace BK261 := zM (blk_grown (g := gb261) (o := .cells #[.slice A1_0 l1_0.length c1_0, .slice (some ad275) l1_1.length c1_1] 27 (0, 0)) (by (with_reducible repeat (first | refine blk_drewN ?_ _ | refine blk_drew ?_ | refine blk_alloc ?_ _)); refine blk_far ?_ NB261_276.out _; (with_reducible repeat (first | refine blk_drewN ?_ _ | refine blk_drew ?_ | refine blk_alloc ?_ _)); refine blk_far ?_ NB261_276.out _; (with_reducible repeat (first | refine blk_drewN ?_ _ | refine blk_drew ?_ | refine blk_alloc ?_ _)); exact BK261.out) hg (Kd.R_ne HO_267001.out BK261.out (by decide))); replace BK262 := zM (blk_grown (g := gb262) (o := .cells #[.slice none 0 0, .slice none 0 0] 27 (0, 0)) (by (with_reducible repeat (first | refine blk_drewN ?_ _ | refine blk_drew ?_ | refine blk_alloc ?_ _)); refine blk_far ?_ NB262_276.out _; (with_reducible repeat (first | refine blk_drewN ?_ _ | refine blk_drew ?_ | refine blk_alloc ?_ _)); refine blk_far ?_ NB262_276.out _; (with_reducible repeat (first | refine blk_drewN ?_ _ | refine blk_drew ?_ | refine blk_alloc ?_ _)); exact BK262.out) hg (Kd.R_ne HO_267001.out BK262.out (by decide))); replace BK266 := zM (blk_grown (g := gb266) (o := .cells #[u267000, u267001] 27 (0, 0)) (by (with_reducible repeat (first | refine blk_drewN ?_ _ | refine blk_drew ?_ | refine blk_alloc ?_ _)); refine blk_far ?_ NB266_276.out _; (with_reducible repeat (first | refine blk_drewN ?_ _ | refine blk_drew ?_ | refine blk_alloc ?_ _)); refine blk_far ?_ NB266_276.out _; (with_reducible repeat (first | refine blk_drewN ?_ _ | refine blk_drew ?_ | refine blk_alloc ?_ _)); exact BK266.out) hg (Kd.R_ne HO_267001.out BK266.out (by decide))); replace BK276 := zM (blk_grown (g := gb276) (o := .cells #[.int .i64 ((rd_T41 l1_1 x94_5).f0), .int .i64 ((rd_T41 l1_1 x94_5).f1)] 41 (0, 0)) (by (with_reducible repeat (first | refine blk_drewN ?_ _ | refine blk_drew ?_ | refine blk_alloc ?_ _)); refine blk_put (cs := #[.int .i64 ((rd_T41 l1_1 x94_5).f0), .int .i64 0]) ?_ 1 _ rfl; (with_reducible repeat (first | refine blk_drewN ?_ _ | refine blk_drew ?_ | refine blk_alloc ?_ _)); refine blk_put (cs := #[.int .i64 0, .int .i64 0]) ?_ 0 _ rfl; (with_reducible repeat (first | refine blk_drewN ?_ _ | refine blk_drew ?_ | refine blk_alloc ?_ _)); exact BK276.out) hg (Kd.R_away HO_267001.out (fun _ hk => hk.2))); replace HB := zM (hb); have HO279 := zM (ho); clear HO_267001; clear ho hb hg hat; obtain ⟨Ao103, co103, eo103⟩ := Kd.R_slice HO279.out; subst eo103; have hcz104_0 := zy BK266 0; have hcz104_1 := zy BK266 1; have hfz104_0 := blk_frozen BK266.out 0; have hfz104_1 := blk_frozen BK266.out 1)) | go_skip | go_guarded | go_step | go_upon))
                               go_roundg k5
                               case measure => have := HJ2.out; have := HJ35.out; have := HK3.out; have := HK4.out; have := HK5.out; omega
                               case rel => exact ⟨(wrap64 (x94_5 + 1)), (y277), (.slice Ao103 y277.length co103), (by first | rfl | (simp; done) | (simp [*]; done)), H', ⟨by have := HJ2.out; have := HJ35.out; have := HK3.out; have := HK4.out; have := HK5.out; omega⟩, ⟨by (with_reducible repeat (first | apply Kd.S_alloc | apply Kd.S_drewN | apply Kd.S_drew)); exact Kd.S_mono (Kd.S_far (p := ⟨gb266, 1, none⟩) (Kd.S_types HO_267000.out BK266.out (by decide)) (fun _ hk => hk.2) (.slice Ao103 y277.length co103)) (fun _ hk => trivial)⟩, ⟨by (with_reducible repeat (first | apply Kd.R_alloc | apply Kd.R_drewN | apply Kd.R_drew)); exact Kd.R_mono (Kd.R_far (p := ⟨gb266, 1, none⟩) (Kd.R_types HO279.out BK266.out (by decide)) (fun _ hk => hk.2) (.slice Ao103 y277.length co103)) (fun _ hk => trivial)⟩, ⟨by (with_reducible repeat (first | refine blk_drewN ?_ _ | refine blk_drew ?_ | refine blk_alloc ?_ _)); refine blk_far ?_ NB260_266.out _; (with_reducible repeat (first | refine blk_drewN ?_ _ | refine blk_drew ?_ | refine blk_alloc ?_ _)); exact BK260.out⟩, ⟨by (with_reducible repeat (first | refine blk_drewN ?_ _ | refine blk_drew ?_ | refine blk_alloc ?_ _)); refine blk_far ?_ NB261_266.out _; (with_reducible repeat (first | refine blk_drewN ?_ _ | refine blk_drew ?_ | refine blk_alloc ?_ _)); exact BK261.out⟩, ⟨by (with_reducible repeat (first | refine blk_drewN ?_ _ | refine blk_drew ?_ | refine blk_alloc ?_ _)); refine blk_far ?_ NB262_266.out _; (with_reducible repeat (first | refine blk_drewN ?_ _ | refine blk_drew ?_ | refine blk_alloc ?_ _)); exact BK262.out⟩, ⟨by (with_reducible repeat (first | refine blk_drewN ?_ _ | refine blk_drew ?_ | refine blk_alloc ?_ _)); refine blk_put (cs := #[u267000, u267001]) ?_ 1 _ rfl; (with_reducible repeat (first | refine blk_drewN ?_ _ | refine blk_drew ?_ | refine blk_alloc ?_ _)); exact BK266.out⟩, ⟨zB⟩⟩
                             · rw [if_neg c91] at H
                               exact absurd H (by simp)
                           · rw [if_neg c90] at H
                             exact absurd H (by simp)
                         · rw [if_neg c89] at H
                           exact absurd H (by simp)
                       · rw [if_neg c88] at H
                         have c88b0 : decide (x94_5 < (l1_1.length : Int)) = false := decide_eq_false c88
                         clear c88
                         have H' := Aside0.mk H
                         clear H
                         (repeat (first | go_skip | go_guarded | go_step | go_upon))
                         go_roundg k5
                         case measure => have := HJ2.out; have := HJ35.out; have := HK3.out; have := HK4.out; have := HK5.out; omega
                         case rel => exact ⟨(wrap64 (x62_3 + 1)), (x267000_4), (x267001_5), (u267000), (u267001), (by first | rfl | (simp; done) | (simp [*]; done)), H', ⟨by have := HJ2.out; have := HJ35.out; have := HK3.out; have := HK4.out; have := HK5.out; omega⟩, ⟨by (with_reducible repeat (first | apply Kd.S_alloc | apply Kd.S_drewN | apply Kd.S_drew)); exact HO_267000.out⟩, ⟨zR HO_267001.out⟩, ⟨zK BK260.out⟩, ⟨zK BK261.out⟩, ⟨zK BK262.out⟩, ⟨zK BK266.out⟩, ⟨zB⟩⟩
               · rw [if_neg c63] at H
                 exact absurd H (by simp)
             · rw [if_neg c62] at H
               exact absurd H (by simp)
           · rw [if_neg c61] at H
             have c61b0 : decide (x62_3 < (l0_0.length : Int)) = false := decide_eq_false c61
             clear c61
             have H' := Aside0.mk H
             clear H
             have hnb105 := NB260_261.out
             have hnc105 := NB261_260.out
             have hnb106 := NB260_262.out
             have hnc106 := NB262_260.out
             have hnb107 := NB260_266.out
             have hnc107 := NB266_260.out
             have hcz108_0 := zy BK260 0
             have hcz108_1 := zy BK260 1
             have hfz108_0 := blk_frozen BK260.out 0
             have hfz108_1 := blk_frozen BK260.out 1
             (repeat (first | go_skip | go_guarded | go_step | go_upon))
             go_loopg [121] k3 (fun kq v121 w' => ∃ (x121_4 : Int) (x267001_4 : List (S41)) (u267001 : Value), v121 = .int .i64 x121_4 ∧ Aside0 (impl_ProductSpace.l3 kq (l1_0.length : Int) l0_1 (l0_1.length : Int) x121_4 x267000_3 x267001_4 = some (r1, r2, r3)) ∧ Aside0 (kq ≤ k3) ∧ Aside0 (Kd.S (Kd.slice 3 (Kd.int .i64)) 39 w' w.heap.size (fun _ => True) u267000 x267000_3) ∧ Aside0 (Kd.R k41 41 w' w.heap.size (fun _ => True) u267001 x267001_4) ∧ Aside0 (w'.heap[gb260]? = some (.cells #[(.slice A0_0 l0_0.length c0_0), (.slice A0_1 l0_1.length c0_1)] 27 (0, 0))) ∧ Aside0 (w'.heap[gb261]? = some (.cells #[(.slice A1_0 l1_0.length c1_0), (.slice A1_1 l1_1.length c1_1)] 27 (0, 0))) ∧ Aside0 (w'.heap[gb262]? = some (.cells #[(.slice none 0 0), (.slice none 0 0)] 27 (0, 0))) ∧ Aside0 (w'.heap[gb266]? = some (.cells #[u267000, u267001] 27 (0, 0))) ∧ Aside0 (Below w.heap.size w w'))
             case atStart => exact ⟨(0), (x267001_3), (u267001), (by first | rfl | (simp; done) | (simp [*]; done)), H', ⟨Nat.le_refl _⟩, ⟨by (with_reducible repeat (first | apply Kd.S_alloc | apply Kd.S_drewN | apply Kd.S_drew)); exact HO_267000.out⟩, ⟨zR HO_267001.out⟩, ⟨zK BK260.out⟩, ⟨zK BK261.out⟩, ⟨zK BK262.out⟩, ⟨zK BK266.out⟩, ⟨zB⟩⟩
             case round =>
              clear H'
              try clear c1
              try clear c2
              try clear p2
              try clear q2
              try clear hx2
              try clear c3
              try clear c4
              try clear c5
              try clear c6
              try clear p6
              try clear c7
              try clear c8
              try clear c9
              try clear c10
              try clear c12
              try clear c13
              try clear c16
              try clear c21
              try clear c22
              try clear c23
              try clear c25
              try clear c26
              try clear p26
              try clear q26
              try clear hx26
              try clear p27
              try clear q27
              try clear hx27
              try clear c28
              try clear c29
              try clear c32
              try clear c33
              try clear c34
              try clear c37
              try clear c38
              try clear c40
              try clear c40b0
              try clear c41
              try clear c42
              try clear c44
              try clear c45
              try clear c47
              try clear c49
              try clear c50
              try clear c51
              try clear c54
              try clear c55
              try clear c56
              try clear c58
              try clear c59
              try clear c61
              try clear c61b0
              try clear c62
              try clear c62b0
              try clear c63
              try clear c63b0
              try clear c64
              try clear p64
              try clear c65
              try clear c66
              try clear c68
              try clear c68b0
              try clear c69
              try clear c69b0
              try clear c70
              try clear c70b0
              try clear c71
              try clear c71b0
              try clear c72
              try clear c73
              try clear c74
              try clear c77
              try clear c84
              try clear c85
              try clear c86
              try clear c88
              try clear c88b0
              try clear c89
              try clear c89b0
              try clear c90
              try clear c90b0
              try clear c91
              try clear c93
              try clear c94
              try clear c95
              try clear c96
              try clear c98
              try clear c99
              try clear c100
              try clear c105
              try clear c106
              try clear c107
              try clear hcz101_0
              try clear hcz101_1
              try clear hcz104_0
              try clear hcz104_1
              try clear hcz108_0
              try clear hcz108_1
              try clear hcz14_0
              try clear hcz14_1
              try clear hcz17_0
              try clear hcz17_1
              try clear hcz19_0
              try clear hcz19_1
              try clear hcz23_0
              try clear hcz23_1
              try clear hcz26_0
              try clear hcz26_1
              try clear hcz30_0
              try clear hcz30_1
              try clear hcz35_0
              try clear hcz35_1
              try clear hcz39_0
              try clear hcz39_1
              try clear hcz43_0
              try clear hcz43_1
              try clear hcz46_0
              try clear hcz46_1
              try clear hcz48_0
              try clear hcz48_1
              try clear hcz52_0
              try clear hcz52_1
              try clear hcz57_0
              try clear hcz57_1
              try clear hcz60_0
              try clear hcz60_1
              try clear hcz67_0
              try clear hcz67_1
              try clear hcz75_0
              try clear hcz75_1
              try clear hcz87_0
              try clear hcz87_1
              try clear hcz97_0
              try clear hcz97_1
              try clear hfz101_0
              try clear hfz101_1
              try clear hfz104_0
              try clear hfz104_1
              try clear hfz108_0
              try clear hfz108_1
              try clear hfz14_0
              try clear hfz14_1
              try clear hfz17_0
              try clear hfz17_1
              try clear hfz19_0
              try clear hfz19_1
              try clear hfz23_0
              try clear hfz23_1
              try clear hfz26_0
              try clear hfz26_1
              try clear hfz30_0
              try clear hfz30_1
              try clear hfz35_0
              try clear hfz35_1
              try clear hfz39_0
              try clear hfz39_1
              try clear hfz43_0
              try clear hfz43_1
              try clear hfz46_0
              try clear hfz46_1
              try clear hfz48_0
              try clear hfz48_1
              try clear hfz52_0
              try clear hfz52_1
              try clear hfz57_0
              try clear hfz57_1
              try clear hfz60_0
              try clear hfz60_1
              try clear hfz67_0
              try clear hfz67_1
              try clear hfz75_0
              try clear hfz75_1
              try clear hfz87_0
              try clear hfz87_1
              try clear hfz97_0
              try clear hfz97_1
              try clear hx267_0
              try clear hx268_0
              try clear hx275_0
              try clear hx275_1
              try clear p2
              try clear p26
              try clear p267
              try clear p268
              try clear p275
              try clear p6
              try clear p64
              try clear q2
              try clear q26
              try clear q267
              try clear q268
              try clear q275
              obtain ⟨x121_4, x267001_4, u267001, rfl, HA, HK4, HO_267000, HO_267001, BK260, BK261, BK262, BK266, HB⟩ := hrel
              cases gk with
              | zero => exact absurd HA.out (by simp [impl_ProductSpace.l3])
              | succ k4 =>
               have H := HA.out
               clear HA
               simp only [impl_ProductSpace.l3] at H
               by_cases c109 : x121_4 < (l0_1.length : Int)
               · rw [if_pos c109] at H
                 have c109b0 := decide_eq_true c109
                 clear c109
                 by_cases c110 : 0 ≤ x121_4
                 · rw [if_pos c110] at H
                   have c110b0 := decide_eq_true c110
                   clear c110
                   by_cases c111 : x121_4 < (l0_1.length : Int)
                   · rw [if_pos c111] at H
                     have c111b0 := decide_eq_true c111
                     clear c111
                     have H' := Aside0.mk H
                     clear H
                     have p280 : 0 ≤ (x121_4 : Int) := of_decide_eq_true zA
                     have q280 : x121_4 < (l0_1.length : Int) := of_decide_eq_true zA
                     obtain ⟨ad280, e280, hx280_0, hx280_1⟩ := at_T41 HR0_1.out x121_4 p280 q280
                     cases e280
                     (try replace hx280_0 := (HB.out.cell (World.block_lt_of_cell? w _ hx280_0)).trans hx280_0)
                     (try replace hx280_1 := (HB.out.cell (World.block_lt_of_cell? w _ hx280_1)).trans hx280_1)
                     replace p280 := eq_true p280
                     replace q280 := eq_true q280
                     (repeat (first | (first | ((with_reducible refine gate_dst (N := 15) rfl ?_); (try (refine gate_guard (by rfl) ?_; dsimp only)); refine ze 15 #[.int .i64 0, .int .i64 0] 41 ?_; intro gb281 hg w112 hbox hb; replace HO_267000 := zM (Kd.S_below (by (with_reducible repeat (first | apply Kd.S_alloc | apply Kd.S_drewN | apply Kd.S_drew)); exact HO_267000.out) hb); replace HO_267001 := zM (Kd.R_below (Kd.R_elderB (zR HO_267001.out) gb281 (Nat.le_of_eq hg.symm)) hb); have BK281 := zM (hbox); have GW281 := zM ((by rw [hg]; exact (below_size zB) : w.heap.size ≤ gb281)); have GE281 := zM ((by rw [hg]; exact (below_size zB) : w.heap.size ≤ gb281)); replace HB := zM (below_step zB hb); have NB260_281 := zM ((by rw [hg]; exact Nat.ne_of_lt (blk_lt (g := gb260) (o := .cells #[.slice A0_0 l0_0.length c0_0, .slice (some ad280) l0_1.length c0_1] 27 (0, 0)) (zK BK260.out)) : gb260 ≠ gb281)); have NB281_260 := zM ((by rw [hg]; exact Nat.ne_of_gt (blk_lt (g := gb260) (o := .cells #[.slice A0_0 l0_0.length c0_0, .slice (some ad280) l0_1.length c0_1] 27 (0, 0)) (zK BK260.out)) : gb281 ≠ gb260)); replace BK260 := zM (blk_below (g := gb260) (o := .cells #[.slice A0_0 l0_0.length c0_0, .slice (some ad280) l0_1.length c0_1] 27 (0, 0)) (zK BK260.out) hb); have NB261_281 := zM ((by rw [hg]; exact Nat.ne_of_lt (blk_lt (g := gb261) (o := .cells #[.slice A1_0 l1_0.length c1_0, .slice A1_1 l1_1.length c1_1] 27 (0, 0)) (zK BK261.out)) : gb261 ≠ gb281)); have NB281_261 := zM ((by rw [hg]; exact Nat.ne_of_gt (blk_lt (g := gb261) (o := .cells #[.slice A1_0 l1_0.length c1_0, .slice A1_1 l1_1.length c1_1] 27 (0, 0)) (zK BK261.out)) : gb281 ≠ gb261)); replace BK261 := zM (blk_below (g := gb261) (o := .cells #[.slice A1_0 l1_0.length c1_0, .slice A1_1 l1_1.length c1_1] 27 (0, 0)) (zK BK261.out) hb); have NB262_281 := zM ((by rw [hg]; exact Nat.ne_of_lt (blk_lt (g := gb262) (o := .cells #[.slice none 0 0, .slice none 0 0] 27 (0, 0)) (zK BK262.out)) : gb262 ≠ gb281)); have NB281_262 := zM ((by rw [hg]; exact Nat.ne_of_gt (blk_lt (g := gb262) (o := .cells #[.slice none 0 0, .slice none 0 0] 27 (0, 0)) (zK BK262.out)) : gb281 ≠ gb262)); replace BK262 := zM (blk_below (g := gb262) (o := .cells #[.slice none 0 0, .slice none 0 0] 27 (0, 0)) (zK BK262.out) hb); have NB266_281 := zM ((by rw [hg]; exact Nat.ne_of_lt (blk_lt (g := gb266) (o := .cells #[u267000, u267001] 27 (0, 0)) (zK BK266.out)) : gb266 ≠ gb281)); have NB281_266 := zM ((by rw [hg]; exact Nat.ne_of_gt (blk_lt (g := gb266) (o := .cells #[u267000, u267001] 27 (0, 0)) (zK BK266.out)) : gb281 ≠ gb266)); replace BK266 := zM (blk_below (g := gb266) (o := .cells #[u267000, u267001] 27 (0, 0)) (zK BK266.out) hb); clear hb hbox hg; have hnb113 := NB281_260.out; have hnc113 := NB260_281.out; have hnb114 := NB281_261.out; have hnc114 := NB261_281.out; have hnb115 := NB281_262.out; have hnc115 := NB262_281.out; have hnb116 := NB281_266.out; have hnc116 := NB266_281.out; have hcz117_0 := zy BK281 0; have hcz117_1 := zy BK281 1; have hfz117_0 := blk_frozen BK281.out 0; have hfz117_1 := blk_frozen BK281.out 1)) | go_skip | go_guarded | go_step | go_upon))
                     go_loopg [126] k4 (fun kq v126 w' => ∃ (x126_5 : Int) (x267001_5 : List (S41)) (u267001 : Value), v126 = .int .i64 x126_5 ∧ Aside0 (impl_ProductSpace.l4 kq (l1_0.length : Int) l0_1 (l0_1.length : Int) x121_4 (l1_0.length : Int) x126_5 x267000_3 x267001_5 ((rd_T41 l0_1 x121_4).f0) ((rd_T41 l0_1 x121_4).f1) = some (r1, r2, r3)) ∧ Aside0 (kq ≤ k4) ∧ Aside0 (Kd.S (Kd.slice 3 (Kd.int .i64)) 39 w' w.heap.size (fun _ => True) u267000 x267000_3) ∧ Aside0 (Kd.R k41 41 w' w.heap.size (fun k_ => k_ ≠ gb281) u267001 x267001_5) ∧ Aside0 (w'.heap[gb260]? = some (.cells #[(.slice A0_0 l0_0.length c0_0), (.slice (some ad280) l0_1.length c0_1)] 27 (0, 0))) ∧ Aside0 (w'.heap[gb261]? = some (.cells #[(.slice A1_0 l1_0.length c1_0), (.slice A1_1 l1_1.length c1_1)] 27 (0, 0))) ∧ Aside0 (w'.heap[gb262]? = some (.cells #[(.slice none 0 0), (.slice none 0 0)] 27 (0, 0))) ∧ Aside0 (w'.heap[gb266]? = some (.cells #[u267000, u267001] 27 (0, 0))) ∧ Aside0 (w'.heap[gb281]? = some (.cells #[.int .i64 ((rd_T41 l0_1 x121_4).f0), .int .i64 ((rd_T41 l0_1 x121_4).f1)] 41 (0, 0))) ∧ Aside0 (Below w.heap.size w w'))
                     case atStart => exact ⟨(0), (x267001_4), (u267001), (by first | rfl | (simp; done) | (simp [*]; done)), H', ⟨Nat.le_refl _⟩, ⟨by (with_reducible repeat (first | apply Kd.S_alloc | apply Kd.S_drewN | apply Kd.S_drew)); exact Kd.S_mono (Kd.S_far (p := ⟨gb281, 1, none⟩) (Kd.S_far (p := ⟨gb281, 0, none⟩) (Kd.S_types HO_267000.out BK281.out (by decide)) (fun _ hk => hk.2) (.int .i64 ((rd_T41 l0_1 x121_4).f0))) (fun _ hk => hk.2) (.int .i64 ((rd_T41 l0_1 x121_4).f1))) (fun _ hk => trivial)⟩, ⟨by (with_reducible repeat (first | apply Kd.R_alloc | apply Kd.R_drewN | apply Kd.R_drew)); exact Kd.R_mono (Kd.R_far (p := ⟨gb281, 1, none⟩) (Kd.R_far (p := ⟨gb281, 0, none⟩) (Kd.R_mono HO_267001.out (fun k_ hk => (⟨hk, hk.2⟩ : _ ∧ k_ ≠ gb281))) (fun _ hk => hk.2) (.int .i64 ((rd_T41 l0_1 x121_4).f0))) (fun _ hk => hk.2) (.int .i64 ((rd_T41 l0_1 x121_4).f1))) (fun _ hk => hk.1.2)⟩, ⟨by (with_reducible repeat (first | refine blk_drewN ?_ _ | refine blk_drew ?_ | refine blk_alloc ?_ _)); refine blk_far ?_ NB260_281.out _; (with_reducible repeat (first | refine blk_drewN ?_ _ | refine blk_drew ?_ | refine blk_alloc ?_ _)); refine blk_far ?_ NB260_281.out _; (with_reducible repeat (first | refine blk_drewN ?_ _ | refine blk_drew ?_ | refine blk_alloc ?_ _)); exact BK260.out⟩, ⟨by (with_reducible repeat (first | refine blk_drewN ?_ _ | refine blk_drew ?_ | refine blk_alloc ?_ _)); refine blk_far ?_ NB261_281.out _; (with_reducible repeat (first | refine blk_drewN ?_ _ | refine blk_drew ?_ | refine blk_alloc ?_ _)); refine blk_far ?_ NB261_281.out _; (with_reducible repeat (first | refine blk_drewN ?_ _ | refine blk_drew ?_ | refine blk_alloc ?_ _)); exact BK261.out⟩, ⟨by (with_reducible repeat (first | refine blk_drewN ?_ _ | refine blk_drew ?_ | refine blk_alloc ?_ _)); refine blk_far ?_ NB262_281.out _; (with_reducible repeat (first | refine blk_drewN ?_ _ | refine blk_drew ?_ | refine blk_alloc ?_ _)); refine blk_far ?_ NB262_281.out _; (with_reducible repeat (first | refine blk_drewN ?_ _ | refine blk_drew ?_ | refine blk_alloc ?_ _)); exact BK262.out⟩, ⟨by (with_reducible repeat (first | refine blk_drewN ?_ _ | refine blk_drew ?_ | refine blk_alloc ?_ _)); refine blk_far ?_ NB266_281.out _; (with_reducible repeat (first | refine blk_drewN ?_ _ | refine blk_drew ?_ | refine blk_alloc ?_ _)); refine blk_far ?_ NB266_281.out _; (with_reducible repeat (first | refine blk_drewN ?_ _ | refine blk_drew ?_ | refine blk_alloc ?_ _)); exact BK266.out⟩, ⟨by (with_reducible repeat (first | refine blk_drewN ?_ _ | refine blk_drew ?_ | refine blk_alloc ?_ _)); refine blk_put (cs := #[.int .i64 ((rd_T41 l0_1 x121_4).f0), .int .i64 0]) ?_ 1 _ rfl; (with_reducible repeat (first | refine blk_drewN ?_ _ | refine blk_drew ?_ | refine blk_alloc ?_ _)); refine blk_put (cs := #[.int .i64 0, .int .i64 0]) ?_ 0 _ rfl; (with_reducible repeat (first | refine blk_drewN ?_ _ | refine blk_drew ?_ | refine blk_alloc ?_ _)); exact BK281.out⟩, ⟨zB⟩⟩
                     case round =>
                      clear H'
                      try clear c1
                      try clear c2
                      try clear p2
                      try clear q2
                      try clear hx2
                      try clear c3
                      try clear c4
                      try clear c5
                      try clear c6
                      try clear p6
                      try clear c7
                      try clear c8
                      try clear c9
                      try clear c10
                      try clear c11
                      try clear c12
                      try clear c13
                      try clear c16
                      try clear c21
                      try clear c22
                      try clear c23
                      try clear c25
                      try clear c26
                      try clear p26
                      try clear q26
                      try clear hx26
                      try clear p27
                      try clear q27
                      try clear hx27
                      try clear c28
                      try clear p28
                      try clear q28
                      try clear hx28
                      try clear c29
                      try clear c32
                      try clear c33
                      try clear c34
                      try clear c37
                      try clear c38
                      try clear c40
                      try clear c40b0
                      try clear c41
                      try clear c42
                      try clear c44
                      try clear c45
                      try clear c47
                      try clear c49
                      try clear c50
                      try clear c51
                      try clear c54
                      try clear c55
                      try clear c56
                      try clear c58
                      try clear c59
                      try clear c61
                      try clear c61b0
                      try clear c62
                      try clear c62b0
                      try clear c63
                      try clear c63b0
                      try clear c64
                      try clear p64
                      try clear c65
                      try clear c66
                      try clear c68
                      try clear c68b0
                      try clear c69
                      try clear c69b0
                      try clear c70
                      try clear c70b0
                      try clear c71
                      try clear c71b0
                      try clear c72
                      try clear c73
                      try clear c74
                      try clear c77
                      try clear c84
                      try clear c85
                      try clear c86
                      try clear c88
                      try clear c88b0
                      try clear c89
                      try clear c89b0
                      try clear c90
                      try clear c90b0
                      try clear c91
                      try clear c93
                      try clear c94
                      try clear c95
                      try clear c96
                      try clear c98
                      try clear c99
                      try clear c100
                      try clear c105
                      try clear c106
                      try clear c107
                      try clear c109
                      try clear c109b0
                      try clear c110
                      try clear c110b0
                      try clear c111
                      try clear c111b0
                      try clear c113
                      try clear c114
                      try clear c115
                      try clear c116
                      try clear hcz101_0
                      try clear hcz101_1
                      try clear hcz104_0
                      try clear hcz104_1
                      try clear hcz108_0
                      try clear hcz108_1
                      try clear hcz117_0
                      try clear hcz117_1
                      try clear hcz14_0
                      try clear hcz14_1
                      try clear hcz17_0
                      try clear hcz17_1
                      try clear hcz19_0
                      try clear hcz19_1
                      try clear hcz23_0
                      try clear hcz23_1
                      try clear hcz26_0
                      try clear hcz26_1
                      try clear hcz30_0
                      try clear hcz30_1
                      try clear hcz35_0
                      try clear hcz35_1
                      try clear hcz39_0
                      try clear hcz39_1
                      try clear hcz43_0
                      try clear hcz43_1
                      try clear hcz46_0
                      try clear hcz46_1
                      try clear hcz48_0
                      try clear hcz48_1
                      try clear hcz52_0
                      try clear hcz52_1
                      try clear hcz57_0
                      try clear hcz57_1
                      try clear hcz60_0
                      try clear hcz60_1
                      try clear hcz67_0
                      try clear hcz67_1
                      try clear hcz75_0
                      try clear hcz75_1
                      try clear hcz87_0
                      try clear hcz87_1
                      try clear hcz97_0
                      try clear hcz97_1
                      try clear hfz101_0
                      try clear hfz101_1
                      try clear hfz104_0
                      try clear hfz104_1
                      try clear hfz108_0
                      try clear hfz108_1
                      try clear hfz117_0
                      try clear hfz117_1
                      try clear hfz14_0
                      try clear hfz14_1
                      try clear hfz17_0
                      try clear hfz17_1
                      try clear hfz19_0
                      try clear hfz19_1
                      try clear hfz23_0
                      try clear hfz23_1
                      try clear hfz26_0
                      try clear hfz26_1
                      try clear hfz30_0
                      try clear hfz30_1
                      try clear hfz35_0
                      try clear hfz35_1
                      try clear hfz39_0
                      try clear hfz39_1
                      try clear hfz43_0
                      try clear hfz43_1
                      try clear hfz46_0
                      try clear hfz46_1
                      try clear hfz48_0
                      try clear hfz48_1
                      try clear hfz52_0
                      try clear hfz52_1
                      try clear hfz57_0
                      try clear hfz57_1
                      try clear hfz60_0
                      try clear hfz60_1
                      try clear hfz67_0
                      try clear hfz67_1
                      try clear hfz75_0
                      try clear hfz75_1
                      try clear hfz87_0
                      try clear hfz87_1
                      try clear hfz97_0
                      try clear hfz97_1
                      try clear hx267_0
                      try clear hx268_0
                      try clear hx275_0
                      try clear hx275_1
                      try clear hx280_0
                      try clear hx280_1
                      try clear p2
                      try clear p26
                      try clear p267
                      try clear p268
                      try clear p27
                      try clear p275
                      try clear p280
                      try clear p6
                      try clear p64
                      try clear q2
                      try clear q26
                      try clear q267
                      try clear q268
                      try clear q27
                      try clear q275
                      try clear q280
                      obtain ⟨x126_5, x267001_5, u267001, rfl, HA, HK5, HO_267000, HO_267001, BK260, BK261, BK262, BK266, BK281, HB⟩ := hrel
                      cases gk with
                      | zero => exact absurd HA.out (by simp [impl_ProductSpace.l4])
                      | succ k5 =>
                       have H := HA.out
                       clear HA
                       simp only [impl_ProductSpace.l4] at H
                       by_cases c118 : x126_5 < (l1_0.length : Int)
                       · rw [if_pos c118] at H
                         have c118b0 := decide_eq_true c118
                         clear c118
                         by_cases c119 : x267001_5.length < 8796093022208
                         · rw [if_pos c119] at H
                           have LMc119 := Aside0.mk c119
                           clear c119
                           obtain ⟨y282, hy282⟩ : ∃ y_ : List (S41), y_ = (x267001_5 ++ [(⟨wrap64 ((wrap64 (((rd_T41 l0_1 x121_4).f0) * (l1_0.length : Int))) + x126_5), wrap64 ((wrap64 (((rd_T41 l0_1 x121_4).f1) * (l1_0.length : Int))) + x126_5)⟩ : S41)]) := ⟨_, rfl⟩
                           replace H : (impl_ProductSpace.l4 k5 (l1_0.length : Int) l0_1 (l0_1.length : Int) x121_4 (l1_0.length : Int) (wrap64 (x126_5 + 1)) x267000_3 y282 ((rd_T41 l0_1 x121_4).f0) ((rd_T41 l0_1 x121_4).f1)) = some (r1, r2, r3) := by first | (rw [hy282]; with_reducible exact H) | (have H2_ := (Option.bind_some _ _).symm.trans H; rw [hy282]; with_reducible exact H2_) | (have H2_ := (Option.bind_some _ _).symm.trans H; with_reducible exact H2_) | with_reducible exact H | (rw [hy282]; exact H) | exact H
                           have Ny282 := Aside0.mk hy282
                           clear hy282
                           have H' := Aside0.mk H
                           clear H
                           have hnb120 := NB266_260.out
                           have hnc120 := NB260_266.out
                           have hnb121 := NB266_261.out
                           have hnc121 := NB261_266.out
                           have hnb122 := NB266_262.out
                           have hnc122 := NB262_266.out
                           have hnb123 := NB266_281.out
                           have hnc123 := NB281_266.out
                           have hcz124_0 := zy BK266 0
                           have hcz124_1 := zy BK266 1
                           have hfz124_0 := blk_frozen BK266.out 0
                           have hfz124_1 := blk_frozen BK266.out 1
                           have hnb125 := NB281_260.out
                           have hnc125 := NB260_281.out
                           have hnb126 := NB281_261.out
                           have hnc126 := NB261_281.out
                           have hnb127 := NB281_262.out
                           have hnc127 := NB262_281.out
                           have hcz128_0 := zy BK281 0
                           have hcz128_1 := zy BK281 1
                           have hfz128_0 := blk_frozen BK281.out 0
                           have hfz128_1 := blk_frozen BK281.out 1
                           (repeat (first | (first | ((with_reducible refine gate_builtin (b := .append) (xs := #[.tmp 130, .tmp 144]) rfl ?_); (try (refine gate_guard (by rfl) ?_; dsimp only)); at_builtin; refine Kd.R_append k41 (w0 := w) w.heap.size rfl (.tmp 130) (.tmp 144) 23 41 (.agg #[(.int .i64 0), (.int .i64 0)]) 16 rfl Try.underlying23 info41 rfl (by decide) (by omega) u267001 x267001_5 (⟨wrap64 ((wrap64 (((rd_T41 l0_1 x121_4).f0) * (l1_0.length : Int))) + x126_5), wrap64 ((wrap64 (((rd_T41 l0_1 x121_4).f1) * (l1_0.length : Int))) + x126_5)⟩ : S41) [.int .i64 (wrap64 ((wrap64 (((rd_T41 l0_1 x121_4).f0) * (l1_0.length : Int))) + x126_5)), .int .i64 (wrap64 ((wrap64 (((rd_T41 l0_1 x121_4).f1) * (l1_0.length : Int))) + x126_5))] (fun k_ => k_ ≠ gb281) (fun _ => False) rfl rfl ?aP (fun _ hk => hk.elim) ?aF ?aO ?aB ?aS ?aL ?_; (case aP => exact k41_mkM _ _ _ (⟨wrap64 ((wrap64 (((rd_T41 l0_1 x121_4).f0) * (l1_0.length : Int))) + x126_5), wrap64 ((wrap64 (((rd_T41 l0_1 x121_4).f1) * (l1_0.length : Int))) + x126_5)⟩ : S41)); (case aB => exact zB); (case aF => exact (fun k_ hk => Kd.freshB (g := gb281) (o := .cells #[.int .i64 ((rd_T41 l0_1 x121_4).f0), .int .i64 ((rd_T41 l0_1 x121_4).f1)] 41 (0, 0)) (zK BK281.out) k_ hk)); (case aO => exact (zR HO_267001.out)); (case aS => exact (below_size zB)); (case aL => have := LMc119.out; omega); intro v283 w129 ho hb hg hat; rw [← Ny282.out] at ho; replace HO_267000 := zM (Kd.S_over' (by (with_reducible repeat (first | apply Kd.S_alloc | apply Kd.S_drewN | apply Kd.S_drew)); exact HO_267000.out) (Kd.R_typed (zR HO_267001.out)) (by decide) hg); replace BK260 := zM (blk_grown (g := gb260) (o := .cells #[.slice A0_0 l0_0.length c0_0, .slice (some ad280) l0_1.length c0_1] 27 (0, 0)) (zK BK260.out) hg (Kd.R_ne HO_267001.out BK260.out (by decide))); replace BK261 := zM (blk_grown (g := gb261) (o := .cells #[.slice A1_0 l1_0.length c1_0, .slice A1_1 l1_1.length c1_1] 27 (0, 0)) (zK BK261.out) hg (Kd.R_ne HO_267001.out BK261.out (by decide))); replace BK262 := zM (blk_grown (g := gb262) (o := .cells #[.slice none 0 0, .slice none 0 0] 27 (0, 0)) (zK BK262.out) hg (Kd.R_ne HO_267001.out BK262.out (by decide))); replace BK266 := zM (blk_grown (g := gb266) (o := .cells #[u267000, u267001] 27 (0, 0)) (zK BK266.out) hg (Kd.R_ne HO_267001.out BK266.out (by decide))); replace BK281 := zM (blk_grown (g := gb281) (o := .cells #[.int .i64 ((rd_T41 l0_1 x121_4).f0), .int .i64 ((rd_T41 l0_1 x121_4).f1)] 41 (0, 0)) (zK BK281.out) hg (Kd.R_away HO_267001.out (fun _ hk => hk))); replace HB := zM (hb); have HO284 := zM (ho); clear HO_267001; clear ho hb hg hat; obtain ⟨Ao130, co130, eo130⟩ := Kd.R_slice HO284.out; subst eo130; have hcz131_0 := zy BK266 0; have hcz131_1 := zy BK266 1; have hfz131_0 := blk_frozen BK266.out 0; have hfz131_1 := blk_frozen BK266.out 1)) | go_skip | go_guarded | go_step | go_upon))
                           go_roundg k5
                           case measure => have := HJ2.out; have := HJ35.out; have := HK3.out; have := HK4.out; have := HK5.out; omega
                           case rel => exact ⟨(wrap64 (x126_5 + 1)), (y282), (.slice Ao130 y282.length co130), (by first | rfl | (simp; done) | (simp [*]; done)), H', ⟨by have := HJ2.out; have := HJ35.out; have := HK3.out; have := HK4.out; have := HK5.out; omega⟩, ⟨by (with_reducible repeat (first | apply Kd.S_alloc | apply Kd.S_drewN | apply Kd.S_drew)); exact Kd.S_mono (Kd.S_far (p := ⟨gb266, 1, none⟩) (Kd.S_types HO_267000.out BK266.out (by decide)) (fun _ hk => hk.2) (.slice Ao130 y282.length co130)) (fun _ hk => trivial)⟩, ⟨by (with_reducible repeat (first | apply Kd.R_alloc | apply Kd.R_drewN | apply Kd.R_drew)); exact Kd.R_mono (Kd.R_far (p := ⟨gb266, 1, none⟩) (Kd.R_types HO284.out BK266.out (by decide)) (fun _ hk => hk.2) (.slice Ao130 y282.length co130)) (fun _ hk => hk.1)⟩, ⟨by (with_reducible repeat (first | refine blk_drewN ?_ _ | refine blk_drew ?_ | refine blk_alloc ?_ _)); refine blk_far ?_ NB260_266.out _; (with_reducible repeat (first | refine blk_drewN ?_ _ | refine blk_drew ?_ | refine blk_alloc ?_ _)); exact BK260.out⟩, ⟨by (with_reducible repeat (first | refine blk_drewN ?_ _ | refine blk_drew ?_ | refine blk_alloc ?_ _)); refine blk_far ?_ NB261_266.out _; (with_reducible repeat (first | refine blk_drewN ?_ _ | refine blk_drew ?_ | refine blk_alloc ?_ _)); exact BK261.out⟩, ⟨by (with_reducible repeat (first | refine blk_drewN ?_ _ | refine blk_drew ?_ | refine blk_alloc ?_ _)); refine blk_far ?_ NB262_266.out _; (with_reducible repeat (first | refine blk_drewN ?_ _ | refine blk_drew ?_ | refine blk_alloc ?_ _)); exact BK262.out⟩, ⟨by (with_reducible repeat (first | refine blk_drewN ?_ _ | refine blk_drew ?_ | refine blk_alloc ?_ _)); refine blk_put (cs := #[u267000, u267001]) ?_ 1 _ rfl; (with_reducible repeat (first | refine blk_drewN ?_ _ | refine blk_drew ?_ | refine blk_alloc ?_ _)); exact BK266.out⟩, ⟨by (with_reducible repeat (first | refine blk_drewN ?_ _ | refine blk_drew ?_ | refine blk_alloc ?_ _)); refine blk_far ?_ NB281_266.out _; (with_reducible repeat (first | refine blk_drewN ?_ _ | refine blk_drew ?_ | refine blk_alloc ?_ _)); exact BK281.out⟩, ⟨zB⟩⟩
                         · rw [if_neg c119] at H
                           exact absurd H (by simp)
                       · rw [if_neg c118] at H
                         have c118b0 : decide (x126_5 < (l1_0.length : Int)) = false := decide_eq_false c118
                         clear c118
                         have H' := Aside0.mk H
                         clear H
                         (repeat (first | go_skip | go_guarded | go_step | go_upon))
                         go_roundg k5
                         case measure => have := HJ2.out; have := HJ35.out; have := HK3.out; have := HK4.out; have := HK5.out; omega
                         case rel => exact ⟨(wrap64 (x121_4 + 1)), (x267001_5), (u267001), (by first | rfl | (simp; done) | (simp [*]; done)), H', ⟨by have := HJ2.out; have := HJ35.out; have := HK3.out; have := HK4.out; have := HK5.out; omega⟩, ⟨by (with_reducible repeat (first | apply Kd.S_alloc | apply Kd.S_drewN | apply Kd.S_drew)); exact HO_267000.out⟩, ⟨by (with_reducible repeat (first | apply Kd.R_alloc | apply Kd.R_drewN | apply Kd.R_drew)); exact Kd.R_mono HO_267001.out (fun _ hk => trivial)⟩, ⟨zK BK260.out⟩, ⟨zK BK261.out⟩, ⟨zK BK262.out⟩, ⟨zK BK266.out⟩, ⟨zB⟩⟩
                   · rw [if_neg c111] at H
                     exact absurd H (by simp)
                 · rw [if_neg c110] at H
                   exact absurd H (by simp)
               · rw [if_neg c109] at H
                 have c109b0 : decide (x121_4 < (l0_1.length : Int)) = false := decide_eq_false c109
                 clear c109
                 by_cases csrt_ : x267001_4.length < 4611686018427387904
                 case neg => rw [if_neg csrt_] at H; cases H
                 rw [if_pos csrt_] at H
                 have HSRT := Aside0.mk csrt_
                 clear csrt_
                 simp only [Option.some.injEq, Prod.mk.injEq] at H
                 obtain ⟨rfl, rfl, rfl⟩ := H
                 have hnb132 := NB266_260.out
                 have hnc132 := NB260_266.out
                 have hnb133 := NB266_261.out
                 have hnc133 := NB261_266.out
                 have hnb134 := NB266_262.out
                 have hnc134 := NB262_266.out
                 have hcz135_0 := zy BK266 0
                 have hcz135_1 := zy BK266 1
                 have hfz135_0 := blk_frozen BK266.out 0
                 have hfz135_1 := blk_frozen BK266.out 1
                 obtain ⟨Ao136, co136, eo136⟩ := Kd.S_slice HO_267000.out
                 subst eo136
                 have hnb137 := NB262_260.out
                 have hnc137 := NB260_262.out
                 have hnb138 := NB262_261.out
                 have hnc138 := NB261_262.out
                 have hcz139_0 := zy BK262 0
                 have hcz139_1 := zy BK262 1
                 have hfz139_0 := blk_frozen BK262.out 0
                 have hfz139_1 := blk_frozen BK262.out 1
                 obtain ⟨Ao140, co140, eo140⟩ := Kd.R_slice HO_267001.out
                 subst eo140
                 (repeat (first | (go_at_call 27; refine (sortPairs.calls _ w.heap.size _ x267001_4 _ HO_267001.out HSRT.out).mono ?_; rintro e wS ⟨rfl, hoS, hg⟩; replace HO_267000 := zM (Kd.S_over' HO_267000.out (Kd.R_typed HO_267001.out) (by decide) hg); replace BK260 := zM (blk_grown BK260.out hg (Kd.R_ne HO_267001.out BK260.out (by decide))); replace BK261 := zM (blk_grown BK261.out hg (Kd.R_ne HO_267001.out BK261.out (by decide))); replace BK262 := zM (blk_grown BK262.out hg (Kd.R_ne HO_267001.out BK262.out (by decide))); replace BK266 := zM (blk_grown BK266.out hg (Kd.R_ne HO_267001.out BK266.out (by decide))); replace HB := zM (pw_below_grown zB _ (below_size zB) hg (Kd.R_base HO_267001.out)); replace HO_267001 := zM hoS; clear hoS hg; have hczS0_0 := zy BK260 0; have hczS0_1 := zy BK260 1; have hfzS0_0 := blk_frozen BK260.out 0; have hfzS0_1 := blk_frozen BK260.out 1; have hczS1_0 := zy BK261 0; have hczS1_1 := zy BK261 1; have hfzS1_0 := blk_frozen BK261.out 0; have hfzS1_1 := blk_frozen BK261.out 1; have hczS2_0 := zy BK262 0; have hczS2_1 := zy BK262 1; have hfzS2_0 := blk_frozen BK262.out 0; have hfzS2_1 := blk_frozen BK262.out 1; have hczS3_0 := zy BK266 0; have hczS3_1 := zy BK266 1; have hfzS3_0 := blk_frozen BK266.out 0; have hfzS3_1 := blk_frozen BK266.out 1; dsimp only) | go_skip | go_guarded | go_step | go_upon))
                 refine bodyPost_ret (results_ct rfl _ _ gb262 27 #[.slice Ao136 x267000_3.length co136, .slice Ao140 x267001_4.length co140] (0, 0) _ rfl (by (with_reducible repeat (first | refine blk_drewN ?_ _ | refine blk_drew ?_ | refine blk_alloc ?_ _)); refine blk_put (cs := #[.slice Ao136 x267000_3.length co136, .slice none 0 0]) ?_ 1 _ rfl; (with_reducible repeat (first | refine blk_drewN ?_ _ | refine blk_drew ?_ | refine blk_alloc ?_ _)); refine blk_put (cs := #[.slice none 0 0, .slice none 0 0]) ?_ 0 _ rfl; (with_reducible repeat (first | refine blk_drewN ?_ _ | refine blk_drew ?_ | refine blk_alloc ?_ _)); exact BK262.out) Try.underlying27 rfl (by kernel_rfl)) rfl ?_
                 exact ⟨_, _, by first | rfl | (simp [errW_none, errW_some] <;> rfl) | (simp [*, errW_none, errW_some] <;> rfl), by (with_reducible repeat (first | apply Kd.S_alloc | apply Kd.S_drewN | apply Kd.S_drew)); exact Kd.S_mono (Kd.S_far (p := ⟨gb262, 1, none⟩) (Kd.S_far (p := ⟨gb262, 0, none⟩) (Kd.S_types HO_267000.out BK262.out (by decide)) (fun _ hk => hk.2) (.slice Ao136 x267000_3.length co136)) (fun _ hk => hk.2) (.slice Ao140 x267001_4.length co140)) (fun _ hk => trivial), by (with_reducible repeat (first | apply Kd.R_alloc | apply Kd.R_drewN | apply Kd.R_drew)); exact Kd.R_mono (Kd.R_far (p := ⟨gb262, 1, none⟩) (Kd.R_far (p := ⟨gb262, 0, none⟩) (Kd.R_types HO_267001.out BK262.out (by decide)) (fun _ hk => hk.2) (.slice Ao136 x267000_3.length co136)) (fun _ hk => hk.2) (.slice Ao140 x267001_4.length co140)) (fun _ hk => trivial), zB⟩

end Go.Proofs.Ytihfpngolcjkiaa.P
