-- Written by a program of this session (the kit's print, turned: wip/print/patch.py) out of the translation. Not trusted: Lean checks it.
import Derived.Test.YtpbngmkhpcgpkaaPx0
import Derived.Test.YtpbngmkhpcgpkaaPx16
import Derived.Test.YtpbngmkhpcgpkaaPx17
import Derived.Test.YtpbngmkhpcgpkaaPx23
import Derived.Test.YtpbngmkhpcgpkaaPx24
import Derived.Test.YtpbngmkhpcgpkaaPx26
import Derived.Test.YtpbngmkhpcgpkaaPx29
import Derived.Test.YtpbngmkhpcgpkaaPx30
import Derived.Test.YtpbngmkhpcgpkaaPx31
namespace Go.Proofs.Ytpbngmkhpcgpkaa.P
open Go.RowKit Go.Proofs.YtpbngmkhpcgpkaaW.PrintWords Go.Proofs.YtpbngmkhpcgpkaaW.PrintLast Go.Proofs.YtpbngmkhpcgpkaaW.PrintMore
attribute [local go_sem] max2_int min2_int max_two min_two max_three min_three max_four min_four   -- for this text's walks alone
set_option linter.unusedVariables false
set_option linter.unusedSimpArgs false

/-! ### impl_PotentialBound: function 44 -/
def impl_PotentialBound.f (k : Nat) (l0_0 : List (List Int)) (l0_1 : List (S68)) (l1 : List Int) (a2 : Int) (a3 : Int) : Option (Int × Bool) := (impl_IsPotential.f k l0_0 l0_1 l1).bind fun bt679 => (if bt679.1 = true then ((impl_Space_isPlace.f l0_0 l0_1 a2).bind fun t681 => (if t681 = true then ((impl_Space_isPlace.f l0_0 l0_1 a3).bind fun t682 => (if t682 = true then ((impl_differ.f l1 a2 a3).bind fun t683 => (some (t683, true))) else (some (0, false)))) else (some (0, false)))) else (some (0, false)))
theorem impl_PotentialBound.mono : ∀ a0 a1 a2 a3 a4 k, LeO (impl_PotentialBound.f k a0 a1 a2 a3 a4) (impl_PotentialBound.f (k + 1) a0 a1 a2 a3 a4) := by
 intro a0 a1 a2 a3 a4 k
 unfold impl_PotentialBound.f
 repeat' first
  | (with_reducible exact impl_IsPotential.mono _ _ _ _)
  | (with_reducible exact LeO.refl _)
  | (with_reducible exact LeO.none _)
  | (with_reducible refine LeO.ite ?_ ?_)
  | (with_reducible refine LeO.bind ?_ (fun _ => ?_))
  | exact impl_IsPotential.mono _ _ _ _
  | exact LeO.none _
  | refine LeO.ite ?_ ?_
  | refine LeO.bind ?_ (fun _ => ?_)
set_option maxHeartbeats 8000000 in
set_option maxRecDepth 100000 in
theorem impl_PotentialBound.calls (k : Nat) (A0_0 : Option Addr) (c0_0 : Nat) (l0_0 : List (List Int)) (A0_1 : Option Addr) (c0_1 : Nat) (l0_1 : List (S68)) (A1 : Option Addr) (c1 : Nat) (l1 : List Int) (a2 : Int) (a3 : Int) (r1 : Int) (r2 : Bool) (w : World) (hr0_0 : Kd.C (Kd.slice 3 (Kd.int .i64)) w A0_0 l0_0.length l0_0) (hc0_0 : l0_0.length ≤ c0_0) (hr0_1 : Kd.C k68 w A0_1 l0_1.length l0_1) (hc0_1 : l0_1.length ≤ c0_1) (hr1 : Kd.C (Kd.int .i64) w A1 l1.length l1) (hc1 : l1.length ≤ c1) (h : impl_PotentialBound.f k l0_0 l0_1 l1 a2 a3 = some (r1, r2)) :
 Calls Try.prog 44 #[.agg #[.slice A0_0 l0_0.length c0_0, .slice A0_1 l0_1.length c0_1], .slice A1 l1.length c1, .int .i64 a2, .int .i64 a3] w fun e w' => e = .returned (.tuple #[.int .i64 r1, .bool r2]) ∧ Below w.heap.size w w' := by
 have hu50 := Try.underlying50
 have HR0_0 := Aside0.mk hr0_0
 have HC0_0 := Aside0.mk hc0_0
 clear hr0_0 hc0_0
 have HR0_1 := Aside0.mk hr0_1
 have HC0_1 := Aside0.mk hc0_1
 clear hr0_1 hc0_1
 have HR1 := Aside0.mk hr1
 have HC1 := Aside0.mk hc1
 clear hr1 hc1
 have HB := zM (Below.refl w.heap.size w)
 have H : ((impl_IsPotential.f k l0_0 l0_1 l1).bind fun bt679 => (if bt679.1 = true then ((impl_Space_isPlace.f l0_0 l0_1 a2).bind fun t681 => (if t681 = true then ((impl_Space_isPlace.f l0_0 l0_1 a3).bind fun t682 => (if t682 = true then ((impl_differ.f l1 a2 a3).bind fun t683 => (some (t683, true))) else (some (0, false)))) else (some (0, false)))) else (some (0, false)))) = some (r1, r2) := h
 clear h
 replace H := Option.bind_eq_some_iff.mp H
 obtain ⟨⟨t679, t680⟩, A50, H⟩ := H
 replace H : (if t679 = true then ((impl_Space_isPlace.f l0_0 l0_1 a2).bind fun t681 => (if t681 = true then ((impl_Space_isPlace.f l0_0 l0_1 a3).bind fun t682 => (if t682 = true then ((impl_differ.f l1 a2 a3).bind fun t683 => (some (t683, true))) else (some (0, false)))) else (some (0, false)))) else (some (0, false))) = some (r1, r2) := H
 have A5 := Aside0.mk A50
 clear A50
 by_cases c6 : t679 = true
 · subst c6
   have H1 : ((impl_Space_isPlace.f l0_0 l0_1 a2).bind fun t681 => (if t681 = true then ((impl_Space_isPlace.f l0_0 l0_1 a3).bind fun t682 => (if t682 = true then ((impl_differ.f l1 a2 a3).bind fun t683 => (some (t683, true))) else (some (0, false)))) else (some (0, false)))) = some (r1, r2) := by rw [if_pos rfl] at H; exact H
   clear H
   have H := H1
   clear H1
   replace H := Option.bind_eq_some_iff.mp H
   obtain ⟨t681, A70, H⟩ := H
   replace H : (if t681 = true then ((impl_Space_isPlace.f l0_0 l0_1 a3).bind fun t682 => (if t682 = true then ((impl_differ.f l1 a2 a3).bind fun t683 => (some (t683, true))) else (some (0, false)))) else (some (0, false))) = some (r1, r2) := H
   have A7 := Aside0.mk A70
   clear A70
   by_cases c8 : t681 = true
   · subst c8
     have H1 : ((impl_Space_isPlace.f l0_0 l0_1 a3).bind fun t682 => (if t682 = true then ((impl_differ.f l1 a2 a3).bind fun t683 => (some (t683, true))) else (some (0, false)))) = some (r1, r2) := by rw [if_pos rfl] at H; exact H
     clear H
     have H := H1
     clear H1
     replace H := Option.bind_eq_some_iff.mp H
     obtain ⟨t682, A90, H⟩ := H
     replace H : (if t682 = true then ((impl_differ.f l1 a2 a3).bind fun t683 => (some (t683, true))) else (some (0, false))) = some (r1, r2) := H
     have A9 := Aside0.mk A90
     clear A90
     by_cases c10 : t682 = true
     · subst c10
       have H1 : ((impl_differ.f l1 a2 a3).bind fun t683 => (some (t683, true))) = some (r1, r2) := by rw [if_pos rfl] at H; exact H
       clear H
       have H := H1
       clear H1
       replace H := Option.bind_eq_some_iff.mp H
       obtain ⟨t683, A110, H⟩ := H
       replace H : (some (t683, true)) = some (r1, r2) := H
       have A11 := Aside0.mk A110
       clear A110
       simp only [Option.some.injEq, Prod.mk.injEq] at H
       obtain ⟨rfl, rfl⟩ := H
       go_enter Try.func44, Try.ntmps44
       go_wp2_with (first | ((with_reducible refine gate_dst (N := 4) rfl ?_); refine zb (w := w) 4 #[.slice A0_0 l0_0.length c0_0, .slice A0_1 l0_1.length c0_1] 50 zB ?_; clear HB; intro gb678 w12 HB BK678 GW678; have GE678 := GW678; have hcz13_0 := zy BK678 0; have hcz13_1 := zy BK678 1; have hfz13_0 := blk_frozen BK678.out 0; have hfz13_1 := blk_frozen BK678.out 1) | ((with_reducible refine gate_callee (f := 42) rfl ?_); refine zc 15 Try.func42 #[.agg #[.slice A0_0 l0_0.length c0_0, .slice A0_1 l0_1.length c0_1], .slice A1 l1.length c1] ?_; (with_reducible refine (impl_IsPotential.calls k _ _ l0_0 _ _ l0_1 _ _ l1 true t680 _ ?side1 ?side2 ?side3 ?side4 ?side5 ?side6 A5.out).mono ?_); (case side1 => exact zC (Kd.C_below HR0_0.out HB.out)); (case side2 => exact HC0_0.out); (case side3 => exact zC (Kd.C_below HR0_1.out HB.out)); (case side4 => exact HC0_1.out); (case side5 => exact zC (Kd.C_below HR1.out HB.out)); (case side6 => exact HC1.out); rintro e w14 ⟨rfl, hb⟩; refine ⟨_, rfl, ?_⟩; replace BK678 := zM (blk_below (g := gb678) (o := .cells #[.slice A0_0 l0_0.length c0_0, .slice A0_1 l0_1.length c0_1] 50 (0, 0)) (zK BK678.out) hb); replace HB := zM (below_step zB hb); (try clear hb); (try clear hb2); (try clear hk); (try clear hi); have hcz15_0 := zy BK678 0; have hcz15_1 := zy BK678 1; have hfz15_0 := blk_frozen BK678.out 0; have hfz15_1 := blk_frozen BK678.out 1) | (go_at_call 84; (with_reducible refine (impl_Space_isPlace.calls _ _ l0_0 _ _ l0_1 a2 true _ ?side1 ?side2 ?side3 ?side4 A7.out).mono ?_); (case side1 => exact zC (Kd.C_below HR0_0.out HB.out)); (case side2 => exact HC0_0.out); (case side3 => exact zC (Kd.C_below HR0_1.out HB.out)); (case side4 => exact HC0_1.out); rintro e w16 ⟨rfl, hb⟩; replace BK678 := zM (blk_below (g := gb678) (o := .cells #[.slice A0_0 l0_0.length c0_0, .slice A0_1 l0_1.length c0_1] 50 (0, 0)) (zK BK678.out) hb); replace HB := zM (below_step zB hb); (try clear hb); (try clear hb2); (try clear hk); (try clear hi); have hcz17_0 := zy BK678 0; have hcz17_1 := zy BK678 1; have hfz17_0 := blk_frozen BK678.out 0; have hfz17_1 := blk_frozen BK678.out 1) | (go_at_call 84; (with_reducible refine (impl_Space_isPlace.calls _ _ l0_0 _ _ l0_1 a3 true _ ?side1 ?side2 ?side3 ?side4 A9.out).mono ?_); (case side1 => exact zC (Kd.C_below HR0_0.out HB.out)); (case side2 => exact HC0_0.out); (case side3 => exact zC (Kd.C_below HR0_1.out HB.out)); (case side4 => exact HC0_1.out); rintro e w18 ⟨rfl, hb⟩; replace BK678 := zM (blk_below (g := gb678) (o := .cells #[.slice A0_0 l0_0.length c0_0, .slice A0_1 l0_1.length c0_1] 50 (0, 0)) (zK BK678.out) hb); replace HB := zM (below_step zB hb); (try clear hb); (try clear hb2); (try clear hk); (try clear hi)) | ((with_reducible refine gate_callee (f := 85) rfl ?_); refine zc 35 Try.func85 #[.slice A1 l1.length c1, .int .i64 a2, .int .i64 a3] ?_; (with_reducible refine (impl_differ.calls _ _ l1 a2 a3 t683 _ ?side1 ?side2 A11.out).mono ?_); (case side1 => exact zC (Kd.C_below HR1.out HB.out)); (case side2 => exact HC1.out); rintro e w19 ⟨rfl, hb⟩; refine ⟨_, rfl, ?_⟩; replace BK678 := zM (blk_below (g := gb678) (o := .cells #[.slice A0_0 l0_0.length c0_0, .slice A0_1 l0_1.length c0_1] 50 (0, 0)) (zK BK678.out) hb); replace HB := zM (below_step zB hb); (try clear hb); (try clear hb2); (try clear hk); (try clear hi)))
       go_ret2
       exact ⟨by first | rfl | (simp [errW_none, errW_some] <;> rfl) | (simp [*, errW_none, errW_some] <;> rfl), zB⟩
     · replace c10 := Bool.eq_false_iff.mpr c10
       subst c10
       have H1 : (some (0, false)) = some (r1, r2) := by rw [if_neg (show ¬ (false = true) by decide)] at H; exact H
       clear H
       have H := H1
       clear H1
       simp only [Option.some.injEq, Prod.mk.injEq] at H
       obtain ⟨rfl, rfl⟩ := H
       go_enter Try.func44, Try.ntmps44
       go_wp2_with (first | ((with_reducible refine gate_dst (N := 4) rfl ?_); refine zb (w := w) 4 #[.slice A0_0 l0_0.length c0_0, .slice A0_1 l0_1.length c0_1] 50 zB ?_; clear HB; intro gb678 w20 HB BK678 GW678; have GE678 := GW678; have hcz21_0 := zy BK678 0; have hcz21_1 := zy BK678 1; have hfz21_0 := blk_frozen BK678.out 0; have hfz21_1 := blk_frozen BK678.out 1) | ((with_reducible refine gate_callee (f := 42) rfl ?_); refine zc 15 Try.func42 #[.agg #[.slice A0_0 l0_0.length c0_0, .slice A0_1 l0_1.length c0_1], .slice A1 l1.length c1] ?_; (with_reducible refine (impl_IsPotential.calls k _ _ l0_0 _ _ l0_1 _ _ l1 true t680 _ ?side1 ?side2 ?side3 ?side4 ?side5 ?side6 A5.out).mono ?_); (case side1 => exact zC (Kd.C_below HR0_0.out HB.out)); (case side2 => exact HC0_0.out); (case side3 => exact zC (Kd.C_below HR0_1.out HB.out)); (case side4 => exact HC0_1.out); (case side5 => exact zC (Kd.C_below HR1.out HB.out)); (case side6 => exact HC1.out); rintro e w22 ⟨rfl, hb⟩; refine ⟨_, rfl, ?_⟩; replace BK678 := zM (blk_below (g := gb678) (o := .cells #[.slice A0_0 l0_0.length c0_0, .slice A0_1 l0_1.length c0_1] 50 (0, 0)) (zK BK678.out) hb); replace HB := zM (below_step zB hb); (try clear hb); (try clear hb2); (try clear hk); (try clear hi); have hcz23_0 := zy BK678 0; have hcz23_1 := zy BK678 1; have hfz23_0 := blk_frozen BK678.out 0; have hfz23_1 := blk_frozen BK678.out 1) | (go_at_call 84; (with_reducible refine (impl_Space_isPlace.calls _ _ l0_0 _ _ l0_1 a2 true _ ?side1 ?side2 ?side3 ?side4 A7.out).mono ?_); (case side1 => exact zC (Kd.C_below HR0_0.out HB.out)); (case side2 => exact HC0_0.out); (case side3 => exact zC (Kd.C_below HR0_1.out HB.out)); (case side4 => exact HC0_1.out); rintro e w24 ⟨rfl, hb⟩; replace BK678 := zM (blk_below (g := gb678) (o := .cells #[.slice A0_0 l0_0.length c0_0, .slice A0_1 l0_1.length c0_1] 50 (0, 0)) (zK BK678.out) hb); replace HB := zM (below_step zB hb); (try clear hb); (try clear hb2); (try clear hk); (try clear hi); have hcz25_0 := zy BK678 0; have hcz25_1 := zy BK678 1; have hfz25_0 := blk_frozen BK678.out 0; have hfz25_1 := blk_frozen BK678.out 1) | (go_at_call 84; (with_reducible refine (impl_Space_isPlace.calls _ _ l0_0 _ _ l0_1 a3 false _ ?side1 ?side2 ?side3 ?side4 A9.out).mono ?_); (case side1 => exact zC (Kd.C_below HR0_0.out HB.out)); (case side2 => exact HC0_0.out); (case side3 => exact zC (Kd.C_below HR0_1.out HB.out)); (case side4 => exact HC0_1.out); rintro e w26 ⟨rfl, hb⟩; replace BK678 := zM (blk_below (g := gb678) (o := .cells #[.slice A0_0 l0_0.length c0_0, .slice A0_1 l0_1.length c0_1] 50 (0, 0)) (zK BK678.out) hb); replace HB := zM (below_step zB hb); (try clear hb); (try clear hb2); (try clear hk); (try clear hi)))
       go_ret2
       exact ⟨by first | rfl | (simp [errW_none, errW_some] <;> rfl) | (simp [*, errW_none, errW_some] <;> rfl), zB⟩
   · replace c8 := Bool.eq_false_iff.mpr c8
     subst c8
     have H1 : (some (0, false)) = some (r1, r2) := by rw [if_neg (show ¬ (false = true) by decide)] at H; exact H
     clear H
     have H := H1
     clear H1
     simp only [Option.some.injEq, Prod.mk.injEq] at H
     obtain ⟨rfl, rfl⟩ := H
     go_enter Try.func44, Try.ntmps44
     go_wp2_with (first | ((with_reducible refine gate_dst (N := 4) rfl ?_); refine zb (w := w) 4 #[.slice A0_0 l0_0.length c0_0, .slice A0_1 l0_1.length c0_1] 50 zB ?_; clear HB; intro gb678 w27 HB BK678 GW678; have GE678 := GW678; have hcz28_0 := zy BK678 0; have hcz28_1 := zy BK678 1; have hfz28_0 := blk_frozen BK678.out 0; have hfz28_1 := blk_frozen BK678.out 1) | ((with_reducible refine gate_callee (f := 42) rfl ?_); refine zc 15 Try.func42 #[.agg #[.slice A0_0 l0_0.length c0_0, .slice A0_1 l0_1.length c0_1], .slice A1 l1.length c1] ?_; (with_reducible refine (impl_IsPotential.calls k _ _ l0_0 _ _ l0_1 _ _ l1 true t680 _ ?side1 ?side2 ?side3 ?side4 ?side5 ?side6 A5.out).mono ?_); (case side1 => exact zC (Kd.C_below HR0_0.out HB.out)); (case side2 => exact HC0_0.out); (case side3 => exact zC (Kd.C_below HR0_1.out HB.out)); (case side4 => exact HC0_1.out); (case side5 => exact zC (Kd.C_below HR1.out HB.out)); (case side6 => exact HC1.out); rintro e w29 ⟨rfl, hb⟩; refine ⟨_, rfl, ?_⟩; replace BK678 := zM (blk_below (g := gb678) (o := .cells #[.slice A0_0 l0_0.length c0_0, .slice A0_1 l0_1.length c0_1] 50 (0, 0)) (zK BK678.out) hb); replace HB := zM (below_step zB hb); (try clear hb); (try clear hb2); (try clear hk); (try clear hi); have hcz30_0 := zy BK678 0; have hcz30_1 := zy BK678 1; have hfz30_0 := blk_frozen BK678.out 0; have hfz30_1 := blk_frozen BK678.out 1) | (go_at_call 84; (with_reducible refine (impl_Space_isPlace.calls _ _ l0_0 _ _ l0_1 a2 false _ ?side1 ?side2 ?side3 ?side4 A7.out).mono ?_); (case side1 => exact zC (Kd.C_below HR0_0.out HB.out)); (case side2 => exact HC0_0.out); (case side3 => exact zC (Kd.C_below HR0_1.out HB.out)); (case side4 => exact HC0_1.out); rintro e w31 ⟨rfl, hb⟩; replace BK678 := zM (blk_below (g := gb678) (o := .cells #[.slice A0_0 l0_0.length c0_0, .slice A0_1 l0_1.length c0_1] 50 (0, 0)) (zK BK678.out) hb); replace HB := zM (below_step zB hb); (try clear hb); (try clear hb2); (try clear hk); (try clear hi)))
     go_ret2
     exact ⟨by first | rfl | (simp [errW_none, errW_some] <;> rfl) | (simp [*, errW_none, errW_some] <;> rfl), zB⟩
 · replace c6 := Bool.eq_false_iff.mpr c6
   subst c6
   have H1 : (some (0, false)) = some (r1, r2) := by rw [if_neg (show ¬ (false = true) by decide)] at H; exact H
   clear H
   have H := H1
   clear H1
   simp only [Option.some.injEq, Prod.mk.injEq] at H
   obtain ⟨rfl, rfl⟩ := H
   go_enter Try.func44, Try.ntmps44
   go_wp2_with (first | ((with_reducible refine gate_dst (N := 4) rfl ?_); refine zb (w := w) 4 #[.slice A0_0 l0_0.length c0_0, .slice A0_1 l0_1.length c0_1] 50 zB ?_; clear HB; intro gb678 w32 HB BK678 GW678; have GE678 := GW678; have hcz33_0 := zy BK678 0; have hcz33_1 := zy BK678 1; have hfz33_0 := blk_frozen BK678.out 0; have hfz33_1 := blk_frozen BK678.out 1) | ((with_reducible refine gate_callee (f := 42) rfl ?_); refine zc 15 Try.func42 #[.agg #[.slice A0_0 l0_0.length c0_0, .slice A0_1 l0_1.length c0_1], .slice A1 l1.length c1] ?_; (with_reducible refine (impl_IsPotential.calls k _ _ l0_0 _ _ l0_1 _ _ l1 false t680 _ ?side1 ?side2 ?side3 ?side4 ?side5 ?side6 A5.out).mono ?_); (case side1 => exact zC (Kd.C_below HR0_0.out HB.out)); (case side2 => exact HC0_0.out); (case side3 => exact zC (Kd.C_below HR0_1.out HB.out)); (case side4 => exact HC0_1.out); (case side5 => exact zC (Kd.C_below HR1.out HB.out)); (case side6 => exact HC1.out); rintro e w34 ⟨rfl, hb⟩; refine ⟨_, rfl, ?_⟩; replace BK678 := zM (blk_below (g := gb678) (o := .cells #[.slice A0_0 l0_0.length c0_0, .slice A0_1 l0_1.length c0_1] 50 (0, 0)) (zK BK678.out) hb); replace HB := zM (below_step zB hb); (try clear hb); (try clear hb2); (try clear hk); (try clear hi)))
   go_ret2
   exact ⟨by first | rfl | (simp [errW_none, errW_some] <;> rfl) | (simp [*, errW_none, errW_some] <;> rfl), zB⟩

/-! ### laws_FnExactPotentialBound: function 11 -/
def laws_FnExactPotentialBound.j0 : Nat → List Int → List Int → Bool → List (List Int) → List (S68) → List (List Int) → List (S68) → Option (Bool)
 | 0, _, _, _, _, _, _, _ => none
 | k + 1, x1, x13, x53, x685000, x685001, x704000, x704001 => if x53 = true then (some false) else ((laws_toSpace.f k x685000 x685001).bind fun bt709 => ((laws_eqSpace.f k x704000 x704001 bt709.1 bt709.2).bind fun t715 => (if t715 = true then ((laws_toIntS.f k x1).bind fun t716 => ((laws_eqIntS.f k x13 t716).bind fun t719 => (if t719 = true then (some true) else (some false)))) else (some false))))
def laws_FnExactPotentialBound.f (k : Nat) (l0_0 : List (List Int)) (l0_1 : List (S68)) (l1 : List Int) (a2 : Int) (a3 : Int) : Option (Bool) := if (l1.length : Int) > 1048576 then (some true) else ((laws_szSpace.f k l0_0 l0_1 1048576).bind fun t685 => (if t685 < 0 then (some true) else ((laws_toSpace.f k l0_0 l0_1).bind fun bt686 => ((laws_toIntS.f k l1).bind fun t692 => ((spec_PotentialBound.f k bt686.1 bt686.2 t692 a2 a3).bind fun bt695 => ((laws_toSpace.f k l0_0 l0_1).bind fun bt697 => ((laws_toIntS.f k l1).bind fun t704 => ((impl_PotentialBound.f k bt697.1 bt697.2 t704 a2 a3).bind fun bt707 => (if bt707.1 = bt695.1 then (laws_FnExactPotentialBound.j0 k l1 t704 (bt707.2 != bt695.2) l0_0 l0_1 bt697.1 bt697.2) else (laws_FnExactPotentialBound.j0 k l1 t704 true l0_0 l0_1 bt697.1 bt697.2))))))))))
theorem laws_FnExactPotentialBound.mono_l : ∀ k, (∀ y0 y1 y2 y3 y4 y5 y6, LeO (laws_FnExactPotentialBound.j0 k y0 y1 y2 y3 y4 y5 y6) (laws_FnExactPotentialBound.j0 (k + 1) y0 y1 y2 y3 y4 y5 y6))
 | 0 => fun _ _ _ _ _ _ _ r h => by simp [laws_FnExactPotentialBound.j0] at h
 | k + 1 => by
  have ih0 := laws_FnExactPotentialBound.mono_l k
  · intro y0 y1 y2 y3 y4 y5 y6
    unfold laws_FnExactPotentialBound.j0
    repeat' first
    | (with_reducible exact ih0 _ _ _ _ _ _ _)
    | (with_reducible exact impl_PotentialBound.mono _ _ _ _ _ _)
    | (with_reducible exact laws_eqIntS.mono _ _ _)
    | (with_reducible exact laws_eqSpace.mono _ _ _ _ _)
    | (with_reducible exact laws_szSpace.mono _ _ _ _)
    | (with_reducible exact laws_toIntS.mono _ _)
    | (with_reducible exact laws_toSpace.mono _ _ _)
    | (with_reducible exact spec_PotentialBound.mono _ _ _ _ _ _)
    | (with_reducible exact LeO.refl _)
    | (with_reducible exact LeO.none _)
    | (with_reducible refine LeO.ite ?_ ?_)
    | (with_reducible refine LeO.bind ?_ (fun _ => ?_))
    | exact ih0 _ _ _ _ _ _ _
    | exact impl_PotentialBound.mono _ _ _ _ _ _
    | exact laws_eqIntS.mono _ _ _
    | exact laws_eqSpace.mono _ _ _ _ _
    | exact laws_szSpace.mono _ _ _ _
    | exact laws_toIntS.mono _ _
    | exact laws_toSpace.mono _ _ _
    | exact spec_PotentialBound.mono _ _ _ _ _ _
    | exact LeO.none _
    | refine LeO.ite ?_ ?_
    | refine LeO.bind ?_ (fun _ => ?_)
theorem laws_FnExactPotentialBound.mono : ∀ a0 a1 a2 a3 a4 k, LeO (laws_FnExactPotentialBound.f k a0 a1 a2 a3 a4) (laws_FnExactPotentialBound.f (k + 1) a0 a1 a2 a3 a4) := by
 intro a0 a1 a2 a3 a4 k
 have ih0 := laws_FnExactPotentialBound.mono_l k
 unfold laws_FnExactPotentialBound.f
 repeat' first
  | (with_reducible exact ih0 _ _ _ _ _ _ _)
  | (with_reducible exact impl_PotentialBound.mono _ _ _ _ _ _)
  | (with_reducible exact laws_eqIntS.mono _ _ _)
  | (with_reducible exact laws_eqSpace.mono _ _ _ _ _)
  | (with_reducible exact laws_szSpace.mono _ _ _ _)
  | (with_reducible exact laws_toIntS.mono _ _)
  | (with_reducible exact laws_toSpace.mono _ _ _)
  | (with_reducible exact spec_PotentialBound.mono _ _ _ _ _ _)
  | (with_reducible exact LeO.refl _)
  | (with_reducible exact LeO.none _)
  | (with_reducible refine LeO.ite ?_ ?_)
  | (with_reducible refine LeO.bind ?_ (fun _ => ?_))
  | exact ih0 _ _ _ _ _ _ _
  | exact impl_PotentialBound.mono _ _ _ _ _ _
  | exact laws_eqIntS.mono _ _ _
  | exact laws_eqSpace.mono _ _ _ _ _
  | exact laws_szSpace.mono _ _ _ _
  | exact laws_toIntS.mono _ _
  | exact laws_toSpace.mono _ _ _
  | exact spec_PotentialBound.mono _ _ _ _ _ _
  | exact LeO.none _
  | refine LeO.ite ?_ ?_
  | refine LeO.bind ?_ (fun _ => ?_)
set_option maxHeartbeats 8000000 in
set_option maxRecDepth 100000 in
theorem laws_FnExactPotentialBound.calls (k : Nat) (A0_0 : Option Addr) (c0_0 : Nat) (l0_0 : List (List Int)) (A0_1 : Option Addr) (c0_1 : Nat) (l0_1 : List (S68)) (A1 : Option Addr) (c1 : Nat) (l1 : List Int) (a2 : Int) (a3 : Int) (r : Bool) (w : World) (hr0_0 : Kd.C (Kd.slice 3 (Kd.int .i64)) w A0_0 l0_0.length l0_0) (hc0_0 : l0_0.length ≤ c0_0) (hr0_1 : Kd.C k68 w A0_1 l0_1.length l0_1) (hc0_1 : l0_1.length ≤ c0_1) (hr1 : Kd.C (Kd.int .i64) w A1 l1.length l1) (hc1 : l1.length ≤ c1) (h : laws_FnExactPotentialBound.f k l0_0 l0_1 l1 a2 a3 = some r) :
 Calls Try.prog 11 #[.agg #[.slice A0_0 l0_0.length c0_0, .slice A0_1 l0_1.length c0_1], .slice A1 l1.length c1, .int .i64 a2, .int .i64 a3] w fun e w' => e = .returned (.bool r) ∧ Below w.heap.size w w' := by
 have hu47 := Try.underlying47
 have hu50 := Try.underlying50
 have HR0_0 := Aside0.mk hr0_0
 have HC0_0 := Aside0.mk hc0_0
 clear hr0_0 hc0_0
 have HR0_1 := Aside0.mk hr0_1
 have HC0_1 := Aside0.mk hc0_1
 clear hr0_1 hc0_1
 have HR1 := Aside0.mk hr1
 have HC1 := Aside0.mk hc1
 clear hr1 hc1
 have HB := zM (Below.refl w.heap.size w)
 have H : (if (l1.length : Int) > 1048576 then (some true) else ((laws_szSpace.f k l0_0 l0_1 1048576).bind fun t685 => (if t685 < 0 then (some true) else ((laws_toSpace.f k l0_0 l0_1).bind fun bt686 => ((laws_toIntS.f k l1).bind fun t692 => ((spec_PotentialBound.f k bt686.1 bt686.2 t692 a2 a3).bind fun bt695 => ((laws_toSpace.f k l0_0 l0_1).bind fun bt697 => ((laws_toIntS.f k l1).bind fun t704 => ((impl_PotentialBound.f k bt697.1 bt697.2 t704 a2 a3).bind fun bt707 => (if bt707.1 = bt695.1 then (laws_FnExactPotentialBound.j0 k l1 t704 (bt707.2 != bt695.2) l0_0 l0_1 bt697.1 bt697.2) else (laws_FnExactPotentialBound.j0 k l1 t704 true l0_0 l0_1 bt697.1 bt697.2))))))))))) = some r := h
 clear h
 by_cases c5 : (l1.length : Int) > 1048576
 · rw [if_pos c5] at H
   have c5b0 : decide (1048576 < (l1.length : Int)) = true := decide_eq_true c5
   have c5b1 : decide (1048576 < l1.length) = true := decide_eq_true (by omega)
   clear c5
   obtain rfl := Option.some.inj H
   go_enter Try.func11, Try.ntmps11
   go_wp2_with (first | ((with_reducible refine gate_dst (N := 4) rfl ?_); refine zb (w := w) 4 #[.slice A0_0 l0_0.length c0_0, .slice A0_1 l0_1.length c0_1] 47 zB ?_; clear HB; intro gb684 w6 HB BK684 GW684; have GE684 := GW684))
   go_ret
   exact ⟨by first | rfl | (simp [errW_none, errW_some] <;> rfl) | (simp [*, errW_none, errW_some] <;> rfl), zB⟩
 · rw [if_neg c5] at H
   have c5b0 : decide (1048576 < (l1.length : Int)) = false := decide_eq_false c5
   have c5b1 : decide (1048576 < l1.length) = false := decide_eq_false (by omega)
   clear c5
   replace H := Option.bind_eq_some_iff.mp H
   obtain ⟨t685, A70, H⟩ := H
   have A7 := Aside0.mk A70
   clear A70
   by_cases c8 : t685 < 0
   · rw [if_pos c8] at H
     have c8b0 := decide_eq_true c8
     clear c8
     obtain rfl := Option.some.inj H
     go_enter Try.func11, Try.ntmps11
     go_wp2_with (first | ((with_reducible refine gate_dst (N := 4) rfl ?_); refine zb (w := w) 4 #[.slice A0_0 l0_0.length c0_0, .slice A0_1 l0_1.length c0_1] 47 zB ?_; clear HB; intro gb684 w9 HB BK684 GW684; have GE684 := GW684; have hcz10_0 := zy BK684 0; have hcz10_1 := zy BK684 1; have hfz10_0 := blk_frozen BK684.out 0; have hfz10_1 := blk_frozen BK684.out 1) | ((with_reducible refine gate_callee (f := 34) rfl ?_); refine zc 21 Try.func34 #[.agg #[.slice A0_0 l0_0.length c0_0, .slice A0_1 l0_1.length c0_1], .int .i64 1048576] ?_; (with_reducible refine (laws_szSpace.calls k _ _ l0_0 _ _ l0_1 1048576 t685 _ ?side1 ?side2 ?side3 ?side4 A7.out).mono ?_); (case side1 => exact zC (Kd.C_below HR0_0.out HB.out)); (case side2 => exact HC0_0.out); (case side3 => exact zC (Kd.C_below HR0_1.out HB.out)); (case side4 => exact HC0_1.out); rintro e w11 ⟨rfl, hb⟩; refine ⟨_, rfl, ?_⟩; replace BK684 := zM (blk_below (g := gb684) (o := .cells #[.slice A0_0 l0_0.length c0_0, .slice A0_1 l0_1.length c0_1] 47 (0, 0)) (zK BK684.out) hb); replace HB := zM (below_step zB hb); (try clear hb); (try clear hb2); (try clear hk); (try clear hi)))
     go_ret
     exact ⟨by first | rfl | (simp [errW_none, errW_some] <;> rfl) | (simp [*, errW_none, errW_some] <;> rfl), zB⟩
   · rw [if_neg c8] at H
     have c8b0 : decide (t685 < 0) = false := decide_eq_false c8
     clear c8
     replace H := Option.bind_eq_some_iff.mp H
     obtain ⟨⟨t686, t689⟩, A120, H⟩ := H
     replace H : ((laws_toIntS.f k l1).bind fun t692 => ((spec_PotentialBound.f k t686 t689 t692 a2 a3).bind fun bt695 => ((laws_toSpace.f k l0_0 l0_1).bind fun bt697 => ((laws_toIntS.f k l1).bind fun t704 => ((impl_PotentialBound.f k bt697.1 bt697.2 t704 a2 a3).bind fun bt707 => (if bt707.1 = bt695.1 then (laws_FnExactPotentialBound.j0 k l1 t704 (bt707.2 != bt695.2) l0_0 l0_1 bt697.1 bt697.2) else (laws_FnExactPotentialBound.j0 k l1 t704 true l0_0 l0_1 bt697.1 bt697.2))))))) = some r := H
     have A12 := Aside0.mk A120
     clear A120
     replace H := Option.bind_eq_some_iff.mp H
     obtain ⟨t692, A130, H⟩ := H
     have A13 := Aside0.mk A130
     clear A130
     replace H := Option.bind_eq_some_iff.mp H
     obtain ⟨⟨t695, t696⟩, A140, H⟩ := H
     replace H : ((laws_toSpace.f k l0_0 l0_1).bind fun bt697 => ((laws_toIntS.f k l1).bind fun t704 => ((impl_PotentialBound.f k bt697.1 bt697.2 t704 a2 a3).bind fun bt707 => (if bt707.1 = t695 then (laws_FnExactPotentialBound.j0 k l1 t704 (bt707.2 != t696) l0_0 l0_1 bt697.1 bt697.2) else (laws_FnExactPotentialBound.j0 k l1 t704 true l0_0 l0_1 bt697.1 bt697.2))))) = some r := H
     have A14 := Aside0.mk A140
     clear A140
     replace H := Option.bind_eq_some_iff.mp H
     obtain ⟨⟨t697, t700⟩, A150, H⟩ := H
     replace H : ((laws_toIntS.f k l1).bind fun t704 => ((impl_PotentialBound.f k t697 t700 t704 a2 a3).bind fun bt707 => (if bt707.1 = t695 then (laws_FnExactPotentialBound.j0 k l1 t704 (bt707.2 != t696) l0_0 l0_1 t697 t700) else (laws_FnExactPotentialBound.j0 k l1 t704 true l0_0 l0_1 t697 t700)))) = some r := H
     have A15 := Aside0.mk A150
     clear A150
     replace H := Option.bind_eq_some_iff.mp H
     obtain ⟨t704, A160, H⟩ := H
     have A16 := Aside0.mk A160
     clear A160
     replace H := Option.bind_eq_some_iff.mp H
     obtain ⟨⟨t707, t708⟩, A170, H⟩ := H
     replace H : (if t707 = t695 then (laws_FnExactPotentialBound.j0 k l1 t704 (t708 != t696) l0_0 l0_1 t697 t700) else (laws_FnExactPotentialBound.j0 k l1 t704 true l0_0 l0_1 t697 t700)) = some r := H
     have A17 := Aside0.mk A170
     clear A170
     have HC18 := Aside0.mk H
     clear H
     go_enter Try.func11, Try.ntmps11
     go_upto_region 11 with (first | ((with_reducible refine gate_dst (N := 4) rfl ?_); refine zb (w := w) 4 #[.slice A0_0 l0_0.length c0_0, .slice A0_1 l0_1.length c0_1] 47 zB ?_; clear HB; intro gb684 w19 HB BK684 GW684; have GE684 := GW684; have hcz20_0 := zy BK684 0; have hcz20_1 := zy BK684 1; have hfz20_0 := blk_frozen BK684.out 0; have hfz20_1 := blk_frozen BK684.out 1) | ((with_reducible refine gate_callee (f := 34) rfl ?_); refine zc 21 Try.func34 #[.agg #[.slice A0_0 l0_0.length c0_0, .slice A0_1 l0_1.length c0_1], .int .i64 1048576] ?_; (with_reducible refine (laws_szSpace.calls k _ _ l0_0 _ _ l0_1 1048576 t685 _ ?side1 ?side2 ?side3 ?side4 A7.out).mono ?_); (case side1 => exact zC (Kd.C_below HR0_0.out HB.out)); (case side2 => exact HC0_0.out); (case side3 => exact zC (Kd.C_below HR0_1.out HB.out)); (case side4 => exact HC0_1.out); rintro e w21 ⟨rfl, hb⟩; refine ⟨_, rfl, ?_⟩; replace BK684 := zM (blk_below (g := gb684) (o := .cells #[.slice A0_0 l0_0.length c0_0, .slice A0_1 l0_1.length c0_1] 47 (0, 0)) (zK BK684.out) hb); replace HB := zM (below_step zB hb); (try clear hb); (try clear hb2); (try clear hk); (try clear hi); have hcz22_0 := zy BK684 0; have hcz22_1 := zy BK684 1; have hfz22_0 := blk_frozen BK684.out 0; have hfz22_1 := blk_frozen BK684.out 1) | ((with_reducible refine gate_callee (f := 36) rfl ?_); refine zc 26 Try.func36 #[.agg #[.slice A0_0 l0_0.length c0_0, .slice A0_1 l0_1.length c0_1]] ?_; (with_reducible refine (laws_toSpace.calls k _ _ l0_0 _ _ l0_1 t686 t689 _ ?side1 ?side2 ?side3 ?side4 A12.out).mono ?_); (case side1 => exact zC (Kd.C_below HR0_0.out HB.out)); (case side2 => exact HC0_0.out); (case side3 => exact zC (Kd.C_below HR0_1.out HB.out)); (case side4 => exact HC0_1.out); rintro e w23 ⟨v687, v690, rfl, ho0, ho1, hb⟩; refine ⟨_, rfl, ?_⟩; have HO688 := zM (Kd.S_lower ho0 (below_size zB)); have HO691 := zM (Kd.R_lower ho1 (below_size zB)); replace BK684 := zM (blk_below (g := gb684) (o := .cells #[.slice A0_0 l0_0.length c0_0, .slice A0_1 l0_1.length c0_1] 47 (0, 0)) (zK BK684.out) hb); replace HB := zM (below_step zB hb); (try clear hb); (try clear hb2); (try clear hk); (try clear hi); (try clear ho0); (try clear ho1)) | ((with_reducible refine gate_callee (f := 25) rfl ?_); refine zc 28 Try.func25 #[.slice A1 l1.length c1] ?_; (with_reducible refine (laws_toIntS.calls k _ _ l1 t692 _ ?side1 ?side2 A13.out).mono ?_); (case side1 => exact zC (Kd.C_below HR1.out HB.out)); (case side2 => exact HC1.out); rintro e w24 ⟨v693, rfl, ho0, hb⟩; refine ⟨_, rfl, ?_⟩; replace HO688 := zM (Kd.S_elder' (by (with_reducible repeat (first | apply Kd.S_alloc | apply Kd.S_drewN | apply Kd.S_drew)); exact HO688.out) (Kd.R_base ho0) hb); replace HO691 := zM (Kd.R_below (zR HO691.out) hb); have HO694 := zM (Kd.R_lower ho0 (below_size zB)); replace BK684 := zM (blk_below (g := gb684) (o := .cells #[.slice A0_0 l0_0.length c0_0, .slice A0_1 l0_1.length c0_1] 47 (0, 0)) (zK BK684.out) hb); replace HB := zM (below_step zB hb); (try clear hb); (try clear hb2); (try clear hk); (try clear hi); (try clear ho0); obtain ⟨Ao25, co25, eo25⟩ := Kd.S_slice HO688.out; subst eo25; obtain ⟨Ao26, co26, eo26⟩ := Kd.R_slice HO691.out; subst eo26; obtain ⟨Ao27, co27, eo27⟩ := Kd.R_slice HO694.out; subst eo27) | ((with_reducible refine gate_callee (f := 43) rfl ?_); refine zc 31 Try.func43 #[.agg #[.slice Ao25 t686.length co25, .slice Ao26 t689.length co26], .slice Ao27 t692.length co27, .int .i64 a2, .int .i64 a3] ?_; (with_reducible refine (spec_PotentialBound.calls k _ _ t686 _ _ t689 _ _ t692 a2 a3 t695 t696 _ ?side1 ?side2 ?side3 ?side4 ?side5 ?side6 A14.out).mono ?_); (case side1 => exact zC (Kd.S_reads' HO688.out).2.2); (case side2 => exact (Kd.S_reads' HO688.out).2.1); (case side3 => exact zC (Kd.R_reads' HO691.out).2.2); (case side4 => exact (Kd.R_reads' HO691.out).2.1); (case side5 => exact zC (Kd.R_reads' HO694.out).2.2); (case side6 => exact (Kd.R_reads' HO694.out).2.1); rintro e w28 ⟨rfl, hb⟩; refine ⟨_, rfl, ?_⟩; replace HO688 := zM (Kd.S_below (by (with_reducible repeat (first | apply Kd.S_alloc | apply Kd.S_drewN | apply Kd.S_drew)); exact HO688.out) hb); replace HO691 := zM (Kd.R_below (zR HO691.out) hb); replace HO694 := zM (Kd.R_below (zR HO694.out) hb); replace BK684 := zM (blk_below (g := gb684) (o := .cells #[.slice A0_0 l0_0.length c0_0, .slice A0_1 l0_1.length c0_1] 47 (0, 0)) (zK BK684.out) hb); replace HB := zM (below_step zB hb); (try clear hb); (try clear hb2); (try clear hk); (try clear hi); have hcz29_0 := zy BK684 0; have hcz29_1 := zy BK684 1; have hfz29_0 := blk_frozen BK684.out 0; have hfz29_1 := blk_frozen BK684.out 1) | ((with_reducible refine gate_callee (f := 36) rfl ?_); refine zc 35 Try.func36 #[.agg #[.slice A0_0 l0_0.length c0_0, .slice A0_1 l0_1.length c0_1]] ?_; (with_reducible refine (laws_toSpace.calls k _ _ l0_0 _ _ l0_1 t697 t700 _ ?side1 ?side2 ?side3 ?side4 A15.out).mono ?_); (case side1 => exact zC (Kd.C_below HR0_0.out HB.out)); (case side2 => exact HC0_0.out); (case side3 => exact zC (Kd.C_below HR0_1.out HB.out)); (case side4 => exact HC0_1.out); rintro e w30 ⟨v698, v701, rfl, ho0, ho1, hb⟩; refine ⟨_, rfl, ?_⟩; have HO699 := zM (Kd.S_lower (Kd.S_new' (Kd.S_new' ho0 (Kd.S_lt (by (with_reducible repeat (first | apply Kd.S_alloc | apply Kd.S_drewN | apply Kd.S_drew)); exact HO688.out))) (Kd.R_lt (zR HO694.out))) (below_size zB)); replace HO688 := zM (Kd.S_elder' (by (with_reducible repeat (first | apply Kd.S_alloc | apply Kd.S_drewN | apply Kd.S_drew)); exact HO688.out) (Kd.S_base ho0) hb); replace HO694 := zM (Kd.R_below (zR HO694.out) hb); have HO702 := zM (Kd.R_lower (Kd.R_new' ho1 (Kd.R_lt (zR HO691.out))) (below_size zB)); replace HO691 := zM (Kd.R_elder' (zR HO691.out) (Kd.R_base ho1) hb); replace BK684 := zM (blk_below (g := gb684) (o := .cells #[.slice A0_0 l0_0.length c0_0, .slice A0_1 l0_1.length c0_1] 47 (0, 0)) (zK BK684.out) hb); replace HB := zM (below_step zB hb); (try clear hb); (try clear hb2); (try clear hk); (try clear hi); (try clear ho0); (try clear ho1)) | ((with_reducible refine gate_dst (N := 12) rfl ?_); refine ze 12 #[.slice none 0 0, .slice none 0 0] 50 ?_; intro gb703 hg w31 hbox hb; replace HO688 := zM (Kd.S_below (by (with_reducible repeat (first | apply Kd.S_alloc | apply Kd.S_drewN | apply Kd.S_drew)); exact HO688.out) hb); replace HO691 := zM (Kd.R_below (zR HO691.out) hb); replace HO694 := zM (Kd.R_below (zR HO694.out) hb); replace HO699 := zM (Kd.S_below (by (with_reducible repeat (first | apply Kd.S_alloc | apply Kd.S_drewN | apply Kd.S_drew)); exact HO699.out) hb); replace HO702 := zM (Kd.R_below (zR HO702.out) hb); have BK703 := zM (hbox); have GW703 := zM ((by rw [hg]; exact (below_size zB) : w.heap.size ≤ gb703)); have GE703 := zM ((by rw [hg]; exact (below_size zB) : w.heap.size ≤ gb703)); replace HB := zM (below_step zB hb); have NB684_703 := zM ((by rw [hg]; exact Nat.ne_of_lt (blk_lt (g := gb684) (o := .cells #[.slice A0_0 l0_0.length c0_0, .slice A0_1 l0_1.length c0_1] 47 (0, 0)) (zK BK684.out)) : gb684 ≠ gb703)); have NB703_684 := zM ((by rw [hg]; exact Nat.ne_of_gt (blk_lt (g := gb684) (o := .cells #[.slice A0_0 l0_0.length c0_0, .slice A0_1 l0_1.length c0_1] 47 (0, 0)) (zK BK684.out)) : gb703 ≠ gb684)); replace BK684 := zM (blk_below (g := gb684) (o := .cells #[.slice A0_0 l0_0.length c0_0, .slice A0_1 l0_1.length c0_1] 47 (0, 0)) (zK BK684.out) hb); clear hb hbox hg; obtain ⟨Ao32, co32, eo32⟩ := Kd.S_slice HO699.out; subst eo32; have hnb33 := NB703_684.out; have hnc33 := NB684_703.out; have hcz34_0 := zy BK703 0; have hcz34_1 := zy BK703 1; have hfz34_0 := blk_frozen BK703.out 0; have hfz34_1 := blk_frozen BK703.out 1; obtain ⟨Ao35, co35, eo35⟩ := Kd.R_slice HO702.out; subst eo35) | ((with_reducible refine gate_callee (f := 25) rfl ?_); refine zc 37 Try.func25 #[.slice A1 l1.length c1] ?_; (with_reducible refine (laws_toIntS.calls k _ _ l1 t704 _ ?side1 ?side2 A16.out).mono ?_); (case side1 => exact Kd.C_below HR1.out zB); (case side2 => exact HC1.out); rintro e w36 ⟨v705, rfl, ho0, hb⟩; refine ⟨_, rfl, ?_⟩; replace HO688 := zM (Kd.S_elder' (by (with_reducible repeat (first | apply Kd.S_alloc | apply Kd.S_drewN | apply Kd.S_drew)); exact (Kd.S_mono (Kd.S_far (p := ⟨gb703, 1, none⟩) (Kd.S_far (p := ⟨gb703, 0, none⟩) (Kd.S_types HO688.out BK703.out (by decide)) (fun _ hk => hk.2) (.slice Ao32 t697.length co32)) (fun _ hk => hk.2) (.slice Ao35 t700.length co35)) (fun _ h_ => h_.1))) (Kd.R_base ho0) hb); replace HO691 := zM (Kd.R_below (by (with_reducible repeat (first | apply Kd.R_alloc | apply Kd.R_drewN | apply Kd.R_drew)); exact (Kd.R_mono (Kd.R_far (p := ⟨gb703, 1, none⟩) (Kd.R_far (p := ⟨gb703, 0, none⟩) (Kd.R_types HO691.out BK703.out (by decide)) (fun _ hk => hk.2) (.slice Ao32 t697.length co32)) (fun _ hk => hk.2) (.slice Ao35 t700.length co35)) (fun _ h_ => h_.1))) hb); replace HO699 := zM (Kd.S_elder' (by (with_reducible repeat (first | apply Kd.S_alloc | apply Kd.S_drewN | apply Kd.S_drew)); exact (Kd.S_mono (Kd.S_far (p := ⟨gb703, 1, none⟩) (Kd.S_far (p := ⟨gb703, 0, none⟩) (Kd.S_types HO699.out BK703.out (by decide)) (fun _ hk => hk.2) (.slice Ao32 t697.length co32)) (fun _ hk => hk.2) (.slice Ao35 t700.length co35)) (fun _ h_ => h_.1))) (Kd.R_base ho0) hb); replace HO702 := zM (Kd.R_below (by (with_reducible repeat (first | apply Kd.R_alloc | apply Kd.R_drewN | apply Kd.R_drew)); exact (Kd.R_mono (Kd.R_far (p := ⟨gb703, 1, none⟩) (Kd.R_far (p := ⟨gb703, 0, none⟩) (Kd.R_types HO702.out BK703.out (by decide)) (fun _ hk => hk.2) (.slice Ao32 t697.length co32)) (fun _ hk => hk.2) (.slice Ao35 t700.length co35)) (fun _ h_ => h_.1))) hb); have HO706 := zM (Kd.R_lower (Kd.R_new' ho0 (Kd.R_lt (by (with_reducible repeat (first | apply Kd.R_alloc | apply Kd.R_drewN | apply Kd.R_drew)); exact (Kd.R_mono (Kd.R_far (p := ⟨gb703, 1, none⟩) (Kd.R_far (p := ⟨gb703, 0, none⟩) (Kd.R_types HO694.out BK703.out (by decide)) (fun _ hk => hk.2) (.slice Ao32 t697.length co32)) (fun _ hk => hk.2) (.slice Ao35 t700.length co35)) (fun _ h_ => h_.1))))) (below_size zB)); replace HO694 := zM (Kd.R_elder' (by (with_reducible repeat (first | apply Kd.R_alloc | apply Kd.R_drewN | apply Kd.R_drew)); exact (Kd.R_mono (Kd.R_far (p := ⟨gb703, 1, none⟩) (Kd.R_far (p := ⟨gb703, 0, none⟩) (Kd.R_types HO694.out BK703.out (by decide)) (fun _ hk => hk.2) (.slice Ao32 t697.length co32)) (fun _ hk => hk.2) (.slice Ao35 t700.length co35)) (fun _ h_ => h_.1))) (Kd.R_base ho0) hb); replace BK684 := zM (blk_below (g := gb684) (o := .cells #[.slice A0_0 l0_0.length c0_0, .slice A0_1 l0_1.length c0_1] 47 (0, 0)) (by (with_reducible repeat (first | refine blk_drewN ?_ _ | refine blk_drew ?_ | refine blk_alloc ?_ _)); refine blk_far ?_ NB684_703.out _; (with_reducible repeat (first | refine blk_drewN ?_ _ | refine blk_drew ?_ | refine blk_alloc ?_ _)); refine blk_far ?_ NB684_703.out _; (with_reducible repeat (first | refine blk_drewN ?_ _ | refine blk_drew ?_ | refine blk_alloc ?_ _)); exact BK684.out) hb); replace BK703 := zM (blk_below (g := gb703) (o := .cells #[.slice Ao32 t697.length co32, .slice Ao35 t700.length co35] 50 (0, 0)) (by (with_reducible repeat (first | refine blk_drewN ?_ _ | refine blk_drew ?_ | refine blk_alloc ?_ _)); refine blk_put (cs := #[.slice Ao32 t697.length co32, .slice none 0 0]) ?_ 1 _ rfl; (with_reducible repeat (first | refine blk_drewN ?_ _ | refine blk_drew ?_ | refine blk_alloc ?_ _)); refine blk_put (cs := #[.slice none 0 0, .slice none 0 0]) ?_ 0 _ rfl; (with_reducible repeat (first | refine blk_drewN ?_ _ | refine blk_drew ?_ | refine blk_alloc ?_ _)); exact BK703.out) hb); replace HB := zM (below_step zB hb); (try clear hb); (try clear hb2); (try clear hk); (try clear hi); (try clear ho0); have hcz37_0 := zy BK703 0; have hcz37_1 := zy BK703 1; have hfz37_0 := blk_frozen BK703.out 0; have hfz37_1 := blk_frozen BK703.out 1; obtain ⟨Ao38, co38, eo38⟩ := Kd.R_slice HO706.out; subst eo38) | ((with_reducible refine gate_callee (f := 44) rfl ?_); refine zc 43 Try.func44 #[.agg #[.slice Ao32 t697.length co32, .slice Ao35 t700.length co35], .slice Ao38 t704.length co38, .int .i64 a2, .int .i64 a3] ?_; (with_reducible refine (impl_PotentialBound.calls k _ _ t697 _ _ t700 _ _ t704 a2 a3 t707 t708 _ ?side1 ?side2 ?side3 ?side4 ?side5 ?side6 A17.out).mono ?_); (case side1 => exact zC (Kd.S_reads' HO699.out).2.2); (case side2 => exact (Kd.S_reads' HO699.out).2.1); (case side3 => exact zC (Kd.R_reads' HO702.out).2.2); (case side4 => exact (Kd.R_reads' HO702.out).2.1); (case side5 => exact zC (Kd.R_reads' HO706.out).2.2); (case side6 => exact (Kd.R_reads' HO706.out).2.1); rintro e w39 ⟨rfl, hb⟩; refine ⟨_, rfl, ?_⟩; replace HO688 := zM (Kd.S_below (by (with_reducible repeat (first | apply Kd.S_alloc | apply Kd.S_drewN | apply Kd.S_drew)); exact HO688.out) hb); replace HO691 := zM (Kd.R_below (zR HO691.out) hb); replace HO694 := zM (Kd.R_below (zR HO694.out) hb); replace HO699 := zM (Kd.S_below (by (with_reducible repeat (first | apply Kd.S_alloc | apply Kd.S_drewN | apply Kd.S_drew)); exact HO699.out) hb); replace HO702 := zM (Kd.R_below (zR HO702.out) hb); replace HO706 := zM (Kd.R_below (zR HO706.out) hb); replace BK684 := zM (blk_below (g := gb684) (o := .cells #[.slice A0_0 l0_0.length c0_0, .slice A0_1 l0_1.length c0_1] 47 (0, 0)) (zK BK684.out) hb); replace BK703 := zM (blk_below (g := gb703) (o := .cells #[.slice Ao32 t697.length co32, .slice Ao35 t700.length co35] 50 (0, 0)) (zK BK703.out) hb); replace HB := zM (below_step zB hb); (try clear hb); (try clear hb2); (try clear hk); (try clear hi)))
     (try simp only [Act.put, List.setIfInBounds_toArray, List.set_cons_zero, List.set_cons_succ])
     go_cut [53] (fun v53 wc => ∃ (kq : Nat) (x53_17 : Bool), v53 = .bool x53_17 ∧ Aside0 (laws_FnExactPotentialBound.j0 kq l1 t704 x53_17 l0_0 l0_1 t697 t700 = some r) ∧ Aside0 (kq ≤ k) ∧ Aside0 (Kd.R (Kd.int .i64) 3 wc w.heap.size (fun _ => True) (.slice Ao38 t704.length co38) t704) ∧ Aside0 (Kd.S (Kd.slice 3 (Kd.int .i64)) 34 wc w.heap.size (fun k_ => some k_ ≠ ((.slice Ao38 t704.length co38) : Value).ownBlock) (.slice Ao32 t697.length co32) t697) ∧ Aside0 (Kd.R k68 68 wc w.heap.size (fun _ => True) (.slice Ao35 t700.length co35) t700) ∧ Aside0 (wc.heap[gb684]? = some (.cells #[(.slice A0_0 l0_0.length c0_0), (.slice A0_1 l0_1.length c0_1)] 47 (0, 0))) ∧ Aside0 (wc.heap[gb703]? = some (.cells #[(.slice Ao32 t697.length co32), (.slice Ao35 t700.length co35)] 50 (0, 0))) ∧ Aside0 (Below w.heap.size w wc))
     case first =>
      have H := HC18.out
      clear HC18
      by_cases c40 : t707 = t695
      · rw [if_pos c40] at H
        have c40b0 : (t707 == t695) = true := beq_iff_eq.mpr c40
        have c40b1 : (t707 != t695) = false := bne_eq_false_iff_eq.mpr c40
        clear c40
        (first | rw [c40b0] | (simp only [i64_w, i32_w]; rw [c40b0]) | skip)
        have H' := Aside0.mk H
        clear H
        go_wp2
        go_meet
        case rel => exact ⟨_, ((t708 != t696)), (by first | rfl | (simp; done) | (simp [*]; done)), H', ⟨by first | omega | exact Nat.le_refl _⟩, ⟨by (with_reducible repeat (first | apply Kd.R_alloc | apply Kd.R_drewN | apply Kd.R_drew)); exact Kd.R_mono HO706.out (fun _ hk => trivial)⟩, ⟨by (with_reducible repeat (first | apply Kd.S_alloc | apply Kd.S_drewN | apply Kd.S_drew)); exact Kd.S_mono HO699.out (fun _ hk => hk.2)⟩, ⟨by (with_reducible repeat (first | apply Kd.R_alloc | apply Kd.R_drewN | apply Kd.R_drew)); exact Kd.R_mono HO702.out (fun _ hk => trivial)⟩, ⟨zK BK684.out⟩, ⟨zK BK703.out⟩, ⟨zB⟩⟩
      · rw [if_neg c40] at H
        have c40b0 : (t707 == t695) = false := beq_eq_false_iff_ne.mpr c40
        have c40b1 : (t707 != t695) = true := bne_iff_ne.mpr c40
        (first | rw [c40b0] | (simp only [i64_w, i32_w]; rw [c40b0]) | skip)
        have H' := Aside0.mk H
        clear H
        go_wp2
        go_meet
        case rel => exact ⟨_, (true), (by first | rfl | (simp; done) | (simp [*]; done)), H', ⟨by first | omega | exact Nat.le_refl _⟩, ⟨by (with_reducible repeat (first | apply Kd.R_alloc | apply Kd.R_drewN | apply Kd.R_drew)); exact Kd.R_mono HO706.out (fun _ hk => trivial)⟩, ⟨by (with_reducible repeat (first | apply Kd.S_alloc | apply Kd.S_drewN | apply Kd.S_drew)); exact Kd.S_mono HO699.out (fun _ hk => hk.2)⟩, ⟨by (with_reducible repeat (first | apply Kd.R_alloc | apply Kd.R_drewN | apply Kd.R_drew)); exact Kd.R_mono HO702.out (fun _ hk => trivial)⟩, ⟨zK BK684.out⟩, ⟨zK BK703.out⟩, ⟨zB⟩⟩
     case rest =>
      clear HC18
      try clear c1
      try clear c2
      try clear p2
      try clear c3
      try clear c4
      try clear c5
      try clear c5b0
      try clear c5b1
      try clear c8
      try clear c8b0
      try clear c11
      try clear c25
      try clear c33
      try clear c34
      try clear c36
      try clear c40
      try clear c40b0
      try clear c40b1
      try clear hcz10_0
      try clear hcz10_1
      try clear hcz20_0
      try clear hcz20_1
      try clear hcz22_0
      try clear hcz22_1
      try clear hcz29_0
      try clear hcz29_1
      try clear hcz34_0
      try clear hcz34_1
      try clear hcz37_0
      try clear hcz37_1
      try clear hfz10_0
      try clear hfz10_1
      try clear hfz20_0
      try clear hfz20_1
      try clear hfz22_0
      try clear hfz22_1
      try clear hfz29_0
      try clear hfz29_1
      try clear hfz34_0
      try clear hfz34_1
      try clear hfz37_0
      try clear hfz37_1
      obtain ⟨kq, x53_17, rfl, HA, HJ17, HO_13, HO_704000, HO_704001, BK684, BK703, HB⟩ := hcut
      cases kq with
      | zero => exact absurd HA.out (by simp [laws_FnExactPotentialBound.j0])
      | succ kj17 =>
       have H := HA.out
       clear HA
       simp only [laws_FnExactPotentialBound.j0] at H
       by_cases c41 : x53_17 = true
       · subst c41
         rw [if_pos rfl] at H
         obtain rfl := Option.some.inj H
         go_wp2
         go_ret
         exact ⟨by first | rfl | (simp [errW_none, errW_some] <;> rfl) | (simp [*, errW_none, errW_some] <;> rfl), zB⟩
       · replace c41 := Bool.eq_false_iff.mpr c41
         subst c41
         have H1 : ((laws_toSpace.f kj17 l0_0 l0_1).bind fun bt709 => ((laws_eqSpace.f kj17 t697 t700 bt709.1 bt709.2).bind fun t715 => (if t715 = true then ((laws_toIntS.f kj17 l1).bind fun t716 => ((laws_eqIntS.f kj17 t704 t716).bind fun t719 => (if t719 = true then (some true) else (some false)))) else (some false)))) = some r := by rw [if_neg (show ¬ (false = true) by decide)] at H; exact H
         clear H
         have H := H1
         clear H1
         replace H := Option.bind_eq_some_iff.mp H
         obtain ⟨⟨t709, t712⟩, A420, H⟩ := H
         replace H : ((laws_eqSpace.f kj17 t697 t700 t709 t712).bind fun t715 => (if t715 = true then ((laws_toIntS.f kj17 l1).bind fun t716 => ((laws_eqIntS.f kj17 t704 t716).bind fun t719 => (if t719 = true then (some true) else (some false)))) else (some false))) = some r := H
         have A42 := Aside0.mk A420
         clear A420
         replace H := Option.bind_eq_some_iff.mp H
         obtain ⟨t715, A430, H⟩ := H
         have A43 := Aside0.mk A430
         clear A430
         by_cases c44 : t715 = true
         · subst c44
           rw [if_pos rfl] at H
           replace H := Option.bind_eq_some_iff.mp H
           obtain ⟨t716, A450, H⟩ := H
           have A45 := Aside0.mk A450
           clear A450
           replace H := Option.bind_eq_some_iff.mp H
           obtain ⟨t719, A460, H⟩ := H
           have A46 := Aside0.mk A460
           clear A460
           by_cases c47 : t719 = true
           · subst c47
             rw [if_pos rfl] at H
             obtain rfl := Option.some.inj H
             try go_wp2
             replace HO_13 := zM (Kd.R_drew HO_13.out)
             replace HO_704000 := zM (Kd.S_drew HO_704000.out)
             replace HO_704001 := zM (Kd.R_drew HO_704001.out)
             replace BK684 := zM (blk_drew BK684.out)
             replace BK703 := zM (blk_drew BK703.out)
             replace HB := zM (below_drew1 HB.out)
             refine zs (n := 5) (fun w' => w'.cell? ⟨gb703, 0, none⟩ = some (.slice Ao32 t697.length co32) ∧ w'.cell? ⟨gb703, 1, none⟩ = some (.slice Ao35 t700.length co35) ∧ w'.cell? ⟨gb684, 0, none⟩ = some (.slice A0_0 l0_0.length c0_0) ∧ w'.cell? ⟨gb684, 1, none⟩ = some (.slice A0_1 l0_1.length c0_1)) ⟨(blk_cell BK703.out 0).trans rfl, (blk_cell BK703.out 1).trans rfl, (blk_cell BK684.out 0).trans rfl, (blk_cell BK684.out 1).trans rfl⟩ (fun hHeld => ?_)
             generalize wc.drew = w48 at HO_13 HO_704000 HO_704001 BK684 BK703 HB hHeld ⊢
             refine zl 0 54 hHeld ?_ (hy := by rintro w' ⟨s0, s1, s2, s3⟩; go_simp; with_reducible rfl)
             refine zl 1 55 hHeld ?_ (hy := by rintro w' ⟨s0, s1, s2, s3⟩; go_simp; with_reducible rfl)
             refine zh 2 56 Try.func36 #[.agg #[.slice A0_0 l0_0.length c0_0, .slice A0_1 l0_1.length c0_1]] (fun K hK => ?_)
             with_reducible refine (laws_toSpace.calls kj17 _ _ l0_0 _ _ l0_1 t709 t712 _ ?side1 ?side2 ?side3 ?side4 A42.out).mono ?_
             (case side1 => exact zC (Kd.C_below HR0_0.out HB.out))
             (case side2 => exact HC0_0.out)
             (case side3 => exact zC (Kd.C_below HR0_1.out HB.out))
             (case side4 => exact HC0_1.out)
             rintro e w49 ⟨v710, v713, rfl, ho0, ho1, hb⟩
             refine ⟨_, rfl, ?_⟩
             have HO711 := zM (Kd.S_lower (Kd.S_new' (Kd.S_new' ho0 (Kd.R_lt (zR HO_13.out))) (Kd.S_lt (by (with_reducible repeat (first | apply Kd.S_alloc | apply Kd.S_drewN | apply Kd.S_drew)); exact HO_704000.out))) (below_size zB))
             replace HO_13 := zM (Kd.R_below (zR HO_13.out) hb)
             replace HO_704000 := zM (Kd.S_elder' (by (with_reducible repeat (first | apply Kd.S_alloc | apply Kd.S_drewN | apply Kd.S_drew)); exact HO_704000.out) (Kd.S_base ho0) hb)
             have HO714 := zM (Kd.R_lower (Kd.R_new' ho1 (Kd.R_lt (zR HO_704001.out))) (below_size zB))
             replace HO_704001 := zM (Kd.R_elder' (zR HO_704001.out) (Kd.R_base ho1) hb)
             replace BK684 := zM (blk_below (g := gb684) (o := .cells #[.slice A0_0 l0_0.length c0_0, .slice A0_1 l0_1.length c0_1] 47 (0, 0)) (zK BK684.out) hb)
             replace BK703 := zM (blk_below (g := gb703) (o := .cells #[.slice Ao32 t697.length co32, .slice Ao35 t700.length co35] 50 (0, 0)) (zK BK703.out) hb)
             replace HB := zM (below_step zB hb)
             (try clear hb)
             (try clear hb2)
             (try clear hk)
             (try clear hi)
             (try clear ho0)
             (try clear ho1)
             obtain ⟨Ao50, co50, eo50⟩ := Kd.S_slice HO711.out
             (first | subst eo50 | (injection eo50 with f1_ f2_ f3_; have f4_ := f1_.symm; have f5_ := f3_.symm; clear f1_ f2_ f3_; subst f4_; subst f5_))
             obtain ⟨Ao51, co51, eo51⟩ := Kd.R_slice HO714.out
             (first | subst eo51 | (injection eo51 with f1_ f2_ f3_; have f4_ := f1_.symm; have f5_ := f3_.symm; clear f1_ f2_ f3_; subst f4_; subst f5_))
             refine hK.out _ _ ⟨(blk_cell BK703.out 0).trans rfl, (blk_cell BK703.out 1).trans rfl, (blk_cell BK684.out 0).trans rfl, (blk_cell BK684.out 1).trans rfl⟩ (fun hHeld => ?_)
             clear hK K
             refine zn 56 ?_
             refine zh 3 57 Try.func38 #[.agg #[.slice Ao32 t697.length co32, .slice Ao35 t700.length co35], .agg #[.slice Ao50 t709.length co50, .slice Ao51 t712.length co51]] (fun K hK => ?_)
             with_reducible refine (laws_eqSpace.calls kj17 _ _ t697 _ _ t700 _ _ t709 _ _ t712 true _ ?side1 ?side2 ?side3 ?side4 ?side5 ?side6 ?side7 ?side8 A43.out).mono ?_
             (case side1 => exact zC (Kd.S_reads' HO_704000.out).2.2)
             (case side2 => exact (Kd.S_reads' HO_704000.out).2.1)
             (case side3 => exact zC (Kd.R_reads' HO_704001.out).2.2)
             (case side4 => exact (Kd.R_reads' HO_704001.out).2.1)
             (case side5 => exact zC (Kd.S_reads' HO711.out).2.2)
             (case side6 => exact (Kd.S_reads' HO711.out).2.1)
             (case side7 => exact zC (Kd.R_reads' HO714.out).2.2)
             (case side8 => exact (Kd.R_reads' HO714.out).2.1)
             rintro e w52 ⟨rfl, hb⟩
             refine ⟨_, rfl, ?_⟩
             replace HO_13 := zM (Kd.R_below (zR HO_13.out) hb)
             replace HO_704000 := zM (Kd.S_below (by (with_reducible repeat (first | apply Kd.S_alloc | apply Kd.S_drewN | apply Kd.S_drew)); exact HO_704000.out) hb)
             replace HO_704001 := zM (Kd.R_below (zR HO_704001.out) hb)
             replace HO711 := zM (Kd.S_below (by (with_reducible repeat (first | apply Kd.S_alloc | apply Kd.S_drewN | apply Kd.S_drew)); exact HO711.out) hb)
             replace HO714 := zM (Kd.R_below (zR HO714.out) hb)
             replace BK684 := zM (blk_below (g := gb684) (o := .cells #[.slice A0_0 l0_0.length c0_0, .slice A0_1 l0_1.length c0_1] 47 (0, 0)) (zK BK684.out) hb)
             replace BK703 := zM (blk_below (g := gb703) (o := .cells #[.slice Ao32 t697.length co32, .slice Ao35 t700.length co35] 50 (0, 0)) (zK BK703.out) hb)
             replace HB := zM (below_step zB hb)
             (try clear hb)
             (try clear hb2)
             (try clear hk)
             (try clear hi)
             refine hK.out _ _ ⟨(blk_cell BK703.out 0).trans rfl, (blk_cell BK703.out 1).trans rfl, (blk_cell BK684.out 0).trans rfl, (blk_cell BK684.out 1).trans rfl⟩ (fun hHeld => ?_)
             clear hK K
             refine zn 57 ?_
             refine zq 4 58 ?_
             refine zx ?_
             try go_wp2_with (first | ((with_reducible refine gate_callee (f := 25) rfl ?_); refine zc 61 Try.func25 #[.slice A1 l1.length c1] ?_; (with_reducible refine (laws_toIntS.calls kj17 _ _ l1 t716 _ ?side1 ?side2 A45.out).mono ?_); (case side1 => exact zC (Kd.C_below HR1.out HB.out)); (case side2 => exact HC1.out); rintro e w53 ⟨v717, rfl, ho0, hb⟩; refine ⟨_, rfl, ?_⟩; replace HO_704000 := zM (Kd.S_elder' (by (with_reducible repeat (first | apply Kd.S_alloc | apply Kd.S_drewN | apply Kd.S_drew)); exact HO_704000.out) (Kd.R_base ho0) hb); replace HO_704001 := zM (Kd.R_below (zR HO_704001.out) hb); replace HO711 := zM (Kd.S_elder' (by (with_reducible repeat (first | apply Kd.S_alloc | apply Kd.S_drewN | apply Kd.S_drew)); exact HO711.out) (Kd.R_base ho0) hb); replace HO714 := zM (Kd.R_below (zR HO714.out) hb); have HO718 := zM (Kd.R_lower (Kd.R_new' ho0 (Kd.R_lt (zR HO_13.out))) (below_size zB)); replace HO_13 := zM (Kd.R_elder' (zR HO_13.out) (Kd.R_base ho0) hb); replace BK684 := zM (blk_below (g := gb684) (o := .cells #[.slice A0_0 l0_0.length c0_0, .slice A0_1 l0_1.length c0_1] 47 (0, 0)) (zK BK684.out) hb); replace BK703 := zM (blk_below (g := gb703) (o := .cells #[.slice Ao32 t697.length co32, .slice Ao35 t700.length co35] 50 (0, 0)) (zK BK703.out) hb); replace HB := zM (below_step zB hb); (try clear hb); (try clear hb2); (try clear hk); (try clear hi); (try clear ho0); obtain ⟨Ao54, co54, eo54⟩ := Kd.R_slice HO718.out; subst eo54) | ((with_reducible refine gate_callee (f := 27) rfl ?_); refine zc 62 Try.func27 #[.slice Ao38 t704.length co38, .slice Ao54 t716.length co54] ?_; (with_reducible refine (laws_eqIntS.calls kj17 _ _ t704 _ _ t716 true _ ?side1 ?side2 ?side3 ?side4 A46.out).mono ?_); (case side1 => exact zC (Kd.R_reads' HO_13.out).2.2); (case side2 => exact (Kd.R_reads' HO_13.out).2.1); (case side3 => exact zC (Kd.R_reads' HO718.out).2.2); (case side4 => exact (Kd.R_reads' HO718.out).2.1); rintro e w' ⟨rfl, ⟨nd, rfl⟩⟩; refine ⟨_, rfl, ?_⟩))
             go_ret
             exact ⟨by first | rfl | (simp [errW_none, errW_some] <;> rfl) | (simp [*, errW_none, errW_some] <;> rfl), zB⟩
           · replace c47 := Bool.eq_false_iff.mpr c47
             subst c47
             have H1 : (some false) = some r := by rw [if_neg (show ¬ (false = true) by decide)] at H; exact H
             clear H
             have H := H1
             clear H1
             obtain rfl := Option.some.inj H
             try go_wp2
             replace HO_13 := zM (Kd.R_drew HO_13.out)
             replace HO_704000 := zM (Kd.S_drew HO_704000.out)
             replace HO_704001 := zM (Kd.R_drew HO_704001.out)
             replace BK684 := zM (blk_drew BK684.out)
             replace BK703 := zM (blk_drew BK703.out)
             replace HB := zM (below_drew1 HB.out)
             refine zs (n := 5) (fun w' => w'.cell? ⟨gb703, 0, none⟩ = some (.slice Ao32 t697.length co32) ∧ w'.cell? ⟨gb703, 1, none⟩ = some (.slice Ao35 t700.length co35) ∧ w'.cell? ⟨gb684, 0, none⟩ = some (.slice A0_0 l0_0.length c0_0) ∧ w'.cell? ⟨gb684, 1, none⟩ = some (.slice A0_1 l0_1.length c0_1)) ⟨(blk_cell BK703.out 0).trans rfl, (blk_cell BK703.out 1).trans rfl, (blk_cell BK684.out 0).trans rfl, (blk_cell BK684.out 1).trans rfl⟩ (fun hHeld => ?_)
             generalize wc.drew = w55 at HO_13 HO_704000 HO_704001 BK684 BK703 HB hHeld ⊢
             refine zl 0 54 hHeld ?_ (hy := by rintro w' ⟨s0, s1, s2, s3⟩; go_simp; with_reducible rfl)
             refine zl 1 55 hHeld ?_ (hy := by rintro w' ⟨s0, s1, s2, s3⟩; go_simp; with_reducible rfl)
             refine zh 2 56 Try.func36 #[.agg #[.slice A0_0 l0_0.length c0_0, .slice A0_1 l0_1.length c0_1]] (fun K hK => ?_)
             with_reducible refine (laws_toSpace.calls kj17 _ _ l0_0 _ _ l0_1 t709 t712 _ ?side1 ?side2 ?side3 ?side4 A42.out).mono ?_
             (case side1 => exact zC (Kd.C_below HR0_0.out HB.out))
             (case side2 => exact HC0_0.out)
             (case side3 => exact zC (Kd.C_below HR0_1.out HB.out))
             (case side4 => exact HC0_1.out)
             rintro e w56 ⟨v710, v713, rfl, ho0, ho1, hb⟩
             refine ⟨_, rfl, ?_⟩
             have HO711 := zM (Kd.S_lower (Kd.S_new' (Kd.S_new' ho0 (Kd.R_lt (zR HO_13.out))) (Kd.S_lt (by (with_reducible repeat (first | apply Kd.S_alloc | apply Kd.S_drewN | apply Kd.S_drew)); exact HO_704000.out))) (below_size zB))
             replace HO_13 := zM (Kd.R_below (zR HO_13.out) hb)
             replace HO_704000 := zM (Kd.S_elder' (by (with_reducible repeat (first | apply Kd.S_alloc | apply Kd.S_drewN | apply Kd.S_drew)); exact HO_704000.out) (Kd.S_base ho0) hb)
             have HO714 := zM (Kd.R_lower (Kd.R_new' ho1 (Kd.R_lt (zR HO_704001.out))) (below_size zB))
             replace HO_704001 := zM (Kd.R_elder' (zR HO_704001.out) (Kd.R_base ho1) hb)
             replace BK684 := zM (blk_below (g := gb684) (o := .cells #[.slice A0_0 l0_0.length c0_0, .slice A0_1 l0_1.length c0_1] 47 (0, 0)) (zK BK684.out) hb)
             replace BK703 := zM (blk_below (g := gb703) (o := .cells #[.slice Ao32 t697.length co32, .slice Ao35 t700.length co35] 50 (0, 0)) (zK BK703.out) hb)
             replace HB := zM (below_step zB hb)
             (try clear hb)
             (try clear hb2)
             (try clear hk)
             (try clear hi)
             (try clear ho0)
             (try clear ho1)
             obtain ⟨Ao57, co57, eo57⟩ := Kd.S_slice HO711.out
             (first | subst eo57 | (injection eo57 with f1_ f2_ f3_; have f4_ := f1_.symm; have f5_ := f3_.symm; clear f1_ f2_ f3_; subst f4_; subst f5_))
             obtain ⟨Ao58, co58, eo58⟩ := Kd.R_slice HO714.out
             (first | subst eo58 | (injection eo58 with f1_ f2_ f3_; have f4_ := f1_.symm; have f5_ := f3_.symm; clear f1_ f2_ f3_; subst f4_; subst f5_))
             refine hK.out _ _ ⟨(blk_cell BK703.out 0).trans rfl, (blk_cell BK703.out 1).trans rfl, (blk_cell BK684.out 0).trans rfl, (blk_cell BK684.out 1).trans rfl⟩ (fun hHeld => ?_)
             clear hK K
             refine zn 56 ?_
             refine zh 3 57 Try.func38 #[.agg #[.slice Ao32 t697.length co32, .slice Ao35 t700.length co35], .agg #[.slice Ao57 t709.length co57, .slice Ao58 t712.length co58]] (fun K hK => ?_)
             with_reducible refine (laws_eqSpace.calls kj17 _ _ t697 _ _ t700 _ _ t709 _ _ t712 true _ ?side1 ?side2 ?side3 ?side4 ?side5 ?side6 ?side7 ?side8 A43.out).mono ?_
             (case side1 => exact zC (Kd.S_reads' HO_704000.out).2.2)
             (case side2 => exact (Kd.S_reads' HO_704000.out).2.1)
             (case side3 => exact zC (Kd.R_reads' HO_704001.out).2.2)
             (case side4 => exact (Kd.R_reads' HO_704001.out).2.1)
             (case side5 => exact zC (Kd.S_reads' HO711.out).2.2)
             (case side6 => exact (Kd.S_reads' HO711.out).2.1)
             (case side7 => exact zC (Kd.R_reads' HO714.out).2.2)
             (case side8 => exact (Kd.R_reads' HO714.out).2.1)
             rintro e w59 ⟨rfl, hb⟩
             refine ⟨_, rfl, ?_⟩
             replace HO_13 := zM (Kd.R_below (zR HO_13.out) hb)
             replace HO_704000 := zM (Kd.S_below (by (with_reducible repeat (first | apply Kd.S_alloc | apply Kd.S_drewN | apply Kd.S_drew)); exact HO_704000.out) hb)
             replace HO_704001 := zM (Kd.R_below (zR HO_704001.out) hb)
             replace HO711 := zM (Kd.S_below (by (with_reducible repeat (first | apply Kd.S_alloc | apply Kd.S_drewN | apply Kd.S_drew)); exact HO711.out) hb)
             replace HO714 := zM (Kd.R_below (zR HO714.out) hb)
             replace BK684 := zM (blk_below (g := gb684) (o := .cells #[.slice A0_0 l0_0.length c0_0, .slice A0_1 l0_1.length c0_1] 47 (0, 0)) (zK BK684.out) hb)
             replace BK703 := zM (blk_below (g := gb703) (o := .cells #[.slice Ao32 t697.length co32, .slice Ao35 t700.length co35] 50 (0, 0)) (zK BK703.out) hb)
             replace HB := zM (below_step zB hb)
             (try clear hb)
             (try clear hb2)
             (try clear hk)
             (try clear hi)
             refine hK.out _ _ ⟨(blk_cell BK703.out 0).trans rfl, (blk_cell BK703.out 1).trans rfl, (blk_cell BK684.out 0).trans rfl, (blk_cell BK684.out 1).trans rfl⟩ (fun hHeld => ?_)
             clear hK K
             refine zn 57 ?_
             refine zq 4 58 ?_
             refine zx ?_
             try go_wp2_with (first | ((with_reducible refine gate_callee (f := 25) rfl ?_); refine zc 61 Try.func25 #[.slice A1 l1.length c1] ?_; (with_reducible refine (laws_toIntS.calls kj17 _ _ l1 t716 _ ?side1 ?side2 A45.out).mono ?_); (case side1 => exact zC (Kd.C_below HR1.out HB.out)); (case side2 => exact HC1.out); rintro e w60 ⟨v717, rfl, ho0, hb⟩; refine ⟨_, rfl, ?_⟩; replace HO_704000 := zM (Kd.S_elder' (by (with_reducible repeat (first | apply Kd.S_alloc | apply Kd.S_drewN | apply Kd.S_drew)); exact HO_704000.out) (Kd.R_base ho0) hb); replace HO_704001 := zM (Kd.R_below (zR HO_704001.out) hb); replace HO711 := zM (Kd.S_elder' (by (with_reducible repeat (first | apply Kd.S_alloc | apply Kd.S_drewN | apply Kd.S_drew)); exact HO711.out) (Kd.R_base ho0) hb); replace HO714 := zM (Kd.R_below (zR HO714.out) hb); have HO718 := zM (Kd.R_lower (Kd.R_new' ho0 (Kd.R_lt (zR HO_13.out))) (below_size zB)); replace HO_13 := zM (Kd.R_elder' (zR HO_13.out) (Kd.R_base ho0) hb); replace BK684 := zM (blk_below (g := gb684) (o := .cells #[.slice A0_0 l0_0.length c0_0, .slice A0_1 l0_1.length c0_1] 47 (0, 0)) (zK BK684.out) hb); replace BK703 := zM (blk_below (g := gb703) (o := .cells #[.slice Ao32 t697.length co32, .slice Ao35 t700.length co35] 50 (0, 0)) (zK BK703.out) hb); replace HB := zM (below_step zB hb); (try clear hb); (try clear hb2); (try clear hk); (try clear hi); (try clear ho0); obtain ⟨Ao61, co61, eo61⟩ := Kd.R_slice HO718.out; subst eo61) | ((with_reducible refine gate_callee (f := 27) rfl ?_); refine zc 62 Try.func27 #[.slice Ao38 t704.length co38, .slice Ao61 t716.length co61] ?_; (with_reducible refine (laws_eqIntS.calls kj17 _ _ t704 _ _ t716 false _ ?side1 ?side2 ?side3 ?side4 A46.out).mono ?_); (case side1 => exact zC (Kd.R_reads' HO_13.out).2.2); (case side2 => exact (Kd.R_reads' HO_13.out).2.1); (case side3 => exact zC (Kd.R_reads' HO718.out).2.2); (case side4 => exact (Kd.R_reads' HO718.out).2.1); rintro e w' ⟨rfl, ⟨nd, rfl⟩⟩; refine ⟨_, rfl, ?_⟩))
             go_ret
             exact ⟨by first | rfl | (simp [errW_none, errW_some] <;> rfl) | (simp [*, errW_none, errW_some] <;> rfl), zB⟩
         · replace c44 := Bool.eq_false_iff.mpr c44
           subst c44
           have H1 : (some false) = some r := by rw [if_neg (show ¬ (false = true) by decide)] at H; exact H
           clear H
           have H := H1
           clear H1
           obtain rfl := Option.some.inj H
           try go_wp2
           replace HO_13 := zM (Kd.R_drew HO_13.out)
           replace HO_704000 := zM (Kd.S_drew HO_704000.out)
           replace HO_704001 := zM (Kd.R_drew HO_704001.out)
           replace BK684 := zM (blk_drew BK684.out)
           replace BK703 := zM (blk_drew BK703.out)
           replace HB := zM (below_drew1 HB.out)
           refine zs (n := 5) (fun w' => w'.cell? ⟨gb703, 0, none⟩ = some (.slice Ao32 t697.length co32) ∧ w'.cell? ⟨gb703, 1, none⟩ = some (.slice Ao35 t700.length co35) ∧ w'.cell? ⟨gb684, 0, none⟩ = some (.slice A0_0 l0_0.length c0_0) ∧ w'.cell? ⟨gb684, 1, none⟩ = some (.slice A0_1 l0_1.length c0_1)) ⟨(blk_cell BK703.out 0).trans rfl, (blk_cell BK703.out 1).trans rfl, (blk_cell BK684.out 0).trans rfl, (blk_cell BK684.out 1).trans rfl⟩ (fun hHeld => ?_)
           generalize wc.drew = w62 at HO_13 HO_704000 HO_704001 BK684 BK703 HB hHeld ⊢
           refine zl 0 54 hHeld ?_ (hy := by rintro w' ⟨s0, s1, s2, s3⟩; go_simp; with_reducible rfl)
           refine zl 1 55 hHeld ?_ (hy := by rintro w' ⟨s0, s1, s2, s3⟩; go_simp; with_reducible rfl)
           refine zh 2 56 Try.func36 #[.agg #[.slice A0_0 l0_0.length c0_0, .slice A0_1 l0_1.length c0_1]] (fun K hK => ?_)
           with_reducible refine (laws_toSpace.calls kj17 _ _ l0_0 _ _ l0_1 t709 t712 _ ?side1 ?side2 ?side3 ?side4 A42.out).mono ?_
           (case side1 => exact zC (Kd.C_below HR0_0.out HB.out))
           (case side2 => exact HC0_0.out)
           (case side3 => exact zC (Kd.C_below HR0_1.out HB.out))
           (case side4 => exact HC0_1.out)
           rintro e w63 ⟨v710, v713, rfl, ho0, ho1, hb⟩
           refine ⟨_, rfl, ?_⟩
           have HO711 := zM (Kd.S_lower (Kd.S_new' (Kd.S_new' ho0 (Kd.R_lt (zR HO_13.out))) (Kd.S_lt (by (with_reducible repeat (first | apply Kd.S_alloc | apply Kd.S_drewN | apply Kd.S_drew)); exact HO_704000.out))) (below_size zB))
           replace HO_13 := zM (Kd.R_below (zR HO_13.out) hb)
           replace HO_704000 := zM (Kd.S_elder' (by (with_reducible repeat (first | apply Kd.S_alloc | apply Kd.S_drewN | apply Kd.S_drew)); exact HO_704000.out) (Kd.S_base ho0) hb)
           have HO714 := zM (Kd.R_lower (Kd.R_new' ho1 (Kd.R_lt (zR HO_704001.out))) (below_size zB))
           replace HO_704001 := zM (Kd.R_elder' (zR HO_704001.out) (Kd.R_base ho1) hb)
           replace BK684 := zM (blk_below (g := gb684) (o := .cells #[.slice A0_0 l0_0.length c0_0, .slice A0_1 l0_1.length c0_1] 47 (0, 0)) (zK BK684.out) hb)
           replace BK703 := zM (blk_below (g := gb703) (o := .cells #[.slice Ao32 t697.length co32, .slice Ao35 t700.length co35] 50 (0, 0)) (zK BK703.out) hb)
           replace HB := zM (below_step zB hb)
           (try clear hb)
           (try clear hb2)
           (try clear hk)
           (try clear hi)
           (try clear ho0)
           (try clear ho1)
           obtain ⟨Ao64, co64, eo64⟩ := Kd.S_slice HO711.out
           (first | subst eo64 | (injection eo64 with f1_ f2_ f3_; have f4_ := f1_.symm; have f5_ := f3_.symm; clear f1_ f2_ f3_; subst f4_; subst f5_))
           obtain ⟨Ao65, co65, eo65⟩ := Kd.R_slice HO714.out
           (first | subst eo65 | (injection eo65 with f1_ f2_ f3_; have f4_ := f1_.symm; have f5_ := f3_.symm; clear f1_ f2_ f3_; subst f4_; subst f5_))
           refine hK.out _ _ ⟨(blk_cell BK703.out 0).trans rfl, (blk_cell BK703.out 1).trans rfl, (blk_cell BK684.out 0).trans rfl, (blk_cell BK684.out 1).trans rfl⟩ (fun hHeld => ?_)
           clear hK K
           refine zn 56 ?_
           refine zh 3 57 Try.func38 #[.agg #[.slice Ao32 t697.length co32, .slice Ao35 t700.length co35], .agg #[.slice Ao64 t709.length co64, .slice Ao65 t712.length co65]] (fun K hK => ?_)
           with_reducible refine (laws_eqSpace.calls kj17 _ _ t697 _ _ t700 _ _ t709 _ _ t712 false _ ?side1 ?side2 ?side3 ?side4 ?side5 ?side6 ?side7 ?side8 A43.out).mono ?_
           (case side1 => exact zC (Kd.S_reads' HO_704000.out).2.2)
           (case side2 => exact (Kd.S_reads' HO_704000.out).2.1)
           (case side3 => exact zC (Kd.R_reads' HO_704001.out).2.2)
           (case side4 => exact (Kd.R_reads' HO_704001.out).2.1)
           (case side5 => exact zC (Kd.S_reads' HO711.out).2.2)
           (case side6 => exact (Kd.S_reads' HO711.out).2.1)
           (case side7 => exact zC (Kd.R_reads' HO714.out).2.2)
           (case side8 => exact (Kd.R_reads' HO714.out).2.1)
           rintro e w66 ⟨rfl, hb⟩
           refine ⟨_, rfl, ?_⟩
           replace HO_13 := zM (Kd.R_below (zR HO_13.out) hb)
           replace HO_704000 := zM (Kd.S_below (by (with_reducible repeat (first | apply Kd.S_alloc | apply Kd.S_drewN | apply Kd.S_drew)); exact HO_704000.out) hb)
           replace HO_704001 := zM (Kd.R_below (zR HO_704001.out) hb)
           replace HO711 := zM (Kd.S_below (by (with_reducible repeat (first | apply Kd.S_alloc | apply Kd.S_drewN | apply Kd.S_drew)); exact HO711.out) hb)
           replace HO714 := zM (Kd.R_below (zR HO714.out) hb)
           replace BK684 := zM (blk_below (g := gb684) (o := .cells #[.slice A0_0 l0_0.length c0_0, .slice A0_1 l0_1.length c0_1] 47 (0, 0)) (zK BK684.out) hb)
           replace BK703 := zM (blk_below (g := gb703) (o := .cells #[.slice Ao32 t697.length co32, .slice Ao35 t700.length co35] 50 (0, 0)) (zK BK703.out) hb)
           replace HB := zM (below_step zB hb)
           (try clear hb)
           (try clear hb2)
           (try clear hk)
           (try clear hi)
           refine hK.out _ _ ⟨(blk_cell BK703.out 0).trans rfl, (blk_cell BK703.out 1).trans rfl, (blk_cell BK684.out 0).trans rfl, (blk_cell BK684.out 1).trans rfl⟩ (fun hHeld => ?_)
           clear hK K
           refine zn 57 ?_
           refine zq 4 58 ?_
           refine zx ?_
           try go_wp2
           go_ret
           exact ⟨by first | rfl | (simp [errW_none, errW_some] <;> rfl) | (simp [*, errW_none, errW_some] <;> rfl), zB⟩

end Go.Proofs.Ytpbngmkhpcgpkaa.P
