-- Written by a program of this session (the kit's print, turned: wip/print/patch.py) out of the translation. Not trusted: Lean checks it.
import Derived.Test.YtpbngmkhpcgpkaaPx0
import Derived.Test.YtpbngmkhpcgpkaaPx2
import Derived.Test.YtpbngmkhpcgpkaaPx16
import Derived.Test.YtpbngmkhpcgpkaaPx17
import Derived.Test.YtpbngmkhpcgpkaaPx23
import Derived.Test.YtpbngmkhpcgpkaaPx24
import Derived.Test.YtpbngmkhpcgpkaaPx26
import Derived.Test.YtpbngmkhpcgpkaaPx28
import Derived.Test.YtpbngmkhpcgpkaaExtG
import Derived.Test.YtpbngmkhpcgpkaaExtW
namespace Go.Proofs.Ytpbngmkhpcgpkaa.P
open Go.RowKit Go.Proofs.YtpbngmkhpcgpkaaW.PrintWords Go.Proofs.YtpbngmkhpcgpkaaW.PrintLast Go.Proofs.YtpbngmkhpcgpkaaW.PrintMore
attribute [local go_sem] max2_int min2_int max_two min_two max_three min_three max_four min_four   -- for this text's walks alone
set_option linter.unusedVariables false
set_option linter.unusedSimpArgs false

/-! ### impl_IsPotential: function 42 -/
def impl_IsPotential.f (k : Nat) (l0_0 : List (List Int)) (l0_1 : List (S68)) (l1 : List Int) : Option (Bool × Bool) := (impl_IsSpace.f k l0_0 l0_1).bind fun t620 => (if t620 = true then ((impl_Space_areValues.f l0_0 l0_1 l1).bind fun t621 => (if t621 = true then ((impl_Space_within.f l0_0 l0_1 l1 1).bind fun t622 => (some (t622, true))) else (some (false, false)))) else (some (false, false)))
theorem impl_IsPotential.mono : ∀ a0 a1 a2 k, LeO (impl_IsPotential.f k a0 a1 a2) (impl_IsPotential.f (k + 1) a0 a1 a2) := by
 intro a0 a1 a2 k
 unfold impl_IsPotential.f
 repeat' first
  | (with_reducible exact impl_IsSpace.mono _ _ _)
  | (with_reducible exact LeO.refl _)
  | (with_reducible exact LeO.none _)
  | (with_reducible refine LeO.ite ?_ ?_)
  | (with_reducible refine LeO.bind ?_ (fun _ => ?_))
  | exact impl_IsSpace.mono _ _ _
  | exact LeO.none _
  | refine LeO.ite ?_ ?_
  | refine LeO.bind ?_ (fun _ => ?_)
set_option maxHeartbeats 8000000 in
set_option maxRecDepth 100000 in
theorem impl_IsPotential.calls (k : Nat) (A0_0 : Option Addr) (c0_0 : Nat) (l0_0 : List (List Int)) (A0_1 : Option Addr) (c0_1 : Nat) (l0_1 : List (S68)) (A1 : Option Addr) (c1 : Nat) (l1 : List Int) (r1 : Bool) (r2 : Bool) (w : World) (hr0_0 : Kd.C (Kd.slice 3 (Kd.int .i64)) w A0_0 l0_0.length l0_0) (hc0_0 : l0_0.length ≤ c0_0) (hr0_1 : Kd.C k68 w A0_1 l0_1.length l0_1) (hc0_1 : l0_1.length ≤ c0_1) (hr1 : Kd.C (Kd.int .i64) w A1 l1.length l1) (hc1 : l1.length ≤ c1) (h : impl_IsPotential.f k l0_0 l0_1 l1 = some (r1, r2)) :
 Calls Try.prog 42 #[.agg #[.slice A0_0 l0_0.length c0_0, .slice A0_1 l0_1.length c0_1], .slice A1 l1.length c1] w fun e w' => e = .returned (.tuple #[.bool r1, .bool r2]) ∧ Below w.heap.size w w' := by
 have hu50 := Try.underlying50
 have HR0_0 := Aside0.mk hr0_0
 have HC0_0 := Aside0.mk hc0_0
 clear hr0_0 hc0_0
 have HR0_1 := Aside0.mk hr0_1
 have HC0_1 := Aside0.mk hc0_1
 clear hr0_1 hc0_1
 have HR1 := Aside0.mk hr1
 have HC1 := Aside0.mk hc1
 clear hr1 hc1
 have HB := zM (Below.refl w.heap.size w)
 have H : ((impl_IsSpace.f k l0_0 l0_1).bind fun t620 => (if t620 = true then ((impl_Space_areValues.f l0_0 l0_1 l1).bind fun t621 => (if t621 = true then ((impl_Space_within.f l0_0 l0_1 l1 1).bind fun t622 => (some (t622, true))) else (some (false, false)))) else (some (false, false)))) = some (r1, r2) := h
 clear h
 replace H := Option.bind_eq_some_iff.mp H
 obtain ⟨t620, A30, H⟩ := H
 replace H : (if t620 = true then ((impl_Space_areValues.f l0_0 l0_1 l1).bind fun t621 => (if t621 = true then ((impl_Space_within.f l0_0 l0_1 l1 1).bind fun t622 => (some (t622, true))) else (some (false, false)))) else (some (false, false))) = some (r1, r2) := H
 have A3 := Aside0.mk A30
 clear A30
 by_cases c4 : t620 = true
 · subst c4
   have H1 : ((impl_Space_areValues.f l0_0 l0_1 l1).bind fun t621 => (if t621 = true then ((impl_Space_within.f l0_0 l0_1 l1 1).bind fun t622 => (some (t622, true))) else (some (false, false)))) = some (r1, r2) := by rw [if_pos rfl] at H; exact H
   clear H
   have H := H1
   clear H1
   replace H := Option.bind_eq_some_iff.mp H
   obtain ⟨t621, A50, H⟩ := H
   replace H : (if t621 = true then ((impl_Space_within.f l0_0 l0_1 l1 1).bind fun t622 => (some (t622, true))) else (some (false, false))) = some (r1, r2) := H
   have A5 := Aside0.mk A50
   clear A50
   by_cases c6 : t621 = true
   · subst c6
     have H1 : ((impl_Space_within.f l0_0 l0_1 l1 1).bind fun t622 => (some (t622, true))) = some (r1, r2) := by rw [if_pos rfl] at H; exact H
     clear H
     have H := H1
     clear H1
     replace H := Option.bind_eq_some_iff.mp H
     obtain ⟨t622, A70, H⟩ := H
     replace H : (some (t622, true)) = some (r1, r2) := H
     have A7 := Aside0.mk A70
     clear A70
     simp only [Option.some.injEq, Prod.mk.injEq] at H
     obtain ⟨rfl, rfl⟩ := H
     go_enter Try.func42, Try.ntmps42
     go_wp2_with (first | ((with_reducible refine gate_dst (N := 2) rfl ?_); refine zb (w := w) 2 #[.slice A0_0 l0_0.length c0_0, .slice A0_1 l0_1.length c0_1] 50 zB ?_; clear HB; intro gb619 w8 HB BK619 GW619; have GE619 := GW619; have hcz9_0 := zy BK619 0; have hcz9_1 := zy BK619 1; have hfz9_0 := blk_frozen BK619.out 0; have hfz9_1 := blk_frozen BK619.out 1) | ((with_reducible refine gate_callee (f := 37) rfl ?_); refine zc 7 Try.func37 #[.agg #[.slice A0_0 l0_0.length c0_0, .slice A0_1 l0_1.length c0_1]] ?_; (with_reducible refine (impl_IsSpace.calls k _ _ l0_0 _ _ l0_1 true _ ?side1 ?side2 ?side3 ?side4 A3.out).mono ?_); (case side1 => exact zC (Kd.C_below HR0_0.out HB.out)); (case side2 => exact HC0_0.out); (case side3 => exact zC (Kd.C_below HR0_1.out HB.out)); (case side4 => exact HC0_1.out); rintro e w10 ⟨rfl, hb⟩; refine ⟨_, rfl, ?_⟩; replace BK619 := zM (blk_below (g := gb619) (o := .cells #[.slice A0_0 l0_0.length c0_0, .slice A0_1 l0_1.length c0_1] 50 (0, 0)) (zK BK619.out) hb); replace HB := zM (below_step zB hb); (try clear hb); (try clear hb2); (try clear hk); (try clear hi); have hcz11_0 := zy BK619 0; have hcz11_1 := zy BK619 1; have hfz11_0 := blk_frozen BK619.out 0; have hfz11_1 := blk_frozen BK619.out 1) | (go_at_call 80; (with_reducible refine (impl_Space_areValues.calls _ _ l0_0 _ _ l0_1 _ _ l1 true _ ?side1 ?side2 ?side3 ?side4 ?side5 ?side6 A5.out).mono ?_); (case side1 => exact zC (Kd.C_below HR0_0.out HB.out)); (case side2 => exact HC0_0.out); (case side3 => exact zC (Kd.C_below HR0_1.out HB.out)); (case side4 => exact HC0_1.out); (case side5 => exact zC (Kd.C_below HR1.out HB.out)); (case side6 => exact HC1.out); rintro e w12 ⟨rfl, hb⟩; replace BK619 := zM (blk_below (g := gb619) (o := .cells #[.slice A0_0 l0_0.length c0_0, .slice A0_1 l0_1.length c0_1] 50 (0, 0)) (zK BK619.out) hb); replace HB := zM (below_step zB hb); (try clear hb); (try clear hb2); (try clear hk); (try clear hi); have hcz13_0 := zy BK619 0; have hcz13_1 := zy BK619 1; have hfz13_0 := blk_frozen BK619.out 0; have hfz13_1 := blk_frozen BK619.out 1) | ((with_reducible refine gate_callee (f := 81) rfl ?_); refine zc 17 Try.func81 #[.agg #[.slice A0_0 l0_0.length c0_0, .slice A0_1 l0_1.length c0_1], .slice A1 l1.length c1, .int .i64 1] ?_; (with_reducible refine (impl_Space_within.calls _ _ l0_0 _ _ l0_1 _ _ l1 1 t622 _ ?side1 ?side2 ?side3 ?side4 ?side5 ?side6 A7.out).mono ?_); (case side1 => exact zC (Kd.C_below HR0_0.out HB.out)); (case side2 => exact HC0_0.out); (case side3 => exact zC (Kd.C_below HR0_1.out HB.out)); (case side4 => exact HC0_1.out); (case side5 => exact zC (Kd.C_below HR1.out HB.out)); (case side6 => exact HC1.out); rintro e w14 ⟨rfl, hb⟩; refine ⟨_, rfl, ?_⟩; replace BK619 := zM (blk_below (g := gb619) (o := .cells #[.slice A0_0 l0_0.length c0_0, .slice A0_1 l0_1.length c0_1] 50 (0, 0)) (zK BK619.out) hb); replace HB := zM (below_step zB hb); (try clear hb); (try clear hb2); (try clear hk); (try clear hi)))
     go_ret2
     exact ⟨by first | rfl | (simp [errW_none, errW_some] <;> rfl) | (simp [*, errW_none, errW_some] <;> rfl), zB⟩
   · replace c6 := Bool.eq_false_iff.mpr c6
     subst c6
     have H1 : (some (false, false)) = some (r1, r2) := by rw [if_neg (show ¬ (false = true) by decide)] at H; exact H
     clear H
     have H := H1
     clear H1
     simp only [Option.some.injEq, Prod.mk.injEq] at H
     obtain ⟨rfl, rfl⟩ := H
     go_enter Try.func42, Try.ntmps42
     go_wp2_with (first | ((with_reducible refine gate_dst (N := 2) rfl ?_); refine zb (w := w) 2 #[.slice A0_0 l0_0.length c0_0, .slice A0_1 l0_1.length c0_1] 50 zB ?_; clear HB; intro gb619 w15 HB BK619 GW619; have GE619 := GW619; have hcz16_0 := zy BK619 0; have hcz16_1 := zy BK619 1; have hfz16_0 := blk_frozen BK619.out 0; have hfz16_1 := blk_frozen BK619.out 1) | ((with_reducible refine gate_callee (f := 37) rfl ?_); refine zc 7 Try.func37 #[.agg #[.slice A0_0 l0_0.length c0_0, .slice A0_1 l0_1.length c0_1]] ?_; (with_reducible refine (impl_IsSpace.calls k _ _ l0_0 _ _ l0_1 true _ ?side1 ?side2 ?side3 ?side4 A3.out).mono ?_); (case side1 => exact zC (Kd.C_below HR0_0.out HB.out)); (case side2 => exact HC0_0.out); (case side3 => exact zC (Kd.C_below HR0_1.out HB.out)); (case side4 => exact HC0_1.out); rintro e w17 ⟨rfl, hb⟩; refine ⟨_, rfl, ?_⟩; replace BK619 := zM (blk_below (g := gb619) (o := .cells #[.slice A0_0 l0_0.length c0_0, .slice A0_1 l0_1.length c0_1] 50 (0, 0)) (zK BK619.out) hb); replace HB := zM (below_step zB hb); (try clear hb); (try clear hb2); (try clear hk); (try clear hi); have hcz18_0 := zy BK619 0; have hcz18_1 := zy BK619 1; have hfz18_0 := blk_frozen BK619.out 0; have hfz18_1 := blk_frozen BK619.out 1) | (go_at_call 80; (with_reducible refine (impl_Space_areValues.calls _ _ l0_0 _ _ l0_1 _ _ l1 false _ ?side1 ?side2 ?side3 ?side4 ?side5 ?side6 A5.out).mono ?_); (case side1 => exact zC (Kd.C_below HR0_0.out HB.out)); (case side2 => exact HC0_0.out); (case side3 => exact zC (Kd.C_below HR0_1.out HB.out)); (case side4 => exact HC0_1.out); (case side5 => exact zC (Kd.C_below HR1.out HB.out)); (case side6 => exact HC1.out); rintro e w19 ⟨rfl, hb⟩; replace BK619 := zM (blk_below (g := gb619) (o := .cells #[.slice A0_0 l0_0.length c0_0, .slice A0_1 l0_1.length c0_1] 50 (0, 0)) (zK BK619.out) hb); replace HB := zM (below_step zB hb); (try clear hb); (try clear hb2); (try clear hk); (try clear hi)))
     go_ret2
     exact ⟨by first | rfl | (simp [errW_none, errW_some] <;> rfl) | (simp [*, errW_none, errW_some] <;> rfl), zB⟩
 · replace c4 := Bool.eq_false_iff.mpr c4
   subst c4
   have H1 : (some (false, false)) = some (r1, r2) := by rw [if_neg (show ¬ (false = true) by decide)] at H; exact H
   clear H
   have H := H1
   clear H1
   simp only [Option.some.injEq, Prod.mk.injEq] at H
   obtain ⟨rfl, rfl⟩ := H
   go_enter Try.func42, Try.ntmps42
   go_wp2_with (first | ((with_reducible refine gate_dst (N := 2) rfl ?_); refine zb (w := w) 2 #[.slice A0_0 l0_0.length c0_0, .slice A0_1 l0_1.length c0_1] 50 zB ?_; clear HB; intro gb619 w20 HB BK619 GW619; have GE619 := GW619; have hcz21_0 := zy BK619 0; have hcz21_1 := zy BK619 1; have hfz21_0 := blk_frozen BK619.out 0; have hfz21_1 := blk_frozen BK619.out 1) | ((with_reducible refine gate_callee (f := 37) rfl ?_); refine zc 7 Try.func37 #[.agg #[.slice A0_0 l0_0.length c0_0, .slice A0_1 l0_1.length c0_1]] ?_; (with_reducible refine (impl_IsSpace.calls k _ _ l0_0 _ _ l0_1 false _ ?side1 ?side2 ?side3 ?side4 A3.out).mono ?_); (case side1 => exact zC (Kd.C_below HR0_0.out HB.out)); (case side2 => exact HC0_0.out); (case side3 => exact zC (Kd.C_below HR0_1.out HB.out)); (case side4 => exact HC0_1.out); rintro e w22 ⟨rfl, hb⟩; refine ⟨_, rfl, ?_⟩; replace BK619 := zM (blk_below (g := gb619) (o := .cells #[.slice A0_0 l0_0.length c0_0, .slice A0_1 l0_1.length c0_1] 50 (0, 0)) (zK BK619.out) hb); replace HB := zM (below_step zB hb); (try clear hb); (try clear hb2); (try clear hk); (try clear hi)))
   go_ret2
   exact ⟨by first | rfl | (simp [errW_none, errW_some] <;> rfl) | (simp [*, errW_none, errW_some] <;> rfl), zB⟩

/-! ### laws_FnExactIsPotential: function 10 -/
def laws_FnExactIsPotential.j0 : Nat → List Int → List Int → Bool → List (List Int) → List (S68) → List (List Int) → List (S68) → Option (Bool)
 | 0, _, _, _, _, _, _, _ => none
 | k + 1, x1, x9, x45, x624000, x624001, x643000, x643001 => if x45 = true then (some false) else ((laws_toSpace.f k x624000 x624001).bind fun bt648 => ((laws_eqSpace.f k x643000 x643001 bt648.1 bt648.2).bind fun t654 => (if t654 = true then ((laws_toIntS.f k x1).bind fun t655 => ((laws_eqIntS.f k x9 t655).bind fun t658 => (if t658 = true then (some true) else (some false)))) else (some false))))
def laws_FnExactIsPotential.f (k : Nat) (l0_0 : List (List Int)) (l0_1 : List (S68)) (l1 : List Int) : Option (Bool) := if (l1.length : Int) > 1048576 then (some true) else ((laws_szSpace.f k l0_0 l0_1 1048576).bind fun t624 => (if t624 < 0 then (some true) else ((laws_toSpace.f k l0_0 l0_1).bind fun bt625 => ((laws_toIntS.f k l1).bind fun t631 => ((spec_IsPotential.f k bt625.1 bt625.2 t631).bind fun bt634 => ((laws_toSpace.f k l0_0 l0_1).bind fun bt636 => ((laws_toIntS.f k l1).bind fun t643 => ((impl_IsPotential.f k bt636.1 bt636.2 t643).bind fun bt646 => (if (bt646.1 != bt634.1) = true then (laws_FnExactIsPotential.j0 k l1 t643 true l0_0 l0_1 bt636.1 bt636.2) else (laws_FnExactIsPotential.j0 k l1 t643 (bt646.2 != bt634.2) l0_0 l0_1 bt636.1 bt636.2))))))))))
theorem laws_FnExactIsPotential.mono_l : ∀ k, (∀ y0 y1 y2 y3 y4 y5 y6, LeO (laws_FnExactIsPotential.j0 k y0 y1 y2 y3 y4 y5 y6) (laws_FnExactIsPotential.j0 (k + 1) y0 y1 y2 y3 y4 y5 y6))
 | 0 => fun _ _ _ _ _ _ _ r h => by simp [laws_FnExactIsPotential.j0] at h
 | k + 1 => by
  have ih0 := laws_FnExactIsPotential.mono_l k
  · intro y0 y1 y2 y3 y4 y5 y6
    unfold laws_FnExactIsPotential.j0
    repeat' first
    | (with_reducible exact ih0 _ _ _ _ _ _ _)
    | (with_reducible exact impl_IsPotential.mono _ _ _ _)
    | (with_reducible exact laws_eqIntS.mono _ _ _)
    | (with_reducible exact laws_eqSpace.mono _ _ _ _ _)
    | (with_reducible exact laws_szSpace.mono _ _ _ _)
    | (with_reducible exact laws_toIntS.mono _ _)
    | (with_reducible exact laws_toSpace.mono _ _ _)
    | (with_reducible exact spec_IsPotential.mono _ _ _ _)
    | (with_reducible exact LeO.refl _)
    | (with_reducible exact LeO.none _)
    | (with_reducible refine LeO.ite ?_ ?_)
    | (with_reducible refine LeO.bind ?_ (fun _ => ?_))
    | exact ih0 _ _ _ _ _ _ _
    | exact impl_IsPotential.mono _ _ _ _
    | exact laws_eqIntS.mono _ _ _
    | exact laws_eqSpace.mono _ _ _ _ _
    | exact laws_szSpace.mono _ _ _ _
    | exact laws_toIntS.mono _ _
    | exact laws_toSpace.mono _ _ _
    | exact spec_IsPotential.mono _ _ _ _
    | exact LeO.none _
    | refine LeO.ite ?_ ?_
    | refine LeO.bind ?_ (fun _ => ?_)
theorem laws_FnExactIsPotential.mono : ∀ a0 a1 a2 k, LeO (laws_FnExactIsPotential.f k a0 a1 a2) (laws_FnExactIsPotential.f (k + 1) a0 a1 a2) := by
 intro a0 a1 a2 k
 have ih0 := laws_FnExactIsPotential.mono_l k
 unfold laws_FnExactIsPotential.f
 repeat' first
  | (with_reducible exact ih0 _ _ _ _ _ _ _)
  | (with_reducible exact impl_IsPotential.mono _ _ _ _)
  | (with_reducible exact laws_eqIntS.mono _ _ _)
  | (with_reducible exact laws_eqSpace.mono _ _ _ _ _)
  | (with_reducible exact laws_szSpace.mono _ _ _ _)
  | (with_reducible exact laws_toIntS.mono _ _)
  | (with_reducible exact laws_toSpace.mono _ _ _)
  | (with_reducible exact spec_IsPotential.mono _ _ _ _)
  | (with_reducible exact LeO.refl _)
  | (with_reducible exact LeO.none _)
  | (with_reducible refine LeO.ite ?_ ?_)
  | (with_reducible refine LeO.bind ?_ (fun _ => ?_))
  | exact ih0 _ _ _ _ _ _ _
  | exact impl_IsPotential.mono _ _ _ _
  | exact laws_eqIntS.mono _ _ _
  | exact laws_eqSpace.mono _ _ _ _ _
  | exact laws_szSpace.mono _ _ _ _
  | exact laws_toIntS.mono _ _
  | exact laws_toSpace.mono _ _ _
  | exact spec_IsPotential.mono _ _ _ _
  | exact LeO.none _
  | refine LeO.ite ?_ ?_
  | refine LeO.bind ?_ (fun _ => ?_)
set_option maxHeartbeats 8000000 in
set_option maxRecDepth 100000 in
theorem laws_FnExactIsPotential.calls (k : Nat) (A0_0 : Option Addr) (c0_0 : Nat) (l0_0 : List (List Int)) (A0_1 : Option Addr) (c0_1 : Nat) (l0_1 : List (S68)) (A1 : Option Addr) (c1 : Nat) (l1 : List Int) (r : Bool) (w : World) (hr0_0 : Kd.C (Kd.slice 3 (Kd.int .i64)) w A0_0 l0_0.length l0_0) (hc0_0 : l0_0.length ≤ c0_0) (hr0_1 : Kd.C k68 w A0_1 l0_1.length l0_1) (hc0_1 : l0_1.length ≤ c0_1) (hr1 : Kd.C (Kd.int .i64) w A1 l1.length l1) (hc1 : l1.length ≤ c1) (h : laws_FnExactIsPotential.f k l0_0 l0_1 l1 = some r) :
 Calls Try.prog 10 #[.agg #[.slice A0_0 l0_0.length c0_0, .slice A0_1 l0_1.length c0_1], .slice A1 l1.length c1] w fun e w' => e = .returned (.bool r) ∧ Below w.heap.size w w' := by
 have hu47 := Try.underlying47
 have hu50 := Try.underlying50
 have HR0_0 := Aside0.mk hr0_0
 have HC0_0 := Aside0.mk hc0_0
 clear hr0_0 hc0_0
 have HR0_1 := Aside0.mk hr0_1
 have HC0_1 := Aside0.mk hc0_1
 clear hr0_1 hc0_1
 have HR1 := Aside0.mk hr1
 have HC1 := Aside0.mk hc1
 clear hr1 hc1
 have HB := zM (Below.refl w.heap.size w)
 have H : (if (l1.length : Int) > 1048576 then (some true) else ((laws_szSpace.f k l0_0 l0_1 1048576).bind fun t624 => (if t624 < 0 then (some true) else ((laws_toSpace.f k l0_0 l0_1).bind fun bt625 => ((laws_toIntS.f k l1).bind fun t631 => ((spec_IsPotential.f k bt625.1 bt625.2 t631).bind fun bt634 => ((laws_toSpace.f k l0_0 l0_1).bind fun bt636 => ((laws_toIntS.f k l1).bind fun t643 => ((impl_IsPotential.f k bt636.1 bt636.2 t643).bind fun bt646 => (if (bt646.1 != bt634.1) = true then (laws_FnExactIsPotential.j0 k l1 t643 true l0_0 l0_1 bt636.1 bt636.2) else (laws_FnExactIsPotential.j0 k l1 t643 (bt646.2 != bt634.2) l0_0 l0_1 bt636.1 bt636.2))))))))))) = some r := h
 clear h
 by_cases c3 : (l1.length : Int) > 1048576
 · rw [if_pos c3] at H
   have c3b0 : decide (1048576 < (l1.length : Int)) = true := decide_eq_true c3
   have c3b1 : decide (1048576 < l1.length) = true := decide_eq_true (by omega)
   clear c3
   obtain rfl := Option.some.inj H
   go_enter Try.func10, Try.ntmps10
   go_wp2_with (first | ((with_reducible refine gate_dst (N := 2) rfl ?_); refine zb (w := w) 2 #[.slice A0_0 l0_0.length c0_0, .slice A0_1 l0_1.length c0_1] 47 zB ?_; clear HB; intro gb623 w4 HB BK623 GW623; have GE623 := GW623))
   go_ret
   exact ⟨by first | rfl | (simp [errW_none, errW_some] <;> rfl) | (simp [*, errW_none, errW_some] <;> rfl), zB⟩
 · rw [if_neg c3] at H
   have c3b0 : decide (1048576 < (l1.length : Int)) = false := decide_eq_false c3
   have c3b1 : decide (1048576 < l1.length) = false := decide_eq_false (by omega)
   clear c3
   replace H := Option.bind_eq_some_iff.mp H
   obtain ⟨t624, A50, H⟩ := H
   have A5 := Aside0.mk A50
   clear A50
   by_cases c6 : t624 < 0
   · rw [if_pos c6] at H
     have c6b0 := decide_eq_true c6
     clear c6
     obtain rfl := Option.some.inj H
     go_enter Try.func10, Try.ntmps10
     go_wp2_with (first | ((with_reducible refine gate_dst (N := 2) rfl ?_); refine zb (w := w) 2 #[.slice A0_0 l0_0.length c0_0, .slice A0_1 l0_1.length c0_1] 47 zB ?_; clear HB; intro gb623 w7 HB BK623 GW623; have GE623 := GW623; have hcz8_0 := zy BK623 0; have hcz8_1 := zy BK623 1; have hfz8_0 := blk_frozen BK623.out 0; have hfz8_1 := blk_frozen BK623.out 1) | ((with_reducible refine gate_callee (f := 34) rfl ?_); refine zc 17 Try.func34 #[.agg #[.slice A0_0 l0_0.length c0_0, .slice A0_1 l0_1.length c0_1], .int .i64 1048576] ?_; (with_reducible refine (laws_szSpace.calls k _ _ l0_0 _ _ l0_1 1048576 t624 _ ?side1 ?side2 ?side3 ?side4 A5.out).mono ?_); (case side1 => exact zC (Kd.C_below HR0_0.out HB.out)); (case side2 => exact HC0_0.out); (case side3 => exact zC (Kd.C_below HR0_1.out HB.out)); (case side4 => exact HC0_1.out); rintro e w9 ⟨rfl, hb⟩; refine ⟨_, rfl, ?_⟩; replace BK623 := zM (blk_below (g := gb623) (o := .cells #[.slice A0_0 l0_0.length c0_0, .slice A0_1 l0_1.length c0_1] 47 (0, 0)) (zK BK623.out) hb); replace HB := zM (below_step zB hb); (try clear hb); (try clear hb2); (try clear hk); (try clear hi)))
     go_ret
     exact ⟨by first | rfl | (simp [errW_none, errW_some] <;> rfl) | (simp [*, errW_none, errW_some] <;> rfl), zB⟩
   · rw [if_neg c6] at H
     have c6b0 : decide (t624 < 0) = false := decide_eq_false c6
     clear c6
     replace H := Option.bind_eq_some_iff.mp H
     obtain ⟨⟨t625, t628⟩, A100, H⟩ := H
     replace H : ((laws_toIntS.f k l1).bind fun t631 => ((spec_IsPotential.f k t625 t628 t631).bind fun bt634 => ((laws_toSpace.f k l0_0 l0_1).bind fun bt636 => ((laws_toIntS.f k l1).bind fun t643 => ((impl_IsPotential.f k bt636.1 bt636.2 t643).bind fun bt646 => (if (bt646.1 != bt634.1) = true then (laws_FnExactIsPotential.j0 k l1 t643 true l0_0 l0_1 bt636.1 bt636.2) else (laws_FnExactIsPotential.j0 k l1 t643 (bt646.2 != bt634.2) l0_0 l0_1 bt636.1 bt636.2))))))) = some r := H
     have A10 := Aside0.mk A100
     clear A100
     replace H := Option.bind_eq_some_iff.mp H
     obtain ⟨t631, A110, H⟩ := H
     have A11 := Aside0.mk A110
     clear A110
     replace H := Option.bind_eq_some_iff.mp H
     obtain ⟨⟨t634, t635⟩, A120, H⟩ := H
     replace H : ((laws_toSpace.f k l0_0 l0_1).bind fun bt636 => ((laws_toIntS.f k l1).bind fun t643 => ((impl_IsPotential.f k bt636.1 bt636.2 t643).bind fun bt646 => (if (bt646.1 != t634) = true then (laws_FnExactIsPotential.j0 k l1 t643 true l0_0 l0_1 bt636.1 bt636.2) else (laws_FnExactIsPotential.j0 k l1 t643 (bt646.2 != t635) l0_0 l0_1 bt636.1 bt636.2))))) = some r := H
     have A12 := Aside0.mk A120
     clear A120
     replace H := Option.bind_eq_some_iff.mp H
     obtain ⟨⟨t636, t639⟩, A130, H⟩ := H
     replace H : ((laws_toIntS.f k l1).bind fun t643 => ((impl_IsPotential.f k t636 t639 t643).bind fun bt646 => (if (bt646.1 != t634) = true then (laws_FnExactIsPotential.j0 k l1 t643 true l0_0 l0_1 t636 t639) else (laws_FnExactIsPotential.j0 k l1 t643 (bt646.2 != t635) l0_0 l0_1 t636 t639)))) = some r := H
     have A13 := Aside0.mk A130
     clear A130
     replace H := Option.bind_eq_some_iff.mp H
     obtain ⟨t643, A140, H⟩ := H
     have A14 := Aside0.mk A140
     clear A140
     replace H := Option.bind_eq_some_iff.mp H
     obtain ⟨⟨t646, t647⟩, A150, H⟩ := H
     replace H : (if (t646 != t634) = true then (laws_FnExactIsPotential.j0 k l1 t643 true l0_0 l0_1 t636 t639) else (laws_FnExactIsPotential.j0 k l1 t643 (t647 != t635) l0_0 l0_1 t636 t639)) = some r := H
     have A15 := Aside0.mk A150
     clear A150
     have HC16 := Aside0.mk H
     clear H
     go_enter Try.func10, Try.ntmps10
     go_upto_region 11 with (first | ((with_reducible refine gate_dst (N := 2) rfl ?_); refine zb (w := w) 2 #[.slice A0_0 l0_0.length c0_0, .slice A0_1 l0_1.length c0_1] 47 zB ?_; clear HB; intro gb623 w17 HB BK623 GW623; have GE623 := GW623; have hcz18_0 := zy BK623 0; have hcz18_1 := zy BK623 1; have hfz18_0 := blk_frozen BK623.out 0; have hfz18_1 := blk_frozen BK623.out 1) | ((with_reducible refine gate_callee (f := 34) rfl ?_); refine zc 17 Try.func34 #[.agg #[.slice A0_0 l0_0.length c0_0, .slice A0_1 l0_1.length c0_1], .int .i64 1048576] ?_; (with_reducible refine (laws_szSpace.calls k _ _ l0_0 _ _ l0_1 1048576 t624 _ ?side1 ?side2 ?side3 ?side4 A5.out).mono ?_); (case side1 => exact zC (Kd.C_below HR0_0.out HB.out)); (case side2 => exact HC0_0.out); (case side3 => exact zC (Kd.C_below HR0_1.out HB.out)); (case side4 => exact HC0_1.out); rintro e w19 ⟨rfl, hb⟩; refine ⟨_, rfl, ?_⟩; replace BK623 := zM (blk_below (g := gb623) (o := .cells #[.slice A0_0 l0_0.length c0_0, .slice A0_1 l0_1.length c0_1] 47 (0, 0)) (zK BK623.out) hb); replace HB := zM (below_step zB hb); (try clear hb); (try clear hb2); (try clear hk); (try clear hi); have hcz20_0 := zy BK623 0; have hcz20_1 := zy BK623 1; have hfz20_0 := blk_frozen BK623.out 0; have hfz20_1 := blk_frozen BK623.out 1) | ((with_reducible refine gate_callee (f := 36) rfl ?_); refine zc 22 Try.func36 #[.agg #[.slice A0_0 l0_0.length c0_0, .slice A0_1 l0_1.length c0_1]] ?_; (with_reducible refine (laws_toSpace.calls k _ _ l0_0 _ _ l0_1 t625 t628 _ ?side1 ?side2 ?side3 ?side4 A10.out).mono ?_); (case side1 => exact zC (Kd.C_below HR0_0.out HB.out)); (case side2 => exact HC0_0.out); (case side3 => exact zC (Kd.C_below HR0_1.out HB.out)); (case side4 => exact HC0_1.out); rintro e w21 ⟨v626, v629, rfl, ho0, ho1, hb⟩; refine ⟨_, rfl, ?_⟩; have HO627 := zM (Kd.S_lower ho0 (below_size zB)); have HO630 := zM (Kd.R_lower ho1 (below_size zB)); replace BK623 := zM (blk_below (g := gb623) (o := .cells #[.slice A0_0 l0_0.length c0_0, .slice A0_1 l0_1.length c0_1] 47 (0, 0)) (zK BK623.out) hb); replace HB := zM (below_step zB hb); (try clear hb); (try clear hb2); (try clear hk); (try clear hi); (try clear ho0); (try clear ho1)) | ((with_reducible refine gate_callee (f := 25) rfl ?_); refine zc 24 Try.func25 #[.slice A1 l1.length c1] ?_; (with_reducible refine (laws_toIntS.calls k _ _ l1 t631 _ ?side1 ?side2 A11.out).mono ?_); (case side1 => exact zC (Kd.C_below HR1.out HB.out)); (case side2 => exact HC1.out); rintro e w22 ⟨v632, rfl, ho0, hb⟩; refine ⟨_, rfl, ?_⟩; replace HO627 := zM (Kd.S_elder' (by (with_reducible repeat (first | apply Kd.S_alloc | apply Kd.S_drewN | apply Kd.S_drew)); exact HO627.out) (Kd.R_base ho0) hb); replace HO630 := zM (Kd.R_below (zR HO630.out) hb); have HO633 := zM (Kd.R_lower ho0 (below_size zB)); replace BK623 := zM (blk_below (g := gb623) (o := .cells #[.slice A0_0 l0_0.length c0_0, .slice A0_1 l0_1.length c0_1] 47 (0, 0)) (zK BK623.out) hb); replace HB := zM (below_step zB hb); (try clear hb); (try clear hb2); (try clear hk); (try clear hi); (try clear ho0); obtain ⟨Ao23, co23, eo23⟩ := Kd.S_slice HO627.out; subst eo23; obtain ⟨Ao24, co24, eo24⟩ := Kd.R_slice HO630.out; subst eo24; obtain ⟨Ao25, co25, eo25⟩ := Kd.R_slice HO633.out; subst eo25) | ((with_reducible refine gate_callee (f := 41) rfl ?_); refine zc 25 Try.func41 #[.agg #[.slice Ao23 t625.length co23, .slice Ao24 t628.length co24], .slice Ao25 t631.length co25] ?_; (with_reducible refine (spec_IsPotential.calls k _ _ t625 _ _ t628 _ _ t631 t634 t635 _ ?side1 ?side2 ?side3 ?side4 ?side5 ?side6 A12.out).mono ?_); (case side1 => exact zC (Kd.S_reads' HO627.out).2.2); (case side2 => exact (Kd.S_reads' HO627.out).2.1); (case side3 => exact zC (Kd.R_reads' HO630.out).2.2); (case side4 => exact (Kd.R_reads' HO630.out).2.1); (case side5 => exact zC (Kd.R_reads' HO633.out).2.2); (case side6 => exact (Kd.R_reads' HO633.out).2.1); rintro e w26 ⟨rfl, hb⟩; refine ⟨_, rfl, ?_⟩; replace HO627 := zM (Kd.S_below (by (with_reducible repeat (first | apply Kd.S_alloc | apply Kd.S_drewN | apply Kd.S_drew)); exact HO627.out) hb); replace HO630 := zM (Kd.R_below (zR HO630.out) hb); replace HO633 := zM (Kd.R_below (zR HO633.out) hb); replace BK623 := zM (blk_below (g := gb623) (o := .cells #[.slice A0_0 l0_0.length c0_0, .slice A0_1 l0_1.length c0_1] 47 (0, 0)) (zK BK623.out) hb); replace HB := zM (below_step zB hb); (try clear hb); (try clear hb2); (try clear hk); (try clear hi); have hcz27_0 := zy BK623 0; have hcz27_1 := zy BK623 1; have hfz27_0 := blk_frozen BK623.out 0; have hfz27_1 := blk_frozen BK623.out 1) | ((with_reducible refine gate_callee (f := 36) rfl ?_); refine zc 29 Try.func36 #[.agg #[.slice A0_0 l0_0.length c0_0, .slice A0_1 l0_1.length c0_1]] ?_; (with_reducible refine (laws_toSpace.calls k _ _ l0_0 _ _ l0_1 t636 t639 _ ?side1 ?side2 ?side3 ?side4 A13.out).mono ?_); (case side1 => exact zC (Kd.C_below HR0_0.out HB.out)); (case side2 => exact HC0_0.out); (case side3 => exact zC (Kd.C_below HR0_1.out HB.out)); (case side4 => exact HC0_1.out); rintro e w28 ⟨v637, v640, rfl, ho0, ho1, hb⟩; refine ⟨_, rfl, ?_⟩; have HO638 := zM (Kd.S_lower (Kd.S_new' (Kd.S_new' ho0 (Kd.S_lt (by (with_reducible repeat (first | apply Kd.S_alloc | apply Kd.S_drewN | apply Kd.S_drew)); exact HO627.out))) (Kd.R_lt (zR HO633.out))) (below_size zB)); replace HO627 := zM (Kd.S_elder' (by (with_reducible repeat (first | apply Kd.S_alloc | apply Kd.S_drewN | apply Kd.S_drew)); exact HO627.out) (Kd.S_base ho0) hb); replace HO633 := zM (Kd.R_below (zR HO633.out) hb); have HO641 := zM (Kd.R_lower (Kd.R_new' ho1 (Kd.R_lt (zR HO630.out))) (below_size zB)); replace HO630 := zM (Kd.R_elder' (zR HO630.out) (Kd.R_base ho1) hb); replace BK623 := zM (blk_below (g := gb623) (o := .cells #[.slice A0_0 l0_0.length c0_0, .slice A0_1 l0_1.length c0_1] 47 (0, 0)) (zK BK623.out) hb); replace HB := zM (below_step zB hb); (try clear hb); (try clear hb2); (try clear hk); (try clear hi); (try clear ho0); (try clear ho1)) | ((with_reducible refine gate_dst (N := 8) rfl ?_); refine ze 8 #[.slice none 0 0, .slice none 0 0] 50 ?_; intro gb642 hg w29 hbox hb; replace HO627 := zM (Kd.S_below (by (with_reducible repeat (first | apply Kd.S_alloc | apply Kd.S_drewN | apply Kd.S_drew)); exact HO627.out) hb); replace HO630 := zM (Kd.R_below (zR HO630.out) hb); replace HO633 := zM (Kd.R_below (zR HO633.out) hb); replace HO638 := zM (Kd.S_below (by (with_reducible repeat (first | apply Kd.S_alloc | apply Kd.S_drewN | apply Kd.S_drew)); exact HO638.out) hb); replace HO641 := zM (Kd.R_below (zR HO641.out) hb); have BK642 := zM (hbox); have GW642 := zM ((by rw [hg]; exact (below_size zB) : w.heap.size ≤ gb642)); have GE642 := zM ((by rw [hg]; exact (below_size zB) : w.heap.size ≤ gb642)); replace HB := zM (below_step zB hb); have NB623_642 := zM ((by rw [hg]; exact Nat.ne_of_lt (blk_lt (g := gb623) (o := .cells #[.slice A0_0 l0_0.length c0_0, .slice A0_1 l0_1.length c0_1] 47 (0, 0)) (zK BK623.out)) : gb623 ≠ gb642)); have NB642_623 := zM ((by rw [hg]; exact Nat.ne_of_gt (blk_lt (g := gb623) (o := .cells #[.slice A0_0 l0_0.length c0_0, .slice A0_1 l0_1.length c0_1] 47 (0, 0)) (zK BK623.out)) : gb642 ≠ gb623)); replace BK623 := zM (blk_below (g := gb623) (o := .cells #[.slice A0_0 l0_0.length c0_0, .slice A0_1 l0_1.length c0_1] 47 (0, 0)) (zK BK623.out) hb); clear hb hbox hg; obtain ⟨Ao30, co30, eo30⟩ := Kd.S_slice HO638.out; subst eo30; have hnb31 := NB642_623.out; have hnc31 := NB623_642.out; have hcz32_0 := zy BK642 0; have hcz32_1 := zy BK642 1; have hfz32_0 := blk_frozen BK642.out 0; have hfz32_1 := blk_frozen BK642.out 1; obtain ⟨Ao33, co33, eo33⟩ := Kd.R_slice HO641.out; subst eo33) | ((with_reducible refine gate_callee (f := 25) rfl ?_); refine zc 31 Try.func25 #[.slice A1 l1.length c1] ?_; (with_reducible refine (laws_toIntS.calls k _ _ l1 t643 _ ?side1 ?side2 A14.out).mono ?_); (case side1 => exact Kd.C_below HR1.out zB); (case side2 => exact HC1.out); rintro e w34 ⟨v644, rfl, ho0, hb⟩; refine ⟨_, rfl, ?_⟩; replace HO627 := zM (Kd.S_elder' (by (with_reducible repeat (first | apply Kd.S_alloc | apply Kd.S_drewN | apply Kd.S_drew)); exact (Kd.S_mono (Kd.S_far (p := ⟨gb642, 1, none⟩) (Kd.S_far (p := ⟨gb642, 0, none⟩) (Kd.S_types HO627.out BK642.out (by decide)) (fun _ hk => hk.2) (.slice Ao30 t636.length co30)) (fun _ hk => hk.2) (.slice Ao33 t639.length co33)) (fun _ h_ => h_.1))) (Kd.R_base ho0) hb); replace HO630 := zM (Kd.R_below (by (with_reducible repeat (first | apply Kd.R_alloc | apply Kd.R_drewN | apply Kd.R_drew)); exact (Kd.R_mono (Kd.R_far (p := ⟨gb642, 1, none⟩) (Kd.R_far (p := ⟨gb642, 0, none⟩) (Kd.R_types HO630.out BK642.out (by decide)) (fun _ hk => hk.2) (.slice Ao30 t636.length co30)) (fun _ hk => hk.2) (.slice Ao33 t639.length co33)) (fun _ h_ => h_.1))) hb); replace HO638 := zM (Kd.S_elder' (by (with_reducible repeat (first | apply Kd.S_alloc | apply Kd.S_drewN | apply Kd.S_drew)); exact (Kd.S_mono (Kd.S_far (p := ⟨gb642, 1, none⟩) (Kd.S_far (p := ⟨gb642, 0, none⟩) (Kd.S_types HO638.out BK642.out (by decide)) (fun _ hk => hk.2) (.slice Ao30 t636.length co30)) (fun _ hk => hk.2) (.slice Ao33 t639.length co33)) (fun _ h_ => h_.1))) (Kd.R_base ho0) hb); replace HO641 := zM (Kd.R_below (by (with_reducible repeat (first | apply Kd.R_alloc | apply Kd.R_drewN | apply Kd.R_drew)); exact (Kd.R_mono (Kd.R_far (p := ⟨gb642, 1, none⟩) (Kd.R_far (p := ⟨gb642, 0, none⟩) (Kd.R_types HO641.out BK642.out (by decide)) (fun _ hk => hk.2) (.slice Ao30 t636.length co30)) (fun _ hk => hk.2) (.slice Ao33 t639.length co33)) (fun _ h_ => h_.1))) hb); have HO645 := zM (Kd.R_lower (Kd.R_new' ho0 (Kd.R_lt (by (with_reducible repeat (first | apply Kd.R_alloc | apply Kd.R_drewN | apply Kd.R_drew)); exact (Kd.R_mono (Kd.R_far (p := ⟨gb642, 1, none⟩) (Kd.R_far (p := ⟨gb642, 0, none⟩) (Kd.R_types HO633.out BK642.out (by decide)) (fun _ hk => hk.2) (.slice Ao30 t636.length co30)) (fun _ hk => hk.2) (.slice Ao33 t639.length co33)) (fun _ h_ => h_.1))))) (below_size zB)); replace HO633 := zM (Kd.R_elder' (by (with_reducible repeat (first | apply Kd.R_alloc | apply Kd.R_drewN | apply Kd.R_drew)); exact (Kd.R_mono (Kd.R_far (p := ⟨gb642, 1, none⟩) (Kd.R_far (p := ⟨gb642, 0, none⟩) (Kd.R_types HO633.out BK642.out (by decide)) (fun _ hk => hk.2) (.slice Ao30 t636.length co30)) (fun _ hk => hk.2) (.slice Ao33 t639.length co33)) (fun _ h_ => h_.1))) (Kd.R_base ho0) hb); replace BK623 := zM (blk_below (g := gb623) (o := .cells #[.slice A0_0 l0_0.length c0_0, .slice A0_1 l0_1.length c0_1] 47 (0, 0)) (by (with_reducible repeat (first | refine blk_drewN ?_ _ | refine blk_drew ?_ | refine blk_alloc ?_ _)); refine blk_far ?_ NB623_642.out _; (with_reducible repeat (first | refine blk_drewN ?_ _ | refine blk_drew ?_ | refine blk_alloc ?_ _)); refine blk_far ?_ NB623_642.out _; (with_reducible repeat (first | refine blk_drewN ?_ _ | refine blk_drew ?_ | refine blk_alloc ?_ _)); exact BK623.out) hb); replace BK642 := zM (blk_below (g := gb642) (o := .cells #[.slice Ao30 t636.length co30, .slice Ao33 t639.length co33] 50 (0, 0)) (by (with_reducible repeat (first | refine blk_drewN ?_ _ | refine blk_drew ?_ | refine blk_alloc ?_ _)); refine blk_put (cs := #[.slice Ao30 t636.length co30, .slice none 0 0]) ?_ 1 _ rfl; (with_reducible repeat (first | refine blk_drewN ?_ _ | refine blk_drew ?_ | refine blk_alloc ?_ _)); refine blk_put (cs := #[.slice none 0 0, .slice none 0 0]) ?_ 0 _ rfl; (with_reducible repeat (first | refine blk_drewN ?_ _ | refine blk_drew ?_ | refine blk_alloc ?_ _)); exact BK642.out) hb); replace HB := zM (below_step zB hb); (try clear hb); (try clear hb2); (try clear hk); (try clear hi); (try clear ho0); have hcz35_0 := zy BK642 0; have hcz35_1 := zy BK642 1; have hfz35_0 := blk_frozen BK642.out 0; have hfz35_1 := blk_frozen BK642.out 1; obtain ⟨Ao36, co36, eo36⟩ := Kd.R_slice HO645.out; subst eo36) | ((with_reducible refine gate_callee (f := 42) rfl ?_); refine zc 35 Try.func42 #[.agg #[.slice Ao30 t636.length co30, .slice Ao33 t639.length co33], .slice Ao36 t643.length co36] ?_; (with_reducible refine (impl_IsPotential.calls k _ _ t636 _ _ t639 _ _ t643 t646 t647 _ ?side1 ?side2 ?side3 ?side4 ?side5 ?side6 A15.out).mono ?_); (case side1 => exact zC (Kd.S_reads' HO638.out).2.2); (case side2 => exact (Kd.S_reads' HO638.out).2.1); (case side3 => exact zC (Kd.R_reads' HO641.out).2.2); (case side4 => exact (Kd.R_reads' HO641.out).2.1); (case side5 => exact zC (Kd.R_reads' HO645.out).2.2); (case side6 => exact (Kd.R_reads' HO645.out).2.1); rintro e w37 ⟨rfl, hb⟩; refine ⟨_, rfl, ?_⟩; replace HO627 := zM (Kd.S_below (by (with_reducible repeat (first | apply Kd.S_alloc | apply Kd.S_drewN | apply Kd.S_drew)); exact HO627.out) hb); replace HO630 := zM (Kd.R_below (zR HO630.out) hb); replace HO633 := zM (Kd.R_below (zR HO633.out) hb); replace HO638 := zM (Kd.S_below (by (with_reducible repeat (first | apply Kd.S_alloc | apply Kd.S_drewN | apply Kd.S_drew)); exact HO638.out) hb); replace HO641 := zM (Kd.R_below (zR HO641.out) hb); replace HO645 := zM (Kd.R_below (zR HO645.out) hb); replace BK623 := zM (blk_below (g := gb623) (o := .cells #[.slice A0_0 l0_0.length c0_0, .slice A0_1 l0_1.length c0_1] 47 (0, 0)) (zK BK623.out) hb); replace BK642 := zM (blk_below (g := gb642) (o := .cells #[.slice Ao30 t636.length co30, .slice Ao33 t639.length co33] 50 (0, 0)) (zK BK642.out) hb); replace HB := zM (below_step zB hb); (try clear hb); (try clear hb2); (try clear hk); (try clear hi)))
     (try simp only [Act.put, List.setIfInBounds_toArray, List.set_cons_zero, List.set_cons_succ])
     go_cut [45] (fun v45 wc => ∃ (kq : Nat) (x45_15 : Bool), v45 = .bool x45_15 ∧ Aside0 (laws_FnExactIsPotential.j0 kq l1 t643 x45_15 l0_0 l0_1 t636 t639 = some r) ∧ Aside0 (kq ≤ k) ∧ Aside0 (Kd.R (Kd.int .i64) 3 wc w.heap.size (fun _ => True) (.slice Ao36 t643.length co36) t643) ∧ Aside0 (Kd.S (Kd.slice 3 (Kd.int .i64)) 34 wc w.heap.size (fun k_ => some k_ ≠ ((.slice Ao36 t643.length co36) : Value).ownBlock) (.slice Ao30 t636.length co30) t636) ∧ Aside0 (Kd.R k68 68 wc w.heap.size (fun _ => True) (.slice Ao33 t639.length co33) t639) ∧ Aside0 (wc.heap[gb623]? = some (.cells #[(.slice A0_0 l0_0.length c0_0), (.slice A0_1 l0_1.length c0_1)] 47 (0, 0))) ∧ Aside0 (wc.heap[gb642]? = some (.cells #[(.slice Ao30 t636.length co30), (.slice Ao33 t639.length co33)] 50 (0, 0))) ∧ Aside0 (Below w.heap.size w wc))
     case first =>
      have H := HC16.out
      clear HC16
      by_cases c38 : (t646 != t634) = true
      · rw [if_pos c38] at H
        have c38b0 : (t646 != t634) = true := c38
        (try (have c38b1 : decide (t646 = t634) = false := by simpa using c38))
        (try (have c38b2 : (t646 == t634) = false := by simpa using c38))
        (try (have c38b3 : ¬ (t646 = t634) := by simpa using c38))
        clear c38
        (first | rw [c38b0] | (simp only [i64_w, i32_w]; rw [c38b0]) | skip)
        have H' := Aside0.mk H
        clear H
        go_wp2
        go_meet
        case rel => exact ⟨_, (true), (by first | rfl | (simp; done) | (simp [*]; done)), H', ⟨by first | omega | exact Nat.le_refl _⟩, ⟨by (with_reducible repeat (first | apply Kd.R_alloc | apply Kd.R_drewN | apply Kd.R_drew)); exact Kd.R_mono HO645.out (fun _ hk => trivial)⟩, ⟨by (with_reducible repeat (first | apply Kd.S_alloc | apply Kd.S_drewN | apply Kd.S_drew)); exact Kd.S_mono HO638.out (fun _ hk => hk.2)⟩, ⟨by (with_reducible repeat (first | apply Kd.R_alloc | apply Kd.R_drewN | apply Kd.R_drew)); exact Kd.R_mono HO641.out (fun _ hk => trivial)⟩, ⟨zK BK623.out⟩, ⟨zK BK642.out⟩, ⟨zB⟩⟩
      · rw [if_neg c38] at H
        have c38b0 : (t646 != t634) = false := by simpa using c38
        (try (have c38b1 : decide (t646 = t634) = true := by simpa using c38))
        (try (have c38b2 : (t646 == t634) = true := by simpa using c38))
        clear c38
        (first | rw [c38b0] | (simp only [i64_w, i32_w]; rw [c38b0]) | skip)
        have H' := Aside0.mk H
        clear H
        go_wp2
        go_meet
        case rel => exact ⟨_, ((t647 != t635)), (by first | rfl | (simp; done) | (simp [*]; done)), H', ⟨by first | omega | exact Nat.le_refl _⟩, ⟨by (with_reducible repeat (first | apply Kd.R_alloc | apply Kd.R_drewN | apply Kd.R_drew)); exact Kd.R_mono HO645.out (fun _ hk => trivial)⟩, ⟨by (with_reducible repeat (first | apply Kd.S_alloc | apply Kd.S_drewN | apply Kd.S_drew)); exact Kd.S_mono HO638.out (fun _ hk => hk.2)⟩, ⟨by (with_reducible repeat (first | apply Kd.R_alloc | apply Kd.R_drewN | apply Kd.R_drew)); exact Kd.R_mono HO641.out (fun _ hk => trivial)⟩, ⟨zK BK623.out⟩, ⟨zK BK642.out⟩, ⟨zB⟩⟩
     case rest =>
      clear HC16
      try clear c1
      try clear c2
      try clear p2
      try clear c3
      try clear c3b0
      try clear c3b1
      try clear c4
      try clear c6
      try clear c6b0
      try clear c10
      try clear c25
      try clear c31
      try clear c34
      try clear c36
      try clear c38
      try clear c38b0
      try clear c38b1
      try clear c38b2
      try clear hcz18_0
      try clear hcz18_1
      try clear hcz20_0
      try clear hcz20_1
      try clear hcz27_0
      try clear hcz27_1
      try clear hcz32_0
      try clear hcz32_1
      try clear hcz35_0
      try clear hcz35_1
      try clear hcz8_0
      try clear hcz8_1
      try clear hfz18_0
      try clear hfz18_1
      try clear hfz20_0
      try clear hfz20_1
      try clear hfz27_0
      try clear hfz27_1
      try clear hfz32_0
      try clear hfz32_1
      try clear hfz35_0
      try clear hfz35_1
      try clear hfz8_0
      try clear hfz8_1
      obtain ⟨kq, x45_15, rfl, HA, HJ15, HO_9, HO_643000, HO_643001, BK623, BK642, HB⟩ := hcut
      cases kq with
      | zero => exact absurd HA.out (by simp [laws_FnExactIsPotential.j0])
      | succ kj15 =>
       have H := HA.out
       clear HA
       simp only [laws_FnExactIsPotential.j0] at H
       by_cases c39 : x45_15 = true
       · subst c39
         rw [if_pos rfl] at H
         obtain rfl := Option.some.inj H
         go_wp2
         go_ret
         exact ⟨by first | rfl | (simp [errW_none, errW_some] <;> rfl) | (simp [*, errW_none, errW_some] <;> rfl), zB⟩
       · replace c39 := Bool.eq_false_iff.mpr c39
         subst c39
         have H1 : ((laws_toSpace.f kj15 l0_0 l0_1).bind fun bt648 => ((laws_eqSpace.f kj15 t636 t639 bt648.1 bt648.2).bind fun t654 => (if t654 = true then ((laws_toIntS.f kj15 l1).bind fun t655 => ((laws_eqIntS.f kj15 t643 t655).bind fun t658 => (if t658 = true then (some true) else (some false)))) else (some false)))) = some r := by rw [if_neg (show ¬ (false = true) by decide)] at H; exact H
         clear H
         have H := H1
         clear H1
         replace H := Option.bind_eq_some_iff.mp H
         obtain ⟨⟨t648, t651⟩, A400, H⟩ := H
         replace H : ((laws_eqSpace.f kj15 t636 t639 t648 t651).bind fun t654 => (if t654 = true then ((laws_toIntS.f kj15 l1).bind fun t655 => ((laws_eqIntS.f kj15 t643 t655).bind fun t658 => (if t658 = true then (some true) else (some false)))) else (some false))) = some r := H
         have A40 := Aside0.mk A400
         clear A400
         replace H := Option.bind_eq_some_iff.mp H
         obtain ⟨t654, A410, H⟩ := H
         have A41 := Aside0.mk A410
         clear A410
         by_cases c42 : t654 = true
         · subst c42
           rw [if_pos rfl] at H
           replace H := Option.bind_eq_some_iff.mp H
           obtain ⟨t655, A430, H⟩ := H
           have A43 := Aside0.mk A430
           clear A430
           replace H := Option.bind_eq_some_iff.mp H
           obtain ⟨t658, A440, H⟩ := H
           have A44 := Aside0.mk A440
           clear A440
           by_cases c45 : t658 = true
           · subst c45
             rw [if_pos rfl] at H
             obtain rfl := Option.some.inj H
             try go_wp2
             replace HO_9 := zM (Kd.R_drew HO_9.out)
             replace HO_643000 := zM (Kd.S_drew HO_643000.out)
             replace HO_643001 := zM (Kd.R_drew HO_643001.out)
             replace BK623 := zM (blk_drew BK623.out)
             replace BK642 := zM (blk_drew BK642.out)
             replace HB := zM (below_drew1 HB.out)
             refine zs (n := 5) (fun w' => w'.cell? ⟨gb642, 0, none⟩ = some (.slice Ao30 t636.length co30) ∧ w'.cell? ⟨gb642, 1, none⟩ = some (.slice Ao33 t639.length co33) ∧ w'.cell? ⟨gb623, 0, none⟩ = some (.slice A0_0 l0_0.length c0_0) ∧ w'.cell? ⟨gb623, 1, none⟩ = some (.slice A0_1 l0_1.length c0_1)) ⟨(blk_cell BK642.out 0).trans rfl, (blk_cell BK642.out 1).trans rfl, (blk_cell BK623.out 0).trans rfl, (blk_cell BK623.out 1).trans rfl⟩ (fun hHeld => ?_)
             generalize wc.drew = w46 at HO_9 HO_643000 HO_643001 BK623 BK642 HB hHeld ⊢
             refine zl 0 46 hHeld ?_ (hy := by rintro w' ⟨s0, s1, s2, s3⟩; go_simp; with_reducible rfl)
             refine zl 1 47 hHeld ?_ (hy := by rintro w' ⟨s0, s1, s2, s3⟩; go_simp; with_reducible rfl)
             refine zh 2 48 Try.func36 #[.agg #[.slice A0_0 l0_0.length c0_0, .slice A0_1 l0_1.length c0_1]] (fun K hK => ?_)
             with_reducible refine (laws_toSpace.calls kj15 _ _ l0_0 _ _ l0_1 t648 t651 _ ?side1 ?side2 ?side3 ?side4 A40.out).mono ?_
             (case side1 => exact zC (Kd.C_below HR0_0.out HB.out))
             (case side2 => exact HC0_0.out)
             (case side3 => exact zC (Kd.C_below HR0_1.out HB.out))
             (case side4 => exact HC0_1.out)
             rintro e w47 ⟨v649, v652, rfl, ho0, ho1, hb⟩
             refine ⟨_, rfl, ?_⟩
             have HO650 := zM (Kd.S_lower (Kd.S_new' (Kd.S_new' ho0 (Kd.R_lt (zR HO_9.out))) (Kd.S_lt (by (with_reducible repeat (first | apply Kd.S_alloc | apply Kd.S_drewN | apply Kd.S_drew)); exact HO_643000.out))) (below_size zB))
             replace HO_9 := zM (Kd.R_below (zR HO_9.out) hb)
             replace HO_643000 := zM (Kd.S_elder' (by (with_reducible repeat (first | apply Kd.S_alloc | apply Kd.S_drewN | apply Kd.S_drew)); exact HO_643000.out) (Kd.S_base ho0) hb)
             have HO653 := zM (Kd.R_lower (Kd.R_new' ho1 (Kd.R_lt (zR HO_643001.out))) (below_size zB))
             replace HO_643001 := zM (Kd.R_elder' (zR HO_643001.out) (Kd.R_base ho1) hb)
             replace BK623 := zM (blk_below (g := gb623) (o := .cells #[.slice A0_0 l0_0.length c0_0, .slice A0_1 l0_1.length c0_1] 47 (0, 0)) (zK BK623.out) hb)
             replace BK642 := zM (blk_below (g := gb642) (o := .cells #[.slice Ao30 t636.length co30, .slice Ao33 t639.length co33] 50 (0, 0)) (zK BK642.out) hb)
             replace HB := zM (below_step zB hb)
             (try clear hb)
             (try clear hb2)
             (try clear hk)
             (try clear hi)
             (try clear ho0)
             (try clear ho1)
             obtain ⟨Ao48, co48, eo48⟩ := Kd.S_slice HO650.out
             (first | subst eo48 | (injection eo48 with f1_ f2_ f3_; have f4_ := f1_.symm; have f5_ := f3_.symm; clear f1_ f2_ f3_; subst f4_; subst f5_))
             obtain ⟨Ao49, co49, eo49⟩ := Kd.R_slice HO653.out
             (first | subst eo49 | (injection eo49 with f1_ f2_ f3_; have f4_ := f1_.symm; have f5_ := f3_.symm; clear f1_ f2_ f3_; subst f4_; subst f5_))
             refine hK.out _ _ ⟨(blk_cell BK642.out 0).trans rfl, (blk_cell BK642.out 1).trans rfl, (blk_cell BK623.out 0).trans rfl, (blk_cell BK623.out 1).trans rfl⟩ (fun hHeld => ?_)
             clear hK K
             refine zn 48 ?_
             refine zh 3 49 Try.func38 #[.agg #[.slice Ao30 t636.length co30, .slice Ao33 t639.length co33], .agg #[.slice Ao48 t648.length co48, .slice Ao49 t651.length co49]] (fun K hK => ?_)
             with_reducible refine (laws_eqSpace.calls kj15 _ _ t636 _ _ t639 _ _ t648 _ _ t651 true _ ?side1 ?side2 ?side3 ?side4 ?side5 ?side6 ?side7 ?side8 A41.out).mono ?_
             (case side1 => exact zC (Kd.S_reads' HO_643000.out).2.2)
             (case side2 => exact (Kd.S_reads' HO_643000.out).2.1)
             (case side3 => exact zC (Kd.R_reads' HO_643001.out).2.2)
             (case side4 => exact (Kd.R_reads' HO_643001.out).2.1)
             (case side5 => exact zC (Kd.S_reads' HO650.out).2.2)
             (case side6 => exact (Kd.S_reads' HO650.out).2.1)
             (case side7 => exact zC (Kd.R_reads' HO653.out).2.2)
             (case side8 => exact (Kd.R_reads' HO653.out).2.1)
             rintro e w50 ⟨rfl, hb⟩
             refine ⟨_, rfl, ?_⟩
             replace HO_9 := zM (Kd.R_below (zR HO_9.out) hb)
             replace HO_643000 := zM (Kd.S_below (by (with_reducible repeat (first | apply Kd.S_alloc | apply Kd.S_drewN | apply Kd.S_drew)); exact HO_643000.out) hb)
             replace HO_643001 := zM (Kd.R_below (zR HO_643001.out) hb)
             replace HO650 := zM (Kd.S_below (by (with_reducible repeat (first | apply Kd.S_alloc | apply Kd.S_drewN | apply Kd.S_drew)); exact HO650.out) hb)
             replace HO653 := zM (Kd.R_below (zR HO653.out) hb)
             replace BK623 := zM (blk_below (g := gb623) (o := .cells #[.slice A0_0 l0_0.length c0_0, .slice A0_1 l0_1.length c0_1] 47 (0, 0)) (zK BK623.out) hb)
             replace BK642 := zM (blk_below (g := gb642) (o := .cells #[.slice Ao30 t636.length co30, .slice Ao33 t639.length co33] 50 (0, 0)) (zK BK642.out) hb)
             replace HB := zM (below_step zB hb)
             (try clear hb)
             (try clear hb2)
             (try clear hk)
             (try clear hi)
             refine hK.out _ _ ⟨(blk_cell BK642.out 0).trans rfl, (blk_cell BK642.out 1).trans rfl, (blk_cell BK623.out 0).trans rfl, (blk_cell BK623.out 1).trans rfl⟩ (fun hHeld => ?_)
             clear hK K
             refine zn 49 ?_
             refine zq 4 50 ?_
             refine zx ?_
             try go_wp2_with (first | ((with_reducible refine gate_callee (f := 25) rfl ?_); refine zc 53 Try.func25 #[.slice A1 l1.length c1] ?_; (with_reducible refine (laws_toIntS.calls kj15 _ _ l1 t655 _ ?side1 ?side2 A43.out).mono ?_); (case side1 => exact zC (Kd.C_below HR1.out HB.out)); (case side2 => exact HC1.out); rintro e w51 ⟨v656, rfl, ho0, hb⟩; refine ⟨_, rfl, ?_⟩; replace HO_643000 := zM (Kd.S_elder' (by (with_reducible repeat (first | apply Kd.S_alloc | apply Kd.S_drewN | apply Kd.S_drew)); exact HO_643000.out) (Kd.R_base ho0) hb); replace HO_643001 := zM (Kd.R_below (zR HO_643001.out) hb); replace HO650 := zM (Kd.S_elder' (by (with_reducible repeat (first | apply Kd.S_alloc | apply Kd.S_drewN | apply Kd.S_drew)); exact HO650.out) (Kd.R_base ho0) hb); replace HO653 := zM (Kd.R_below (zR HO653.out) hb); have HO657 := zM (Kd.R_lower (Kd.R_new' ho0 (Kd.R_lt (zR HO_9.out))) (below_size zB)); replace HO_9 := zM (Kd.R_elder' (zR HO_9.out) (Kd.R_base ho0) hb); replace BK623 := zM (blk_below (g := gb623) (o := .cells #[.slice A0_0 l0_0.length c0_0, .slice A0_1 l0_1.length c0_1] 47 (0, 0)) (zK BK623.out) hb); replace BK642 := zM (blk_below (g := gb642) (o := .cells #[.slice Ao30 t636.length co30, .slice Ao33 t639.length co33] 50 (0, 0)) (zK BK642.out) hb); replace HB := zM (below_step zB hb); (try clear hb); (try clear hb2); (try clear hk); (try clear hi); (try clear ho0); obtain ⟨Ao52, co52, eo52⟩ := Kd.R_slice HO657.out; subst eo52) | ((with_reducible refine gate_callee (f := 27) rfl ?_); refine zc 54 Try.func27 #[.slice Ao36 t643.length co36, .slice Ao52 t655.length co52] ?_; (with_reducible refine (laws_eqIntS.calls kj15 _ _ t643 _ _ t655 true _ ?side1 ?side2 ?side3 ?side4 A44.out).mono ?_); (case side1 => exact zC (Kd.R_reads' HO_9.out).2.2); (case side2 => exact (Kd.R_reads' HO_9.out).2.1); (case side3 => exact zC (Kd.R_reads' HO657.out).2.2); (case side4 => exact (Kd.R_reads' HO657.out).2.1); rintro e w' ⟨rfl, ⟨nd, rfl⟩⟩; refine ⟨_, rfl, ?_⟩))
             go_ret
             exact ⟨by first | rfl | (simp [errW_none, errW_some] <;> rfl) | (simp [*, errW_none, errW_some] <;> rfl), zB⟩
           · replace c45 := Bool.eq_false_iff.mpr c45
             subst c45
             have H1 : (some false) = some r := by rw [if_neg (show ¬ (false = true) by decide)] at H; exact H
             clear H
             have H := H1
             clear H1
             obtain rfl := Option.some.inj H
             try go_wp2
             replace HO_9 := zM (Kd.R_drew HO_9.out)
             replace HO_643000 := zM (Kd.S_drew HO_643000.out)
             replace HO_643001 := zM (Kd.R_drew HO_643001.out)
             replace BK623 := zM (blk_drew BK623.out)
             replace BK642 := zM (blk_drew BK642.out)
             replace HB := zM (below_drew1 HB.out)
             refine zs (n := 5) (fun w' => w'.cell? ⟨gb642, 0, none⟩ = some (.slice Ao30 t636.length co30) ∧ w'.cell? ⟨gb642, 1, none⟩ = some (.slice Ao33 t639.length co33) ∧ w'.cell? ⟨gb623, 0, none⟩ = some (.slice A0_0 l0_0.length c0_0) ∧ w'.cell? ⟨gb623, 1, none⟩ = some (.slice A0_1 l0_1.length c0_1)) ⟨(blk_cell BK642.out 0).trans rfl, (blk_cell BK642.out 1).trans rfl, (blk_cell BK623.out 0).trans rfl, (blk_cell BK623.out 1).trans rfl⟩ (fun hHeld => ?_)
             generalize wc.drew = w53 at HO_9 HO_643000 HO_643001 BK623 BK642 HB hHeld ⊢
             refine zl 0 46 hHeld ?_ (hy := by rintro w' ⟨s0, s1, s2, s3⟩; go_simp; with_reducible rfl)
             refine zl 1 47 hHeld ?_ (hy := by rintro w' ⟨s0, s1, s2, s3⟩; go_simp; with_reducible rfl)
             refine zh 2 48 Try.func36 #[.agg #[.slice A0_0 l0_0.length c0_0, .slice A0_1 l0_1.length c0_1]] (fun K hK => ?_)
             with_reducible refine (laws_toSpace.calls kj15 _ _ l0_0 _ _ l0_1 t648 t651 _ ?side1 ?side2 ?side3 ?side4 A40.out).mono ?_
             (case side1 => exact zC (Kd.C_below HR0_0.out HB.out))
             (case side2 => exact HC0_0.out)
             (case side3 => exact zC (Kd.C_below HR0_1.out HB.out))
             (case side4 => exact HC0_1.out)
             rintro e w54 ⟨v649, v652, rfl, ho0, ho1, hb⟩
             refine ⟨_, rfl, ?_⟩
             have HO650 := zM (Kd.S_lower (Kd.S_new' (Kd.S_new' ho0 (Kd.R_lt (zR HO_9.out))) (Kd.S_lt (by (with_reducible repeat (first | apply Kd.S_alloc | apply Kd.S_drewN | apply Kd.S_drew)); exact HO_643000.out))) (below_size zB))
             replace HO_9 := zM (Kd.R_below (zR HO_9.out) hb)
             replace HO_643000 := zM (Kd.S_elder' (by (with_reducible repeat (first | apply Kd.S_alloc | apply Kd.S_drewN | apply Kd.S_drew)); exact HO_643000.out) (Kd.S_base ho0) hb)
             have HO653 := zM (Kd.R_lower (Kd.R_new' ho1 (Kd.R_lt (zR HO_643001.out))) (below_size zB))
             replace HO_643001 := zM (Kd.R_elder' (zR HO_643001.out) (Kd.R_base ho1) hb)
             replace BK623 := zM (blk_below (g := gb623) (o := .cells #[.slice A0_0 l0_0.length c0_0, .slice A0_1 l0_1.length c0_1] 47 (0, 0)) (zK BK623.out) hb)
             replace BK642 := zM (blk_below (g := gb642) (o := .cells #[.slice Ao30 t636.length co30, .slice Ao33 t639.length co33] 50 (0, 0)) (zK BK642.out) hb)
             replace HB := zM (below_step zB hb)
             (try clear hb)
             (try clear hb2)
             (try clear hk)
             (try clear hi)
             (try clear ho0)
             (try clear ho1)
             obtain ⟨Ao55, co55, eo55⟩ := Kd.S_slice HO650.out
             (first | subst eo55 | (injection eo55 with f1_ f2_ f3_; have f4_ := f1_.symm; have f5_ := f3_.symm; clear f1_ f2_ f3_; subst f4_; subst f5_))
             obtain ⟨Ao56, co56, eo56⟩ := Kd.R_slice HO653.out
             (first | subst eo56 | (injection eo56 with f1_ f2_ f3_; have f4_ := f1_.symm; have f5_ := f3_.symm; clear f1_ f2_ f3_; subst f4_; subst f5_))
             refine hK.out _ _ ⟨(blk_cell BK642.out 0).trans rfl, (blk_cell BK642.out 1).trans rfl, (blk_cell BK623.out 0).trans rfl, (blk_cell BK623.out 1).trans rfl⟩ (fun hHeld => ?_)
             clear hK K
             refine zn 48 ?_
             refine zh 3 49 Try.func38 #[.agg #[.slice Ao30 t636.length co30, .slice Ao33 t639.length co33], .agg #[.slice Ao55 t648.length co55, .slice Ao56 t651.length co56]] (fun K hK => ?_)
             with_reducible refine (laws_eqSpace.calls kj15 _ _ t636 _ _ t639 _ _ t648 _ _ t651 true _ ?side1 ?side2 ?side3 ?side4 ?side5 ?side6 ?side7 ?side8 A41.out).mono ?_
             (case side1 => exact zC (Kd.S_reads' HO_643000.out).2.2)
             (case side2 => exact (Kd.S_reads' HO_643000.out).2.1)
             (case side3 => exact zC (Kd.R_reads' HO_643001.out).2.2)
             (case side4 => exact (Kd.R_reads' HO_643001.out).2.1)
             (case side5 => exact zC (Kd.S_reads' HO650.out).2.2)
             (case side6 => exact (Kd.S_reads' HO650.out).2.1)
             (case side7 => exact zC (Kd.R_reads' HO653.out).2.2)
             (case side8 => exact (Kd.R_reads' HO653.out).2.1)
             rintro e w57 ⟨rfl, hb⟩
             refine ⟨_, rfl, ?_⟩
             replace HO_9 := zM (Kd.R_below (zR HO_9.out) hb)
             replace HO_643000 := zM (Kd.S_below (by (with_reducible repeat (first | apply Kd.S_alloc | apply Kd.S_drewN | apply Kd.S_drew)); exact HO_643000.out) hb)
             replace HO_643001 := zM (Kd.R_below (zR HO_643001.out) hb)
             replace HO650 := zM (Kd.S_below (by (with_reducible repeat (first | apply Kd.S_alloc | apply Kd.S_drewN | apply Kd.S_drew)); exact HO650.out) hb)
             replace HO653 := zM (Kd.R_below (zR HO653.out) hb)
             replace BK623 := zM (blk_below (g := gb623) (o := .cells #[.slice A0_0 l0_0.length c0_0, .slice A0_1 l0_1.length c0_1] 47 (0, 0)) (zK BK623.out) hb)
             replace BK642 := zM (blk_below (g := gb642) (o := .cells #[.slice Ao30 t636.length co30, .slice Ao33 t639.length co33] 50 (0, 0)) (zK BK642.out) hb)
             replace HB := zM (below_step zB hb)
             (try clear hb)
             (try clear hb2)
             (try clear hk)
             (try clear hi)
             refine hK.out _ _ ⟨(blk_cell BK642.out 0).trans rfl, (blk_cell BK642.out 1).trans rfl, (blk_cell BK623.out 0).trans rfl, (blk_cell BK623.out 1).trans rfl⟩ (fun hHeld => ?_)
             clear hK K
             refine zn 49 ?_
             refine zq 4 50 ?_
             refine zx ?_
             try go_wp2_with (first | ((with_reducible refine gate_callee (f := 25) rfl ?_); refine zc 53 Try.func25 #[.slice A1 l1.length c1] ?_; (with_reducible refine (laws_toIntS.calls kj15 _ _ l1 t655 _ ?side1 ?side2 A43.out).mono ?_); (case side1 => exact zC (Kd.C_below HR1.out HB.out)); (case side2 => exact HC1.out); rintro e w58 ⟨v656, rfl, ho0, hb⟩; refine ⟨_, rfl, ?_⟩; replace HO_643000 := zM (Kd.S_elder' (by (with_reducible repeat (first | apply Kd.S_alloc | apply Kd.S_drewN | apply Kd.S_drew)); exact HO_643000.out) (Kd.R_base ho0) hb); replace HO_643001 := zM (Kd.R_below (zR HO_643001.out) hb); replace HO650 := zM (Kd.S_elder' (by (with_reducible repeat (first | apply Kd.S_alloc | apply Kd.S_drewN | apply Kd.S_drew)); exact HO650.out) (Kd.R_base ho0) hb); replace HO653 := zM (Kd.R_below (zR HO653.out) hb); have HO657 := zM (Kd.R_lower (Kd.R_new' ho0 (Kd.R_lt (zR HO_9.out))) (below_size zB)); replace HO_9 := zM (Kd.R_elder' (zR HO_9.out) (Kd.R_base ho0) hb); replace BK623 := zM (blk_below (g := gb623) (o := .cells #[.slice A0_0 l0_0.length c0_0, .slice A0_1 l0_1.length c0_1] 47 (0, 0)) (zK BK623.out) hb); replace BK642 := zM (blk_below (g := gb642) (o := .cells #[.slice Ao30 t636.length co30, .slice Ao33 t639.length co33] 50 (0, 0)) (zK BK642.out) hb); replace HB := zM (below_step zB hb); (try clear hb); (try clear hb2); (try clear hk); (try clear hi); (try clear ho0); obtain ⟨Ao59, co59, eo59⟩ := Kd.R_slice HO657.out; subst eo59) | ((with_reducible refine gate_callee (f := 27) rfl ?_); refine zc 54 Try.func27 #[.slice Ao36 t643.length co36, .slice Ao59 t655.length co59] ?_; (with_reducible refine (laws_eqIntS.calls kj15 _ _ t643 _ _ t655 false _ ?side1 ?side2 ?side3 ?side4 A44.out).mono ?_); (case side1 => exact zC (Kd.R_reads' HO_9.out).2.2); (case side2 => exact (Kd.R_reads' HO_9.out).2.1); (case side3 => exact zC (Kd.R_reads' HO657.out).2.2); (case side4 => exact (Kd.R_reads' HO657.out).2.1); rintro e w' ⟨rfl, ⟨nd, rfl⟩⟩; refine ⟨_, rfl, ?_⟩))
             go_ret
             exact ⟨by first | rfl | (simp [errW_none, errW_some] <;> rfl) | (simp [*, errW_none, errW_some] <;> rfl), zB⟩
         · replace c42 := Bool.eq_false_iff.mpr c42
           subst c42
           have H1 : (some false) = some r := by rw [if_neg (show ¬ (false = true) by decide)] at H; exact H
           clear H
           have H := H1
           clear H1
           obtain rfl := Option.some.inj H
           try go_wp2
           replace HO_9 := zM (Kd.R_drew HO_9.out)
           replace HO_643000 := zM (Kd.S_drew HO_643000.out)
           replace HO_643001 := zM (Kd.R_drew HO_643001.out)
           replace BK623 := zM (blk_drew BK623.out)
           replace BK642 := zM (blk_drew BK642.out)
           replace HB := zM (below_drew1 HB.out)
           refine zs (n := 5) (fun w' => w'.cell? ⟨gb642, 0, none⟩ = some (.slice Ao30 t636.length co30) ∧ w'.cell? ⟨gb642, 1, none⟩ = some (.slice Ao33 t639.length co33) ∧ w'.cell? ⟨gb623, 0, none⟩ = some (.slice A0_0 l0_0.length c0_0) ∧ w'.cell? ⟨gb623, 1, none⟩ = some (.slice A0_1 l0_1.length c0_1)) ⟨(blk_cell BK642.out 0).trans rfl, (blk_cell BK642.out 1).trans rfl, (blk_cell BK623.out 0).trans rfl, (blk_cell BK623.out 1).trans rfl⟩ (fun hHeld => ?_)
           generalize wc.drew = w60 at HO_9 HO_643000 HO_643001 BK623 BK642 HB hHeld ⊢
           refine zl 0 46 hHeld ?_ (hy := by rintro w' ⟨s0, s1, s2, s3⟩; go_simp; with_reducible rfl)
           refine zl 1 47 hHeld ?_ (hy := by rintro w' ⟨s0, s1, s2, s3⟩; go_simp; with_reducible rfl)
           refine zh 2 48 Try.func36 #[.agg #[.slice A0_0 l0_0.length c0_0, .slice A0_1 l0_1.length c0_1]] (fun K hK => ?_)
           with_reducible refine (laws_toSpace.calls kj15 _ _ l0_0 _ _ l0_1 t648 t651 _ ?side1 ?side2 ?side3 ?side4 A40.out).mono ?_
           (case side1 => exact zC (Kd.C_below HR0_0.out HB.out))
           (case side2 => exact HC0_0.out)
           (case side3 => exact zC (Kd.C_below HR0_1.out HB.out))
           (case side4 => exact HC0_1.out)
           rintro e w61 ⟨v649, v652, rfl, ho0, ho1, hb⟩
           refine ⟨_, rfl, ?_⟩
           have HO650 := zM (Kd.S_lower (Kd.S_new' (Kd.S_new' ho0 (Kd.R_lt (zR HO_9.out))) (Kd.S_lt (by (with_reducible repeat (first | apply Kd.S_alloc | apply Kd.S_drewN | apply Kd.S_drew)); exact HO_643000.out))) (below_size zB))
           replace HO_9 := zM (Kd.R_below (zR HO_9.out) hb)
           replace HO_643000 := zM (Kd.S_elder' (by (with_reducible repeat (first | apply Kd.S_alloc | apply Kd.S_drewN | apply Kd.S_drew)); exact HO_643000.out) (Kd.S_base ho0) hb)
           have HO653 := zM (Kd.R_lower (Kd.R_new' ho1 (Kd.R_lt (zR HO_643001.out))) (below_size zB))
           replace HO_643001 := zM (Kd.R_elder' (zR HO_643001.out) (Kd.R_base ho1) hb)
           replace BK623 := zM (blk_below (g := gb623) (o := .cells #[.slice A0_0 l0_0.length c0_0, .slice A0_1 l0_1.length c0_1] 47 (0, 0)) (zK BK623.out) hb)
           replace BK642 := zM (blk_below (g := gb642) (o := .cells #[.slice Ao30 t636.length co30, .slice Ao33 t639.length co33] 50 (0, 0)) (zK BK642.out) hb)
           replace HB := zM (below_step zB hb)
           (try clear hb)
           (try clear hb2)
           (try clear hk)
           (try clear hi)
           (try clear ho0)
           (try clear ho1)
           obtain ⟨Ao62, co62, eo62⟩ := Kd.S_slice HO650.out
           (first | subst eo62 | (injection eo62 with f1_ f2_ f3_; have f4_ := f1_.symm; have f5_ := f3_.symm; clear f1_ f2_ f3_; subst f4_; subst f5_))
           obtain ⟨Ao63, co63, eo63⟩ := Kd.R_slice HO653.out
           (first | subst eo63 | (injection eo63 with f1_ f2_ f3_; have f4_ := f1_.symm; have f5_ := f3_.symm; clear f1_ f2_ f3_; subst f4_; subst f5_))
           refine hK.out _ _ ⟨(blk_cell BK642.out 0).trans rfl, (blk_cell BK642.out 1).trans rfl, (blk_cell BK623.out 0).trans rfl, (blk_cell BK623.out 1).trans rfl⟩ (fun hHeld => ?_)
           clear hK K
           refine zn 48 ?_
           refine zh 3 49 Try.func38 #[.agg #[.slice Ao30 t636.length co30, .slice Ao33 t639.length co33], .agg #[.slice Ao62 t648.length co62, .slice Ao63 t651.length co63]] (fun K hK => ?_)
           with_reducible refine (laws_eqSpace.calls kj15 _ _ t636 _ _ t639 _ _ t648 _ _ t651 false _ ?side1 ?side2 ?side3 ?side4 ?side5 ?side6 ?side7 ?side8 A41.out).mono ?_
           (case side1 => exact zC (Kd.S_reads' HO_643000.out).2.2)
           (case side2 => exact (Kd.S_reads' HO_643000.out).2.1)
           (case side3 => exact zC (Kd.R_reads' HO_643001.out).2.2)
           (case side4 => exact (Kd.R_reads' HO_643001.out).2.1)
           (case side5 => exact zC (Kd.S_reads' HO650.out).2.2)
           (case side6 => exact (Kd.S_reads' HO650.out).2.1)
           (case side7 => exact zC (Kd.R_reads' HO653.out).2.2)
           (case side8 => exact (Kd.R_reads' HO653.out).2.1)
           rintro e w64 ⟨rfl, hb⟩
           refine ⟨_, rfl, ?_⟩
           replace HO_9 := zM (Kd.R_below (zR HO_9.out) hb)
           replace HO_643000 := zM (Kd.S_below (by (with_reducible repeat (first | apply Kd.S_alloc | apply Kd.S_drewN | apply Kd.S_drew)); exact HO_643000.out) hb)
           replace HO_643001 := zM (Kd.R_below (zR HO_643001.out) hb)
           replace HO650 := zM (Kd.S_below (by (with_reducible repeat (first | apply Kd.S_alloc | apply Kd.S_drewN | apply Kd.S_drew)); exact HO650.out) hb)
           replace HO653 := zM (Kd.R_below (zR HO653.out) hb)
           replace BK623 := zM (blk_below (g := gb623) (o := .cells #[.slice A0_0 l0_0.length c0_0, .slice A0_1 l0_1.length c0_1] 47 (0, 0)) (zK BK623.out) hb)
           replace BK642 := zM (blk_below (g := gb642) (o := .cells #[.slice Ao30 t636.length co30, .slice Ao33 t639.length co33] 50 (0, 0)) (zK BK642.out) hb)
           replace HB := zM (below_step zB hb)
           (try clear hb)
           (try clear hb2)
           (try clear hk)
           (try clear hi)
           refine hK.out _ _ ⟨(blk_cell BK642.out 0).trans rfl, (blk_cell BK642.out 1).trans rfl, (blk_cell BK623.out 0).trans rfl, (blk_cell BK623.out 1).trans rfl⟩ (fun hHeld => ?_)
           clear hK K
           refine zn 49 ?_
           refine zq 4 50 ?_
           refine zx ?_
           try go_wp2
           go_ret
           exact ⟨by first | rfl | (simp [errW_none, errW_some] <;> rfl) | (simp [*, errW_none, errW_some] <;> rfl), zB⟩

/-! ### spec_l2Place: function 82 -/
def spec_l2Place.f (k : Nat) (l0_0 : List (List Int)) (l0_1 : List (S68)) (a1 : Int) : Option (Bool) := (spec_l2Space.f k l0_0 l0_1).bind fun t660 => (if t660 = true then ((spec_l1In.f a1 0 (wrap64 ((l0_0.length : Int) - 1))).bind fun t661 => (some t661)) else (some false))
theorem spec_l2Place.mono : ∀ a0 a1 a2 k, LeO (spec_l2Place.f k a0 a1 a2) (spec_l2Place.f (k + 1) a0 a1 a2) := by
 intro a0 a1 a2 k
 unfold spec_l2Place.f
 repeat' first
  | (with_reducible exact spec_l2Space.mono _ _ _)
  | (with_reducible exact LeO.refl _)
  | (with_reducible exact LeO.none _)
  | (with_reducible refine LeO.ite ?_ ?_)
  | (with_reducible refine LeO.bind ?_ (fun _ => ?_))
  | exact spec_l2Space.mono _ _ _
  | exact LeO.none _
  | refine LeO.ite ?_ ?_
  | refine LeO.bind ?_ (fun _ => ?_)
set_option maxHeartbeats 8000000 in
set_option maxRecDepth 100000 in
theorem spec_l2Place.calls (k : Nat) (A0_0 : Option Addr) (c0_0 : Nat) (l0_0 : List (List Int)) (A0_1 : Option Addr) (c0_1 : Nat) (l0_1 : List (S68)) (a1 : Int) (r : Bool) (w : World) (hr0_0 : Kd.C (Kd.slice 3 (Kd.int .i64)) w A0_0 l0_0.length l0_0) (hc0_0 : l0_0.length ≤ c0_0) (hr0_1 : Kd.C k68 w A0_1 l0_1.length l0_1) (hc0_1 : l0_1.length ≤ c0_1) (h : spec_l2Place.f k l0_0 l0_1 a1 = some r) :
 Calls Try.prog 82 #[.agg #[.slice A0_0 l0_0.length c0_0, .slice A0_1 l0_1.length c0_1], .int .i64 a1] w fun e w' => e = .returned (.bool r) ∧ Below w.heap.size w w' := by
 have hu50 := Try.underlying50
 have HR0_0 := Aside0.mk hr0_0
 have HC0_0 := Aside0.mk hc0_0
 clear hr0_0 hc0_0
 have HR0_1 := Aside0.mk hr0_1
 have HC0_1 := Aside0.mk hc0_1
 clear hr0_1 hc0_1
 have HB := zM (Below.refl w.heap.size w)
 have H : ((spec_l2Space.f k l0_0 l0_1).bind fun t660 => (if t660 = true then ((spec_l1In.f a1 0 (wrap64 ((l0_0.length : Int) - 1))).bind fun t661 => (some t661)) else (some false))) = some r := h
 clear h
 replace H := Option.bind_eq_some_iff.mp H
 obtain ⟨t660, A30, H⟩ := H
 have A3 := Aside0.mk A30
 clear A30
 by_cases c4 : t660 = true
 · subst c4
   rw [if_pos rfl] at H
   replace H := Option.bind_eq_some_iff.mp H
   obtain ⟨t661, A50, H⟩ := H
   have A5 := Aside0.mk A50
   clear A50
   obtain rfl := Option.some.inj H
   go_enter Try.func82, Try.ntmps82
   go_wp2_with (first | ((with_reducible refine gate_dst (N := 2) rfl ?_); (try (refine gate_guard (by rfl) ?_; dsimp only)); refine zb (w := w) 2 #[.slice A0_0 l0_0.length c0_0, .slice A0_1 l0_1.length c0_1] 50 zB ?_; clear HB; intro gb659 w6 HB BK659 GW659; have GE659 := GW659; have hcz7_0 := zy BK659 0; have hcz7_1 := zy BK659 1; have hfz7_0 := blk_frozen BK659.out 0; have hfz7_1 := blk_frozen BK659.out 1) | ((with_reducible refine gate_callee (f := 73) rfl ?_); refine zc 6 Try.func73 #[.agg #[.slice A0_0 l0_0.length c0_0, .slice A0_1 l0_1.length c0_1]] ?_; (with_reducible refine (spec_l2Space.calls k _ _ l0_0 _ _ l0_1 true _ ?side1 ?side2 ?side3 ?side4 A3.out).mono ?_); (case side1 => exact zC (Kd.C_below HR0_0.out HB.out)); (case side2 => exact HC0_0.out); (case side3 => exact zC (Kd.C_below HR0_1.out HB.out)); (case side4 => exact HC0_1.out); rintro e w8 ⟨rfl, hb⟩; refine ⟨_, rfl, ?_⟩; replace BK659 := zM (blk_below (g := gb659) (o := .cells #[.slice A0_0 l0_0.length c0_0, .slice A0_1 l0_1.length c0_1] 50 (0, 0)) (zK BK659.out) hb); replace HB := zM (below_step zB hb); (try clear hb); (try clear hb2); (try clear hk); (try clear hi); have hcz9_0 := zy BK659 0; have hcz9_1 := zy BK659 1; have hfz9_0 := blk_frozen BK659.out 0; have hfz9_1 := blk_frozen BK659.out 1) | (go_at_call 63; (with_reducible refine (spec_l1In.calls a1 0 (wrap64 ((l0_0.length : Int) - 1)) t661 _ A5.out).mono ?_); rintro e w' ⟨rfl, ⟨nd, rfl⟩⟩))
   go_ret
   exact ⟨by first | rfl | (simp [errW_none, errW_some] <;> rfl) | (simp [*, errW_none, errW_some] <;> rfl), zB⟩
 · replace c4 := Bool.eq_false_iff.mpr c4
   subst c4
   have H1 : (some false) = some r := by rw [if_neg (show ¬ (false = true) by decide)] at H; exact H
   clear H
   have H := H1
   clear H1
   obtain rfl := Option.some.inj H
   go_enter Try.func82, Try.ntmps82
   go_wp2_with (first | ((with_reducible refine gate_dst (N := 2) rfl ?_); (try (refine gate_guard (by rfl) ?_; dsimp only)); refine zb (w := w) 2 #[.slice A0_0 l0_0.length c0_0, .slice A0_1 l0_1.length c0_1] 50 zB ?_; clear HB; intro gb659 w10 HB BK659 GW659; have GE659 := GW659; have hcz11_0 := zy BK659 0; have hcz11_1 := zy BK659 1; have hfz11_0 := blk_frozen BK659.out 0; have hfz11_1 := blk_frozen BK659.out 1) | ((with_reducible refine gate_callee (f := 73) rfl ?_); refine zc 6 Try.func73 #[.agg #[.slice A0_0 l0_0.length c0_0, .slice A0_1 l0_1.length c0_1]] ?_; (with_reducible refine (spec_l2Space.calls k _ _ l0_0 _ _ l0_1 false _ ?side1 ?side2 ?side3 ?side4 A3.out).mono ?_); (case side1 => exact zC (Kd.C_below HR0_0.out HB.out)); (case side2 => exact HC0_0.out); (case side3 => exact zC (Kd.C_below HR0_1.out HB.out)); (case side4 => exact HC0_1.out); rintro e w12 ⟨rfl, hb⟩; refine ⟨_, rfl, ?_⟩; replace BK659 := zM (blk_below (g := gb659) (o := .cells #[.slice A0_0 l0_0.length c0_0, .slice A0_1 l0_1.length c0_1] 50 (0, 0)) (zK BK659.out) hb); replace HB := zM (below_step zB hb); (try clear hb); (try clear hb2); (try clear hk); (try clear hi)))
   go_ret
   exact ⟨by first | rfl | (simp [errW_none, errW_some] <;> rfl) | (simp [*, errW_none, errW_some] <;> rfl), zB⟩

end Go.Proofs.Ytpbngmkhpcgpkaa.P
