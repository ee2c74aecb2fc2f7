-- Written by a program of this session (the kit's print, turned: wip/print/patch.py) out of the translation. Not trusted: Lean checks it.
import Derived.Test.YtpbngmkhpcgpkaaPx0
import Derived.Test.YtpbngmkhpcgpkaaPx16
import Derived.Test.YtpbngmkhpcgpkaaPx17
import Derived.Test.YtpbngmkhpcgpkaaPx23
import Derived.Test.YtpbngmkhpcgpkaaPx24
import Derived.Test.YtpbngmkhpcgpkaaPx26
import Derived.Test.YtpbngmkhpcgpkaaPx27
import Derived.Test.YtpbngmkhpcgpkaaExtG
import Derived.Test.YtpbngmkhpcgpkaaExtW
namespace Go.Proofs.Ytpbngmkhpcgpkaa.P
open Go.RowKit Go.Proofs.YtpbngmkhpcgpkaaW.PrintWords Go.Proofs.YtpbngmkhpcgpkaaW.PrintLast Go.Proofs.YtpbngmkhpcgpkaaW.PrintMore
attribute [local go_sem] max2_int min2_int max_two min_two max_three min_three max_four min_four   -- for this text's walks alone
set_option linter.unusedVariables false
set_option linter.unusedSimpArgs false

/-! ### impl_AreKept: function 40 -/
def impl_AreKept.f (k : Nat) (l0_0 : List (List Int)) (l0_1 : List (S68)) (l1 : List Int) : Option (Bool × Bool) := (impl_IsSpace.f k l0_0 l0_1).bind fun t577 => (if t577 = true then ((impl_Space_areValues.f l0_0 l0_1 l1).bind fun t578 => (if t578 = true then ((impl_Space_within.f l0_0 l0_1 l1 0).bind fun t579 => (some (t579, true))) else (some (false, false)))) else (some (false, false)))
theorem impl_AreKept.mono : ∀ a0 a1 a2 k, LeO (impl_AreKept.f k a0 a1 a2) (impl_AreKept.f (k + 1) a0 a1 a2) := by
 intro a0 a1 a2 k
 unfold impl_AreKept.f
 repeat' first
  | (with_reducible exact impl_IsSpace.mono _ _ _)
  | (with_reducible exact LeO.refl _)
  | (with_reducible exact LeO.none _)
  | (with_reducible refine LeO.ite ?_ ?_)
  | (with_reducible refine LeO.bind ?_ (fun _ => ?_))
  | exact impl_IsSpace.mono _ _ _
  | exact LeO.none _
  | refine LeO.ite ?_ ?_
  | refine LeO.bind ?_ (fun _ => ?_)
set_option maxHeartbeats 8000000 in
set_option maxRecDepth 100000 in
theorem impl_AreKept.calls (k : Nat) (A0_0 : Option Addr) (c0_0 : Nat) (l0_0 : List (List Int)) (A0_1 : Option Addr) (c0_1 : Nat) (l0_1 : List (S68)) (A1 : Option Addr) (c1 : Nat) (l1 : List Int) (r1 : Bool) (r2 : Bool) (w : World) (hr0_0 : Kd.C (Kd.slice 3 (Kd.int .i64)) w A0_0 l0_0.length l0_0) (hc0_0 : l0_0.length ≤ c0_0) (hr0_1 : Kd.C k68 w A0_1 l0_1.length l0_1) (hc0_1 : l0_1.length ≤ c0_1) (hr1 : Kd.C (Kd.int .i64) w A1 l1.length l1) (hc1 : l1.length ≤ c1) (h : impl_AreKept.f k l0_0 l0_1 l1 = some (r1, r2)) :
 Calls Try.prog 40 #[.agg #[.slice A0_0 l0_0.length c0_0, .slice A0_1 l0_1.length c0_1], .slice A1 l1.length c1] w fun e w' => e = .returned (.tuple #[.bool r1, .bool r2]) ∧ Below w.heap.size w w' := by
 have hu50 := Try.underlying50
 have HR0_0 := Aside0.mk hr0_0
 have HC0_0 := Aside0.mk hc0_0
 clear hr0_0 hc0_0
 have HR0_1 := Aside0.mk hr0_1
 have HC0_1 := Aside0.mk hc0_1
 clear hr0_1 hc0_1
 have HR1 := Aside0.mk hr1
 have HC1 := Aside0.mk hc1
 clear hr1 hc1
 have HB := zM (Below.refl w.heap.size w)
 have H : ((impl_IsSpace.f k l0_0 l0_1).bind fun t577 => (if t577 = true then ((impl_Space_areValues.f l0_0 l0_1 l1).bind fun t578 => (if t578 = true then ((impl_Space_within.f l0_0 l0_1 l1 0).bind fun t579 => (some (t579, true))) else (some (false, false)))) else (some (false, false)))) = some (r1, r2) := h
 clear h
 replace H := Option.bind_eq_some_iff.mp H
 obtain ⟨t577, A30, H⟩ := H
 replace H : (if t577 = true then ((impl_Space_areValues.f l0_0 l0_1 l1).bind fun t578 => (if t578 = true then ((impl_Space_within.f l0_0 l0_1 l1 0).bind fun t579 => (some (t579, true))) else (some (false, false)))) else (some (false, false))) = some (r1, r2) := H
 have A3 := Aside0.mk A30
 clear A30
 by_cases c4 : t577 = true
 · subst c4
   have H1 : ((impl_Space_areValues.f l0_0 l0_1 l1).bind fun t578 => (if t578 = true then ((impl_Space_within.f l0_0 l0_1 l1 0).bind fun t579 => (some (t579, true))) else (some (false, false)))) = some (r1, r2) := by rw [if_pos rfl] at H; exact H
   clear H
   have H := H1
   clear H1
   replace H := Option.bind_eq_some_iff.mp H
   obtain ⟨t578, A50, H⟩ := H
   replace H : (if t578 = true then ((impl_Space_within.f l0_0 l0_1 l1 0).bind fun t579 => (some (t579, true))) else (some (false, false))) = some (r1, r2) := H
   have A5 := Aside0.mk A50
   clear A50
   by_cases c6 : t578 = true
   · subst c6
     have H1 : ((impl_Space_within.f l0_0 l0_1 l1 0).bind fun t579 => (some (t579, true))) = some (r1, r2) := by rw [if_pos rfl] at H; exact H
     clear H
     have H := H1
     clear H1
     replace H := Option.bind_eq_some_iff.mp H
     obtain ⟨t579, A70, H⟩ := H
     replace H : (some (t579, true)) = some (r1, r2) := H
     have A7 := Aside0.mk A70
     clear A70
     simp only [Option.some.injEq, Prod.mk.injEq] at H
     obtain ⟨rfl, rfl⟩ := H
     go_enter Try.func40, Try.ntmps40
     go_wp2_with (first | ((with_reducible refine gate_dst (N := 2) rfl ?_); refine zb (w := w) 2 #[.slice A0_0 l0_0.length c0_0, .slice A0_1 l0_1.length c0_1] 50 zB ?_; clear HB; intro gb576 w8 HB BK576 GW576; have GE576 := GW576; have hcz9_0 := zy BK576 0; have hcz9_1 := zy BK576 1; have hfz9_0 := blk_frozen BK576.out 0; have hfz9_1 := blk_frozen BK576.out 1) | ((with_reducible refine gate_callee (f := 37) rfl ?_); refine zc 7 Try.func37 #[.agg #[.slice A0_0 l0_0.length c0_0, .slice A0_1 l0_1.length c0_1]] ?_; (with_reducible refine (impl_IsSpace.calls k _ _ l0_0 _ _ l0_1 true _ ?side1 ?side2 ?side3 ?side4 A3.out).mono ?_); (case side1 => exact zC (Kd.C_below HR0_0.out HB.out)); (case side2 => exact HC0_0.out); (case side3 => exact zC (Kd.C_below HR0_1.out HB.out)); (case side4 => exact HC0_1.out); rintro e w10 ⟨rfl, hb⟩; refine ⟨_, rfl, ?_⟩; replace BK576 := zM (blk_below (g := gb576) (o := .cells #[.slice A0_0 l0_0.length c0_0, .slice A0_1 l0_1.length c0_1] 50 (0, 0)) (zK BK576.out) hb); replace HB := zM (below_step zB hb); (try clear hb); (try clear hb2); (try clear hk); (try clear hi); have hcz11_0 := zy BK576 0; have hcz11_1 := zy BK576 1; have hfz11_0 := blk_frozen BK576.out 0; have hfz11_1 := blk_frozen BK576.out 1) | (go_at_call 80; (with_reducible refine (impl_Space_areValues.calls _ _ l0_0 _ _ l0_1 _ _ l1 true _ ?side1 ?side2 ?side3 ?side4 ?side5 ?side6 A5.out).mono ?_); (case side1 => exact zC (Kd.C_below HR0_0.out HB.out)); (case side2 => exact HC0_0.out); (case side3 => exact zC (Kd.C_below HR0_1.out HB.out)); (case side4 => exact HC0_1.out); (case side5 => exact zC (Kd.C_below HR1.out HB.out)); (case side6 => exact HC1.out); rintro e w12 ⟨rfl, hb⟩; replace BK576 := zM (blk_below (g := gb576) (o := .cells #[.slice A0_0 l0_0.length c0_0, .slice A0_1 l0_1.length c0_1] 50 (0, 0)) (zK BK576.out) hb); replace HB := zM (below_step zB hb); (try clear hb); (try clear hb2); (try clear hk); (try clear hi); have hcz13_0 := zy BK576 0; have hcz13_1 := zy BK576 1; have hfz13_0 := blk_frozen BK576.out 0; have hfz13_1 := blk_frozen BK576.out 1) | ((with_reducible refine gate_callee (f := 81) rfl ?_); refine zc 17 Try.func81 #[.agg #[.slice A0_0 l0_0.length c0_0, .slice A0_1 l0_1.length c0_1], .slice A1 l1.length c1, .int .i64 0] ?_; (with_reducible refine (impl_Space_within.calls _ _ l0_0 _ _ l0_1 _ _ l1 0 t579 _ ?side1 ?side2 ?side3 ?side4 ?side5 ?side6 A7.out).mono ?_); (case side1 => exact zC (Kd.C_below HR0_0.out HB.out)); (case side2 => exact HC0_0.out); (case side3 => exact zC (Kd.C_below HR0_1.out HB.out)); (case side4 => exact HC0_1.out); (case side5 => exact zC (Kd.C_below HR1.out HB.out)); (case side6 => exact HC1.out); rintro e w14 ⟨rfl, hb⟩; refine ⟨_, rfl, ?_⟩; replace BK576 := zM (blk_below (g := gb576) (o := .cells #[.slice A0_0 l0_0.length c0_0, .slice A0_1 l0_1.length c0_1] 50 (0, 0)) (zK BK576.out) hb); replace HB := zM (below_step zB hb); (try clear hb); (try clear hb2); (try clear hk); (try clear hi)))
     go_ret2
     exact ⟨by first | rfl | (simp [errW_none, errW_some] <;> rfl) | (simp [*, errW_none, errW_some] <;> rfl), zB⟩
   · replace c6 := Bool.eq_false_iff.mpr c6
     subst c6
     have H1 : (some (false, false)) = some (r1, r2) := by rw [if_neg (show ¬ (false = true) by decide)] at H; exact H
     clear H
     have H := H1
     clear H1
     simp only [Option.some.injEq, Prod.mk.injEq] at H
     obtain ⟨rfl, rfl⟩ := H
     go_enter Try.func40, Try.ntmps40
     go_wp2_with (first | ((with_reducible refine gate_dst (N := 2) rfl ?_); refine zb (w := w) 2 #[.slice A0_0 l0_0.length c0_0, .slice A0_1 l0_1.length c0_1] 50 zB ?_; clear HB; intro gb576 w15 HB BK576 GW576; have GE576 := GW576; have hcz16_0 := zy BK576 0; have hcz16_1 := zy BK576 1; have hfz16_0 := blk_frozen BK576.out 0; have hfz16_1 := blk_frozen BK576.out 1) | ((with_reducible refine gate_callee (f := 37) rfl ?_); refine zc 7 Try.func37 #[.agg #[.slice A0_0 l0_0.length c0_0, .slice A0_1 l0_1.length c0_1]] ?_; (with_reducible refine (impl_IsSpace.calls k _ _ l0_0 _ _ l0_1 true _ ?side1 ?side2 ?side3 ?side4 A3.out).mono ?_); (case side1 => exact zC (Kd.C_below HR0_0.out HB.out)); (case side2 => exact HC0_0.out); (case side3 => exact zC (Kd.C_below HR0_1.out HB.out)); (case side4 => exact HC0_1.out); rintro e w17 ⟨rfl, hb⟩; refine ⟨_, rfl, ?_⟩; replace BK576 := zM (blk_below (g := gb576) (o := .cells #[.slice A0_0 l0_0.length c0_0, .slice A0_1 l0_1.length c0_1] 50 (0, 0)) (zK BK576.out) hb); replace HB := zM (below_step zB hb); (try clear hb); (try clear hb2); (try clear hk); (try clear hi); have hcz18_0 := zy BK576 0; have hcz18_1 := zy BK576 1; have hfz18_0 := blk_frozen BK576.out 0; have hfz18_1 := blk_frozen BK576.out 1) | (go_at_call 80; (with_reducible refine (impl_Space_areValues.calls _ _ l0_0 _ _ l0_1 _ _ l1 false _ ?side1 ?side2 ?side3 ?side4 ?side5 ?side6 A5.out).mono ?_); (case side1 => exact zC (Kd.C_below HR0_0.out HB.out)); (case side2 => exact HC0_0.out); (case side3 => exact zC (Kd.C_below HR0_1.out HB.out)); (case side4 => exact HC0_1.out); (case side5 => exact zC (Kd.C_below HR1.out HB.out)); (case side6 => exact HC1.out); rintro e w19 ⟨rfl, hb⟩; replace BK576 := zM (blk_below (g := gb576) (o := .cells #[.slice A0_0 l0_0.length c0_0, .slice A0_1 l0_1.length c0_1] 50 (0, 0)) (zK BK576.out) hb); replace HB := zM (below_step zB hb); (try clear hb); (try clear hb2); (try clear hk); (try clear hi)))
     go_ret2
     exact ⟨by first | rfl | (simp [errW_none, errW_some] <;> rfl) | (simp [*, errW_none, errW_some] <;> rfl), zB⟩
 · replace c4 := Bool.eq_false_iff.mpr c4
   subst c4
   have H1 : (some (false, false)) = some (r1, r2) := by rw [if_neg (show ¬ (false = true) by decide)] at H; exact H
   clear H
   have H := H1
   clear H1
   simp only [Option.some.injEq, Prod.mk.injEq] at H
   obtain ⟨rfl, rfl⟩ := H
   go_enter Try.func40, Try.ntmps40
   go_wp2_with (first | ((with_reducible refine gate_dst (N := 2) rfl ?_); refine zb (w := w) 2 #[.slice A0_0 l0_0.length c0_0, .slice A0_1 l0_1.length c0_1] 50 zB ?_; clear HB; intro gb576 w20 HB BK576 GW576; have GE576 := GW576; have hcz21_0 := zy BK576 0; have hcz21_1 := zy BK576 1; have hfz21_0 := blk_frozen BK576.out 0; have hfz21_1 := blk_frozen BK576.out 1) | ((with_reducible refine gate_callee (f := 37) rfl ?_); refine zc 7 Try.func37 #[.agg #[.slice A0_0 l0_0.length c0_0, .slice A0_1 l0_1.length c0_1]] ?_; (with_reducible refine (impl_IsSpace.calls k _ _ l0_0 _ _ l0_1 false _ ?side1 ?side2 ?side3 ?side4 A3.out).mono ?_); (case side1 => exact zC (Kd.C_below HR0_0.out HB.out)); (case side2 => exact HC0_0.out); (case side3 => exact zC (Kd.C_below HR0_1.out HB.out)); (case side4 => exact HC0_1.out); rintro e w22 ⟨rfl, hb⟩; refine ⟨_, rfl, ?_⟩; replace BK576 := zM (blk_below (g := gb576) (o := .cells #[.slice A0_0 l0_0.length c0_0, .slice A0_1 l0_1.length c0_1] 50 (0, 0)) (zK BK576.out) hb); replace HB := zM (below_step zB hb); (try clear hb); (try clear hb2); (try clear hk); (try clear hi)))
   go_ret2
   exact ⟨by first | rfl | (simp [errW_none, errW_some] <;> rfl) | (simp [*, errW_none, errW_some] <;> rfl), zB⟩

/-! ### laws_FnExactAreKept: function 9 -/
def laws_FnExactAreKept.j0 : Nat → List Int → List Int → Bool → List (List Int) → List (S68) → List (List Int) → List (S68) → Option (Bool)
 | 0, _, _, _, _, _, _, _ => none
 | k + 1, x1, x9, x45, x581000, x581001, x600000, x600001 => if x45 = true then (some false) else ((laws_toSpace.f k x581000 x581001).bind fun bt605 => ((laws_eqSpace.f k x600000 x600001 bt605.1 bt605.2).bind fun t611 => (if t611 = true then ((laws_toIntS.f k x1).bind fun t612 => ((laws_eqIntS.f k x9 t612).bind fun t615 => (if t615 = true then (some true) else (some false)))) else (some false))))
def laws_FnExactAreKept.f (k : Nat) (l0_0 : List (List Int)) (l0_1 : List (S68)) (l1 : List Int) : Option (Bool) := if (l1.length : Int) > 1048576 then (some true) else ((laws_szSpace.f k l0_0 l0_1 1048576).bind fun t581 => (if t581 < 0 then (some true) else ((laws_toSpace.f k l0_0 l0_1).bind fun bt582 => ((laws_toIntS.f k l1).bind fun t588 => ((spec_AreKept.f k bt582.1 bt582.2 t588).bind fun bt591 => ((laws_toSpace.f k l0_0 l0_1).bind fun bt593 => ((laws_toIntS.f k l1).bind fun t600 => ((impl_AreKept.f k bt593.1 bt593.2 t600).bind fun bt603 => (if (bt603.1 != bt591.1) = true then (laws_FnExactAreKept.j0 k l1 t600 true l0_0 l0_1 bt593.1 bt593.2) else (laws_FnExactAreKept.j0 k l1 t600 (bt603.2 != bt591.2) l0_0 l0_1 bt593.1 bt593.2))))))))))
theorem laws_FnExactAreKept.mono_l : ∀ k, (∀ y0 y1 y2 y3 y4 y5 y6, LeO (laws_FnExactAreKept.j0 k y0 y1 y2 y3 y4 y5 y6) (laws_FnExactAreKept.j0 (k + 1) y0 y1 y2 y3 y4 y5 y6))
 | 0 => fun _ _ _ _ _ _ _ r h => by simp [laws_FnExactAreKept.j0] at h
 | k + 1 => by
  have ih0 := laws_FnExactAreKept.mono_l k
  · intro y0 y1 y2 y3 y4 y5 y6
    unfold laws_FnExactAreKept.j0
    repeat' first
    | (with_reducible exact ih0 _ _ _ _ _ _ _)
    | (with_reducible exact impl_AreKept.mono _ _ _ _)
    | (with_reducible exact laws_eqIntS.mono _ _ _)
    | (with_reducible exact laws_eqSpace.mono _ _ _ _ _)
    | (with_reducible exact laws_szSpace.mono _ _ _ _)
    | (with_reducible exact laws_toIntS.mono _ _)
    | (with_reducible exact laws_toSpace.mono _ _ _)
    | (with_reducible exact spec_AreKept.mono _ _ _ _)
    | (with_reducible exact LeO.refl _)
    | (with_reducible exact LeO.none _)
    | (with_reducible refine LeO.ite ?_ ?_)
    | (with_reducible refine LeO.bind ?_ (fun _ => ?_))
    | exact ih0 _ _ _ _ _ _ _
    | exact impl_AreKept.mono _ _ _ _
    | exact laws_eqIntS.mono _ _ _
    | exact laws_eqSpace.mono _ _ _ _ _
    | exact laws_szSpace.mono _ _ _ _
    | exact laws_toIntS.mono _ _
    | exact laws_toSpace.mono _ _ _
    | exact spec_AreKept.mono _ _ _ _
    | exact LeO.none _
    | refine LeO.ite ?_ ?_
    | refine LeO.bind ?_ (fun _ => ?_)
theorem laws_FnExactAreKept.mono : ∀ a0 a1 a2 k, LeO (laws_FnExactAreKept.f k a0 a1 a2) (laws_FnExactAreKept.f (k + 1) a0 a1 a2) := by
 intro a0 a1 a2 k
 have ih0 := laws_FnExactAreKept.mono_l k
 unfold laws_FnExactAreKept.f
 repeat' first
  | (with_reducible exact ih0 _ _ _ _ _ _ _)
  | (with_reducible exact impl_AreKept.mono _ _ _ _)
  | (with_reducible exact laws_eqIntS.mono _ _ _)
  | (with_reducible exact laws_eqSpace.mono _ _ _ _ _)
  | (with_reducible exact laws_szSpace.mono _ _ _ _)
  | (with_reducible exact laws_toIntS.mono _ _)
  | (with_reducible exact laws_toSpace.mono _ _ _)
  | (with_reducible exact spec_AreKept.mono _ _ _ _)
  | (with_reducible exact LeO.refl _)
  | (with_reducible exact LeO.none _)
  | (with_reducible refine LeO.ite ?_ ?_)
  | (with_reducible refine LeO.bind ?_ (fun _ => ?_))
  | exact ih0 _ _ _ _ _ _ _
  | exact impl_AreKept.mono _ _ _ _
  | exact laws_eqIntS.mono _ _ _
  | exact laws_eqSpace.mono _ _ _ _ _
  | exact laws_szSpace.mono _ _ _ _
  | exact laws_toIntS.mono _ _
  | exact laws_toSpace.mono _ _ _
  | exact spec_AreKept.mono _ _ _ _
  | exact LeO.none _
  | refine LeO.ite ?_ ?_
  | refine LeO.bind ?_ (fun _ => ?_)
set_option maxHeartbeats 8000000 in
set_option maxRecDepth 100000 in
theorem laws_FnExactAreKept.calls (k : Nat) (A0_0 : Option Addr) (c0_0 : Nat) (l0_0 : List (List Int)) (A0_1 : Option Addr) (c0_1 : Nat) (l0_1 : List (S68)) (A1 : Option Addr) (c1 : Nat) (l1 : List Int) (r : Bool) (w : World) (hr0_0 : Kd.C (Kd.slice 3 (Kd.int .i64)) w A0_0 l0_0.length l0_0) (hc0_0 : l0_0.length ≤ c0_0) (hr0_1 : Kd.C k68 w A0_1 l0_1.length l0_1) (hc0_1 : l0_1.length ≤ c0_1) (hr1 : Kd.C (Kd.int .i64) w A1 l1.length l1) (hc1 : l1.length ≤ c1) (h : laws_FnExactAreKept.f k l0_0 l0_1 l1 = some r) :
 Calls Try.prog 9 #[.agg #[.slice A0_0 l0_0.length c0_0, .slice A0_1 l0_1.length c0_1], .slice A1 l1.length c1] w fun e w' => e = .returned (.bool r) ∧ Below w.heap.size w w' := by
 have hu47 := Try.underlying47
 have hu50 := Try.underlying50
 have HR0_0 := Aside0.mk hr0_0
 have HC0_0 := Aside0.mk hc0_0
 clear hr0_0 hc0_0
 have HR0_1 := Aside0.mk hr0_1
 have HC0_1 := Aside0.mk hc0_1
 clear hr0_1 hc0_1
 have HR1 := Aside0.mk hr1
 have HC1 := Aside0.mk hc1
 clear hr1 hc1
 have HB := zM (Below.refl w.heap.size w)
 have H : (if (l1.length : Int) > 1048576 then (some true) else ((laws_szSpace.f k l0_0 l0_1 1048576).bind fun t581 => (if t581 < 0 then (some true) else ((laws_toSpace.f k l0_0 l0_1).bind fun bt582 => ((laws_toIntS.f k l1).bind fun t588 => ((spec_AreKept.f k bt582.1 bt582.2 t588).bind fun bt591 => ((laws_toSpace.f k l0_0 l0_1).bind fun bt593 => ((laws_toIntS.f k l1).bind fun t600 => ((impl_AreKept.f k bt593.1 bt593.2 t600).bind fun bt603 => (if (bt603.1 != bt591.1) = true then (laws_FnExactAreKept.j0 k l1 t600 true l0_0 l0_1 bt593.1 bt593.2) else (laws_FnExactAreKept.j0 k l1 t600 (bt603.2 != bt591.2) l0_0 l0_1 bt593.1 bt593.2))))))))))) = some r := h
 clear h
 by_cases c3 : (l1.length : Int) > 1048576
 · rw [if_pos c3] at H
   have c3b0 : decide (1048576 < (l1.length : Int)) = true := decide_eq_true c3
   have c3b1 : decide (1048576 < l1.length) = true := decide_eq_true (by omega)
   clear c3
   obtain rfl := Option.some.inj H
   go_enter Try.func9, Try.ntmps9
   go_wp2_with (first | ((with_reducible refine gate_dst (N := 2) rfl ?_); refine zb (w := w) 2 #[.slice A0_0 l0_0.length c0_0, .slice A0_1 l0_1.length c0_1] 47 zB ?_; clear HB; intro gb580 w4 HB BK580 GW580; have GE580 := GW580))
   go_ret
   exact ⟨by first | rfl | (simp [errW_none, errW_some] <;> rfl) | (simp [*, errW_none, errW_some] <;> rfl), zB⟩
 · rw [if_neg c3] at H
   have c3b0 : decide (1048576 < (l1.length : Int)) = false := decide_eq_false c3
   have c3b1 : decide (1048576 < l1.length) = false := decide_eq_false (by omega)
   clear c3
   replace H := Option.bind_eq_some_iff.mp H
   obtain ⟨t581, A50, H⟩ := H
   have A5 := Aside0.mk A50
   clear A50
   by_cases c6 : t581 < 0
   · rw [if_pos c6] at H
     have c6b0 := decide_eq_true c6
     clear c6
     obtain rfl := Option.some.inj H
     go_enter Try.func9, Try.ntmps9
     go_wp2_with (first | ((with_reducible refine gate_dst (N := 2) rfl ?_); refine zb (w := w) 2 #[.slice A0_0 l0_0.length c0_0, .slice A0_1 l0_1.length c0_1] 47 zB ?_; clear HB; intro gb580 w7 HB BK580 GW580; have GE580 := GW580; have hcz8_0 := zy BK580 0; have hcz8_1 := zy BK580 1; have hfz8_0 := blk_frozen BK580.out 0; have hfz8_1 := blk_frozen BK580.out 1) | ((with_reducible refine gate_callee (f := 34) rfl ?_); refine zc 17 Try.func34 #[.agg #[.slice A0_0 l0_0.length c0_0, .slice A0_1 l0_1.length c0_1], .int .i64 1048576] ?_; (with_reducible refine (laws_szSpace.calls k _ _ l0_0 _ _ l0_1 1048576 t581 _ ?side1 ?side2 ?side3 ?side4 A5.out).mono ?_); (case side1 => exact zC (Kd.C_below HR0_0.out HB.out)); (case side2 => exact HC0_0.out); (case side3 => exact zC (Kd.C_below HR0_1.out HB.out)); (case side4 => exact HC0_1.out); rintro e w9 ⟨rfl, hb⟩; refine ⟨_, rfl, ?_⟩; replace BK580 := zM (blk_below (g := gb580) (o := .cells #[.slice A0_0 l0_0.length c0_0, .slice A0_1 l0_1.length c0_1] 47 (0, 0)) (zK BK580.out) hb); replace HB := zM (below_step zB hb); (try clear hb); (try clear hb2); (try clear hk); (try clear hi)))
     go_ret
     exact ⟨by first | rfl | (simp [errW_none, errW_some] <;> rfl) | (simp [*, errW_none, errW_some] <;> rfl), zB⟩
   · rw [if_neg c6] at H
     have c6b0 : decide (t581 < 0) = false := decide_eq_false c6
     clear c6
     replace H := Option.bind_eq_some_iff.mp H
     obtain ⟨⟨t582, t585⟩, A100, H⟩ := H
     replace H : ((laws_toIntS.f k l1).bind fun t588 => ((spec_AreKept.f k t582 t585 t588).bind fun bt591 => ((laws_toSpace.f k l0_0 l0_1).bind fun bt593 => ((laws_toIntS.f k l1).bind fun t600 => ((impl_AreKept.f k bt593.1 bt593.2 t600).bind fun bt603 => (if (bt603.1 != bt591.1) = true then (laws_FnExactAreKept.j0 k l1 t600 true l0_0 l0_1 bt593.1 bt593.2) else (laws_FnExactAreKept.j0 k l1 t600 (bt603.2 != bt591.2) l0_0 l0_1 bt593.1 bt593.2))))))) = some r := H
     have A10 := Aside0.mk A100
     clear A100
     replace H := Option.bind_eq_some_iff.mp H
     obtain ⟨t588, A110, H⟩ := H
     have A11 := Aside0.mk A110
     clear A110
     replace H := Option.bind_eq_some_iff.mp H
     obtain ⟨⟨t591, t592⟩, A120, H⟩ := H
     replace H : ((laws_toSpace.f k l0_0 l0_1).bind fun bt593 => ((laws_toIntS.f k l1).bind fun t600 => ((impl_AreKept.f k bt593.1 bt593.2 t600).bind fun bt603 => (if (bt603.1 != t591) = true then (laws_FnExactAreKept.j0 k l1 t600 true l0_0 l0_1 bt593.1 bt593.2) else (laws_FnExactAreKept.j0 k l1 t600 (bt603.2 != t592) l0_0 l0_1 bt593.1 bt593.2))))) = some r := H
     have A12 := Aside0.mk A120
     clear A120
     replace H := Option.bind_eq_some_iff.mp H
     obtain ⟨⟨t593, t596⟩, A130, H⟩ := H
     replace H : ((laws_toIntS.f k l1).bind fun t600 => ((impl_AreKept.f k t593 t596 t600).bind fun bt603 => (if (bt603.1 != t591) = true then (laws_FnExactAreKept.j0 k l1 t600 true l0_0 l0_1 t593 t596) else (laws_FnExactAreKept.j0 k l1 t600 (bt603.2 != t592) l0_0 l0_1 t593 t596)))) = some r := H
     have A13 := Aside0.mk A130
     clear A130
     replace H := Option.bind_eq_some_iff.mp H
     obtain ⟨t600, A140, H⟩ := H
     have A14 := Aside0.mk A140
     clear A140
     replace H := Option.bind_eq_some_iff.mp H
     obtain ⟨⟨t603, t604⟩, A150, H⟩ := H
     replace H : (if (t603 != t591) = true then (laws_FnExactAreKept.j0 k l1 t600 true l0_0 l0_1 t593 t596) else (laws_FnExactAreKept.j0 k l1 t600 (t604 != t592) l0_0 l0_1 t593 t596)) = some r := H
     have A15 := Aside0.mk A150
     clear A150
     have HC16 := Aside0.mk H
     clear H
     go_enter Try.func9, Try.ntmps9
     go_upto_region 11 with (first | ((with_reducible refine gate_dst (N := 2) rfl ?_); refine zb (w := w) 2 #[.slice A0_0 l0_0.length c0_0, .slice A0_1 l0_1.length c0_1] 47 zB ?_; clear HB; intro gb580 w17 HB BK580 GW580; have GE580 := GW580; have hcz18_0 := zy BK580 0; have hcz18_1 := zy BK580 1; have hfz18_0 := blk_frozen BK580.out 0; have hfz18_1 := blk_frozen BK580.out 1) | ((with_reducible refine gate_callee (f := 34) rfl ?_); refine zc 17 Try.func34 #[.agg #[.slice A0_0 l0_0.length c0_0, .slice A0_1 l0_1.length c0_1], .int .i64 1048576] ?_; (with_reducible refine (laws_szSpace.calls k _ _ l0_0 _ _ l0_1 1048576 t581 _ ?side1 ?side2 ?side3 ?side4 A5.out).mono ?_); (case side1 => exact zC (Kd.C_below HR0_0.out HB.out)); (case side2 => exact HC0_0.out); (case side3 => exact zC (Kd.C_below HR0_1.out HB.out)); (case side4 => exact HC0_1.out); rintro e w19 ⟨rfl, hb⟩; refine ⟨_, rfl, ?_⟩; replace BK580 := zM (blk_below (g := gb580) (o := .cells #[.slice A0_0 l0_0.length c0_0, .slice A0_1 l0_1.length c0_1] 47 (0, 0)) (zK BK580.out) hb); replace HB := zM (below_step zB hb); (try clear hb); (try clear hb2); (try clear hk); (try clear hi); have hcz20_0 := zy BK580 0; have hcz20_1 := zy BK580 1; have hfz20_0 := blk_frozen BK580.out 0; have hfz20_1 := blk_frozen BK580.out 1) | ((with_reducible refine gate_callee (f := 36) rfl ?_); refine zc 22 Try.func36 #[.agg #[.slice A0_0 l0_0.length c0_0, .slice A0_1 l0_1.length c0_1]] ?_; (with_reducible refine (laws_toSpace.calls k _ _ l0_0 _ _ l0_1 t582 t585 _ ?side1 ?side2 ?side3 ?side4 A10.out).mono ?_); (case side1 => exact zC (Kd.C_below HR0_0.out HB.out)); (case side2 => exact HC0_0.out); (case side3 => exact zC (Kd.C_below HR0_1.out HB.out)); (case side4 => exact HC0_1.out); rintro e w21 ⟨v583, v586, rfl, ho0, ho1, hb⟩; refine ⟨_, rfl, ?_⟩; have HO584 := zM (Kd.S_lower ho0 (below_size zB)); have HO587 := zM (Kd.R_lower ho1 (below_size zB)); replace BK580 := zM (blk_below (g := gb580) (o := .cells #[.slice A0_0 l0_0.length c0_0, .slice A0_1 l0_1.length c0_1] 47 (0, 0)) (zK BK580.out) hb); replace HB := zM (below_step zB hb); (try clear hb); (try clear hb2); (try clear hk); (try clear hi); (try clear ho0); (try clear ho1)) | ((with_reducible refine gate_callee (f := 25) rfl ?_); refine zc 24 Try.func25 #[.slice A1 l1.length c1] ?_; (with_reducible refine (laws_toIntS.calls k _ _ l1 t588 _ ?side1 ?side2 A11.out).mono ?_); (case side1 => exact zC (Kd.C_below HR1.out HB.out)); (case side2 => exact HC1.out); rintro e w22 ⟨v589, rfl, ho0, hb⟩; refine ⟨_, rfl, ?_⟩; replace HO584 := zM (Kd.S_elder' (by (with_reducible repeat (first | apply Kd.S_alloc | apply Kd.S_drewN | apply Kd.S_drew)); exact HO584.out) (Kd.R_base ho0) hb); replace HO587 := zM (Kd.R_below (zR HO587.out) hb); have HO590 := zM (Kd.R_lower ho0 (below_size zB)); replace BK580 := zM (blk_below (g := gb580) (o := .cells #[.slice A0_0 l0_0.length c0_0, .slice A0_1 l0_1.length c0_1] 47 (0, 0)) (zK BK580.out) hb); replace HB := zM (below_step zB hb); (try clear hb); (try clear hb2); (try clear hk); (try clear hi); (try clear ho0); obtain ⟨Ao23, co23, eo23⟩ := Kd.S_slice HO584.out; subst eo23; obtain ⟨Ao24, co24, eo24⟩ := Kd.R_slice HO587.out; subst eo24; obtain ⟨Ao25, co25, eo25⟩ := Kd.R_slice HO590.out; subst eo25) | ((with_reducible refine gate_callee (f := 39) rfl ?_); refine zc 25 Try.func39 #[.agg #[.slice Ao23 t582.length co23, .slice Ao24 t585.length co24], .slice Ao25 t588.length co25] ?_; (with_reducible refine (spec_AreKept.calls k _ _ t582 _ _ t585 _ _ t588 t591 t592 _ ?side1 ?side2 ?side3 ?side4 ?side5 ?side6 A12.out).mono ?_); (case side1 => exact zC (Kd.S_reads' HO584.out).2.2); (case side2 => exact (Kd.S_reads' HO584.out).2.1); (case side3 => exact zC (Kd.R_reads' HO587.out).2.2); (case side4 => exact (Kd.R_reads' HO587.out).2.1); (case side5 => exact zC (Kd.R_reads' HO590.out).2.2); (case side6 => exact (Kd.R_reads' HO590.out).2.1); rintro e w26 ⟨rfl, hb⟩; refine ⟨_, rfl, ?_⟩; replace HO584 := zM (Kd.S_below (by (with_reducible repeat (first | apply Kd.S_alloc | apply Kd.S_drewN | apply Kd.S_drew)); exact HO584.out) hb); replace HO587 := zM (Kd.R_below (zR HO587.out) hb); replace HO590 := zM (Kd.R_below (zR HO590.out) hb); replace BK580 := zM (blk_below (g := gb580) (o := .cells #[.slice A0_0 l0_0.length c0_0, .slice A0_1 l0_1.length c0_1] 47 (0, 0)) (zK BK580.out) hb); replace HB := zM (below_step zB hb); (try clear hb); (try clear hb2); (try clear hk); (try clear hi); have hcz27_0 := zy BK580 0; have hcz27_1 := zy BK580 1; have hfz27_0 := blk_frozen BK580.out 0; have hfz27_1 := blk_frozen BK580.out 1) | ((with_reducible refine gate_callee (f := 36) rfl ?_); refine zc 29 Try.func36 #[.agg #[.slice A0_0 l0_0.length c0_0, .slice A0_1 l0_1.length c0_1]] ?_; (with_reducible refine (laws_toSpace.calls k _ _ l0_0 _ _ l0_1 t593 t596 _ ?side1 ?side2 ?side3 ?side4 A13.out).mono ?_); (case side1 => exact zC (Kd.C_below HR0_0.out HB.out)); (case side2 => exact HC0_0.out); (case side3 => exact zC (Kd.C_below HR0_1.out HB.out)); (case side4 => exact HC0_1.out); rintro e w28 ⟨v594, v597, rfl, ho0, ho1, hb⟩; refine ⟨_, rfl, ?_⟩; have HO595 := zM (Kd.S_lower (Kd.S_new' (Kd.S_new' ho0 (Kd.S_lt (by (with_reducible repeat (first | apply Kd.S_alloc | apply Kd.S_drewN | apply Kd.S_drew)); exact HO584.out))) (Kd.R_lt (zR HO590.out))) (below_size zB)); replace HO584 := zM (Kd.S_elder' (by (with_reducible repeat (first | apply Kd.S_alloc | apply Kd.S_drewN | apply Kd.S_drew)); exact HO584.out) (Kd.S_base ho0) hb); replace HO590 := zM (Kd.R_below (zR HO590.out) hb); have HO598 := zM (Kd.R_lower (Kd.R_new' ho1 (Kd.R_lt (zR HO587.out))) (below_size zB)); replace HO587 := zM (Kd.R_elder' (zR HO587.out) (Kd.R_base ho1) hb); replace BK580 := zM (blk_below (g := gb580) (o := .cells #[.slice A0_0 l0_0.length c0_0, .slice A0_1 l0_1.length c0_1] 47 (0, 0)) (zK BK580.out) hb); replace HB := zM (below_step zB hb); (try clear hb); (try clear hb2); (try clear hk); (try clear hi); (try clear ho0); (try clear ho1)) | ((with_reducible refine gate_dst (N := 8) rfl ?_); refine ze 8 #[.slice none 0 0, .slice none 0 0] 50 ?_; intro gb599 hg w29 hbox hb; replace HO584 := zM (Kd.S_below (by (with_reducible repeat (first | apply Kd.S_alloc | apply Kd.S_drewN | apply Kd.S_drew)); exact HO584.out) hb); replace HO587 := zM (Kd.R_below (zR HO587.out) hb); replace HO590 := zM (Kd.R_below (zR HO590.out) hb); replace HO595 := zM (Kd.S_below (by (with_reducible repeat (first | apply Kd.S_alloc | apply Kd.S_drewN | apply Kd.S_drew)); exact HO595.out) hb); replace HO598 := zM (Kd.R_below (zR HO598.out) hb); have BK599 := zM (hbox); have GW599 := zM ((by rw [hg]; exact (below_size zB) : w.heap.size ≤ gb599)); have GE599 := zM ((by rw [hg]; exact (below_size zB) : w.heap.size ≤ gb599)); replace HB := zM (below_step zB hb); have NB580_599 := zM ((by rw [hg]; exact Nat.ne_of_lt (blk_lt (g := gb580) (o := .cells #[.slice A0_0 l0_0.length c0_0, .slice A0_1 l0_1.length c0_1] 47 (0, 0)) (zK BK580.out)) : gb580 ≠ gb599)); have NB599_580 := zM ((by rw [hg]; exact Nat.ne_of_gt (blk_lt (g := gb580) (o := .cells #[.slice A0_0 l0_0.length c0_0, .slice A0_1 l0_1.length c0_1] 47 (0, 0)) (zK BK580.out)) : gb599 ≠ gb580)); replace BK580 := zM (blk_below (g := gb580) (o := .cells #[.slice A0_0 l0_0.length c0_0, .slice A0_1 l0_1.length c0_1] 47 (0, 0)) (zK BK580.out) hb); clear hb hbox hg; obtain ⟨Ao30, co30, eo30⟩ := Kd.S_slice HO595.out; subst eo30; have hnb31 := NB599_580.out; have hnc31 := NB580_599.out; have hcz32_0 := zy BK599 0; have hcz32_1 := zy BK599 1; have hfz32_0 := blk_frozen BK599.out 0; have hfz32_1 := blk_frozen BK599.out 1; obtain ⟨Ao33, co33, eo33⟩ := Kd.R_slice HO598.out; subst eo33) | ((with_reducible refine gate_callee (f := 25) rfl ?_); refine zc 31 Try.func25 #[.slice A1 l1.length c1] ?_; (with_reducible refine (laws_toIntS.calls k _ _ l1 t600 _ ?side1 ?side2 A14.out).mono ?_); (case side1 => exact Kd.C_below HR1.out zB); (case side2 => exact HC1.out); rintro e w34 ⟨v601, rfl, ho0, hb⟩; refine ⟨_, rfl, ?_⟩; replace HO584 := zM (Kd.S_elder' (by (with_reducible repeat (first | apply Kd.S_alloc | apply Kd.S_drewN | apply Kd.S_drew)); exact (Kd.S_mono (Kd.S_far (p := ⟨gb599, 1, none⟩) (Kd.S_far (p := ⟨gb599, 0, none⟩) (Kd.S_types HO584.out BK599.out (by decide)) (fun _ hk => hk.2) (.slice Ao30 t593.length co30)) (fun _ hk => hk.2) (.slice Ao33 t596.length co33)) (fun _ h_ => h_.1))) (Kd.R_base ho0) hb); replace HO587 := zM (Kd.R_below (by (with_reducible repeat (first | apply Kd.R_alloc | apply Kd.R_drewN | apply Kd.R_drew)); exact (Kd.R_mono (Kd.R_far (p := ⟨gb599, 1, none⟩) (Kd.R_far (p := ⟨gb599, 0, none⟩) (Kd.R_types HO587.out BK599.out (by decide)) (fun _ hk => hk.2) (.slice Ao30 t593.length co30)) (fun _ hk => hk.2) (.slice Ao33 t596.length co33)) (fun _ h_ => h_.1))) hb); replace HO595 := zM (Kd.S_elder' (by (with_reducible repeat (first | apply Kd.S_alloc | apply Kd.S_drewN | apply Kd.S_drew)); exact (Kd.S_mono (Kd.S_far (p := ⟨gb599, 1, none⟩) (Kd.S_far (p := ⟨gb599, 0, none⟩) (Kd.S_types HO595.out BK599.out (by decide)) (fun _ hk => hk.2) (.slice Ao30 t593.length co30)) (fun _ hk => hk.2) (.slice Ao33 t596.length co33)) (fun _ h_ => h_.1))) (Kd.R_base ho0) hb); replace HO598 := zM (Kd.R_below (by (with_reducible repeat (first | apply Kd.R_alloc | apply Kd.R_drewN | apply Kd.R_drew)); exact (Kd.R_mono (Kd.R_far (p := ⟨gb599, 1, none⟩) (Kd.R_far (p := ⟨gb599, 0, none⟩) (Kd.R_types HO598.out BK599.out (by decide)) (fun _ hk => hk.2) (.slice Ao30 t593.length co30)) (fun _ hk => hk.2) (.slice Ao33 t596.length co33)) (fun _ h_ => h_.1))) hb); have HO602 := zM (Kd.R_lower (Kd.R_new' ho0 (Kd.R_lt (by (with_reducible repeat (first | apply Kd.R_alloc | apply Kd.R_drewN | apply Kd.R_drew)); exact (Kd.R_mono (Kd.R_far (p := ⟨gb599, 1, none⟩) (Kd.R_far (p := ⟨gb599, 0, none⟩) (Kd.R_types HO590.out BK599.out (by decide)) (fun _ hk => hk.2) (.slice Ao30 t593.length co30)) (fun _ hk => hk.2) (.slice Ao33 t596.length co33)) (fun _ h_ => h_.1))))) (below_size zB)); replace HO590 := zM (Kd.R_elder' (by (with_reducible repeat (first | apply Kd.R_alloc | apply Kd.R_drewN | apply Kd.R_drew)); exact (Kd.R_mono (Kd.R_far (p := ⟨gb599, 1, none⟩) (Kd.R_far (p := ⟨gb599, 0, none⟩) (Kd.R_types HO590.out BK599.out (by decide)) (fun _ hk => hk.2) (.slice Ao30 t593.length co30)) (fun _ hk => hk.2) (.slice Ao33 t596.length co33)) (fun _ h_ => h_.1))) (Kd.R_base ho0) hb); replace BK580 := zM (blk_below (g := gb580) (o := .cells #[.slice A0_0 l0_0.length c0_0, .slice A0_1 l0_1.length c0_1] 47 (0, 0)) (by (with_reducible repeat (first | refine blk_drewN ?_ _ | refine blk_drew ?_ | refine blk_alloc ?_ _)); refine blk_far ?_ NB580_599.out _; (with_reducible repeat (first | refine blk_drewN ?_ _ | refine blk_drew ?_ | refine blk_alloc ?_ _)); refine blk_far ?_ NB580_599.out _; (with_reducible repeat (first | refine blk_drewN ?_ _ | refine blk_drew ?_ | refine blk_alloc ?_ _)); exact BK580.out) hb); replace BK599 := zM (blk_below (g := gb599) (o := .cells #[.slice Ao30 t593.length co30, .slice Ao33 t596.length co33] 50 (0, 0)) (by (with_reducible repeat (first | refine blk_drewN ?_ _ | refine blk_drew ?_ | refine blk_alloc ?_ _)); refine blk_put (cs := #[.slice Ao30 t593.length co30, .slice none 0 0]) ?_ 1 _ rfl; (with_reducible repeat (first | refine blk_drewN ?_ _ | refine blk_drew ?_ | refine blk_alloc ?_ _)); refine blk_put (cs := #[.slice none 0 0, .slice none 0 0]) ?_ 0 _ rfl; (with_reducible repeat (first | refine blk_drewN ?_ _ | refine blk_drew ?_ | refine blk_alloc ?_ _)); exact BK599.out) hb); replace HB := zM (below_step zB hb); (try clear hb); (try clear hb2); (try clear hk); (try clear hi); (try clear ho0); have hcz35_0 := zy BK599 0; have hcz35_1 := zy BK599 1; have hfz35_0 := blk_frozen BK599.out 0; have hfz35_1 := blk_frozen BK599.out 1; obtain ⟨Ao36, co36, eo36⟩ := Kd.R_slice HO602.out; subst eo36) | ((with_reducible refine gate_callee (f := 40) rfl ?_); refine zc 35 Try.func40 #[.agg #[.slice Ao30 t593.length co30, .slice Ao33 t596.length co33], .slice Ao36 t600.length co36] ?_; (with_reducible refine (impl_AreKept.calls k _ _ t593 _ _ t596 _ _ t600 t603 t604 _ ?side1 ?side2 ?side3 ?side4 ?side5 ?side6 A15.out).mono ?_); (case side1 => exact zC (Kd.S_reads' HO595.out).2.2); (case side2 => exact (Kd.S_reads' HO595.out).2.1); (case side3 => exact zC (Kd.R_reads' HO598.out).2.2); (case side4 => exact (Kd.R_reads' HO598.out).2.1); (case side5 => exact zC (Kd.R_reads' HO602.out).2.2); (case side6 => exact (Kd.R_reads' HO602.out).2.1); rintro e w37 ⟨rfl, hb⟩; refine ⟨_, rfl, ?_⟩; replace HO584 := zM (Kd.S_below (by (with_reducible repeat (first | apply Kd.S_alloc | apply Kd.S_drewN | apply Kd.S_drew)); exact HO584.out) hb); replace HO587 := zM (Kd.R_below (zR HO587.out) hb); replace HO590 := zM (Kd.R_below (zR HO590.out) hb); replace HO595 := zM (Kd.S_below (by (with_reducible repeat (first | apply Kd.S_alloc | apply Kd.S_drewN | apply Kd.S_drew)); exact HO595.out) hb); replace HO598 := zM (Kd.R_below (zR HO598.out) hb); replace HO602 := zM (Kd.R_below (zR HO602.out) hb); replace BK580 := zM (blk_below (g := gb580) (o := .cells #[.slice A0_0 l0_0.length c0_0, .slice A0_1 l0_1.length c0_1] 47 (0, 0)) (zK BK580.out) hb); replace BK599 := zM (blk_below (g := gb599) (o := .cells #[.slice Ao30 t593.length co30, .slice Ao33 t596.length co33] 50 (0, 0)) (zK BK599.out) hb); replace HB := zM (below_step zB hb); (try clear hb); (try clear hb2); (try clear hk); (try clear hi)))
     (try simp only [Act.put, List.setIfInBounds_toArray, List.set_cons_zero, List.set_cons_succ])
     go_cut [45] (fun v45 wc => ∃ (kq : Nat) (x45_15 : Bool), v45 = .bool x45_15 ∧ Aside0 (laws_FnExactAreKept.j0 kq l1 t600 x45_15 l0_0 l0_1 t593 t596 = some r) ∧ Aside0 (kq ≤ k) ∧ Aside0 (Kd.R (Kd.int .i64) 3 wc w.heap.size (fun _ => True) (.slice Ao36 t600.length co36) t600) ∧ Aside0 (Kd.S (Kd.slice 3 (Kd.int .i64)) 34 wc w.heap.size (fun k_ => some k_ ≠ ((.slice Ao36 t600.length co36) : Value).ownBlock) (.slice Ao30 t593.length co30) t593) ∧ Aside0 (Kd.R k68 68 wc w.heap.size (fun _ => True) (.slice Ao33 t596.length co33) t596) ∧ Aside0 (wc.heap[gb580]? = some (.cells #[(.slice A0_0 l0_0.length c0_0), (.slice A0_1 l0_1.length c0_1)] 47 (0, 0))) ∧ Aside0 (wc.heap[gb599]? = some (.cells #[(.slice Ao30 t593.length co30), (.slice Ao33 t596.length co33)] 50 (0, 0))) ∧ Aside0 (Below w.heap.size w wc))
     case first =>
      have H := HC16.out
      clear HC16
      by_cases c38 : (t603 != t591) = true
      · rw [if_pos c38] at H
        have c38b0 : (t603 != t591) = true := c38
        (try (have c38b1 : decide (t603 = t591) = false := by simpa using c38))
        (try (have c38b2 : (t603 == t591) = false := by simpa using c38))
        (try (have c38b3 : ¬ (t603 = t591) := by simpa using c38))
        clear c38
        (first | rw [c38b0] | (simp only [i64_w, i32_w]; rw [c38b0]) | skip)
        have H' := Aside0.mk H
        clear H
        go_wp2
        go_meet
        case rel => exact ⟨_, (true), (by first | rfl | (simp; done) | (simp [*]; done)), H', ⟨by first | omega | exact Nat.le_refl _⟩, ⟨by (with_reducible repeat (first | apply Kd.R_alloc | apply Kd.R_drewN | apply Kd.R_drew)); exact Kd.R_mono HO602.out (fun _ hk => trivial)⟩, ⟨by (with_reducible repeat (first | apply Kd.S_alloc | apply Kd.S_drewN | apply Kd.S_drew)); exact Kd.S_mono HO595.out (fun _ hk => hk.2)⟩, ⟨by (with_reducible repeat (first | apply Kd.R_alloc | apply Kd.R_drewN | apply Kd.R_drew)); exact Kd.R_mono HO598.out (fun _ hk => trivial)⟩, ⟨zK BK580.out⟩, ⟨zK BK599.out⟩, ⟨zB⟩⟩
      · rw [if_neg c38] at H
        have c38b0 : (t603 != t591) = false := by simpa using c38
        (try (have c38b1 : decide (t603 = t591) = true := by simpa using c38))
        (try (have c38b2 : (t603 == t591) = true := by simpa using c38))
        clear c38
        (first | rw [c38b0] | (simp only [i64_w, i32_w]; rw [c38b0]) | skip)
        have H' := Aside0.mk H
        clear H
        go_wp2
        go_meet
        case rel => exact ⟨_, ((t604 != t592)), (by first | rfl | (simp; done) | (simp [*]; done)), H', ⟨by first | omega | exact Nat.le_refl _⟩, ⟨by (with_reducible repeat (first | apply Kd.R_alloc | apply Kd.R_drewN | apply Kd.R_drew)); exact Kd.R_mono HO602.out (fun _ hk => trivial)⟩, ⟨by (with_reducible repeat (first | apply Kd.S_alloc | apply Kd.S_drewN | apply Kd.S_drew)); exact Kd.S_mono HO595.out (fun _ hk => hk.2)⟩, ⟨by (with_reducible repeat (first | apply Kd.R_alloc | apply Kd.R_drewN | apply Kd.R_drew)); exact Kd.R_mono HO598.out (fun _ hk => trivial)⟩, ⟨zK BK580.out⟩, ⟨zK BK599.out⟩, ⟨zB⟩⟩
     case rest =>
      clear HC16
      try clear c1
      try clear c2
      try clear p2
      try clear c3
      try clear c3b0
      try clear c3b1
      try clear c4
      try clear c6
      try clear c6b0
      try clear c9
      try clear c25
      try clear c31
      try clear c34
      try clear c36
      try clear c38
      try clear c38b0
      try clear c38b1
      try clear c38b2
      try clear hcz18_0
      try clear hcz18_1
      try clear hcz20_0
      try clear hcz20_1
      try clear hcz27_0
      try clear hcz27_1
      try clear hcz32_0
      try clear hcz32_1
      try clear hcz35_0
      try clear hcz35_1
      try clear hcz8_0
      try clear hcz8_1
      try clear hfz18_0
      try clear hfz18_1
      try clear hfz20_0
      try clear hfz20_1
      try clear hfz27_0
      try clear hfz27_1
      try clear hfz32_0
      try clear hfz32_1
      try clear hfz35_0
      try clear hfz35_1
      try clear hfz8_0
      try clear hfz8_1
      obtain ⟨kq, x45_15, rfl, HA, HJ15, HO_9, HO_600000, HO_600001, BK580, BK599, HB⟩ := hcut
      cases kq with
      | zero => exact absurd HA.out (by simp [laws_FnExactAreKept.j0])
      | succ kj15 =>
       have H := HA.out
       clear HA
       simp only [laws_FnExactAreKept.j0] at H
       by_cases c39 : x45_15 = true
       · subst c39
         rw [if_pos rfl] at H
         obtain rfl := Option.some.inj H
         go_wp2
         go_ret
         exact ⟨by first | rfl | (simp [errW_none, errW_some] <;> rfl) | (simp [*, errW_none, errW_some] <;> rfl), zB⟩
       · replace c39 := Bool.eq_false_iff.mpr c39
         subst c39
         have H1 : ((laws_toSpace.f kj15 l0_0 l0_1).bind fun bt605 => ((laws_eqSpace.f kj15 t593 t596 bt605.1 bt605.2).bind fun t611 => (if t611 = true then ((laws_toIntS.f kj15 l1).bind fun t612 => ((laws_eqIntS.f kj15 t600 t612).bind fun t615 => (if t615 = true then (some true) else (some false)))) else (some false)))) = some r := by rw [if_neg (show ¬ (false = true) by decide)] at H; exact H
         clear H
         have H := H1
         clear H1
         replace H := Option.bind_eq_some_iff.mp H
         obtain ⟨⟨t605, t608⟩, A400, H⟩ := H
         replace H : ((laws_eqSpace.f kj15 t593 t596 t605 t608).bind fun t611 => (if t611 = true then ((laws_toIntS.f kj15 l1).bind fun t612 => ((laws_eqIntS.f kj15 t600 t612).bind fun t615 => (if t615 = true then (some true) else (some false)))) else (some false))) = some r := H
         have A40 := Aside0.mk A400
         clear A400
         replace H := Option.bind_eq_some_iff.mp H
         obtain ⟨t611, A410, H⟩ := H
         have A41 := Aside0.mk A410
         clear A410
         by_cases c42 : t611 = true
         · subst c42
           rw [if_pos rfl] at H
           replace H := Option.bind_eq_some_iff.mp H
           obtain ⟨t612, A430, H⟩ := H
           have A43 := Aside0.mk A430
           clear A430
           replace H := Option.bind_eq_some_iff.mp H
           obtain ⟨t615, A440, H⟩ := H
           have A44 := Aside0.mk A440
           clear A440
           by_cases c45 : t615 = true
           · subst c45
             rw [if_pos rfl] at H
             obtain rfl := Option.some.inj H
             try go_wp2
             replace HO_9 := zM (Kd.R_drew HO_9.out)
             replace HO_600000 := zM (Kd.S_drew HO_600000.out)
             replace HO_600001 := zM (Kd.R_drew HO_600001.out)
             replace BK580 := zM (blk_drew BK580.out)
             replace BK599 := zM (blk_drew BK599.out)
             replace HB := zM (below_drew1 HB.out)
             refine zs (n := 5) (fun w' => w'.cell? ⟨gb599, 0, none⟩ = some (.slice Ao30 t593.length co30) ∧ w'.cell? ⟨gb599, 1, none⟩ = some (.slice Ao33 t596.length co33) ∧ w'.cell? ⟨gb580, 0, none⟩ = some (.slice A0_0 l0_0.length c0_0) ∧ w'.cell? ⟨gb580, 1, none⟩ = some (.slice A0_1 l0_1.length c0_1)) ⟨(blk_cell BK599.out 0).trans rfl, (blk_cell BK599.out 1).trans rfl, (blk_cell BK580.out 0).trans rfl, (blk_cell BK580.out 1).trans rfl⟩ (fun hHeld => ?_)
             generalize wc.drew = w46 at HO_9 HO_600000 HO_600001 BK580 BK599 HB hHeld ⊢
             refine zl 0 46 hHeld ?_ (hy := by rintro w' ⟨s0, s1, s2, s3⟩; go_simp; with_reducible rfl)
             refine zl 1 47 hHeld ?_ (hy := by rintro w' ⟨s0, s1, s2, s3⟩; go_simp; with_reducible rfl)
             refine zh 2 48 Try.func36 #[.agg #[.slice A0_0 l0_0.length c0_0, .slice A0_1 l0_1.length c0_1]] (fun K hK => ?_)
             with_reducible refine (laws_toSpace.calls kj15 _ _ l0_0 _ _ l0_1 t605 t608 _ ?side1 ?side2 ?side3 ?side4 A40.out).mono ?_
             (case side1 => exact zC (Kd.C_below HR0_0.out HB.out))
             (case side2 => exact HC0_0.out)
             (case side3 => exact zC (Kd.C_below HR0_1.out HB.out))
             (case side4 => exact HC0_1.out)
             rintro e w47 ⟨v606, v609, rfl, ho0, ho1, hb⟩
             refine ⟨_, rfl, ?_⟩
             have HO607 := zM (Kd.S_lower (Kd.S_new' (Kd.S_new' ho0 (Kd.R_lt (zR HO_9.out))) (Kd.S_lt (by (with_reducible repeat (first | apply Kd.S_alloc | apply Kd.S_drewN | apply Kd.S_drew)); exact HO_600000.out))) (below_size zB))
             replace HO_9 := zM (Kd.R_below (zR HO_9.out) hb)
             replace HO_600000 := zM (Kd.S_elder' (by (with_reducible repeat (first | apply Kd.S_alloc | apply Kd.S_drewN | apply Kd.S_drew)); exact HO_600000.out) (Kd.S_base ho0) hb)
             have HO610 := zM (Kd.R_lower (Kd.R_new' ho1 (Kd.R_lt (zR HO_600001.out))) (below_size zB))
             replace HO_600001 := zM (Kd.R_elder' (zR HO_600001.out) (Kd.R_base ho1) hb)
             replace BK580 := zM (blk_below (g := gb580) (o := .cells #[.slice A0_0 l0_0.length c0_0, .slice A0_1 l0_1.length c0_1] 47 (0, 0)) (zK BK580.out) hb)
             replace BK599 := zM (blk_below (g := gb599) (o := .cells #[.slice Ao30 t593.length co30, .slice Ao33 t596.length co33] 50 (0, 0)) (zK BK599.out) hb)
             replace HB := zM (below_step zB hb)
             (try clear hb)
             (try clear hb2)
             (try clear hk)
             (try clear hi)
             (try clear ho0)
             (try clear ho1)
             obtain ⟨Ao48, co48, eo48⟩ := Kd.S_slice HO607.out
             (first | subst eo48 | (injection eo48 with f1_ f2_ f3_; have f4_ := f1_.symm; have f5_ := f3_.symm; clear f1_ f2_ f3_; subst f4_; subst f5_))
             obtain ⟨Ao49, co49, eo49⟩ := Kd.R_slice HO610.out
             (first | subst eo49 | (injection eo49 with f1_ f2_ f3_; have f4_ := f1_.symm; have f5_ := f3_.symm; clear f1_ f2_ f3_; subst f4_; subst f5_))
             refine hK.out _ _ ⟨(blk_cell BK599.out 0).trans rfl, (blk_cell BK599.out 1).trans rfl, (blk_cell BK580.out 0).trans rfl, (blk_cell BK580.out 1).trans rfl⟩ (fun hHeld => ?_)
             clear hK K
             refine zn 48 ?_
             refine zh 3 49 Try.func38 #[.agg #[.slice Ao30 t593.length co30, .slice Ao33 t596.length co33], .agg #[.slice Ao48 t605.length co48, .slice Ao49 t608.length co49]] (fun K hK => ?_)
             with_reducible refine (laws_eqSpace.calls kj15 _ _ t593 _ _ t596 _ _ t605 _ _ t608 true _ ?side1 ?side2 ?side3 ?side4 ?side5 ?side6 ?side7 ?side8 A41.out).mono ?_
             (case side1 => exact zC (Kd.S_reads' HO_600000.out).2.2)
             (case side2 => exact (Kd.S_reads' HO_600000.out).2.1)
             (case side3 => exact zC (Kd.R_reads' HO_600001.out).2.2)
             (case side4 => exact (Kd.R_reads' HO_600001.out).2.1)
             (case side5 => exact zC (Kd.S_reads' HO607.out).2.2)
             (case side6 => exact (Kd.S_reads' HO607.out).2.1)
             (case side7 => exact zC (Kd.R_reads' HO610.out).2.2)
             (case side8 => exact (Kd.R_reads' HO610.out).2.1)
             rintro e w50 ⟨rfl, hb⟩
             refine ⟨_, rfl, ?_⟩
             replace HO_9 := zM (Kd.R_below (zR HO_9.out) hb)
             replace HO_600000 := zM (Kd.S_below (by (with_reducible repeat (first | apply Kd.S_alloc | apply Kd.S_drewN | apply Kd.S_drew)); exact HO_600000.out) hb)
             replace HO_600001 := zM (Kd.R_below (zR HO_600001.out) hb)
             replace HO607 := zM (Kd.S_below (by (with_reducible repeat (first | apply Kd.S_alloc | apply Kd.S_drewN | apply Kd.S_drew)); exact HO607.out) hb)
             replace HO610 := zM (Kd.R_below (zR HO610.out) hb)
             replace BK580 := zM (blk_below (g := gb580) (o := .cells #[.slice A0_0 l0_0.length c0_0, .slice A0_1 l0_1.length c0_1] 47 (0, 0)) (zK BK580.out) hb)
             replace BK599 := zM (blk_below (g := gb599) (o := .cells #[.slice Ao30 t593.length co30, .slice Ao33 t596.length co33] 50 (0, 0)) (zK BK599.out) hb)
             replace HB := zM (below_step zB hb)
             (try clear hb)
             (try clear hb2)
             (try clear hk)
             (try clear hi)
             refine hK.out _ _ ⟨(blk_cell BK599.out 0).trans rfl, (blk_cell BK599.out 1).trans rfl, (blk_cell BK580.out 0).trans rfl, (blk_cell BK580.out 1).trans rfl⟩ (fun hHeld => ?_)
             clear hK K
             refine zn 49 ?_
             refine zq 4 50 ?_
             refine zx ?_
             try go_wp2_with (first | ((with_reducible refine gate_callee (f := 25) rfl ?_); refine zc 53 Try.func25 #[.slice A1 l1.length c1] ?_; (with_reducible refine (laws_toIntS.calls kj15 _ _ l1 t612 _ ?side1 ?side2 A43.out).mono ?_); (case side1 => exact zC (Kd.C_below HR1.out HB.out)); (case side2 => exact HC1.out); rintro e w51 ⟨v613, rfl, ho0, hb⟩; refine ⟨_, rfl, ?_⟩; replace HO_600000 := zM (Kd.S_elder' (by (with_reducible repeat (first | apply Kd.S_alloc | apply Kd.S_drewN | apply Kd.S_drew)); exact HO_600000.out) (Kd.R_base ho0) hb); replace HO_600001 := zM (Kd.R_below (zR HO_600001.out) hb); replace HO607 := zM (Kd.S_elder' (by (with_reducible repeat (first | apply Kd.S_alloc | apply Kd.S_drewN | apply Kd.S_drew)); exact HO607.out) (Kd.R_base ho0) hb); replace HO610 := zM (Kd.R_below (zR HO610.out) hb); have HO614 := zM (Kd.R_lower (Kd.R_new' ho0 (Kd.R_lt (zR HO_9.out))) (below_size zB)); replace HO_9 := zM (Kd.R_elder' (zR HO_9.out) (Kd.R_base ho0) hb); replace BK580 := zM (blk_below (g := gb580) (o := .cells #[.slice A0_0 l0_0.length c0_0, .slice A0_1 l0_1.length c0_1] 47 (0, 0)) (zK BK580.out) hb); replace BK599 := zM (blk_below (g := gb599) (o := .cells #[.slice Ao30 t593.length co30, .slice Ao33 t596.length co33] 50 (0, 0)) (zK BK599.out) hb); replace HB := zM (below_step zB hb); (try clear hb); (try clear hb2); (try clear hk); (try clear hi); (try clear ho0); obtain ⟨Ao52, co52, eo52⟩ := Kd.R_slice HO614.out; subst eo52) | ((with_reducible refine gate_callee (f := 27) rfl ?_); refine zc 54 Try.func27 #[.slice Ao36 t600.length co36, .slice Ao52 t612.length co52] ?_; (with_reducible refine (laws_eqIntS.calls kj15 _ _ t600 _ _ t612 true _ ?side1 ?side2 ?side3 ?side4 A44.out).mono ?_); (case side1 => exact zC (Kd.R_reads' HO_9.out).2.2); (case side2 => exact (Kd.R_reads' HO_9.out).2.1); (case side3 => exact zC (Kd.R_reads' HO614.out).2.2); (case side4 => exact (Kd.R_reads' HO614.out).2.1); rintro e w' ⟨rfl, ⟨nd, rfl⟩⟩; refine ⟨_, rfl, ?_⟩))
             go_ret
             exact ⟨by first | rfl | (simp [errW_none, errW_some] <;> rfl) | (simp [*, errW_none, errW_some] <;> rfl), zB⟩
           · replace c45 := Bool.eq_false_iff.mpr c45
             subst c45
             have H1 : (some false) = some r := by rw [if_neg (show ¬ (false = true) by decide)] at H; exact H
             clear H
             have H := H1
             clear H1
             obtain rfl := Option.some.inj H
             try go_wp2
             replace HO_9 := zM (Kd.R_drew HO_9.out)
             replace HO_600000 := zM (Kd.S_drew HO_600000.out)
             replace HO_600001 := zM (Kd.R_drew HO_600001.out)
             replace BK580 := zM (blk_drew BK580.out)
             replace BK599 := zM (blk_drew BK599.out)
             replace HB := zM (below_drew1 HB.out)
             refine zs (n := 5) (fun w' => w'.cell? ⟨gb599, 0, none⟩ = some (.slice Ao30 t593.length co30) ∧ w'.cell? ⟨gb599, 1, none⟩ = some (.slice Ao33 t596.length co33) ∧ w'.cell? ⟨gb580, 0, none⟩ = some (.slice A0_0 l0_0.length c0_0) ∧ w'.cell? ⟨gb580, 1, none⟩ = some (.slice A0_1 l0_1.length c0_1)) ⟨(blk_cell BK599.out 0).trans rfl, (blk_cell BK599.out 1).trans rfl, (blk_cell BK580.out 0).trans rfl, (blk_cell BK580.out 1).trans rfl⟩ (fun hHeld => ?_)
             generalize wc.drew = w53 at HO_9 HO_600000 HO_600001 BK580 BK599 HB hHeld ⊢
             refine zl 0 46 hHeld ?_ (hy := by rintro w' ⟨s0, s1, s2, s3⟩; go_simp; with_reducible rfl)
             refine zl 1 47 hHeld ?_ (hy := by rintro w' ⟨s0, s1, s2, s3⟩; go_simp; with_reducible rfl)
             refine zh 2 48 Try.func36 #[.agg #[.slice A0_0 l0_0.length c0_0, .slice A0_1 l0_1.length c0_1]] (fun K hK => ?_)
             with_reducible refine (laws_toSpace.calls kj15 _ _ l0_0 _ _ l0_1 t605 t608 _ ?side1 ?side2 ?side3 ?side4 A40.out).mono ?_
             (case side1 => exact zC (Kd.C_below HR0_0.out HB.out))
             (case side2 => exact HC0_0.out)
             (case side3 => exact zC (Kd.C_below HR0_1.out HB.out))
             (case side4 => exact HC0_1.out)
             rintro e w54 ⟨v606, v609, rfl, ho0, ho1, hb⟩
             refine ⟨_, rfl, ?_⟩
             have HO607 := zM (Kd.S_lower (Kd.S_new' (Kd.S_new' ho0 (Kd.R_lt (zR HO_9.out))) (Kd.S_lt (by (with_reducible repeat (first | apply Kd.S_alloc | apply Kd.S_drewN | apply Kd.S_drew)); exact HO_600000.out))) (below_size zB))
             replace HO_9 := zM (Kd.R_below (zR HO_9.out) hb)
             replace HO_600000 := zM (Kd.S_elder' (by (with_reducible repeat (first | apply Kd.S_alloc | apply Kd.S_drewN | apply Kd.S_drew)); exact HO_600000.out) (Kd.S_base ho0) hb)
             have HO610 := zM (Kd.R_lower (Kd.R_new' ho1 (Kd.R_lt (zR HO_600001.out))) (below_size zB))
             replace HO_600001 := zM (Kd.R_elder' (zR HO_600001.out) (Kd.R_base ho1) hb)
             replace BK580 := zM (blk_below (g := gb580) (o := .cells #[.slice A0_0 l0_0.length c0_0, .slice A0_1 l0_1.length c0_1] 47 (0, 0)) (zK BK580.out) hb)
             replace BK599 := zM (blk_below (g := gb599) (o := .cells #[.slice Ao30 t593.length co30, .slice Ao33 t596.length co33] 50 (0, 0)) (zK BK599.out) hb)
             replace HB := zM (below_step zB hb)
             (try clear hb)
             (try clear hb2)
             (try clear hk)
             (try clear hi)
             (try clear ho0)
             (try clear ho1)
             obtain ⟨Ao55, co55, eo55⟩ := Kd.S_slice HO607.out
             (first | subst eo55 | (injection eo55 with f1_ f2_ f3_; have f4_ := f1_.symm; have f5_ := f3_.symm; clear f1_ f2_ f3_; subst f4_; subst f5_))
             obtain ⟨Ao56, co56, eo56⟩ := Kd.R_slice HO610.out
             (first | subst eo56 | (injection eo56 with f1_ f2_ f3_; have f4_ := f1_.symm; have f5_ := f3_.symm; clear f1_ f2_ f3_; subst f4_; subst f5_))
             refine hK.out _ _ ⟨(blk_cell BK599.out 0).trans rfl, (blk_cell BK599.out 1).trans rfl, (blk_cell BK580.out 0).trans rfl, (blk_cell BK580.out 1).trans rfl⟩ (fun hHeld => ?_)
             clear hK K
             refine zn 48 ?_
             refine zh 3 49 Try.func38 #[.agg #[.slice Ao30 t593.length co30, .slice Ao33 t596.length co33], .agg #[.slice Ao55 t605.length co55, .slice Ao56 t608.length co56]] (fun K hK => ?_)
             with_reducible refine (laws_eqSpace.calls kj15 _ _ t593 _ _ t596 _ _ t605 _ _ t608 true _ ?side1 ?side2 ?side3 ?side4 ?side5 ?side6 ?side7 ?side8 A41.out).mono ?_
             (case side1 => exact zC (Kd.S_reads' HO_600000.out).2.2)
             (case side2 => exact (Kd.S_reads' HO_600000.out).2.1)
             (case side3 => exact zC (Kd.R_reads' HO_600001.out).2.2)
             (case side4 => exact (Kd.R_reads' HO_600001.out).2.1)
             (case side5 => exact zC (Kd.S_reads' HO607.out).2.2)
             (case side6 => exact (Kd.S_reads' HO607.out).2.1)
             (case side7 => exact zC (Kd.R_reads' HO610.out).2.2)
             (case side8 => exact (Kd.R_reads' HO610.out).2.1)
             rintro e w57 ⟨rfl, hb⟩
             refine ⟨_, rfl, ?_⟩
             replace HO_9 := zM (Kd.R_below (zR HO_9.out) hb)
             replace HO_600000 := zM (Kd.S_below (by (with_reducible repeat (first | apply Kd.S_alloc | apply Kd.S_drewN | apply Kd.S_drew)); exact HO_600000.out) hb)
             replace HO_600001 := zM (Kd.R_below (zR HO_600001.out) hb)
             replace HO607 := zM (Kd.S_below (by (with_reducible repeat (first | apply Kd.S_alloc | apply Kd.S_drewN | apply Kd.S_drew)); exact HO607.out) hb)
             replace HO610 := zM (Kd.R_below (zR HO610.out) hb)
             replace BK580 := zM (blk_below (g := gb580) (o := .cells #[.slice A0_0 l0_0.length c0_0, .slice A0_1 l0_1.length c0_1] 47 (0, 0)) (zK BK580.out) hb)
             replace BK599 := zM (blk_below (g := gb599) (o := .cells #[.slice Ao30 t593.length co30, .slice Ao33 t596.length co33] 50 (0, 0)) (zK BK599.out) hb)
             replace HB := zM (below_step zB hb)
             (try clear hb)
             (try clear hb2)
             (try clear hk)
             (try clear hi)
             refine hK.out _ _ ⟨(blk_cell BK599.out 0).trans rfl, (blk_cell BK599.out 1).trans rfl, (blk_cell BK580.out 0).trans rfl, (blk_cell BK580.out 1).trans rfl⟩ (fun hHeld => ?_)
             clear hK K
             refine zn 49 ?_
             refine zq 4 50 ?_
             refine zx ?_
             try go_wp2_with (first | ((with_reducible refine gate_callee (f := 25) rfl ?_); refine zc 53 Try.func25 #[.slice A1 l1.length c1] ?_; (with_reducible refine (laws_toIntS.calls kj15 _ _ l1 t612 _ ?side1 ?side2 A43.out).mono ?_); (case side1 => exact zC (Kd.C_below HR1.out HB.out)); (case side2 => exact HC1.out); rintro e w58 ⟨v613, rfl, ho0, hb⟩; refine ⟨_, rfl, ?_⟩; replace HO_600000 := zM (Kd.S_elder' (by (with_reducible repeat (first | apply Kd.S_alloc | apply Kd.S_drewN | apply Kd.S_drew)); exact HO_600000.out) (Kd.R_base ho0) hb); replace HO_600001 := zM (Kd.R_below (zR HO_600001.out) hb); replace HO607 := zM (Kd.S_elder' (by (with_reducible repeat (first | apply Kd.S_alloc | apply Kd.S_drewN | apply Kd.S_drew)); exact HO607.out) (Kd.R_base ho0) hb); replace HO610 := zM (Kd.R_below (zR HO610.out) hb); have HO614 := zM (Kd.R_lower (Kd.R_new' ho0 (Kd.R_lt (zR HO_9.out))) (below_size zB)); replace HO_9 := zM (Kd.R_elder' (zR HO_9.out) (Kd.R_base ho0) hb); replace BK580 := zM (blk_below (g := gb580) (o := .cells #[.slice A0_0 l0_0.length c0_0, .slice A0_1 l0_1.length c0_1] 47 (0, 0)) (zK BK580.out) hb); replace BK599 := zM (blk_below (g := gb599) (o := .cells #[.slice Ao30 t593.length co30, .slice Ao33 t596.length co33] 50 (0, 0)) (zK BK599.out) hb); replace HB := zM (below_step zB hb); (try clear hb); (try clear hb2); (try clear hk); (try clear hi); (try clear ho0); obtain ⟨Ao59, co59, eo59⟩ := Kd.R_slice HO614.out; subst eo59) | ((with_reducible refine gate_callee (f := 27) rfl ?_); refine zc 54 Try.func27 #[.slice Ao36 t600.length co36, .slice Ao59 t612.length co59] ?_; (with_reducible refine (laws_eqIntS.calls kj15 _ _ t600 _ _ t612 false _ ?side1 ?side2 ?side3 ?side4 A44.out).mono ?_); (case side1 => exact zC (Kd.R_reads' HO_9.out).2.2); (case side2 => exact (Kd.R_reads' HO_9.out).2.1); (case side3 => exact zC (Kd.R_reads' HO614.out).2.2); (case side4 => exact (Kd.R_reads' HO614.out).2.1); rintro e w' ⟨rfl, ⟨nd, rfl⟩⟩; refine ⟨_, rfl, ?_⟩))
             go_ret
             exact ⟨by first | rfl | (simp [errW_none, errW_some] <;> rfl) | (simp [*, errW_none, errW_some] <;> rfl), zB⟩
         · replace c42 := Bool.eq_false_iff.mpr c42
           subst c42
           have H1 : (some false) = some r := by rw [if_neg (show ¬ (false = true) by decide)] at H; exact H
           clear H
           have H := H1
           clear H1
           obtain rfl := Option.some.inj H
           try go_wp2
           replace HO_9 := zM (Kd.R_drew HO_9.out)
           replace HO_600000 := zM (Kd.S_drew HO_600000.out)
           replace HO_600001 := zM (Kd.R_drew HO_600001.out)
           replace BK580 := zM (blk_drew BK580.out)
           replace BK599 := zM (blk_drew BK599.out)
           replace HB := zM (below_drew1 HB.out)
           refine zs (n := 5) (fun w' => w'.cell? ⟨gb599, 0, none⟩ = some (.slice Ao30 t593.length co30) ∧ w'.cell? ⟨gb599, 1, none⟩ = some (.slice Ao33 t596.length co33) ∧ w'.cell? ⟨gb580, 0, none⟩ = some (.slice A0_0 l0_0.length c0_0) ∧ w'.cell? ⟨gb580, 1, none⟩ = some (.slice A0_1 l0_1.length c0_1)) ⟨(blk_cell BK599.out 0).trans rfl, (blk_cell BK599.out 1).trans rfl, (blk_cell BK580.out 0).trans rfl, (blk_cell BK580.out 1).trans rfl⟩ (fun hHeld => ?_)
           generalize wc.drew = w60 at HO_9 HO_600000 HO_600001 BK580 BK599 HB hHeld ⊢
           refine zl 0 46 hHeld ?_ (hy := by rintro w' ⟨s0, s1, s2, s3⟩; go_simp; with_reducible rfl)
           refine zl 1 47 hHeld ?_ (hy := by rintro w' ⟨s0, s1, s2, s3⟩; go_simp; with_reducible rfl)
           refine zh 2 48 Try.func36 #[.agg #[.slice A0_0 l0_0.length c0_0, .slice A0_1 l0_1.length c0_1]] (fun K hK => ?_)
           with_reducible refine (laws_toSpace.calls kj15 _ _ l0_0 _ _ l0_1 t605 t608 _ ?side1 ?side2 ?side3 ?side4 A40.out).mono ?_
           (case side1 => exact zC (Kd.C_below HR0_0.out HB.out))
           (case side2 => exact HC0_0.out)
           (case side3 => exact zC (Kd.C_below HR0_1.out HB.out))
           (case side4 => exact HC0_1.out)
           rintro e w61 ⟨v606, v609, rfl, ho0, ho1, hb⟩
           refine ⟨_, rfl, ?_⟩
           have HO607 := zM (Kd.S_lower (Kd.S_new' (Kd.S_new' ho0 (Kd.R_lt (zR HO_9.out))) (Kd.S_lt (by (with_reducible repeat (first | apply Kd.S_alloc | apply Kd.S_drewN | apply Kd.S_drew)); exact HO_600000.out))) (below_size zB))
           replace HO_9 := zM (Kd.R_below (zR HO_9.out) hb)
           replace HO_600000 := zM (Kd.S_elder' (by (with_reducible repeat (first | apply Kd.S_alloc | apply Kd.S_drewN | apply Kd.S_drew)); exact HO_600000.out) (Kd.S_base ho0) hb)
           have HO610 := zM (Kd.R_lower (Kd.R_new' ho1 (Kd.R_lt (zR HO_600001.out))) (below_size zB))
           replace HO_600001 := zM (Kd.R_elder' (zR HO_600001.out) (Kd.R_base ho1) hb)
           replace BK580 := zM (blk_below (g := gb580) (o := .cells #[.slice A0_0 l0_0.length c0_0, .slice A0_1 l0_1.length c0_1] 47 (0, 0)) (zK BK580.out) hb)
           replace BK599 := zM (blk_below (g := gb599) (o := .cells #[.slice Ao30 t593.length co30, .slice Ao33 t596.length co33] 50 (0, 0)) (zK BK599.out) hb)
           replace HB := zM (below_step zB hb)
           (try clear hb)
           (try clear hb2)
           (try clear hk)
           (try clear hi)
           (try clear ho0)
           (try clear ho1)
           obtain ⟨Ao62, co62, eo62⟩ := Kd.S_slice HO607.out
           (first | subst eo62 | (injection eo62 with f1_ f2_ f3_; have f4_ := f1_.symm; have f5_ := f3_.symm; clear f1_ f2_ f3_; subst f4_; subst f5_))
           obtain ⟨Ao63, co63, eo63⟩ := Kd.R_slice HO610.out
           (first | subst eo63 | (injection eo63 with f1_ f2_ f3_; have f4_ := f1_.symm; have f5_ := f3_.symm; clear f1_ f2_ f3_; subst f4_; subst f5_))
           refine hK.out _ _ ⟨(blk_cell BK599.out 0).trans rfl, (blk_cell BK599.out 1).trans rfl, (blk_cell BK580.out 0).trans rfl, (blk_cell BK580.out 1).trans rfl⟩ (fun hHeld => ?_)
           clear hK K
           refine zn 48 ?_
           refine zh 3 49 Try.func38 #[.agg #[.slice Ao30 t593.length co30, .slice Ao33 t596.length co33], .agg #[.slice Ao62 t605.length co62, .slice Ao63 t608.length co63]] (fun K hK => ?_)
           with_reducible refine (laws_eqSpace.calls kj15 _ _ t593 _ _ t596 _ _ t605 _ _ t608 false _ ?side1 ?side2 ?side3 ?side4 ?side5 ?side6 ?side7 ?side8 A41.out).mono ?_
           (case side1 => exact zC (Kd.S_reads' HO_600000.out).2.2)
           (case side2 => exact (Kd.S_reads' HO_600000.out).2.1)
           (case side3 => exact zC (Kd.R_reads' HO_600001.out).2.2)
           (case side4 => exact (Kd.R_reads' HO_600001.out).2.1)
           (case side5 => exact zC (Kd.S_reads' HO607.out).2.2)
           (case side6 => exact (Kd.S_reads' HO607.out).2.1)
           (case side7 => exact zC (Kd.R_reads' HO610.out).2.2)
           (case side8 => exact (Kd.R_reads' HO610.out).2.1)
           rintro e w64 ⟨rfl, hb⟩
           refine ⟨_, rfl, ?_⟩
           replace HO_9 := zM (Kd.R_below (zR HO_9.out) hb)
           replace HO_600000 := zM (Kd.S_below (by (with_reducible repeat (first | apply Kd.S_alloc | apply Kd.S_drewN | apply Kd.S_drew)); exact HO_600000.out) hb)
           replace HO_600001 := zM (Kd.R_below (zR HO_600001.out) hb)
           replace HO607 := zM (Kd.S_below (by (with_reducible repeat (first | apply Kd.S_alloc | apply Kd.S_drewN | apply Kd.S_drew)); exact HO607.out) hb)
           replace HO610 := zM (Kd.R_below (zR HO610.out) hb)
           replace BK580 := zM (blk_below (g := gb580) (o := .cells #[.slice A0_0 l0_0.length c0_0, .slice A0_1 l0_1.length c0_1] 47 (0, 0)) (zK BK580.out) hb)
           replace BK599 := zM (blk_below (g := gb599) (o := .cells #[.slice Ao30 t593.length co30, .slice Ao33 t596.length co33] 50 (0, 0)) (zK BK599.out) hb)
           replace HB := zM (below_step zB hb)
           (try clear hb)
           (try clear hb2)
           (try clear hk)
           (try clear hi)
           refine hK.out _ _ ⟨(blk_cell BK599.out 0).trans rfl, (blk_cell BK599.out 1).trans rfl, (blk_cell BK580.out 0).trans rfl, (blk_cell BK580.out 1).trans rfl⟩ (fun hHeld => ?_)
           clear hK K
           refine zn 49 ?_
           refine zq 4 50 ?_
           refine zx ?_
           try go_wp2
           go_ret
           exact ⟨by first | rfl | (simp [errW_none, errW_some] <;> rfl) | (simp [*, errW_none, errW_some] <;> rfl), zB⟩

/-! ### spec_IsPotential: function 41 -/
def spec_IsPotential.f (k : Nat) (l0_0 : List (List Int)) (l0_1 : List (S68)) (l1 : List Int) : Option (Bool × Bool) := (spec_l2Values.f k l0_0 l0_1 l1).bind fun t617 => (if t617 = true then ((spec_l2Apart.f k l0_0 l0_1 l1).bind fun t618 => (some (decide (t618 ≤ 1), true))) else (some (false, false)))
theorem spec_IsPotential.mono : ∀ a0 a1 a2 k, LeO (spec_IsPotential.f k a0 a1 a2) (spec_IsPotential.f (k + 1) a0 a1 a2) := by
 intro a0 a1 a2 k
 unfold spec_IsPotential.f
 repeat' first
  | (with_reducible exact spec_l2Apart.mono _ _ _ _)
  | (with_reducible exact spec_l2Values.mono _ _ _ _)
  | (with_reducible exact LeO.refl _)
  | (with_reducible exact LeO.none _)
  | (with_reducible refine LeO.ite ?_ ?_)
  | (with_reducible refine LeO.bind ?_ (fun _ => ?_))
  | exact spec_l2Apart.mono _ _ _ _
  | exact spec_l2Values.mono _ _ _ _
  | exact LeO.none _
  | refine LeO.ite ?_ ?_
  | refine LeO.bind ?_ (fun _ => ?_)
set_option maxHeartbeats 8000000 in
set_option maxRecDepth 100000 in
theorem spec_IsPotential.calls (k : Nat) (A0_0 : Option Addr) (c0_0 : Nat) (l0_0 : List (List Int)) (A0_1 : Option Addr) (c0_1 : Nat) (l0_1 : List (S68)) (A1 : Option Addr) (c1 : Nat) (l1 : List Int) (r1 : Bool) (r2 : Bool) (w : World) (hr0_0 : Kd.C (Kd.slice 3 (Kd.int .i64)) w A0_0 l0_0.length l0_0) (hc0_0 : l0_0.length ≤ c0_0) (hr0_1 : Kd.C k68 w A0_1 l0_1.length l0_1) (hc0_1 : l0_1.length ≤ c0_1) (hr1 : Kd.C (Kd.int .i64) w A1 l1.length l1) (hc1 : l1.length ≤ c1) (h : spec_IsPotential.f k l0_0 l0_1 l1 = some (r1, r2)) :
 Calls Try.prog 41 #[.agg #[.slice A0_0 l0_0.length c0_0, .slice A0_1 l0_1.length c0_1], .slice A1 l1.length c1] w fun e w' => e = .returned (.tuple #[.bool r1, .bool r2]) ∧ Below w.heap.size w w' := by
 have hu50 := Try.underlying50
 have HR0_0 := Aside0.mk hr0_0
 have HC0_0 := Aside0.mk hc0_0
 clear hr0_0 hc0_0
 have HR0_1 := Aside0.mk hr0_1
 have HC0_1 := Aside0.mk hc0_1
 clear hr0_1 hc0_1
 have HR1 := Aside0.mk hr1
 have HC1 := Aside0.mk hc1
 clear hr1 hc1
 have HB := zM (Below.refl w.heap.size w)
 have H : ((spec_l2Values.f k l0_0 l0_1 l1).bind fun t617 => (if t617 = true then ((spec_l2Apart.f k l0_0 l0_1 l1).bind fun t618 => (some (decide (t618 ≤ 1), true))) else (some (false, false)))) = some (r1, r2) := h
 clear h
 replace H := Option.bind_eq_some_iff.mp H
 obtain ⟨t617, A30, H⟩ := H
 replace H : (if t617 = true then ((spec_l2Apart.f k l0_0 l0_1 l1).bind fun t618 => (some (decide (t618 ≤ 1), true))) else (some (false, false))) = some (r1, r2) := H
 have A3 := Aside0.mk A30
 clear A30
 by_cases c4 : t617 = true
 · subst c4
   have H1 : ((spec_l2Apart.f k l0_0 l0_1 l1).bind fun t618 => (some (decide (t618 ≤ 1), true))) = some (r1, r2) := by rw [if_pos rfl] at H; exact H
   clear H
   have H := H1
   clear H1
   replace H := Option.bind_eq_some_iff.mp H
   obtain ⟨t618, A50, H⟩ := H
   replace H : (some (decide (t618 ≤ 1), true)) = some (r1, r2) := H
   have A5 := Aside0.mk A50
   clear A50
   simp only [Option.some.injEq, Prod.mk.injEq] at H
   obtain ⟨rfl, rfl⟩ := H
   go_enter Try.func41, Try.ntmps41
   go_wp2_with (first | ((with_reducible refine gate_dst (N := 2) rfl ?_); refine zb (w := w) 2 #[.slice A0_0 l0_0.length c0_0, .slice A0_1 l0_1.length c0_1] 50 zB ?_; clear HB; intro gb616 w6 HB BK616 GW616; have GE616 := GW616; have hcz7_0 := zy BK616 0; have hcz7_1 := zy BK616 1; have hfz7_0 := blk_frozen BK616.out 0; have hfz7_1 := blk_frozen BK616.out 1) | ((with_reducible refine gate_callee (f := 78) rfl ?_); refine zc 8 Try.func78 #[.agg #[.slice A0_0 l0_0.length c0_0, .slice A0_1 l0_1.length c0_1], .slice A1 l1.length c1] ?_; (with_reducible refine (spec_l2Values.calls k _ _ l0_0 _ _ l0_1 _ _ l1 true _ ?side1 ?side2 ?side3 ?side4 ?side5 ?side6 A3.out).mono ?_); (case side1 => exact zC (Kd.C_below HR0_0.out HB.out)); (case side2 => exact HC0_0.out); (case side3 => exact zC (Kd.C_below HR0_1.out HB.out)); (case side4 => exact HC0_1.out); (case side5 => exact zC (Kd.C_below HR1.out HB.out)); (case side6 => exact HC1.out); rintro e w8 ⟨rfl, hb⟩; refine ⟨_, rfl, ?_⟩; replace BK616 := zM (blk_below (g := gb616) (o := .cells #[.slice A0_0 l0_0.length c0_0, .slice A0_1 l0_1.length c0_1] 50 (0, 0)) (zK BK616.out) hb); replace HB := zM (below_step zB hb); (try clear hb); (try clear hb2); (try clear hk); (try clear hi); have hcz9_0 := zy BK616 0; have hcz9_1 := zy BK616 1; have hfz9_0 := blk_frozen BK616.out 0; have hfz9_1 := blk_frozen BK616.out 1) | ((with_reducible refine gate_callee (f := 79) rfl ?_); refine zc 12 Try.func79 #[.agg #[.slice A0_0 l0_0.length c0_0, .slice A0_1 l0_1.length c0_1], .slice A1 l1.length c1] ?_; (with_reducible refine (spec_l2Apart.calls k _ _ l0_0 _ _ l0_1 _ _ l1 t618 _ ?side1 ?side2 ?side3 ?side4 ?side5 ?side6 A5.out).mono ?_); (case side1 => exact zC (Kd.C_below HR0_0.out HB.out)); (case side2 => exact HC0_0.out); (case side3 => exact zC (Kd.C_below HR0_1.out HB.out)); (case side4 => exact HC0_1.out); (case side5 => exact zC (Kd.C_below HR1.out HB.out)); (case side6 => exact HC1.out); rintro e w10 ⟨rfl, hb⟩; refine ⟨_, rfl, ?_⟩; replace BK616 := zM (blk_below (g := gb616) (o := .cells #[.slice A0_0 l0_0.length c0_0, .slice A0_1 l0_1.length c0_1] 50 (0, 0)) (zK BK616.out) hb); replace HB := zM (below_step zB hb); (try clear hb); (try clear hb2); (try clear hk); (try clear hi)))
   go_ret2
   exact ⟨by first | rfl | (simp [errW_none, errW_some] <;> rfl) | (simp [*, errW_none, errW_some] <;> rfl), zB⟩
 · replace c4 := Bool.eq_false_iff.mpr c4
   subst c4
   have H1 : (some (false, false)) = some (r1, r2) := by rw [if_neg (show ¬ (false = true) by decide)] at H; exact H
   clear H
   have H := H1
   clear H1
   simp only [Option.some.injEq, Prod.mk.injEq] at H
   obtain ⟨rfl, rfl⟩ := H
   go_enter Try.func41, Try.ntmps41
   go_wp2_with (first | ((with_reducible refine gate_dst (N := 2) rfl ?_); refine zb (w := w) 2 #[.slice A0_0 l0_0.length c0_0, .slice A0_1 l0_1.length c0_1] 50 zB ?_; clear HB; intro gb616 w11 HB BK616 GW616; have GE616 := GW616; have hcz12_0 := zy BK616 0; have hcz12_1 := zy BK616 1; have hfz12_0 := blk_frozen BK616.out 0; have hfz12_1 := blk_frozen BK616.out 1) | ((with_reducible refine gate_callee (f := 78) rfl ?_); refine zc 8 Try.func78 #[.agg #[.slice A0_0 l0_0.length c0_0, .slice A0_1 l0_1.length c0_1], .slice A1 l1.length c1] ?_; (with_reducible refine (spec_l2Values.calls k _ _ l0_0 _ _ l0_1 _ _ l1 false _ ?side1 ?side2 ?side3 ?side4 ?side5 ?side6 A3.out).mono ?_); (case side1 => exact zC (Kd.C_below HR0_0.out HB.out)); (case side2 => exact HC0_0.out); (case side3 => exact zC (Kd.C_below HR0_1.out HB.out)); (case side4 => exact HC0_1.out); (case side5 => exact zC (Kd.C_below HR1.out HB.out)); (case side6 => exact HC1.out); rintro e w13 ⟨rfl, hb⟩; refine ⟨_, rfl, ?_⟩; replace BK616 := zM (blk_below (g := gb616) (o := .cells #[.slice A0_0 l0_0.length c0_0, .slice A0_1 l0_1.length c0_1] 50 (0, 0)) (zK BK616.out) hb); replace HB := zM (below_step zB hb); (try clear hb); (try clear hb2); (try clear hk); (try clear hi)))
   go_ret2
   exact ⟨by first | rfl | (simp [errW_none, errW_some] <;> rfl) | (simp [*, errW_none, errW_some] <;> rfl), zB⟩

end Go.Proofs.Ytpbngmkhpcgpkaa.P
