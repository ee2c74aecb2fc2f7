-- Written by a program of this session (the kit's print, turned: wip/print/patch.py) out of the translation. Not trusted: Lean checks it.
import Derived.Test.YtpbngmkhpcgpkaaPx0
import Derived.Test.YtpbngmkhpcgpkaaPx2
import Derived.Test.YtpbngmkhpcgpkaaPx4
import Derived.Test.YtpbngmkhpcgpkaaPx11
import Derived.Test.YtpbngmkhpcgpkaaPx14
import Derived.Test.YtpbngmkhpcgpkaaPx16
import Derived.Test.YtpbngmkhpcgpkaaPx17
import Derived.Test.YtpbngmkhpcgpkaaPx19
import Derived.Test.YtpbngmkhpcgpkaaPx21
namespace Go.Proofs.Ytpbngmkhpcgpkaa.P
open Go.RowKit Go.Proofs.YtpbngmkhpcgpkaaW.PrintWords Go.Proofs.YtpbngmkhpcgpkaaW.PrintLast Go.Proofs.YtpbngmkhpcgpkaaW.PrintMore
attribute [local go_sem] max2_int min2_int max_two min_two max_three min_three max_four min_four   -- for this text's walks alone
set_option linter.unusedVariables false
set_option linter.unusedSimpArgs false

/-! ### laws_FnExactOtherNodes: function 7 -/
mutual
def laws_FnExactOtherNodes.j0 : Nat → List Int → List Int → Bool → List Int → List Int → Bool → Bool → Int → List (S68) → Int → List (S68) → Option (Bool)
 | 0, _, _, _, _, _, _, _, _, _, _, _ => none
 | k + 1, x1, x6, x7, x9, x10, x11, x51, x430000, x430001, x447000, x447001 => if x51 = true then (some false) else ((laws_toGraph.f k x430000 x430001).bind fun bt455 => ((laws_eqGraph.f k x447000 x447001 bt455.1 bt455.2).bind fun t459 => (if t459 = true then ((laws_toIntS.f k x1).bind fun t460 => ((laws_eqIntS.f k x9 t460).bind fun t463 => (if t463 = true then ((laws_markGraph.f x447000 x447001 1).bind fun bt464 => ((laws_markIntS.f k x9 bt464.1).bind fun bt466 => (if bt466.1 < 0 then (laws_FnExactOtherNodes.j1 k x1 x6 x7 x10 true x430000 x430001) else ((laws_eqIntS.f k x10 x6).bind fun t468 => (if t468 = true then (laws_FnExactOtherNodes.j1 k x1 x6 x7 x10 (x11 != x7) x430000 x430001) else (laws_FnExactOtherNodes.j1 k x1 x6 x7 x10 true x430000 x430001)))))) else (some false)))) else (some false))))
def laws_FnExactOtherNodes.j1 : Nat → List Int → List Int → Bool → List Int → Bool → Int → List (S68) → Option (Bool)
 | 0, _, _, _, _, _, _, _ => none
 | k + 1, x1, x6, x7, x10, x80, x430000, x430001 => if x80 = true then (some false) else ((laws_markIntS.f k x10 1).bind fun bt469 => ((laws_heldIntS.f k bt469.2 1).bind fun t471 => (if t471 < 0 then (some false) else (if t471 = bt469.1 then ((laws_toGraph.f k x430000 x430001).bind fun bt472 => ((laws_toIntS.f k x1).bind fun t476 => ((impl_OtherNodes.f k bt472.1 bt472.2 t476).bind fun bt479 => ((laws_eqIntS.f k bt479.1 x6).bind fun t483 => (if t483 = true then (laws_FnExactOtherNodes.j2 k bt469.2 bt469.1 (bt479.2 != x7)) else (laws_FnExactOtherNodes.j2 k bt469.2 bt469.1 true)))))) else (some false)))))
def laws_FnExactOtherNodes.j2 : Nat → List Int → Int → Bool → Option (Bool)
 | 0, _, _, _ => none
 | k + 1, x10, x13, x108 => if x108 = true then (some false) else ((laws_heldIntS.f k x10 1).bind fun t484 => (if t484 < 0 then (some false) else (if t484 = x13 then (some true) else (some false))))
end
def laws_FnExactOtherNodes.f (k : Nat) (a0_0 : Int) (l0_1 : List (S68)) (l1 : List Int) : Option (Bool) := if (l1.length : Int) > 1048576 then (some true) else ((laws_szGraph.f a0_0 l0_1 1048576).bind fun t430 => (if t430 < 0 then (some true) else ((laws_toGraph.f k a0_0 l0_1).bind fun bt431 => ((laws_toIntS.f k l1).bind fun t435 => ((spec_OtherNodes.f k bt431.1 bt431.2 t435).bind fun bt438 => ((laws_toGraph.f k a0_0 l0_1).bind fun bt442 => ((laws_toIntS.f k l1).bind fun t447 => ((impl_OtherNodes.f k bt442.1 bt442.2 t447).bind fun bt450 => ((laws_eqIntS.f k bt450.1 bt438.1).bind fun t454 => (if t454 = true then (laws_FnExactOtherNodes.j0 k l1 bt438.1 bt438.2 t447 bt450.1 bt450.2 (bt450.2 != bt438.2) a0_0 l0_1 bt442.1 bt442.2) else (laws_FnExactOtherNodes.j0 k l1 bt438.1 bt438.2 t447 bt450.1 bt450.2 true a0_0 l0_1 bt442.1 bt442.2)))))))))))
theorem laws_FnExactOtherNodes.mono_l : ∀ k, (∀ y0 y1 y2 y3 y4 y5 y6 y7 y8 y9 y10, LeO (laws_FnExactOtherNodes.j0 k y0 y1 y2 y3 y4 y5 y6 y7 y8 y9 y10) (laws_FnExactOtherNodes.j0 (k + 1) y0 y1 y2 y3 y4 y5 y6 y7 y8 y9 y10)) ∧ (∀ y0 y1 y2 y3 y4 y5 y6, LeO (laws_FnExactOtherNodes.j1 k y0 y1 y2 y3 y4 y5 y6) (laws_FnExactOtherNodes.j1 (k + 1) y0 y1 y2 y3 y4 y5 y6)) ∧ (∀ y0 y1 y2, LeO (laws_FnExactOtherNodes.j2 k y0 y1 y2) (laws_FnExactOtherNodes.j2 (k + 1) y0 y1 y2))
 | 0 => ⟨fun _ _ _ _ _ _ _ _ _ _ _ r h => by simp [laws_FnExactOtherNodes.j0] at h, fun _ _ _ _ _ _ _ r h => by simp [laws_FnExactOtherNodes.j1] at h, fun _ _ _ r h => by simp [laws_FnExactOtherNodes.j2] at h⟩
 | k + 1 => by
  obtain ⟨ih0, ih1, ih2⟩ := laws_FnExactOtherNodes.mono_l k
  refine ⟨?_, ?_, ?_⟩
  · intro y0 y1 y2 y3 y4 y5 y6 y7 y8 y9 y10
    unfold laws_FnExactOtherNodes.j0
    repeat' first
    | (with_reducible exact ih0 _ _ _ _ _ _ _ _ _ _ _)
    | (with_reducible exact ih1 _ _ _ _ _ _ _)
    | (with_reducible exact ih2 _ _ _)
    | (with_reducible exact impl_OtherNodes.mono _ _ _ _)
    | (with_reducible exact laws_eqGraph.mono _ _ _ _ _)
    | (with_reducible exact laws_eqIntS.mono _ _ _)
    | (with_reducible exact laws_heldIntS.mono _ _ _)
    | (with_reducible exact laws_markIntS.mono _ _ _)
    | (with_reducible exact laws_toGraph.mono _ _ _)
    | (with_reducible exact laws_toIntS.mono _ _)
    | (with_reducible exact spec_OtherNodes.mono _ _ _ _)
    | (with_reducible exact LeO.refl _)
    | (with_reducible exact LeO.none _)
    | (with_reducible refine LeO.ite ?_ ?_)
    | (with_reducible refine LeO.bind ?_ (fun _ => ?_))
    | exact ih0 _ _ _ _ _ _ _ _ _ _ _
    | exact ih1 _ _ _ _ _ _ _
    | exact ih2 _ _ _
    | exact impl_OtherNodes.mono _ _ _ _
    | exact laws_eqGraph.mono _ _ _ _ _
    | exact laws_eqIntS.mono _ _ _
    | exact laws_heldIntS.mono _ _ _
    | exact laws_markIntS.mono _ _ _
    | exact laws_toGraph.mono _ _ _
    | exact laws_toIntS.mono _ _
    | exact spec_OtherNodes.mono _ _ _ _
    | exact LeO.none _
    | refine LeO.ite ?_ ?_
    | refine LeO.bind ?_ (fun _ => ?_)
  · intro y0 y1 y2 y3 y4 y5 y6
    unfold laws_FnExactOtherNodes.j1
    repeat' first
    | (with_reducible exact ih0 _ _ _ _ _ _ _ _ _ _ _)
    | (with_reducible exact ih1 _ _ _ _ _ _ _)
    | (with_reducible exact ih2 _ _ _)
    | (with_reducible exact impl_OtherNodes.mono _ _ _ _)
    | (with_reducible exact laws_eqGraph.mono _ _ _ _ _)
    | (with_reducible exact laws_eqIntS.mono _ _ _)
    | (with_reducible exact laws_heldIntS.mono _ _ _)
    | (with_reducible exact laws_markIntS.mono _ _ _)
    | (with_reducible exact laws_toGraph.mono _ _ _)
    | (with_reducible exact laws_toIntS.mono _ _)
    | (with_reducible exact spec_OtherNodes.mono _ _ _ _)
    | (with_reducible exact LeO.refl _)
    | (with_reducible exact LeO.none _)
    | (with_reducible refine LeO.ite ?_ ?_)
    | (with_reducible refine LeO.bind ?_ (fun _ => ?_))
    | exact ih0 _ _ _ _ _ _ _ _ _ _ _
    | exact ih1 _ _ _ _ _ _ _
    | exact ih2 _ _ _
    | exact impl_OtherNodes.mono _ _ _ _
    | exact laws_eqGraph.mono _ _ _ _ _
    | exact laws_eqIntS.mono _ _ _
    | exact laws_heldIntS.mono _ _ _
    | exact laws_markIntS.mono _ _ _
    | exact laws_toGraph.mono _ _ _
    | exact laws_toIntS.mono _ _
    | exact spec_OtherNodes.mono _ _ _ _
    | exact LeO.none _
    | refine LeO.ite ?_ ?_
    | refine LeO.bind ?_ (fun _ => ?_)
  · intro y0 y1 y2
    unfold laws_FnExactOtherNodes.j2
    repeat' first
    | (with_reducible exact ih0 _ _ _ _ _ _ _ _ _ _ _)
    | (with_reducible exact ih1 _ _ _ _ _ _ _)
    | (with_reducible exact ih2 _ _ _)
    | (with_reducible exact impl_OtherNodes.mono _ _ _ _)
    | (with_reducible exact laws_eqGraph.mono _ _ _ _ _)
    | (with_reducible exact laws_eqIntS.mono _ _ _)
    | (with_reducible exact laws_heldIntS.mono _ _ _)
    | (with_reducible exact laws_markIntS.mono _ _ _)
    | (with_reducible exact laws_toGraph.mono _ _ _)
    | (with_reducible exact laws_toIntS.mono _ _)
    | (with_reducible exact spec_OtherNodes.mono _ _ _ _)
    | (with_reducible exact LeO.refl _)
    | (with_reducible exact LeO.none _)
    | (with_reducible refine LeO.ite ?_ ?_)
    | (with_reducible refine LeO.bind ?_ (fun _ => ?_))
    | exact ih0 _ _ _ _ _ _ _ _ _ _ _
    | exact ih1 _ _ _ _ _ _ _
    | exact ih2 _ _ _
    | exact impl_OtherNodes.mono _ _ _ _
    | exact laws_eqGraph.mono _ _ _ _ _
    | exact laws_eqIntS.mono _ _ _
    | exact laws_heldIntS.mono _ _ _
    | exact laws_markIntS.mono _ _ _
    | exact laws_toGraph.mono _ _ _
    | exact laws_toIntS.mono _ _
    | exact spec_OtherNodes.mono _ _ _ _
    | exact LeO.none _
    | refine LeO.ite ?_ ?_
    | refine LeO.bind ?_ (fun _ => ?_)
theorem laws_FnExactOtherNodes.mono : ∀ a0 a1 a2 k, LeO (laws_FnExactOtherNodes.f k a0 a1 a2) (laws_FnExactOtherNodes.f (k + 1) a0 a1 a2) := by
 intro a0 a1 a2 k
 obtain ⟨ih0, ih1, ih2⟩ := laws_FnExactOtherNodes.mono_l k
 unfold laws_FnExactOtherNodes.f
 repeat' first
  | (with_reducible exact ih0 _ _ _ _ _ _ _ _ _ _ _)
  | (with_reducible exact ih1 _ _ _ _ _ _ _)
  | (with_reducible exact ih2 _ _ _)
  | (with_reducible exact impl_OtherNodes.mono _ _ _ _)
  | (with_reducible exact laws_eqGraph.mono _ _ _ _ _)
  | (with_reducible exact laws_eqIntS.mono _ _ _)
  | (with_reducible exact laws_heldIntS.mono _ _ _)
  | (with_reducible exact laws_markIntS.mono _ _ _)
  | (with_reducible exact laws_toGraph.mono _ _ _)
  | (with_reducible exact laws_toIntS.mono _ _)
  | (with_reducible exact spec_OtherNodes.mono _ _ _ _)
  | (with_reducible exact LeO.refl _)
  | (with_reducible exact LeO.none _)
  | (with_reducible refine LeO.ite ?_ ?_)
  | (with_reducible refine LeO.bind ?_ (fun _ => ?_))
  | exact ih0 _ _ _ _ _ _ _ _ _ _ _
  | exact ih1 _ _ _ _ _ _ _
  | exact ih2 _ _ _
  | exact impl_OtherNodes.mono _ _ _ _
  | exact laws_eqGraph.mono _ _ _ _ _
  | exact laws_eqIntS.mono _ _ _
  | exact laws_heldIntS.mono _ _ _
  | exact laws_markIntS.mono _ _ _
  | exact laws_toGraph.mono _ _ _
  | exact laws_toIntS.mono _ _
  | exact spec_OtherNodes.mono _ _ _ _
  | exact LeO.none _
  | refine LeO.ite ?_ ?_
  | refine LeO.bind ?_ (fun _ => ?_)
set_option maxHeartbeats 8000000 in
set_option maxRecDepth 100000 in
theorem laws_FnExactOtherNodes.calls (k : Nat) (a0_0 : Int) (A0_1 : Option Addr) (c0_1 : Nat) (l0_1 : List (S68)) (A1 : Option Addr) (c1 : Nat) (l1 : List Int) (r : Bool) (w : World) (hr0_1 : Kd.C k68 w A0_1 l0_1.length l0_1) (hc0_1 : l0_1.length ≤ c0_1) (hr1 : Kd.C (Kd.int .i64) w A1 l1.length l1) (hc1 : l1.length ≤ c1) (h : laws_FnExactOtherNodes.f k a0_0 l0_1 l1 = some r) :
 Calls Try.prog 7 #[.agg #[.int .i64 a0_0, .slice A0_1 l0_1.length c0_1], .slice A1 l1.length c1] w fun e w' => e = .returned (.bool r) ∧ Below w.heap.size w w' := by
 have hu24 := Try.underlying24
 have hu27 := Try.underlying27
 have HR0_1 := Aside0.mk hr0_1
 have HC0_1 := Aside0.mk hc0_1
 clear hr0_1 hc0_1
 have HR1 := Aside0.mk hr1
 have HC1 := Aside0.mk hc1
 clear hr1 hc1
 have HB := zM (Below.refl w.heap.size w)
 have H : (if (l1.length : Int) > 1048576 then (some true) else ((laws_szGraph.f a0_0 l0_1 1048576).bind fun t430 => (if t430 < 0 then (some true) else ((laws_toGraph.f k a0_0 l0_1).bind fun bt431 => ((laws_toIntS.f k l1).bind fun t435 => ((spec_OtherNodes.f k bt431.1 bt431.2 t435).bind fun bt438 => ((laws_toGraph.f k a0_0 l0_1).bind fun bt442 => ((laws_toIntS.f k l1).bind fun t447 => ((impl_OtherNodes.f k bt442.1 bt442.2 t447).bind fun bt450 => ((laws_eqIntS.f k bt450.1 bt438.1).bind fun t454 => (if t454 = true then (laws_FnExactOtherNodes.j0 k l1 bt438.1 bt438.2 t447 bt450.1 bt450.2 (bt450.2 != bt438.2) a0_0 l0_1 bt442.1 bt442.2) else (laws_FnExactOtherNodes.j0 k l1 bt438.1 bt438.2 t447 bt450.1 bt450.2 true a0_0 l0_1 bt442.1 bt442.2)))))))))))) = some r := h
 clear h
 by_cases c3 : (l1.length : Int) > 1048576
 · rw [if_pos c3] at H
   have c3b0 : decide (1048576 < (l1.length : Int)) = true := decide_eq_true c3
   have c3b1 : decide (1048576 < l1.length) = true := decide_eq_true (by omega)
   clear c3
   obtain rfl := Option.some.inj H
   go_enter Try.func7, Try.ntmps7
   go_wp2_with (first | ((with_reducible refine gate_dst (N := 2) rfl ?_); refine zb (w := w) 2 #[.int .i64 a0_0, .slice A0_1 l0_1.length c0_1] 24 zB ?_; clear HB; intro gb429 w4 HB BK429 GW429; have GE429 := GW429))
   go_ret
   exact ⟨by first | rfl | (simp [errW_none, errW_some] <;> rfl) | (simp [*, errW_none, errW_some] <;> rfl), zB⟩
 · rw [if_neg c3] at H
   have c3b0 : decide (1048576 < (l1.length : Int)) = false := decide_eq_false c3
   have c3b1 : decide (1048576 < l1.length) = false := decide_eq_false (by omega)
   clear c3
   replace H := Option.bind_eq_some_iff.mp H
   obtain ⟨t430, A50, H⟩ := H
   have A5 := Aside0.mk A50
   clear A50
   by_cases c6 : t430 < 0
   · rw [if_pos c6] at H
     have c6b0 := decide_eq_true c6
     clear c6
     obtain rfl := Option.some.inj H
     go_enter Try.func7, Try.ntmps7
     go_wp2_with (first | ((with_reducible refine gate_dst (N := 2) rfl ?_); refine zb (w := w) 2 #[.int .i64 a0_0, .slice A0_1 l0_1.length c0_1] 24 zB ?_; clear HB; intro gb429 w7 HB BK429 GW429; have GE429 := GW429; have hcz8_0 := zy BK429 0; have hcz8_1 := zy BK429 1; have hfz8_0 := blk_frozen BK429.out 0; have hfz8_1 := blk_frozen BK429.out 1) | ((with_reducible refine gate_callee (f := 15) rfl ?_); refine zc 22 Try.func15 #[.agg #[.int .i64 a0_0, .slice A0_1 l0_1.length c0_1], .int .i64 1048576] ?_; (with_reducible refine (laws_szGraph.calls a0_0 _ _ l0_1 1048576 t430 _ ?side1 ?side2 A5.out).mono ?_); (case side1 => exact zC (Kd.C_below HR0_1.out HB.out)); (case side2 => exact HC0_1.out); rintro e w9 ⟨rfl, hb⟩; refine ⟨_, rfl, ?_⟩; replace BK429 := zM (blk_below (g := gb429) (o := .cells #[.int .i64 a0_0, .slice A0_1 l0_1.length c0_1] 24 (0, 0)) (zK BK429.out) hb); replace HB := zM (below_step zB hb); (try clear hb); (try clear hb2); (try clear hk); (try clear hi)))
     go_ret
     exact ⟨by first | rfl | (simp [errW_none, errW_some] <;> rfl) | (simp [*, errW_none, errW_some] <;> rfl), zB⟩
   · rw [if_neg c6] at H
     have c6b0 : decide (t430 < 0) = false := decide_eq_false c6
     clear c6
     replace H := Option.bind_eq_some_iff.mp H
     obtain ⟨⟨t431, t432⟩, A100, H⟩ := H
     replace H : ((laws_toIntS.f k l1).bind fun t435 => ((spec_OtherNodes.f k t431 t432 t435).bind fun bt438 => ((laws_toGraph.f k a0_0 l0_1).bind fun bt442 => ((laws_toIntS.f k l1).bind fun t447 => ((impl_OtherNodes.f k bt442.1 bt442.2 t447).bind fun bt450 => ((laws_eqIntS.f k bt450.1 bt438.1).bind fun t454 => (if t454 = true then (laws_FnExactOtherNodes.j0 k l1 bt438.1 bt438.2 t447 bt450.1 bt450.2 (bt450.2 != bt438.2) a0_0 l0_1 bt442.1 bt442.2) else (laws_FnExactOtherNodes.j0 k l1 bt438.1 bt438.2 t447 bt450.1 bt450.2 true a0_0 l0_1 bt442.1 bt442.2)))))))) = some r := H
     have A10 := Aside0.mk A100
     clear A100
     replace H := Option.bind_eq_some_iff.mp H
     obtain ⟨t435, A110, H⟩ := H
     have A11 := Aside0.mk A110
     clear A110
     replace H := Option.bind_eq_some_iff.mp H
     obtain ⟨⟨t438, t441⟩, A120, H⟩ := H
     replace H : ((laws_toGraph.f k a0_0 l0_1).bind fun bt442 => ((laws_toIntS.f k l1).bind fun t447 => ((impl_OtherNodes.f k bt442.1 bt442.2 t447).bind fun bt450 => ((laws_eqIntS.f k bt450.1 t438).bind fun t454 => (if t454 = true then (laws_FnExactOtherNodes.j0 k l1 t438 t441 t447 bt450.1 bt450.2 (bt450.2 != t441) a0_0 l0_1 bt442.1 bt442.2) else (laws_FnExactOtherNodes.j0 k l1 t438 t441 t447 bt450.1 bt450.2 true a0_0 l0_1 bt442.1 bt442.2)))))) = some r := H
     have A12 := Aside0.mk A120
     clear A120
     replace H := Option.bind_eq_some_iff.mp H
     obtain ⟨⟨t442, t443⟩, A130, H⟩ := H
     replace H : ((laws_toIntS.f k l1).bind fun t447 => ((impl_OtherNodes.f k t442 t443 t447).bind fun bt450 => ((laws_eqIntS.f k bt450.1 t438).bind fun t454 => (if t454 = true then (laws_FnExactOtherNodes.j0 k l1 t438 t441 t447 bt450.1 bt450.2 (bt450.2 != t441) a0_0 l0_1 t442 t443) else (laws_FnExactOtherNodes.j0 k l1 t438 t441 t447 bt450.1 bt450.2 true a0_0 l0_1 t442 t443))))) = some r := H
     have A13 := Aside0.mk A130
     clear A130
     replace H := Option.bind_eq_some_iff.mp H
     obtain ⟨t447, A140, H⟩ := H
     have A14 := Aside0.mk A140
     clear A140
     replace H := Option.bind_eq_some_iff.mp H
     obtain ⟨⟨t450, t453⟩, A150, H⟩ := H
     replace H : ((laws_eqIntS.f k t450 t438).bind fun t454 => (if t454 = true then (laws_FnExactOtherNodes.j0 k l1 t438 t441 t447 t450 t453 (t453 != t441) a0_0 l0_1 t442 t443) else (laws_FnExactOtherNodes.j0 k l1 t438 t441 t447 t450 t453 true a0_0 l0_1 t442 t443))) = some r := H
     have A15 := Aside0.mk A150
     clear A150
     have HC16 := Aside0.mk H
     clear H
     go_enter Try.func7, Try.ntmps7
     go_upto_region 11 with (first | ((with_reducible refine gate_dst (N := 2) rfl ?_); refine zb (w := w) 2 #[.int .i64 a0_0, .slice A0_1 l0_1.length c0_1] 24 zB ?_; clear HB; intro gb429 w17 HB BK429 GW429; have GE429 := GW429; have hcz18_0 := zy BK429 0; have hcz18_1 := zy BK429 1; have hfz18_0 := blk_frozen BK429.out 0; have hfz18_1 := blk_frozen BK429.out 1) | ((with_reducible refine gate_callee (f := 15) rfl ?_); refine zc 22 Try.func15 #[.agg #[.int .i64 a0_0, .slice A0_1 l0_1.length c0_1], .int .i64 1048576] ?_; (with_reducible refine (laws_szGraph.calls a0_0 _ _ l0_1 1048576 t430 _ ?side1 ?side2 A5.out).mono ?_); (case side1 => exact zC (Kd.C_below HR0_1.out HB.out)); (case side2 => exact HC0_1.out); rintro e w19 ⟨rfl, hb⟩; refine ⟨_, rfl, ?_⟩; replace BK429 := zM (blk_below (g := gb429) (o := .cells #[.int .i64 a0_0, .slice A0_1 l0_1.length c0_1] 24 (0, 0)) (zK BK429.out) hb); replace HB := zM (below_step zB hb); (try clear hb); (try clear hb2); (try clear hk); (try clear hi); have hcz20_0 := zy BK429 0; have hcz20_1 := zy BK429 1; have hfz20_0 := blk_frozen BK429.out 0; have hfz20_1 := blk_frozen BK429.out 1) | ((with_reducible refine gate_callee (f := 17) rfl ?_); refine zc 27 Try.func17 #[.agg #[.int .i64 a0_0, .slice A0_1 l0_1.length c0_1]] ?_; (with_reducible refine (laws_toGraph.calls k a0_0 _ _ l0_1 t431 t432 _ ?side1 ?side2 A10.out).mono ?_); (case side1 => exact zC (Kd.C_below HR0_1.out HB.out)); (case side2 => exact HC0_1.out); rintro e w21 ⟨v433, rfl, ho0, hb⟩; refine ⟨_, rfl, ?_⟩; have HO434 := zM (Kd.R_lower ho0 (below_size zB)); replace BK429 := zM (blk_below (g := gb429) (o := .cells #[.int .i64 a0_0, .slice A0_1 l0_1.length c0_1] 24 (0, 0)) (zK BK429.out) hb); replace HB := zM (below_step zB hb); (try clear hb); (try clear hb2); (try clear hk); (try clear hi); (try clear ho0)) | ((with_reducible refine gate_callee (f := 25) rfl ?_); refine zc 29 Try.func25 #[.slice A1 l1.length c1] ?_; (with_reducible refine (laws_toIntS.calls k _ _ l1 t435 _ ?side1 ?side2 A11.out).mono ?_); (case side1 => exact zC (Kd.C_below HR1.out HB.out)); (case side2 => exact HC1.out); rintro e w22 ⟨v436, rfl, ho0, hb⟩; refine ⟨_, rfl, ?_⟩; replace HO434 := zM (Kd.R_below (zR HO434.out) hb); have HO437 := zM (Kd.R_lower ho0 (below_size zB)); replace BK429 := zM (blk_below (g := gb429) (o := .cells #[.int .i64 a0_0, .slice A0_1 l0_1.length c0_1] 24 (0, 0)) (zK BK429.out) hb); replace HB := zM (below_step zB hb); (try clear hb); (try clear hb2); (try clear hk); (try clear hi); (try clear ho0); obtain ⟨Ao23, co23, eo23⟩ := Kd.R_slice HO434.out; subst eo23; obtain ⟨Ao24, co24, eo24⟩ := Kd.R_slice HO437.out; subst eo24) | ((with_reducible refine gate_callee (f := 32) rfl ?_); refine zc 30 Try.func32 #[.agg #[.int .i64 t431, .slice Ao23 t432.length co23], .slice Ao24 t435.length co24] ?_; (with_reducible refine (spec_OtherNodes.calls k t431 _ _ t432 _ _ t435 t438 t441 _ ?side1 ?side2 ?side3 ?side4 A12.out).mono ?_); (case side1 => exact zC (Kd.R_reads' HO434.out).2.2); (case side2 => exact (Kd.R_reads' HO434.out).2.1); (case side3 => exact zC (Kd.R_reads' HO437.out).2.2); (case side4 => exact (Kd.R_reads' HO437.out).2.1); rintro e w25 ⟨v439, rfl, ho0, hb⟩; refine ⟨_, rfl, ?_⟩; replace HO434 := zM (Kd.R_below (zR HO434.out) hb); have HO440 := zM (Kd.R_lower (Kd.R_new' ho0 (Kd.R_lt (zR HO437.out))) (below_size zB)); replace HO437 := zM (Kd.R_elder' (zR HO437.out) (Kd.R_base ho0) hb); replace BK429 := zM (blk_below (g := gb429) (o := .cells #[.int .i64 a0_0, .slice A0_1 l0_1.length c0_1] 24 (0, 0)) (zK BK429.out) hb); replace HB := zM (below_step zB hb); (try clear hb); (try clear hb2); (try clear hk); (try clear hi); (try clear ho0); have hcz26_0 := zy BK429 0; have hcz26_1 := zy BK429 1; have hfz26_0 := blk_frozen BK429.out 0; have hfz26_1 := blk_frozen BK429.out 1) | ((with_reducible refine gate_callee (f := 17) rfl ?_); refine zc 34 Try.func17 #[.agg #[.int .i64 a0_0, .slice A0_1 l0_1.length c0_1]] ?_; (with_reducible refine (laws_toGraph.calls k a0_0 _ _ l0_1 t442 t443 _ ?side1 ?side2 A13.out).mono ?_); (case side1 => exact zC (Kd.C_below HR0_1.out HB.out)); (case side2 => exact HC0_1.out); rintro e w27 ⟨v444, rfl, ho0, hb⟩; refine ⟨_, rfl, ?_⟩; replace HO437 := zM (Kd.R_below (zR HO437.out) hb); replace HO440 := zM (Kd.R_below (zR HO440.out) hb); have HO445 := zM (Kd.R_lower (Kd.R_new' ho0 (Kd.R_lt (zR HO434.out))) (below_size zB)); replace HO434 := zM (Kd.R_elder' (zR HO434.out) (Kd.R_base ho0) hb); replace BK429 := zM (blk_below (g := gb429) (o := .cells #[.int .i64 a0_0, .slice A0_1 l0_1.length c0_1] 24 (0, 0)) (zK BK429.out) hb); replace HB := zM (below_step zB hb); (try clear hb); (try clear hb2); (try clear hk); (try clear hi); (try clear ho0)) | ((with_reducible refine gate_dst (N := 8) rfl ?_); refine ze 8 #[.int .i64 0, .slice none 0 0] 27 ?_; intro gb446 hg w28 hbox hb; replace HO434 := zM (Kd.R_below (zR HO434.out) hb); replace HO437 := zM (Kd.R_below (zR HO437.out) hb); replace HO440 := zM (Kd.R_below (zR HO440.out) hb); replace HO445 := zM (Kd.R_below (zR HO445.out) hb); have BK446 := zM (hbox); have GW446 := zM ((by rw [hg]; exact (below_size zB) : w.heap.size ≤ gb446)); have GE446 := zM ((by rw [hg]; exact (below_size zB) : w.heap.size ≤ gb446)); replace HB := zM (below_step zB hb); have NB429_446 := zM ((by rw [hg]; exact Nat.ne_of_lt (blk_lt (g := gb429) (o := .cells #[.int .i64 a0_0, .slice A0_1 l0_1.length c0_1] 24 (0, 0)) (zK BK429.out)) : gb429 ≠ gb446)); have NB446_429 := zM ((by rw [hg]; exact Nat.ne_of_gt (blk_lt (g := gb429) (o := .cells #[.int .i64 a0_0, .slice A0_1 l0_1.length c0_1] 24 (0, 0)) (zK BK429.out)) : gb446 ≠ gb429)); replace BK429 := zM (blk_below (g := gb429) (o := .cells #[.int .i64 a0_0, .slice A0_1 l0_1.length c0_1] 24 (0, 0)) (zK BK429.out) hb); clear hb hbox hg; have hnb29 := NB446_429.out; have hnc29 := NB429_446.out; have hcz30_0 := zy BK446 0; have hcz30_1 := zy BK446 1; have hfz30_0 := blk_frozen BK446.out 0; have hfz30_1 := blk_frozen BK446.out 1; obtain ⟨Ao31, co31, eo31⟩ := Kd.R_slice HO445.out; subst eo31) | ((with_reducible refine gate_callee (f := 25) rfl ?_); refine zc 36 Try.func25 #[.slice A1 l1.length c1] ?_; (with_reducible refine (laws_toIntS.calls k _ _ l1 t447 _ ?side1 ?side2 A14.out).mono ?_); (case side1 => exact Kd.C_below HR1.out zB); (case side2 => exact HC1.out); rintro e w32 ⟨v448, rfl, ho0, hb⟩; refine ⟨_, rfl, ?_⟩; replace HO434 := zM (Kd.R_below (by (with_reducible repeat (first | apply Kd.R_alloc | apply Kd.R_drewN | apply Kd.R_drew)); exact (Kd.R_mono (Kd.R_far (p := ⟨gb446, 1, none⟩) (Kd.R_far (p := ⟨gb446, 0, none⟩) (Kd.R_types HO434.out BK446.out (by decide)) (fun _ hk => hk.2) (.int .i64 t442)) (fun _ hk => hk.2) (.slice Ao31 t443.length co31)) (fun _ h_ => h_.1))) hb); replace HO445 := zM (Kd.R_below (by (with_reducible repeat (first | apply Kd.R_alloc | apply Kd.R_drewN | apply Kd.R_drew)); exact (Kd.R_mono (Kd.R_far (p := ⟨gb446, 1, none⟩) (Kd.R_far (p := ⟨gb446, 0, none⟩) (Kd.R_types HO445.out BK446.out (by decide)) (fun _ hk => hk.2) (.int .i64 t442)) (fun _ hk => hk.2) (.slice Ao31 t443.length co31)) (fun _ h_ => h_.1))) hb); have HO449 := zM (Kd.R_lower (Kd.R_new' (Kd.R_new' ho0 (Kd.R_lt (by (with_reducible repeat (first | apply Kd.R_alloc | apply Kd.R_drewN | apply Kd.R_drew)); exact (Kd.R_mono (Kd.R_far (p := ⟨gb446, 1, none⟩) (Kd.R_far (p := ⟨gb446, 0, none⟩) (Kd.R_types HO437.out BK446.out (by decide)) (fun _ hk => hk.2) (.int .i64 t442)) (fun _ hk => hk.2) (.slice Ao31 t443.length co31)) (fun _ h_ => h_.1))))) (Kd.R_lt (by (with_reducible repeat (first | apply Kd.R_alloc | apply Kd.R_drewN | apply Kd.R_drew)); exact (Kd.R_mono (Kd.R_far (p := ⟨gb446, 1, none⟩) (Kd.R_far (p := ⟨gb446, 0, none⟩) (Kd.R_types HO440.out BK446.out (by decide)) (fun _ hk => hk.2) (.int .i64 t442)) (fun _ hk => hk.2) (.slice Ao31 t443.length co31)) (fun _ h_ => h_.1))))) (below_size zB)); replace HO437 := zM (Kd.R_elder' (by (with_reducible repeat (first | apply Kd.R_alloc | apply Kd.R_drewN | apply Kd.R_drew)); exact (Kd.R_mono (Kd.R_far (p := ⟨gb446, 1, none⟩) (Kd.R_far (p := ⟨gb446, 0, none⟩) (Kd.R_types HO437.out BK446.out (by decide)) (fun _ hk => hk.2) (.int .i64 t442)) (fun _ hk => hk.2) (.slice Ao31 t443.length co31)) (fun _ h_ => h_.1))) (Kd.R_base ho0) hb); replace HO440 := zM (Kd.R_elder' (by (with_reducible repeat (first | apply Kd.R_alloc | apply Kd.R_drewN | apply Kd.R_drew)); exact (Kd.R_mono (Kd.R_far (p := ⟨gb446, 1, none⟩) (Kd.R_far (p := ⟨gb446, 0, none⟩) (Kd.R_types HO440.out BK446.out (by decide)) (fun _ hk => hk.2) (.int .i64 t442)) (fun _ hk => hk.2) (.slice Ao31 t443.length co31)) (fun _ h_ => h_.1))) (Kd.R_base ho0) hb); replace BK429 := zM (blk_below (g := gb429) (o := .cells #[.int .i64 a0_0, .slice A0_1 l0_1.length c0_1] 24 (0, 0)) (by (with_reducible repeat (first | refine blk_drewN ?_ _ | refine blk_drew ?_ | refine blk_alloc ?_ _)); refine blk_far ?_ NB429_446.out _; (with_reducible repeat (first | refine blk_drewN ?_ _ | refine blk_drew ?_ | refine blk_alloc ?_ _)); refine blk_far ?_ NB429_446.out _; (with_reducible repeat (first | refine blk_drewN ?_ _ | refine blk_drew ?_ | refine blk_alloc ?_ _)); exact BK429.out) hb); replace BK446 := zM (blk_below (g := gb446) (o := .cells #[.int .i64 t442, .slice Ao31 t443.length co31] 27 (0, 0)) (by (with_reducible repeat (first | refine blk_drewN ?_ _ | refine blk_drew ?_ | refine blk_alloc ?_ _)); refine blk_put (cs := #[.int .i64 t442, .slice none 0 0]) ?_ 1 _ rfl; (with_reducible repeat (first | refine blk_drewN ?_ _ | refine blk_drew ?_ | refine blk_alloc ?_ _)); refine blk_put (cs := #[.int .i64 0, .slice none 0 0]) ?_ 0 _ rfl; (with_reducible repeat (first | refine blk_drewN ?_ _ | refine blk_drew ?_ | refine blk_alloc ?_ _)); exact BK446.out) hb); replace HB := zM (below_step zB hb); (try clear hb); (try clear hb2); (try clear hk); (try clear hi); (try clear ho0); have hcz33_0 := zy BK446 0; have hcz33_1 := zy BK446 1; have hfz33_0 := blk_frozen BK446.out 0; have hfz33_1 := blk_frozen BK446.out 1; obtain ⟨Ao34, co34, eo34⟩ := Kd.R_slice HO449.out; subst eo34) | ((with_reducible refine gate_callee (f := 33) rfl ?_); refine zc 40 Try.func33 #[.agg #[.int .i64 t442, .slice Ao31 t443.length co31], .slice Ao34 t447.length co34] ?_; (with_reducible refine (impl_OtherNodes.calls k t442 _ _ t443 _ _ t447 t450 t453 _ ?side1 ?side2 ?side3 ?side4 A15.out).mono ?_); (case side1 => exact zC (Kd.R_reads' HO445.out).2.2); (case side2 => exact (Kd.R_reads' HO445.out).2.1); (case side3 => exact zC (Kd.R_reads' HO449.out).2.2); (case side4 => exact (Kd.R_reads' HO449.out).2.1); rintro e w35 ⟨v451, rfl, ho0, hb⟩; refine ⟨_, rfl, ?_⟩; replace HO434 := zM (Kd.R_below (zR HO434.out) hb); replace HO445 := zM (Kd.R_below (zR HO445.out) hb); have HO452 := zM (Kd.R_lower (Kd.R_new' (Kd.R_new' (Kd.R_new' ho0 (Kd.R_lt (zR HO437.out))) (Kd.R_lt (zR HO440.out))) (Kd.R_lt (zR HO449.out))) (below_size zB)); replace HO437 := zM (Kd.R_elder' (zR HO437.out) (Kd.R_base ho0) hb); replace HO440 := zM (Kd.R_elder' (zR HO440.out) (Kd.R_base ho0) hb); replace HO449 := zM (Kd.R_elder' (zR HO449.out) (Kd.R_base ho0) hb); replace BK429 := zM (blk_below (g := gb429) (o := .cells #[.int .i64 a0_0, .slice A0_1 l0_1.length c0_1] 24 (0, 0)) (zK BK429.out) hb); replace BK446 := zM (blk_below (g := gb446) (o := .cells #[.int .i64 t442, .slice Ao31 t443.length co31] 27 (0, 0)) (zK BK446.out) hb); replace HB := zM (below_step zB hb); (try clear hb); (try clear hb2); (try clear hk); (try clear hi); (try clear ho0)))
     (try simp only [Act.put, List.setIfInBounds_toArray, List.set_cons_zero, List.set_cons_succ])
     go_cut [51] (fun v51 wc => ∃ (kq : Nat) (x51_15 : Bool), v51 = .bool x51_15 ∧ Aside0 (laws_FnExactOtherNodes.j0 kq l1 t438 t441 t447 t450 t453 x51_15 a0_0 l0_1 t442 t443 = some r) ∧ Aside0 (kq ≤ k) ∧ Aside0 (Kd.R (Kd.int .i64) 3 wc w.heap.size (fun k_ => some k_ ≠ ((.slice Ao34 t447.length co34) : Value).ownBlock ∧ some k_ ≠ (v451 : Value).ownBlock) v439 t438) ∧ Aside0 (Kd.R (Kd.int .i64) 3 wc w.heap.size (fun k_ => some k_ ≠ (v439 : Value).ownBlock ∧ some k_ ≠ (v451 : Value).ownBlock) (.slice Ao34 t447.length co34) t447) ∧ Aside0 (Kd.R (Kd.int .i64) 3 wc w.heap.size (fun k_ => some k_ ≠ (v439 : Value).ownBlock ∧ some k_ ≠ ((.slice Ao34 t447.length co34) : Value).ownBlock) v451 t450) ∧ Aside0 (Kd.R k68 68 wc w.heap.size (fun _ => True) (.slice Ao31 t443.length co31) t443) ∧ Aside0 (wc.heap[gb429]? = some (.cells #[.int .i64 a0_0, (.slice A0_1 l0_1.length c0_1)] 24 (0, 0))) ∧ Aside0 (wc.heap[gb446]? = some (.cells #[.int .i64 t442, (.slice Ao31 t443.length co31)] 27 (0, 0))) ∧ Aside0 (Below w.heap.size w wc))
     case first =>
      have H := HC16.out
      clear HC16
      replace H := Option.bind_eq_some_iff.mp H
      obtain ⟨t454, A360, H⟩ := H
      have A36 := Aside0.mk A360
      clear A360
      by_cases c37 : t454 = true
      · subst c37
        rw [if_pos rfl] at H
        have H' := Aside0.mk H
        clear H
        obtain ⟨Ao38, co38, eo38⟩ := Kd.R_slice HO452.out
        subst eo38
        obtain ⟨Ao39, co39, eo39⟩ := Kd.R_slice HO440.out
        subst eo39
        go_wp2_with (first | ((with_reducible refine gate_callee (f := 27) rfl ?_); refine zc 45 Try.func27 #[.slice Ao38 t450.length co38, .slice Ao39 t438.length co39] ?_; (with_reducible refine (laws_eqIntS.calls k _ _ t450 _ _ t438 true _ ?side1 ?side2 ?side3 ?side4 A36.out).mono ?_); (case side1 => exact zC (Kd.R_reads' HO452.out).2.2); (case side2 => exact (Kd.R_reads' HO452.out).2.1); (case side3 => exact zC (Kd.R_reads' HO440.out).2.2); (case side4 => exact (Kd.R_reads' HO440.out).2.1); rintro e w' ⟨rfl, ⟨nd, rfl⟩⟩; refine ⟨_, rfl, ?_⟩))
        go_meet
        case rel => exact ⟨_, ((t453 != t441)), (by first | rfl | (simp; done) | (simp [*]; done)), H', ⟨by first | omega | exact Nat.le_refl _⟩, ⟨by (with_reducible repeat (first | apply Kd.R_alloc | apply Kd.R_drewN | apply Kd.R_drew)); exact Kd.R_mono HO440.out (fun _ hk => ⟨hk.1.2, hk.2⟩)⟩, ⟨by (with_reducible repeat (first | apply Kd.R_alloc | apply Kd.R_drewN | apply Kd.R_drew)); exact Kd.R_mono HO449.out (fun _ hk => ⟨hk.1.2, hk.2⟩)⟩, ⟨by (with_reducible repeat (first | apply Kd.R_alloc | apply Kd.R_drewN | apply Kd.R_drew)); exact Kd.R_mono HO452.out (fun _ hk => ⟨hk.1.2, hk.2⟩)⟩, ⟨by (with_reducible repeat (first | apply Kd.R_alloc | apply Kd.R_drewN | apply Kd.R_drew)); exact Kd.R_mono HO445.out (fun _ hk => trivial)⟩, ⟨zK BK429.out⟩, ⟨zK BK446.out⟩, ⟨zB⟩⟩
      · replace c37 := Bool.eq_false_iff.mpr c37
        subst c37
        have H1 : (laws_FnExactOtherNodes.j0 k l1 t438 t441 t447 t450 t453 true a0_0 l0_1 t442 t443) = some r := by rw [if_neg (show ¬ (false = true) by decide)] at H; exact H
        clear H
        have H := H1
        clear H1
        have H' := Aside0.mk H
        clear H
        obtain ⟨Ao40, co40, eo40⟩ := Kd.R_slice HO452.out
        subst eo40
        obtain ⟨Ao41, co41, eo41⟩ := Kd.R_slice HO440.out
        subst eo41
        go_wp2_with (first | ((with_reducible refine gate_callee (f := 27) rfl ?_); refine zc 45 Try.func27 #[.slice Ao40 t450.length co40, .slice Ao41 t438.length co41] ?_; (with_reducible refine (laws_eqIntS.calls k _ _ t450 _ _ t438 false _ ?side1 ?side2 ?side3 ?side4 A36.out).mono ?_); (case side1 => exact zC (Kd.R_reads' HO452.out).2.2); (case side2 => exact (Kd.R_reads' HO452.out).2.1); (case side3 => exact zC (Kd.R_reads' HO440.out).2.2); (case side4 => exact (Kd.R_reads' HO440.out).2.1); rintro e w' ⟨rfl, ⟨nd, rfl⟩⟩; refine ⟨_, rfl, ?_⟩))
        go_meet
        case rel => exact ⟨_, (true), (by first | rfl | (simp; done) | (simp [*]; done)), H', ⟨by first | omega | exact Nat.le_refl _⟩, ⟨by (with_reducible repeat (first | apply Kd.R_alloc | apply Kd.R_drewN | apply Kd.R_drew)); exact Kd.R_mono HO440.out (fun _ hk => ⟨hk.1.2, hk.2⟩)⟩, ⟨by (with_reducible repeat (first | apply Kd.R_alloc | apply Kd.R_drewN | apply Kd.R_drew)); exact Kd.R_mono HO449.out (fun _ hk => ⟨hk.1.2, hk.2⟩)⟩, ⟨by (with_reducible repeat (first | apply Kd.R_alloc | apply Kd.R_drewN | apply Kd.R_drew)); exact Kd.R_mono HO452.out (fun _ hk => ⟨hk.1.2, hk.2⟩)⟩, ⟨by (with_reducible repeat (first | apply Kd.R_alloc | apply Kd.R_drewN | apply Kd.R_drew)); exact Kd.R_mono HO445.out (fun _ hk => trivial)⟩, ⟨zK BK429.out⟩, ⟨zK BK446.out⟩, ⟨zB⟩⟩
     case rest =>
      clear HC16
      try clear c1
      try clear c2
      try clear p2
      try clear c3
      try clear c3b0
      try clear c3b1
      try clear c6
      try clear c6b0
      try clear c7
      try clear c15
      try clear c17
      try clear c25
      try clear c27
      try clear c29
      try clear c32
      try clear c33
      try clear c37
      try clear hcz18_0
      try clear hcz18_1
      try clear hcz20_0
      try clear hcz20_1
      try clear hcz26_0
      try clear hcz26_1
      try clear hcz30_0
      try clear hcz30_1
      try clear hcz33_0
      try clear hcz33_1
      try clear hcz8_0
      try clear hcz8_1
      try clear hfz18_0
      try clear hfz18_1
      try clear hfz20_0
      try clear hfz20_1
      try clear hfz26_0
      try clear hfz26_1
      try clear hfz30_0
      try clear hfz30_1
      try clear hfz33_0
      try clear hfz33_1
      try clear hfz8_0
      try clear hfz8_1
      obtain ⟨kq, x51_15, rfl, HA, HJ15, HO_6, HO_9, HO_10, HO_447001, BK429, BK446, HB⟩ := hcut
      cases kq with
      | zero => exact absurd HA.out (by simp [laws_FnExactOtherNodes.j0])
      | succ kj15 =>
       have H := HA.out
       clear HA
       simp only [laws_FnExactOtherNodes.j0] at H
       by_cases c42 : x51_15 = true
       · subst c42
         rw [if_pos rfl] at H
         obtain rfl := Option.some.inj H
         go_wp2
         go_ret
         exact ⟨by first | rfl | (simp [errW_none, errW_some] <;> rfl) | (simp [*, errW_none, errW_some] <;> rfl), zB⟩
       · replace c42 := Bool.eq_false_iff.mpr c42
         subst c42
         have H1 : ((laws_toGraph.f kj15 a0_0 l0_1).bind fun bt455 => ((laws_eqGraph.f kj15 t442 t443 bt455.1 bt455.2).bind fun t459 => (if t459 = true then ((laws_toIntS.f kj15 l1).bind fun t460 => ((laws_eqIntS.f kj15 t447 t460).bind fun t463 => (if t463 = true then ((laws_markGraph.f t442 t443 1).bind fun bt464 => ((laws_markIntS.f kj15 t447 bt464.1).bind fun bt466 => (if bt466.1 < 0 then (laws_FnExactOtherNodes.j1 kj15 l1 t438 t441 t450 true a0_0 l0_1) else ((laws_eqIntS.f kj15 t450 t438).bind fun t468 => (if t468 = true then (laws_FnExactOtherNodes.j1 kj15 l1 t438 t441 t450 (t453 != t441) a0_0 l0_1) else (laws_FnExactOtherNodes.j1 kj15 l1 t438 t441 t450 true a0_0 l0_1)))))) else (some false)))) else (some false)))) = some r := by rw [if_neg (show ¬ (false = true) by decide)] at H; exact H
         clear H
         have H := H1
         clear H1
         replace H := Option.bind_eq_some_iff.mp H
         obtain ⟨⟨t455, t456⟩, A430, H⟩ := H
         replace H : ((laws_eqGraph.f kj15 t442 t443 t455 t456).bind fun t459 => (if t459 = true then ((laws_toIntS.f kj15 l1).bind fun t460 => ((laws_eqIntS.f kj15 t447 t460).bind fun t463 => (if t463 = true then ((laws_markGraph.f t442 t443 1).bind fun bt464 => ((laws_markIntS.f kj15 t447 bt464.1).bind fun bt466 => (if bt466.1 < 0 then (laws_FnExactOtherNodes.j1 kj15 l1 t438 t441 t450 true a0_0 l0_1) else ((laws_eqIntS.f kj15 t450 t438).bind fun t468 => (if t468 = true then (laws_FnExactOtherNodes.j1 kj15 l1 t438 t441 t450 (t453 != t441) a0_0 l0_1) else (laws_FnExactOtherNodes.j1 kj15 l1 t438 t441 t450 true a0_0 l0_1)))))) else (some false)))) else (some false))) = some r := H
         have A43 := Aside0.mk A430
         clear A430
         replace H := Option.bind_eq_some_iff.mp H
         obtain ⟨t459, A440, H⟩ := H
         have A44 := Aside0.mk A440
         clear A440
         by_cases c45 : t459 = true
         · subst c45
           rw [if_pos rfl] at H
           replace H := Option.bind_eq_some_iff.mp H
           obtain ⟨t460, A460, H⟩ := H
           have A46 := Aside0.mk A460
           clear A460
           replace H := Option.bind_eq_some_iff.mp H
           obtain ⟨t463, A470, H⟩ := H
           have A47 := Aside0.mk A470
           clear A470
           by_cases c48 : t463 = true
           · subst c48
             rw [if_pos rfl] at H
             replace H := Option.bind_eq_some_iff.mp H
             obtain ⟨⟨t464, t465⟩, A490, H⟩ := H
             replace H : ((laws_markIntS.f kj15 t447 t464).bind fun bt466 => (if bt466.1 < 0 then (laws_FnExactOtherNodes.j1 kj15 l1 t438 t441 t450 true a0_0 l0_1) else ((laws_eqIntS.f kj15 t450 t438).bind fun t468 => (if t468 = true then (laws_FnExactOtherNodes.j1 kj15 l1 t438 t441 t450 (t453 != t441) a0_0 l0_1) else (laws_FnExactOtherNodes.j1 kj15 l1 t438 t441 t450 true a0_0 l0_1))))) = some r := H
             have A49 := Aside0.mk A490
             clear A490
             replace H := Option.bind_eq_some_iff.mp H
             obtain ⟨⟨t466, t467⟩, A500, H⟩ := H
             replace H : (if t466 < 0 then (laws_FnExactOtherNodes.j1 kj15 l1 t438 t441 t450 true a0_0 l0_1) else ((laws_eqIntS.f kj15 t450 t438).bind fun t468 => (if t468 = true then (laws_FnExactOtherNodes.j1 kj15 l1 t438 t441 t450 (t453 != t441) a0_0 l0_1) else (laws_FnExactOtherNodes.j1 kj15 l1 t438 t441 t450 true a0_0 l0_1)))) = some r := H
             have A50 := Aside0.mk A500
             clear A500
             have HC51 := Aside0.mk H
             clear H
             try go_wp2
             replace HO_6 := zM (Kd.R_drew HO_6.out)
             replace HO_9 := zM (Kd.R_drew HO_9.out)
             replace HO_10 := zM (Kd.R_drew HO_10.out)
             replace HO_447001 := zM (Kd.R_drew HO_447001.out)
             replace BK429 := zM (blk_drew BK429.out)
             replace BK446 := zM (blk_drew BK446.out)
             replace HB := zM (below_drew1 HB.out)
             refine zs (n := 5) (fun w' => w'.cell? ⟨gb446, 0, none⟩ = some (.int .i64 t442) ∧ w'.cell? ⟨gb446, 1, none⟩ = some (.slice Ao31 t443.length co31) ∧ w'.cell? ⟨gb429, 0, none⟩ = some (.int .i64 a0_0) ∧ w'.cell? ⟨gb429, 1, none⟩ = some (.slice A0_1 l0_1.length c0_1)) ⟨(blk_cell BK446.out 0).trans rfl, (blk_cell BK446.out 1).trans rfl, (blk_cell BK429.out 0).trans rfl, (blk_cell BK429.out 1).trans rfl⟩ (fun hHeld => ?_)
             generalize wc.drew = w52 at HO_6 HO_9 HO_10 HO_447001 BK429 BK446 HB hHeld ⊢
             refine zl 0 52 hHeld ?_ (hy := by rintro w' ⟨s0, s1, s2, s3⟩; go_simp; with_reducible rfl)
             refine zl 1 53 hHeld ?_ (hy := by rintro w' ⟨s0, s1, s2, s3⟩; go_simp; with_reducible rfl)
             refine zh 2 54 Try.func17 #[.agg #[.int .i64 a0_0, .slice A0_1 l0_1.length c0_1]] (fun K hK => ?_)
             with_reducible refine (laws_toGraph.calls kj15 a0_0 _ _ l0_1 t455 t456 _ ?side1 ?side2 A43.out).mono ?_
             (case side1 => exact zC (Kd.C_below HR0_1.out HB.out))
             (case side2 => exact HC0_1.out)
             rintro e w53 ⟨v457, rfl, ho0, hb⟩
             refine ⟨_, rfl, ?_⟩
             replace HO_6 := zM (Kd.R_below (zR HO_6.out) hb)
             replace HO_9 := zM (Kd.R_below (zR HO_9.out) hb)
             replace HO_10 := zM (Kd.R_below (zR HO_10.out) hb)
             have HO458 := zM (Kd.R_lower (Kd.R_new' ho0 (Kd.R_lt (zR HO_447001.out))) (below_size zB))
             replace HO_447001 := zM (Kd.R_elder' (zR HO_447001.out) (Kd.R_base ho0) hb)
             replace BK429 := zM (blk_below (g := gb429) (o := .cells #[.int .i64 a0_0, .slice A0_1 l0_1.length c0_1] 24 (0, 0)) (zK BK429.out) hb)
             replace BK446 := zM (blk_below (g := gb446) (o := .cells #[.int .i64 t442, .slice Ao31 t443.length co31] 27 (0, 0)) (zK BK446.out) hb)
             replace HB := zM (below_step zB hb)
             (try clear hb)
             (try clear hb2)
             (try clear hk)
             (try clear hi)
             (try clear ho0)
             obtain ⟨Ao54, co54, eo54⟩ := Kd.R_slice HO458.out
             (first | subst eo54 | (injection eo54 with f1_ f2_ f3_; have f4_ := f1_.symm; have f5_ := f3_.symm; clear f1_ f2_ f3_; subst f4_; subst f5_))
             refine hK.out _ _ ⟨(blk_cell BK446.out 0).trans rfl, (blk_cell BK446.out 1).trans rfl, (blk_cell BK429.out 0).trans rfl, (blk_cell BK429.out 1).trans rfl⟩ (fun hHeld => ?_)
             clear hK K
             refine zn 54 ?_
             refine zh 3 55 Try.func19 #[.agg #[.int .i64 t442, .slice Ao31 t443.length co31], .agg #[.int .i64 t455, .slice Ao54 t456.length co54]] (fun K hK => ?_)
             with_reducible refine (laws_eqGraph.calls kj15 t442 _ _ t443 t455 _ _ t456 true _ ?side1 ?side2 ?side3 ?side4 A44.out).mono ?_
             (case side1 => exact zC (Kd.R_reads' HO_447001.out).2.2)
             (case side2 => exact (Kd.R_reads' HO_447001.out).2.1)
             (case side3 => exact zC (Kd.R_reads' HO458.out).2.2)
             (case side4 => exact (Kd.R_reads' HO458.out).2.1)
             rintro e w55 ⟨rfl, hb⟩
             refine ⟨_, rfl, ?_⟩
             replace HO_6 := zM (Kd.R_below (zR HO_6.out) hb)
             replace HO_9 := zM (Kd.R_below (zR HO_9.out) hb)
             replace HO_10 := zM (Kd.R_below (zR HO_10.out) hb)
             replace HO_447001 := zM (Kd.R_below (zR HO_447001.out) hb)
             replace HO458 := zM (Kd.R_below (zR HO458.out) hb)
             replace BK429 := zM (blk_below (g := gb429) (o := .cells #[.int .i64 a0_0, .slice A0_1 l0_1.length c0_1] 24 (0, 0)) (zK BK429.out) hb)
             replace BK446 := zM (blk_below (g := gb446) (o := .cells #[.int .i64 t442, .slice Ao31 t443.length co31] 27 (0, 0)) (zK BK446.out) hb)
             replace HB := zM (below_step zB hb)
             (try clear hb)
             (try clear hb2)
             (try clear hk)
             (try clear hi)
             refine hK.out _ _ ⟨(blk_cell BK446.out 0).trans rfl, (blk_cell BK446.out 1).trans rfl, (blk_cell BK429.out 0).trans rfl, (blk_cell BK429.out 1).trans rfl⟩ (fun hHeld => ?_)
             clear hK K
             refine zn 55 ?_
             refine zq 4 56 ?_
             refine zx ?_
             go_upto_region 20 with (first | ((with_reducible refine gate_callee (f := 25) rfl ?_); refine zc 59 Try.func25 #[.slice A1 l1.length c1] ?_; (with_reducible refine (laws_toIntS.calls kj15 _ _ l1 t460 _ ?side1 ?side2 A46.out).mono ?_); (case side1 => exact zC (Kd.C_below HR1.out HB.out)); (case side2 => exact HC1.out); rintro e w56 ⟨v461, rfl, ho0, hb⟩; refine ⟨_, rfl, ?_⟩; replace HO_447001 := zM (Kd.R_below (zR HO_447001.out) hb); replace HO458 := zM (Kd.R_below (zR HO458.out) hb); have HO462 := zM (Kd.R_lower (Kd.R_new' (Kd.R_new' (Kd.R_new' ho0 (Kd.R_lt (zR HO_6.out))) (Kd.R_lt (zR HO_9.out))) (Kd.R_lt (zR HO_10.out))) (below_size zB)); replace HO_6 := zM (Kd.R_elder' (zR HO_6.out) (Kd.R_base ho0) hb); replace HO_9 := zM (Kd.R_elder' (zR HO_9.out) (Kd.R_base ho0) hb); replace HO_10 := zM (Kd.R_elder' (zR HO_10.out) (Kd.R_base ho0) hb); replace BK429 := zM (blk_below (g := gb429) (o := .cells #[.int .i64 a0_0, .slice A0_1 l0_1.length c0_1] 24 (0, 0)) (zK BK429.out) hb); replace BK446 := zM (blk_below (g := gb446) (o := .cells #[.int .i64 t442, .slice Ao31 t443.length co31] 27 (0, 0)) (zK BK446.out) hb); replace HB := zM (below_step zB hb); (try clear hb); (try clear hb2); (try clear hk); (try clear hi); (try clear ho0); obtain ⟨Ao57, co57, eo57⟩ := Kd.R_slice HO462.out; subst eo57) | ((with_reducible refine gate_callee (f := 27) rfl ?_); refine zc 60 Try.func27 #[.slice Ao34 t447.length co34, .slice Ao57 t460.length co57] ?_; (with_reducible refine (laws_eqIntS.calls kj15 _ _ t447 _ _ t460 true _ ?side1 ?side2 ?side3 ?side4 A47.out).mono ?_); (case side1 => exact zC (Kd.R_reads' HO_9.out).2.2); (case side2 => exact (Kd.R_reads' HO_9.out).2.1); (case side3 => exact zC (Kd.R_reads' HO462.out).2.2); (case side4 => exact (Kd.R_reads' HO462.out).2.1); rintro e w' ⟨rfl, ⟨nd, rfl⟩⟩; refine ⟨_, rfl, ?_⟩; have hnb58 := NB446_429.out; have hnc58 := NB429_446.out; have hcz59_0 := zy BK446 0; have hcz59_1 := zy BK446 1; have hfz59_0 := blk_frozen BK446.out 0; have hfz59_1 := blk_frozen BK446.out 1) | ((with_reducible refine gate_callee (f := 22) rfl ?_); refine zc 64 Try.func22 #[.agg #[.int .i64 t442, .slice Ao31 t443.length co31], .int .i64 1] ?_; (with_reducible refine (laws_markGraph.calls t442 (fun k_ => some k_ = (.slice Ao31 t443.length co31 : Value).ownBlock) (.slice Ao31 t443.length co31) t443 1 t464 t465 w _ ?side1 ?side2 A49.out).mono ?_); (case side1 => repeat (first | (with_reducible first | exact HB.out | apply below_alloc | apply pw_below_drewN | apply below_drew1 | refine below_set ?_ GE429.out | refine below_set ?_ GE446.out) | exact HB.out)); (case side2 => exact Kd.R_tight rfl HO_447001.out); rintro e w60 ⟨rfl, hy0, hb, hkp⟩; refine ⟨_, rfl, ?_⟩; replace HO_6 := zM (Kd.R_mono (ok' := fun k_ => some k_ ≠ (.slice Ao34 t447.length co34 : Value).ownBlock ∧ some k_ ≠ (v451 : Value).ownBlock ∧ some k_ ≠ (.slice Ao57 t460.length co57 : Value).ownBlock) (Kd.R_keptB ((Kd.R_apart' HO_6.out (Kd.R_typed HO_447001.out) (by decide))) hkp (fun k_ hk_ hs_ => (hk_.2) hs_)) (fun k_ hk_ => ⟨hk_.1.1.1.1, hk_.1.1.1.2, hk_.1.1.2⟩)); replace HO_9 := zM (Kd.R_mono (ok' := fun k_ => some k_ ≠ (v439 : Value).ownBlock ∧ some k_ ≠ (v451 : Value).ownBlock ∧ some k_ ≠ (.slice Ao57 t460.length co57 : Value).ownBlock) (Kd.R_keptB ((Kd.R_apart' HO_9.out (Kd.R_typed HO_447001.out) (by decide))) hkp (fun k_ hk_ hs_ => (hk_.2) hs_)) (fun k_ hk_ => ⟨hk_.1.1.1.1, hk_.1.1.1.2, hk_.1.1.2⟩)); replace HO_10 := zM (Kd.R_mono (ok' := fun k_ => some k_ ≠ (v439 : Value).ownBlock ∧ some k_ ≠ (.slice Ao34 t447.length co34 : Value).ownBlock ∧ some k_ ≠ (.slice Ao57 t460.length co57 : Value).ownBlock) (Kd.R_keptB ((Kd.R_apart' HO_10.out (Kd.R_typed HO_447001.out) (by decide))) hkp (fun k_ hk_ hs_ => (hk_.2) hs_)) (fun k_ hk_ => ⟨hk_.1.1.1.1, hk_.1.1.1.2, hk_.1.1.2⟩)); replace BK429 := zM (blk_kept (zK BK429.out) hkp (fun hs_ => (fun e_ => (Kd.R_ne HO_447001.out BK429.out (by decide)) e_) hs_)); replace BK446 := zM (blk_kept (zK BK446.out) hkp (fun hs_ => (fun e_ => (Kd.R_ne HO_447001.out BK446.out (by decide)) e_) hs_)); replace HO458 := zM (Kd.R_mono (ok' := fun k_ => some k_ ≠ (.slice Ao31 t443.length co31 : Value).ownBlock) (Kd.R_keptB (HO458.out) hkp (fun k_ hk_ hs_ => (hk_.2) hs_)) (fun k_ hk_ => hk_.1.2)); replace HO462 := zM (Kd.R_mono (ok' := fun k_ => some k_ ≠ (v439 : Value).ownBlock ∧ some k_ ≠ (.slice Ao34 t447.length co34 : Value).ownBlock ∧ some k_ ≠ (v451 : Value).ownBlock) (Kd.R_keptB ((Kd.R_apart' HO462.out (Kd.R_typed HO_447001.out) (by decide))) hkp (fun k_ hk_ hs_ => (hk_.2) hs_)) (fun k_ hk_ => ⟨hk_.1.1.1.1.2, hk_.1.1.1.2, hk_.1.1.2⟩)); replace HO_447001 := zM (Kd.R_reok rfl hy0 (fun k_ e_ => HO_447001.out.1 k_ e_)); replace HB := zM (hb); (try clear hb); (try clear hkp); (try clear hy0)) | ((with_reducible refine gate_callee (f := 30) rfl ?_); refine zc 67 Try.func30 #[.slice Ao34 t447.length co34, .int .i64 t464] ?_; (with_reducible refine (laws_markIntS.calls kj15 (fun k_ => some k_ = (.slice Ao34 t447.length co34 : Value).ownBlock) (.slice Ao34 t447.length co34) t447 t464 t466 t467 w _ ?side1 ?side2 A50.out).mono ?_); (case side1 => repeat (first | (with_reducible first | exact HB.out | apply below_alloc | apply pw_below_drewN | apply below_drew1 | refine below_set ?_ GE429.out | refine below_set ?_ GE446.out) | exact HB.out)); (case side2 => exact Kd.R_tight rfl HO_9.out); rintro e w61 ⟨rfl, hy0, hb, hkp⟩; refine ⟨_, rfl, ?_⟩; replace HO_6 := zM (Kd.R_mono (ok' := fun k_ => some k_ ≠ (.slice Ao34 t447.length co34 : Value).ownBlock ∧ some k_ ≠ (v451 : Value).ownBlock ∧ some k_ ≠ (.slice Ao57 t460.length co57 : Value).ownBlock) (Kd.R_keptB (HO_6.out) hkp (fun k_ hk_ hs_ => (hk_.1) hs_)) (fun k_ hk_ => ⟨hk_.1.1, hk_.1.2.1, hk_.1.2.2⟩)); replace HO_10 := zM (Kd.R_mono (ok' := fun k_ => some k_ ≠ (v439 : Value).ownBlock ∧ some k_ ≠ (.slice Ao34 t447.length co34 : Value).ownBlock ∧ some k_ ≠ (.slice Ao57 t460.length co57 : Value).ownBlock) (Kd.R_keptB (HO_10.out) hkp (fun k_ hk_ hs_ => (hk_.2.1) hs_)) (fun k_ hk_ => ⟨hk_.1.1, hk_.1.2.1, hk_.1.2.2⟩)); replace HO_447001 := zM (Kd.R_mono (ok' := fun k_ => some k_ ≠ (.slice Ao54 t456.length co54 : Value).ownBlock) (Kd.R_keptB ((Kd.R_apart' HO_447001.out (Kd.R_typed HO_9.out) (by decide))) hkp (fun k_ hk_ hs_ => (hk_.2) hs_)) (fun k_ hk_ => hk_.1.1.2)); replace BK429 := zM (blk_kept (zK BK429.out) hkp (fun hs_ => (fun e_ => (Kd.R_ne HO_9.out BK429.out (by decide)) e_) hs_)); replace BK446 := zM (blk_kept (zK BK446.out) hkp (fun hs_ => (fun e_ => (Kd.R_ne HO_9.out BK446.out (by decide)) e_) hs_)); replace HO458 := zM (Kd.R_mono (ok' := fun k_ => some k_ ≠ (.slice Ao31 t443.length co31 : Value).ownBlock) (Kd.R_keptB ((Kd.R_apart' HO458.out (Kd.R_typed HO_9.out) (by decide))) hkp (fun k_ hk_ hs_ => (hk_.2) hs_)) (fun k_ hk_ => hk_.1.1)); replace HO_9 := zM (Kd.R_reok rfl hy0 (fun k_ e_ => HO_9.out.1 k_ e_)); replace HO462 := zM (Kd.R_mono (ok' := fun k_ => some k_ ≠ (v439 : Value).ownBlock ∧ some k_ ≠ (.slice Ao34 t447.length co34 : Value).ownBlock ∧ some k_ ≠ (v451 : Value).ownBlock) (Kd.R_keptB (HO462.out) hkp (fun k_ hk_ hs_ => (hk_.2.1) hs_)) (fun k_ hk_ => ⟨hk_.1.1, hk_.1.2.1, hk_.1.2.2⟩)); replace HB := zM (hb); (try clear hb); (try clear hkp); (try clear hy0)))
             (try simp only [Act.put, List.setIfInBounds_toArray, List.set_cons_zero, List.set_cons_succ])
             go_cut [80] (fun v80 wc => ∃ (kq : Nat) (x80_50 : Bool), v80 = .bool x80_50 ∧ Aside0 (laws_FnExactOtherNodes.j1 kq l1 t438 t441 t450 x80_50 a0_0 l0_1 = some r) ∧ Aside0 (kq ≤ kj15) ∧ Aside0 (Kd.R (Kd.int .i64) 3 wc w.heap.size (fun k_ => some k_ ≠ (v451 : Value).ownBlock) v439 t438) ∧ Aside0 (Kd.R (Kd.int .i64) 3 wc w.heap.size (fun k_ => some k_ ≠ (v439 : Value).ownBlock) v451 t450) ∧ Aside0 (Kd.R k68 68 wc w.heap.size (fun _ => True) (.slice Ao31 t443.length co31) t465) ∧ Aside0 (wc.heap[gb429]? = some (.cells #[.int .i64 a0_0, (.slice A0_1 l0_1.length c0_1)] 24 (0, 0))) ∧ Aside0 (wc.heap[gb446]? = some (.cells #[.int .i64 t442, (.slice Ao31 t443.length co31)] 27 (0, 0))) ∧ Aside0 (Below w.heap.size w wc))
             case first =>
              have H := HC51.out
              clear HC51
              by_cases c62 : t466 < 0
              · rw [if_pos c62] at H
                have c62b0 := decide_eq_true c62
                clear c62
                (first | rw [c62b0] | (simp only [i64_w, i32_w]; rw [c62b0]) | skip)
                have H' := Aside0.mk H
                clear H
                go_wp2
                go_meet
                case rel => exact ⟨_, (true), (by first | rfl | (simp; done) | (simp [*]; done)), H', ⟨by have := HJ15.out; first | omega | exact Nat.le_refl _⟩, ⟨by (with_reducible repeat (first | apply Kd.R_alloc | apply Kd.R_drewN | apply Kd.R_drew)); exact Kd.R_mono HO_6.out (fun _ hk => hk.2.1)⟩, ⟨by (with_reducible repeat (first | apply Kd.R_alloc | apply Kd.R_drewN | apply Kd.R_drew)); exact Kd.R_mono HO_10.out (fun _ hk => hk.1)⟩, ⟨by (with_reducible repeat (first | apply Kd.R_alloc | apply Kd.R_drewN | apply Kd.R_drew)); exact Kd.R_mono HO_447001.out (fun _ hk => trivial)⟩, ⟨zK BK429.out⟩, ⟨zK BK446.out⟩, ⟨zB⟩⟩
              · rw [if_neg c62] at H
                have c62b0 : decide (t466 < 0) = false := decide_eq_false c62
                clear c62
                (first | rw [c62b0] | (simp only [i64_w, i32_w]; rw [c62b0]) | skip)
                replace H := Option.bind_eq_some_iff.mp H
                obtain ⟨t468, A630, H⟩ := H
                have A63 := Aside0.mk A630
                clear A630
                by_cases c64 : t468 = true
                · subst c64
                  rw [if_pos rfl] at H
                  have H' := Aside0.mk H
                  clear H
                  obtain ⟨Ao65, co65, eo65⟩ := Kd.R_slice HO_10.out
                  subst eo65
                  obtain ⟨Ao66, co66, eo66⟩ := Kd.R_slice HO_6.out
                  subst eo66
                  go_wp2_with (first | (go_at_call 27; (with_reducible refine (laws_eqIntS.calls kj15 _ _ t450 _ _ t438 true _ ?side1 ?side2 ?side3 ?side4 A63.out).mono ?_); (case side1 => exact zC (Kd.R_reads' HO_10.out).2.2); (case side2 => exact (Kd.R_reads' HO_10.out).2.1); (case side3 => exact zC (Kd.R_reads' HO_6.out).2.2); (case side4 => exact (Kd.R_reads' HO_6.out).2.1); rintro e w' ⟨rfl, ⟨nd, rfl⟩⟩))
                  go_meet
                  case rel => exact ⟨_, ((t453 != t441)), (by first | rfl | (simp; done) | (simp [*]; done)), H', ⟨by have := HJ15.out; first | omega | exact Nat.le_refl _⟩, ⟨by (with_reducible repeat (first | apply Kd.R_alloc | apply Kd.R_drewN | apply Kd.R_drew)); exact Kd.R_mono HO_6.out (fun _ hk => hk.2.1)⟩, ⟨by (with_reducible repeat (first | apply Kd.R_alloc | apply Kd.R_drewN | apply Kd.R_drew)); exact Kd.R_mono HO_10.out (fun _ hk => hk.1)⟩, ⟨by (with_reducible repeat (first | apply Kd.R_alloc | apply Kd.R_drewN | apply Kd.R_drew)); exact Kd.R_mono HO_447001.out (fun _ hk => trivial)⟩, ⟨zK BK429.out⟩, ⟨zK BK446.out⟩, ⟨zB⟩⟩
                · replace c64 := Bool.eq_false_iff.mpr c64
                  subst c64
                  have H1 : (laws_FnExactOtherNodes.j1 kj15 l1 t438 t441 t450 true a0_0 l0_1) = some r := by rw [if_neg (show ¬ (false = true) by decide)] at H; exact H
                  clear H
                  have H := H1
                  clear H1
                  have H' := Aside0.mk H
                  clear H
                  obtain ⟨Ao67, co67, eo67⟩ := Kd.R_slice HO_10.out
                  subst eo67
                  obtain ⟨Ao68, co68, eo68⟩ := Kd.R_slice HO_6.out
                  subst eo68
                  go_wp2_with (first | (go_at_call 27; (with_reducible refine (laws_eqIntS.calls kj15 _ _ t450 _ _ t438 false _ ?side1 ?side2 ?side3 ?side4 A63.out).mono ?_); (case side1 => exact zC (Kd.R_reads' HO_10.out).2.2); (case side2 => exact (Kd.R_reads' HO_10.out).2.1); (case side3 => exact zC (Kd.R_reads' HO_6.out).2.2); (case side4 => exact (Kd.R_reads' HO_6.out).2.1); rintro e w' ⟨rfl, ⟨nd, rfl⟩⟩))
                  go_meet
                  case rel => exact ⟨_, (true), (by first | rfl | (simp; done) | (simp [*]; done)), H', ⟨by have := HJ15.out; first | omega | exact Nat.le_refl _⟩, ⟨by (with_reducible repeat (first | apply Kd.R_alloc | apply Kd.R_drewN | apply Kd.R_drew)); exact Kd.R_mono HO_6.out (fun _ hk => hk.2.1)⟩, ⟨by (with_reducible repeat (first | apply Kd.R_alloc | apply Kd.R_drewN | apply Kd.R_drew)); exact Kd.R_mono HO_10.out (fun _ hk => hk.1)⟩, ⟨by (with_reducible repeat (first | apply Kd.R_alloc | apply Kd.R_drewN | apply Kd.R_drew)); exact Kd.R_mono HO_447001.out (fun _ hk => trivial)⟩, ⟨zK BK429.out⟩, ⟨zK BK446.out⟩, ⟨zB⟩⟩
             case rest =>
              clear HC51
              try clear c1
              try clear c2
              try clear p2
              try clear c3
              try clear c3b0
              try clear c3b1
              try clear c4
              try clear c5
              try clear c6
              try clear c6b0
              try clear c7
              try clear c15
              try clear c17
              try clear c19
              try clear c22
              try clear c25
              try clear c27
              try clear c29
              try clear c30
              try clear c32
              try clear c33
              try clear c37
              try clear c42
              try clear c45
              try clear c48
              try clear c58
              try clear c62
              try clear c62b0
              try clear c64
              try clear hcz18_0
              try clear hcz18_1
              try clear hcz20_0
              try clear hcz20_1
              try clear hcz26_0
              try clear hcz26_1
              try clear hcz30_0
              try clear hcz30_1
              try clear hcz33_0
              try clear hcz33_1
              try clear hcz59_0
              try clear hcz59_1
              try clear hcz8_0
              try clear hcz8_1
              try clear hfz18_0
              try clear hfz18_1
              try clear hfz20_0
              try clear hfz20_1
              try clear hfz26_0
              try clear hfz26_1
              try clear hfz30_0
              try clear hfz30_1
              try clear hfz33_0
              try clear hfz33_1
              try clear hfz59_0
              try clear hfz59_1
              try clear hfz8_0
              try clear hfz8_1
              try clear p2
              obtain ⟨kq, x80_50, rfl, HA, HJ50, HO_6, HO_10, HO_447001, BK429, BK446, HB⟩ := hcut
              have hl447001_50 := (Kd.R_reads' HO_447001.out).1
              rw [hl447001_50] at HO_447001
              (try simp only [hl447001_50])
              (try simp only [hl447001_50] at BK429)
              (try simp only [hl447001_50] at BK446)
              (try simp only [hl447001_50] at HO_6)
              (try simp only [hl447001_50] at HO_10)
              cases kq with
              | zero => exact absurd HA.out (by simp [laws_FnExactOtherNodes.j1])
              | succ kj50 =>
               have H := HA.out
               clear HA
               simp only [laws_FnExactOtherNodes.j1] at H
               by_cases c69 : x80_50 = true
               · subst c69
                 rw [if_pos rfl] at H
                 obtain rfl := Option.some.inj H
                 go_wp2
                 go_ret
                 exact ⟨by first | rfl | (simp [errW_none, errW_some] <;> rfl) | (simp [*, errW_none, errW_some] <;> rfl), zB⟩
               · replace c69 := Bool.eq_false_iff.mpr c69
                 subst c69
                 have H1 : ((laws_markIntS.f kj50 t450 1).bind fun bt469 => ((laws_heldIntS.f kj50 bt469.2 1).bind fun t471 => (if t471 < 0 then (some false) else (if t471 = bt469.1 then ((laws_toGraph.f kj50 a0_0 l0_1).bind fun bt472 => ((laws_toIntS.f kj50 l1).bind fun t476 => ((impl_OtherNodes.f kj50 bt472.1 bt472.2 t476).bind fun bt479 => ((laws_eqIntS.f kj50 bt479.1 t438).bind fun t483 => (if t483 = true then (laws_FnExactOtherNodes.j2 kj50 bt469.2 bt469.1 (bt479.2 != t441)) else (laws_FnExactOtherNodes.j2 kj50 bt469.2 bt469.1 true)))))) else (some false))))) = some r := by rw [if_neg (show ¬ (false = true) by decide)] at H; exact H
                 clear H
                 have H := H1
                 clear H1
                 replace H := Option.bind_eq_some_iff.mp H
                 obtain ⟨⟨t469, t470⟩, A700, H⟩ := H
                 replace H : ((laws_heldIntS.f kj50 t470 1).bind fun t471 => (if t471 < 0 then (some false) else (if t471 = t469 then ((laws_toGraph.f kj50 a0_0 l0_1).bind fun bt472 => ((laws_toIntS.f kj50 l1).bind fun t476 => ((impl_OtherNodes.f kj50 bt472.1 bt472.2 t476).bind fun bt479 => ((laws_eqIntS.f kj50 bt479.1 t438).bind fun t483 => (if t483 = true then (laws_FnExactOtherNodes.j2 kj50 t470 t469 (bt479.2 != t441)) else (laws_FnExactOtherNodes.j2 kj50 t470 t469 true)))))) else (some false)))) = some r := H
                 have A70 := Aside0.mk A700
                 clear A700
                 replace H := Option.bind_eq_some_iff.mp H
                 obtain ⟨t471, A710, H⟩ := H
                 have A71 := Aside0.mk A710
                 clear A710
                 by_cases c72 : t471 < 0
                 · rw [if_pos c72] at H
                   have c72b0 := decide_eq_true c72
                   clear c72
                   obtain rfl := Option.some.inj H
                   obtain ⟨Ao73, co73, eo73⟩ := Kd.R_slice HO_10.out
                   subst eo73
                   go_wp2_with (first | ((with_reducible refine gate_callee (f := 30) rfl ?_); refine zc 83 Try.func30 #[.slice Ao73 t450.length co73, .int .i64 1] ?_; (with_reducible refine (laws_markIntS.calls kj50 (fun k_ => some k_ = (.slice Ao73 t450.length co73 : Value).ownBlock) (.slice Ao73 t450.length co73) t450 1 t469 t470 w _ ?side1 ?side2 A70.out).mono ?_); (case side1 => repeat (first | (with_reducible first | exact HB.out | apply below_alloc | apply pw_below_drewN | apply below_drew1 | refine below_set ?_ GE429.out | refine below_set ?_ GE446.out) | exact HB.out)); (case side2 => exact Kd.R_tight rfl HO_10.out); rintro e w74 ⟨rfl, hy0, hb, hkp⟩; refine ⟨_, rfl, ?_⟩; replace HO_6 := zM (Kd.R_mono (ok' := fun k_ => some k_ ≠ (.slice Ao73 t450.length co73 : Value).ownBlock) (Kd.R_keptB (HO_6.out) hkp (fun k_ hk_ hs_ => (hk_) hs_)) (fun k_ hk_ => hk_.1)); replace HO_447001 := zM (Kd.R_mono (ok' := fun k_ => True) (Kd.R_keptB ((Kd.R_apart' HO_447001.out (Kd.R_typed HO_10.out) (by decide))) hkp (fun k_ hk_ hs_ => (hk_.2) hs_)) (fun k_ hk_ => trivial)); replace BK429 := zM (blk_kept (zK BK429.out) hkp (fun hs_ => (fun e_ => (Kd.R_ne HO_10.out BK429.out (by decide)) e_) hs_)); replace BK446 := zM (blk_kept (zK BK446.out) hkp (fun hs_ => (fun e_ => (Kd.R_ne HO_10.out BK446.out (by decide)) e_) hs_)); replace HO_10 := zM (Kd.R_reok rfl hy0 (fun k_ e_ => HO_10.out.1 k_ e_)); replace HB := zM (hb); (try clear hb); (try clear hkp); (try clear hy0)) | ((with_reducible refine gate_callee (f := 31) rfl ?_); refine goesL_ (some 86) rfl rfl Try.func31 (by kernel_rfl) rfl #[.slice Ao73 t470.length co73, .int .i64 1] rfl (by (try simp only [List.map_toArray, List.map_cons, List.map_nil]); first | done | (rw [show t470.length = t450.length from (Kd.R_reads' HO_10.out).1.symm] <;> rfl) | rfl | (simp only [List.length_drop, List.length_take]; rfl)) ?_; (with_reducible refine (laws_heldIntS.calls kj50 _ _ t470 1 t471 _ ?side1 ?side2 A71.out).mono ?_); (case side1 => exact zC (Kd.R_reads' HO_10.out).2.2); (case side2 => rw [show t470.length = t450.length from (Kd.R_reads' HO_10.out).1.symm]; exact (Kd.R_reads' HO_10.out).2.1); rintro e w' ⟨rfl, ⟨nd, rfl⟩⟩; refine ⟨_, rfl, ?_⟩))
                   go_ret
                   exact ⟨by first | rfl | (simp [errW_none, errW_some] <;> rfl) | (simp [*, errW_none, errW_some] <;> rfl), zB⟩
                 · rw [if_neg c72] at H
                   have c72b0 : decide (t471 < 0) = false := decide_eq_false c72
                   clear c72
                   by_cases c75 : t471 = t469
                   · rw [if_pos c75] at H
                     have c75b0 : (t471 == t469) = true := beq_iff_eq.mpr c75
                     have c75b1 : (t471 != t469) = false := bne_eq_false_iff_eq.mpr c75
                     clear c75
                     replace H := Option.bind_eq_some_iff.mp H
                     obtain ⟨⟨t472, t473⟩, A760, H⟩ := H
                     replace H : ((laws_toIntS.f kj50 l1).bind fun t476 => ((impl_OtherNodes.f kj50 t472 t473 t476).bind fun bt479 => ((laws_eqIntS.f kj50 bt479.1 t438).bind fun t483 => (if t483 = true then (laws_FnExactOtherNodes.j2 kj50 t470 t469 (bt479.2 != t441)) else (laws_FnExactOtherNodes.j2 kj50 t470 t469 true))))) = some r := H
                     have A76 := Aside0.mk A760
                     clear A760
                     replace H := Option.bind_eq_some_iff.mp H
                     obtain ⟨t476, A770, H⟩ := H
                     have A77 := Aside0.mk A770
                     clear A770
                     replace H := Option.bind_eq_some_iff.mp H
                     obtain ⟨⟨t479, t482⟩, A780, H⟩ := H
                     replace H : ((laws_eqIntS.f kj50 t479 t438).bind fun t483 => (if t483 = true then (laws_FnExactOtherNodes.j2 kj50 t470 t469 (t482 != t441)) else (laws_FnExactOtherNodes.j2 kj50 t470 t469 true))) = some r := H
                     have A78 := Aside0.mk A780
                     clear A780
                     have HC79 := Aside0.mk H
                     clear H
                     obtain ⟨Ao80, co80, eo80⟩ := Kd.R_slice HO_10.out
                     subst eo80
                     go_upto_region 31 with (first | ((with_reducible refine gate_callee (f := 30) rfl ?_); refine zc 83 Try.func30 #[.slice Ao80 t450.length co80, .int .i64 1] ?_; (with_reducible refine (laws_markIntS.calls kj50 (fun k_ => some k_ = (.slice Ao80 t450.length co80 : Value).ownBlock) (.slice Ao80 t450.length co80) t450 1 t469 t470 w _ ?side1 ?side2 A70.out).mono ?_); (case side1 => repeat (first | (with_reducible first | exact HB.out | apply below_alloc | apply pw_below_drewN | apply below_drew1 | refine below_set ?_ GE429.out | refine below_set ?_ GE446.out) | exact HB.out)); (case side2 => exact Kd.R_tight rfl HO_10.out); rintro e w81 ⟨rfl, hy0, hb, hkp⟩; refine ⟨_, rfl, ?_⟩; replace HO_6 := zM (Kd.R_mono (ok' := fun k_ => some k_ ≠ (.slice Ao80 t450.length co80 : Value).ownBlock) (Kd.R_keptB (HO_6.out) hkp (fun k_ hk_ hs_ => (hk_) hs_)) (fun k_ hk_ => hk_.1)); replace HO_447001 := zM (Kd.R_mono (ok' := fun k_ => True) (Kd.R_keptB ((Kd.R_apart' HO_447001.out (Kd.R_typed HO_10.out) (by decide))) hkp (fun k_ hk_ hs_ => (hk_.2) hs_)) (fun k_ hk_ => trivial)); replace BK429 := zM (blk_kept (zK BK429.out) hkp (fun hs_ => (fun e_ => (Kd.R_ne HO_10.out BK429.out (by decide)) e_) hs_)); replace BK446 := zM (blk_kept (zK BK446.out) hkp (fun hs_ => (fun e_ => (Kd.R_ne HO_10.out BK446.out (by decide)) e_) hs_)); replace HO_10 := zM (Kd.R_reok rfl hy0 (fun k_ e_ => HO_10.out.1 k_ e_)); replace HB := zM (hb); (try clear hb); (try clear hkp); (try clear hy0)) | ((with_reducible refine gate_callee (f := 31) rfl ?_); refine goesL_ (some 86) rfl rfl Try.func31 (by kernel_rfl) rfl #[.slice Ao80 t470.length co80, .int .i64 1] rfl (by (try simp only [List.map_toArray, List.map_cons, List.map_nil]); first | done | (rw [show t470.length = t450.length from (Kd.R_reads' HO_10.out).1.symm] <;> rfl) | rfl | (simp only [List.length_drop, List.length_take]; rfl)) ?_; (with_reducible refine (laws_heldIntS.calls kj50 _ _ t470 1 t471 _ ?side1 ?side2 A71.out).mono ?_); (case side1 => exact zC (Kd.R_reads' HO_10.out).2.2); (case side2 => rw [show t470.length = t450.length from (Kd.R_reads' HO_10.out).1.symm]; exact (Kd.R_reads' HO_10.out).2.1); rintro e w' ⟨rfl, ⟨nd, rfl⟩⟩; refine ⟨_, rfl, ?_⟩; have hnb82 := NB429_446.out; have hnc82 := NB446_429.out; have hcz83_0 := zy BK429 0; have hcz83_1 := zy BK429 1; have hfz83_0 := blk_frozen BK429.out 0; have hfz83_1 := blk_frozen BK429.out 1) | ((with_reducible refine gate_callee (f := 17) rfl ?_); refine zc 94 Try.func17 #[.agg #[.int .i64 a0_0, .slice A0_1 l0_1.length c0_1]] ?_; (with_reducible refine (laws_toGraph.calls kj50 a0_0 _ _ l0_1 t472 t473 _ ?side1 ?side2 A76.out).mono ?_); (case side1 => exact zC (Kd.C_below HR0_1.out zB)); (case side2 => exact HC0_1.out); rintro e w84 ⟨v474, rfl, ho0, hb⟩; refine ⟨_, rfl, ?_⟩; replace HO_6 := zM (Kd.R_below (zR HO_6.out) hb); replace HO_10 := zM (Kd.R_below (zR HO_10.out) hb); have HO475 := zM (Kd.R_lower (Kd.R_new' ho0 (Kd.R_lt (zR HO_447001.out))) (below_size zB)); replace HO_447001 := zM (Kd.R_elder' (zR HO_447001.out) (Kd.R_base ho0) hb); replace BK429 := zM (blk_below (g := gb429) (o := .cells #[.int .i64 a0_0, .slice A0_1 l0_1.length c0_1] 24 (0, 0)) (zK BK429.out) hb); replace BK446 := zM (blk_below (g := gb446) (o := .cells #[.int .i64 t442, .slice Ao31 t465.length co31] 27 (0, 0)) (zK BK446.out) hb); replace HB := zM (below_step zB hb); (try clear hb); (try clear hb2); (try clear hk); (try clear hi); (try clear ho0)) | ((with_reducible refine gate_callee (f := 25) rfl ?_); refine zc 96 Try.func25 #[.slice A1 l1.length c1] ?_; (with_reducible refine (laws_toIntS.calls kj50 _ _ l1 t476 _ ?side1 ?side2 A77.out).mono ?_); (case side1 => exact zC (Kd.C_below HR1.out HB.out)); (case side2 => exact HC1.out); rintro e w85 ⟨v477, rfl, ho0, hb⟩; refine ⟨_, rfl, ?_⟩; replace HO_447001 := zM (Kd.R_below (zR HO_447001.out) hb); replace HO475 := zM (Kd.R_below (zR HO475.out) hb); have HO478 := zM (Kd.R_lower (Kd.R_new' (Kd.R_new' ho0 (Kd.R_lt (zR HO_6.out))) (Kd.R_lt (zR HO_10.out))) (below_size zB)); replace HO_6 := zM (Kd.R_elder' (zR HO_6.out) (Kd.R_base ho0) hb); replace HO_10 := zM (Kd.R_elder' (zR HO_10.out) (Kd.R_base ho0) hb); replace BK429 := zM (blk_below (g := gb429) (o := .cells #[.int .i64 a0_0, .slice A0_1 l0_1.length c0_1] 24 (0, 0)) (zK BK429.out) hb); replace BK446 := zM (blk_below (g := gb446) (o := .cells #[.int .i64 t442, .slice Ao31 t465.length co31] 27 (0, 0)) (zK BK446.out) hb); replace HB := zM (below_step zB hb); (try clear hb); (try clear hb2); (try clear hk); (try clear hi); (try clear ho0); obtain ⟨Ao86, co86, eo86⟩ := Kd.R_slice HO475.out; subst eo86; obtain ⟨Ao87, co87, eo87⟩ := Kd.R_slice HO478.out; subst eo87) | ((with_reducible refine gate_callee (f := 33) rfl ?_); refine zc 97 Try.func33 #[.agg #[.int .i64 t472, .slice Ao86 t473.length co86], .slice Ao87 t476.length co87] ?_; (with_reducible refine (impl_OtherNodes.calls kj50 t472 _ _ t473 _ _ t476 t479 t482 _ ?side1 ?side2 ?side3 ?side4 A78.out).mono ?_); (case side1 => exact zC (Kd.R_reads' HO475.out).2.2); (case side2 => exact (Kd.R_reads' HO475.out).2.1); (case side3 => exact zC (Kd.R_reads' HO478.out).2.2); (case side4 => exact (Kd.R_reads' HO478.out).2.1); rintro e w88 ⟨v480, rfl, ho0, hb⟩; refine ⟨_, rfl, ?_⟩; replace HO_447001 := zM (Kd.R_below (zR HO_447001.out) hb); replace HO475 := zM (Kd.R_below (zR HO475.out) hb); have HO481 := zM (Kd.R_lower (Kd.R_new' (Kd.R_new' (Kd.R_new' ho0 (Kd.R_lt (zR HO_6.out))) (Kd.R_lt (zR HO_10.out))) (Kd.R_lt (zR HO478.out))) (below_size zB)); replace HO_6 := zM (Kd.R_elder' (zR HO_6.out) (Kd.R_base ho0) hb); replace HO_10 := zM (Kd.R_elder' (zR HO_10.out) (Kd.R_base ho0) hb); replace HO478 := zM (Kd.R_elder' (zR HO478.out) (Kd.R_base ho0) hb); replace BK429 := zM (blk_below (g := gb429) (o := .cells #[.int .i64 a0_0, .slice A0_1 l0_1.length c0_1] 24 (0, 0)) (zK BK429.out) hb); replace BK446 := zM (blk_below (g := gb446) (o := .cells #[.int .i64 t442, .slice Ao31 t465.length co31] 27 (0, 0)) (zK BK446.out) hb); replace HB := zM (below_step zB hb); (try clear hb); (try clear hb2); (try clear hk); (try clear hi); (try clear ho0)))
                     (try simp only [Act.put, List.setIfInBounds_toArray, List.set_cons_zero, List.set_cons_succ])
                     go_cut [108] (fun v108 wc => ∃ (kq : Nat) (x108_78 : Bool), v108 = .bool x108_78 ∧ Aside0 (laws_FnExactOtherNodes.j2 kq t470 t469 x108_78 = some r) ∧ Aside0 (kq ≤ kj50) ∧ Aside0 (Kd.R (Kd.int .i64) 3 wc w.heap.size (fun _ => True) (.slice Ao80 t450.length co80) t470) ∧ Aside0 (Kd.R k68 68 wc w.heap.size (fun _ => True) (.slice Ao31 t465.length co31) t465) ∧ Aside0 (wc.heap[gb429]? = some (.cells #[.int .i64 a0_0, (.slice A0_1 l0_1.length c0_1)] 24 (0, 0))) ∧ Aside0 (wc.heap[gb446]? = some (.cells #[.int .i64 t442, (.slice Ao31 t465.length co31)] 27 (0, 0))) ∧ Aside0 (Below w.heap.size w wc))
                     case first =>
                      have H := HC79.out
                      clear HC79
                      replace H := Option.bind_eq_some_iff.mp H
                      obtain ⟨t483, A890, H⟩ := H
                      have A89 := Aside0.mk A890
                      clear A890
                      by_cases c90 : t483 = true
                      · subst c90
                        rw [if_pos rfl] at H
                        have H' := Aside0.mk H
                        clear H
                        obtain ⟨Ao91, co91, eo91⟩ := Kd.R_slice HO481.out
                        subst eo91
                        obtain ⟨Ao92, co92, eo92⟩ := Kd.R_slice HO_6.out
                        subst eo92
                        go_wp2_with (first | ((with_reducible refine gate_callee (f := 27) rfl ?_); refine zc 102 Try.func27 #[.slice Ao91 t479.length co91, .slice Ao92 t438.length co92] ?_; (with_reducible refine (laws_eqIntS.calls kj50 _ _ t479 _ _ t438 true _ ?side1 ?side2 ?side3 ?side4 A89.out).mono ?_); (case side1 => exact zC (Kd.R_reads' HO481.out).2.2); (case side2 => exact (Kd.R_reads' HO481.out).2.1); (case side3 => exact zC (Kd.R_reads' HO_6.out).2.2); (case side4 => exact (Kd.R_reads' HO_6.out).2.1); rintro e w' ⟨rfl, ⟨nd, rfl⟩⟩; refine ⟨_, rfl, ?_⟩))
                        go_meet
                        case rel => exact ⟨_, ((t482 != t441)), (by first | rfl | (simp; done) | (simp [*]; done)), H', ⟨by have := HJ15.out; have := HJ50.out; first | omega | exact Nat.le_refl _⟩, ⟨by (try simp only [hl447001_50]); (with_reducible repeat (first | apply Kd.R_alloc | apply Kd.R_drewN | apply Kd.R_drew)); exact Kd.R_mono HO_10.out (fun _ hk => trivial)⟩, ⟨by (try simp only [hl447001_50]); (with_reducible repeat (first | apply Kd.R_alloc | apply Kd.R_drewN | apply Kd.R_drew)); exact Kd.R_mono HO_447001.out (fun _ hk => trivial)⟩, ⟨by (try simp only [hl447001_50]); (with_reducible repeat (first | refine blk_drewN ?_ _ | refine blk_drew ?_ | refine blk_alloc ?_ _)); exact BK429.out⟩, ⟨by (try simp only [hl447001_50]); (with_reducible repeat (first | refine blk_drewN ?_ _ | refine blk_drew ?_ | refine blk_alloc ?_ _)); exact BK446.out⟩, ⟨zB⟩⟩
                      · replace c90 := Bool.eq_false_iff.mpr c90
                        subst c90
                        have H1 : (laws_FnExactOtherNodes.j2 kj50 t470 t469 true) = some r := by rw [if_neg (show ¬ (false = true) by decide)] at H; exact H
                        clear H
                        have H := H1
                        clear H1
                        have H' := Aside0.mk H
                        clear H
                        obtain ⟨Ao93, co93, eo93⟩ := Kd.R_slice HO481.out
                        subst eo93
                        obtain ⟨Ao94, co94, eo94⟩ := Kd.R_slice HO_6.out
                        subst eo94
                        go_wp2_with (first | ((with_reducible refine gate_callee (f := 27) rfl ?_); refine zc 102 Try.func27 #[.slice Ao93 t479.length co93, .slice Ao94 t438.length co94] ?_; (with_reducible refine (laws_eqIntS.calls kj50 _ _ t479 _ _ t438 false _ ?side1 ?side2 ?side3 ?side4 A89.out).mono ?_); (case side1 => exact zC (Kd.R_reads' HO481.out).2.2); (case side2 => exact (Kd.R_reads' HO481.out).2.1); (case side3 => exact zC (Kd.R_reads' HO_6.out).2.2); (case side4 => exact (Kd.R_reads' HO_6.out).2.1); rintro e w' ⟨rfl, ⟨nd, rfl⟩⟩; refine ⟨_, rfl, ?_⟩))
                        go_meet
                        case rel => exact ⟨_, (true), (by first | rfl | (simp; done) | (simp [*]; done)), H', ⟨by have := HJ15.out; have := HJ50.out; first | omega | exact Nat.le_refl _⟩, ⟨by (try simp only [hl447001_50]); (with_reducible repeat (first | apply Kd.R_alloc | apply Kd.R_drewN | apply Kd.R_drew)); exact Kd.R_mono HO_10.out (fun _ hk => trivial)⟩, ⟨by (try simp only [hl447001_50]); (with_reducible repeat (first | apply Kd.R_alloc | apply Kd.R_drewN | apply Kd.R_drew)); exact Kd.R_mono HO_447001.out (fun _ hk => trivial)⟩, ⟨by (try simp only [hl447001_50]); (with_reducible repeat (first | refine blk_drewN ?_ _ | refine blk_drew ?_ | refine blk_alloc ?_ _)); exact BK429.out⟩, ⟨by (try simp only [hl447001_50]); (with_reducible repeat (first | refine blk_drewN ?_ _ | refine blk_drew ?_ | refine blk_alloc ?_ _)); exact BK446.out⟩, ⟨zB⟩⟩
                     case rest =>
                      clear HC79
                      try clear c1
                      try clear c2
                      try clear p2
                      try clear c3
                      try clear c3b0
                      try clear c3b1
                      try clear c4
                      try clear c5
                      try clear c6
                      try clear c6b0
                      try clear c7
                      try clear c8
                      try clear c9
                      try clear c15
                      try clear c17
                      try clear c19
                      try clear c22
                      try clear c25
                      try clear c27
                      try clear c29
                      try clear c30
                      try clear c31
                      try clear c32
                      try clear c33
                      try clear c37
                      try clear c42
                      try clear c45
                      try clear c48
                      try clear c58
                      try clear c62
                      try clear c62b0
                      try clear c64
                      try clear c69
                      try clear c72
                      try clear c72b0
                      try clear c75
                      try clear c75b0
                      try clear c75b1
                      try clear c82
                      try clear c90
                      try clear hcz18_0
                      try clear hcz18_1
                      try clear hcz20_0
                      try clear hcz20_1
                      try clear hcz26_0
                      try clear hcz26_1
                      try clear hcz30_0
                      try clear hcz30_1
                      try clear hcz33_0
                      try clear hcz33_1
                      try clear hcz59_0
                      try clear hcz59_1
                      try clear hcz83_0
                      try clear hcz83_1
                      try clear hcz8_0
                      try clear hcz8_1
                      try clear hfz18_0
                      try clear hfz18_1
                      try clear hfz20_0
                      try clear hfz20_1
                      try clear hfz26_0
                      try clear hfz26_1
                      try clear hfz30_0
                      try clear hfz30_1
                      try clear hfz33_0
                      try clear hfz33_1
                      try clear hfz59_0
                      try clear hfz59_1
                      try clear hfz83_0
                      try clear hfz83_1
                      try clear hfz8_0
                      try clear hfz8_1
                      try clear p2
                      obtain ⟨kq, x108_78, rfl, HA, HJ78, HO_10, HO_447001, BK429, BK446, HB⟩ := hcut
                      have hl10_78 := (Kd.R_reads' HO_10.out).1
                      rw [hl10_78] at HO_10
                      (try simp only [hl10_78])
                      (try simp only [hl10_78] at BK429)
                      (try simp only [hl10_78] at BK446)
                      (try simp only [hl10_78] at HO_447001)
                      cases kq with
                      | zero => exact absurd HA.out (by simp [laws_FnExactOtherNodes.j2])
                      | succ kj78 =>
                       have H := HA.out
                       clear HA
                       simp only [laws_FnExactOtherNodes.j2] at H
                       by_cases c95 : x108_78 = true
                       · subst c95
                         rw [if_pos rfl] at H
                         obtain rfl := Option.some.inj H
                         go_wp2
                         go_ret
                         exact ⟨by first | rfl | (simp [errW_none, errW_some] <;> rfl) | (simp [*, errW_none, errW_some] <;> rfl), zB⟩
                       · replace c95 := Bool.eq_false_iff.mpr c95
                         subst c95
                         have H1 : ((laws_heldIntS.f kj78 t470 1).bind fun t484 => (if t484 < 0 then (some false) else (if t484 = t469 then (some true) else (some false)))) = some r := by rw [if_neg (show ¬ (false = true) by decide)] at H; exact H
                         clear H
                         have H := H1
                         clear H1
                         replace H := Option.bind_eq_some_iff.mp H
                         obtain ⟨t484, A960, H⟩ := H
                         have A96 := Aside0.mk A960
                         clear A960
                         by_cases c97 : t484 < 0
                         · rw [if_pos c97] at H
                           have c97b0 := decide_eq_true c97
                           clear c97
                           obtain rfl := Option.some.inj H
                           go_wp2_with (first | ((with_reducible refine gate_callee (f := 31) rfl ?_); refine zc 111 Try.func31 #[.slice Ao80 t470.length co80, .int .i64 1] ?_; (with_reducible refine (laws_heldIntS.calls kj78 _ _ t470 1 t484 _ ?side1 ?side2 A96.out).mono ?_); (case side1 => exact zC (Kd.R_reads' HO_10.out).2.2); (case side2 => exact (Kd.R_reads' HO_10.out).2.1); rintro e w' ⟨rfl, ⟨nd, rfl⟩⟩; refine ⟨_, rfl, ?_⟩))
                           go_ret
                           exact ⟨by first | rfl | (simp [errW_none, errW_some] <;> rfl) | (simp [*, errW_none, errW_some] <;> rfl), zB⟩
                         · rw [if_neg c97] at H
                           have c97b0 : decide (t484 < 0) = false := decide_eq_false c97
                           clear c97
                           by_cases c98 : t484 = t469
                           · rw [if_pos c98] at H
                             have c98b0 : (t484 == t469) = true := beq_iff_eq.mpr c98
                             have c98b1 : (t484 != t469) = false := bne_eq_false_iff_eq.mpr c98
                             clear c98
                             obtain rfl := Option.some.inj H
                             go_wp2_with (first | ((with_reducible refine gate_callee (f := 31) rfl ?_); refine zc 111 Try.func31 #[.slice Ao80 t470.length co80, .int .i64 1] ?_; (with_reducible refine (laws_heldIntS.calls kj78 _ _ t470 1 t484 _ ?side1 ?side2 A96.out).mono ?_); (case side1 => exact zC (Kd.R_reads' HO_10.out).2.2); (case side2 => exact (Kd.R_reads' HO_10.out).2.1); rintro e w' ⟨rfl, ⟨nd, rfl⟩⟩; refine ⟨_, rfl, ?_⟩))
                             go_ret
                             exact ⟨by first | rfl | (simp [errW_none, errW_some] <;> rfl) | (simp [*, errW_none, errW_some] <;> rfl), zB⟩
                           · rw [if_neg c98] at H
                             have c98b0 : (t484 == t469) = false := beq_eq_false_iff_ne.mpr c98
                             have c98b1 : (t484 != t469) = true := bne_iff_ne.mpr c98
                             obtain rfl := Option.some.inj H
                             go_wp2_with (first | ((with_reducible refine gate_callee (f := 31) rfl ?_); refine zc 111 Try.func31 #[.slice Ao80 t470.length co80, .int .i64 1] ?_; (with_reducible refine (laws_heldIntS.calls kj78 _ _ t470 1 t484 _ ?side1 ?side2 A96.out).mono ?_); (case side1 => exact zC (Kd.R_reads' HO_10.out).2.2); (case side2 => exact (Kd.R_reads' HO_10.out).2.1); rintro e w' ⟨rfl, ⟨nd, rfl⟩⟩; refine ⟨_, rfl, ?_⟩))
                             go_ret
                             exact ⟨by first | rfl | (simp [errW_none, errW_some] <;> rfl) | (simp [*, errW_none, errW_some] <;> rfl), zB⟩
                   · rw [if_neg c75] at H
                     have c75b0 : (t471 == t469) = false := beq_eq_false_iff_ne.mpr c75
                     have c75b1 : (t471 != t469) = true := bne_iff_ne.mpr c75
                     obtain rfl := Option.some.inj H
                     obtain ⟨Ao99, co99, eo99⟩ := Kd.R_slice HO_10.out
                     subst eo99
                     go_wp2_with (first | ((with_reducible refine gate_callee (f := 30) rfl ?_); refine zc 83 Try.func30 #[.slice Ao99 t450.length co99, .int .i64 1] ?_; (with_reducible refine (laws_markIntS.calls kj50 (fun k_ => some k_ = (.slice Ao99 t450.length co99 : Value).ownBlock) (.slice Ao99 t450.length co99) t450 1 t469 t470 w _ ?side1 ?side2 A70.out).mono ?_); (case side1 => repeat (first | (with_reducible first | exact HB.out | apply below_alloc | apply pw_below_drewN | apply below_drew1 | refine below_set ?_ GE429.out | refine below_set ?_ GE446.out) | exact HB.out)); (case side2 => exact Kd.R_tight rfl HO_10.out); rintro e w100 ⟨rfl, hy0, hb, hkp⟩; refine ⟨_, rfl, ?_⟩; replace HO_6 := zM (Kd.R_mono (ok' := fun k_ => some k_ ≠ (.slice Ao99 t450.length co99 : Value).ownBlock) (Kd.R_keptB (HO_6.out) hkp (fun k_ hk_ hs_ => (hk_) hs_)) (fun k_ hk_ => hk_.1)); replace HO_447001 := zM (Kd.R_mono (ok' := fun k_ => True) (Kd.R_keptB ((Kd.R_apart' HO_447001.out (Kd.R_typed HO_10.out) (by decide))) hkp (fun k_ hk_ hs_ => (hk_.2) hs_)) (fun k_ hk_ => trivial)); replace BK429 := zM (blk_kept (zK BK429.out) hkp (fun hs_ => (fun e_ => (Kd.R_ne HO_10.out BK429.out (by decide)) e_) hs_)); replace BK446 := zM (blk_kept (zK BK446.out) hkp (fun hs_ => (fun e_ => (Kd.R_ne HO_10.out BK446.out (by decide)) e_) hs_)); replace HO_10 := zM (Kd.R_reok rfl hy0 (fun k_ e_ => HO_10.out.1 k_ e_)); replace HB := zM (hb); (try clear hb); (try clear hkp); (try clear hy0)) | ((with_reducible refine gate_callee (f := 31) rfl ?_); refine goesL_ (some 86) rfl rfl Try.func31 (by kernel_rfl) rfl #[.slice Ao99 t470.length co99, .int .i64 1] rfl (by (try simp only [List.map_toArray, List.map_cons, List.map_nil]); first | done | (rw [show t470.length = t450.length from (Kd.R_reads' HO_10.out).1.symm] <;> rfl) | rfl | (simp only [List.length_drop, List.length_take]; rfl)) ?_; (with_reducible refine (laws_heldIntS.calls kj50 _ _ t470 1 t471 _ ?side1 ?side2 A71.out).mono ?_); (case side1 => exact zC (Kd.R_reads' HO_10.out).2.2); (case side2 => rw [show t470.length = t450.length from (Kd.R_reads' HO_10.out).1.symm]; exact (Kd.R_reads' HO_10.out).2.1); rintro e w' ⟨rfl, ⟨nd, rfl⟩⟩; refine ⟨_, rfl, ?_⟩))
                     go_ret
                     exact ⟨by first | rfl | (simp [errW_none, errW_some] <;> rfl) | (simp [*, errW_none, errW_some] <;> rfl), zB⟩
           · replace c48 := Bool.eq_false_iff.mpr c48
             subst c48
             have H1 : (some false) = some r := by rw [if_neg (show ¬ (false = true) by decide)] at H; exact H
             clear H
             have H := H1
             clear H1
             obtain rfl := Option.some.inj H
             try go_wp2
             replace HO_6 := zM (Kd.R_drew HO_6.out)
             replace HO_9 := zM (Kd.R_drew HO_9.out)
             replace HO_10 := zM (Kd.R_drew HO_10.out)
             replace HO_447001 := zM (Kd.R_drew HO_447001.out)
             replace BK429 := zM (blk_drew BK429.out)
             replace BK446 := zM (blk_drew BK446.out)
             replace HB := zM (below_drew1 HB.out)
             refine zs (n := 5) (fun w' => w'.cell? ⟨gb446, 0, none⟩ = some (.int .i64 t442) ∧ w'.cell? ⟨gb446, 1, none⟩ = some (.slice Ao31 t443.length co31) ∧ w'.cell? ⟨gb429, 0, none⟩ = some (.int .i64 a0_0) ∧ w'.cell? ⟨gb429, 1, none⟩ = some (.slice A0_1 l0_1.length c0_1)) ⟨(blk_cell BK446.out 0).trans rfl, (blk_cell BK446.out 1).trans rfl, (blk_cell BK429.out 0).trans rfl, (blk_cell BK429.out 1).trans rfl⟩ (fun hHeld => ?_)
             generalize wc.drew = w101 at HO_6 HO_9 HO_10 HO_447001 BK429 BK446 HB hHeld ⊢
             refine zl 0 52 hHeld ?_ (hy := by rintro w' ⟨s0, s1, s2, s3⟩; go_simp; with_reducible rfl)
             refine zl 1 53 hHeld ?_ (hy := by rintro w' ⟨s0, s1, s2, s3⟩; go_simp; with_reducible rfl)
             refine zh 2 54 Try.func17 #[.agg #[.int .i64 a0_0, .slice A0_1 l0_1.length c0_1]] (fun K hK => ?_)
             with_reducible refine (laws_toGraph.calls kj15 a0_0 _ _ l0_1 t455 t456 _ ?side1 ?side2 A43.out).mono ?_
             (case side1 => exact zC (Kd.C_below HR0_1.out HB.out))
             (case side2 => exact HC0_1.out)
             rintro e w102 ⟨v457, rfl, ho0, hb⟩
             refine ⟨_, rfl, ?_⟩
             replace HO_6 := zM (Kd.R_below (zR HO_6.out) hb)
             replace HO_9 := zM (Kd.R_below (zR HO_9.out) hb)
             replace HO_10 := zM (Kd.R_below (zR HO_10.out) hb)
             have HO458 := zM (Kd.R_lower (Kd.R_new' ho0 (Kd.R_lt (zR HO_447001.out))) (below_size zB))
             replace HO_447001 := zM (Kd.R_elder' (zR HO_447001.out) (Kd.R_base ho0) hb)
             replace BK429 := zM (blk_below (g := gb429) (o := .cells #[.int .i64 a0_0, .slice A0_1 l0_1.length c0_1] 24 (0, 0)) (zK BK429.out) hb)
             replace BK446 := zM (blk_below (g := gb446) (o := .cells #[.int .i64 t442, .slice Ao31 t443.length co31] 27 (0, 0)) (zK BK446.out) hb)
             replace HB := zM (below_step zB hb)
             (try clear hb)
             (try clear hb2)
             (try clear hk)
             (try clear hi)
             (try clear ho0)
             obtain ⟨Ao103, co103, eo103⟩ := Kd.R_slice HO458.out
             (first | subst eo103 | (injection eo103 with f1_ f2_ f3_; have f4_ := f1_.symm; have f5_ := f3_.symm; clear f1_ f2_ f3_; subst f4_; subst f5_))
             refine hK.out _ _ ⟨(blk_cell BK446.out 0).trans rfl, (blk_cell BK446.out 1).trans rfl, (blk_cell BK429.out 0).trans rfl, (blk_cell BK429.out 1).trans rfl⟩ (fun hHeld => ?_)
             clear hK K
             refine zn 54 ?_
             refine zh 3 55 Try.func19 #[.agg #[.int .i64 t442, .slice Ao31 t443.length co31], .agg #[.int .i64 t455, .slice Ao103 t456.length co103]] (fun K hK => ?_)
             with_reducible refine (laws_eqGraph.calls kj15 t442 _ _ t443 t455 _ _ t456 true _ ?side1 ?side2 ?side3 ?side4 A44.out).mono ?_
             (case side1 => exact zC (Kd.R_reads' HO_447001.out).2.2)
             (case side2 => exact (Kd.R_reads' HO_447001.out).2.1)
             (case side3 => exact zC (Kd.R_reads' HO458.out).2.2)
             (case side4 => exact (Kd.R_reads' HO458.out).2.1)
             rintro e w104 ⟨rfl, hb⟩
             refine ⟨_, rfl, ?_⟩
             replace HO_6 := zM (Kd.R_below (zR HO_6.out) hb)
             replace HO_9 := zM (Kd.R_below (zR HO_9.out) hb)
             replace HO_10 := zM (Kd.R_below (zR HO_10.out) hb)
             replace HO_447001 := zM (Kd.R_below (zR HO_447001.out) hb)
             replace HO458 := zM (Kd.R_below (zR HO458.out) hb)
             replace BK429 := zM (blk_below (g := gb429) (o := .cells #[.int .i64 a0_0, .slice A0_1 l0_1.length c0_1] 24 (0, 0)) (zK BK429.out) hb)
             replace BK446 := zM (blk_below (g := gb446) (o := .cells #[.int .i64 t442, .slice Ao31 t443.length co31] 27 (0, 0)) (zK BK446.out) hb)
             replace HB := zM (below_step zB hb)
             (try clear hb)
             (try clear hb2)
             (try clear hk)
             (try clear hi)
             refine hK.out _ _ ⟨(blk_cell BK446.out 0).trans rfl, (blk_cell BK446.out 1).trans rfl, (blk_cell BK429.out 0).trans rfl, (blk_cell BK429.out 1).trans rfl⟩ (fun hHeld => ?_)
             clear hK K
             refine zn 55 ?_
             refine zq 4 56 ?_
             refine zx ?_
             try go_wp2_with (first | ((with_reducible refine gate_callee (f := 25) rfl ?_); refine zc 59 Try.func25 #[.slice A1 l1.length c1] ?_; (with_reducible refine (laws_toIntS.calls kj15 _ _ l1 t460 _ ?side1 ?side2 A46.out).mono ?_); (case side1 => exact zC (Kd.C_below HR1.out HB.out)); (case side2 => exact HC1.out); rintro e w105 ⟨v461, rfl, ho0, hb⟩; refine ⟨_, rfl, ?_⟩; replace HO_447001 := zM (Kd.R_below (zR HO_447001.out) hb); replace HO458 := zM (Kd.R_below (zR HO458.out) hb); have HO462 := zM (Kd.R_lower (Kd.R_new' (Kd.R_new' (Kd.R_new' ho0 (Kd.R_lt (zR HO_6.out))) (Kd.R_lt (zR HO_9.out))) (Kd.R_lt (zR HO_10.out))) (below_size zB)); replace HO_6 := zM (Kd.R_elder' (zR HO_6.out) (Kd.R_base ho0) hb); replace HO_9 := zM (Kd.R_elder' (zR HO_9.out) (Kd.R_base ho0) hb); replace HO_10 := zM (Kd.R_elder' (zR HO_10.out) (Kd.R_base ho0) hb); replace BK429 := zM (blk_below (g := gb429) (o := .cells #[.int .i64 a0_0, .slice A0_1 l0_1.length c0_1] 24 (0, 0)) (zK BK429.out) hb); replace BK446 := zM (blk_below (g := gb446) (o := .cells #[.int .i64 t442, .slice Ao31 t443.length co31] 27 (0, 0)) (zK BK446.out) hb); replace HB := zM (below_step zB hb); (try clear hb); (try clear hb2); (try clear hk); (try clear hi); (try clear ho0); obtain ⟨Ao106, co106, eo106⟩ := Kd.R_slice HO462.out; subst eo106) | ((with_reducible refine gate_callee (f := 27) rfl ?_); refine zc 60 Try.func27 #[.slice Ao34 t447.length co34, .slice Ao106 t460.length co106] ?_; (with_reducible refine (laws_eqIntS.calls kj15 _ _ t447 _ _ t460 false _ ?side1 ?side2 ?side3 ?side4 A47.out).mono ?_); (case side1 => exact zC (Kd.R_reads' HO_9.out).2.2); (case side2 => exact (Kd.R_reads' HO_9.out).2.1); (case side3 => exact zC (Kd.R_reads' HO462.out).2.2); (case side4 => exact (Kd.R_reads' HO462.out).2.1); rintro e w' ⟨rfl, ⟨nd, rfl⟩⟩; refine ⟨_, rfl, ?_⟩))
             go_ret
             exact ⟨by first | rfl | (simp [errW_none, errW_some] <;> rfl) | (simp [*, errW_none, errW_some] <;> rfl), zB⟩
         · replace c45 := Bool.eq_false_iff.mpr c45
           subst c45
           have H1 : (some false) = some r := by rw [if_neg (show ¬ (false = true) by decide)] at H; exact H
           clear H
           have H := H1
           clear H1
           obtain rfl := Option.some.inj H
           try go_wp2
           replace HO_6 := zM (Kd.R_drew HO_6.out)
           replace HO_9 := zM (Kd.R_drew HO_9.out)
           replace HO_10 := zM (Kd.R_drew HO_10.out)
           replace HO_447001 := zM (Kd.R_drew HO_447001.out)
           replace BK429 := zM (blk_drew BK429.out)
           replace BK446 := zM (blk_drew BK446.out)
           replace HB := zM (below_drew1 HB.out)
           refine zs (n := 5) (fun w' => w'.cell? ⟨gb446, 0, none⟩ = some (.int .i64 t442) ∧ w'.cell? ⟨gb446, 1, none⟩ = some (.slice Ao31 t443.length co31) ∧ w'.cell? ⟨gb429, 0, none⟩ = some (.int .i64 a0_0) ∧ w'.cell? ⟨gb429, 1, none⟩ = some (.slice A0_1 l0_1.length c0_1)) ⟨(blk_cell BK446.out 0).trans rfl, (blk_cell BK446.out 1).trans rfl, (blk_cell BK429.out 0).trans rfl, (blk_cell BK429.out 1).trans rfl⟩ (fun hHeld => ?_)
           generalize wc.drew = w107 at HO_6 HO_9 HO_10 HO_447001 BK429 BK446 HB hHeld ⊢
           refine zl 0 52 hHeld ?_ (hy := by rintro w' ⟨s0, s1, s2, s3⟩; go_simp; with_reducible rfl)
           refine zl 1 53 hHeld ?_ (hy := by rintro w' ⟨s0, s1, s2, s3⟩; go_simp; with_reducible rfl)
           refine zh 2 54 Try.func17 #[.agg #[.int .i64 a0_0, .slice A0_1 l0_1.length c0_1]] (fun K hK => ?_)
           with_reducible refine (laws_toGraph.calls kj15 a0_0 _ _ l0_1 t455 t456 _ ?side1 ?side2 A43.out).mono ?_
           (case side1 => exact zC (Kd.C_below HR0_1.out HB.out))
           (case side2 => exact HC0_1.out)
           rintro e w108 ⟨v457, rfl, ho0, hb⟩
           refine ⟨_, rfl, ?_⟩
           replace HO_6 := zM (Kd.R_below (zR HO_6.out) hb)
           replace HO_9 := zM (Kd.R_below (zR HO_9.out) hb)
           replace HO_10 := zM (Kd.R_below (zR HO_10.out) hb)
           have HO458 := zM (Kd.R_lower (Kd.R_new' ho0 (Kd.R_lt (zR HO_447001.out))) (below_size zB))
           replace HO_447001 := zM (Kd.R_elder' (zR HO_447001.out) (Kd.R_base ho0) hb)
           replace BK429 := zM (blk_below (g := gb429) (o := .cells #[.int .i64 a0_0, .slice A0_1 l0_1.length c0_1] 24 (0, 0)) (zK BK429.out) hb)
           replace BK446 := zM (blk_below (g := gb446) (o := .cells #[.int .i64 t442, .slice Ao31 t443.length co31] 27 (0, 0)) (zK BK446.out) hb)
           replace HB := zM (below_step zB hb)
           (try clear hb)
           (try clear hb2)
           (try clear hk)
           (try clear hi)
           (try clear ho0)
           obtain ⟨Ao109, co109, eo109⟩ := Kd.R_slice HO458.out
           (first | subst eo109 | (injection eo109 with f1_ f2_ f3_; have f4_ := f1_.symm; have f5_ := f3_.symm; clear f1_ f2_ f3_; subst f4_; subst f5_))
           refine hK.out _ _ ⟨(blk_cell BK446.out 0).trans rfl, (blk_cell BK446.out 1).trans rfl, (blk_cell BK429.out 0).trans rfl, (blk_cell BK429.out 1).trans rfl⟩ (fun hHeld => ?_)
           clear hK K
           refine zn 54 ?_
           refine zh 3 55 Try.func19 #[.agg #[.int .i64 t442, .slice Ao31 t443.length co31], .agg #[.int .i64 t455, .slice Ao109 t456.length co109]] (fun K hK => ?_)
           with_reducible refine (laws_eqGraph.calls kj15 t442 _ _ t443 t455 _ _ t456 false _ ?side1 ?side2 ?side3 ?side4 A44.out).mono ?_
           (case side1 => exact zC (Kd.R_reads' HO_447001.out).2.2)
           (case side2 => exact (Kd.R_reads' HO_447001.out).2.1)
           (case side3 => exact zC (Kd.R_reads' HO458.out).2.2)
           (case side4 => exact (Kd.R_reads' HO458.out).2.1)
           rintro e w110 ⟨rfl, hb⟩
           refine ⟨_, rfl, ?_⟩
           replace HO_6 := zM (Kd.R_below (zR HO_6.out) hb)
           replace HO_9 := zM (Kd.R_below (zR HO_9.out) hb)
           replace HO_10 := zM (Kd.R_below (zR HO_10.out) hb)
           replace HO_447001 := zM (Kd.R_below (zR HO_447001.out) hb)
           replace HO458 := zM (Kd.R_below (zR HO458.out) hb)
           replace BK429 := zM (blk_below (g := gb429) (o := .cells #[.int .i64 a0_0, .slice A0_1 l0_1.length c0_1] 24 (0, 0)) (zK BK429.out) hb)
           replace BK446 := zM (blk_below (g := gb446) (o := .cells #[.int .i64 t442, .slice Ao31 t443.length co31] 27 (0, 0)) (zK BK446.out) hb)
           replace HB := zM (below_step zB hb)
           (try clear hb)
           (try clear hb2)
           (try clear hk)
           (try clear hi)
           refine hK.out _ _ ⟨(blk_cell BK446.out 0).trans rfl, (blk_cell BK446.out 1).trans rfl, (blk_cell BK429.out 0).trans rfl, (blk_cell BK429.out 1).trans rfl⟩ (fun hHeld => ?_)
           clear hK K
           refine zn 55 ?_
           refine zq 4 56 ?_
           refine zx ?_
           try go_wp2
           go_ret
           exact ⟨by first | rfl | (simp [errW_none, errW_some] <;> rfl) | (simp [*, errW_none, errW_some] <;> rfl), zB⟩

end Go.Proofs.Ytpbngmkhpcgpkaa.P
