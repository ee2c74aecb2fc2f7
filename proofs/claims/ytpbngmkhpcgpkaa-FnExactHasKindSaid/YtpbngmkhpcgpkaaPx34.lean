-- Written by a program of this session (the kit's print, turned: wip/print/patch.py) out of the translation. Not trusted: Lean checks it.
import Derived.Test.YtpbngmkhpcgpkaaPx0
import Derived.Test.YtpbngmkhpcgpkaaPx2
import Derived.Test.YtpbngmkhpcgpkaaPx4
import Derived.Test.YtpbngmkhpcgpkaaPx16
import Derived.Test.YtpbngmkhpcgpkaaPx17
import Derived.Test.YtpbngmkhpcgpkaaPx23
import Derived.Test.YtpbngmkhpcgpkaaPx24
import Derived.Test.YtpbngmkhpcgpkaaPx26
import Derived.Test.YtpbngmkhpcgpkaaPx33
namespace Go.Proofs.Ytpbngmkhpcgpkaa.P
open Go.RowKit Go.Proofs.YtpbngmkhpcgpkaaW.PrintWords Go.Proofs.YtpbngmkhpcgpkaaW.PrintLast Go.Proofs.YtpbngmkhpcgpkaaW.PrintMore
attribute [local go_sem] max2_int min2_int max_two min_two max_three min_three max_four min_four   -- for this text's walks alone
set_option linter.unusedVariables false
set_option linter.unusedSimpArgs false

/-! ### laws_FnExactPlaceOf: function 12 -/
def laws_FnExactPlaceOf.j0 : Nat → List Int → List Int → Bool → List (List Int) → List (S68) → List (List Int) → List (S68) → Option (Bool)
 | 0, _, _, _, _, _, _, _ => none
 | k + 1, x1, x9, x45, x734000, x734001, x753000, x753001 => if x45 = true then (some false) else ((laws_toSpace.f k x734000 x734001).bind fun bt758 => ((laws_eqSpace.f k x753000 x753001 bt758.1 bt758.2).bind fun t764 => (if t764 = true then ((laws_toIntS.f k x1).bind fun t765 => ((laws_eqIntS.f k x9 t765).bind fun t768 => (if t768 = true then (some true) else (some false)))) else (some false))))
def laws_FnExactPlaceOf.f (k : Nat) (l0_0 : List (List Int)) (l0_1 : List (S68)) (l1 : List Int) : Option (Bool) := if (l1.length : Int) > 1048576 then (some true) else ((laws_szSpace.f k l0_0 l0_1 1048576).bind fun t734 => (if t734 < 0 then (some true) else ((laws_toSpace.f k l0_0 l0_1).bind fun bt735 => ((laws_toIntS.f k l1).bind fun t741 => ((spec_PlaceOf.f k bt735.1 bt735.2 t741).bind fun bt744 => ((laws_toSpace.f k l0_0 l0_1).bind fun bt746 => ((laws_toIntS.f k l1).bind fun t753 => ((impl_PlaceOf.f k bt746.1 bt746.2 t753).bind fun bt756 => (if bt756.1 = bt744.1 then (laws_FnExactPlaceOf.j0 k l1 t753 (bt756.2 != bt744.2) l0_0 l0_1 bt746.1 bt746.2) else (laws_FnExactPlaceOf.j0 k l1 t753 true l0_0 l0_1 bt746.1 bt746.2))))))))))
theorem laws_FnExactPlaceOf.mono_l : ∀ k, (∀ y0 y1 y2 y3 y4 y5 y6, LeO (laws_FnExactPlaceOf.j0 k y0 y1 y2 y3 y4 y5 y6) (laws_FnExactPlaceOf.j0 (k + 1) y0 y1 y2 y3 y4 y5 y6))
 | 0 => fun _ _ _ _ _ _ _ r h => by simp [laws_FnExactPlaceOf.j0] at h
 | k + 1 => by
  have ih0 := laws_FnExactPlaceOf.mono_l k
  · intro y0 y1 y2 y3 y4 y5 y6
    unfold laws_FnExactPlaceOf.j0
    repeat' first
    | (with_reducible exact ih0 _ _ _ _ _ _ _)
    | (with_reducible exact impl_PlaceOf.mono _ _ _ _)
    | (with_reducible exact laws_eqIntS.mono _ _ _)
    | (with_reducible exact laws_eqSpace.mono _ _ _ _ _)
    | (with_reducible exact laws_szSpace.mono _ _ _ _)
    | (with_reducible exact laws_toIntS.mono _ _)
    | (with_reducible exact laws_toSpace.mono _ _ _)
    | (with_reducible exact spec_PlaceOf.mono _ _ _ _)
    | (with_reducible exact LeO.refl _)
    | (with_reducible exact LeO.none _)
    | (with_reducible refine LeO.ite ?_ ?_)
    | (with_reducible refine LeO.bind ?_ (fun _ => ?_))
    | exact ih0 _ _ _ _ _ _ _
    | exact impl_PlaceOf.mono _ _ _ _
    | exact laws_eqIntS.mono _ _ _
    | exact laws_eqSpace.mono _ _ _ _ _
    | exact laws_szSpace.mono _ _ _ _
    | exact laws_toIntS.mono _ _
    | exact laws_toSpace.mono _ _ _
    | exact spec_PlaceOf.mono _ _ _ _
    | exact LeO.none _
    | refine LeO.ite ?_ ?_
    | refine LeO.bind ?_ (fun _ => ?_)
theorem laws_FnExactPlaceOf.mono : ∀ a0 a1 a2 k, LeO (laws_FnExactPlaceOf.f k a0 a1 a2) (laws_FnExactPlaceOf.f (k + 1) a0 a1 a2) := by
 intro a0 a1 a2 k
 have ih0 := laws_FnExactPlaceOf.mono_l k
 unfold laws_FnExactPlaceOf.f
 repeat' first
  | (with_reducible exact ih0 _ _ _ _ _ _ _)
  | (with_reducible exact impl_PlaceOf.mono _ _ _ _)
  | (with_reducible exact laws_eqIntS.mono _ _ _)
  | (with_reducible exact laws_eqSpace.mono _ _ _ _ _)
  | (with_reducible exact laws_szSpace.mono _ _ _ _)
  | (with_reducible exact laws_toIntS.mono _ _)
  | (with_reducible exact laws_toSpace.mono _ _ _)
  | (with_reducible exact spec_PlaceOf.mono _ _ _ _)
  | (with_reducible exact LeO.refl _)
  | (with_reducible exact LeO.none _)
  | (with_reducible refine LeO.ite ?_ ?_)
  | (with_reducible refine LeO.bind ?_ (fun _ => ?_))
  | exact ih0 _ _ _ _ _ _ _
  | exact impl_PlaceOf.mono _ _ _ _
  | exact laws_eqIntS.mono _ _ _
  | exact laws_eqSpace.mono _ _ _ _ _
  | exact laws_szSpace.mono _ _ _ _
  | exact laws_toIntS.mono _ _
  | exact laws_toSpace.mono _ _ _
  | exact spec_PlaceOf.mono _ _ _ _
  | exact LeO.none _
  | refine LeO.ite ?_ ?_
  | refine LeO.bind ?_ (fun _ => ?_)
set_option maxHeartbeats 8000000 in
set_option maxRecDepth 100000 in
theorem laws_FnExactPlaceOf.calls (k : Nat) (A0_0 : Option Addr) (c0_0 : Nat) (l0_0 : List (List Int)) (A0_1 : Option Addr) (c0_1 : Nat) (l0_1 : List (S68)) (A1 : Option Addr) (c1 : Nat) (l1 : List Int) (r : Bool) (w : World) (hr0_0 : Kd.C (Kd.slice 3 (Kd.int .i64)) w A0_0 l0_0.length l0_0) (hc0_0 : l0_0.length ≤ c0_0) (hr0_1 : Kd.C k68 w A0_1 l0_1.length l0_1) (hc0_1 : l0_1.length ≤ c0_1) (hr1 : Kd.C (Kd.int .i64) w A1 l1.length l1) (hc1 : l1.length ≤ c1) (h : laws_FnExactPlaceOf.f k l0_0 l0_1 l1 = some r) :
 Calls Try.prog 12 #[.agg #[.slice A0_0 l0_0.length c0_0, .slice A0_1 l0_1.length c0_1], .slice A1 l1.length c1] w fun e w' => e = .returned (.bool r) ∧ Below w.heap.size w w' := by
 have hu47 := Try.underlying47
 have hu50 := Try.underlying50
 have HR0_0 := Aside0.mk hr0_0
 have HC0_0 := Aside0.mk hc0_0
 clear hr0_0 hc0_0
 have HR0_1 := Aside0.mk hr0_1
 have HC0_1 := Aside0.mk hc0_1
 clear hr0_1 hc0_1
 have HR1 := Aside0.mk hr1
 have HC1 := Aside0.mk hc1
 clear hr1 hc1
 have HB := zM (Below.refl w.heap.size w)
 have H : (if (l1.length : Int) > 1048576 then (some true) else ((laws_szSpace.f k l0_0 l0_1 1048576).bind fun t734 => (if t734 < 0 then (some true) else ((laws_toSpace.f k l0_0 l0_1).bind fun bt735 => ((laws_toIntS.f k l1).bind fun t741 => ((spec_PlaceOf.f k bt735.1 bt735.2 t741).bind fun bt744 => ((laws_toSpace.f k l0_0 l0_1).bind fun bt746 => ((laws_toIntS.f k l1).bind fun t753 => ((impl_PlaceOf.f k bt746.1 bt746.2 t753).bind fun bt756 => (if bt756.1 = bt744.1 then (laws_FnExactPlaceOf.j0 k l1 t753 (bt756.2 != bt744.2) l0_0 l0_1 bt746.1 bt746.2) else (laws_FnExactPlaceOf.j0 k l1 t753 true l0_0 l0_1 bt746.1 bt746.2))))))))))) = some r := h
 clear h
 by_cases c3 : (l1.length : Int) > 1048576
 · rw [if_pos c3] at H
   have c3b0 : decide (1048576 < (l1.length : Int)) = true := decide_eq_true c3
   have c3b1 : decide (1048576 < l1.length) = true := decide_eq_true (by omega)
   clear c3
   obtain rfl := Option.some.inj H
   go_enter Try.func12, Try.ntmps12
   go_wp2_with (first | ((with_reducible refine gate_dst (N := 2) rfl ?_); refine zb (w := w) 2 #[.slice A0_0 l0_0.length c0_0, .slice A0_1 l0_1.length c0_1] 47 zB ?_; clear HB; intro gb733 w4 HB BK733 GW733; have GE733 := GW733))
   go_ret
   exact ⟨by first | rfl | (simp [errW_none, errW_some] <;> rfl) | (simp [*, errW_none, errW_some] <;> rfl), zB⟩
 · rw [if_neg c3] at H
   have c3b0 : decide (1048576 < (l1.length : Int)) = false := decide_eq_false c3
   have c3b1 : decide (1048576 < l1.length) = false := decide_eq_false (by omega)
   clear c3
   replace H := Option.bind_eq_some_iff.mp H
   obtain ⟨t734, A50, H⟩ := H
   have A5 := Aside0.mk A50
   clear A50
   by_cases c6 : t734 < 0
   · rw [if_pos c6] at H
     have c6b0 := decide_eq_true c6
     clear c6
     obtain rfl := Option.some.inj H
     go_enter Try.func12, Try.ntmps12
     go_wp2_with (first | ((with_reducible refine gate_dst (N := 2) rfl ?_); refine zb (w := w) 2 #[.slice A0_0 l0_0.length c0_0, .slice A0_1 l0_1.length c0_1] 47 zB ?_; clear HB; intro gb733 w7 HB BK733 GW733; have GE733 := GW733; have hcz8_0 := zy BK733 0; have hcz8_1 := zy BK733 1; have hfz8_0 := blk_frozen BK733.out 0; have hfz8_1 := blk_frozen BK733.out 1) | ((with_reducible refine gate_callee (f := 34) rfl ?_); refine zc 17 Try.func34 #[.agg #[.slice A0_0 l0_0.length c0_0, .slice A0_1 l0_1.length c0_1], .int .i64 1048576] ?_; (with_reducible refine (laws_szSpace.calls k _ _ l0_0 _ _ l0_1 1048576 t734 _ ?side1 ?side2 ?side3 ?side4 A5.out).mono ?_); (case side1 => exact zC (Kd.C_below HR0_0.out HB.out)); (case side2 => exact HC0_0.out); (case side3 => exact zC (Kd.C_below HR0_1.out HB.out)); (case side4 => exact HC0_1.out); rintro e w9 ⟨rfl, hb⟩; refine ⟨_, rfl, ?_⟩; replace BK733 := zM (blk_below (g := gb733) (o := .cells #[.slice A0_0 l0_0.length c0_0, .slice A0_1 l0_1.length c0_1] 47 (0, 0)) (zK BK733.out) hb); replace HB := zM (below_step zB hb); (try clear hb); (try clear hb2); (try clear hk); (try clear hi)))
     go_ret
     exact ⟨by first | rfl | (simp [errW_none, errW_some] <;> rfl) | (simp [*, errW_none, errW_some] <;> rfl), zB⟩
   · rw [if_neg c6] at H
     have c6b0 : decide (t734 < 0) = false := decide_eq_false c6
     clear c6
     replace H := Option.bind_eq_some_iff.mp H
     obtain ⟨⟨t735, t738⟩, A100, H⟩ := H
     replace H : ((laws_toIntS.f k l1).bind fun t741 => ((spec_PlaceOf.f k t735 t738 t741).bind fun bt744 => ((laws_toSpace.f k l0_0 l0_1).bind fun bt746 => ((laws_toIntS.f k l1).bind fun t753 => ((impl_PlaceOf.f k bt746.1 bt746.2 t753).bind fun bt756 => (if bt756.1 = bt744.1 then (laws_FnExactPlaceOf.j0 k l1 t753 (bt756.2 != bt744.2) l0_0 l0_1 bt746.1 bt746.2) else (laws_FnExactPlaceOf.j0 k l1 t753 true l0_0 l0_1 bt746.1 bt746.2))))))) = some r := H
     have A10 := Aside0.mk A100
     clear A100
     replace H := Option.bind_eq_some_iff.mp H
     obtain ⟨t741, A110, H⟩ := H
     have A11 := Aside0.mk A110
     clear A110
     replace H := Option.bind_eq_some_iff.mp H
     obtain ⟨⟨t744, t745⟩, A120, H⟩ := H
     replace H : ((laws_toSpace.f k l0_0 l0_1).bind fun bt746 => ((laws_toIntS.f k l1).bind fun t753 => ((impl_PlaceOf.f k bt746.1 bt746.2 t753).bind fun bt756 => (if bt756.1 = t744 then (laws_FnExactPlaceOf.j0 k l1 t753 (bt756.2 != t745) l0_0 l0_1 bt746.1 bt746.2) else (laws_FnExactPlaceOf.j0 k l1 t753 true l0_0 l0_1 bt746.1 bt746.2))))) = some r := H
     have A12 := Aside0.mk A120
     clear A120
     replace H := Option.bind_eq_some_iff.mp H
     obtain ⟨⟨t746, t749⟩, A130, H⟩ := H
     replace H : ((laws_toIntS.f k l1).bind fun t753 => ((impl_PlaceOf.f k t746 t749 t753).bind fun bt756 => (if bt756.1 = t744 then (laws_FnExactPlaceOf.j0 k l1 t753 (bt756.2 != t745) l0_0 l0_1 t746 t749) else (laws_FnExactPlaceOf.j0 k l1 t753 true l0_0 l0_1 t746 t749)))) = some r := H
     have A13 := Aside0.mk A130
     clear A130
     replace H := Option.bind_eq_some_iff.mp H
     obtain ⟨t753, A140, H⟩ := H
     have A14 := Aside0.mk A140
     clear A140
     replace H := Option.bind_eq_some_iff.mp H
     obtain ⟨⟨t756, t757⟩, A150, H⟩ := H
     replace H : (if t756 = t744 then (laws_FnExactPlaceOf.j0 k l1 t753 (t757 != t745) l0_0 l0_1 t746 t749) else (laws_FnExactPlaceOf.j0 k l1 t753 true l0_0 l0_1 t746 t749)) = some r := H
     have A15 := Aside0.mk A150
     clear A150
     have HC16 := Aside0.mk H
     clear H
     go_enter Try.func12, Try.ntmps12
     go_upto_region 11 with (first | ((with_reducible refine gate_dst (N := 2) rfl ?_); refine zb (w := w) 2 #[.slice A0_0 l0_0.length c0_0, .slice A0_1 l0_1.length c0_1] 47 zB ?_; clear HB; intro gb733 w17 HB BK733 GW733; have GE733 := GW733; have hcz18_0 := zy BK733 0; have hcz18_1 := zy BK733 1; have hfz18_0 := blk_frozen BK733.out 0; have hfz18_1 := blk_frozen BK733.out 1) | ((with_reducible refine gate_callee (f := 34) rfl ?_); refine zc 17 Try.func34 #[.agg #[.slice A0_0 l0_0.length c0_0, .slice A0_1 l0_1.length c0_1], .int .i64 1048576] ?_; (with_reducible refine (laws_szSpace.calls k _ _ l0_0 _ _ l0_1 1048576 t734 _ ?side1 ?side2 ?side3 ?side4 A5.out).mono ?_); (case side1 => exact zC (Kd.C_below HR0_0.out HB.out)); (case side2 => exact HC0_0.out); (case side3 => exact zC (Kd.C_below HR0_1.out HB.out)); (case side4 => exact HC0_1.out); rintro e w19 ⟨rfl, hb⟩; refine ⟨_, rfl, ?_⟩; replace BK733 := zM (blk_below (g := gb733) (o := .cells #[.slice A0_0 l0_0.length c0_0, .slice A0_1 l0_1.length c0_1] 47 (0, 0)) (zK BK733.out) hb); replace HB := zM (below_step zB hb); (try clear hb); (try clear hb2); (try clear hk); (try clear hi); have hcz20_0 := zy BK733 0; have hcz20_1 := zy BK733 1; have hfz20_0 := blk_frozen BK733.out 0; have hfz20_1 := blk_frozen BK733.out 1) | ((with_reducible refine gate_callee (f := 36) rfl ?_); refine zc 22 Try.func36 #[.agg #[.slice A0_0 l0_0.length c0_0, .slice A0_1 l0_1.length c0_1]] ?_; (with_reducible refine (laws_toSpace.calls k _ _ l0_0 _ _ l0_1 t735 t738 _ ?side1 ?side2 ?side3 ?side4 A10.out).mono ?_); (case side1 => exact zC (Kd.C_below HR0_0.out HB.out)); (case side2 => exact HC0_0.out); (case side3 => exact zC (Kd.C_below HR0_1.out HB.out)); (case side4 => exact HC0_1.out); rintro e w21 ⟨v736, v739, rfl, ho0, ho1, hb⟩; refine ⟨_, rfl, ?_⟩; have HO737 := zM (Kd.S_lower ho0 (below_size zB)); have HO740 := zM (Kd.R_lower ho1 (below_size zB)); replace BK733 := zM (blk_below (g := gb733) (o := .cells #[.slice A0_0 l0_0.length c0_0, .slice A0_1 l0_1.length c0_1] 47 (0, 0)) (zK BK733.out) hb); replace HB := zM (below_step zB hb); (try clear hb); (try clear hb2); (try clear hk); (try clear hi); (try clear ho0); (try clear ho1)) | ((with_reducible refine gate_callee (f := 25) rfl ?_); refine zc 24 Try.func25 #[.slice A1 l1.length c1] ?_; (with_reducible refine (laws_toIntS.calls k _ _ l1 t741 _ ?side1 ?side2 A11.out).mono ?_); (case side1 => exact zC (Kd.C_below HR1.out HB.out)); (case side2 => exact HC1.out); rintro e w22 ⟨v742, rfl, ho0, hb⟩; refine ⟨_, rfl, ?_⟩; replace HO737 := zM (Kd.S_elder' (by (with_reducible repeat (first | apply Kd.S_alloc | apply Kd.S_drewN | apply Kd.S_drew)); exact HO737.out) (Kd.R_base ho0) hb); replace HO740 := zM (Kd.R_below (zR HO740.out) hb); have HO743 := zM (Kd.R_lower ho0 (below_size zB)); replace BK733 := zM (blk_below (g := gb733) (o := .cells #[.slice A0_0 l0_0.length c0_0, .slice A0_1 l0_1.length c0_1] 47 (0, 0)) (zK BK733.out) hb); replace HB := zM (below_step zB hb); (try clear hb); (try clear hb2); (try clear hk); (try clear hi); (try clear ho0); obtain ⟨Ao23, co23, eo23⟩ := Kd.S_slice HO737.out; subst eo23; obtain ⟨Ao24, co24, eo24⟩ := Kd.R_slice HO740.out; subst eo24; obtain ⟨Ao25, co25, eo25⟩ := Kd.R_slice HO743.out; subst eo25) | ((with_reducible refine gate_callee (f := 45) rfl ?_); refine zc 25 Try.func45 #[.agg #[.slice Ao23 t735.length co23, .slice Ao24 t738.length co24], .slice Ao25 t741.length co25] ?_; (with_reducible refine (spec_PlaceOf.calls k _ _ t735 _ _ t738 _ _ t741 t744 t745 _ ?side1 ?side2 ?side3 ?side4 ?side5 ?side6 A12.out).mono ?_); (case side1 => exact zC (Kd.S_reads' HO737.out).2.2); (case side2 => exact (Kd.S_reads' HO737.out).2.1); (case side3 => exact zC (Kd.R_reads' HO740.out).2.2); (case side4 => exact (Kd.R_reads' HO740.out).2.1); (case side5 => exact zC (Kd.R_reads' HO743.out).2.2); (case side6 => exact (Kd.R_reads' HO743.out).2.1); rintro e w26 ⟨rfl, hb⟩; refine ⟨_, rfl, ?_⟩; replace HO737 := zM (Kd.S_below (by (with_reducible repeat (first | apply Kd.S_alloc | apply Kd.S_drewN | apply Kd.S_drew)); exact HO737.out) hb); replace HO740 := zM (Kd.R_below (zR HO740.out) hb); replace HO743 := zM (Kd.R_below (zR HO743.out) hb); replace BK733 := zM (blk_below (g := gb733) (o := .cells #[.slice A0_0 l0_0.length c0_0, .slice A0_1 l0_1.length c0_1] 47 (0, 0)) (zK BK733.out) hb); replace HB := zM (below_step zB hb); (try clear hb); (try clear hb2); (try clear hk); (try clear hi); have hcz27_0 := zy BK733 0; have hcz27_1 := zy BK733 1; have hfz27_0 := blk_frozen BK733.out 0; have hfz27_1 := blk_frozen BK733.out 1) | ((with_reducible refine gate_callee (f := 36) rfl ?_); refine zc 29 Try.func36 #[.agg #[.slice A0_0 l0_0.length c0_0, .slice A0_1 l0_1.length c0_1]] ?_; (with_reducible refine (laws_toSpace.calls k _ _ l0_0 _ _ l0_1 t746 t749 _ ?side1 ?side2 ?side3 ?side4 A13.out).mono ?_); (case side1 => exact zC (Kd.C_below HR0_0.out HB.out)); (case side2 => exact HC0_0.out); (case side3 => exact zC (Kd.C_below HR0_1.out HB.out)); (case side4 => exact HC0_1.out); rintro e w28 ⟨v747, v750, rfl, ho0, ho1, hb⟩; refine ⟨_, rfl, ?_⟩; have HO748 := zM (Kd.S_lower (Kd.S_new' (Kd.S_new' ho0 (Kd.S_lt (by (with_reducible repeat (first | apply Kd.S_alloc | apply Kd.S_drewN | apply Kd.S_drew)); exact HO737.out))) (Kd.R_lt (zR HO743.out))) (below_size zB)); replace HO737 := zM (Kd.S_elder' (by (with_reducible repeat (first | apply Kd.S_alloc | apply Kd.S_drewN | apply Kd.S_drew)); exact HO737.out) (Kd.S_base ho0) hb); replace HO743 := zM (Kd.R_below (zR HO743.out) hb); have HO751 := zM (Kd.R_lower (Kd.R_new' ho1 (Kd.R_lt (zR HO740.out))) (below_size zB)); replace HO740 := zM (Kd.R_elder' (zR HO740.out) (Kd.R_base ho1) hb); replace BK733 := zM (blk_below (g := gb733) (o := .cells #[.slice A0_0 l0_0.length c0_0, .slice A0_1 l0_1.length c0_1] 47 (0, 0)) (zK BK733.out) hb); replace HB := zM (below_step zB hb); (try clear hb); (try clear hb2); (try clear hk); (try clear hi); (try clear ho0); (try clear ho1)) | ((with_reducible refine gate_dst (N := 8) rfl ?_); refine ze 8 #[.slice none 0 0, .slice none 0 0] 50 ?_; intro gb752 hg w29 hbox hb; replace HO737 := zM (Kd.S_below (by (with_reducible repeat (first | apply Kd.S_alloc | apply Kd.S_drewN | apply Kd.S_drew)); exact HO737.out) hb); replace HO740 := zM (Kd.R_below (zR HO740.out) hb); replace HO743 := zM (Kd.R_below (zR HO743.out) hb); replace HO748 := zM (Kd.S_below (by (with_reducible repeat (first | apply Kd.S_alloc | apply Kd.S_drewN | apply Kd.S_drew)); exact HO748.out) hb); replace HO751 := zM (Kd.R_below (zR HO751.out) hb); have BK752 := zM (hbox); have GW752 := zM ((by rw [hg]; exact (below_size zB) : w.heap.size ≤ gb752)); have GE752 := zM ((by rw [hg]; exact (below_size zB) : w.heap.size ≤ gb752)); replace HB := zM (below_step zB hb); have NB733_752 := zM ((by rw [hg]; exact Nat.ne_of_lt (blk_lt (g := gb733) (o := .cells #[.slice A0_0 l0_0.length c0_0, .slice A0_1 l0_1.length c0_1] 47 (0, 0)) (zK BK733.out)) : gb733 ≠ gb752)); have NB752_733 := zM ((by rw [hg]; exact Nat.ne_of_gt (blk_lt (g := gb733) (o := .cells #[.slice A0_0 l0_0.length c0_0, .slice A0_1 l0_1.length c0_1] 47 (0, 0)) (zK BK733.out)) : gb752 ≠ gb733)); replace BK733 := zM (blk_below (g := gb733) (o := .cells #[.slice A0_0 l0_0.length c0_0, .slice A0_1 l0_1.length c0_1] 47 (0, 0)) (zK BK733.out) hb); clear hb hbox hg; obtain ⟨Ao30, co30, eo30⟩ := Kd.S_slice HO748.out; subst eo30; have hnb31 := NB752_733.out; have hnc31 := NB733_752.out; have hcz32_0 := zy BK752 0; have hcz32_1 := zy BK752 1; have hfz32_0 := blk_frozen BK752.out 0; have hfz32_1 := blk_frozen BK752.out 1; obtain ⟨Ao33, co33, eo33⟩ := Kd.R_slice HO751.out; subst eo33) | ((with_reducible refine gate_callee (f := 25) rfl ?_); refine zc 31 Try.func25 #[.slice A1 l1.length c1] ?_; (with_reducible refine (laws_toIntS.calls k _ _ l1 t753 _ ?side1 ?side2 A14.out).mono ?_); (case side1 => exact Kd.C_below HR1.out zB); (case side2 => exact HC1.out); rintro e w34 ⟨v754, rfl, ho0, hb⟩; refine ⟨_, rfl, ?_⟩; replace HO737 := zM (Kd.S_elder' (by (with_reducible repeat (first | apply Kd.S_alloc | apply Kd.S_drewN | apply Kd.S_drew)); exact (Kd.S_mono (Kd.S_far (p := ⟨gb752, 1, none⟩) (Kd.S_far (p := ⟨gb752, 0, none⟩) (Kd.S_types HO737.out BK752.out (by decide)) (fun _ hk => hk.2) (.slice Ao30 t746.length co30)) (fun _ hk => hk.2) (.slice Ao33 t749.length co33)) (fun _ h_ => h_.1))) (Kd.R_base ho0) hb); replace HO740 := zM (Kd.R_below (by (with_reducible repeat (first | apply Kd.R_alloc | apply Kd.R_drewN | apply Kd.R_drew)); exact (Kd.R_mono (Kd.R_far (p := ⟨gb752, 1, none⟩) (Kd.R_far (p := ⟨gb752, 0, none⟩) (Kd.R_types HO740.out BK752.out (by decide)) (fun _ hk => hk.2) (.slice Ao30 t746.length co30)) (fun _ hk => hk.2) (.slice Ao33 t749.length co33)) (fun _ h_ => h_.1))) hb); replace HO748 := zM (Kd.S_elder' (by (with_reducible repeat (first | apply Kd.S_alloc | apply Kd.S_drewN | apply Kd.S_drew)); exact (Kd.S_mono (Kd.S_far (p := ⟨gb752, 1, none⟩) (Kd.S_far (p := ⟨gb752, 0, none⟩) (Kd.S_types HO748.out BK752.out (by decide)) (fun _ hk => hk.2) (.slice Ao30 t746.length co30)) (fun _ hk => hk.2) (.slice Ao33 t749.length co33)) (fun _ h_ => h_.1))) (Kd.R_base ho0) hb); replace HO751 := zM (Kd.R_below (by (with_reducible repeat (first | apply Kd.R_alloc | apply Kd.R_drewN | apply Kd.R_drew)); exact (Kd.R_mono (Kd.R_far (p := ⟨gb752, 1, none⟩) (Kd.R_far (p := ⟨gb752, 0, none⟩) (Kd.R_types HO751.out BK752.out (by decide)) (fun _ hk => hk.2) (.slice Ao30 t746.length co30)) (fun _ hk => hk.2) (.slice Ao33 t749.length co33)) (fun _ h_ => h_.1))) hb); have HO755 := zM (Kd.R_lower (Kd.R_new' ho0 (Kd.R_lt (by (with_reducible repeat (first | apply Kd.R_alloc | apply Kd.R_drewN | apply Kd.R_drew)); exact (Kd.R_mono (Kd.R_far (p := ⟨gb752, 1, none⟩) (Kd.R_far (p := ⟨gb752, 0, none⟩) (Kd.R_types HO743.out BK752.out (by decide)) (fun _ hk => hk.2) (.slice Ao30 t746.length co30)) (fun _ hk => hk.2) (.slice Ao33 t749.length co33)) (fun _ h_ => h_.1))))) (below_size zB)); replace HO743 := zM (Kd.R_elder' (by (with_reducible repeat (first | apply Kd.R_alloc | apply Kd.R_drewN | apply Kd.R_drew)); exact (Kd.R_mono (Kd.R_far (p := ⟨gb752, 1, none⟩) (Kd.R_far (p := ⟨gb752, 0, none⟩) (Kd.R_types HO743.out BK752.out (by decide)) (fun _ hk => hk.2) (.slice Ao30 t746.length co30)) (fun _ hk => hk.2) (.slice Ao33 t749.length co33)) (fun _ h_ => h_.1))) (Kd.R_base ho0) hb); replace BK733 := zM (blk_below (g := gb733) (o := .cells #[.slice A0_0 l0_0.length c0_0, .slice A0_1 l0_1.length c0_1] 47 (0, 0)) (by (with_reducible repeat (first | refine blk_drewN ?_ _ | refine blk_drew ?_ | refine blk_alloc ?_ _)); refine blk_far ?_ NB733_752.out _; (with_reducible repeat (first | refine blk_drewN ?_ _ | refine blk_drew ?_ | refine blk_alloc ?_ _)); refine blk_far ?_ NB733_752.out _; (with_reducible repeat (first | refine blk_drewN ?_ _ | refine blk_drew ?_ | refine blk_alloc ?_ _)); exact BK733.out) hb); replace BK752 := zM (blk_below (g := gb752) (o := .cells #[.slice Ao30 t746.length co30, .slice Ao33 t749.length co33] 50 (0, 0)) (by (with_reducible repeat (first | refine blk_drewN ?_ _ | refine blk_drew ?_ | refine blk_alloc ?_ _)); refine blk_put (cs := #[.slice Ao30 t746.length co30, .slice none 0 0]) ?_ 1 _ rfl; (with_reducible repeat (first | refine blk_drewN ?_ _ | refine blk_drew ?_ | refine blk_alloc ?_ _)); refine blk_put (cs := #[.slice none 0 0, .slice none 0 0]) ?_ 0 _ rfl; (with_reducible repeat (first | refine blk_drewN ?_ _ | refine blk_drew ?_ | refine blk_alloc ?_ _)); exact BK752.out) hb); replace HB := zM (below_step zB hb); (try clear hb); (try clear hb2); (try clear hk); (try clear hi); (try clear ho0); have hcz35_0 := zy BK752 0; have hcz35_1 := zy BK752 1; have hfz35_0 := blk_frozen BK752.out 0; have hfz35_1 := blk_frozen BK752.out 1; obtain ⟨Ao36, co36, eo36⟩ := Kd.R_slice HO755.out; subst eo36) | ((with_reducible refine gate_callee (f := 46) rfl ?_); refine zc 35 Try.func46 #[.agg #[.slice Ao30 t746.length co30, .slice Ao33 t749.length co33], .slice Ao36 t753.length co36] ?_; (with_reducible refine (impl_PlaceOf.calls k _ _ t746 _ _ t749 _ _ t753 t756 t757 _ ?side1 ?side2 ?side3 ?side4 ?side5 ?side6 A15.out).mono ?_); (case side1 => exact zC (Kd.S_reads' HO748.out).2.2); (case side2 => exact (Kd.S_reads' HO748.out).2.1); (case side3 => exact zC (Kd.R_reads' HO751.out).2.2); (case side4 => exact (Kd.R_reads' HO751.out).2.1); (case side5 => exact zC (Kd.R_reads' HO755.out).2.2); (case side6 => exact (Kd.R_reads' HO755.out).2.1); rintro e w37 ⟨rfl, hb⟩; refine ⟨_, rfl, ?_⟩; replace HO737 := zM (Kd.S_below (by (with_reducible repeat (first | apply Kd.S_alloc | apply Kd.S_drewN | apply Kd.S_drew)); exact HO737.out) hb); replace HO740 := zM (Kd.R_below (zR HO740.out) hb); replace HO743 := zM (Kd.R_below (zR HO743.out) hb); replace HO748 := zM (Kd.S_below (by (with_reducible repeat (first | apply Kd.S_alloc | apply Kd.S_drewN | apply Kd.S_drew)); exact HO748.out) hb); replace HO751 := zM (Kd.R_below (zR HO751.out) hb); replace HO755 := zM (Kd.R_below (zR HO755.out) hb); replace BK733 := zM (blk_below (g := gb733) (o := .cells #[.slice A0_0 l0_0.length c0_0, .slice A0_1 l0_1.length c0_1] 47 (0, 0)) (zK BK733.out) hb); replace BK752 := zM (blk_below (g := gb752) (o := .cells #[.slice Ao30 t746.length co30, .slice Ao33 t749.length co33] 50 (0, 0)) (zK BK752.out) hb); replace HB := zM (below_step zB hb); (try clear hb); (try clear hb2); (try clear hk); (try clear hi)))
     (try simp only [Act.put, List.setIfInBounds_toArray, List.set_cons_zero, List.set_cons_succ])
     go_cut [45] (fun v45 wc => ∃ (kq : Nat) (x45_15 : Bool), v45 = .bool x45_15 ∧ Aside0 (laws_FnExactPlaceOf.j0 kq l1 t753 x45_15 l0_0 l0_1 t746 t749 = some r) ∧ Aside0 (kq ≤ k) ∧ Aside0 (Kd.R (Kd.int .i64) 3 wc w.heap.size (fun _ => True) (.slice Ao36 t753.length co36) t753) ∧ Aside0 (Kd.S (Kd.slice 3 (Kd.int .i64)) 34 wc w.heap.size (fun k_ => some k_ ≠ ((.slice Ao36 t753.length co36) : Value).ownBlock) (.slice Ao30 t746.length co30) t746) ∧ Aside0 (Kd.R k68 68 wc w.heap.size (fun _ => True) (.slice Ao33 t749.length co33) t749) ∧ Aside0 (wc.heap[gb733]? = some (.cells #[(.slice A0_0 l0_0.length c0_0), (.slice A0_1 l0_1.length c0_1)] 47 (0, 0))) ∧ Aside0 (wc.heap[gb752]? = some (.cells #[(.slice Ao30 t746.length co30), (.slice Ao33 t749.length co33)] 50 (0, 0))) ∧ Aside0 (Below w.heap.size w wc))
     case first =>
      have H := HC16.out
      clear HC16
      by_cases c38 : t756 = t744
      · rw [if_pos c38] at H
        have c38b0 : (t756 == t744) = true := beq_iff_eq.mpr c38
        have c38b1 : (t756 != t744) = false := bne_eq_false_iff_eq.mpr c38
        clear c38
        (first | rw [c38b0] | (simp only [i64_w, i32_w]; rw [c38b0]) | skip)
        have H' := Aside0.mk H
        clear H
        go_wp2
        go_meet
        case rel => exact ⟨_, ((t757 != t745)), (by first | rfl | (simp; done) | (simp [*]; done)), H', ⟨by first | omega | exact Nat.le_refl _⟩, ⟨by (with_reducible repeat (first | apply Kd.R_alloc | apply Kd.R_drewN | apply Kd.R_drew)); exact Kd.R_mono HO755.out (fun _ hk => trivial)⟩, ⟨by (with_reducible repeat (first | apply Kd.S_alloc | apply Kd.S_drewN | apply Kd.S_drew)); exact Kd.S_mono HO748.out (fun _ hk => hk.2)⟩, ⟨by (with_reducible repeat (first | apply Kd.R_alloc | apply Kd.R_drewN | apply Kd.R_drew)); exact Kd.R_mono HO751.out (fun _ hk => trivial)⟩, ⟨zK BK733.out⟩, ⟨zK BK752.out⟩, ⟨zB⟩⟩
      · rw [if_neg c38] at H
        have c38b0 : (t756 == t744) = false := beq_eq_false_iff_ne.mpr c38
        have c38b1 : (t756 != t744) = true := bne_iff_ne.mpr c38
        (first | rw [c38b0] | (simp only [i64_w, i32_w]; rw [c38b0]) | skip)
        have H' := Aside0.mk H
        clear H
        go_wp2
        go_meet
        case rel => exact ⟨_, (true), (by first | rfl | (simp; done) | (simp [*]; done)), H', ⟨by first | omega | exact Nat.le_refl _⟩, ⟨by (with_reducible repeat (first | apply Kd.R_alloc | apply Kd.R_drewN | apply Kd.R_drew)); exact Kd.R_mono HO755.out (fun _ hk => trivial)⟩, ⟨by (with_reducible repeat (first | apply Kd.S_alloc | apply Kd.S_drewN | apply Kd.S_drew)); exact Kd.S_mono HO748.out (fun _ hk => hk.2)⟩, ⟨by (with_reducible repeat (first | apply Kd.R_alloc | apply Kd.R_drewN | apply Kd.R_drew)); exact Kd.R_mono HO751.out (fun _ hk => trivial)⟩, ⟨zK BK733.out⟩, ⟨zK BK752.out⟩, ⟨zB⟩⟩
     case rest =>
      clear HC16
      try clear c1
      try clear c2
      try clear p2
      try clear c3
      try clear c3b0
      try clear c3b1
      try clear c4
      try clear c6
      try clear c6b0
      try clear c12
      try clear c25
      try clear c31
      try clear c34
      try clear c36
      try clear c38
      try clear c38b0
      try clear c38b1
      try clear hcz18_0
      try clear hcz18_1
      try clear hcz20_0
      try clear hcz20_1
      try clear hcz27_0
      try clear hcz27_1
      try clear hcz32_0
      try clear hcz32_1
      try clear hcz35_0
      try clear hcz35_1
      try clear hcz8_0
      try clear hcz8_1
      try clear hfz18_0
      try clear hfz18_1
      try clear hfz20_0
      try clear hfz20_1
      try clear hfz27_0
      try clear hfz27_1
      try clear hfz32_0
      try clear hfz32_1
      try clear hfz35_0
      try clear hfz35_1
      try clear hfz8_0
      try clear hfz8_1
      obtain ⟨kq, x45_15, rfl, HA, HJ15, HO_9, HO_753000, HO_753001, BK733, BK752, HB⟩ := hcut
      cases kq with
      | zero => exact absurd HA.out (by simp [laws_FnExactPlaceOf.j0])
      | succ kj15 =>
       have H := HA.out
       clear HA
       simp only [laws_FnExactPlaceOf.j0] at H
       by_cases c39 : x45_15 = true
       · subst c39
         rw [if_pos rfl] at H
         obtain rfl := Option.some.inj H
         go_wp2
         go_ret
         exact ⟨by first | rfl | (simp [errW_none, errW_some] <;> rfl) | (simp [*, errW_none, errW_some] <;> rfl), zB⟩
       · replace c39 := Bool.eq_false_iff.mpr c39
         subst c39
         have H1 : ((laws_toSpace.f kj15 l0_0 l0_1).bind fun bt758 => ((laws_eqSpace.f kj15 t746 t749 bt758.1 bt758.2).bind fun t764 => (if t764 = true then ((laws_toIntS.f kj15 l1).bind fun t765 => ((laws_eqIntS.f kj15 t753 t765).bind fun t768 => (if t768 = true then (some true) else (some false)))) else (some false)))) = some r := by rw [if_neg (show ¬ (false = true) by decide)] at H; exact H
         clear H
         have H := H1
         clear H1
         replace H := Option.bind_eq_some_iff.mp H
         obtain ⟨⟨t758, t761⟩, A400, H⟩ := H
         replace H : ((laws_eqSpace.f kj15 t746 t749 t758 t761).bind fun t764 => (if t764 = true then ((laws_toIntS.f kj15 l1).bind fun t765 => ((laws_eqIntS.f kj15 t753 t765).bind fun t768 => (if t768 = true then (some true) else (some false)))) else (some false))) = some r := H
         have A40 := Aside0.mk A400
         clear A400
         replace H := Option.bind_eq_some_iff.mp H
         obtain ⟨t764, A410, H⟩ := H
         have A41 := Aside0.mk A410
         clear A410
         by_cases c42 : t764 = true
         · subst c42
           rw [if_pos rfl] at H
           replace H := Option.bind_eq_some_iff.mp H
           obtain ⟨t765, A430, H⟩ := H
           have A43 := Aside0.mk A430
           clear A430
           replace H := Option.bind_eq_some_iff.mp H
           obtain ⟨t768, A440, H⟩ := H
           have A44 := Aside0.mk A440
           clear A440
           by_cases c45 : t768 = true
           · subst c45
             rw [if_pos rfl] at H
             obtain rfl := Option.some.inj H
             try go_wp2
             replace HO_9 := zM (Kd.R_drew HO_9.out)
             replace HO_753000 := zM (Kd.S_drew HO_753000.out)
             replace HO_753001 := zM (Kd.R_drew HO_753001.out)
             replace BK733 := zM (blk_drew BK733.out)
             replace BK752 := zM (blk_drew BK752.out)
             replace HB := zM (below_drew1 HB.out)
             refine zs (n := 5) (fun w' => w'.cell? ⟨gb752, 0, none⟩ = some (.slice Ao30 t746.length co30) ∧ w'.cell? ⟨gb752, 1, none⟩ = some (.slice Ao33 t749.length co33) ∧ w'.cell? ⟨gb733, 0, none⟩ = some (.slice A0_0 l0_0.length c0_0) ∧ w'.cell? ⟨gb733, 1, none⟩ = some (.slice A0_1 l0_1.length c0_1)) ⟨(blk_cell BK752.out 0).trans rfl, (blk_cell BK752.out 1).trans rfl, (blk_cell BK733.out 0).trans rfl, (blk_cell BK733.out 1).trans rfl⟩ (fun hHeld => ?_)
             generalize wc.drew = w46 at HO_9 HO_753000 HO_753001 BK733 BK752 HB hHeld ⊢
             refine zl 0 46 hHeld ?_ (hy := by rintro w' ⟨s0, s1, s2, s3⟩; go_simp; with_reducible rfl)
             refine zl 1 47 hHeld ?_ (hy := by rintro w' ⟨s0, s1, s2, s3⟩; go_simp; with_reducible rfl)
             refine zh 2 48 Try.func36 #[.agg #[.slice A0_0 l0_0.length c0_0, .slice A0_1 l0_1.length c0_1]] (fun K hK => ?_)
             with_reducible refine (laws_toSpace.calls kj15 _ _ l0_0 _ _ l0_1 t758 t761 _ ?side1 ?side2 ?side3 ?side4 A40.out).mono ?_
             (case side1 => exact zC (Kd.C_below HR0_0.out HB.out))
             (case side2 => exact HC0_0.out)
             (case side3 => exact zC (Kd.C_below HR0_1.out HB.out))
             (case side4 => exact HC0_1.out)
             rintro e w47 ⟨v759, v762, rfl, ho0, ho1, hb⟩
             refine ⟨_, rfl, ?_⟩
             have HO760 := zM (Kd.S_lower (Kd.S_new' (Kd.S_new' ho0 (Kd.R_lt (zR HO_9.out))) (Kd.S_lt (by (with_reducible repeat (first | apply Kd.S_alloc | apply Kd.S_drewN | apply Kd.S_drew)); exact HO_753000.out))) (below_size zB))
             replace HO_9 := zM (Kd.R_below (zR HO_9.out) hb)
             replace HO_753000 := zM (Kd.S_elder' (by (with_reducible repeat (first | apply Kd.S_alloc | apply Kd.S_drewN | apply Kd.S_drew)); exact HO_753000.out) (Kd.S_base ho0) hb)
             have HO763 := zM (Kd.R_lower (Kd.R_new' ho1 (Kd.R_lt (zR HO_753001.out))) (below_size zB))
             replace HO_753001 := zM (Kd.R_elder' (zR HO_753001.out) (Kd.R_base ho1) hb)
             replace BK733 := zM (blk_below (g := gb733) (o := .cells #[.slice A0_0 l0_0.length c0_0, .slice A0_1 l0_1.length c0_1] 47 (0, 0)) (zK BK733.out) hb)
             replace BK752 := zM (blk_below (g := gb752) (o := .cells #[.slice Ao30 t746.length co30, .slice Ao33 t749.length co33] 50 (0, 0)) (zK BK752.out) hb)
             replace HB := zM (below_step zB hb)
             (try clear hb)
             (try clear hb2)
             (try clear hk)
             (try clear hi)
             (try clear ho0)
             (try clear ho1)
             obtain ⟨Ao48, co48, eo48⟩ := Kd.S_slice HO760.out
             (first | subst eo48 | (injection eo48 with f1_ f2_ f3_; have f4_ := f1_.symm; have f5_ := f3_.symm; clear f1_ f2_ f3_; subst f4_; subst f5_))
             obtain ⟨Ao49, co49, eo49⟩ := Kd.R_slice HO763.out
             (first | subst eo49 | (injection eo49 with f1_ f2_ f3_; have f4_ := f1_.symm; have f5_ := f3_.symm; clear f1_ f2_ f3_; subst f4_; subst f5_))
             refine hK.out _ _ ⟨(blk_cell BK752.out 0).trans rfl, (blk_cell BK752.out 1).trans rfl, (blk_cell BK733.out 0).trans rfl, (blk_cell BK733.out 1).trans rfl⟩ (fun hHeld => ?_)
             clear hK K
             refine zn 48 ?_
             refine zh 3 49 Try.func38 #[.agg #[.slice Ao30 t746.length co30, .slice Ao33 t749.length co33], .agg #[.slice Ao48 t758.length co48, .slice Ao49 t761.length co49]] (fun K hK => ?_)
             with_reducible refine (laws_eqSpace.calls kj15 _ _ t746 _ _ t749 _ _ t758 _ _ t761 true _ ?side1 ?side2 ?side3 ?side4 ?side5 ?side6 ?side7 ?side8 A41.out).mono ?_
             (case side1 => exact zC (Kd.S_reads' HO_753000.out).2.2)
             (case side2 => exact (Kd.S_reads' HO_753000.out).2.1)
             (case side3 => exact zC (Kd.R_reads' HO_753001.out).2.2)
             (case side4 => exact (Kd.R_reads' HO_753001.out).2.1)
             (case side5 => exact zC (Kd.S_reads' HO760.out).2.2)
             (case side6 => exact (Kd.S_reads' HO760.out).2.1)
             (case side7 => exact zC (Kd.R_reads' HO763.out).2.2)
             (case side8 => exact (Kd.R_reads' HO763.out).2.1)
             rintro e w50 ⟨rfl, hb⟩
             refine ⟨_, rfl, ?_⟩
             replace HO_9 := zM (Kd.R_below (zR HO_9.out) hb)
             replace HO_753000 := zM (Kd.S_below (by (with_reducible repeat (first | apply Kd.S_alloc | apply Kd.S_drewN | apply Kd.S_drew)); exact HO_753000.out) hb)
             replace HO_753001 := zM (Kd.R_below (zR HO_753001.out) hb)
             replace HO760 := zM (Kd.S_below (by (with_reducible repeat (first | apply Kd.S_alloc | apply Kd.S_drewN | apply Kd.S_drew)); exact HO760.out) hb)
             replace HO763 := zM (Kd.R_below (zR HO763.out) hb)
             replace BK733 := zM (blk_below (g := gb733) (o := .cells #[.slice A0_0 l0_0.length c0_0, .slice A0_1 l0_1.length c0_1] 47 (0, 0)) (zK BK733.out) hb)
             replace BK752 := zM (blk_below (g := gb752) (o := .cells #[.slice Ao30 t746.length co30, .slice Ao33 t749.length co33] 50 (0, 0)) (zK BK752.out) hb)
             replace HB := zM (below_step zB hb)
             (try clear hb)
             (try clear hb2)
             (try clear hk)
             (try clear hi)
             refine hK.out _ _ ⟨(blk_cell BK752.out 0).trans rfl, (blk_cell BK752.out 1).trans rfl, (blk_cell BK733.out 0).trans rfl, (blk_cell BK733.out 1).trans rfl⟩ (fun hHeld => ?_)
             clear hK K
             refine zn 49 ?_
             refine zq 4 50 ?_
             refine zx ?_
             try go_wp2_with (first | ((with_reducible refine gate_callee (f := 25) rfl ?_); refine zc 53 Try.func25 #[.slice A1 l1.length c1] ?_; (with_reducible refine (laws_toIntS.calls kj15 _ _ l1 t765 _ ?side1 ?side2 A43.out).mono ?_); (case side1 => exact zC (Kd.C_below HR1.out HB.out)); (case side2 => exact HC1.out); rintro e w51 ⟨v766, rfl, ho0, hb⟩; refine ⟨_, rfl, ?_⟩; replace HO_753000 := zM (Kd.S_elder' (by (with_reducible repeat (first | apply Kd.S_alloc | apply Kd.S_drewN | apply Kd.S_drew)); exact HO_753000.out) (Kd.R_base ho0) hb); replace HO_753001 := zM (Kd.R_below (zR HO_753001.out) hb); replace HO760 := zM (Kd.S_elder' (by (with_reducible repeat (first | apply Kd.S_alloc | apply Kd.S_drewN | apply Kd.S_drew)); exact HO760.out) (Kd.R_base ho0) hb); replace HO763 := zM (Kd.R_below (zR HO763.out) hb); have HO767 := zM (Kd.R_lower (Kd.R_new' ho0 (Kd.R_lt (zR HO_9.out))) (below_size zB)); replace HO_9 := zM (Kd.R_elder' (zR HO_9.out) (Kd.R_base ho0) hb); replace BK733 := zM (blk_below (g := gb733) (o := .cells #[.slice A0_0 l0_0.length c0_0, .slice A0_1 l0_1.length c0_1] 47 (0, 0)) (zK BK733.out) hb); replace BK752 := zM (blk_below (g := gb752) (o := .cells #[.slice Ao30 t746.length co30, .slice Ao33 t749.length co33] 50 (0, 0)) (zK BK752.out) hb); replace HB := zM (below_step zB hb); (try clear hb); (try clear hb2); (try clear hk); (try clear hi); (try clear ho0); obtain ⟨Ao52, co52, eo52⟩ := Kd.R_slice HO767.out; subst eo52) | ((with_reducible refine gate_callee (f := 27) rfl ?_); refine zc 54 Try.func27 #[.slice Ao36 t753.length co36, .slice Ao52 t765.length co52] ?_; (with_reducible refine (laws_eqIntS.calls kj15 _ _ t753 _ _ t765 true _ ?side1 ?side2 ?side3 ?side4 A44.out).mono ?_); (case side1 => exact zC (Kd.R_reads' HO_9.out).2.2); (case side2 => exact (Kd.R_reads' HO_9.out).2.1); (case side3 => exact zC (Kd.R_reads' HO767.out).2.2); (case side4 => exact (Kd.R_reads' HO767.out).2.1); rintro e w' ⟨rfl, ⟨nd, rfl⟩⟩; refine ⟨_, rfl, ?_⟩))
             go_ret
             exact ⟨by first | rfl | (simp [errW_none, errW_some] <;> rfl) | (simp [*, errW_none, errW_some] <;> rfl), zB⟩
           · replace c45 := Bool.eq_false_iff.mpr c45
             subst c45
             have H1 : (some false) = some r := by rw [if_neg (show ¬ (false = true) by decide)] at H; exact H
             clear H
             have H := H1
             clear H1
             obtain rfl := Option.some.inj H
             try go_wp2
             replace HO_9 := zM (Kd.R_drew HO_9.out)
             replace HO_753000 := zM (Kd.S_drew HO_753000.out)
             replace HO_753001 := zM (Kd.R_drew HO_753001.out)
             replace BK733 := zM (blk_drew BK733.out)
             replace BK752 := zM (blk_drew BK752.out)
             replace HB := zM (below_drew1 HB.out)
             refine zs (n := 5) (fun w' => w'.cell? ⟨gb752, 0, none⟩ = some (.slice Ao30 t746.length co30) ∧ w'.cell? ⟨gb752, 1, none⟩ = some (.slice Ao33 t749.length co33) ∧ w'.cell? ⟨gb733, 0, none⟩ = some (.slice A0_0 l0_0.length c0_0) ∧ w'.cell? ⟨gb733, 1, none⟩ = some (.slice A0_1 l0_1.length c0_1)) ⟨(blk_cell BK752.out 0).trans rfl, (blk_cell BK752.out 1).trans rfl, (blk_cell BK733.out 0).trans rfl, (blk_cell BK733.out 1).trans rfl⟩ (fun hHeld => ?_)
             generalize wc.drew = w53 at HO_9 HO_753000 HO_753001 BK733 BK752 HB hHeld ⊢
             refine zl 0 46 hHeld ?_ (hy := by rintro w' ⟨s0, s1, s2, s3⟩; go_simp; with_reducible rfl)
             refine zl 1 47 hHeld ?_ (hy := by rintro w' ⟨s0, s1, s2, s3⟩; go_simp; with_reducible rfl)
             refine zh 2 48 Try.func36 #[.agg #[.slice A0_0 l0_0.length c0_0, .slice A0_1 l0_1.length c0_1]] (fun K hK => ?_)
             with_reducible refine (laws_toSpace.calls kj15 _ _ l0_0 _ _ l0_1 t758 t761 _ ?side1 ?side2 ?side3 ?side4 A40.out).mono ?_
             (case side1 => exact zC (Kd.C_below HR0_0.out HB.out))
             (case side2 => exact HC0_0.out)
             (case side3 => exact zC (Kd.C_below HR0_1.out HB.out))
             (case side4 => exact HC0_1.out)
             rintro e w54 ⟨v759, v762, rfl, ho0, ho1, hb⟩
             refine ⟨_, rfl, ?_⟩
             have HO760 := zM (Kd.S_lower (Kd.S_new' (Kd.S_new' ho0 (Kd.R_lt (zR HO_9.out))) (Kd.S_lt (by (with_reducible repeat (first | apply Kd.S_alloc | apply Kd.S_drewN | apply Kd.S_drew)); exact HO_753000.out))) (below_size zB))
             replace HO_9 := zM (Kd.R_below (zR HO_9.out) hb)
             replace HO_753000 := zM (Kd.S_elder' (by (with_reducible repeat (first | apply Kd.S_alloc | apply Kd.S_drewN | apply Kd.S_drew)); exact HO_753000.out) (Kd.S_base ho0) hb)
             have HO763 := zM (Kd.R_lower (Kd.R_new' ho1 (Kd.R_lt (zR HO_753001.out))) (below_size zB))
             replace HO_753001 := zM (Kd.R_elder' (zR HO_753001.out) (Kd.R_base ho1) hb)
             replace BK733 := zM (blk_below (g := gb733) (o := .cells #[.slice A0_0 l0_0.length c0_0, .slice A0_1 l0_1.length c0_1] 47 (0, 0)) (zK BK733.out) hb)
             replace BK752 := zM (blk_below (g := gb752) (o := .cells #[.slice Ao30 t746.length co30, .slice Ao33 t749.length co33] 50 (0, 0)) (zK BK752.out) hb)
             replace HB := zM (below_step zB hb)
             (try clear hb)
             (try clear hb2)
             (try clear hk)
             (try clear hi)
             (try clear ho0)
             (try clear ho1)
             obtain ⟨Ao55, co55, eo55⟩ := Kd.S_slice HO760.out
             (first | subst eo55 | (injection eo55 with f1_ f2_ f3_; have f4_ := f1_.symm; have f5_ := f3_.symm; clear f1_ f2_ f3_; subst f4_; subst f5_))
             obtain ⟨Ao56, co56, eo56⟩ := Kd.R_slice HO763.out
             (first | subst eo56 | (injection eo56 with f1_ f2_ f3_; have f4_ := f1_.symm; have f5_ := f3_.symm; clear f1_ f2_ f3_; subst f4_; subst f5_))
             refine hK.out _ _ ⟨(blk_cell BK752.out 0).trans rfl, (blk_cell BK752.out 1).trans rfl, (blk_cell BK733.out 0).trans rfl, (blk_cell BK733.out 1).trans rfl⟩ (fun hHeld => ?_)
             clear hK K
             refine zn 48 ?_
             refine zh 3 49 Try.func38 #[.agg #[.slice Ao30 t746.length co30, .slice Ao33 t749.length co33], .agg #[.slice Ao55 t758.length co55, .slice Ao56 t761.length co56]] (fun K hK => ?_)
             with_reducible refine (laws_eqSpace.calls kj15 _ _ t746 _ _ t749 _ _ t758 _ _ t761 true _ ?side1 ?side2 ?side3 ?side4 ?side5 ?side6 ?side7 ?side8 A41.out).mono ?_
             (case side1 => exact zC (Kd.S_reads' HO_753000.out).2.2)
             (case side2 => exact (Kd.S_reads' HO_753000.out).2.1)
             (case side3 => exact zC (Kd.R_reads' HO_753001.out).2.2)
             (case side4 => exact (Kd.R_reads' HO_753001.out).2.1)
             (case side5 => exact zC (Kd.S_reads' HO760.out).2.2)
             (case side6 => exact (Kd.S_reads' HO760.out).2.1)
             (case side7 => exact zC (Kd.R_reads' HO763.out).2.2)
             (case side8 => exact (Kd.R_reads' HO763.out).2.1)
             rintro e w57 ⟨rfl, hb⟩
             refine ⟨_, rfl, ?_⟩
             replace HO_9 := zM (Kd.R_below (zR HO_9.out) hb)
             replace HO_753000 := zM (Kd.S_below (by (with_reducible repeat (first | apply Kd.S_alloc | apply Kd.S_drewN | apply Kd.S_drew)); exact HO_753000.out) hb)
             replace HO_753001 := zM (Kd.R_below (zR HO_753001.out) hb)
             replace HO760 := zM (Kd.S_below (by (with_reducible repeat (first | apply Kd.S_alloc | apply Kd.S_drewN | apply Kd.S_drew)); exact HO760.out) hb)
             replace HO763 := zM (Kd.R_below (zR HO763.out) hb)
             replace BK733 := zM (blk_below (g := gb733) (o := .cells #[.slice A0_0 l0_0.length c0_0, .slice A0_1 l0_1.length c0_1] 47 (0, 0)) (zK BK733.out) hb)
             replace BK752 := zM (blk_below (g := gb752) (o := .cells #[.slice Ao30 t746.length co30, .slice Ao33 t749.length co33] 50 (0, 0)) (zK BK752.out) hb)
             replace HB := zM (below_step zB hb)
             (try clear hb)
             (try clear hb2)
             (try clear hk)
             (try clear hi)
             refine hK.out _ _ ⟨(blk_cell BK752.out 0).trans rfl, (blk_cell BK752.out 1).trans rfl, (blk_cell BK733.out 0).trans rfl, (blk_cell BK733.out 1).trans rfl⟩ (fun hHeld => ?_)
             clear hK K
             refine zn 49 ?_
             refine zq 4 50 ?_
             refine zx ?_
             try go_wp2_with (first | ((with_reducible refine gate_callee (f := 25) rfl ?_); refine zc 53 Try.func25 #[.slice A1 l1.length c1] ?_; (with_reducible refine (laws_toIntS.calls kj15 _ _ l1 t765 _ ?side1 ?side2 A43.out).mono ?_); (case side1 => exact zC (Kd.C_below HR1.out HB.out)); (case side2 => exact HC1.out); rintro e w58 ⟨v766, rfl, ho0, hb⟩; refine ⟨_, rfl, ?_⟩; replace HO_753000 := zM (Kd.S_elder' (by (with_reducible repeat (first | apply Kd.S_alloc | apply Kd.S_drewN | apply Kd.S_drew)); exact HO_753000.out) (Kd.R_base ho0) hb); replace HO_753001 := zM (Kd.R_below (zR HO_753001.out) hb); replace HO760 := zM (Kd.S_elder' (by (with_reducible repeat (first | apply Kd.S_alloc | apply Kd.S_drewN | apply Kd.S_drew)); exact HO760.out) (Kd.R_base ho0) hb); replace HO763 := zM (Kd.R_below (zR HO763.out) hb); have HO767 := zM (Kd.R_lower (Kd.R_new' ho0 (Kd.R_lt (zR HO_9.out))) (below_size zB)); replace HO_9 := zM (Kd.R_elder' (zR HO_9.out) (Kd.R_base ho0) hb); replace BK733 := zM (blk_below (g := gb733) (o := .cells #[.slice A0_0 l0_0.length c0_0, .slice A0_1 l0_1.length c0_1] 47 (0, 0)) (zK BK733.out) hb); replace BK752 := zM (blk_below (g := gb752) (o := .cells #[.slice Ao30 t746.length co30, .slice Ao33 t749.length co33] 50 (0, 0)) (zK BK752.out) hb); replace HB := zM (below_step zB hb); (try clear hb); (try clear hb2); (try clear hk); (try clear hi); (try clear ho0); obtain ⟨Ao59, co59, eo59⟩ := Kd.R_slice HO767.out; subst eo59) | ((with_reducible refine gate_callee (f := 27) rfl ?_); refine zc 54 Try.func27 #[.slice Ao36 t753.length co36, .slice Ao59 t765.length co59] ?_; (with_reducible refine (laws_eqIntS.calls kj15 _ _ t753 _ _ t765 false _ ?side1 ?side2 ?side3 ?side4 A44.out).mono ?_); (case side1 => exact zC (Kd.R_reads' HO_9.out).2.2); (case side2 => exact (Kd.R_reads' HO_9.out).2.1); (case side3 => exact zC (Kd.R_reads' HO767.out).2.2); (case side4 => exact (Kd.R_reads' HO767.out).2.1); rintro e w' ⟨rfl, ⟨nd, rfl⟩⟩; refine ⟨_, rfl, ?_⟩))
             go_ret
             exact ⟨by first | rfl | (simp [errW_none, errW_some] <;> rfl) | (simp [*, errW_none, errW_some] <;> rfl), zB⟩
         · replace c42 := Bool.eq_false_iff.mpr c42
           subst c42
           have H1 : (some false) = some r := by rw [if_neg (show ¬ (false = true) by decide)] at H; exact H
           clear H
           have H := H1
           clear H1
           obtain rfl := Option.some.inj H
           try go_wp2
           replace HO_9 := zM (Kd.R_drew HO_9.out)
           replace HO_753000 := zM (Kd.S_drew HO_753000.out)
           replace HO_753001 := zM (Kd.R_drew HO_753001.out)
           replace BK733 := zM (blk_drew BK733.out)
           replace BK752 := zM (blk_drew BK752.out)
           replace HB := zM (below_drew1 HB.out)
           refine zs (n := 5) (fun w' => w'.cell? ⟨gb752, 0, none⟩ = some (.slice Ao30 t746.length co30) ∧ w'.cell? ⟨gb752, 1, none⟩ = some (.slice Ao33 t749.length co33) ∧ w'.cell? ⟨gb733, 0, none⟩ = some (.slice A0_0 l0_0.length c0_0) ∧ w'.cell? ⟨gb733, 1, none⟩ = some (.slice A0_1 l0_1.length c0_1)) ⟨(blk_cell BK752.out 0).trans rfl, (blk_cell BK752.out 1).trans rfl, (blk_cell BK733.out 0).trans rfl, (blk_cell BK733.out 1).trans rfl⟩ (fun hHeld => ?_)
           generalize wc.drew = w60 at HO_9 HO_753000 HO_753001 BK733 BK752 HB hHeld ⊢
           refine zl 0 46 hHeld ?_ (hy := by rintro w' ⟨s0, s1, s2, s3⟩; go_simp; with_reducible rfl)
           refine zl 1 47 hHeld ?_ (hy := by rintro w' ⟨s0, s1, s2, s3⟩; go_simp; with_reducible rfl)
           refine zh 2 48 Try.func36 #[.agg #[.slice A0_0 l0_0.length c0_0, .slice A0_1 l0_1.length c0_1]] (fun K hK => ?_)
           with_reducible refine (laws_toSpace.calls kj15 _ _ l0_0 _ _ l0_1 t758 t761 _ ?side1 ?side2 ?side3 ?side4 A40.out).mono ?_
           (case side1 => exact zC (Kd.C_below HR0_0.out HB.out))
           (case side2 => exact HC0_0.out)
           (case side3 => exact zC (Kd.C_below HR0_1.out HB.out))
           (case side4 => exact HC0_1.out)
           rintro e w61 ⟨v759, v762, rfl, ho0, ho1, hb⟩
           refine ⟨_, rfl, ?_⟩
           have HO760 := zM (Kd.S_lower (Kd.S_new' (Kd.S_new' ho0 (Kd.R_lt (zR HO_9.out))) (Kd.S_lt (by (with_reducible repeat (first | apply Kd.S_alloc | apply Kd.S_drewN | apply Kd.S_drew)); exact HO_753000.out))) (below_size zB))
           replace HO_9 := zM (Kd.R_below (zR HO_9.out) hb)
           replace HO_753000 := zM (Kd.S_elder' (by (with_reducible repeat (first | apply Kd.S_alloc | apply Kd.S_drewN | apply Kd.S_drew)); exact HO_753000.out) (Kd.S_base ho0) hb)
           have HO763 := zM (Kd.R_lower (Kd.R_new' ho1 (Kd.R_lt (zR HO_753001.out))) (below_size zB))
           replace HO_753001 := zM (Kd.R_elder' (zR HO_753001.out) (Kd.R_base ho1) hb)
           replace BK733 := zM (blk_below (g := gb733) (o := .cells #[.slice A0_0 l0_0.length c0_0, .slice A0_1 l0_1.length c0_1] 47 (0, 0)) (zK BK733.out) hb)
           replace BK752 := zM (blk_below (g := gb752) (o := .cells #[.slice Ao30 t746.length co30, .slice Ao33 t749.length co33] 50 (0, 0)) (zK BK752.out) hb)
           replace HB := zM (below_step zB hb)
           (try clear hb)
           (try clear hb2)
           (try clear hk)
           (try clear hi)
           (try clear ho0)
           (try clear ho1)
           obtain ⟨Ao62, co62, eo62⟩ := Kd.S_slice HO760.out
           (first | subst eo62 | (injection eo62 with f1_ f2_ f3_; have f4_ := f1_.symm; have f5_ := f3_.symm; clear f1_ f2_ f3_; subst f4_; subst f5_))
           obtain ⟨Ao63, co63, eo63⟩ := Kd.R_slice HO763.out
           (first | subst eo63 | (injection eo63 with f1_ f2_ f3_; have f4_ := f1_.symm; have f5_ := f3_.symm; clear f1_ f2_ f3_; subst f4_; subst f5_))
           refine hK.out _ _ ⟨(blk_cell BK752.out 0).trans rfl, (blk_cell BK752.out 1).trans rfl, (blk_cell BK733.out 0).trans rfl, (blk_cell BK733.out 1).trans rfl⟩ (fun hHeld => ?_)
           clear hK K
           refine zn 48 ?_
           refine zh 3 49 Try.func38 #[.agg #[.slice Ao30 t746.length co30, .slice Ao33 t749.length co33], .agg #[.slice Ao62 t758.length co62, .slice Ao63 t761.length co63]] (fun K hK => ?_)
           with_reducible refine (laws_eqSpace.calls kj15 _ _ t746 _ _ t749 _ _ t758 _ _ t761 false _ ?side1 ?side2 ?side3 ?side4 ?side5 ?side6 ?side7 ?side8 A41.out).mono ?_
           (case side1 => exact zC (Kd.S_reads' HO_753000.out).2.2)
           (case side2 => exact (Kd.S_reads' HO_753000.out).2.1)
           (case side3 => exact zC (Kd.R_reads' HO_753001.out).2.2)
           (case side4 => exact (Kd.R_reads' HO_753001.out).2.1)
           (case side5 => exact zC (Kd.S_reads' HO760.out).2.2)
           (case side6 => exact (Kd.S_reads' HO760.out).2.1)
           (case side7 => exact zC (Kd.R_reads' HO763.out).2.2)
           (case side8 => exact (Kd.R_reads' HO763.out).2.1)
           rintro e w64 ⟨rfl, hb⟩
           refine ⟨_, rfl, ?_⟩
           replace HO_9 := zM (Kd.R_below (zR HO_9.out) hb)
           replace HO_753000 := zM (Kd.S_below (by (with_reducible repeat (first | apply Kd.S_alloc | apply Kd.S_drewN | apply Kd.S_drew)); exact HO_753000.out) hb)
           replace HO_753001 := zM (Kd.R_below (zR HO_753001.out) hb)
           replace HO760 := zM (Kd.S_below (by (with_reducible repeat (first | apply Kd.S_alloc | apply Kd.S_drewN | apply Kd.S_drew)); exact HO760.out) hb)
           replace HO763 := zM (Kd.R_below (zR HO763.out) hb)
           replace BK733 := zM (blk_below (g := gb733) (o := .cells #[.slice A0_0 l0_0.length c0_0, .slice A0_1 l0_1.length c0_1] 47 (0, 0)) (zK BK733.out) hb)
           replace BK752 := zM (blk_below (g := gb752) (o := .cells #[.slice Ao30 t746.length co30, .slice Ao33 t749.length co33] 50 (0, 0)) (zK BK752.out) hb)
           replace HB := zM (below_step zB hb)
           (try clear hb)
           (try clear hb2)
           (try clear hk)
           (try clear hi)
           refine hK.out _ _ ⟨(blk_cell BK752.out 0).trans rfl, (blk_cell BK752.out 1).trans rfl, (blk_cell BK733.out 0).trans rfl, (blk_cell BK733.out 1).trans rfl⟩ (fun hHeld => ?_)
           clear hK K
           refine zn 49 ?_
           refine zq 4 50 ?_
           refine zx ?_
           try go_wp2
           go_ret
           exact ⟨by first | rfl | (simp [errW_none, errW_some] <;> rfl) | (simp [*, errW_none, errW_some] <;> rfl), zB⟩

/-! ### spec_l4Kind: function 114 -/
def spec_l4Kind.f (a0 : Int) : Option (Bool) := (spec_l1In.f a0 1 3).bind fun t769 => (some t769)
set_option maxHeartbeats 8000000 in
set_option maxRecDepth 100000 in
theorem spec_l4Kind.calls (a0 : Int) (r : Bool) (w : World) (h : spec_l4Kind.f a0 = some r) :
 Calls Try.prog 114 #[.int .i64 a0] w fun e w' => e = .returned (.bool r) ∧ Drawn0 w w' := by
 have H : ((spec_l1In.f a0 1 3).bind fun t769 => (some t769)) = some r := h
 clear h
 replace H := Option.bind_eq_some_iff.mp H
 obtain ⟨t769, A20, H⟩ := H
 have A2 := Aside0.mk A20
 clear A20
 obtain rfl := Option.some.inj H
 go_enter Try.func114, Try.ntmps114
 go_wp2_with (first | ((with_reducible refine gate_callee (f := 63) rfl ?_); refine zc 4 Try.func63 #[.int .i64 a0, .int .i64 1, .int .i64 3] ?_; (with_reducible refine (spec_l1In.calls a0 1 3 t769 _ A2.out).mono ?_); rintro e w' ⟨rfl, ⟨nd, rfl⟩⟩; refine ⟨_, rfl, ?_⟩))
 go_ret
 exact ⟨by first | rfl | (simp; done) | (simp [*]; done), by repeat (first | exact Drawn0.refl _ | apply Drawn0.step)⟩

/-! ### spec_l4Good: function 88 -/
def spec_l4Good.f (k : Nat) (a0_0 : Int) (l0_1 : List (S68)) (a1 : Int) : Option (Bool) := (spec_l2Good.f k a0_0 l0_1).bind fun t771 => (if t771 = true then ((spec_l4Kind.f a1).bind fun t772 => (some t772)) else (some false))
theorem spec_l4Good.mono : ∀ a0 a1 a2 k, LeO (spec_l4Good.f k a0 a1 a2) (spec_l4Good.f (k + 1) a0 a1 a2) := by
 intro a0 a1 a2 k
 unfold spec_l4Good.f
 repeat' first
  | (with_reducible exact spec_l2Good.mono _ _ _)
  | (with_reducible exact LeO.refl _)
  | (with_reducible exact LeO.none _)
  | (with_reducible refine LeO.ite ?_ ?_)
  | (with_reducible refine LeO.bind ?_ (fun _ => ?_))
  | exact spec_l2Good.mono _ _ _
  | exact LeO.none _
  | refine LeO.ite ?_ ?_
  | refine LeO.bind ?_ (fun _ => ?_)
set_option maxHeartbeats 8000000 in
set_option maxRecDepth 100000 in
theorem spec_l4Good.calls (k : Nat) (a0_0 : Int) (A0_1 : Option Addr) (c0_1 : Nat) (l0_1 : List (S68)) (a1 : Int) (r : Bool) (w : World) (hr0_1 : Kd.C k68 w A0_1 l0_1.length l0_1) (hc0_1 : l0_1.length ≤ c0_1) (h : spec_l4Good.f k a0_0 l0_1 a1 = some r) :
 Calls Try.prog 88 #[.agg #[.int .i64 a0_0, .slice A0_1 l0_1.length c0_1], .int .i64 a1] w fun e w' => e = .returned (.bool r) ∧ Below w.heap.size w w' := by
 have hu27 := Try.underlying27
 have HR0_1 := Aside0.mk hr0_1
 have HC0_1 := Aside0.mk hc0_1
 clear hr0_1 hc0_1
 have HB := zM (Below.refl w.heap.size w)
 have H : ((spec_l2Good.f k a0_0 l0_1).bind fun t771 => (if t771 = true then ((spec_l4Kind.f a1).bind fun t772 => (some t772)) else (some false))) = some r := h
 clear h
 replace H := Option.bind_eq_some_iff.mp H
 obtain ⟨t771, A30, H⟩ := H
 have A3 := Aside0.mk A30
 clear A30
 by_cases c4 : t771 = true
 · subst c4
   rw [if_pos rfl] at H
   replace H := Option.bind_eq_some_iff.mp H
   obtain ⟨t772, A50, H⟩ := H
   have A5 := Aside0.mk A50
   clear A50
   obtain rfl := Option.some.inj H
   go_enter Try.func88, Try.ntmps88
   go_wp2_with (first | ((with_reducible refine gate_dst (N := 2) rfl ?_); refine zb (w := w) 2 #[.int .i64 a0_0, .slice A0_1 l0_1.length c0_1] 27 zB ?_; clear HB; intro gb770 w6 HB BK770 GW770; have GE770 := GW770; have hcz7_0 := zy BK770 0; have hcz7_1 := zy BK770 1; have hfz7_0 := blk_frozen BK770.out 0; have hfz7_1 := blk_frozen BK770.out 1) | ((with_reducible refine gate_callee (f := 52) rfl ?_); refine zc 6 Try.func52 #[.agg #[.int .i64 a0_0, .slice A0_1 l0_1.length c0_1]] ?_; (with_reducible refine (spec_l2Good.calls k a0_0 _ _ l0_1 true _ ?side1 ?side2 A3.out).mono ?_); (case side1 => exact zC (Kd.C_below HR0_1.out HB.out)); (case side2 => exact HC0_1.out); rintro e w8 ⟨rfl, hb⟩; refine ⟨_, rfl, ?_⟩; replace BK770 := zM (blk_below (g := gb770) (o := .cells #[.int .i64 a0_0, .slice A0_1 l0_1.length c0_1] 27 (0, 0)) (zK BK770.out) hb); replace HB := zM (below_step zB hb); (try clear hb); (try clear hb2); (try clear hk); (try clear hi)) | (go_at_call 114; (with_reducible refine (spec_l4Kind.calls a1 t772 _ A5.out).mono ?_); rintro e w' ⟨rfl, ⟨nd, rfl⟩⟩))
   go_ret
   exact ⟨by first | rfl | (simp [errW_none, errW_some] <;> rfl) | (simp [*, errW_none, errW_some] <;> rfl), zB⟩
 · replace c4 := Bool.eq_false_iff.mpr c4
   subst c4
   have H1 : (some false) = some r := by rw [if_neg (show ¬ (false = true) by decide)] at H; exact H
   clear H
   have H := H1
   clear H1
   obtain rfl := Option.some.inj H
   go_enter Try.func88, Try.ntmps88
   go_wp2_with (first | ((with_reducible refine gate_dst (N := 2) rfl ?_); refine zb (w := w) 2 #[.int .i64 a0_0, .slice A0_1 l0_1.length c0_1] 27 zB ?_; clear HB; intro gb770 w9 HB BK770 GW770; have GE770 := GW770; have hcz10_0 := zy BK770 0; have hcz10_1 := zy BK770 1; have hfz10_0 := blk_frozen BK770.out 0; have hfz10_1 := blk_frozen BK770.out 1) | ((with_reducible refine gate_callee (f := 52) rfl ?_); refine zc 6 Try.func52 #[.agg #[.int .i64 a0_0, .slice A0_1 l0_1.length c0_1]] ?_; (with_reducible refine (spec_l2Good.calls k a0_0 _ _ l0_1 false _ ?side1 ?side2 A3.out).mono ?_); (case side1 => exact zC (Kd.C_below HR0_1.out HB.out)); (case side2 => exact HC0_1.out); rintro e w11 ⟨rfl, hb⟩; refine ⟨_, rfl, ?_⟩; replace BK770 := zM (blk_below (g := gb770) (o := .cells #[.int .i64 a0_0, .slice A0_1 l0_1.length c0_1] 27 (0, 0)) (zK BK770.out) hb); replace HB := zM (below_step zB hb); (try clear hb); (try clear hb2); (try clear hk); (try clear hi)))
   go_ret
   exact ⟨by first | rfl | (simp [errW_none, errW_some] <;> rfl) | (simp [*, errW_none, errW_some] <;> rfl), zB⟩

end Go.Proofs.Ytpbngmkhpcgpkaa.P
