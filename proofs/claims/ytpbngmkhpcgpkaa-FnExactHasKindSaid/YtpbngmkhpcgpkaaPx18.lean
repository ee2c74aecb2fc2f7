-- Written by a program of this session (the kit's print, turned: wip/print/patch.py) out of the translation. Not trusted: Lean checks it.
import Derived.Test.YtpbngmkhpcgpkaaPx0
import Derived.Test.YtpbngmkhpcgpkaaPx2
import Derived.Test.YtpbngmkhpcgpkaaPx4
import Derived.Test.YtpbngmkhpcgpkaaPx11
import Derived.Test.YtpbngmkhpcgpkaaPx12
import Derived.Test.YtpbngmkhpcgpkaaPx16
import Derived.Test.YtpbngmkhpcgpkaaPx17
namespace Go.Proofs.Ytpbngmkhpcgpkaa.P
open Go.RowKit Go.Proofs.YtpbngmkhpcgpkaaW.PrintWords Go.Proofs.YtpbngmkhpcgpkaaW.PrintLast Go.Proofs.YtpbngmkhpcgpkaaW.PrintMore
attribute [local go_sem] max2_int min2_int max_two min_two max_three min_three max_four min_four   -- for this text's walks alone
set_option linter.unusedVariables false
set_option linter.unusedSimpArgs false

/-! ### laws_FnExactIsIndependent: function 5 -/
def laws_FnExactIsIndependent.j0 : Nat → List Int → List Int → Bool → Int → List (S68) → Int → List (S68) → Option (Bool)
 | 0, _, _, _, _, _, _, _ => none
 | k + 1, x1, x9, x45, x287000, x287001, x302000, x302001 => if x45 = true then (some false) else ((laws_toGraph.f k x287000 x287001).bind fun bt307 => ((laws_eqGraph.f k x302000 x302001 bt307.1 bt307.2).bind fun t311 => (if t311 = true then ((laws_toIntS.f k x1).bind fun t312 => ((laws_eqIntS.f k x9 t312).bind fun t315 => (if t315 = true then (some true) else (some false)))) else (some false))))
def laws_FnExactIsIndependent.f (k : Nat) (a0_0 : Int) (l0_1 : List (S68)) (l1 : List Int) : Option (Bool) := if (l1.length : Int) > 1048576 then (some true) else ((laws_szGraph.f a0_0 l0_1 1048576).bind fun t287 => (if t287 < 0 then (some true) else ((laws_toGraph.f k a0_0 l0_1).bind fun bt288 => ((laws_toIntS.f k l1).bind fun t292 => ((spec_IsIndependent.f k bt288.1 bt288.2 t292).bind fun bt295 => ((laws_toGraph.f k a0_0 l0_1).bind fun bt297 => ((laws_toIntS.f k l1).bind fun t302 => ((impl_IsIndependent.f k bt297.1 bt297.2 t302).bind fun bt305 => (if (bt305.1 != bt295.1) = true then (laws_FnExactIsIndependent.j0 k l1 t302 true a0_0 l0_1 bt297.1 bt297.2) else (laws_FnExactIsIndependent.j0 k l1 t302 (bt305.2 != bt295.2) a0_0 l0_1 bt297.1 bt297.2))))))))))
theorem laws_FnExactIsIndependent.mono_l : ∀ k, (∀ y0 y1 y2 y3 y4 y5 y6, LeO (laws_FnExactIsIndependent.j0 k y0 y1 y2 y3 y4 y5 y6) (laws_FnExactIsIndependent.j0 (k + 1) y0 y1 y2 y3 y4 y5 y6))
 | 0 => fun _ _ _ _ _ _ _ r h => by simp [laws_FnExactIsIndependent.j0] at h
 | k + 1 => by
  have ih0 := laws_FnExactIsIndependent.mono_l k
  · intro y0 y1 y2 y3 y4 y5 y6
    unfold laws_FnExactIsIndependent.j0
    repeat' first
    | (with_reducible exact ih0 _ _ _ _ _ _ _)
    | (with_reducible exact impl_IsIndependent.mono _ _ _ _)
    | (with_reducible exact laws_eqGraph.mono _ _ _ _ _)
    | (with_reducible exact laws_eqIntS.mono _ _ _)
    | (with_reducible exact laws_toGraph.mono _ _ _)
    | (with_reducible exact laws_toIntS.mono _ _)
    | (with_reducible exact spec_IsIndependent.mono _ _ _ _)
    | (with_reducible exact LeO.refl _)
    | (with_reducible exact LeO.none _)
    | (with_reducible refine LeO.ite ?_ ?_)
    | (with_reducible refine LeO.bind ?_ (fun _ => ?_))
    | exact ih0 _ _ _ _ _ _ _
    | exact impl_IsIndependent.mono _ _ _ _
    | exact laws_eqGraph.mono _ _ _ _ _
    | exact laws_eqIntS.mono _ _ _
    | exact laws_toGraph.mono _ _ _
    | exact laws_toIntS.mono _ _
    | exact spec_IsIndependent.mono _ _ _ _
    | exact LeO.none _
    | refine LeO.ite ?_ ?_
    | refine LeO.bind ?_ (fun _ => ?_)
theorem laws_FnExactIsIndependent.mono : ∀ a0 a1 a2 k, LeO (laws_FnExactIsIndependent.f k a0 a1 a2) (laws_FnExactIsIndependent.f (k + 1) a0 a1 a2) := by
 intro a0 a1 a2 k
 have ih0 := laws_FnExactIsIndependent.mono_l k
 unfold laws_FnExactIsIndependent.f
 repeat' first
  | (with_reducible exact ih0 _ _ _ _ _ _ _)
  | (with_reducible exact impl_IsIndependent.mono _ _ _ _)
  | (with_reducible exact laws_eqGraph.mono _ _ _ _ _)
  | (with_reducible exact laws_eqIntS.mono _ _ _)
  | (with_reducible exact laws_toGraph.mono _ _ _)
  | (with_reducible exact laws_toIntS.mono _ _)
  | (with_reducible exact spec_IsIndependent.mono _ _ _ _)
  | (with_reducible exact LeO.refl _)
  | (with_reducible exact LeO.none _)
  | (with_reducible refine LeO.ite ?_ ?_)
  | (with_reducible refine LeO.bind ?_ (fun _ => ?_))
  | exact ih0 _ _ _ _ _ _ _
  | exact impl_IsIndependent.mono _ _ _ _
  | exact laws_eqGraph.mono _ _ _ _ _
  | exact laws_eqIntS.mono _ _ _
  | exact laws_toGraph.mono _ _ _
  | exact laws_toIntS.mono _ _
  | exact spec_IsIndependent.mono _ _ _ _
  | exact LeO.none _
  | refine LeO.ite ?_ ?_
  | refine LeO.bind ?_ (fun _ => ?_)
set_option maxHeartbeats 8000000 in
set_option maxRecDepth 100000 in
theorem laws_FnExactIsIndependent.calls (k : Nat) (a0_0 : Int) (A0_1 : Option Addr) (c0_1 : Nat) (l0_1 : List (S68)) (A1 : Option Addr) (c1 : Nat) (l1 : List Int) (r : Bool) (w : World) (hr0_1 : Kd.C k68 w A0_1 l0_1.length l0_1) (hc0_1 : l0_1.length ≤ c0_1) (hr1 : Kd.C (Kd.int .i64) w A1 l1.length l1) (hc1 : l1.length ≤ c1) (h : laws_FnExactIsIndependent.f k a0_0 l0_1 l1 = some r) :
 Calls Try.prog 5 #[.agg #[.int .i64 a0_0, .slice A0_1 l0_1.length c0_1], .slice A1 l1.length c1] w fun e w' => e = .returned (.bool r) ∧ Below w.heap.size w w' := by
 have hu24 := Try.underlying24
 have hu27 := Try.underlying27
 have HR0_1 := Aside0.mk hr0_1
 have HC0_1 := Aside0.mk hc0_1
 clear hr0_1 hc0_1
 have HR1 := Aside0.mk hr1
 have HC1 := Aside0.mk hc1
 clear hr1 hc1
 have HB := zM (Below.refl w.heap.size w)
 have H : (if (l1.length : Int) > 1048576 then (some true) else ((laws_szGraph.f a0_0 l0_1 1048576).bind fun t287 => (if t287 < 0 then (some true) else ((laws_toGraph.f k a0_0 l0_1).bind fun bt288 => ((laws_toIntS.f k l1).bind fun t292 => ((spec_IsIndependent.f k bt288.1 bt288.2 t292).bind fun bt295 => ((laws_toGraph.f k a0_0 l0_1).bind fun bt297 => ((laws_toIntS.f k l1).bind fun t302 => ((impl_IsIndependent.f k bt297.1 bt297.2 t302).bind fun bt305 => (if (bt305.1 != bt295.1) = true then (laws_FnExactIsIndependent.j0 k l1 t302 true a0_0 l0_1 bt297.1 bt297.2) else (laws_FnExactIsIndependent.j0 k l1 t302 (bt305.2 != bt295.2) a0_0 l0_1 bt297.1 bt297.2))))))))))) = some r := h
 clear h
 by_cases c3 : (l1.length : Int) > 1048576
 · rw [if_pos c3] at H
   have c3b0 : decide (1048576 < (l1.length : Int)) = true := decide_eq_true c3
   have c3b1 : decide (1048576 < l1.length) = true := decide_eq_true (by omega)
   clear c3
   obtain rfl := Option.some.inj H
   go_enter Try.func5, Try.ntmps5
   go_wp2_with (first | ((with_reducible refine gate_dst (N := 2) rfl ?_); refine zb (w := w) 2 #[.int .i64 a0_0, .slice A0_1 l0_1.length c0_1] 24 zB ?_; clear HB; intro gb286 w4 HB BK286 GW286; have GE286 := GW286))
   go_ret
   exact ⟨by first | rfl | (simp [errW_none, errW_some] <;> rfl) | (simp [*, errW_none, errW_some] <;> rfl), zB⟩
 · rw [if_neg c3] at H
   have c3b0 : decide (1048576 < (l1.length : Int)) = false := decide_eq_false c3
   have c3b1 : decide (1048576 < l1.length) = false := decide_eq_false (by omega)
   clear c3
   replace H := Option.bind_eq_some_iff.mp H
   obtain ⟨t287, A50, H⟩ := H
   have A5 := Aside0.mk A50
   clear A50
   by_cases c6 : t287 < 0
   · rw [if_pos c6] at H
     have c6b0 := decide_eq_true c6
     clear c6
     obtain rfl := Option.some.inj H
     go_enter Try.func5, Try.ntmps5
     go_wp2_with (first | ((with_reducible refine gate_dst (N := 2) rfl ?_); refine zb (w := w) 2 #[.int .i64 a0_0, .slice A0_1 l0_1.length c0_1] 24 zB ?_; clear HB; intro gb286 w7 HB BK286 GW286; have GE286 := GW286; have hcz8_0 := zy BK286 0; have hcz8_1 := zy BK286 1; have hfz8_0 := blk_frozen BK286.out 0; have hfz8_1 := blk_frozen BK286.out 1) | ((with_reducible refine gate_callee (f := 15) rfl ?_); refine zc 17 Try.func15 #[.agg #[.int .i64 a0_0, .slice A0_1 l0_1.length c0_1], .int .i64 1048576] ?_; (with_reducible refine (laws_szGraph.calls a0_0 _ _ l0_1 1048576 t287 _ ?side1 ?side2 A5.out).mono ?_); (case side1 => exact zC (Kd.C_below HR0_1.out HB.out)); (case side2 => exact HC0_1.out); rintro e w9 ⟨rfl, hb⟩; refine ⟨_, rfl, ?_⟩; replace BK286 := zM (blk_below (g := gb286) (o := .cells #[.int .i64 a0_0, .slice A0_1 l0_1.length c0_1] 24 (0, 0)) (zK BK286.out) hb); replace HB := zM (below_step zB hb); (try clear hb); (try clear hb2); (try clear hk); (try clear hi)))
     go_ret
     exact ⟨by first | rfl | (simp [errW_none, errW_some] <;> rfl) | (simp [*, errW_none, errW_some] <;> rfl), zB⟩
   · rw [if_neg c6] at H
     have c6b0 : decide (t287 < 0) = false := decide_eq_false c6
     clear c6
     replace H := Option.bind_eq_some_iff.mp H
     obtain ⟨⟨t288, t289⟩, A100, H⟩ := H
     replace H : ((laws_toIntS.f k l1).bind fun t292 => ((spec_IsIndependent.f k t288 t289 t292).bind fun bt295 => ((laws_toGraph.f k a0_0 l0_1).bind fun bt297 => ((laws_toIntS.f k l1).bind fun t302 => ((impl_IsIndependent.f k bt297.1 bt297.2 t302).bind fun bt305 => (if (bt305.1 != bt295.1) = true then (laws_FnExactIsIndependent.j0 k l1 t302 true a0_0 l0_1 bt297.1 bt297.2) else (laws_FnExactIsIndependent.j0 k l1 t302 (bt305.2 != bt295.2) a0_0 l0_1 bt297.1 bt297.2))))))) = some r := H
     have A10 := Aside0.mk A100
     clear A100
     replace H := Option.bind_eq_some_iff.mp H
     obtain ⟨t292, A110, H⟩ := H
     have A11 := Aside0.mk A110
     clear A110
     replace H := Option.bind_eq_some_iff.mp H
     obtain ⟨⟨t295, t296⟩, A120, H⟩ := H
     replace H : ((laws_toGraph.f k a0_0 l0_1).bind fun bt297 => ((laws_toIntS.f k l1).bind fun t302 => ((impl_IsIndependent.f k bt297.1 bt297.2 t302).bind fun bt305 => (if (bt305.1 != t295) = true then (laws_FnExactIsIndependent.j0 k l1 t302 true a0_0 l0_1 bt297.1 bt297.2) else (laws_FnExactIsIndependent.j0 k l1 t302 (bt305.2 != t296) a0_0 l0_1 bt297.1 bt297.2))))) = some r := H
     have A12 := Aside0.mk A120
     clear A120
     replace H := Option.bind_eq_some_iff.mp H
     obtain ⟨⟨t297, t298⟩, A130, H⟩ := H
     replace H : ((laws_toIntS.f k l1).bind fun t302 => ((impl_IsIndependent.f k t297 t298 t302).bind fun bt305 => (if (bt305.1 != t295) = true then (laws_FnExactIsIndependent.j0 k l1 t302 true a0_0 l0_1 t297 t298) else (laws_FnExactIsIndependent.j0 k l1 t302 (bt305.2 != t296) a0_0 l0_1 t297 t298)))) = some r := H
     have A13 := Aside0.mk A130
     clear A130
     replace H := Option.bind_eq_some_iff.mp H
     obtain ⟨t302, A140, H⟩ := H
     have A14 := Aside0.mk A140
     clear A140
     replace H := Option.bind_eq_some_iff.mp H
     obtain ⟨⟨t305, t306⟩, A150, H⟩ := H
     replace H : (if (t305 != t295) = true then (laws_FnExactIsIndependent.j0 k l1 t302 true a0_0 l0_1 t297 t298) else (laws_FnExactIsIndependent.j0 k l1 t302 (t306 != t296) a0_0 l0_1 t297 t298)) = some r := H
     have A15 := Aside0.mk A150
     clear A150
     have HC16 := Aside0.mk H
     clear H
     go_enter Try.func5, Try.ntmps5
     go_upto_region 11 with (first | ((with_reducible refine gate_dst (N := 2) rfl ?_); refine zb (w := w) 2 #[.int .i64 a0_0, .slice A0_1 l0_1.length c0_1] 24 zB ?_; clear HB; intro gb286 w17 HB BK286 GW286; have GE286 := GW286; have hcz18_0 := zy BK286 0; have hcz18_1 := zy BK286 1; have hfz18_0 := blk_frozen BK286.out 0; have hfz18_1 := blk_frozen BK286.out 1) | ((with_reducible refine gate_callee (f := 15) rfl ?_); refine zc 17 Try.func15 #[.agg #[.int .i64 a0_0, .slice A0_1 l0_1.length c0_1], .int .i64 1048576] ?_; (with_reducible refine (laws_szGraph.calls a0_0 _ _ l0_1 1048576 t287 _ ?side1 ?side2 A5.out).mono ?_); (case side1 => exact zC (Kd.C_below HR0_1.out HB.out)); (case side2 => exact HC0_1.out); rintro e w19 ⟨rfl, hb⟩; refine ⟨_, rfl, ?_⟩; replace BK286 := zM (blk_below (g := gb286) (o := .cells #[.int .i64 a0_0, .slice A0_1 l0_1.length c0_1] 24 (0, 0)) (zK BK286.out) hb); replace HB := zM (below_step zB hb); (try clear hb); (try clear hb2); (try clear hk); (try clear hi); have hcz20_0 := zy BK286 0; have hcz20_1 := zy BK286 1; have hfz20_0 := blk_frozen BK286.out 0; have hfz20_1 := blk_frozen BK286.out 1) | ((with_reducible refine gate_callee (f := 17) rfl ?_); refine zc 22 Try.func17 #[.agg #[.int .i64 a0_0, .slice A0_1 l0_1.length c0_1]] ?_; (with_reducible refine (laws_toGraph.calls k a0_0 _ _ l0_1 t288 t289 _ ?side1 ?side2 A10.out).mono ?_); (case side1 => exact zC (Kd.C_below HR0_1.out HB.out)); (case side2 => exact HC0_1.out); rintro e w21 ⟨v290, rfl, ho0, hb⟩; refine ⟨_, rfl, ?_⟩; have HO291 := zM (Kd.R_lower ho0 (below_size zB)); replace BK286 := zM (blk_below (g := gb286) (o := .cells #[.int .i64 a0_0, .slice A0_1 l0_1.length c0_1] 24 (0, 0)) (zK BK286.out) hb); replace HB := zM (below_step zB hb); (try clear hb); (try clear hb2); (try clear hk); (try clear hi); (try clear ho0)) | ((with_reducible refine gate_callee (f := 25) rfl ?_); refine zc 24 Try.func25 #[.slice A1 l1.length c1] ?_; (with_reducible refine (laws_toIntS.calls k _ _ l1 t292 _ ?side1 ?side2 A11.out).mono ?_); (case side1 => exact zC (Kd.C_below HR1.out HB.out)); (case side2 => exact HC1.out); rintro e w22 ⟨v293, rfl, ho0, hb⟩; refine ⟨_, rfl, ?_⟩; replace HO291 := zM (Kd.R_below (zR HO291.out) hb); have HO294 := zM (Kd.R_lower ho0 (below_size zB)); replace BK286 := zM (blk_below (g := gb286) (o := .cells #[.int .i64 a0_0, .slice A0_1 l0_1.length c0_1] 24 (0, 0)) (zK BK286.out) hb); replace HB := zM (below_step zB hb); (try clear hb); (try clear hb2); (try clear hk); (try clear hi); (try clear ho0); obtain ⟨Ao23, co23, eo23⟩ := Kd.R_slice HO291.out; subst eo23; obtain ⟨Ao24, co24, eo24⟩ := Kd.R_slice HO294.out; subst eo24) | ((with_reducible refine gate_callee (f := 24) rfl ?_); refine zc 25 Try.func24 #[.agg #[.int .i64 t288, .slice Ao23 t289.length co23], .slice Ao24 t292.length co24] ?_; (with_reducible refine (spec_IsIndependent.calls k t288 _ _ t289 _ _ t292 t295 t296 _ ?side1 ?side2 ?side3 ?side4 A12.out).mono ?_); (case side1 => exact zC (Kd.R_reads' HO291.out).2.2); (case side2 => exact (Kd.R_reads' HO291.out).2.1); (case side3 => exact zC (Kd.R_reads' HO294.out).2.2); (case side4 => exact (Kd.R_reads' HO294.out).2.1); rintro e w25 ⟨rfl, hb⟩; refine ⟨_, rfl, ?_⟩; replace HO291 := zM (Kd.R_below (zR HO291.out) hb); replace HO294 := zM (Kd.R_below (zR HO294.out) hb); replace BK286 := zM (blk_below (g := gb286) (o := .cells #[.int .i64 a0_0, .slice A0_1 l0_1.length c0_1] 24 (0, 0)) (zK BK286.out) hb); replace HB := zM (below_step zB hb); (try clear hb); (try clear hb2); (try clear hk); (try clear hi); have hcz26_0 := zy BK286 0; have hcz26_1 := zy BK286 1; have hfz26_0 := blk_frozen BK286.out 0; have hfz26_1 := blk_frozen BK286.out 1) | ((with_reducible refine gate_callee (f := 17) rfl ?_); refine zc 29 Try.func17 #[.agg #[.int .i64 a0_0, .slice A0_1 l0_1.length c0_1]] ?_; (with_reducible refine (laws_toGraph.calls k a0_0 _ _ l0_1 t297 t298 _ ?side1 ?side2 A13.out).mono ?_); (case side1 => exact zC (Kd.C_below HR0_1.out HB.out)); (case side2 => exact HC0_1.out); rintro e w27 ⟨v299, rfl, ho0, hb⟩; refine ⟨_, rfl, ?_⟩; replace HO294 := zM (Kd.R_below (zR HO294.out) hb); have HO300 := zM (Kd.R_lower (Kd.R_new' ho0 (Kd.R_lt (zR HO291.out))) (below_size zB)); replace HO291 := zM (Kd.R_elder' (zR HO291.out) (Kd.R_base ho0) hb); replace BK286 := zM (blk_below (g := gb286) (o := .cells #[.int .i64 a0_0, .slice A0_1 l0_1.length c0_1] 24 (0, 0)) (zK BK286.out) hb); replace HB := zM (below_step zB hb); (try clear hb); (try clear hb2); (try clear hk); (try clear hi); (try clear ho0)) | ((with_reducible refine gate_dst (N := 8) rfl ?_); refine ze 8 #[.int .i64 0, .slice none 0 0] 27 ?_; intro gb301 hg w28 hbox hb; replace HO291 := zM (Kd.R_below (zR HO291.out) hb); replace HO294 := zM (Kd.R_below (zR HO294.out) hb); replace HO300 := zM (Kd.R_below (zR HO300.out) hb); have BK301 := zM (hbox); have GW301 := zM ((by rw [hg]; exact (below_size zB) : w.heap.size ≤ gb301)); have GE301 := zM ((by rw [hg]; exact (below_size zB) : w.heap.size ≤ gb301)); replace HB := zM (below_step zB hb); have NB286_301 := zM ((by rw [hg]; exact Nat.ne_of_lt (blk_lt (g := gb286) (o := .cells #[.int .i64 a0_0, .slice A0_1 l0_1.length c0_1] 24 (0, 0)) (zK BK286.out)) : gb286 ≠ gb301)); have NB301_286 := zM ((by rw [hg]; exact Nat.ne_of_gt (blk_lt (g := gb286) (o := .cells #[.int .i64 a0_0, .slice A0_1 l0_1.length c0_1] 24 (0, 0)) (zK BK286.out)) : gb301 ≠ gb286)); replace BK286 := zM (blk_below (g := gb286) (o := .cells #[.int .i64 a0_0, .slice A0_1 l0_1.length c0_1] 24 (0, 0)) (zK BK286.out) hb); clear hb hbox hg; have hnb29 := NB301_286.out; have hnc29 := NB286_301.out; have hcz30_0 := zy BK301 0; have hcz30_1 := zy BK301 1; have hfz30_0 := blk_frozen BK301.out 0; have hfz30_1 := blk_frozen BK301.out 1; obtain ⟨Ao31, co31, eo31⟩ := Kd.R_slice HO300.out; subst eo31) | ((with_reducible refine gate_callee (f := 25) rfl ?_); refine zc 31 Try.func25 #[.slice A1 l1.length c1] ?_; (with_reducible refine (laws_toIntS.calls k _ _ l1 t302 _ ?side1 ?side2 A14.out).mono ?_); (case side1 => exact Kd.C_below HR1.out zB); (case side2 => exact HC1.out); rintro e w32 ⟨v303, rfl, ho0, hb⟩; refine ⟨_, rfl, ?_⟩; replace HO291 := zM (Kd.R_below (by (with_reducible repeat (first | apply Kd.R_alloc | apply Kd.R_drewN | apply Kd.R_drew)); exact (Kd.R_mono (Kd.R_far (p := ⟨gb301, 1, none⟩) (Kd.R_far (p := ⟨gb301, 0, none⟩) (Kd.R_types HO291.out BK301.out (by decide)) (fun _ hk => hk.2) (.int .i64 t297)) (fun _ hk => hk.2) (.slice Ao31 t298.length co31)) (fun _ h_ => h_.1))) hb); replace HO300 := zM (Kd.R_below (by (with_reducible repeat (first | apply Kd.R_alloc | apply Kd.R_drewN | apply Kd.R_drew)); exact (Kd.R_mono (Kd.R_far (p := ⟨gb301, 1, none⟩) (Kd.R_far (p := ⟨gb301, 0, none⟩) (Kd.R_types HO300.out BK301.out (by decide)) (fun _ hk => hk.2) (.int .i64 t297)) (fun _ hk => hk.2) (.slice Ao31 t298.length co31)) (fun _ h_ => h_.1))) hb); have HO304 := zM (Kd.R_lower (Kd.R_new' ho0 (Kd.R_lt (by (with_reducible repeat (first | apply Kd.R_alloc | apply Kd.R_drewN | apply Kd.R_drew)); exact (Kd.R_mono (Kd.R_far (p := ⟨gb301, 1, none⟩) (Kd.R_far (p := ⟨gb301, 0, none⟩) (Kd.R_types HO294.out BK301.out (by decide)) (fun _ hk => hk.2) (.int .i64 t297)) (fun _ hk => hk.2) (.slice Ao31 t298.length co31)) (fun _ h_ => h_.1))))) (below_size zB)); replace HO294 := zM (Kd.R_elder' (by (with_reducible repeat (first | apply Kd.R_alloc | apply Kd.R_drewN | apply Kd.R_drew)); exact (Kd.R_mono (Kd.R_far (p := ⟨gb301, 1, none⟩) (Kd.R_far (p := ⟨gb301, 0, none⟩) (Kd.R_types HO294.out BK301.out (by decide)) (fun _ hk => hk.2) (.int .i64 t297)) (fun _ hk => hk.2) (.slice Ao31 t298.length co31)) (fun _ h_ => h_.1))) (Kd.R_base ho0) hb); replace BK286 := zM (blk_below (g := gb286) (o := .cells #[.int .i64 a0_0, .slice A0_1 l0_1.length c0_1] 24 (0, 0)) (by (with_reducible repeat (first | refine blk_drewN ?_ _ | refine blk_drew ?_ | refine blk_alloc ?_ _)); refine blk_far ?_ NB286_301.out _; (with_reducible repeat (first | refine blk_drewN ?_ _ | refine blk_drew ?_ | refine blk_alloc ?_ _)); refine blk_far ?_ NB286_301.out _; (with_reducible repeat (first | refine blk_drewN ?_ _ | refine blk_drew ?_ | refine blk_alloc ?_ _)); exact BK286.out) hb); replace BK301 := zM (blk_below (g := gb301) (o := .cells #[.int .i64 t297, .slice Ao31 t298.length co31] 27 (0, 0)) (by (with_reducible repeat (first | refine blk_drewN ?_ _ | refine blk_drew ?_ | refine blk_alloc ?_ _)); refine blk_put (cs := #[.int .i64 t297, .slice none 0 0]) ?_ 1 _ rfl; (with_reducible repeat (first | refine blk_drewN ?_ _ | refine blk_drew ?_ | refine blk_alloc ?_ _)); refine blk_put (cs := #[.int .i64 0, .slice none 0 0]) ?_ 0 _ rfl; (with_reducible repeat (first | refine blk_drewN ?_ _ | refine blk_drew ?_ | refine blk_alloc ?_ _)); exact BK301.out) hb); replace HB := zM (below_step zB hb); (try clear hb); (try clear hb2); (try clear hk); (try clear hi); (try clear ho0); have hcz33_0 := zy BK301 0; have hcz33_1 := zy BK301 1; have hfz33_0 := blk_frozen BK301.out 0; have hfz33_1 := blk_frozen BK301.out 1; obtain ⟨Ao34, co34, eo34⟩ := Kd.R_slice HO304.out; subst eo34) | ((with_reducible refine gate_callee (f := 26) rfl ?_); refine zc 35 Try.func26 #[.agg #[.int .i64 t297, .slice Ao31 t298.length co31], .slice Ao34 t302.length co34] ?_; (with_reducible refine (impl_IsIndependent.calls k t297 _ _ t298 _ _ t302 t305 t306 _ ?side1 ?side2 ?side3 ?side4 A15.out).mono ?_); (case side1 => exact zC (Kd.R_reads' HO300.out).2.2); (case side2 => exact (Kd.R_reads' HO300.out).2.1); (case side3 => exact zC (Kd.R_reads' HO304.out).2.2); (case side4 => exact (Kd.R_reads' HO304.out).2.1); rintro e w35 ⟨rfl, hb⟩; refine ⟨_, rfl, ?_⟩; replace HO291 := zM (Kd.R_below (zR HO291.out) hb); replace HO294 := zM (Kd.R_below (zR HO294.out) hb); replace HO300 := zM (Kd.R_below (zR HO300.out) hb); replace HO304 := zM (Kd.R_below (zR HO304.out) hb); replace BK286 := zM (blk_below (g := gb286) (o := .cells #[.int .i64 a0_0, .slice A0_1 l0_1.length c0_1] 24 (0, 0)) (zK BK286.out) hb); replace BK301 := zM (blk_below (g := gb301) (o := .cells #[.int .i64 t297, .slice Ao31 t298.length co31] 27 (0, 0)) (zK BK301.out) hb); replace HB := zM (below_step zB hb); (try clear hb); (try clear hb2); (try clear hk); (try clear hi)))
     (try simp only [Act.put, List.setIfInBounds_toArray, List.set_cons_zero, List.set_cons_succ])
     go_cut [45] (fun v45 wc => ∃ (kq : Nat) (x45_15 : Bool), v45 = .bool x45_15 ∧ Aside0 (laws_FnExactIsIndependent.j0 kq l1 t302 x45_15 a0_0 l0_1 t297 t298 = some r) ∧ Aside0 (kq ≤ k) ∧ Aside0 (Kd.R (Kd.int .i64) 3 wc w.heap.size (fun _ => True) (.slice Ao34 t302.length co34) t302) ∧ Aside0 (Kd.R k68 68 wc w.heap.size (fun _ => True) (.slice Ao31 t298.length co31) t298) ∧ Aside0 (wc.heap[gb286]? = some (.cells #[.int .i64 a0_0, (.slice A0_1 l0_1.length c0_1)] 24 (0, 0))) ∧ Aside0 (wc.heap[gb301]? = some (.cells #[.int .i64 t297, (.slice Ao31 t298.length co31)] 27 (0, 0))) ∧ Aside0 (Below w.heap.size w wc))
     case first =>
      have H := HC16.out
      clear HC16
      by_cases c36 : (t305 != t295) = true
      · rw [if_pos c36] at H
        have c36b0 : (t305 != t295) = true := c36
        (try (have c36b1 : decide (t305 = t295) = false := by simpa using c36))
        (try (have c36b2 : (t305 == t295) = false := by simpa using c36))
        (try (have c36b3 : ¬ (t305 = t295) := by simpa using c36))
        clear c36
        (first | rw [c36b0] | (simp only [i64_w, i32_w]; rw [c36b0]) | skip)
        have H' := Aside0.mk H
        clear H
        go_wp2
        go_meet
        case rel => exact ⟨_, (true), (by first | rfl | (simp; done) | (simp [*]; done)), H', ⟨by first | omega | exact Nat.le_refl _⟩, ⟨by (with_reducible repeat (first | apply Kd.R_alloc | apply Kd.R_drewN | apply Kd.R_drew)); exact Kd.R_mono HO304.out (fun _ hk => trivial)⟩, ⟨by (with_reducible repeat (first | apply Kd.R_alloc | apply Kd.R_drewN | apply Kd.R_drew)); exact Kd.R_mono HO300.out (fun _ hk => trivial)⟩, ⟨zK BK286.out⟩, ⟨zK BK301.out⟩, ⟨zB⟩⟩
      · rw [if_neg c36] at H
        have c36b0 : (t305 != t295) = false := by simpa using c36
        (try (have c36b1 : decide (t305 = t295) = true := by simpa using c36))
        (try (have c36b2 : (t305 == t295) = true := by simpa using c36))
        clear c36
        (first | rw [c36b0] | (simp only [i64_w, i32_w]; rw [c36b0]) | skip)
        have H' := Aside0.mk H
        clear H
        go_wp2
        go_meet
        case rel => exact ⟨_, ((t306 != t296)), (by first | rfl | (simp; done) | (simp [*]; done)), H', ⟨by first | omega | exact Nat.le_refl _⟩, ⟨by (with_reducible repeat (first | apply Kd.R_alloc | apply Kd.R_drewN | apply Kd.R_drew)); exact Kd.R_mono HO304.out (fun _ hk => trivial)⟩, ⟨by (with_reducible repeat (first | apply Kd.R_alloc | apply Kd.R_drewN | apply Kd.R_drew)); exact Kd.R_mono HO300.out (fun _ hk => trivial)⟩, ⟨zK BK286.out⟩, ⟨zK BK301.out⟩, ⟨zB⟩⟩
     case rest =>
      clear HC16
      try clear c1
      try clear c2
      try clear p2
      try clear c3
      try clear c3b0
      try clear c3b1
      try clear c5
      try clear c6
      try clear c6b0
      try clear c15
      try clear c17
      try clear c24
      try clear c25
      try clear c26
      try clear c29
      try clear c36
      try clear c36b0
      try clear c36b1
      try clear c36b2
      try clear hcz18_0
      try clear hcz18_1
      try clear hcz20_0
      try clear hcz20_1
      try clear hcz26_0
      try clear hcz26_1
      try clear hcz30_0
      try clear hcz30_1
      try clear hcz33_0
      try clear hcz33_1
      try clear hcz8_0
      try clear hcz8_1
      try clear hfz18_0
      try clear hfz18_1
      try clear hfz20_0
      try clear hfz20_1
      try clear hfz26_0
      try clear hfz26_1
      try clear hfz30_0
      try clear hfz30_1
      try clear hfz33_0
      try clear hfz33_1
      try clear hfz8_0
      try clear hfz8_1
      obtain ⟨kq, x45_15, rfl, HA, HJ15, HO_9, HO_302001, BK286, BK301, HB⟩ := hcut
      cases kq with
      | zero => exact absurd HA.out (by simp [laws_FnExactIsIndependent.j0])
      | succ kj15 =>
       have H := HA.out
       clear HA
       simp only [laws_FnExactIsIndependent.j0] at H
       by_cases c37 : x45_15 = true
       · subst c37
         rw [if_pos rfl] at H
         obtain rfl := Option.some.inj H
         go_wp2
         go_ret
         exact ⟨by first | rfl | (simp [errW_none, errW_some] <;> rfl) | (simp [*, errW_none, errW_some] <;> rfl), zB⟩
       · replace c37 := Bool.eq_false_iff.mpr c37
         subst c37
         have H1 : ((laws_toGraph.f kj15 a0_0 l0_1).bind fun bt307 => ((laws_eqGraph.f kj15 t297 t298 bt307.1 bt307.2).bind fun t311 => (if t311 = true then ((laws_toIntS.f kj15 l1).bind fun t312 => ((laws_eqIntS.f kj15 t302 t312).bind fun t315 => (if t315 = true then (some true) else (some false)))) else (some false)))) = some r := by rw [if_neg (show ¬ (false = true) by decide)] at H; exact H
         clear H
         have H := H1
         clear H1
         replace H := Option.bind_eq_some_iff.mp H
         obtain ⟨⟨t307, t308⟩, A380, H⟩ := H
         replace H : ((laws_eqGraph.f kj15 t297 t298 t307 t308).bind fun t311 => (if t311 = true then ((laws_toIntS.f kj15 l1).bind fun t312 => ((laws_eqIntS.f kj15 t302 t312).bind fun t315 => (if t315 = true then (some true) else (some false)))) else (some false))) = some r := H
         have A38 := Aside0.mk A380
         clear A380
         replace H := Option.bind_eq_some_iff.mp H
         obtain ⟨t311, A390, H⟩ := H
         have A39 := Aside0.mk A390
         clear A390
         by_cases c40 : t311 = true
         · subst c40
           rw [if_pos rfl] at H
           replace H := Option.bind_eq_some_iff.mp H
           obtain ⟨t312, A410, H⟩ := H
           have A41 := Aside0.mk A410
           clear A410
           replace H := Option.bind_eq_some_iff.mp H
           obtain ⟨t315, A420, H⟩ := H
           have A42 := Aside0.mk A420
           clear A420
           by_cases c43 : t315 = true
           · subst c43
             rw [if_pos rfl] at H
             obtain rfl := Option.some.inj H
             try go_wp2
             replace HO_9 := zM (Kd.R_drew HO_9.out)
             replace HO_302001 := zM (Kd.R_drew HO_302001.out)
             replace BK286 := zM (blk_drew BK286.out)
             replace BK301 := zM (blk_drew BK301.out)
             replace HB := zM (below_drew1 HB.out)
             refine zs (n := 5) (fun w' => w'.cell? ⟨gb301, 0, none⟩ = some (.int .i64 t297) ∧ w'.cell? ⟨gb301, 1, none⟩ = some (.slice Ao31 t298.length co31) ∧ w'.cell? ⟨gb286, 0, none⟩ = some (.int .i64 a0_0) ∧ w'.cell? ⟨gb286, 1, none⟩ = some (.slice A0_1 l0_1.length c0_1)) ⟨(blk_cell BK301.out 0).trans rfl, (blk_cell BK301.out 1).trans rfl, (blk_cell BK286.out 0).trans rfl, (blk_cell BK286.out 1).trans rfl⟩ (fun hHeld => ?_)
             generalize wc.drew = w44 at HO_9 HO_302001 BK286 BK301 HB hHeld ⊢
             refine zl 0 46 hHeld ?_ (hy := by rintro w' ⟨s0, s1, s2, s3⟩; go_simp; with_reducible rfl)
             refine zl 1 47 hHeld ?_ (hy := by rintro w' ⟨s0, s1, s2, s3⟩; go_simp; with_reducible rfl)
             refine zh 2 48 Try.func17 #[.agg #[.int .i64 a0_0, .slice A0_1 l0_1.length c0_1]] (fun K hK => ?_)
             with_reducible refine (laws_toGraph.calls kj15 a0_0 _ _ l0_1 t307 t308 _ ?side1 ?side2 A38.out).mono ?_
             (case side1 => exact zC (Kd.C_below HR0_1.out HB.out))
             (case side2 => exact HC0_1.out)
             rintro e w45 ⟨v309, rfl, ho0, hb⟩
             refine ⟨_, rfl, ?_⟩
             replace HO_9 := zM (Kd.R_below (zR HO_9.out) hb)
             have HO310 := zM (Kd.R_lower (Kd.R_new' ho0 (Kd.R_lt (zR HO_302001.out))) (below_size zB))
             replace HO_302001 := zM (Kd.R_elder' (zR HO_302001.out) (Kd.R_base ho0) hb)
             replace BK286 := zM (blk_below (g := gb286) (o := .cells #[.int .i64 a0_0, .slice A0_1 l0_1.length c0_1] 24 (0, 0)) (zK BK286.out) hb)
             replace BK301 := zM (blk_below (g := gb301) (o := .cells #[.int .i64 t297, .slice Ao31 t298.length co31] 27 (0, 0)) (zK BK301.out) hb)
             replace HB := zM (below_step zB hb)
             (try clear hb)
             (try clear hb2)
             (try clear hk)
             (try clear hi)
             (try clear ho0)
             obtain ⟨Ao46, co46, eo46⟩ := Kd.R_slice HO310.out
             (first | subst eo46 | (injection eo46 with f1_ f2_ f3_; have f4_ := f1_.symm; have f5_ := f3_.symm; clear f1_ f2_ f3_; subst f4_; subst f5_))
             refine hK.out _ _ ⟨(blk_cell BK301.out 0).trans rfl, (blk_cell BK301.out 1).trans rfl, (blk_cell BK286.out 0).trans rfl, (blk_cell BK286.out 1).trans rfl⟩ (fun hHeld => ?_)
             clear hK K
             refine zn 48 ?_
             refine zh 3 49 Try.func19 #[.agg #[.int .i64 t297, .slice Ao31 t298.length co31], .agg #[.int .i64 t307, .slice Ao46 t308.length co46]] (fun K hK => ?_)
             with_reducible refine (laws_eqGraph.calls kj15 t297 _ _ t298 t307 _ _ t308 true _ ?side1 ?side2 ?side3 ?side4 A39.out).mono ?_
             (case side1 => exact zC (Kd.R_reads' HO_302001.out).2.2)
             (case side2 => exact (Kd.R_reads' HO_302001.out).2.1)
             (case side3 => exact zC (Kd.R_reads' HO310.out).2.2)
             (case side4 => exact (Kd.R_reads' HO310.out).2.1)
             rintro e w47 ⟨rfl, hb⟩
             refine ⟨_, rfl, ?_⟩
             replace HO_9 := zM (Kd.R_below (zR HO_9.out) hb)
             replace HO_302001 := zM (Kd.R_below (zR HO_302001.out) hb)
             replace HO310 := zM (Kd.R_below (zR HO310.out) hb)
             replace BK286 := zM (blk_below (g := gb286) (o := .cells #[.int .i64 a0_0, .slice A0_1 l0_1.length c0_1] 24 (0, 0)) (zK BK286.out) hb)
             replace BK301 := zM (blk_below (g := gb301) (o := .cells #[.int .i64 t297, .slice Ao31 t298.length co31] 27 (0, 0)) (zK BK301.out) hb)
             replace HB := zM (below_step zB hb)
             (try clear hb)
             (try clear hb2)
             (try clear hk)
             (try clear hi)
             refine hK.out _ _ ⟨(blk_cell BK301.out 0).trans rfl, (blk_cell BK301.out 1).trans rfl, (blk_cell BK286.out 0).trans rfl, (blk_cell BK286.out 1).trans rfl⟩ (fun hHeld => ?_)
             clear hK K
             refine zn 49 ?_
             refine zq 4 50 ?_
             refine zx ?_
             try go_wp2_with (first | ((with_reducible refine gate_callee (f := 25) rfl ?_); refine zc 53 Try.func25 #[.slice A1 l1.length c1] ?_; (with_reducible refine (laws_toIntS.calls kj15 _ _ l1 t312 _ ?side1 ?side2 A41.out).mono ?_); (case side1 => exact zC (Kd.C_below HR1.out HB.out)); (case side2 => exact HC1.out); rintro e w48 ⟨v313, rfl, ho0, hb⟩; refine ⟨_, rfl, ?_⟩; replace HO_302001 := zM (Kd.R_below (zR HO_302001.out) hb); replace HO310 := zM (Kd.R_below (zR HO310.out) hb); have HO314 := zM (Kd.R_lower (Kd.R_new' ho0 (Kd.R_lt (zR HO_9.out))) (below_size zB)); replace HO_9 := zM (Kd.R_elder' (zR HO_9.out) (Kd.R_base ho0) hb); replace BK286 := zM (blk_below (g := gb286) (o := .cells #[.int .i64 a0_0, .slice A0_1 l0_1.length c0_1] 24 (0, 0)) (zK BK286.out) hb); replace BK301 := zM (blk_below (g := gb301) (o := .cells #[.int .i64 t297, .slice Ao31 t298.length co31] 27 (0, 0)) (zK BK301.out) hb); replace HB := zM (below_step zB hb); (try clear hb); (try clear hb2); (try clear hk); (try clear hi); (try clear ho0); obtain ⟨Ao49, co49, eo49⟩ := Kd.R_slice HO314.out; subst eo49) | ((with_reducible refine gate_callee (f := 27) rfl ?_); refine zc 54 Try.func27 #[.slice Ao34 t302.length co34, .slice Ao49 t312.length co49] ?_; (with_reducible refine (laws_eqIntS.calls kj15 _ _ t302 _ _ t312 true _ ?side1 ?side2 ?side3 ?side4 A42.out).mono ?_); (case side1 => exact zC (Kd.R_reads' HO_9.out).2.2); (case side2 => exact (Kd.R_reads' HO_9.out).2.1); (case side3 => exact zC (Kd.R_reads' HO314.out).2.2); (case side4 => exact (Kd.R_reads' HO314.out).2.1); rintro e w' ⟨rfl, ⟨nd, rfl⟩⟩; refine ⟨_, rfl, ?_⟩))
             go_ret
             exact ⟨by first | rfl | (simp [errW_none, errW_some] <;> rfl) | (simp [*, errW_none, errW_some] <;> rfl), zB⟩
           · replace c43 := Bool.eq_false_iff.mpr c43
             subst c43
             have H1 : (some false) = some r := by rw [if_neg (show ¬ (false = true) by decide)] at H; exact H
             clear H
             have H := H1
             clear H1
             obtain rfl := Option.some.inj H
             try go_wp2
             replace HO_9 := zM (Kd.R_drew HO_9.out)
             replace HO_302001 := zM (Kd.R_drew HO_302001.out)
             replace BK286 := zM (blk_drew BK286.out)
             replace BK301 := zM (blk_drew BK301.out)
             replace HB := zM (below_drew1 HB.out)
             refine zs (n := 5) (fun w' => w'.cell? ⟨gb301, 0, none⟩ = some (.int .i64 t297) ∧ w'.cell? ⟨gb301, 1, none⟩ = some (.slice Ao31 t298.length co31) ∧ w'.cell? ⟨gb286, 0, none⟩ = some (.int .i64 a0_0) ∧ w'.cell? ⟨gb286, 1, none⟩ = some (.slice A0_1 l0_1.length c0_1)) ⟨(blk_cell BK301.out 0).trans rfl, (blk_cell BK301.out 1).trans rfl, (blk_cell BK286.out 0).trans rfl, (blk_cell BK286.out 1).trans rfl⟩ (fun hHeld => ?_)
             generalize wc.drew = w50 at HO_9 HO_302001 BK286 BK301 HB hHeld ⊢
             refine zl 0 46 hHeld ?_ (hy := by rintro w' ⟨s0, s1, s2, s3⟩; go_simp; with_reducible rfl)
             refine zl 1 47 hHeld ?_ (hy := by rintro w' ⟨s0, s1, s2, s3⟩; go_simp; with_reducible rfl)
             refine zh 2 48 Try.func17 #[.agg #[.int .i64 a0_0, .slice A0_1 l0_1.length c0_1]] (fun K hK => ?_)
             with_reducible refine (laws_toGraph.calls kj15 a0_0 _ _ l0_1 t307 t308 _ ?side1 ?side2 A38.out).mono ?_
             (case side1 => exact zC (Kd.C_below HR0_1.out HB.out))
             (case side2 => exact HC0_1.out)
             rintro e w51 ⟨v309, rfl, ho0, hb⟩
             refine ⟨_, rfl, ?_⟩
             replace HO_9 := zM (Kd.R_below (zR HO_9.out) hb)
             have HO310 := zM (Kd.R_lower (Kd.R_new' ho0 (Kd.R_lt (zR HO_302001.out))) (below_size zB))
             replace HO_302001 := zM (Kd.R_elder' (zR HO_302001.out) (Kd.R_base ho0) hb)
             replace BK286 := zM (blk_below (g := gb286) (o := .cells #[.int .i64 a0_0, .slice A0_1 l0_1.length c0_1] 24 (0, 0)) (zK BK286.out) hb)
             replace BK301 := zM (blk_below (g := gb301) (o := .cells #[.int .i64 t297, .slice Ao31 t298.length co31] 27 (0, 0)) (zK BK301.out) hb)
             replace HB := zM (below_step zB hb)
             (try clear hb)
             (try clear hb2)
             (try clear hk)
             (try clear hi)
             (try clear ho0)
             obtain ⟨Ao52, co52, eo52⟩ := Kd.R_slice HO310.out
             (first | subst eo52 | (injection eo52 with f1_ f2_ f3_; have f4_ := f1_.symm; have f5_ := f3_.symm; clear f1_ f2_ f3_; subst f4_; subst f5_))
             refine hK.out _ _ ⟨(blk_cell BK301.out 0).trans rfl, (blk_cell BK301.out 1).trans rfl, (blk_cell BK286.out 0).trans rfl, (blk_cell BK286.out 1).trans rfl⟩ (fun hHeld => ?_)
             clear hK K
             refine zn 48 ?_
             refine zh 3 49 Try.func19 #[.agg #[.int .i64 t297, .slice Ao31 t298.length co31], .agg #[.int .i64 t307, .slice Ao52 t308.length co52]] (fun K hK => ?_)
             with_reducible refine (laws_eqGraph.calls kj15 t297 _ _ t298 t307 _ _ t308 true _ ?side1 ?side2 ?side3 ?side4 A39.out).mono ?_
             (case side1 => exact zC (Kd.R_reads' HO_302001.out).2.2)
             (case side2 => exact (Kd.R_reads' HO_302001.out).2.1)
             (case side3 => exact zC (Kd.R_reads' HO310.out).2.2)
             (case side4 => exact (Kd.R_reads' HO310.out).2.1)
             rintro e w53 ⟨rfl, hb⟩
             refine ⟨_, rfl, ?_⟩
             replace HO_9 := zM (Kd.R_below (zR HO_9.out) hb)
             replace HO_302001 := zM (Kd.R_below (zR HO_302001.out) hb)
             replace HO310 := zM (Kd.R_below (zR HO310.out) hb)
             replace BK286 := zM (blk_below (g := gb286) (o := .cells #[.int .i64 a0_0, .slice A0_1 l0_1.length c0_1] 24 (0, 0)) (zK BK286.out) hb)
             replace BK301 := zM (blk_below (g := gb301) (o := .cells #[.int .i64 t297, .slice Ao31 t298.length co31] 27 (0, 0)) (zK BK301.out) hb)
             replace HB := zM (below_step zB hb)
             (try clear hb)
             (try clear hb2)
             (try clear hk)
             (try clear hi)
             refine hK.out _ _ ⟨(blk_cell BK301.out 0).trans rfl, (blk_cell BK301.out 1).trans rfl, (blk_cell BK286.out 0).trans rfl, (blk_cell BK286.out 1).trans rfl⟩ (fun hHeld => ?_)
             clear hK K
             refine zn 49 ?_
             refine zq 4 50 ?_
             refine zx ?_
             try go_wp2_with (first | ((with_reducible refine gate_callee (f := 25) rfl ?_); refine zc 53 Try.func25 #[.slice A1 l1.length c1] ?_; (with_reducible refine (laws_toIntS.calls kj15 _ _ l1 t312 _ ?side1 ?side2 A41.out).mono ?_); (case side1 => exact zC (Kd.C_below HR1.out HB.out)); (case side2 => exact HC1.out); rintro e w54 ⟨v313, rfl, ho0, hb⟩; refine ⟨_, rfl, ?_⟩; replace HO_302001 := zM (Kd.R_below (zR HO_302001.out) hb); replace HO310 := zM (Kd.R_below (zR HO310.out) hb); have HO314 := zM (Kd.R_lower (Kd.R_new' ho0 (Kd.R_lt (zR HO_9.out))) (below_size zB)); replace HO_9 := zM (Kd.R_elder' (zR HO_9.out) (Kd.R_base ho0) hb); replace BK286 := zM (blk_below (g := gb286) (o := .cells #[.int .i64 a0_0, .slice A0_1 l0_1.length c0_1] 24 (0, 0)) (zK BK286.out) hb); replace BK301 := zM (blk_below (g := gb301) (o := .cells #[.int .i64 t297, .slice Ao31 t298.length co31] 27 (0, 0)) (zK BK301.out) hb); replace HB := zM (below_step zB hb); (try clear hb); (try clear hb2); (try clear hk); (try clear hi); (try clear ho0); obtain ⟨Ao55, co55, eo55⟩ := Kd.R_slice HO314.out; subst eo55) | ((with_reducible refine gate_callee (f := 27) rfl ?_); refine zc 54 Try.func27 #[.slice Ao34 t302.length co34, .slice Ao55 t312.length co55] ?_; (with_reducible refine (laws_eqIntS.calls kj15 _ _ t302 _ _ t312 false _ ?side1 ?side2 ?side3 ?side4 A42.out).mono ?_); (case side1 => exact zC (Kd.R_reads' HO_9.out).2.2); (case side2 => exact (Kd.R_reads' HO_9.out).2.1); (case side3 => exact zC (Kd.R_reads' HO314.out).2.2); (case side4 => exact (Kd.R_reads' HO314.out).2.1); rintro e w' ⟨rfl, ⟨nd, rfl⟩⟩; refine ⟨_, rfl, ?_⟩))
             go_ret
             exact ⟨by first | rfl | (simp [errW_none, errW_some] <;> rfl) | (simp [*, errW_none, errW_some] <;> rfl), zB⟩
         · replace c40 := Bool.eq_false_iff.mpr c40
           subst c40
           have H1 : (some false) = some r := by rw [if_neg (show ¬ (false = true) by decide)] at H; exact H
           clear H
           have H := H1
           clear H1
           obtain rfl := Option.some.inj H
           try go_wp2
           replace HO_9 := zM (Kd.R_drew HO_9.out)
           replace HO_302001 := zM (Kd.R_drew HO_302001.out)
           replace BK286 := zM (blk_drew BK286.out)
           replace BK301 := zM (blk_drew BK301.out)
           replace HB := zM (below_drew1 HB.out)
           refine zs (n := 5) (fun w' => w'.cell? ⟨gb301, 0, none⟩ = some (.int .i64 t297) ∧ w'.cell? ⟨gb301, 1, none⟩ = some (.slice Ao31 t298.length co31) ∧ w'.cell? ⟨gb286, 0, none⟩ = some (.int .i64 a0_0) ∧ w'.cell? ⟨gb286, 1, none⟩ = some (.slice A0_1 l0_1.length c0_1)) ⟨(blk_cell BK301.out 0).trans rfl, (blk_cell BK301.out 1).trans rfl, (blk_cell BK286.out 0).trans rfl, (blk_cell BK286.out 1).trans rfl⟩ (fun hHeld => ?_)
           generalize wc.drew = w56 at HO_9 HO_302001 BK286 BK301 HB hHeld ⊢
           refine zl 0 46 hHeld ?_ (hy := by rintro w' ⟨s0, s1, s2, s3⟩; go_simp; with_reducible rfl)
           refine zl 1 47 hHeld ?_ (hy := by rintro w' ⟨s0, s1, s2, s3⟩; go_simp; with_reducible rfl)
           refine zh 2 48 Try.func17 #[.agg #[.int .i64 a0_0, .slice A0_1 l0_1.length c0_1]] (fun K hK => ?_)
           with_reducible refine (laws_toGraph.calls kj15 a0_0 _ _ l0_1 t307 t308 _ ?side1 ?side2 A38.out).mono ?_
           (case side1 => exact zC (Kd.C_below HR0_1.out HB.out))
           (case side2 => exact HC0_1.out)
           rintro e w57 ⟨v309, rfl, ho0, hb⟩
           refine ⟨_, rfl, ?_⟩
           replace HO_9 := zM (Kd.R_below (zR HO_9.out) hb)
           have HO310 := zM (Kd.R_lower (Kd.R_new' ho0 (Kd.R_lt (zR HO_302001.out))) (below_size zB))
           replace HO_302001 := zM (Kd.R_elder' (zR HO_302001.out) (Kd.R_base ho0) hb)
           replace BK286 := zM (blk_below (g := gb286) (o := .cells #[.int .i64 a0_0, .slice A0_1 l0_1.length c0_1] 24 (0, 0)) (zK BK286.out) hb)
           replace BK301 := zM (blk_below (g := gb301) (o := .cells #[.int .i64 t297, .slice Ao31 t298.length co31] 27 (0, 0)) (zK BK301.out) hb)
           replace HB := zM (below_step zB hb)
           (try clear hb)
           (try clear hb2)
           (try clear hk)
           (try clear hi)
           (try clear ho0)
           obtain ⟨Ao58, co58, eo58⟩ := Kd.R_slice HO310.out
           (first | subst eo58 | (injection eo58 with f1_ f2_ f3_; have f4_ := f1_.symm; have f5_ := f3_.symm; clear f1_ f2_ f3_; subst f4_; subst f5_))
           refine hK.out _ _ ⟨(blk_cell BK301.out 0).trans rfl, (blk_cell BK301.out 1).trans rfl, (blk_cell BK286.out 0).trans rfl, (blk_cell BK286.out 1).trans rfl⟩ (fun hHeld => ?_)
           clear hK K
           refine zn 48 ?_
           refine zh 3 49 Try.func19 #[.agg #[.int .i64 t297, .slice Ao31 t298.length co31], .agg #[.int .i64 t307, .slice Ao58 t308.length co58]] (fun K hK => ?_)
           with_reducible refine (laws_eqGraph.calls kj15 t297 _ _ t298 t307 _ _ t308 false _ ?side1 ?side2 ?side3 ?side4 A39.out).mono ?_
           (case side1 => exact zC (Kd.R_reads' HO_302001.out).2.2)
           (case side2 => exact (Kd.R_reads' HO_302001.out).2.1)
           (case side3 => exact zC (Kd.R_reads' HO310.out).2.2)
           (case side4 => exact (Kd.R_reads' HO310.out).2.1)
           rintro e w59 ⟨rfl, hb⟩
           refine ⟨_, rfl, ?_⟩
           replace HO_9 := zM (Kd.R_below (zR HO_9.out) hb)
           replace HO_302001 := zM (Kd.R_below (zR HO_302001.out) hb)
           replace HO310 := zM (Kd.R_below (zR HO310.out) hb)
           replace BK286 := zM (blk_below (g := gb286) (o := .cells #[.int .i64 a0_0, .slice A0_1 l0_1.length c0_1] 24 (0, 0)) (zK BK286.out) hb)
           replace BK301 := zM (blk_below (g := gb301) (o := .cells #[.int .i64 t297, .slice Ao31 t298.length co31] 27 (0, 0)) (zK BK301.out) hb)
           replace HB := zM (below_step zB hb)
           (try clear hb)
           (try clear hb2)
           (try clear hk)
           (try clear hi)
           refine hK.out _ _ ⟨(blk_cell BK301.out 0).trans rfl, (blk_cell BK301.out 1).trans rfl, (blk_cell BK286.out 0).trans rfl, (blk_cell BK286.out 1).trans rfl⟩ (fun hHeld => ?_)
           clear hK K
           refine zn 49 ?_
           refine zq 4 50 ?_
           refine zx ?_
           try go_wp2
           go_ret
           exact ⟨by first | rfl | (simp [errW_none, errW_some] <;> rfl) | (simp [*, errW_none, errW_some] <;> rfl), zB⟩

/-! ### spec_l2Neighbors: function 64 -/
def spec_l2Neighbors.l0 : Nat → Int → List Int → Int → Int → List (S68) → Option (List Int)
 | 0, _, _, _, _, _ => none
 | k + 1, x1, x5, x6, x317000, x317001 => if x6 < x317000 then ((spec_l2Near.f k x317000 x317001 x1 x6).bind fun t320 => (if t320 = true then (if x5.length < 17592186044416 then (spec_l2Neighbors.l0 k x1 (x5 ++ [x6]) (wrap64 (x6 + 1)) x317000 x317001) else (none)) else (spec_l2Neighbors.l0 k x1 x5 (wrap64 (x6 + 1)) x317000 x317001))) else (some x5)
def spec_l2Neighbors.f (k : Nat) (a0_0 : Int) (l0_1 : List (S68)) (a1 : Int) : Option (List Int) := spec_l2Neighbors.l0 k a1 (([] : List Int)) 0 a0_0 l0_1
theorem spec_l2Neighbors.mono_l : ∀ k, (∀ y0 y1 y2 y3 y4, LeO (spec_l2Neighbors.l0 k y0 y1 y2 y3 y4) (spec_l2Neighbors.l0 (k + 1) y0 y1 y2 y3 y4))
 | 0 => fun _ _ _ _ _ r h => by simp [spec_l2Neighbors.l0] at h
 | k + 1 => by
  have ih0 := spec_l2Neighbors.mono_l k
  · intro y0 y1 y2 y3 y4
    unfold spec_l2Neighbors.l0
    repeat' first
    | (with_reducible exact ih0 _ _ _ _ _)
    | (with_reducible exact spec_l2Near.mono _ _ _ _ _)
    | (with_reducible exact LeO.refl _)
    | (with_reducible exact LeO.none _)
    | (with_reducible refine LeO.ite ?_ ?_)
    | (with_reducible refine LeO.bind ?_ (fun _ => ?_))
    | exact ih0 _ _ _ _ _
    | exact spec_l2Near.mono _ _ _ _ _
    | exact LeO.none _
    | refine LeO.ite ?_ ?_
    | refine LeO.bind ?_ (fun _ => ?_)
theorem spec_l2Neighbors.mono : ∀ a0 a1 a2 k, LeO (spec_l2Neighbors.f k a0 a1 a2) (spec_l2Neighbors.f (k + 1) a0 a1 a2) := by
 intro a0 a1 a2 k
 have ih0 := spec_l2Neighbors.mono_l k
 unfold spec_l2Neighbors.f
 repeat' first
  | (with_reducible exact ih0 _ _ _ _ _)
  | (with_reducible exact spec_l2Near.mono _ _ _ _ _)
  | (with_reducible exact LeO.refl _)
  | (with_reducible exact LeO.none _)
  | (with_reducible refine LeO.ite ?_ ?_)
  | (with_reducible refine LeO.bind ?_ (fun _ => ?_))
  | exact ih0 _ _ _ _ _
  | exact spec_l2Near.mono _ _ _ _ _
  | exact LeO.none _
  | refine LeO.ite ?_ ?_
  | refine LeO.bind ?_ (fun _ => ?_)
set_option maxHeartbeats 8000000 in
set_option maxRecDepth 100000 in
theorem spec_l2Neighbors.calls (k : Nat) (a0_0 : Int) (A0_1 : Option Addr) (c0_1 : Nat) (l0_1 : List (S68)) (a1 : Int) (r : List Int) (w : World) (hr0_1 : Kd.C k68 w A0_1 l0_1.length l0_1) (hc0_1 : l0_1.length ≤ c0_1) (h : spec_l2Neighbors.f k a0_0 l0_1 a1 = some r) :
 Calls Try.prog 64 #[.agg #[.int .i64 a0_0, .slice A0_1 l0_1.length c0_1], .int .i64 a1] w fun e w' => ∃ v0_ : Value, e = .returned (v0_) ∧ Kd.R (Kd.int .i64) 3 w' w.heap.size (fun _ => True) v0_ r ∧ Below w.heap.size w w' := by
 have hu27 := Try.underlying27
 have HR0_1 := Aside0.mk hr0_1
 have HC0_1 := Aside0.mk hc0_1
 clear hr0_1 hc0_1
 have HB := zM (Below.refl w.heap.size w)
 have H : (spec_l2Neighbors.l0 k a1 (([] : List Int)) 0 a0_0 l0_1) = some r := h
 clear h
 obtain ⟨y317, hy317⟩ : ∃ y_ : List Int, y_ = (([] : List Int)) := ⟨_, rfl⟩
 replace H : (spec_l2Neighbors.l0 k a1 y317 0 a0_0 l0_1) = some r := by first | (rw [hy317]; with_reducible exact H) | (have H2_ := (Option.bind_some _ _).symm.trans H; rw [hy317]; with_reducible exact H2_) | (have H2_ := (Option.bind_some _ _).symm.trans H; with_reducible exact H2_) | with_reducible exact H | (rw [hy317]; exact H) | exact H
 have Ny317 := Aside0.mk hy317
 clear hy317
 have H' := Aside0.mk H
 clear H
 go_enter Try.func64, Try.ntmps64
 go_wp2_with (first | ((with_reducible refine gate_dst (N := 2) rfl ?_); refine zb (w := w) 2 #[.int .i64 a0_0, .slice A0_1 l0_1.length c0_1] 27 zB ?_; clear HB; intro gb316 w3 HB BK316 GW316; have GE316 := GW316) | ((with_reducible refine gate_dst (N := 7) rfl ?_); refine Kd.R_lit (Kd.int .i64) _ 3 ?hg (N := 7) ?hd (xs := ([] : List Int)) (inner := []) (ok := fun _ => True) (okp := fun _ => True) ?hr ?hp (fun _ hk => hk) trivial (Below.refl _ _) (Nat.le_refl _) (by simp) ?_; (case hd => rfl); (case hg => rfl); (case hr => first | (go_simp; done) | (go_simp; rfl)); (case hp => exact (Reps.none _ _)); intro v318 w4 ho5 hb hg_ hnew_; clear hg_ hnew_; (first | rw [← Ny317.out] at ho5 | (simp only [Int.reduceToNat] at ho5; rw [← Ny317.out] at ho5)); have HO319 := zM (Kd.R_lower ho5 (below_size zB)); replace BK316 := zM (blk_below (g := gb316) (o := .cells #[.int .i64 a0_0, .slice A0_1 l0_1.length c0_1] 27 (0, 0)) (zK BK316.out) hb); replace HB := zM (below_step zB hb); clear hb ho5))
 go_loopg [5, 6] k (fun kq v5 v6 w' => ∃ (x5_1 : List Int) (x6_1 : Int), v6 = .int .i64 x6_1 ∧ Aside0 (spec_l2Neighbors.l0 kq a1 x5_1 x6_1 a0_0 l0_1 = some r) ∧ Aside0 (kq ≤ k) ∧ Aside0 (Kd.R (Kd.int .i64) 3 w' w.heap.size (fun _ => True) v5 x5_1) ∧ Aside0 (w'.heap[gb316]? = some (.cells #[.int .i64 a0_0, (.slice A0_1 l0_1.length c0_1)] 27 (0, 0))) ∧ Aside0 (Below w.heap.size w w'))
 case atStart => exact ⟨(y317), (0), (by first | rfl | (simp; done) | (simp [*]; done)), H', ⟨Nat.le_refl _⟩, ⟨zR HO319.out⟩, ⟨zK BK316.out⟩, ⟨zB⟩⟩
 case round =>
  clear H'
  try clear p2
  obtain ⟨x5_1, x6_1, rfl, HA, HK1, HO_5, BK316, HB⟩ := hrel
  cases gk with
  | zero => exact absurd HA.out (by simp [spec_l2Neighbors.l0])
  | succ k1 =>
   have H := HA.out
   clear HA
   simp only [spec_l2Neighbors.l0] at H
   by_cases c6 : x6_1 < a0_0
   · rw [if_pos c6] at H
     have c6b0 := decide_eq_true c6
     clear c6
     replace H := Option.bind_eq_some_iff.mp H
     obtain ⟨t320, A70, H⟩ := H
     have A7 := Aside0.mk A70
     clear A70
     by_cases c8 : t320 = true
     · subst c8
       rw [if_pos rfl] at H
       by_cases c9 : x5_1.length < 17592186044416
       · rw [if_pos c9] at H
         have LMc9 := Aside0.mk c9
         clear c9
         obtain ⟨y321, hy321⟩ : ∃ y_ : List Int, y_ = (x5_1 ++ [x6_1]) := ⟨_, rfl⟩
         replace H : (spec_l2Neighbors.l0 k1 a1 y321 (wrap64 (x6_1 + 1)) a0_0 l0_1) = some r := by first | (rw [hy321]; with_reducible exact H) | (have H2_ := (Option.bind_some _ _).symm.trans H; rw [hy321]; with_reducible exact H2_) | (have H2_ := (Option.bind_some _ _).symm.trans H; with_reducible exact H2_) | with_reducible exact H | (rw [hy321]; exact H) | exact H
         have Ny321 := Aside0.mk hy321
         clear hy321
         have H' := Aside0.mk H
         clear H
         have hcz10_0 := zy BK316 0
         have hcz10_1 := zy BK316 1
         have hfz10_0 := blk_frozen BK316.out 0
         have hfz10_1 := blk_frozen BK316.out 1
         go_wp2_with (first | ((with_reducible refine gate_callee (f := 57) rfl ?_); refine zc 17 Try.func57 #[.agg #[.int .i64 a0_0, .slice A0_1 l0_1.length c0_1], .int .i64 a1, .int .i64 x6_1] ?_; (with_reducible refine (spec_l2Near.calls k1 a0_0 _ _ l0_1 a1 x6_1 true _ ?side1 ?side2 A7.out).mono ?_); (case side1 => exact zC (Kd.C_below HR0_1.out HB.out)); (case side2 => exact HC0_1.out); rintro e w11 ⟨rfl, hb⟩; refine ⟨_, rfl, ?_⟩; replace HO_5 := zM (Kd.R_below (zR HO_5.out) hb); replace BK316 := zM (blk_below (g := gb316) (o := .cells #[.int .i64 a0_0, .slice A0_1 l0_1.length c0_1] 27 (0, 0)) (zK BK316.out) hb); replace HB := zM (below_step zB hb); (try clear hb); (try clear hb2); (try clear hk); (try clear hi)) | ((with_reducible refine gate_builtin (b := .append) (xs := #[.tmp 18, .tmp 20]) rfl ?_); at_builtin; refine Kd.R_append (Kd.int .i64) (w0 := w) w.heap.size rfl (.tmp 18) (.tmp 20) 34 3 (.int .i64 0) 8 rfl Try.underlying34 info3 rfl (by decide) (by omega) u5 x5_1 x6_1 [.int .i64 x6_1] (fun _ => True) (fun _ => False) rfl rfl ?aP (fun _ hk => hk.elim) ?aF ?aO ?aB ?aS ?aL ?_; (case aP => exact rfl); (case aB => exact zB); (case aF => exact (fun _ _ => trivial)); (case aO => exact (zR HO_5.out)); (case aS => exact (below_size zB)); (case aL => have := LMc9.out; omega); intro v322 w12 ho hb hg hat; rw [← Ny321.out] at ho; replace BK316 := zM (blk_grown (g := gb316) (o := .cells #[.int .i64 a0_0, .slice A0_1 l0_1.length c0_1] 27 (0, 0)) (zK BK316.out) hg (Kd.R_ne HO_5.out BK316.out (by decide))); replace HB := zM (hb); have HO323 := zM (ho); clear HO_5; clear ho hb hg hat))
         go_roundg k1
         case measure => have := HK1.out; omega
         case rel => exact ⟨(y321), (wrap64 (x6_1 + 1)), (by first | rfl | (simp; done) | (simp [*]; done)), H', ⟨by have := HK1.out; omega⟩, ⟨zR HO323.out⟩, ⟨zK BK316.out⟩, ⟨zB⟩⟩
       · rw [if_neg c9] at H
         exact absurd H (by simp)
     · replace c8 := Bool.eq_false_iff.mpr c8
       subst c8
       have H1 : (spec_l2Neighbors.l0 k1 a1 x5_1 (wrap64 (x6_1 + 1)) a0_0 l0_1) = some r := by rw [if_neg (show ¬ (false = true) by decide)] at H; exact H
       clear H
       have H := H1
       clear H1
       have H' := Aside0.mk H
       clear H
       have hcz13_0 := zy BK316 0
       have hcz13_1 := zy BK316 1
       have hfz13_0 := blk_frozen BK316.out 0
       have hfz13_1 := blk_frozen BK316.out 1
       go_wp2_with (first | ((with_reducible refine gate_callee (f := 57) rfl ?_); refine zc 17 Try.func57 #[.agg #[.int .i64 a0_0, .slice A0_1 l0_1.length c0_1], .int .i64 a1, .int .i64 x6_1] ?_; (with_reducible refine (spec_l2Near.calls k1 a0_0 _ _ l0_1 a1 x6_1 false _ ?side1 ?side2 A7.out).mono ?_); (case side1 => exact zC (Kd.C_below HR0_1.out HB.out)); (case side2 => exact HC0_1.out); rintro e w14 ⟨rfl, hb⟩; refine ⟨_, rfl, ?_⟩; replace HO_5 := zM (Kd.R_below (zR HO_5.out) hb); replace BK316 := zM (blk_below (g := gb316) (o := .cells #[.int .i64 a0_0, .slice A0_1 l0_1.length c0_1] 27 (0, 0)) (zK BK316.out) hb); replace HB := zM (below_step zB hb); (try clear hb); (try clear hb2); (try clear hk); (try clear hi)))
       go_roundg k1
       case measure => have := HK1.out; omega
       case rel => exact ⟨(x5_1), (wrap64 (x6_1 + 1)), (by first | rfl | (simp; done) | (simp [*]; done)), H', ⟨by have := HK1.out; omega⟩, ⟨zR HO_5.out⟩, ⟨zK BK316.out⟩, ⟨zB⟩⟩
   · rw [if_neg c6] at H
     have c6b0 : decide (x6_1 < a0_0) = false := decide_eq_false c6
     clear c6
     obtain rfl := Option.some.inj H
     have hcz15_0 := zy BK316 0
     have hcz15_1 := zy BK316 1
     have hfz15_0 := blk_frozen BK316.out 0
     have hfz15_1 := blk_frozen BK316.out 1
     go_wp2
     go_ret
     exact ⟨_, by first | rfl | (simp [errW_none, errW_some] <;> rfl) | (simp [*, errW_none, errW_some] <;> rfl), by (with_reducible repeat (first | apply Kd.R_alloc | apply Kd.R_drewN | apply Kd.R_drew)); exact HO_5.out, zB⟩

/-! ### spec_NeighborsOf: function 28 -/
def spec_NeighborsOf.f (k : Nat) (a0_0 : Int) (l0_1 : List (S68)) (a1 : Int) : Option (List Int × Bool) := (spec_l2Good.f k a0_0 l0_1).bind fun t325 => (if t325 = true then ((spec_l1In.f a1 0 (wrap64 (a0_0 - 1))).bind fun t326 => (if t326 = true then ((spec_l2Neighbors.f k a0_0 l0_1 a1).bind fun t327 => (some (t327, true))) else (some ((([] : List Int)), false)))) else (some ((([] : List Int)), false)))
theorem spec_NeighborsOf.mono : ∀ a0 a1 a2 k, LeO (spec_NeighborsOf.f k a0 a1 a2) (spec_NeighborsOf.f (k + 1) a0 a1 a2) := by
 intro a0 a1 a2 k
 unfold spec_NeighborsOf.f
 repeat' first
  | (with_reducible exact spec_l2Good.mono _ _ _)
  | (with_reducible exact spec_l2Neighbors.mono _ _ _ _)
  | (with_reducible exact LeO.refl _)
  | (with_reducible exact LeO.none _)
  | (with_reducible refine LeO.ite ?_ ?_)
  | (with_reducible refine LeO.bind ?_ (fun _ => ?_))
  | exact spec_l2Good.mono _ _ _
  | exact spec_l2Neighbors.mono _ _ _ _
  | exact LeO.none _
  | refine LeO.ite ?_ ?_
  | refine LeO.bind ?_ (fun _ => ?_)
set_option maxHeartbeats 8000000 in
set_option maxRecDepth 100000 in
theorem spec_NeighborsOf.calls (k : Nat) (a0_0 : Int) (A0_1 : Option Addr) (c0_1 : Nat) (l0_1 : List (S68)) (a1 : Int) (r1 : List Int) (r2 : Bool) (w : World) (hr0_1 : Kd.C k68 w A0_1 l0_1.length l0_1) (hc0_1 : l0_1.length ≤ c0_1) (h : spec_NeighborsOf.f k a0_0 l0_1 a1 = some (r1, r2)) :
 Calls Try.prog 28 #[.agg #[.int .i64 a0_0, .slice A0_1 l0_1.length c0_1], .int .i64 a1] w fun e w' => ∃ v0_ : Value, e = .returned (.tuple #[v0_, .bool r2]) ∧ Kd.R (Kd.int .i64) 3 w' w.heap.size (fun _ => True) v0_ r1 ∧ Below w.heap.size w w' := by
 have hu27 := Try.underlying27
 have HR0_1 := Aside0.mk hr0_1
 have HC0_1 := Aside0.mk hc0_1
 clear hr0_1 hc0_1
 have HB := zM (Below.refl w.heap.size w)
 have H : ((spec_l2Good.f k a0_0 l0_1).bind fun t325 => (if t325 = true then ((spec_l1In.f a1 0 (wrap64 (a0_0 - 1))).bind fun t326 => (if t326 = true then ((spec_l2Neighbors.f k a0_0 l0_1 a1).bind fun t327 => (some (t327, true))) else (some ((([] : List Int)), false)))) else (some ((([] : List Int)), false)))) = some (r1, r2) := h
 clear h
 replace H := Option.bind_eq_some_iff.mp H
 obtain ⟨t325, A30, H⟩ := H
 replace H : (if t325 = true then ((spec_l1In.f a1 0 (wrap64 (a0_0 - 1))).bind fun t326 => (if t326 = true then ((spec_l2Neighbors.f k a0_0 l0_1 a1).bind fun t327 => (some (t327, true))) else (some ((([] : List Int)), false)))) else (some ((([] : List Int)), false))) = some (r1, r2) := H
 have A3 := Aside0.mk A30
 clear A30
 by_cases c4 : t325 = true
 · subst c4
   have H1 : ((spec_l1In.f a1 0 (wrap64 (a0_0 - 1))).bind fun t326 => (if t326 = true then ((spec_l2Neighbors.f k a0_0 l0_1 a1).bind fun t327 => (some (t327, true))) else (some ((([] : List Int)), false)))) = some (r1, r2) := by rw [if_pos rfl] at H; exact H
   clear H
   have H := H1
   clear H1
   replace H := Option.bind_eq_some_iff.mp H
   obtain ⟨t326, A50, H⟩ := H
   replace H : (if t326 = true then ((spec_l2Neighbors.f k a0_0 l0_1 a1).bind fun t327 => (some (t327, true))) else (some ((([] : List Int)), false))) = some (r1, r2) := H
   have A5 := Aside0.mk A50
   clear A50
   by_cases c6 : t326 = true
   · subst c6
     have H1 : ((spec_l2Neighbors.f k a0_0 l0_1 a1).bind fun t327 => (some (t327, true))) = some (r1, r2) := by rw [if_pos rfl] at H; exact H
     clear H
     have H := H1
     clear H1
     replace H := Option.bind_eq_some_iff.mp H
     obtain ⟨t327, A70, H⟩ := H
     replace H : (some (t327, true)) = some (r1, r2) := H
     have A7 := Aside0.mk A70
     clear A70
     simp only [Option.some.injEq, Prod.mk.injEq] at H
     obtain ⟨rfl, rfl⟩ := H
     go_enter Try.func28, Try.ntmps28
     go_wp2_with (first | ((with_reducible refine gate_dst (N := 2) rfl ?_); refine zb (w := w) 2 #[.int .i64 a0_0, .slice A0_1 l0_1.length c0_1] 27 zB ?_; clear HB; intro gb324 w8 HB BK324 GW324; have GE324 := GW324; have hcz9_0 := zy BK324 0; have hcz9_1 := zy BK324 1; have hfz9_0 := blk_frozen BK324.out 0; have hfz9_1 := blk_frozen BK324.out 1) | ((with_reducible refine gate_callee (f := 52) rfl ?_); refine zc 7 Try.func52 #[.agg #[.int .i64 a0_0, .slice A0_1 l0_1.length c0_1]] ?_; (with_reducible refine (spec_l2Good.calls k a0_0 _ _ l0_1 true _ ?side1 ?side2 A3.out).mono ?_); (case side1 => exact zC (Kd.C_below HR0_1.out HB.out)); (case side2 => exact HC0_1.out); rintro e w10 ⟨rfl, hb⟩; refine ⟨_, rfl, ?_⟩; replace BK324 := zM (blk_below (g := gb324) (o := .cells #[.int .i64 a0_0, .slice A0_1 l0_1.length c0_1] 27 (0, 0)) (zK BK324.out) hb); replace HB := zM (below_step zB hb); (try clear hb); (try clear hb2); (try clear hk); (try clear hi); have hcz11_0 := zy BK324 0; have hcz11_1 := zy BK324 1; have hfz11_0 := blk_frozen BK324.out 0; have hfz11_1 := blk_frozen BK324.out 1) | (go_at_call 63; (with_reducible refine (spec_l1In.calls a1 0 (wrap64 (a0_0 - 1)) true _ A5.out).mono ?_); rintro e w' ⟨rfl, ⟨nd, rfl⟩⟩) | ((with_reducible refine gate_callee (f := 64) rfl ?_); refine zc 20 Try.func64 #[.agg #[.int .i64 a0_0, .slice A0_1 l0_1.length c0_1], .int .i64 a1] ?_; (with_reducible refine (spec_l2Neighbors.calls k a0_0 _ _ l0_1 a1 t327 _ ?side1 ?side2 A7.out).mono ?_); (case side1 => exact zC (Kd.C_below HR0_1.out zB)); (case side2 => exact HC0_1.out); rintro e w12 ⟨v328, rfl, ho0, hb⟩; refine ⟨_, rfl, ?_⟩; have HO329 := zM (Kd.R_lower ho0 (below_size zB)); replace BK324 := zM (blk_below (g := gb324) (o := .cells #[.int .i64 a0_0, .slice A0_1 l0_1.length c0_1] 27 (0, 0)) (zK BK324.out) hb); replace HB := zM (below_step zB hb); (try clear hb); (try clear hb2); (try clear hk); (try clear hi); (try clear ho0)))
     go_ret2
     exact ⟨_, by first | rfl | (simp [errW_none, errW_some] <;> rfl) | (simp [*, errW_none, errW_some] <;> rfl), by (with_reducible repeat (first | apply Kd.R_alloc | apply Kd.R_drewN | apply Kd.R_drew)); exact HO329.out, zB⟩
   · replace c6 := Bool.eq_false_iff.mpr c6
     subst c6
     have H1 : (some ((([] : List Int)), false)) = some (r1, r2) := by rw [if_neg (show ¬ (false = true) by decide)] at H; exact H
     clear H
     have H := H1
     clear H1
     obtain ⟨y330, hy330⟩ : ∃ y_ : List Int, y_ = (([] : List Int)) := ⟨_, rfl⟩
     replace H : (some (y330, false)) = some (r1, r2) := by first | (rw [hy330]; with_reducible exact H) | (have H2_ := (Option.bind_some _ _).symm.trans H; rw [hy330]; with_reducible exact H2_) | (have H2_ := (Option.bind_some _ _).symm.trans H; with_reducible exact H2_) | with_reducible exact H | (rw [hy330]; exact H) | exact H
     have Ny330 := Aside0.mk hy330
     clear hy330
     simp only [Option.some.injEq, Prod.mk.injEq] at H
     obtain ⟨rfl, rfl⟩ := H
     go_enter Try.func28, Try.ntmps28
     go_wp2_with (first | ((with_reducible refine gate_dst (N := 2) rfl ?_); refine zb (w := w) 2 #[.int .i64 a0_0, .slice A0_1 l0_1.length c0_1] 27 zB ?_; clear HB; intro gb324 w13 HB BK324 GW324; have GE324 := GW324; have hcz14_0 := zy BK324 0; have hcz14_1 := zy BK324 1; have hfz14_0 := blk_frozen BK324.out 0; have hfz14_1 := blk_frozen BK324.out 1) | ((with_reducible refine gate_callee (f := 52) rfl ?_); refine zc 7 Try.func52 #[.agg #[.int .i64 a0_0, .slice A0_1 l0_1.length c0_1]] ?_; (with_reducible refine (spec_l2Good.calls k a0_0 _ _ l0_1 true _ ?side1 ?side2 A3.out).mono ?_); (case side1 => exact zC (Kd.C_below HR0_1.out HB.out)); (case side2 => exact HC0_1.out); rintro e w15 ⟨rfl, hb⟩; refine ⟨_, rfl, ?_⟩; replace BK324 := zM (blk_below (g := gb324) (o := .cells #[.int .i64 a0_0, .slice A0_1 l0_1.length c0_1] 27 (0, 0)) (zK BK324.out) hb); replace HB := zM (below_step zB hb); (try clear hb); (try clear hb2); (try clear hk); (try clear hi); have hcz16_0 := zy BK324 0; have hcz16_1 := zy BK324 1; have hfz16_0 := blk_frozen BK324.out 0; have hfz16_1 := blk_frozen BK324.out 1) | (go_at_call 63; (with_reducible refine (spec_l1In.calls a1 0 (wrap64 (a0_0 - 1)) false _ A5.out).mono ?_); rintro e w' ⟨rfl, ⟨nd, rfl⟩⟩) | ((with_reducible refine gate_dst (N := 17) rfl ?_); refine Kd.R_lit (Kd.int .i64) _ 3 ?hg (N := 17) ?hd (xs := ([] : List Int)) (inner := []) (ok := fun _ => True) (okp := fun _ => True) ?hr ?hp (fun _ hk => hk) trivial (Below.refl _ _) (Nat.le_refl _) (by simp) ?_; (case hd => rfl); (case hg => rfl); (case hr => first | (go_simp; done) | (go_simp; rfl)); (case hp => exact (Reps.none _ _)); intro v331 w17 ho18 hb hg_ hnew_; clear hg_ hnew_; (first | rw [← Ny330.out] at ho18 | (simp only [Int.reduceToNat] at ho18; rw [← Ny330.out] at ho18)); have HO332 := zM (Kd.R_lower ho18 (below_size zB)); replace BK324 := zM (blk_below (g := gb324) (o := .cells #[.int .i64 a0_0, .slice A0_1 l0_1.length c0_1] 27 (0, 0)) (zK BK324.out) hb); replace HB := zM (below_step zB hb); clear hb ho18))
     go_ret2
     exact ⟨_, by first | rfl | (simp [errW_none, errW_some] <;> rfl) | (simp [*, errW_none, errW_some] <;> rfl), by (with_reducible repeat (first | apply Kd.R_alloc | apply Kd.R_drewN | apply Kd.R_drew)); exact HO332.out, zB⟩
 · replace c4 := Bool.eq_false_iff.mpr c4
   subst c4
   have H1 : (some ((([] : List Int)), false)) = some (r1, r2) := by rw [if_neg (show ¬ (false = true) by decide)] at H; exact H
   clear H
   have H := H1
   clear H1
   obtain ⟨y333, hy333⟩ : ∃ y_ : List Int, y_ = (([] : List Int)) := ⟨_, rfl⟩
   replace H : (some (y333, false)) = some (r1, r2) := by first | (rw [hy333]; with_reducible exact H) | (have H2_ := (Option.bind_some _ _).symm.trans H; rw [hy333]; with_reducible exact H2_) | (have H2_ := (Option.bind_some _ _).symm.trans H; with_reducible exact H2_) | with_reducible exact H | (rw [hy333]; exact H) | exact H
   have Ny333 := Aside0.mk hy333
   clear hy333
   simp only [Option.some.injEq, Prod.mk.injEq] at H
   obtain ⟨rfl, rfl⟩ := H
   go_enter Try.func28, Try.ntmps28
   go_wp2_with (first | ((with_reducible refine gate_dst (N := 2) rfl ?_); refine zb (w := w) 2 #[.int .i64 a0_0, .slice A0_1 l0_1.length c0_1] 27 zB ?_; clear HB; intro gb324 w19 HB BK324 GW324; have GE324 := GW324; have hcz20_0 := zy BK324 0; have hcz20_1 := zy BK324 1; have hfz20_0 := blk_frozen BK324.out 0; have hfz20_1 := blk_frozen BK324.out 1) | ((with_reducible refine gate_callee (f := 52) rfl ?_); refine zc 7 Try.func52 #[.agg #[.int .i64 a0_0, .slice A0_1 l0_1.length c0_1]] ?_; (with_reducible refine (spec_l2Good.calls k a0_0 _ _ l0_1 false _ ?side1 ?side2 A3.out).mono ?_); (case side1 => exact zC (Kd.C_below HR0_1.out HB.out)); (case side2 => exact HC0_1.out); rintro e w21 ⟨rfl, hb⟩; refine ⟨_, rfl, ?_⟩; replace BK324 := zM (blk_below (g := gb324) (o := .cells #[.int .i64 a0_0, .slice A0_1 l0_1.length c0_1] 27 (0, 0)) (zK BK324.out) hb); replace HB := zM (below_step zB hb); (try clear hb); (try clear hb2); (try clear hk); (try clear hi)) | ((with_reducible refine gate_dst (N := 17) rfl ?_); refine Kd.R_lit (Kd.int .i64) _ 3 ?hg (N := 17) ?hd (xs := ([] : List Int)) (inner := []) (ok := fun _ => True) (okp := fun _ => True) ?hr ?hp (fun _ hk => hk) trivial (Below.refl _ _) (Nat.le_refl _) (by simp) ?_; (case hd => rfl); (case hg => rfl); (case hr => first | (go_simp; done) | (go_simp; rfl)); (case hp => exact (Reps.none _ _)); intro v334 w22 ho23 hb hg_ hnew_; clear hg_ hnew_; (first | rw [← Ny333.out] at ho23 | (simp only [Int.reduceToNat] at ho23; rw [← Ny333.out] at ho23)); have HO335 := zM (Kd.R_lower ho23 (below_size zB)); replace BK324 := zM (blk_below (g := gb324) (o := .cells #[.int .i64 a0_0, .slice A0_1 l0_1.length c0_1] 27 (0, 0)) (zK BK324.out) hb); replace HB := zM (below_step zB hb); clear hb ho23))
   go_ret2
   exact ⟨_, by first | rfl | (simp [errW_none, errW_some] <;> rfl) | (simp [*, errW_none, errW_some] <;> rfl), by (with_reducible repeat (first | apply Kd.R_alloc | apply Kd.R_drewN | apply Kd.R_drew)); exact HO335.out, zB⟩

end Go.Proofs.Ytpbngmkhpcgpkaa.P
