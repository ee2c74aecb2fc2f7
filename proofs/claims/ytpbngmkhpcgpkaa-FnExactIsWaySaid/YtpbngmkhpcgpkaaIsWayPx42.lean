-- Written by a program of this session (the kit's print, turned: wip/print/patch.py) out of the translation. Not trusted: Lean checks it.
import Derived.Test.YtpbngmkhpcgpkaaIsWayPx0
import Derived.Test.YtpbngmkhpcgpkaaIsWayPx16
import Derived.Test.YtpbngmkhpcgpkaaIsWayPx17
import Derived.Test.YtpbngmkhpcgpkaaIsWayPx23
import Derived.Test.YtpbngmkhpcgpkaaIsWayPx24
import Derived.Test.YtpbngmkhpcgpkaaIsWayPx26
import Derived.Test.YtpbngmkhpcgpkaaIsWayPx40
import Derived.Test.YtpbngmkhpcgpkaaIsWayPx41
namespace Go.Proofs.Ytpbngmkhpcgpkaa.P
open Go.RowKit Go.Proofs.YtpbngmkhpcgpkaaW.PrintWords Go.Proofs.YtpbngmkhpcgpkaaW.PrintLast Go.Proofs.YtpbngmkhpcgpkaaW.PrintMore
attribute [local go_sem] max2_int min2_int max_two min_two max_three min_three max_four min_four   -- for this text's walks alone
set_option linter.unusedVariables false
set_option linter.unusedSimpArgs false

/-! ### laws_FnExactIsWay: function 14 -/
def laws_FnExactIsWay.j0 : Nat → List Int → List Int → Bool → List (List Int) → List (S68) → List (List Int) → List (S68) → Option (Bool)
 | 0, _, _, _, _, _, _, _ => none
 | k + 1, x1, x9, x45, x863000, x863001, x882000, x882001 => if x45 = true then (some false) else ((laws_toSpace.f k x863000 x863001).bind fun bt887 => ((laws_eqSpace.f k x882000 x882001 bt887.1 bt887.2).bind fun t893 => (if t893 = true then ((laws_toIntS.f k x1).bind fun t894 => ((laws_eqIntS.f k x9 t894).bind fun t897 => (if t897 = true then (some true) else (some false)))) else (some false))))
def laws_FnExactIsWay.f (k : Nat) (l0_0 : List (List Int)) (l0_1 : List (S68)) (l1 : List Int) : Option (Bool) := if (l1.length : Int) > 1048576 then (some true) else ((laws_szSpace.f k l0_0 l0_1 1048576).bind fun t863 => (if t863 < 0 then (some true) else ((laws_toSpace.f k l0_0 l0_1).bind fun bt864 => ((laws_toIntS.f k l1).bind fun t870 => ((spec_IsWay.f k bt864.1 bt864.2 t870).bind fun bt873 => ((laws_toSpace.f k l0_0 l0_1).bind fun bt875 => ((laws_toIntS.f k l1).bind fun t882 => ((impl_IsWay.f k bt875.1 bt875.2 t882).bind fun bt885 => (if (bt885.1 != bt873.1) = true then (laws_FnExactIsWay.j0 k l1 t882 true l0_0 l0_1 bt875.1 bt875.2) else (laws_FnExactIsWay.j0 k l1 t882 (bt885.2 != bt873.2) l0_0 l0_1 bt875.1 bt875.2))))))))))
set_option maxHeartbeats 8000000 in
set_option maxRecDepth 100000 in
theorem laws_FnExactIsWay.calls (k : Nat) (A0_0 : Option Addr) (c0_0 : Nat) (l0_0 : List (List Int)) (A0_1 : Option Addr) (c0_1 : Nat) (l0_1 : List (S68)) (A1 : Option Addr) (c1 : Nat) (l1 : List Int) (r : Bool) (w : World) (hr0_0 : Kd.C (Kd.slice 3 (Kd.int .i64)) w A0_0 l0_0.length l0_0) (hc0_0 : l0_0.length ≤ c0_0) (hr0_1 : Kd.C k68 w A0_1 l0_1.length l0_1) (hc0_1 : l0_1.length ≤ c0_1) (hr1 : Kd.C (Kd.int .i64) w A1 l1.length l1) (hc1 : l1.length ≤ c1) (h : laws_FnExactIsWay.f k l0_0 l0_1 l1 = some r) :
 Calls Try.prog 14 #[.agg #[.slice A0_0 l0_0.length c0_0, .slice A0_1 l0_1.length c0_1], .slice A1 l1.length c1] w fun e w' => e = .returned (.bool r) ∧ Below w.heap.size w w' := by
 have hu47 := Try.underlying47
 have hu50 := Try.underlying50
 have HR0_0 := Aside0.mk hr0_0
 have HC0_0 := Aside0.mk hc0_0
 clear hr0_0 hc0_0
 have HR0_1 := Aside0.mk hr0_1
 have HC0_1 := Aside0.mk hc0_1
 clear hr0_1 hc0_1
 have HR1 := Aside0.mk hr1
 have HC1 := Aside0.mk hc1
 clear hr1 hc1
 have HB := zM (Below.refl w.heap.size w)
 have H : (if (l1.length : Int) > 1048576 then (some true) else ((laws_szSpace.f k l0_0 l0_1 1048576).bind fun t863 => (if t863 < 0 then (some true) else ((laws_toSpace.f k l0_0 l0_1).bind fun bt864 => ((laws_toIntS.f k l1).bind fun t870 => ((spec_IsWay.f k bt864.1 bt864.2 t870).bind fun bt873 => ((laws_toSpace.f k l0_0 l0_1).bind fun bt875 => ((laws_toIntS.f k l1).bind fun t882 => ((impl_IsWay.f k bt875.1 bt875.2 t882).bind fun bt885 => (if (bt885.1 != bt873.1) = true then (laws_FnExactIsWay.j0 k l1 t882 true l0_0 l0_1 bt875.1 bt875.2) else (laws_FnExactIsWay.j0 k l1 t882 (bt885.2 != bt873.2) l0_0 l0_1 bt875.1 bt875.2))))))))))) = some r := h
 clear h
 by_cases c3 : (l1.length : Int) > 1048576
 · rw [if_pos c3] at H
   have c3b0 : decide (1048576 < (l1.length : Int)) = true := decide_eq_true c3
   have c3b1 : decide (1048576 < l1.length) = true := decide_eq_true (by omega)
   clear c3
   obtain rfl := Option.some.inj H
   go_enter Try.func14, Try.ntmps14
   go_wp2_with (first | ((with_reducible refine gate_dst (N := 2) rfl ?_); refine zb (w := w) 2 #[.slice A0_0 l0_0.length c0_0, .slice A0_1 l0_1.length c0_1] 47 zB ?_; clear HB; intro gb862 w4 HB BK862 GW862; have GE862 := GW862))
   go_ret
   exact ⟨by first | rfl | (simp [errW_none, errW_some] <;> rfl) | (simp [*, errW_none, errW_some] <;> rfl), zB⟩
 · rw [if_neg c3] at H
   have c3b0 : decide (1048576 < (l1.length : Int)) = false := decide_eq_false c3
   have c3b1 : decide (1048576 < l1.length) = false := decide_eq_false (by omega)
   clear c3
   replace H := Option.bind_eq_some_iff.mp H
   obtain ⟨t863, A50, H⟩ := H
   have A5 := Aside0.mk A50
   clear A50
   by_cases c6 : t863 < 0
   · rw [if_pos c6] at H
     have c6b0 := decide_eq_true c6
     clear c6
     obtain rfl := Option.some.inj H
     go_enter Try.func14, Try.ntmps14
     go_wp2_with (first | ((with_reducible refine gate_dst (N := 2) rfl ?_); refine zb (w := w) 2 #[.slice A0_0 l0_0.length c0_0, .slice A0_1 l0_1.length c0_1] 47 zB ?_; clear HB; intro gb862 w7 HB BK862 GW862; have GE862 := GW862; have hcz8_0 := zy BK862 0; have hcz8_1 := zy BK862 1; have hfz8_0 := blk_frozen BK862.out 0; have hfz8_1 := blk_frozen BK862.out 1) | ((with_reducible refine gate_callee (f := 34) rfl ?_); refine zc 17 Try.func34 #[.agg #[.slice A0_0 l0_0.length c0_0, .slice A0_1 l0_1.length c0_1], .int .i64 1048576] ?_; (with_reducible refine (laws_szSpace.calls k _ _ l0_0 _ _ l0_1 1048576 t863 _ ?side1 ?side2 ?side3 ?side4 A5.out).mono ?_); (case side1 => exact zC (Kd.C_below HR0_0.out HB.out)); (case side2 => exact HC0_0.out); (case side3 => exact zC (Kd.C_below HR0_1.out HB.out)); (case side4 => exact HC0_1.out); rintro e w9 ⟨rfl, hb⟩; refine ⟨_, rfl, ?_⟩; replace BK862 := zM (blk_below (g := gb862) (o := .cells #[.slice A0_0 l0_0.length c0_0, .slice A0_1 l0_1.length c0_1] 47 (0, 0)) (zK BK862.out) hb); replace HB := zM (below_step zB hb); (try clear hb); (try clear hb2); (try clear hk); (try clear hi)))
     go_ret
     exact ⟨by first | rfl | (simp [errW_none, errW_some] <;> rfl) | (simp [*, errW_none, errW_some] <;> rfl), zB⟩
   · rw [if_neg c6] at H
     have c6b0 : decide (t863 < 0) = false := decide_eq_false c6
     clear c6
     replace H := Option.bind_eq_some_iff.mp H
     obtain ⟨⟨t864, t867⟩, A100, H⟩ := H
     replace H : ((laws_toIntS.f k l1).bind fun t870 => ((spec_IsWay.f k t864 t867 t870).bind fun bt873 => ((laws_toSpace.f k l0_0 l0_1).bind fun bt875 => ((laws_toIntS.f k l1).bind fun t882 => ((impl_IsWay.f k bt875.1 bt875.2 t882).bind fun bt885 => (if (bt885.1 != bt873.1) = true then (laws_FnExactIsWay.j0 k l1 t882 true l0_0 l0_1 bt875.1 bt875.2) else (laws_FnExactIsWay.j0 k l1 t882 (bt885.2 != bt873.2) l0_0 l0_1 bt875.1 bt875.2))))))) = some r := H
     have A10 := Aside0.mk A100
     clear A100
     replace H := Option.bind_eq_some_iff.mp H
     obtain ⟨t870, A110, H⟩ := H
     have A11 := Aside0.mk A110
     clear A110
     replace H := Option.bind_eq_some_iff.mp H
     obtain ⟨⟨t873, t874⟩, A120, H⟩ := H
     replace H : ((laws_toSpace.f k l0_0 l0_1).bind fun bt875 => ((laws_toIntS.f k l1).bind fun t882 => ((impl_IsWay.f k bt875.1 bt875.2 t882).bind fun bt885 => (if (bt885.1 != t873) = true then (laws_FnExactIsWay.j0 k l1 t882 true l0_0 l0_1 bt875.1 bt875.2) else (laws_FnExactIsWay.j0 k l1 t882 (bt885.2 != t874) l0_0 l0_1 bt875.1 bt875.2))))) = some r := H
     have A12 := Aside0.mk A120
     clear A120
     replace H := Option.bind_eq_some_iff.mp H
     obtain ⟨⟨t875, t878⟩, A130, H⟩ := H
     replace H : ((laws_toIntS.f k l1).bind fun t882 => ((impl_IsWay.f k t875 t878 t882).bind fun bt885 => (if (bt885.1 != t873) = true then (laws_FnExactIsWay.j0 k l1 t882 true l0_0 l0_1 t875 t878) else (laws_FnExactIsWay.j0 k l1 t882 (bt885.2 != t874) l0_0 l0_1 t875 t878)))) = some r := H
     have A13 := Aside0.mk A130
     clear A130
     replace H := Option.bind_eq_some_iff.mp H
     obtain ⟨t882, A140, H⟩ := H
     have A14 := Aside0.mk A140
     clear A140
     replace H := Option.bind_eq_some_iff.mp H
     obtain ⟨⟨t885, t886⟩, A150, H⟩ := H
     replace H : (if (t885 != t873) = true then (laws_FnExactIsWay.j0 k l1 t882 true l0_0 l0_1 t875 t878) else (laws_FnExactIsWay.j0 k l1 t882 (t886 != t874) l0_0 l0_1 t875 t878)) = some r := H
     have A15 := Aside0.mk A150
     clear A150
     have HC16 := Aside0.mk H
     clear H
     go_enter Try.func14, Try.ntmps14
     go_upto_region 11 with (first | ((with_reducible refine gate_dst (N := 2) rfl ?_); refine zb (w := w) 2 #[.slice A0_0 l0_0.length c0_0, .slice A0_1 l0_1.length c0_1] 47 zB ?_; clear HB; intro gb862 w17 HB BK862 GW862; have GE862 := GW862; have hcz18_0 := zy BK862 0; have hcz18_1 := zy BK862 1; have hfz18_0 := blk_frozen BK862.out 0; have hfz18_1 := blk_frozen BK862.out 1) | ((with_reducible refine gate_callee (f := 34) rfl ?_); refine zc 17 Try.func34 #[.agg #[.slice A0_0 l0_0.length c0_0, .slice A0_1 l0_1.length c0_1], .int .i64 1048576] ?_; (with_reducible refine (laws_szSpace.calls k _ _ l0_0 _ _ l0_1 1048576 t863 _ ?side1 ?side2 ?side3 ?side4 A5.out).mono ?_); (case side1 => exact zC (Kd.C_below HR0_0.out HB.out)); (case side2 => exact HC0_0.out); (case side3 => exact zC (Kd.C_below HR0_1.out HB.out)); (case side4 => exact HC0_1.out); rintro e w19 ⟨rfl, hb⟩; refine ⟨_, rfl, ?_⟩; replace BK862 := zM (blk_below (g := gb862) (o := .cells #[.slice A0_0 l0_0.length c0_0, .slice A0_1 l0_1.length c0_1] 47 (0, 0)) (zK BK862.out) hb); replace HB := zM (below_step zB hb); (try clear hb); (try clear hb2); (try clear hk); (try clear hi); have hcz20_0 := zy BK862 0; have hcz20_1 := zy BK862 1; have hfz20_0 := blk_frozen BK862.out 0; have hfz20_1 := blk_frozen BK862.out 1) | ((with_reducible refine gate_callee (f := 36) rfl ?_); refine zc 22 Try.func36 #[.agg #[.slice A0_0 l0_0.length c0_0, .slice A0_1 l0_1.length c0_1]] ?_; (with_reducible refine (laws_toSpace.calls k _ _ l0_0 _ _ l0_1 t864 t867 _ ?side1 ?side2 ?side3 ?side4 A10.out).mono ?_); (case side1 => exact zC (Kd.C_below HR0_0.out HB.out)); (case side2 => exact HC0_0.out); (case side3 => exact zC (Kd.C_below HR0_1.out HB.out)); (case side4 => exact HC0_1.out); rintro e w21 ⟨v865, v868, rfl, ho0, ho1, hb⟩; refine ⟨_, rfl, ?_⟩; have HO866 := zM (Kd.S_lower ho0 (below_size zB)); have HO869 := zM (Kd.R_lower ho1 (below_size zB)); replace BK862 := zM (blk_below (g := gb862) (o := .cells #[.slice A0_0 l0_0.length c0_0, .slice A0_1 l0_1.length c0_1] 47 (0, 0)) (zK BK862.out) hb); replace HB := zM (below_step zB hb); (try clear hb); (try clear hb2); (try clear hk); (try clear hi); (try clear ho0); (try clear ho1)) | ((with_reducible refine gate_callee (f := 25) rfl ?_); refine zc 24 Try.func25 #[.slice A1 l1.length c1] ?_; (with_reducible refine (laws_toIntS.calls k _ _ l1 t870 _ ?side1 ?side2 A11.out).mono ?_); (case side1 => exact zC (Kd.C_below HR1.out HB.out)); (case side2 => exact HC1.out); rintro e w22 ⟨v871, rfl, ho0, hb⟩; refine ⟨_, rfl, ?_⟩; replace HO866 := zM (Kd.S_elder' (by (with_reducible repeat (first | apply Kd.S_alloc | apply Kd.S_drewN | apply Kd.S_drew)); exact HO866.out) (Kd.R_base ho0) hb); replace HO869 := zM (Kd.R_below (zR HO869.out) hb); have HO872 := zM (Kd.R_lower ho0 (below_size zB)); replace BK862 := zM (blk_below (g := gb862) (o := .cells #[.slice A0_0 l0_0.length c0_0, .slice A0_1 l0_1.length c0_1] 47 (0, 0)) (zK BK862.out) hb); replace HB := zM (below_step zB hb); (try clear hb); (try clear hb2); (try clear hk); (try clear hi); (try clear ho0); obtain ⟨Ao23, co23, eo23⟩ := Kd.S_slice HO866.out; subst eo23; obtain ⟨Ao24, co24, eo24⟩ := Kd.R_slice HO869.out; subst eo24; obtain ⟨Ao25, co25, eo25⟩ := Kd.R_slice HO872.out; subst eo25) | ((with_reducible refine gate_callee (f := 49) rfl ?_); refine zc 25 Try.func49 #[.agg #[.slice Ao23 t864.length co23, .slice Ao24 t867.length co24], .slice Ao25 t870.length co25] ?_; (with_reducible refine (spec_IsWay.calls k _ _ t864 _ _ t867 _ _ t870 t873 t874 _ ?side1 ?side2 ?side3 ?side4 ?side5 ?side6 A12.out).mono ?_); (case side1 => exact zC (Kd.S_reads' HO866.out).2.2); (case side2 => exact (Kd.S_reads' HO866.out).2.1); (case side3 => exact zC (Kd.R_reads' HO869.out).2.2); (case side4 => exact (Kd.R_reads' HO869.out).2.1); (case side5 => exact zC (Kd.R_reads' HO872.out).2.2); (case side6 => exact (Kd.R_reads' HO872.out).2.1); rintro e w26 ⟨rfl, hb⟩; refine ⟨_, rfl, ?_⟩; replace HO866 := zM (Kd.S_below (by (with_reducible repeat (first | apply Kd.S_alloc | apply Kd.S_drewN | apply Kd.S_drew)); exact HO866.out) hb); replace HO869 := zM (Kd.R_below (zR HO869.out) hb); replace HO872 := zM (Kd.R_below (zR HO872.out) hb); replace BK862 := zM (blk_below (g := gb862) (o := .cells #[.slice A0_0 l0_0.length c0_0, .slice A0_1 l0_1.length c0_1] 47 (0, 0)) (zK BK862.out) hb); replace HB := zM (below_step zB hb); (try clear hb); (try clear hb2); (try clear hk); (try clear hi); have hcz27_0 := zy BK862 0; have hcz27_1 := zy BK862 1; have hfz27_0 := blk_frozen BK862.out 0; have hfz27_1 := blk_frozen BK862.out 1) | ((with_reducible refine gate_callee (f := 36) rfl ?_); refine zc 29 Try.func36 #[.agg #[.slice A0_0 l0_0.length c0_0, .slice A0_1 l0_1.length c0_1]] ?_; (with_reducible refine (laws_toSpace.calls k _ _ l0_0 _ _ l0_1 t875 t878 _ ?side1 ?side2 ?side3 ?side4 A13.out).mono ?_); (case side1 => exact zC (Kd.C_below HR0_0.out HB.out)); (case side2 => exact HC0_0.out); (case side3 => exact zC (Kd.C_below HR0_1.out HB.out)); (case side4 => exact HC0_1.out); rintro e w28 ⟨v876, v879, rfl, ho0, ho1, hb⟩; refine ⟨_, rfl, ?_⟩; have HO877 := zM (Kd.S_lower (Kd.S_new' (Kd.S_new' ho0 (Kd.S_lt (by (with_reducible repeat (first | apply Kd.S_alloc | apply Kd.S_drewN | apply Kd.S_drew)); exact HO866.out))) (Kd.R_lt (zR HO872.out))) (below_size zB)); replace HO866 := zM (Kd.S_elder' (by (with_reducible repeat (first | apply Kd.S_alloc | apply Kd.S_drewN | apply Kd.S_drew)); exact HO866.out) (Kd.S_base ho0) hb); replace HO872 := zM (Kd.R_below (zR HO872.out) hb); have HO880 := zM (Kd.R_lower (Kd.R_new' ho1 (Kd.R_lt (zR HO869.out))) (below_size zB)); replace HO869 := zM (Kd.R_elder' (zR HO869.out) (Kd.R_base ho1) hb); replace BK862 := zM (blk_below (g := gb862) (o := .cells #[.slice A0_0 l0_0.length c0_0, .slice A0_1 l0_1.length c0_1] 47 (0, 0)) (zK BK862.out) hb); replace HB := zM (below_step zB hb); (try clear hb); (try clear hb2); (try clear hk); (try clear hi); (try clear ho0); (try clear ho1)) | ((with_reducible refine gate_dst (N := 8) rfl ?_); refine ze 8 #[.slice none 0 0, .slice none 0 0] 50 ?_; intro gb881 hg w29 hbox hb; replace HO866 := zM (Kd.S_below (by (with_reducible repeat (first | apply Kd.S_alloc | apply Kd.S_drewN | apply Kd.S_drew)); exact HO866.out) hb); replace HO869 := zM (Kd.R_below (zR HO869.out) hb); replace HO872 := zM (Kd.R_below (zR HO872.out) hb); replace HO877 := zM (Kd.S_below (by (with_reducible repeat (first | apply Kd.S_alloc | apply Kd.S_drewN | apply Kd.S_drew)); exact HO877.out) hb); replace HO880 := zM (Kd.R_below (zR HO880.out) hb); have BK881 := zM (hbox); have GW881 := zM ((by rw [hg]; exact (below_size zB) : w.heap.size ≤ gb881)); have GE881 := zM ((by rw [hg]; exact (below_size zB) : w.heap.size ≤ gb881)); replace HB := zM (below_step zB hb); have NB862_881 := zM ((by rw [hg]; exact Nat.ne_of_lt (blk_lt (g := gb862) (o := .cells #[.slice A0_0 l0_0.length c0_0, .slice A0_1 l0_1.length c0_1] 47 (0, 0)) (zK BK862.out)) : gb862 ≠ gb881)); have NB881_862 := zM ((by rw [hg]; exact Nat.ne_of_gt (blk_lt (g := gb862) (o := .cells #[.slice A0_0 l0_0.length c0_0, .slice A0_1 l0_1.length c0_1] 47 (0, 0)) (zK BK862.out)) : gb881 ≠ gb862)); replace BK862 := zM (blk_below (g := gb862) (o := .cells #[.slice A0_0 l0_0.length c0_0, .slice A0_1 l0_1.length c0_1] 47 (0, 0)) (zK BK862.out) hb); clear hb hbox hg; obtain ⟨Ao30, co30, eo30⟩ := Kd.S_slice HO877.out; subst eo30; have hnb31 := NB881_862.out; have hnc31 := NB862_881.out; have hcz32_0 := zy BK881 0; have hcz32_1 := zy BK881 1; have hfz32_0 := blk_frozen BK881.out 0; have hfz32_1 := blk_frozen BK881.out 1; obtain ⟨Ao33, co33, eo33⟩ := Kd.R_slice HO880.out; subst eo33) | ((with_reducible refine gate_callee (f := 25) rfl ?_); refine zc 31 Try.func25 #[.slice A1 l1.length c1] ?_; (with_reducible refine (laws_toIntS.calls k _ _ l1 t882 _ ?side1 ?side2 A14.out).mono ?_); (case side1 => exact Kd.C_below HR1.out zB); (case side2 => exact HC1.out); rintro e w34 ⟨v883, rfl, ho0, hb⟩; refine ⟨_, rfl, ?_⟩; replace HO866 := zM (Kd.S_elder' (by (with_reducible repeat (first | apply Kd.S_alloc | apply Kd.S_drewN | apply Kd.S_drew)); exact (Kd.S_mono (Kd.S_far (p := ⟨gb881, 1, none⟩) (Kd.S_far (p := ⟨gb881, 0, none⟩) (Kd.S_types HO866.out BK881.out (by decide)) (fun _ hk => hk.2) (.slice Ao30 t875.length co30)) (fun _ hk => hk.2) (.slice Ao33 t878.length co33)) (fun _ h_ => h_.1))) (Kd.R_base ho0) hb); replace HO869 := zM (Kd.R_below (by (with_reducible repeat (first | apply Kd.R_alloc | apply Kd.R_drewN | apply Kd.R_drew)); exact (Kd.R_mono (Kd.R_far (p := ⟨gb881, 1, none⟩) (Kd.R_far (p := ⟨gb881, 0, none⟩) (Kd.R_types HO869.out BK881.out (by decide)) (fun _ hk => hk.2) (.slice Ao30 t875.length co30)) (fun _ hk => hk.2) (.slice Ao33 t878.length co33)) (fun _ h_ => h_.1))) hb); replace HO877 := zM (Kd.S_elder' (by (with_reducible repeat (first | apply Kd.S_alloc | apply Kd.S_drewN | apply Kd.S_drew)); exact (Kd.S_mono (Kd.S_far (p := ⟨gb881, 1, none⟩) (Kd.S_far (p := ⟨gb881, 0, none⟩) (Kd.S_types HO877.out BK881.out (by decide)) (fun _ hk => hk.2) (.slice Ao30 t875.length co30)) (fun _ hk => hk.2) (.slice Ao33 t878.length co33)) (fun _ h_ => h_.1))) (Kd.R_base ho0) hb); replace HO880 := zM (Kd.R_below (by (with_reducible repeat (first | apply Kd.R_alloc | apply Kd.R_drewN | apply Kd.R_drew)); exact (Kd.R_mono (Kd.R_far (p := ⟨gb881, 1, none⟩) (Kd.R_far (p := ⟨gb881, 0, none⟩) (Kd.R_types HO880.out BK881.out (by decide)) (fun _ hk => hk.2) (.slice Ao30 t875.length co30)) (fun _ hk => hk.2) (.slice Ao33 t878.length co33)) (fun _ h_ => h_.1))) hb); have HO884 := zM (Kd.R_lower (Kd.R_new' ho0 (Kd.R_lt (by (with_reducible repeat (first | apply Kd.R_alloc | apply Kd.R_drewN | apply Kd.R_drew)); exact (Kd.R_mono (Kd.R_far (p := ⟨gb881, 1, none⟩) (Kd.R_far (p := ⟨gb881, 0, none⟩) (Kd.R_types HO872.out BK881.out (by decide)) (fun _ hk => hk.2) (.slice Ao30 t875.length co30)) (fun _ hk => hk.2) (.slice Ao33 t878.length co33)) (fun _ h_ => h_.1))))) (below_size zB)); replace HO872 := zM (Kd.R_elder' (by (with_reducible repeat (first | apply Kd.R_alloc | apply Kd.R_drewN | apply Kd.R_drew)); exact (Kd.R_mono (Kd.R_far (p := ⟨gb881, 1, none⟩) (Kd.R_far (p := ⟨gb881, 0, none⟩) (Kd.R_types HO872.out BK881.out (by decide)) (fun _ hk => hk.2) (.slice Ao30 t875.length co30)) (fun _ hk => hk.2) (.slice Ao33 t878.length co33)) (fun _ h_ => h_.1))) (Kd.R_base ho0) hb); replace BK862 := zM (blk_below (g := gb862) (o := .cells #[.slice A0_0 l0_0.length c0_0, .slice A0_1 l0_1.length c0_1] 47 (0, 0)) (by (with_reducible repeat (first | refine blk_drewN ?_ _ | refine blk_drew ?_ | refine blk_alloc ?_ _)); refine blk_far ?_ NB862_881.out _; (with_reducible repeat (first | refine blk_drewN ?_ _ | refine blk_drew ?_ | refine blk_alloc ?_ _)); refine blk_far ?_ NB862_881.out _; (with_reducible repeat (first | refine blk_drewN ?_ _ | refine blk_drew ?_ | refine blk_alloc ?_ _)); exact BK862.out) hb); replace BK881 := zM (blk_below (g := gb881) (o := .cells #[.slice Ao30 t875.length co30, .slice Ao33 t878.length co33] 50 (0, 0)) (by (with_reducible repeat (first | refine blk_drewN ?_ _ | refine blk_drew ?_ | refine blk_alloc ?_ _)); refine blk_put (cs := #[.slice Ao30 t875.length co30, .slice none 0 0]) ?_ 1 _ rfl; (with_reducible repeat (first | refine blk_drewN ?_ _ | refine blk_drew ?_ | refine blk_alloc ?_ _)); refine blk_put (cs := #[.slice none 0 0, .slice none 0 0]) ?_ 0 _ rfl; (with_reducible repeat (first | refine blk_drewN ?_ _ | refine blk_drew ?_ | refine blk_alloc ?_ _)); exact BK881.out) hb); replace HB := zM (below_step zB hb); (try clear hb); (try clear hb2); (try clear hk); (try clear hi); (try clear ho0); have hcz35_0 := zy BK881 0; have hcz35_1 := zy BK881 1; have hfz35_0 := blk_frozen BK881.out 0; have hfz35_1 := blk_frozen BK881.out 1; obtain ⟨Ao36, co36, eo36⟩ := Kd.R_slice HO884.out; subst eo36) | ((with_reducible refine gate_callee (f := 50) rfl ?_); refine zc 35 Try.func50 #[.agg #[.slice Ao30 t875.length co30, .slice Ao33 t878.length co33], .slice Ao36 t882.length co36] ?_; (with_reducible refine (impl_IsWay.calls k _ _ t875 _ _ t878 _ _ t882 t885 t886 _ ?side1 ?side2 ?side3 ?side4 ?side5 ?side6 A15.out).mono ?_); (case side1 => exact zC (Kd.S_reads' HO877.out).2.2); (case side2 => exact (Kd.S_reads' HO877.out).2.1); (case side3 => exact zC (Kd.R_reads' HO880.out).2.2); (case side4 => exact (Kd.R_reads' HO880.out).2.1); (case side5 => exact zC (Kd.R_reads' HO884.out).2.2); (case side6 => exact (Kd.R_reads' HO884.out).2.1); rintro e w37 ⟨rfl, hb⟩; refine ⟨_, rfl, ?_⟩; replace HO866 := zM (Kd.S_below (by (with_reducible repeat (first | apply Kd.S_alloc | apply Kd.S_drewN | apply Kd.S_drew)); exact HO866.out) hb); replace HO869 := zM (Kd.R_below (zR HO869.out) hb); replace HO872 := zM (Kd.R_below (zR HO872.out) hb); replace HO877 := zM (Kd.S_below (by (with_reducible repeat (first | apply Kd.S_alloc | apply Kd.S_drewN | apply Kd.S_drew)); exact HO877.out) hb); replace HO880 := zM (Kd.R_below (zR HO880.out) hb); replace HO884 := zM (Kd.R_below (zR HO884.out) hb); replace BK862 := zM (blk_below (g := gb862) (o := .cells #[.slice A0_0 l0_0.length c0_0, .slice A0_1 l0_1.length c0_1] 47 (0, 0)) (zK BK862.out) hb); replace BK881 := zM (blk_below (g := gb881) (o := .cells #[.slice Ao30 t875.length co30, .slice Ao33 t878.length co33] 50 (0, 0)) (zK BK881.out) hb); replace HB := zM (below_step zB hb); (try clear hb); (try clear hb2); (try clear hk); (try clear hi)))
     (try simp only [Act.put, List.setIfInBounds_toArray, List.set_cons_zero, List.set_cons_succ])
     go_cut [45] (fun v45 wc => ∃ (kq : Nat) (x45_15 : Bool), v45 = .bool x45_15 ∧ Aside0 (laws_FnExactIsWay.j0 kq l1 t882 x45_15 l0_0 l0_1 t875 t878 = some r) ∧ Aside0 (kq ≤ k) ∧ Aside0 (Kd.R (Kd.int .i64) 3 wc w.heap.size (fun _ => True) (.slice Ao36 t882.length co36) t882) ∧ Aside0 (Kd.S (Kd.slice 3 (Kd.int .i64)) 34 wc w.heap.size (fun k_ => some k_ ≠ ((.slice Ao36 t882.length co36) : Value).ownBlock) (.slice Ao30 t875.length co30) t875) ∧ Aside0 (Kd.R k68 68 wc w.heap.size (fun _ => True) (.slice Ao33 t878.length co33) t878) ∧ Aside0 (wc.heap[gb862]? = some (.cells #[(.slice A0_0 l0_0.length c0_0), (.slice A0_1 l0_1.length c0_1)] 47 (0, 0))) ∧ Aside0 (wc.heap[gb881]? = some (.cells #[(.slice Ao30 t875.length co30), (.slice Ao33 t878.length co33)] 50 (0, 0))) ∧ Aside0 (Below w.heap.size w wc))
     case first =>
      have H := HC16.out
      clear HC16
      by_cases c38 : (t885 != t873) = true
      · rw [if_pos c38] at H
        have c38b0 : (t885 != t873) = true := c38
        (try (have c38b1 : decide (t885 = t873) = false := by simpa using c38))
        (try (have c38b2 : (t885 == t873) = false := by simpa using c38))
        (try (have c38b3 : ¬ (t885 = t873) := by simpa using c38))
        clear c38
        (first | rw [c38b0] | (simp only [i64_w, i32_w]; rw [c38b0]) | skip)
        have H' := Aside0.mk H
        clear H
        go_wp2
        go_meet
        case rel => exact ⟨_, (true), (by first | rfl | (simp; done) | (simp [*]; done)), H', ⟨by first | omega | exact Nat.le_refl _⟩, ⟨by (with_reducible repeat (first | apply Kd.R_alloc | apply Kd.R_drewN | apply Kd.R_drew)); exact Kd.R_mono HO884.out (fun _ hk => trivial)⟩, ⟨by (with_reducible repeat (first | apply Kd.S_alloc | apply Kd.S_drewN | apply Kd.S_drew)); exact Kd.S_mono HO877.out (fun _ hk => hk.2)⟩, ⟨by (with_reducible repeat (first | apply Kd.R_alloc | apply Kd.R_drewN | apply Kd.R_drew)); exact Kd.R_mono HO880.out (fun _ hk => trivial)⟩, ⟨zK BK862.out⟩, ⟨zK BK881.out⟩, ⟨zB⟩⟩
      · rw [if_neg c38] at H
        have c38b0 : (t885 != t873) = false := by simpa using c38
        (try (have c38b1 : decide (t885 = t873) = true := by simpa using c38))
        (try (have c38b2 : (t885 == t873) = true := by simpa using c38))
        clear c38
        (first | rw [c38b0] | (simp only [i64_w, i32_w]; rw [c38b0]) | skip)
        have H' := Aside0.mk H
        clear H
        go_wp2
        go_meet
        case rel => exact ⟨_, ((t886 != t874)), (by first | rfl | (simp; done) | (simp [*]; done)), H', ⟨by first | omega | exact Nat.le_refl _⟩, ⟨by (with_reducible repeat (first | apply Kd.R_alloc | apply Kd.R_drewN | apply Kd.R_drew)); exact Kd.R_mono HO884.out (fun _ hk => trivial)⟩, ⟨by (with_reducible repeat (first | apply Kd.S_alloc | apply Kd.S_drewN | apply Kd.S_drew)); exact Kd.S_mono HO877.out (fun _ hk => hk.2)⟩, ⟨by (with_reducible repeat (first | apply Kd.R_alloc | apply Kd.R_drewN | apply Kd.R_drew)); exact Kd.R_mono HO880.out (fun _ hk => trivial)⟩, ⟨zK BK862.out⟩, ⟨zK BK881.out⟩, ⟨zB⟩⟩
     case rest =>
      clear HC16
      try clear c1
      try clear c2
      try clear p2
      try clear c3
      try clear c3b0
      try clear c3b1
      try clear c4
      try clear c5
      try clear c6
      try clear c6b0
      try clear c14
      try clear c25
      try clear c31
      try clear c34
      try clear c36
      try clear c38
      try clear c38b0
      try clear c38b1
      try clear c38b2
      try clear hcz18_0
      try clear hcz18_1
      try clear hcz20_0
      try clear hcz20_1
      try clear hcz27_0
      try clear hcz27_1
      try clear hcz32_0
      try clear hcz32_1
      try clear hcz35_0
      try clear hcz35_1
      try clear hcz8_0
      try clear hcz8_1
      try clear hfz18_0
      try clear hfz18_1
      try clear hfz20_0
      try clear hfz20_1
      try clear hfz27_0
      try clear hfz27_1
      try clear hfz32_0
      try clear hfz32_1
      try clear hfz35_0
      try clear hfz35_1
      try clear hfz8_0
      try clear hfz8_1
      obtain ⟨kq, x45_15, rfl, HA, HJ15, HO_9, HO_882000, HO_882001, BK862, BK881, HB⟩ := hcut
      cases kq with
      | zero => exact absurd HA.out (by simp [laws_FnExactIsWay.j0])
      | succ kj15 =>
       have H := HA.out
       clear HA
       simp only [laws_FnExactIsWay.j0] at H
       by_cases c39 : x45_15 = true
       · subst c39
         rw [if_pos rfl] at H
         obtain rfl := Option.some.inj H
         go_wp2
         go_ret
         exact ⟨by first | rfl | (simp [errW_none, errW_some] <;> rfl) | (simp [*, errW_none, errW_some] <;> rfl), zB⟩
       · replace c39 := Bool.eq_false_iff.mpr c39
         subst c39
         have H1 : ((laws_toSpace.f kj15 l0_0 l0_1).bind fun bt887 => ((laws_eqSpace.f kj15 t875 t878 bt887.1 bt887.2).bind fun t893 => (if t893 = true then ((laws_toIntS.f kj15 l1).bind fun t894 => ((laws_eqIntS.f kj15 t882 t894).bind fun t897 => (if t897 = true then (some true) else (some false)))) else (some false)))) = some r := by rw [if_neg (show ¬ (false = true) by decide)] at H; exact H
         clear H
         have H := H1
         clear H1
         replace H := Option.bind_eq_some_iff.mp H
         obtain ⟨⟨t887, t890⟩, A400, H⟩ := H
         replace H : ((laws_eqSpace.f kj15 t875 t878 t887 t890).bind fun t893 => (if t893 = true then ((laws_toIntS.f kj15 l1).bind fun t894 => ((laws_eqIntS.f kj15 t882 t894).bind fun t897 => (if t897 = true then (some true) else (some false)))) else (some false))) = some r := H
         have A40 := Aside0.mk A400
         clear A400
         replace H := Option.bind_eq_some_iff.mp H
         obtain ⟨t893, A410, H⟩ := H
         have A41 := Aside0.mk A410
         clear A410
         by_cases c42 : t893 = true
         · subst c42
           rw [if_pos rfl] at H
           replace H := Option.bind_eq_some_iff.mp H
           obtain ⟨t894, A430, H⟩ := H
           have A43 := Aside0.mk A430
           clear A430
           replace H := Option.bind_eq_some_iff.mp H
           obtain ⟨t897, A440, H⟩ := H
           have A44 := Aside0.mk A440
           clear A440
           by_cases c45 : t897 = true
           · subst c45
             rw [if_pos rfl] at H
             obtain rfl := Option.some.inj H
             try go_wp2
             replace HO_9 := zM (Kd.R_drew HO_9.out)
             replace HO_882000 := zM (Kd.S_drew HO_882000.out)
             replace HO_882001 := zM (Kd.R_drew HO_882001.out)
             replace BK862 := zM (blk_drew BK862.out)
             replace BK881 := zM (blk_drew BK881.out)
             replace HB := zM (below_drew1 HB.out)
             refine zs (n := 5) (fun w' => w'.cell? ⟨gb881, 0, none⟩ = some (.slice Ao30 t875.length co30) ∧ w'.cell? ⟨gb881, 1, none⟩ = some (.slice Ao33 t878.length co33) ∧ w'.cell? ⟨gb862, 0, none⟩ = some (.slice A0_0 l0_0.length c0_0) ∧ w'.cell? ⟨gb862, 1, none⟩ = some (.slice A0_1 l0_1.length c0_1)) ⟨(blk_cell BK881.out 0).trans rfl, (blk_cell BK881.out 1).trans rfl, (blk_cell BK862.out 0).trans rfl, (blk_cell BK862.out 1).trans rfl⟩ (fun hHeld => ?_)
             generalize wc.drew = w46 at HO_9 HO_882000 HO_882001 BK862 BK881 HB hHeld ⊢
             refine zl 0 46 hHeld ?_ (hy := by rintro w' ⟨s0, s1, s2, s3⟩; go_simp; with_reducible rfl)
             refine zl 1 47 hHeld ?_ (hy := by rintro w' ⟨s0, s1, s2, s3⟩; go_simp; with_reducible rfl)
             refine zh 2 48 Try.func36 #[.agg #[.slice A0_0 l0_0.length c0_0, .slice A0_1 l0_1.length c0_1]] (fun K hK => ?_)
             with_reducible refine (laws_toSpace.calls kj15 _ _ l0_0 _ _ l0_1 t887 t890 _ ?side1 ?side2 ?side3 ?side4 A40.out).mono ?_
             (case side1 => exact zC (Kd.C_below HR0_0.out HB.out))
             (case side2 => exact HC0_0.out)
             (case side3 => exact zC (Kd.C_below HR0_1.out HB.out))
             (case side4 => exact HC0_1.out)
             rintro e w47 ⟨v888, v891, rfl, ho0, ho1, hb⟩
             refine ⟨_, rfl, ?_⟩
             have HO889 := zM (Kd.S_lower (Kd.S_new' (Kd.S_new' ho0 (Kd.R_lt (zR HO_9.out))) (Kd.S_lt (by (with_reducible repeat (first | apply Kd.S_alloc | apply Kd.S_drewN | apply Kd.S_drew)); exact HO_882000.out))) (below_size zB))
             replace HO_9 := zM (Kd.R_below (zR HO_9.out) hb)
             replace HO_882000 := zM (Kd.S_elder' (by (with_reducible repeat (first | apply Kd.S_alloc | apply Kd.S_drewN | apply Kd.S_drew)); exact HO_882000.out) (Kd.S_base ho0) hb)
             have HO892 := zM (Kd.R_lower (Kd.R_new' ho1 (Kd.R_lt (zR HO_882001.out))) (below_size zB))
             replace HO_882001 := zM (Kd.R_elder' (zR HO_882001.out) (Kd.R_base ho1) hb)
             replace BK862 := zM (blk_below (g := gb862) (o := .cells #[.slice A0_0 l0_0.length c0_0, .slice A0_1 l0_1.length c0_1] 47 (0, 0)) (zK BK862.out) hb)
             replace BK881 := zM (blk_below (g := gb881) (o := .cells #[.slice Ao30 t875.length co30, .slice Ao33 t878.length co33] 50 (0, 0)) (zK BK881.out) hb)
             replace HB := zM (below_step zB hb)
             (try clear hb)
             (try clear hb2)
             (try clear hk)
             (try clear hi)
             (try clear ho0)
             (try clear ho1)
             obtain ⟨Ao48, co48, eo48⟩ := Kd.S_slice HO889.out
             (first | subst eo48 | (injection eo48 with f1_ f2_ f3_; have f4_ := f1_.symm; have f5_ := f3_.symm; clear f1_ f2_ f3_; subst f4_; subst f5_))
             obtain ⟨Ao49, co49, eo49⟩ := Kd.R_slice HO892.out
             (first | subst eo49 | (injection eo49 with f1_ f2_ f3_; have f4_ := f1_.symm; have f5_ := f3_.symm; clear f1_ f2_ f3_; subst f4_; subst f5_))
             refine hK.out _ _ ⟨(blk_cell BK881.out 0).trans rfl, (blk_cell BK881.out 1).trans rfl, (blk_cell BK862.out 0).trans rfl, (blk_cell BK862.out 1).trans rfl⟩ (fun hHeld => ?_)
             clear hK K
             refine zn 48 ?_
             refine zh 3 49 Try.func38 #[.agg #[.slice Ao30 t875.length co30, .slice Ao33 t878.length co33], .agg #[.slice Ao48 t887.length co48, .slice Ao49 t890.length co49]] (fun K hK => ?_)
             with_reducible refine (laws_eqSpace.calls kj15 _ _ t875 _ _ t878 _ _ t887 _ _ t890 true _ ?side1 ?side2 ?side3 ?side4 ?side5 ?side6 ?side7 ?side8 A41.out).mono ?_
             (case side1 => exact zC (Kd.S_reads' HO_882000.out).2.2)
             (case side2 => exact (Kd.S_reads' HO_882000.out).2.1)
             (case side3 => exact zC (Kd.R_reads' HO_882001.out).2.2)
             (case side4 => exact (Kd.R_reads' HO_882001.out).2.1)
             (case side5 => exact zC (Kd.S_reads' HO889.out).2.2)
             (case side6 => exact (Kd.S_reads' HO889.out).2.1)
             (case side7 => exact zC (Kd.R_reads' HO892.out).2.2)
             (case side8 => exact (Kd.R_reads' HO892.out).2.1)
             rintro e w50 ⟨rfl, hb⟩
             refine ⟨_, rfl, ?_⟩
             replace HO_9 := zM (Kd.R_below (zR HO_9.out) hb)
             replace HO_882000 := zM (Kd.S_below (by (with_reducible repeat (first | apply Kd.S_alloc | apply Kd.S_drewN | apply Kd.S_drew)); exact HO_882000.out) hb)
             replace HO_882001 := zM (Kd.R_below (zR HO_882001.out) hb)
             replace HO889 := zM (Kd.S_below (by (with_reducible repeat (first | apply Kd.S_alloc | apply Kd.S_drewN | apply Kd.S_drew)); exact HO889.out) hb)
             replace HO892 := zM (Kd.R_below (zR HO892.out) hb)
             replace BK862 := zM (blk_below (g := gb862) (o := .cells #[.slice A0_0 l0_0.length c0_0, .slice A0_1 l0_1.length c0_1] 47 (0, 0)) (zK BK862.out) hb)
             replace BK881 := zM (blk_below (g := gb881) (o := .cells #[.slice Ao30 t875.length co30, .slice Ao33 t878.length co33] 50 (0, 0)) (zK BK881.out) hb)
             replace HB := zM (below_step zB hb)
             (try clear hb)
             (try clear hb2)
             (try clear hk)
             (try clear hi)
             refine hK.out _ _ ⟨(blk_cell BK881.out 0).trans rfl, (blk_cell BK881.out 1).trans rfl, (blk_cell BK862.out 0).trans rfl, (blk_cell BK862.out 1).trans rfl⟩ (fun hHeld => ?_)
             clear hK K
             refine zn 49 ?_
             refine zq 4 50 ?_
             refine zx ?_
             try go_wp2_with (first | ((with_reducible refine gate_callee (f := 25) rfl ?_); refine zc 53 Try.func25 #[.slice A1 l1.length c1] ?_; (with_reducible refine (laws_toIntS.calls kj15 _ _ l1 t894 _ ?side1 ?side2 A43.out).mono ?_); (case side1 => exact zC (Kd.C_below HR1.out HB.out)); (case side2 => exact HC1.out); rintro e w51 ⟨v895, rfl, ho0, hb⟩; refine ⟨_, rfl, ?_⟩; replace HO_882000 := zM (Kd.S_elder' (by (with_reducible repeat (first | apply Kd.S_alloc | apply Kd.S_drewN | apply Kd.S_drew)); exact HO_882000.out) (Kd.R_base ho0) hb); replace HO_882001 := zM (Kd.R_below (zR HO_882001.out) hb); replace HO889 := zM (Kd.S_elder' (by (with_reducible repeat (first | apply Kd.S_alloc | apply Kd.S_drewN | apply Kd.S_drew)); exact HO889.out) (Kd.R_base ho0) hb); replace HO892 := zM (Kd.R_below (zR HO892.out) hb); have HO896 := zM (Kd.R_lower (Kd.R_new' ho0 (Kd.R_lt (zR HO_9.out))) (below_size zB)); replace HO_9 := zM (Kd.R_elder' (zR HO_9.out) (Kd.R_base ho0) hb); replace BK862 := zM (blk_below (g := gb862) (o := .cells #[.slice A0_0 l0_0.length c0_0, .slice A0_1 l0_1.length c0_1] 47 (0, 0)) (zK BK862.out) hb); replace BK881 := zM (blk_below (g := gb881) (o := .cells #[.slice Ao30 t875.length co30, .slice Ao33 t878.length co33] 50 (0, 0)) (zK BK881.out) hb); replace HB := zM (below_step zB hb); (try clear hb); (try clear hb2); (try clear hk); (try clear hi); (try clear ho0); obtain ⟨Ao52, co52, eo52⟩ := Kd.R_slice HO896.out; subst eo52) | ((with_reducible refine gate_callee (f := 27) rfl ?_); refine zc 54 Try.func27 #[.slice Ao36 t882.length co36, .slice Ao52 t894.length co52] ?_; (with_reducible refine (laws_eqIntS.calls kj15 _ _ t882 _ _ t894 true _ ?side1 ?side2 ?side3 ?side4 A44.out).mono ?_); (case side1 => exact zC (Kd.R_reads' HO_9.out).2.2); (case side2 => exact (Kd.R_reads' HO_9.out).2.1); (case side3 => exact zC (Kd.R_reads' HO896.out).2.2); (case side4 => exact (Kd.R_reads' HO896.out).2.1); rintro e w' ⟨rfl, ⟨nd, rfl⟩⟩; refine ⟨_, rfl, ?_⟩))
             go_ret
             exact ⟨by first | rfl | (simp [errW_none, errW_some] <;> rfl) | (simp [*, errW_none, errW_some] <;> rfl), zB⟩
           · replace c45 := Bool.eq_false_iff.mpr c45
             subst c45
             have H1 : (some false) = some r := by rw [if_neg (show ¬ (false = true) by decide)] at H; exact H
             clear H
             have H := H1
             clear H1
             obtain rfl := Option.some.inj H
             try go_wp2
             replace HO_9 := zM (Kd.R_drew HO_9.out)
             replace HO_882000 := zM (Kd.S_drew HO_882000.out)
             replace HO_882001 := zM (Kd.R_drew HO_882001.out)
             replace BK862 := zM (blk_drew BK862.out)
             replace BK881 := zM (blk_drew BK881.out)
             replace HB := zM (below_drew1 HB.out)
             refine zs (n := 5) (fun w' => w'.cell? ⟨gb881, 0, none⟩ = some (.slice Ao30 t875.length co30) ∧ w'.cell? ⟨gb881, 1, none⟩ = some (.slice Ao33 t878.length co33) ∧ w'.cell? ⟨gb862, 0, none⟩ = some (.slice A0_0 l0_0.length c0_0) ∧ w'.cell? ⟨gb862, 1, none⟩ = some (.slice A0_1 l0_1.length c0_1)) ⟨(blk_cell BK881.out 0).trans rfl, (blk_cell BK881.out 1).trans rfl, (blk_cell BK862.out 0).trans rfl, (blk_cell BK862.out 1).trans rfl⟩ (fun hHeld => ?_)
             generalize wc.drew = w53 at HO_9 HO_882000 HO_882001 BK862 BK881 HB hHeld ⊢
             refine zl 0 46 hHeld ?_ (hy := by rintro w' ⟨s0, s1, s2, s3⟩; go_simp; with_reducible rfl)
             refine zl 1 47 hHeld ?_ (hy := by rintro w' ⟨s0, s1, s2, s3⟩; go_simp; with_reducible rfl)
             refine zh 2 48 Try.func36 #[.agg #[.slice A0_0 l0_0.length c0_0, .slice A0_1 l0_1.length c0_1]] (fun K hK => ?_)
             with_reducible refine (laws_toSpace.calls kj15 _ _ l0_0 _ _ l0_1 t887 t890 _ ?side1 ?side2 ?side3 ?side4 A40.out).mono ?_
             (case side1 => exact zC (Kd.C_below HR0_0.out HB.out))
             (case side2 => exact HC0_0.out)
             (case side3 => exact zC (Kd.C_below HR0_1.out HB.out))
             (case side4 => exact HC0_1.out)
             rintro e w54 ⟨v888, v891, rfl, ho0, ho1, hb⟩
             refine ⟨_, rfl, ?_⟩
             have HO889 := zM (Kd.S_lower (Kd.S_new' (Kd.S_new' ho0 (Kd.R_lt (zR HO_9.out))) (Kd.S_lt (by (with_reducible repeat (first | apply Kd.S_alloc | apply Kd.S_drewN | apply Kd.S_drew)); exact HO_882000.out))) (below_size zB))
             replace HO_9 := zM (Kd.R_below (zR HO_9.out) hb)
             replace HO_882000 := zM (Kd.S_elder' (by (with_reducible repeat (first | apply Kd.S_alloc | apply Kd.S_drewN | apply Kd.S_drew)); exact HO_882000.out) (Kd.S_base ho0) hb)
             have HO892 := zM (Kd.R_lower (Kd.R_new' ho1 (Kd.R_lt (zR HO_882001.out))) (below_size zB))
             replace HO_882001 := zM (Kd.R_elder' (zR HO_882001.out) (Kd.R_base ho1) hb)
             replace BK862 := zM (blk_below (g := gb862) (o := .cells #[.slice A0_0 l0_0.length c0_0, .slice A0_1 l0_1.length c0_1] 47 (0, 0)) (zK BK862.out) hb)
             replace BK881 := zM (blk_below (g := gb881) (o := .cells #[.slice Ao30 t875.length co30, .slice Ao33 t878.length co33] 50 (0, 0)) (zK BK881.out) hb)
             replace HB := zM (below_step zB hb)
             (try clear hb)
             (try clear hb2)
             (try clear hk)
             (try clear hi)
             (try clear ho0)
             (try clear ho1)
             obtain ⟨Ao55, co55, eo55⟩ := Kd.S_slice HO889.out
             (first | subst eo55 | (injection eo55 with f1_ f2_ f3_; have f4_ := f1_.symm; have f5_ := f3_.symm; clear f1_ f2_ f3_; subst f4_; subst f5_))
             obtain ⟨Ao56, co56, eo56⟩ := Kd.R_slice HO892.out
             (first | subst eo56 | (injection eo56 with f1_ f2_ f3_; have f4_ := f1_.symm; have f5_ := f3_.symm; clear f1_ f2_ f3_; subst f4_; subst f5_))
             refine hK.out _ _ ⟨(blk_cell BK881.out 0).trans rfl, (blk_cell BK881.out 1).trans rfl, (blk_cell BK862.out 0).trans rfl, (blk_cell BK862.out 1).trans rfl⟩ (fun hHeld => ?_)
             clear hK K
             refine zn 48 ?_
             refine zh 3 49 Try.func38 #[.agg #[.slice Ao30 t875.length co30, .slice Ao33 t878.length co33], .agg #[.slice Ao55 t887.length co55, .slice Ao56 t890.length co56]] (fun K hK => ?_)
             with_reducible refine (laws_eqSpace.calls kj15 _ _ t875 _ _ t878 _ _ t887 _ _ t890 true _ ?side1 ?side2 ?side3 ?side4 ?side5 ?side6 ?side7 ?side8 A41.out).mono ?_
             (case side1 => exact zC (Kd.S_reads' HO_882000.out).2.2)
             (case side2 => exact (Kd.S_reads' HO_882000.out).2.1)
             (case side3 => exact zC (Kd.R_reads' HO_882001.out).2.2)
             (case side4 => exact (Kd.R_reads' HO_882001.out).2.1)
             (case side5 => exact zC (Kd.S_reads' HO889.out).2.2)
             (case side6 => exact (Kd.S_reads' HO889.out).2.1)
             (case side7 => exact zC (Kd.R_reads' HO892.out).2.2)
             (case side8 => exact (Kd.R_reads' HO892.out).2.1)
             rintro e w57 ⟨rfl, hb⟩
             refine ⟨_, rfl, ?_⟩
             replace HO_9 := zM (Kd.R_below (zR HO_9.out) hb)
             replace HO_882000 := zM (Kd.S_below (by (with_reducible repeat (first | apply Kd.S_alloc | apply Kd.S_drewN | apply Kd.S_drew)); exact HO_882000.out) hb)
             replace HO_882001 := zM (Kd.R_below (zR HO_882001.out) hb)
             replace HO889 := zM (Kd.S_below (by (with_reducible repeat (first | apply Kd.S_alloc | apply Kd.S_drewN | apply Kd.S_drew)); exact HO889.out) hb)
             replace HO892 := zM (Kd.R_below (zR HO892.out) hb)
             replace BK862 := zM (blk_below (g := gb862) (o := .cells #[.slice A0_0 l0_0.length c0_0, .slice A0_1 l0_1.length c0_1] 47 (0, 0)) (zK BK862.out) hb)
             replace BK881 := zM (blk_below (g := gb881) (o := .cells #[.slice Ao30 t875.length co30, .slice Ao33 t878.length co33] 50 (0, 0)) (zK BK881.out) hb)
             replace HB := zM (below_step zB hb)
             (try clear hb)
             (try clear hb2)
             (try clear hk)
             (try clear hi)
             refine hK.out _ _ ⟨(blk_cell BK881.out 0).trans rfl, (blk_cell BK881.out 1).trans rfl, (blk_cell BK862.out 0).trans rfl, (blk_cell BK862.out 1).trans rfl⟩ (fun hHeld => ?_)
             clear hK K
             refine zn 49 ?_
             refine zq 4 50 ?_
             refine zx ?_
             try go_wp2_with (first | ((with_reducible refine gate_callee (f := 25) rfl ?_); refine zc 53 Try.func25 #[.slice A1 l1.length c1] ?_; (with_reducible refine (laws_toIntS.calls kj15 _ _ l1 t894 _ ?side1 ?side2 A43.out).mono ?_); (case side1 => exact zC (Kd.C_below HR1.out HB.out)); (case side2 => exact HC1.out); rintro e w58 ⟨v895, rfl, ho0, hb⟩; refine ⟨_, rfl, ?_⟩; replace HO_882000 := zM (Kd.S_elder' (by (with_reducible repeat (first | apply Kd.S_alloc | apply Kd.S_drewN | apply Kd.S_drew)); exact HO_882000.out) (Kd.R_base ho0) hb); replace HO_882001 := zM (Kd.R_below (zR HO_882001.out) hb); replace HO889 := zM (Kd.S_elder' (by (with_reducible repeat (first | apply Kd.S_alloc | apply Kd.S_drewN | apply Kd.S_drew)); exact HO889.out) (Kd.R_base ho0) hb); replace HO892 := zM (Kd.R_below (zR HO892.out) hb); have HO896 := zM (Kd.R_lower (Kd.R_new' ho0 (Kd.R_lt (zR HO_9.out))) (below_size zB)); replace HO_9 := zM (Kd.R_elder' (zR HO_9.out) (Kd.R_base ho0) hb); replace BK862 := zM (blk_below (g := gb862) (o := .cells #[.slice A0_0 l0_0.length c0_0, .slice A0_1 l0_1.length c0_1] 47 (0, 0)) (zK BK862.out) hb); replace BK881 := zM (blk_below (g := gb881) (o := .cells #[.slice Ao30 t875.length co30, .slice Ao33 t878.length co33] 50 (0, 0)) (zK BK881.out) hb); replace HB := zM (below_step zB hb); (try clear hb); (try clear hb2); (try clear hk); (try clear hi); (try clear ho0); obtain ⟨Ao59, co59, eo59⟩ := Kd.R_slice HO896.out; subst eo59) | ((with_reducible refine gate_callee (f := 27) rfl ?_); refine zc 54 Try.func27 #[.slice Ao36 t882.length co36, .slice Ao59 t894.length co59] ?_; (with_reducible refine (laws_eqIntS.calls kj15 _ _ t882 _ _ t894 false _ ?side1 ?side2 ?side3 ?side4 A44.out).mono ?_); (case side1 => exact zC (Kd.R_reads' HO_9.out).2.2); (case side2 => exact (Kd.R_reads' HO_9.out).2.1); (case side3 => exact zC (Kd.R_reads' HO896.out).2.2); (case side4 => exact (Kd.R_reads' HO896.out).2.1); rintro e w' ⟨rfl, ⟨nd, rfl⟩⟩; refine ⟨_, rfl, ?_⟩))
             go_ret
             exact ⟨by first | rfl | (simp [errW_none, errW_some] <;> rfl) | (simp [*, errW_none, errW_some] <;> rfl), zB⟩
         · replace c42 := Bool.eq_false_iff.mpr c42
           subst c42
           have H1 : (some false) = some r := by rw [if_neg (show ¬ (false = true) by decide)] at H; exact H
           clear H
           have H := H1
           clear H1
           obtain rfl := Option.some.inj H
           try go_wp2
           replace HO_9 := zM (Kd.R_drew HO_9.out)
           replace HO_882000 := zM (Kd.S_drew HO_882000.out)
           replace HO_882001 := zM (Kd.R_drew HO_882001.out)
           replace BK862 := zM (blk_drew BK862.out)
           replace BK881 := zM (blk_drew BK881.out)
           replace HB := zM (below_drew1 HB.out)
           refine zs (n := 5) (fun w' => w'.cell? ⟨gb881, 0, none⟩ = some (.slice Ao30 t875.length co30) ∧ w'.cell? ⟨gb881, 1, none⟩ = some (.slice Ao33 t878.length co33) ∧ w'.cell? ⟨gb862, 0, none⟩ = some (.slice A0_0 l0_0.length c0_0) ∧ w'.cell? ⟨gb862, 1, none⟩ = some (.slice A0_1 l0_1.length c0_1)) ⟨(blk_cell BK881.out 0).trans rfl, (blk_cell BK881.out 1).trans rfl, (blk_cell BK862.out 0).trans rfl, (blk_cell BK862.out 1).trans rfl⟩ (fun hHeld => ?_)
           generalize wc.drew = w60 at HO_9 HO_882000 HO_882001 BK862 BK881 HB hHeld ⊢
           refine zl 0 46 hHeld ?_ (hy := by rintro w' ⟨s0, s1, s2, s3⟩; go_simp; with_reducible rfl)
           refine zl 1 47 hHeld ?_ (hy := by rintro w' ⟨s0, s1, s2, s3⟩; go_simp; with_reducible rfl)
           refine zh 2 48 Try.func36 #[.agg #[.slice A0_0 l0_0.length c0_0, .slice A0_1 l0_1.length c0_1]] (fun K hK => ?_)
           with_reducible refine (laws_toSpace.calls kj15 _ _ l0_0 _ _ l0_1 t887 t890 _ ?side1 ?side2 ?side3 ?side4 A40.out).mono ?_
           (case side1 => exact zC (Kd.C_below HR0_0.out HB.out))
           (case side2 => exact HC0_0.out)
           (case side3 => exact zC (Kd.C_below HR0_1.out HB.out))
           (case side4 => exact HC0_1.out)
           rintro e w61 ⟨v888, v891, rfl, ho0, ho1, hb⟩
           refine ⟨_, rfl, ?_⟩
           have HO889 := zM (Kd.S_lower (Kd.S_new' (Kd.S_new' ho0 (Kd.R_lt (zR HO_9.out))) (Kd.S_lt (by (with_reducible repeat (first | apply Kd.S_alloc | apply Kd.S_drewN | apply Kd.S_drew)); exact HO_882000.out))) (below_size zB))
           replace HO_9 := zM (Kd.R_below (zR HO_9.out) hb)
           replace HO_882000 := zM (Kd.S_elder' (by (with_reducible repeat (first | apply Kd.S_alloc | apply Kd.S_drewN | apply Kd.S_drew)); exact HO_882000.out) (Kd.S_base ho0) hb)
           have HO892 := zM (Kd.R_lower (Kd.R_new' ho1 (Kd.R_lt (zR HO_882001.out))) (below_size zB))
           replace HO_882001 := zM (Kd.R_elder' (zR HO_882001.out) (Kd.R_base ho1) hb)
           replace BK862 := zM (blk_below (g := gb862) (o := .cells #[.slice A0_0 l0_0.length c0_0, .slice A0_1 l0_1.length c0_1] 47 (0, 0)) (zK BK862.out) hb)
           replace BK881 := zM (blk_below (g := gb881) (o := .cells #[.slice Ao30 t875.length co30, .slice Ao33 t878.length co33] 50 (0, 0)) (zK BK881.out) hb)
           replace HB := zM (below_step zB hb)
           (try clear hb)
           (try clear hb2)
           (try clear hk)
           (try clear hi)
           (try clear ho0)
           (try clear ho1)
           obtain ⟨Ao62, co62, eo62⟩ := Kd.S_slice HO889.out
           (first | subst eo62 | (injection eo62 with f1_ f2_ f3_; have f4_ := f1_.symm; have f5_ := f3_.symm; clear f1_ f2_ f3_; subst f4_; subst f5_))
           obtain ⟨Ao63, co63, eo63⟩ := Kd.R_slice HO892.out
           (first | subst eo63 | (injection eo63 with f1_ f2_ f3_; have f4_ := f1_.symm; have f5_ := f3_.symm; clear f1_ f2_ f3_; subst f4_; subst f5_))
           refine hK.out _ _ ⟨(blk_cell BK881.out 0).trans rfl, (blk_cell BK881.out 1).trans rfl, (blk_cell BK862.out 0).trans rfl, (blk_cell BK862.out 1).trans rfl⟩ (fun hHeld => ?_)
           clear hK K
           refine zn 48 ?_
           refine zh 3 49 Try.func38 #[.agg #[.slice Ao30 t875.length co30, .slice Ao33 t878.length co33], .agg #[.slice Ao62 t887.length co62, .slice Ao63 t890.length co63]] (fun K hK => ?_)
           with_reducible refine (laws_eqSpace.calls kj15 _ _ t875 _ _ t878 _ _ t887 _ _ t890 false _ ?side1 ?side2 ?side3 ?side4 ?side5 ?side6 ?side7 ?side8 A41.out).mono ?_
           (case side1 => exact zC (Kd.S_reads' HO_882000.out).2.2)
           (case side2 => exact (Kd.S_reads' HO_882000.out).2.1)
           (case side3 => exact zC (Kd.R_reads' HO_882001.out).2.2)
           (case side4 => exact (Kd.R_reads' HO_882001.out).2.1)
           (case side5 => exact zC (Kd.S_reads' HO889.out).2.2)
           (case side6 => exact (Kd.S_reads' HO889.out).2.1)
           (case side7 => exact zC (Kd.R_reads' HO892.out).2.2)
           (case side8 => exact (Kd.R_reads' HO892.out).2.1)
           rintro e w64 ⟨rfl, hb⟩
           refine ⟨_, rfl, ?_⟩
           replace HO_9 := zM (Kd.R_below (zR HO_9.out) hb)
           replace HO_882000 := zM (Kd.S_below (by (with_reducible repeat (first | apply Kd.S_alloc | apply Kd.S_drewN | apply Kd.S_drew)); exact HO_882000.out) hb)
           replace HO_882001 := zM (Kd.R_below (zR HO_882001.out) hb)
           replace HO889 := zM (Kd.S_below (by (with_reducible repeat (first | apply Kd.S_alloc | apply Kd.S_drewN | apply Kd.S_drew)); exact HO889.out) hb)
           replace HO892 := zM (Kd.R_below (zR HO892.out) hb)
           replace BK862 := zM (blk_below (g := gb862) (o := .cells #[.slice A0_0 l0_0.length c0_0, .slice A0_1 l0_1.length c0_1] 47 (0, 0)) (zK BK862.out) hb)
           replace BK881 := zM (blk_below (g := gb881) (o := .cells #[.slice Ao30 t875.length co30, .slice Ao33 t878.length co33] 50 (0, 0)) (zK BK881.out) hb)
           replace HB := zM (below_step zB hb)
           (try clear hb)
           (try clear hb2)
           (try clear hk)
           (try clear hi)
           refine hK.out _ _ ⟨(blk_cell BK881.out 0).trans rfl, (blk_cell BK881.out 1).trans rfl, (blk_cell BK862.out 0).trans rfl, (blk_cell BK862.out 1).trans rfl⟩ (fun hHeld => ?_)
           clear hK K
           refine zn 49 ?_
           refine zq 4 50 ?_
           refine zx ?_
           try go_wp2
           go_ret
           exact ⟨by first | rfl | (simp [errW_none, errW_some] <;> rfl) | (simp [*, errW_none, errW_some] <;> rfl), zB⟩

end Go.Proofs.Ytpbngmkhpcgpkaa.P
