-- Written by a program of this session (the kit's print, turned: wip/print/patch.py) out of the translation. Not trusted: Lean checks it.
import Derived.Test.YtpbngmkhpcgpkaaPx0
import Derived.Test.YtpbngmkhpcgpkaaPx1
import Derived.Test.YtpbngmkhpcgpkaaPx2
import Derived.Test.YtpbngmkhpcgpkaaPx4
import Derived.Test.YtpbngmkhpcgpkaaPx11
import Derived.Test.YtpbngmkhpcgpkaaPx16
import Derived.Test.YtpbngmkhpcgpkaaPx17
import Derived.Test.YtpbngmkhpcgpkaaPx27
import Derived.Test.YtpbngmkhpcgpkaaPx36
import Derived.Test.YtpbngmkhpcgpkaaPx38
namespace Go.Proofs.Ytpbngmkhpcgpkaa.P
open Go.RowKit Go.Proofs.YtpbngmkhpcgpkaaW.PrintWords Go.Proofs.YtpbngmkhpcgpkaaW.PrintLast Go.Proofs.YtpbngmkhpcgpkaaW.PrintMore
attribute [local go_sem] max2_int min2_int max_two min_two max_three min_three max_four min_four   -- for this text's walks alone
set_option linter.unusedVariables false
set_option linter.unusedSimpArgs false

attribute [local go_sem high] eqA68
/-! ### laws_FnExactHasKind: function 13 -/
def laws_FnExactHasKind.j0 : Nat → List Int → List Int → Bool → Int → List (S68) → Int → List (S68) → Option (Bool)
 | 0, _, _, _, _, _, _, _ => none
 | k + 1, x2, x11, x49, x816000, x816001, x831000, x831001 => if x49 = true then (some false) else ((laws_toGraph.f k x816000 x816001).bind fun bt836 => ((laws_eqGraph.f k x831000 x831001 bt836.1 bt836.2).bind fun t840 => (if t840 = true then ((laws_toIntS.f k x2).bind fun t841 => ((laws_eqIntS.f k x11 t841).bind fun t844 => (if t844 = true then (some true) else (some false)))) else (some false))))
def laws_FnExactHasKind.f (k : Nat) (a0_0 : Int) (l0_1 : List (S68)) (a1 : Int) (l2 : List Int) : Option (Bool) := if (l2.length : Int) > 1048576 then (some true) else ((laws_szGraph.f a0_0 l0_1 1048576).bind fun t816 => (if t816 < 0 then (some true) else ((laws_toGraph.f k a0_0 l0_1).bind fun bt817 => ((laws_toIntS.f k l2).bind fun t821 => ((spec_HasKind.f k bt817.1 bt817.2 a1 t821).bind fun bt824 => ((laws_toGraph.f k a0_0 l0_1).bind fun bt826 => ((laws_toIntS.f k l2).bind fun t831 => ((impl_HasKind.f k bt826.1 bt826.2 a1 t831).bind fun bt834 => (if (bt834.1 != bt824.1) = true then (laws_FnExactHasKind.j0 k l2 t831 true a0_0 l0_1 bt826.1 bt826.2) else (laws_FnExactHasKind.j0 k l2 t831 (bt834.2 != bt824.2) a0_0 l0_1 bt826.1 bt826.2))))))))))
theorem laws_FnExactHasKind.mono_l : ∀ k, (∀ y0 y1 y2 y3 y4 y5 y6, LeO (laws_FnExactHasKind.j0 k y0 y1 y2 y3 y4 y5 y6) (laws_FnExactHasKind.j0 (k + 1) y0 y1 y2 y3 y4 y5 y6))
 | 0 => fun _ _ _ _ _ _ _ r h => by simp [laws_FnExactHasKind.j0] at h
 | k + 1 => by
  have ih0 := laws_FnExactHasKind.mono_l k
  · intro y0 y1 y2 y3 y4 y5 y6
    unfold laws_FnExactHasKind.j0
    repeat' first
    | (with_reducible exact ih0 _ _ _ _ _ _ _)
    | (with_reducible exact impl_HasKind.mono _ _ _ _ _)
    | (with_reducible exact laws_eqGraph.mono _ _ _ _ _)
    | (with_reducible exact laws_eqIntS.mono _ _ _)
    | (with_reducible exact laws_toGraph.mono _ _ _)
    | (with_reducible exact laws_toIntS.mono _ _)
    | (with_reducible exact spec_HasKind.mono _ _ _ _ _)
    | (with_reducible exact LeO.refl _)
    | (with_reducible exact LeO.none _)
    | (with_reducible refine LeO.ite ?_ ?_)
    | (with_reducible refine LeO.bind ?_ (fun _ => ?_))
    | exact ih0 _ _ _ _ _ _ _
    | exact impl_HasKind.mono _ _ _ _ _
    | exact laws_eqGraph.mono _ _ _ _ _
    | exact laws_eqIntS.mono _ _ _
    | exact laws_toGraph.mono _ _ _
    | exact laws_toIntS.mono _ _
    | exact spec_HasKind.mono _ _ _ _ _
    | exact LeO.none _
    | refine LeO.ite ?_ ?_
    | refine LeO.bind ?_ (fun _ => ?_)
theorem laws_FnExactHasKind.mono : ∀ a0 a1 a2 a3 k, LeO (laws_FnExactHasKind.f k a0 a1 a2 a3) (laws_FnExactHasKind.f (k + 1) a0 a1 a2 a3) := by
 intro a0 a1 a2 a3 k
 have ih0 := laws_FnExactHasKind.mono_l k
 unfold laws_FnExactHasKind.f
 repeat' first
  | (with_reducible exact ih0 _ _ _ _ _ _ _)
  | (with_reducible exact impl_HasKind.mono _ _ _ _ _)
  | (with_reducible exact laws_eqGraph.mono _ _ _ _ _)
  | (with_reducible exact laws_eqIntS.mono _ _ _)
  | (with_reducible exact laws_toGraph.mono _ _ _)
  | (with_reducible exact laws_toIntS.mono _ _)
  | (with_reducible exact spec_HasKind.mono _ _ _ _ _)
  | (with_reducible exact LeO.refl _)
  | (with_reducible exact LeO.none _)
  | (with_reducible refine LeO.ite ?_ ?_)
  | (with_reducible refine LeO.bind ?_ (fun _ => ?_))
  | exact ih0 _ _ _ _ _ _ _
  | exact impl_HasKind.mono _ _ _ _ _
  | exact laws_eqGraph.mono _ _ _ _ _
  | exact laws_eqIntS.mono _ _ _
  | exact laws_toGraph.mono _ _ _
  | exact laws_toIntS.mono _ _
  | exact spec_HasKind.mono _ _ _ _ _
  | exact LeO.none _
  | refine LeO.ite ?_ ?_
  | refine LeO.bind ?_ (fun _ => ?_)
set_option maxHeartbeats 8000000 in
set_option maxRecDepth 100000 in
theorem laws_FnExactHasKind.calls (k : Nat) (a0_0 : Int) (A0_1 : Option Addr) (c0_1 : Nat) (l0_1 : List (S68)) (a1 : Int) (A2 : Option Addr) (c2 : Nat) (l2 : List Int) (r : Bool) (w : World) (hr0_1 : Kd.C k68 w A0_1 l0_1.length l0_1) (hc0_1 : l0_1.length ≤ c0_1) (hr2 : Kd.C (Kd.int .i64) w A2 l2.length l2) (hc2 : l2.length ≤ c2) (h : laws_FnExactHasKind.f k a0_0 l0_1 a1 l2 = some r) :
 Calls Try.prog 13 #[.agg #[.int .i64 a0_0, .slice A0_1 l0_1.length c0_1], .int .i64 a1, .slice A2 l2.length c2] w fun e w' => e = .returned (.bool r) ∧ Below w.heap.size w w' := by
 have hu24 := Try.underlying24
 have hu27 := Try.underlying27
 have HR0_1 := Aside0.mk hr0_1
 have HC0_1 := Aside0.mk hc0_1
 clear hr0_1 hc0_1
 have HR2 := Aside0.mk hr2
 have HC2 := Aside0.mk hc2
 clear hr2 hc2
 have HB := zM (Below.refl w.heap.size w)
 have H : (if (l2.length : Int) > 1048576 then (some true) else ((laws_szGraph.f a0_0 l0_1 1048576).bind fun t816 => (if t816 < 0 then (some true) else ((laws_toGraph.f k a0_0 l0_1).bind fun bt817 => ((laws_toIntS.f k l2).bind fun t821 => ((spec_HasKind.f k bt817.1 bt817.2 a1 t821).bind fun bt824 => ((laws_toGraph.f k a0_0 l0_1).bind fun bt826 => ((laws_toIntS.f k l2).bind fun t831 => ((impl_HasKind.f k bt826.1 bt826.2 a1 t831).bind fun bt834 => (if (bt834.1 != bt824.1) = true then (laws_FnExactHasKind.j0 k l2 t831 true a0_0 l0_1 bt826.1 bt826.2) else (laws_FnExactHasKind.j0 k l2 t831 (bt834.2 != bt824.2) a0_0 l0_1 bt826.1 bt826.2))))))))))) = some r := h
 clear h
 by_cases c4 : (l2.length : Int) > 1048576
 · rw [if_pos c4] at H
   have c4b0 : decide (1048576 < (l2.length : Int)) = true := decide_eq_true c4
   have c4b1 : decide (1048576 < l2.length) = true := decide_eq_true (by omega)
   clear c4
   obtain rfl := Option.some.inj H
   go_enter Try.func13, Try.ntmps13
   go_wp2_with (first | ((with_reducible refine gate_dst (N := 3) rfl ?_); refine zb (w := w) 3 #[.int .i64 a0_0, .slice A0_1 l0_1.length c0_1] 24 zB ?_; clear HB; intro gb815 w5 HB BK815 GW815; have GE815 := GW815))
   go_ret
   exact ⟨by first | rfl | (simp [errW_none, errW_some] <;> rfl) | (simp [*, errW_none, errW_some] <;> rfl), zB⟩
 · rw [if_neg c4] at H
   have c4b0 : decide (1048576 < (l2.length : Int)) = false := decide_eq_false c4
   have c4b1 : decide (1048576 < l2.length) = false := decide_eq_false (by omega)
   clear c4
   replace H := Option.bind_eq_some_iff.mp H
   obtain ⟨t816, A60, H⟩ := H
   have A6 := Aside0.mk A60
   clear A60
   by_cases c7 : t816 < 0
   · rw [if_pos c7] at H
     have c7b0 := decide_eq_true c7
     clear c7
     obtain rfl := Option.some.inj H
     go_enter Try.func13, Try.ntmps13
     go_wp2_with (first | ((with_reducible refine gate_dst (N := 3) rfl ?_); refine zb (w := w) 3 #[.int .i64 a0_0, .slice A0_1 l0_1.length c0_1] 24 zB ?_; clear HB; intro gb815 w8 HB BK815 GW815; have GE815 := GW815; have hcz9_0 := zy BK815 0; have hcz9_1 := zy BK815 1; have hfz9_0 := blk_frozen BK815.out 0; have hfz9_1 := blk_frozen BK815.out 1) | ((with_reducible refine gate_callee (f := 15) rfl ?_); refine zc 19 Try.func15 #[.agg #[.int .i64 a0_0, .slice A0_1 l0_1.length c0_1], .int .i64 1048576] ?_; (with_reducible refine (laws_szGraph.calls a0_0 _ _ l0_1 1048576 t816 _ ?side1 ?side2 A6.out).mono ?_); (case side1 => exact zC (Kd.C_below HR0_1.out HB.out)); (case side2 => exact HC0_1.out); rintro e w10 ⟨rfl, hb⟩; refine ⟨_, rfl, ?_⟩; replace BK815 := zM (blk_below (g := gb815) (o := .cells #[.int .i64 a0_0, .slice A0_1 l0_1.length c0_1] 24 (0, 0)) (zK BK815.out) hb); replace HB := zM (below_step zB hb); (try clear hb); (try clear hb2); (try clear hk); (try clear hi)))
     go_ret
     exact ⟨by first | rfl | (simp [errW_none, errW_some] <;> rfl) | (simp [*, errW_none, errW_some] <;> rfl), zB⟩
   · rw [if_neg c7] at H
     have c7b0 : decide (t816 < 0) = false := decide_eq_false c7
     clear c7
     replace H := Option.bind_eq_some_iff.mp H
     obtain ⟨⟨t817, t818⟩, A110, H⟩ := H
     replace H : ((laws_toIntS.f k l2).bind fun t821 => ((spec_HasKind.f k t817 t818 a1 t821).bind fun bt824 => ((laws_toGraph.f k a0_0 l0_1).bind fun bt826 => ((laws_toIntS.f k l2).bind fun t831 => ((impl_HasKind.f k bt826.1 bt826.2 a1 t831).bind fun bt834 => (if (bt834.1 != bt824.1) = true then (laws_FnExactHasKind.j0 k l2 t831 true a0_0 l0_1 bt826.1 bt826.2) else (laws_FnExactHasKind.j0 k l2 t831 (bt834.2 != bt824.2) a0_0 l0_1 bt826.1 bt826.2))))))) = some r := H
     have A11 := Aside0.mk A110
     clear A110
     replace H := Option.bind_eq_some_iff.mp H
     obtain ⟨t821, A120, H⟩ := H
     have A12 := Aside0.mk A120
     clear A120
     replace H := Option.bind_eq_some_iff.mp H
     obtain ⟨⟨t824, t825⟩, A130, H⟩ := H
     replace H : ((laws_toGraph.f k a0_0 l0_1).bind fun bt826 => ((laws_toIntS.f k l2).bind fun t831 => ((impl_HasKind.f k bt826.1 bt826.2 a1 t831).bind fun bt834 => (if (bt834.1 != t824) = true then (laws_FnExactHasKind.j0 k l2 t831 true a0_0 l0_1 bt826.1 bt826.2) else (laws_FnExactHasKind.j0 k l2 t831 (bt834.2 != t825) a0_0 l0_1 bt826.1 bt826.2))))) = some r := H
     have A13 := Aside0.mk A130
     clear A130
     replace H := Option.bind_eq_some_iff.mp H
     obtain ⟨⟨t826, t827⟩, A140, H⟩ := H
     replace H : ((laws_toIntS.f k l2).bind fun t831 => ((impl_HasKind.f k t826 t827 a1 t831).bind fun bt834 => (if (bt834.1 != t824) = true then (laws_FnExactHasKind.j0 k l2 t831 true a0_0 l0_1 t826 t827) else (laws_FnExactHasKind.j0 k l2 t831 (bt834.2 != t825) a0_0 l0_1 t826 t827)))) = some r := H
     have A14 := Aside0.mk A140
     clear A140
     replace H := Option.bind_eq_some_iff.mp H
     obtain ⟨t831, A150, H⟩ := H
     have A15 := Aside0.mk A150
     clear A150
     replace H := Option.bind_eq_some_iff.mp H
     obtain ⟨⟨t834, t835⟩, A160, H⟩ := H
     replace H : (if (t834 != t824) = true then (laws_FnExactHasKind.j0 k l2 t831 true a0_0 l0_1 t826 t827) else (laws_FnExactHasKind.j0 k l2 t831 (t835 != t825) a0_0 l0_1 t826 t827)) = some r := H
     have A16 := Aside0.mk A160
     clear A160
     have HC17 := Aside0.mk H
     clear H
     go_enter Try.func13, Try.ntmps13
     go_upto_region 11 with (first | ((with_reducible refine gate_dst (N := 3) rfl ?_); refine zb (w := w) 3 #[.int .i64 a0_0, .slice A0_1 l0_1.length c0_1] 24 zB ?_; clear HB; intro gb815 w18 HB BK815 GW815; have GE815 := GW815; have hcz19_0 := zy BK815 0; have hcz19_1 := zy BK815 1; have hfz19_0 := blk_frozen BK815.out 0; have hfz19_1 := blk_frozen BK815.out 1) | ((with_reducible refine gate_callee (f := 15) rfl ?_); refine zc 19 Try.func15 #[.agg #[.int .i64 a0_0, .slice A0_1 l0_1.length c0_1], .int .i64 1048576] ?_; (with_reducible refine (laws_szGraph.calls a0_0 _ _ l0_1 1048576 t816 _ ?side1 ?side2 A6.out).mono ?_); (case side1 => exact zC (Kd.C_below HR0_1.out HB.out)); (case side2 => exact HC0_1.out); rintro e w20 ⟨rfl, hb⟩; refine ⟨_, rfl, ?_⟩; replace BK815 := zM (blk_below (g := gb815) (o := .cells #[.int .i64 a0_0, .slice A0_1 l0_1.length c0_1] 24 (0, 0)) (zK BK815.out) hb); replace HB := zM (below_step zB hb); (try clear hb); (try clear hb2); (try clear hk); (try clear hi); have hcz21_0 := zy BK815 0; have hcz21_1 := zy BK815 1; have hfz21_0 := blk_frozen BK815.out 0; have hfz21_1 := blk_frozen BK815.out 1) | ((with_reducible refine gate_callee (f := 17) rfl ?_); refine zc 24 Try.func17 #[.agg #[.int .i64 a0_0, .slice A0_1 l0_1.length c0_1]] ?_; (with_reducible refine (laws_toGraph.calls k a0_0 _ _ l0_1 t817 t818 _ ?side1 ?side2 A11.out).mono ?_); (case side1 => exact zC (Kd.C_below HR0_1.out HB.out)); (case side2 => exact HC0_1.out); rintro e w22 ⟨v819, rfl, ho0, hb⟩; refine ⟨_, rfl, ?_⟩; have HO820 := zM (Kd.R_lower ho0 (below_size zB)); replace BK815 := zM (blk_below (g := gb815) (o := .cells #[.int .i64 a0_0, .slice A0_1 l0_1.length c0_1] 24 (0, 0)) (zK BK815.out) hb); replace HB := zM (below_step zB hb); (try clear hb); (try clear hb2); (try clear hk); (try clear hi); (try clear ho0)) | ((with_reducible refine gate_callee (f := 25) rfl ?_); refine zc 27 Try.func25 #[.slice A2 l2.length c2] ?_; (with_reducible refine (laws_toIntS.calls k _ _ l2 t821 _ ?side1 ?side2 A12.out).mono ?_); (case side1 => exact zC (Kd.C_below HR2.out HB.out)); (case side2 => exact HC2.out); rintro e w23 ⟨v822, rfl, ho0, hb⟩; refine ⟨_, rfl, ?_⟩; replace HO820 := zM (Kd.R_below (zR HO820.out) hb); have HO823 := zM (Kd.R_lower ho0 (below_size zB)); replace BK815 := zM (blk_below (g := gb815) (o := .cells #[.int .i64 a0_0, .slice A0_1 l0_1.length c0_1] 24 (0, 0)) (zK BK815.out) hb); replace HB := zM (below_step zB hb); (try clear hb); (try clear hb2); (try clear hk); (try clear hi); (try clear ho0); obtain ⟨Ao24, co24, eo24⟩ := Kd.R_slice HO820.out; subst eo24; obtain ⟨Ao25, co25, eo25⟩ := Kd.R_slice HO823.out; subst eo25) | ((with_reducible refine gate_callee (f := 47) rfl ?_); refine zc 28 Try.func47 #[.agg #[.int .i64 t817, .slice Ao24 t818.length co24], .int .i64 a1, .slice Ao25 t821.length co25] ?_; (with_reducible refine (spec_HasKind.calls k t817 _ _ t818 a1 _ _ t821 t824 t825 _ ?side1 ?side2 ?side3 ?side4 A13.out).mono ?_); (case side1 => exact zC (Kd.R_reads' HO820.out).2.2); (case side2 => exact (Kd.R_reads' HO820.out).2.1); (case side3 => exact zC (Kd.R_reads' HO823.out).2.2); (case side4 => exact (Kd.R_reads' HO823.out).2.1); rintro e w26 ⟨rfl, hb⟩; refine ⟨_, rfl, ?_⟩; replace HO820 := zM (Kd.R_below (zR HO820.out) hb); replace HO823 := zM (Kd.R_below (zR HO823.out) hb); replace BK815 := zM (blk_below (g := gb815) (o := .cells #[.int .i64 a0_0, .slice A0_1 l0_1.length c0_1] 24 (0, 0)) (zK BK815.out) hb); replace HB := zM (below_step zB hb); (try clear hb); (try clear hb2); (try clear hk); (try clear hi); have hcz27_0 := zy BK815 0; have hcz27_1 := zy BK815 1; have hfz27_0 := blk_frozen BK815.out 0; have hfz27_1 := blk_frozen BK815.out 1) | ((with_reducible refine gate_callee (f := 17) rfl ?_); refine zc 32 Try.func17 #[.agg #[.int .i64 a0_0, .slice A0_1 l0_1.length c0_1]] ?_; (with_reducible refine (laws_toGraph.calls k a0_0 _ _ l0_1 t826 t827 _ ?side1 ?side2 A14.out).mono ?_); (case side1 => exact zC (Kd.C_below HR0_1.out HB.out)); (case side2 => exact HC0_1.out); rintro e w28 ⟨v828, rfl, ho0, hb⟩; refine ⟨_, rfl, ?_⟩; replace HO823 := zM (Kd.R_below (zR HO823.out) hb); have HO829 := zM (Kd.R_lower (Kd.R_new' ho0 (Kd.R_lt (zR HO820.out))) (below_size zB)); replace HO820 := zM (Kd.R_elder' (zR HO820.out) (Kd.R_base ho0) hb); replace BK815 := zM (blk_below (g := gb815) (o := .cells #[.int .i64 a0_0, .slice A0_1 l0_1.length c0_1] 24 (0, 0)) (zK BK815.out) hb); replace HB := zM (below_step zB hb); (try clear hb); (try clear hb2); (try clear hk); (try clear hi); (try clear ho0)) | ((with_reducible refine gate_dst (N := 10) rfl ?_); refine ze 10 #[.int .i64 0, .slice none 0 0] 27 ?_; intro gb830 hg w29 hbox hb; replace HO820 := zM (Kd.R_below (zR HO820.out) hb); replace HO823 := zM (Kd.R_below (zR HO823.out) hb); replace HO829 := zM (Kd.R_below (zR HO829.out) hb); have BK830 := zM (hbox); have GW830 := zM ((by rw [hg]; exact (below_size zB) : w.heap.size ≤ gb830)); have GE830 := zM ((by rw [hg]; exact (below_size zB) : w.heap.size ≤ gb830)); replace HB := zM (below_step zB hb); have NB815_830 := zM ((by rw [hg]; exact Nat.ne_of_lt (blk_lt (g := gb815) (o := .cells #[.int .i64 a0_0, .slice A0_1 l0_1.length c0_1] 24 (0, 0)) (zK BK815.out)) : gb815 ≠ gb830)); have NB830_815 := zM ((by rw [hg]; exact Nat.ne_of_gt (blk_lt (g := gb815) (o := .cells #[.int .i64 a0_0, .slice A0_1 l0_1.length c0_1] 24 (0, 0)) (zK BK815.out)) : gb830 ≠ gb815)); replace BK815 := zM (blk_below (g := gb815) (o := .cells #[.int .i64 a0_0, .slice A0_1 l0_1.length c0_1] 24 (0, 0)) (zK BK815.out) hb); clear hb hbox hg; have hnb30 := NB830_815.out; have hnc30 := NB815_830.out; have hcz31_0 := zy BK830 0; have hcz31_1 := zy BK830 1; have hfz31_0 := blk_frozen BK830.out 0; have hfz31_1 := blk_frozen BK830.out 1; obtain ⟨Ao32, co32, eo32⟩ := Kd.R_slice HO829.out; subst eo32) | ((with_reducible refine gate_callee (f := 25) rfl ?_); refine zc 34 Try.func25 #[.slice A2 l2.length c2] ?_; (with_reducible refine (laws_toIntS.calls k _ _ l2 t831 _ ?side1 ?side2 A15.out).mono ?_); (case side1 => exact Kd.C_below HR2.out zB); (case side2 => exact HC2.out); rintro e w33 ⟨v832, rfl, ho0, hb⟩; refine ⟨_, rfl, ?_⟩; replace HO820 := zM (Kd.R_below (by (with_reducible repeat (first | apply Kd.R_alloc | apply Kd.R_drewN | apply Kd.R_drew)); exact (Kd.R_mono (Kd.R_far (p := ⟨gb830, 1, none⟩) (Kd.R_far (p := ⟨gb830, 0, none⟩) (Kd.R_types HO820.out BK830.out (by decide)) (fun _ hk => hk.2) (.int .i64 t826)) (fun _ hk => hk.2) (.slice Ao32 t827.length co32)) (fun _ h_ => h_.1))) hb); replace HO829 := zM (Kd.R_below (by (with_reducible repeat (first | apply Kd.R_alloc | apply Kd.R_drewN | apply Kd.R_drew)); exact (Kd.R_mono (Kd.R_far (p := ⟨gb830, 1, none⟩) (Kd.R_far (p := ⟨gb830, 0, none⟩) (Kd.R_types HO829.out BK830.out (by decide)) (fun _ hk => hk.2) (.int .i64 t826)) (fun _ hk => hk.2) (.slice Ao32 t827.length co32)) (fun _ h_ => h_.1))) hb); have HO833 := zM (Kd.R_lower (Kd.R_new' ho0 (Kd.R_lt (by (with_reducible repeat (first | apply Kd.R_alloc | apply Kd.R_drewN | apply Kd.R_drew)); exact (Kd.R_mono (Kd.R_far (p := ⟨gb830, 1, none⟩) (Kd.R_far (p := ⟨gb830, 0, none⟩) (Kd.R_types HO823.out BK830.out (by decide)) (fun _ hk => hk.2) (.int .i64 t826)) (fun _ hk => hk.2) (.slice Ao32 t827.length co32)) (fun _ h_ => h_.1))))) (below_size zB)); replace HO823 := zM (Kd.R_elder' (by (with_reducible repeat (first | apply Kd.R_alloc | apply Kd.R_drewN | apply Kd.R_drew)); exact (Kd.R_mono (Kd.R_far (p := ⟨gb830, 1, none⟩) (Kd.R_far (p := ⟨gb830, 0, none⟩) (Kd.R_types HO823.out BK830.out (by decide)) (fun _ hk => hk.2) (.int .i64 t826)) (fun _ hk => hk.2) (.slice Ao32 t827.length co32)) (fun _ h_ => h_.1))) (Kd.R_base ho0) hb); replace BK815 := zM (blk_below (g := gb815) (o := .cells #[.int .i64 a0_0, .slice A0_1 l0_1.length c0_1] 24 (0, 0)) (by (with_reducible repeat (first | refine blk_drewN ?_ _ | refine blk_drew ?_ | refine blk_alloc ?_ _)); refine blk_far ?_ NB815_830.out _; (with_reducible repeat (first | refine blk_drewN ?_ _ | refine blk_drew ?_ | refine blk_alloc ?_ _)); refine blk_far ?_ NB815_830.out _; (with_reducible repeat (first | refine blk_drewN ?_ _ | refine blk_drew ?_ | refine blk_alloc ?_ _)); exact BK815.out) hb); replace BK830 := zM (blk_below (g := gb830) (o := .cells #[.int .i64 t826, .slice Ao32 t827.length co32] 27 (0, 0)) (by (with_reducible repeat (first | refine blk_drewN ?_ _ | refine blk_drew ?_ | refine blk_alloc ?_ _)); refine blk_put (cs := #[.int .i64 t826, .slice none 0 0]) ?_ 1 _ rfl; (with_reducible repeat (first | refine blk_drewN ?_ _ | refine blk_drew ?_ | refine blk_alloc ?_ _)); refine blk_put (cs := #[.int .i64 0, .slice none 0 0]) ?_ 0 _ rfl; (with_reducible repeat (first | refine blk_drewN ?_ _ | refine blk_drew ?_ | refine blk_alloc ?_ _)); exact BK830.out) hb); replace HB := zM (below_step zB hb); (try clear hb); (try clear hb2); (try clear hk); (try clear hi); (try clear ho0); have hcz34_0 := zy BK830 0; have hcz34_1 := zy BK830 1; have hfz34_0 := blk_frozen BK830.out 0; have hfz34_1 := blk_frozen BK830.out 1; obtain ⟨Ao35, co35, eo35⟩ := Kd.R_slice HO833.out; subst eo35) | ((with_reducible refine gate_callee (f := 48) rfl ?_); refine zc 39 Try.func48 #[.agg #[.int .i64 t826, .slice Ao32 t827.length co32], .int .i64 a1, .slice Ao35 t831.length co35] ?_; (with_reducible refine (impl_HasKind.calls k t826 _ _ t827 a1 _ _ t831 t834 t835 _ ?side1 ?side2 ?side3 ?side4 A16.out).mono ?_); (case side1 => exact zC (Kd.R_reads' HO829.out).2.2); (case side2 => exact (Kd.R_reads' HO829.out).2.1); (case side3 => exact zC (Kd.R_reads' HO833.out).2.2); (case side4 => exact (Kd.R_reads' HO833.out).2.1); rintro e w36 ⟨rfl, hb⟩; refine ⟨_, rfl, ?_⟩; replace HO820 := zM (Kd.R_below (zR HO820.out) hb); replace HO823 := zM (Kd.R_below (zR HO823.out) hb); replace HO829 := zM (Kd.R_below (zR HO829.out) hb); replace HO833 := zM (Kd.R_below (zR HO833.out) hb); replace BK815 := zM (blk_below (g := gb815) (o := .cells #[.int .i64 a0_0, .slice A0_1 l0_1.length c0_1] 24 (0, 0)) (zK BK815.out) hb); replace BK830 := zM (blk_below (g := gb830) (o := .cells #[.int .i64 t826, .slice Ao32 t827.length co32] 27 (0, 0)) (zK BK830.out) hb); replace HB := zM (below_step zB hb); (try clear hb); (try clear hb2); (try clear hk); (try clear hi)))
     (try simp only [Act.put, List.setIfInBounds_toArray, List.set_cons_zero, List.set_cons_succ])
     go_cut [49] (fun v49 wc => ∃ (kq : Nat) (x49_16 : Bool), v49 = .bool x49_16 ∧ Aside0 (laws_FnExactHasKind.j0 kq l2 t831 x49_16 a0_0 l0_1 t826 t827 = some r) ∧ Aside0 (kq ≤ k) ∧ Aside0 (Kd.R (Kd.int .i64) 3 wc w.heap.size (fun _ => True) (.slice Ao35 t831.length co35) t831) ∧ Aside0 (Kd.R k68 68 wc w.heap.size (fun _ => True) (.slice Ao32 t827.length co32) t827) ∧ Aside0 (wc.heap[gb815]? = some (.cells #[.int .i64 a0_0, (.slice A0_1 l0_1.length c0_1)] 24 (0, 0))) ∧ Aside0 (wc.heap[gb830]? = some (.cells #[.int .i64 t826, (.slice Ao32 t827.length co32)] 27 (0, 0))) ∧ Aside0 (Below w.heap.size w wc))
     case first =>
      have H := HC17.out
      clear HC17
      by_cases c37 : (t834 != t824) = true
      · rw [if_pos c37] at H
        have c37b0 : (t834 != t824) = true := c37
        (try (have c37b1 : decide (t834 = t824) = false := by simpa using c37))
        (try (have c37b2 : (t834 == t824) = false := by simpa using c37))
        (try (have c37b3 : ¬ (t834 = t824) := by simpa using c37))
        clear c37
        (first | rw [c37b0] | (simp only [i64_w, i32_w]; rw [c37b0]) | skip)
        have H' := Aside0.mk H
        clear H
        go_wp2
        go_meet
        case rel => exact ⟨_, (true), (by first | rfl | (simp; done) | (simp [*]; done)), H', ⟨by first | omega | exact Nat.le_refl _⟩, ⟨by (with_reducible repeat (first | apply Kd.R_alloc | apply Kd.R_drewN | apply Kd.R_drew)); exact Kd.R_mono HO833.out (fun _ hk => trivial)⟩, ⟨by (with_reducible repeat (first | apply Kd.R_alloc | apply Kd.R_drewN | apply Kd.R_drew)); exact Kd.R_mono HO829.out (fun _ hk => trivial)⟩, ⟨zK BK815.out⟩, ⟨zK BK830.out⟩, ⟨zB⟩⟩
      · rw [if_neg c37] at H
        have c37b0 : (t834 != t824) = false := by simpa using c37
        (try (have c37b1 : decide (t834 = t824) = true := by simpa using c37))
        (try (have c37b2 : (t834 == t824) = true := by simpa using c37))
        clear c37
        (first | rw [c37b0] | (simp only [i64_w, i32_w]; rw [c37b0]) | skip)
        have H' := Aside0.mk H
        clear H
        go_wp2
        go_meet
        case rel => exact ⟨_, ((t835 != t825)), (by first | rfl | (simp; done) | (simp [*]; done)), H', ⟨by first | omega | exact Nat.le_refl _⟩, ⟨by (with_reducible repeat (first | apply Kd.R_alloc | apply Kd.R_drewN | apply Kd.R_drew)); exact Kd.R_mono HO833.out (fun _ hk => trivial)⟩, ⟨by (with_reducible repeat (first | apply Kd.R_alloc | apply Kd.R_drewN | apply Kd.R_drew)); exact Kd.R_mono HO829.out (fun _ hk => trivial)⟩, ⟨zK BK815.out⟩, ⟨zK BK830.out⟩, ⟨zB⟩⟩
     case rest =>
      clear HC17
      try clear c1
      try clear c2
      try clear p2
      try clear c3
      try clear c4
      try clear c4b0
      try clear c4b1
      try clear c7
      try clear c7b0
      try clear c13
      try clear c15
      try clear c17
      try clear c25
      try clear c30
      try clear c37
      try clear c37b0
      try clear c37b1
      try clear c37b2
      try clear hcz19_0
      try clear hcz19_1
      try clear hcz21_0
      try clear hcz21_1
      try clear hcz27_0
      try clear hcz27_1
      try clear hcz31_0
      try clear hcz31_1
      try clear hcz34_0
      try clear hcz34_1
      try clear hcz9_0
      try clear hcz9_1
      try clear hfz19_0
      try clear hfz19_1
      try clear hfz21_0
      try clear hfz21_1
      try clear hfz27_0
      try clear hfz27_1
      try clear hfz31_0
      try clear hfz31_1
      try clear hfz34_0
      try clear hfz34_1
      try clear hfz9_0
      try clear hfz9_1
      obtain ⟨kq, x49_16, rfl, HA, HJ16, HO_11, HO_831001, BK815, BK830, HB⟩ := hcut
      cases kq with
      | zero => exact absurd HA.out (by simp [laws_FnExactHasKind.j0])
      | succ kj16 =>
       have H := HA.out
       clear HA
       simp only [laws_FnExactHasKind.j0] at H
       by_cases c38 : x49_16 = true
       · subst c38
         rw [if_pos rfl] at H
         obtain rfl := Option.some.inj H
         go_wp2
         go_ret
         exact ⟨by first | rfl | (simp [errW_none, errW_some] <;> rfl) | (simp [*, errW_none, errW_some] <;> rfl), zB⟩
       · replace c38 := Bool.eq_false_iff.mpr c38
         subst c38
         have H1 : ((laws_toGraph.f kj16 a0_0 l0_1).bind fun bt836 => ((laws_eqGraph.f kj16 t826 t827 bt836.1 bt836.2).bind fun t840 => (if t840 = true then ((laws_toIntS.f kj16 l2).bind fun t841 => ((laws_eqIntS.f kj16 t831 t841).bind fun t844 => (if t844 = true then (some true) else (some false)))) else (some false)))) = some r := by rw [if_neg (show ¬ (false = true) by decide)] at H; exact H
         clear H
         have H := H1
         clear H1
         replace H := Option.bind_eq_some_iff.mp H
         obtain ⟨⟨t836, t837⟩, A390, H⟩ := H
         replace H : ((laws_eqGraph.f kj16 t826 t827 t836 t837).bind fun t840 => (if t840 = true then ((laws_toIntS.f kj16 l2).bind fun t841 => ((laws_eqIntS.f kj16 t831 t841).bind fun t844 => (if t844 = true then (some true) else (some false)))) else (some false))) = some r := H
         have A39 := Aside0.mk A390
         clear A390
         replace H := Option.bind_eq_some_iff.mp H
         obtain ⟨t840, A400, H⟩ := H
         have A40 := Aside0.mk A400
         clear A400
         by_cases c41 : t840 = true
         · subst c41
           rw [if_pos rfl] at H
           replace H := Option.bind_eq_some_iff.mp H
           obtain ⟨t841, A420, H⟩ := H
           have A42 := Aside0.mk A420
           clear A420
           replace H := Option.bind_eq_some_iff.mp H
           obtain ⟨t844, A430, H⟩ := H
           have A43 := Aside0.mk A430
           clear A430
           by_cases c44 : t844 = true
           · subst c44
             rw [if_pos rfl] at H
             obtain rfl := Option.some.inj H
             try go_wp2
             replace HO_11 := zM (Kd.R_drew HO_11.out)
             replace HO_831001 := zM (Kd.R_drew HO_831001.out)
             replace BK815 := zM (blk_drew BK815.out)
             replace BK830 := zM (blk_drew BK830.out)
             replace HB := zM (below_drew1 HB.out)
             refine zs (n := 5) (fun w' => w'.cell? ⟨gb830, 0, none⟩ = some (.int .i64 t826) ∧ w'.cell? ⟨gb830, 1, none⟩ = some (.slice Ao32 t827.length co32) ∧ w'.cell? ⟨gb815, 0, none⟩ = some (.int .i64 a0_0) ∧ w'.cell? ⟨gb815, 1, none⟩ = some (.slice A0_1 l0_1.length c0_1)) ⟨(blk_cell BK830.out 0).trans rfl, (blk_cell BK830.out 1).trans rfl, (blk_cell BK815.out 0).trans rfl, (blk_cell BK815.out 1).trans rfl⟩ (fun hHeld => ?_)
             generalize wc.drew = w45 at HO_11 HO_831001 BK815 BK830 HB hHeld ⊢
             refine zl 0 50 hHeld ?_ (hy := by rintro w' ⟨s0, s1, s2, s3⟩; go_simp; with_reducible rfl)
             refine zl 1 51 hHeld ?_ (hy := by rintro w' ⟨s0, s1, s2, s3⟩; go_simp; with_reducible rfl)
             refine zh 2 52 Try.func17 #[.agg #[.int .i64 a0_0, .slice A0_1 l0_1.length c0_1]] (fun K hK => ?_)
             with_reducible refine (laws_toGraph.calls kj16 a0_0 _ _ l0_1 t836 t837 _ ?side1 ?side2 A39.out).mono ?_
             (case side1 => exact zC (Kd.C_below HR0_1.out HB.out))
             (case side2 => exact HC0_1.out)
             rintro e w46 ⟨v838, rfl, ho0, hb⟩
             refine ⟨_, rfl, ?_⟩
             replace HO_11 := zM (Kd.R_below (zR HO_11.out) hb)
             have HO839 := zM (Kd.R_lower (Kd.R_new' ho0 (Kd.R_lt (zR HO_831001.out))) (below_size zB))
             replace HO_831001 := zM (Kd.R_elder' (zR HO_831001.out) (Kd.R_base ho0) hb)
             replace BK815 := zM (blk_below (g := gb815) (o := .cells #[.int .i64 a0_0, .slice A0_1 l0_1.length c0_1] 24 (0, 0)) (zK BK815.out) hb)
             replace BK830 := zM (blk_below (g := gb830) (o := .cells #[.int .i64 t826, .slice Ao32 t827.length co32] 27 (0, 0)) (zK BK830.out) hb)
             replace HB := zM (below_step zB hb)
             (try clear hb)
             (try clear hb2)
             (try clear hk)
             (try clear hi)
             (try clear ho0)
             obtain ⟨Ao47, co47, eo47⟩ := Kd.R_slice HO839.out
             (first | subst eo47 | (injection eo47 with f1_ f2_ f3_; have f4_ := f1_.symm; have f5_ := f3_.symm; clear f1_ f2_ f3_; subst f4_; subst f5_))
             refine hK.out _ _ ⟨(blk_cell BK830.out 0).trans rfl, (blk_cell BK830.out 1).trans rfl, (blk_cell BK815.out 0).trans rfl, (blk_cell BK815.out 1).trans rfl⟩ (fun hHeld => ?_)
             clear hK K
             refine zn 52 ?_
             refine zh 3 53 Try.func19 #[.agg #[.int .i64 t826, .slice Ao32 t827.length co32], .agg #[.int .i64 t836, .slice Ao47 t837.length co47]] (fun K hK => ?_)
             with_reducible refine (laws_eqGraph.calls kj16 t826 _ _ t827 t836 _ _ t837 true _ ?side1 ?side2 ?side3 ?side4 A40.out).mono ?_
             (case side1 => exact zC (Kd.R_reads' HO_831001.out).2.2)
             (case side2 => exact (Kd.R_reads' HO_831001.out).2.1)
             (case side3 => exact zC (Kd.R_reads' HO839.out).2.2)
             (case side4 => exact (Kd.R_reads' HO839.out).2.1)
             rintro e w48 ⟨rfl, hb⟩
             refine ⟨_, rfl, ?_⟩
             replace HO_11 := zM (Kd.R_below (zR HO_11.out) hb)
             replace HO_831001 := zM (Kd.R_below (zR HO_831001.out) hb)
             replace HO839 := zM (Kd.R_below (zR HO839.out) hb)
             replace BK815 := zM (blk_below (g := gb815) (o := .cells #[.int .i64 a0_0, .slice A0_1 l0_1.length c0_1] 24 (0, 0)) (zK BK815.out) hb)
             replace BK830 := zM (blk_below (g := gb830) (o := .cells #[.int .i64 t826, .slice Ao32 t827.length co32] 27 (0, 0)) (zK BK830.out) hb)
             replace HB := zM (below_step zB hb)
             (try clear hb)
             (try clear hb2)
             (try clear hk)
             (try clear hi)
             refine hK.out _ _ ⟨(blk_cell BK830.out 0).trans rfl, (blk_cell BK830.out 1).trans rfl, (blk_cell BK815.out 0).trans rfl, (blk_cell BK815.out 1).trans rfl⟩ (fun hHeld => ?_)
             clear hK K
             refine zn 53 ?_
             refine zq 4 54 ?_
             refine zx ?_
             try go_wp2_with (first | ((with_reducible refine gate_callee (f := 25) rfl ?_); refine zc 57 Try.func25 #[.slice A2 l2.length c2] ?_; (with_reducible refine (laws_toIntS.calls kj16 _ _ l2 t841 _ ?side1 ?side2 A42.out).mono ?_); (case side1 => exact zC (Kd.C_below HR2.out HB.out)); (case side2 => exact HC2.out); rintro e w49 ⟨v842, rfl, ho0, hb⟩; refine ⟨_, rfl, ?_⟩; replace HO_831001 := zM (Kd.R_below (zR HO_831001.out) hb); replace HO839 := zM (Kd.R_below (zR HO839.out) hb); have HO843 := zM (Kd.R_lower (Kd.R_new' ho0 (Kd.R_lt (zR HO_11.out))) (below_size zB)); replace HO_11 := zM (Kd.R_elder' (zR HO_11.out) (Kd.R_base ho0) hb); replace BK815 := zM (blk_below (g := gb815) (o := .cells #[.int .i64 a0_0, .slice A0_1 l0_1.length c0_1] 24 (0, 0)) (zK BK815.out) hb); replace BK830 := zM (blk_below (g := gb830) (o := .cells #[.int .i64 t826, .slice Ao32 t827.length co32] 27 (0, 0)) (zK BK830.out) hb); replace HB := zM (below_step zB hb); (try clear hb); (try clear hb2); (try clear hk); (try clear hi); (try clear ho0); obtain ⟨Ao50, co50, eo50⟩ := Kd.R_slice HO843.out; subst eo50) | ((with_reducible refine gate_callee (f := 27) rfl ?_); refine zc 58 Try.func27 #[.slice Ao35 t831.length co35, .slice Ao50 t841.length co50] ?_; (with_reducible refine (laws_eqIntS.calls kj16 _ _ t831 _ _ t841 true _ ?side1 ?side2 ?side3 ?side4 A43.out).mono ?_); (case side1 => exact zC (Kd.R_reads' HO_11.out).2.2); (case side2 => exact (Kd.R_reads' HO_11.out).2.1); (case side3 => exact zC (Kd.R_reads' HO843.out).2.2); (case side4 => exact (Kd.R_reads' HO843.out).2.1); rintro e w' ⟨rfl, ⟨nd, rfl⟩⟩; refine ⟨_, rfl, ?_⟩))
             go_ret
             exact ⟨by first | rfl | (simp [errW_none, errW_some] <;> rfl) | (simp [*, errW_none, errW_some] <;> rfl), zB⟩
           · replace c44 := Bool.eq_false_iff.mpr c44
             subst c44
             have H1 : (some false) = some r := by rw [if_neg (show ¬ (false = true) by decide)] at H; exact H
             clear H
             have H := H1
             clear H1
             obtain rfl := Option.some.inj H
             try go_wp2
             replace HO_11 := zM (Kd.R_drew HO_11.out)
             replace HO_831001 := zM (Kd.R_drew HO_831001.out)
             replace BK815 := zM (blk_drew BK815.out)
             replace BK830 := zM (blk_drew BK830.out)
             replace HB := zM (below_drew1 HB.out)
             refine zs (n := 5) (fun w' => w'.cell? ⟨gb830, 0, none⟩ = some (.int .i64 t826) ∧ w'.cell? ⟨gb830, 1, none⟩ = some (.slice Ao32 t827.length co32) ∧ w'.cell? ⟨gb815, 0, none⟩ = some (.int .i64 a0_0) ∧ w'.cell? ⟨gb815, 1, none⟩ = some (.slice A0_1 l0_1.length c0_1)) ⟨(blk_cell BK830.out 0).trans rfl, (blk_cell BK830.out 1).trans rfl, (blk_cell BK815.out 0).trans rfl, (blk_cell BK815.out 1).trans rfl⟩ (fun hHeld => ?_)
             generalize wc.drew = w51 at HO_11 HO_831001 BK815 BK830 HB hHeld ⊢
             refine zl 0 50 hHeld ?_ (hy := by rintro w' ⟨s0, s1, s2, s3⟩; go_simp; with_reducible rfl)
             refine zl 1 51 hHeld ?_ (hy := by rintro w' ⟨s0, s1, s2, s3⟩; go_simp; with_reducible rfl)
             refine zh 2 52 Try.func17 #[.agg #[.int .i64 a0_0, .slice A0_1 l0_1.length c0_1]] (fun K hK => ?_)
             with_reducible refine (laws_toGraph.calls kj16 a0_0 _ _ l0_1 t836 t837 _ ?side1 ?side2 A39.out).mono ?_
             (case side1 => exact zC (Kd.C_below HR0_1.out HB.out))
             (case side2 => exact HC0_1.out)
             rintro e w52 ⟨v838, rfl, ho0, hb⟩
             refine ⟨_, rfl, ?_⟩
             replace HO_11 := zM (Kd.R_below (zR HO_11.out) hb)
             have HO839 := zM (Kd.R_lower (Kd.R_new' ho0 (Kd.R_lt (zR HO_831001.out))) (below_size zB))
             replace HO_831001 := zM (Kd.R_elder' (zR HO_831001.out) (Kd.R_base ho0) hb)
             replace BK815 := zM (blk_below (g := gb815) (o := .cells #[.int .i64 a0_0, .slice A0_1 l0_1.length c0_1] 24 (0, 0)) (zK BK815.out) hb)
             replace BK830 := zM (blk_below (g := gb830) (o := .cells #[.int .i64 t826, .slice Ao32 t827.length co32] 27 (0, 0)) (zK BK830.out) hb)
             replace HB := zM (below_step zB hb)
             (try clear hb)
             (try clear hb2)
             (try clear hk)
             (try clear hi)
             (try clear ho0)
             obtain ⟨Ao53, co53, eo53⟩ := Kd.R_slice HO839.out
             (first | subst eo53 | (injection eo53 with f1_ f2_ f3_; have f4_ := f1_.symm; have f5_ := f3_.symm; clear f1_ f2_ f3_; subst f4_; subst f5_))
             refine hK.out _ _ ⟨(blk_cell BK830.out 0).trans rfl, (blk_cell BK830.out 1).trans rfl, (blk_cell BK815.out 0).trans rfl, (blk_cell BK815.out 1).trans rfl⟩ (fun hHeld => ?_)
             clear hK K
             refine zn 52 ?_
             refine zh 3 53 Try.func19 #[.agg #[.int .i64 t826, .slice Ao32 t827.length co32], .agg #[.int .i64 t836, .slice Ao53 t837.length co53]] (fun K hK => ?_)
             with_reducible refine (laws_eqGraph.calls kj16 t826 _ _ t827 t836 _ _ t837 true _ ?side1 ?side2 ?side3 ?side4 A40.out).mono ?_
             (case side1 => exact zC (Kd.R_reads' HO_831001.out).2.2)
             (case side2 => exact (Kd.R_reads' HO_831001.out).2.1)
             (case side3 => exact zC (Kd.R_reads' HO839.out).2.2)
             (case side4 => exact (Kd.R_reads' HO839.out).2.1)
             rintro e w54 ⟨rfl, hb⟩
             refine ⟨_, rfl, ?_⟩
             replace HO_11 := zM (Kd.R_below (zR HO_11.out) hb)
             replace HO_831001 := zM (Kd.R_below (zR HO_831001.out) hb)
             replace HO839 := zM (Kd.R_below (zR HO839.out) hb)
             replace BK815 := zM (blk_below (g := gb815) (o := .cells #[.int .i64 a0_0, .slice A0_1 l0_1.length c0_1] 24 (0, 0)) (zK BK815.out) hb)
             replace BK830 := zM (blk_below (g := gb830) (o := .cells #[.int .i64 t826, .slice Ao32 t827.length co32] 27 (0, 0)) (zK BK830.out) hb)
             replace HB := zM (below_step zB hb)
             (try clear hb)
             (try clear hb2)
             (try clear hk)
             (try clear hi)
             refine hK.out _ _ ⟨(blk_cell BK830.out 0).trans rfl, (blk_cell BK830.out 1).trans rfl, (blk_cell BK815.out 0).trans rfl, (blk_cell BK815.out 1).trans rfl⟩ (fun hHeld => ?_)
             clear hK K
             refine zn 53 ?_
             refine zq 4 54 ?_
             refine zx ?_
             try go_wp2_with (first | ((with_reducible refine gate_callee (f := 25) rfl ?_); refine zc 57 Try.func25 #[.slice A2 l2.length c2] ?_; (with_reducible refine (laws_toIntS.calls kj16 _ _ l2 t841 _ ?side1 ?side2 A42.out).mono ?_); (case side1 => exact zC (Kd.C_below HR2.out HB.out)); (case side2 => exact HC2.out); rintro e w55 ⟨v842, rfl, ho0, hb⟩; refine ⟨_, rfl, ?_⟩; replace HO_831001 := zM (Kd.R_below (zR HO_831001.out) hb); replace HO839 := zM (Kd.R_below (zR HO839.out) hb); have HO843 := zM (Kd.R_lower (Kd.R_new' ho0 (Kd.R_lt (zR HO_11.out))) (below_size zB)); replace HO_11 := zM (Kd.R_elder' (zR HO_11.out) (Kd.R_base ho0) hb); replace BK815 := zM (blk_below (g := gb815) (o := .cells #[.int .i64 a0_0, .slice A0_1 l0_1.length c0_1] 24 (0, 0)) (zK BK815.out) hb); replace BK830 := zM (blk_below (g := gb830) (o := .cells #[.int .i64 t826, .slice Ao32 t827.length co32] 27 (0, 0)) (zK BK830.out) hb); replace HB := zM (below_step zB hb); (try clear hb); (try clear hb2); (try clear hk); (try clear hi); (try clear ho0); obtain ⟨Ao56, co56, eo56⟩ := Kd.R_slice HO843.out; subst eo56) | ((with_reducible refine gate_callee (f := 27) rfl ?_); refine zc 58 Try.func27 #[.slice Ao35 t831.length co35, .slice Ao56 t841.length co56] ?_; (with_reducible refine (laws_eqIntS.calls kj16 _ _ t831 _ _ t841 false _ ?side1 ?side2 ?side3 ?side4 A43.out).mono ?_); (case side1 => exact zC (Kd.R_reads' HO_11.out).2.2); (case side2 => exact (Kd.R_reads' HO_11.out).2.1); (case side3 => exact zC (Kd.R_reads' HO843.out).2.2); (case side4 => exact (Kd.R_reads' HO843.out).2.1); rintro e w' ⟨rfl, ⟨nd, rfl⟩⟩; refine ⟨_, rfl, ?_⟩))
             go_ret
             exact ⟨by first | rfl | (simp [errW_none, errW_some] <;> rfl) | (simp [*, errW_none, errW_some] <;> rfl), zB⟩
         · replace c41 := Bool.eq_false_iff.mpr c41
           subst c41
           have H1 : (some false) = some r := by rw [if_neg (show ¬ (false = true) by decide)] at H; exact H
           clear H
           have H := H1
           clear H1
           obtain rfl := Option.some.inj H
           try go_wp2
           replace HO_11 := zM (Kd.R_drew HO_11.out)
           replace HO_831001 := zM (Kd.R_drew HO_831001.out)
           replace BK815 := zM (blk_drew BK815.out)
           replace BK830 := zM (blk_drew BK830.out)
           replace HB := zM (below_drew1 HB.out)
           refine zs (n := 5) (fun w' => w'.cell? ⟨gb830, 0, none⟩ = some (.int .i64 t826) ∧ w'.cell? ⟨gb830, 1, none⟩ = some (.slice Ao32 t827.length co32) ∧ w'.cell? ⟨gb815, 0, none⟩ = some (.int .i64 a0_0) ∧ w'.cell? ⟨gb815, 1, none⟩ = some (.slice A0_1 l0_1.length c0_1)) ⟨(blk_cell BK830.out 0).trans rfl, (blk_cell BK830.out 1).trans rfl, (blk_cell BK815.out 0).trans rfl, (blk_cell BK815.out 1).trans rfl⟩ (fun hHeld => ?_)
           generalize wc.drew = w57 at HO_11 HO_831001 BK815 BK830 HB hHeld ⊢
           refine zl 0 50 hHeld ?_ (hy := by rintro w' ⟨s0, s1, s2, s3⟩; go_simp; with_reducible rfl)
           refine zl 1 51 hHeld ?_ (hy := by rintro w' ⟨s0, s1, s2, s3⟩; go_simp; with_reducible rfl)
           refine zh 2 52 Try.func17 #[.agg #[.int .i64 a0_0, .slice A0_1 l0_1.length c0_1]] (fun K hK => ?_)
           with_reducible refine (laws_toGraph.calls kj16 a0_0 _ _ l0_1 t836 t837 _ ?side1 ?side2 A39.out).mono ?_
           (case side1 => exact zC (Kd.C_below HR0_1.out HB.out))
           (case side2 => exact HC0_1.out)
           rintro e w58 ⟨v838, rfl, ho0, hb⟩
           refine ⟨_, rfl, ?_⟩
           replace HO_11 := zM (Kd.R_below (zR HO_11.out) hb)
           have HO839 := zM (Kd.R_lower (Kd.R_new' ho0 (Kd.R_lt (zR HO_831001.out))) (below_size zB))
           replace HO_831001 := zM (Kd.R_elder' (zR HO_831001.out) (Kd.R_base ho0) hb)
           replace BK815 := zM (blk_below (g := gb815) (o := .cells #[.int .i64 a0_0, .slice A0_1 l0_1.length c0_1] 24 (0, 0)) (zK BK815.out) hb)
           replace BK830 := zM (blk_below (g := gb830) (o := .cells #[.int .i64 t826, .slice Ao32 t827.length co32] 27 (0, 0)) (zK BK830.out) hb)
           replace HB := zM (below_step zB hb)
           (try clear hb)
           (try clear hb2)
           (try clear hk)
           (try clear hi)
           (try clear ho0)
           obtain ⟨Ao59, co59, eo59⟩ := Kd.R_slice HO839.out
           (first | subst eo59 | (injection eo59 with f1_ f2_ f3_; have f4_ := f1_.symm; have f5_ := f3_.symm; clear f1_ f2_ f3_; subst f4_; subst f5_))
           refine hK.out _ _ ⟨(blk_cell BK830.out 0).trans rfl, (blk_cell BK830.out 1).trans rfl, (blk_cell BK815.out 0).trans rfl, (blk_cell BK815.out 1).trans rfl⟩ (fun hHeld => ?_)
           clear hK K
           refine zn 52 ?_
           refine zh 3 53 Try.func19 #[.agg #[.int .i64 t826, .slice Ao32 t827.length co32], .agg #[.int .i64 t836, .slice Ao59 t837.length co59]] (fun K hK => ?_)
           with_reducible refine (laws_eqGraph.calls kj16 t826 _ _ t827 t836 _ _ t837 false _ ?side1 ?side2 ?side3 ?side4 A40.out).mono ?_
           (case side1 => exact zC (Kd.R_reads' HO_831001.out).2.2)
           (case side2 => exact (Kd.R_reads' HO_831001.out).2.1)
           (case side3 => exact zC (Kd.R_reads' HO839.out).2.2)
           (case side4 => exact (Kd.R_reads' HO839.out).2.1)
           rintro e w60 ⟨rfl, hb⟩
           refine ⟨_, rfl, ?_⟩
           replace HO_11 := zM (Kd.R_below (zR HO_11.out) hb)
           replace HO_831001 := zM (Kd.R_below (zR HO_831001.out) hb)
           replace HO839 := zM (Kd.R_below (zR HO839.out) hb)
           replace BK815 := zM (blk_below (g := gb815) (o := .cells #[.int .i64 a0_0, .slice A0_1 l0_1.length c0_1] 24 (0, 0)) (zK BK815.out) hb)
           replace BK830 := zM (blk_below (g := gb830) (o := .cells #[.int .i64 t826, .slice Ao32 t827.length co32] 27 (0, 0)) (zK BK830.out) hb)
           replace HB := zM (below_step zB hb)
           (try clear hb)
           (try clear hb2)
           (try clear hk)
           (try clear hi)
           refine hK.out _ _ ⟨(blk_cell BK830.out 0).trans rfl, (blk_cell BK830.out 1).trans rfl, (blk_cell BK815.out 0).trans rfl, (blk_cell BK815.out 1).trans rfl⟩ (fun hHeld => ?_)
           clear hK K
           refine zn 53 ?_
           refine zq 4 54 ?_
           refine zx ?_
           try go_wp2
           go_ret
           exact ⟨by first | rfl | (simp [errW_none, errW_some] <;> rfl) | (simp [*, errW_none, errW_some] <;> rfl), zB⟩

/-! ### spec_l1Least: function 117 -/
def spec_l1Least.f (a0 : Int) (a1 : Int) : Option (Int) := if a0 < a1 then (some a0) else (some a1)
set_option maxHeartbeats 8000000 in
set_option maxRecDepth 100000 in
theorem spec_l1Least.calls (a0 : Int) (a1 : Int) (r : Int) (w : World) (h : spec_l1Least.f a0 a1 = some r) :
 Calls Try.prog 117 #[.int .i64 a0, .int .i64 a1] w fun e w' => e = .returned (.int .i64 r) ∧ Drawn0 w w' := by
 have H : (if a0 < a1 then (some a0) else (some a1)) = some r := h
 clear h
 by_cases c3 : a0 < a1
 · rw [if_pos c3] at H
   have c3b0 := decide_eq_true c3
   clear c3
   obtain rfl := Option.some.inj H
   go_enter Try.func117, Try.ntmps117
   go_wp2
   go_ret
   exact ⟨by first | rfl | (simp; done) | (simp [*]; done), by repeat (first | exact Drawn0.refl _ | apply Drawn0.step)⟩
 · rw [if_neg c3] at H
   have c3b0 : decide (a0 < a1) = false := decide_eq_false c3
   clear c3
   obtain rfl := Option.some.inj H
   go_enter Try.func117, Try.ntmps117
   go_wp2
   go_ret
   exact ⟨by first | rfl | (simp; done) | (simp [*]; done), by repeat (first | exact Drawn0.refl _ | apply Drawn0.step)⟩

/-! ### spec_l2Step: function 92 -/
def spec_l2Step.l0 : Nat → Int → Int → Int → List (List Int) → List (S68) → Option (Bool)
 | 0, _, _, _, _, _ => none
 | k + 1, x1, x2, x7, x846000, x846001 => if x7 < (x846001.length : Int) then (if 0 ≤ x7 then ((spec_l1Least.f x1 x2).bind fun t847 => ((spec_l1Most.f x1 x2).bind fun t848 => (if (((rd_T68 x846001 x7).f0) == t847 && (((rd_T68 x846001 x7).f1) == t848)) = true then (some true) else (spec_l2Step.l0 k x1 x2 (wrap64 (x7 + 1)) x846000 x846001)))) else (none)) else (some false)
def spec_l2Step.f (k : Nat) (l0_0 : List (List Int)) (l0_1 : List (S68)) (a1 : Int) (a2 : Int) : Option (Bool) := spec_l2Step.l0 k a1 a2 0 l0_0 l0_1
theorem spec_l2Step.mono_l : ∀ k, (∀ y0 y1 y2 y3 y4, LeO (spec_l2Step.l0 k y0 y1 y2 y3 y4) (spec_l2Step.l0 (k + 1) y0 y1 y2 y3 y4))
 | 0 => fun _ _ _ _ _ r h => by simp [spec_l2Step.l0] at h
 | k + 1 => by
  have ih0 := spec_l2Step.mono_l k
  · intro y0 y1 y2 y3 y4
    unfold spec_l2Step.l0
    repeat' first
    | (with_reducible exact ih0 _ _ _ _ _)
    | (with_reducible exact LeO.refl _)
    | (with_reducible exact LeO.none _)
    | (with_reducible refine LeO.ite ?_ ?_)
    | (with_reducible refine LeO.bind ?_ (fun _ => ?_))
    | exact ih0 _ _ _ _ _
    | exact LeO.none _
    | refine LeO.ite ?_ ?_
    | refine LeO.bind ?_ (fun _ => ?_)
theorem spec_l2Step.mono : ∀ a0 a1 a2 a3 k, LeO (spec_l2Step.f k a0 a1 a2 a3) (spec_l2Step.f (k + 1) a0 a1 a2 a3) := by
 intro a0 a1 a2 a3 k
 have ih0 := spec_l2Step.mono_l k
 unfold spec_l2Step.f
 repeat' first
  | (with_reducible exact ih0 _ _ _ _ _)
  | (with_reducible exact LeO.refl _)
  | (with_reducible exact LeO.none _)
  | (with_reducible refine LeO.ite ?_ ?_)
  | (with_reducible refine LeO.bind ?_ (fun _ => ?_))
  | exact ih0 _ _ _ _ _
  | exact LeO.none _
  | refine LeO.ite ?_ ?_
  | refine LeO.bind ?_ (fun _ => ?_)
set_option maxHeartbeats 8000000 in
set_option maxRecDepth 100000 in
theorem spec_l2Step.calls (k : Nat) (A0_0 : Option Addr) (c0_0 : Nat) (l0_0 : List (List Int)) (A0_1 : Option Addr) (c0_1 : Nat) (l0_1 : List (S68)) (a1 : Int) (a2 : Int) (r : Bool) (w : World) (hr0_0 : Kd.C (Kd.slice 3 (Kd.int .i64)) w A0_0 l0_0.length l0_0) (hc0_0 : l0_0.length ≤ c0_0) (hr0_1 : Kd.C k68 w A0_1 l0_1.length l0_1) (hc0_1 : l0_1.length ≤ c0_1) (h : spec_l2Step.f k l0_0 l0_1 a1 a2 = some r) :
 Calls Try.prog 92 #[.agg #[.slice A0_0 l0_0.length c0_0, .slice A0_1 l0_1.length c0_1], .int .i64 a1, .int .i64 a2] w fun e w' => e = .returned (.bool r) ∧ Below w.heap.size w w' := by
 have hu50 := Try.underlying50
 have hu68 := Try.underlying68
 have HR0_0 := Aside0.mk hr0_0
 have HC0_0 := Aside0.mk hc0_0
 clear hr0_0 hc0_0
 have HR0_1 := Aside0.mk hr0_1
 have HC0_1 := Aside0.mk hc0_1
 clear hr0_1 hc0_1
 have HB := zM (Below.refl w.heap.size w)
 have H : (spec_l2Step.l0 k a1 a2 0 l0_0 l0_1) = some r := h
 clear h
 have H' := Aside0.mk H
 clear H
 go_enter Try.func92, Try.ntmps92
 go_wp2_with (first | ((with_reducible refine gate_dst (N := 3) rfl ?_); refine zb (w := w) 3 #[.slice A0_0 l0_0.length c0_0, .slice A0_1 l0_1.length c0_1] 50 zB ?_; clear HB; intro gb845 w4 HB BK845 GW845; have GE845 := GW845))
 repeat (go_quiet (first | ((with_reducible refine gate_dst (N := 3) rfl ?_); refine zb (w := w) 3 #[.slice A0_0 l0_0.length c0_0, .slice A0_1 l0_1.length c0_1] 50 zB ?_; clear HB; intro gb845 w4 HB BK845 GW845; have GE845 := GW845)); try go_wp2_with (first | ((with_reducible refine gate_dst (N := 3) rfl ?_); refine zb (w := w) 3 #[.slice A0_0 l0_0.length c0_0, .slice A0_1 l0_1.length c0_1] 50 zB ?_; clear HB; intro gb845 w4 HB BK845 GW845; have GE845 := GW845)))
 go_loopg [7] k (fun kq v7 w' => ∃ (x7_1 : Int), v7 = .int .i64 x7_1 ∧ Aside0 (spec_l2Step.l0 kq a1 a2 x7_1 l0_0 l0_1 = some r) ∧ Aside0 (kq ≤ k) ∧ Aside0 (w'.heap[gb845]? = some (.cells #[(.slice A0_0 l0_0.length c0_0), (.slice A0_1 l0_1.length c0_1)] 50 (0, 0))) ∧ Aside0 (Below w.heap.size w w'))
 case atStart => exact ⟨(0), (by first | rfl | (simp; done) | (simp [*]; done)), H', ⟨Nat.le_refl _⟩, ⟨zK BK845.out⟩, ⟨zB⟩⟩
 case round =>
  clear H'
  try clear p2
  obtain ⟨x7_1, rfl, HA, HK1, BK845, HB⟩ := hrel
  cases gk with
  | zero => exact absurd HA.out (by simp [spec_l2Step.l0])
  | succ k1 =>
   have H := HA.out
   clear HA
   simp only [spec_l2Step.l0] at H
   by_cases c5 : x7_1 < (l0_1.length : Int)
   · rw [if_pos c5] at H
     have c5b0 := decide_eq_true c5
     clear c5
     by_cases c6 : 0 ≤ x7_1
     · rw [if_pos c6] at H
       have c6b0 := decide_eq_true c6
       clear c6
       replace H := Option.bind_eq_some_iff.mp H
       obtain ⟨t847, A70, H⟩ := H
       have A7 := Aside0.mk A70
       clear A70
       replace H := Option.bind_eq_some_iff.mp H
       obtain ⟨t848, A80, H⟩ := H
       have A8 := Aside0.mk A80
       clear A80
       by_cases c9 : (((rd_T68 l0_1 x7_1).f0) == t847 && (((rd_T68 l0_1 x7_1).f1) == t848)) = true
       · rw [if_pos c9] at H
         have c9b0 : (((rd_T68 l0_1 x7_1).f0) == t847 && (((rd_T68 l0_1 x7_1).f1) == t848)) = true := c9
         (try (have c9b1 : decide (((rd_T68 l0_1 x7_1).f0) = t847 && (((rd_T68 l0_1 x7_1).f1) == t848)) = true := by simpa using c9))
         (try (have c9b2 : (((rd_T68 l0_1 x7_1).f0) == t847 && (((rd_T68 l0_1 x7_1).f1) == t848)) = true := by simpa using c9))
         clear c9
         obtain rfl := Option.some.inj H
         have hcz10_0 := zy BK845 0
         have hcz10_1 := zy BK845 1
         have hfz10_0 := blk_frozen BK845.out 0
         have hfz10_1 := blk_frozen BK845.out 1
         have p846 : 0 ≤ (x7_1 : Int) := of_decide_eq_true zA
         have q846 : x7_1 < (l0_1.length : Int) := of_decide_eq_true zA
         obtain ⟨ad846, e846, hx846_0, hx846_1⟩ := at_T68 HR0_1.out x7_1 p846 q846
         cases e846
         (try replace hx846_0 := (HB.out.cell (World.block_lt_of_cell? w _ hx846_0)).trans hx846_0)
         (try replace hx846_1 := (HB.out.cell (World.block_lt_of_cell? w _ hx846_1)).trans hx846_1)
         replace p846 := eq_true p846
         replace q846 := eq_true q846
         go_wp2_with (first | (go_at_call 117; (with_reducible refine (spec_l1Least.calls a1 a2 t847 _ A7.out).mono ?_); rintro e w' ⟨rfl, ⟨nd, rfl⟩⟩; (try exact zD)) | (go_at_call 83; (with_reducible refine (spec_l1Most.calls a1 a2 t848 _ A8.out).mono ?_); rintro e w' ⟨rfl, ⟨nd, rfl⟩⟩; (try exact zD)))
         repeat (go_quiet (first | (go_at_call 117; (with_reducible refine (spec_l1Least.calls a1 a2 t847 _ A7.out).mono ?_); rintro e w' ⟨rfl, ⟨nd, rfl⟩⟩; (try exact zD)) | (go_at_call 83; (with_reducible refine (spec_l1Most.calls a1 a2 t848 _ A8.out).mono ?_); rintro e w' ⟨rfl, ⟨nd, rfl⟩⟩; (try exact zD))); try go_wp2_with (first | (go_at_call 117; (with_reducible refine (spec_l1Least.calls a1 a2 t847 _ A7.out).mono ?_); rintro e w' ⟨rfl, ⟨nd, rfl⟩⟩; (try exact zD)) | (go_at_call 83; (with_reducible refine (spec_l1Most.calls a1 a2 t848 _ A8.out).mono ?_); rintro e w' ⟨rfl, ⟨nd, rfl⟩⟩; (try exact zD))))
         go_ret
         exact ⟨by first | rfl | (simp [errW_none, errW_some] <;> rfl) | (simp [*, errW_none, errW_some] <;> rfl), zB⟩
       · rw [if_neg c9] at H
         have c9b0 : (((rd_T68 l0_1 x7_1).f0) == t847 && (((rd_T68 l0_1 x7_1).f1) == t848)) = false := by simpa using c9
         (try (have c9b1 : decide (((rd_T68 l0_1 x7_1).f0) = t847 && (((rd_T68 l0_1 x7_1).f1) == t848)) = false := by simpa using c9))
         (try (have c9b2 : (((rd_T68 l0_1 x7_1).f0) == t847 && (((rd_T68 l0_1 x7_1).f1) == t848)) = false := by simpa using c9))
         (try (have c9b3 : ¬ (((rd_T68 l0_1 x7_1).f0) = t847 && (((rd_T68 l0_1 x7_1).f1) == t848)) := by simpa using c9))
         clear c9
         have H' := Aside0.mk H
         clear H
         have hcz11_0 := zy BK845 0
         have hcz11_1 := zy BK845 1
         have hfz11_0 := blk_frozen BK845.out 0
         have hfz11_1 := blk_frozen BK845.out 1
         have p846 : 0 ≤ (x7_1 : Int) := of_decide_eq_true zA
         have q846 : x7_1 < (l0_1.length : Int) := of_decide_eq_true zA
         obtain ⟨ad846, e846, hx846_0, hx846_1⟩ := at_T68 HR0_1.out x7_1 p846 q846
         cases e846
         (try replace hx846_0 := (HB.out.cell (World.block_lt_of_cell? w _ hx846_0)).trans hx846_0)
         (try replace hx846_1 := (HB.out.cell (World.block_lt_of_cell? w _ hx846_1)).trans hx846_1)
         replace p846 := eq_true p846
         replace q846 := eq_true q846
         go_wp2_with (first | (go_at_call 117; (with_reducible refine (spec_l1Least.calls a1 a2 t847 _ A7.out).mono ?_); rintro e w' ⟨rfl, ⟨nd, rfl⟩⟩; (try exact zD)) | (go_at_call 83; (with_reducible refine (spec_l1Most.calls a1 a2 t848 _ A8.out).mono ?_); rintro e w' ⟨rfl, ⟨nd, rfl⟩⟩; (try exact zD)))
         repeat (go_quiet (first | (go_at_call 117; (with_reducible refine (spec_l1Least.calls a1 a2 t847 _ A7.out).mono ?_); rintro e w' ⟨rfl, ⟨nd, rfl⟩⟩; (try exact zD)) | (go_at_call 83; (with_reducible refine (spec_l1Most.calls a1 a2 t848 _ A8.out).mono ?_); rintro e w' ⟨rfl, ⟨nd, rfl⟩⟩; (try exact zD))); try go_wp2_with (first | (go_at_call 117; (with_reducible refine (spec_l1Least.calls a1 a2 t847 _ A7.out).mono ?_); rintro e w' ⟨rfl, ⟨nd, rfl⟩⟩; (try exact zD)) | (go_at_call 83; (with_reducible refine (spec_l1Most.calls a1 a2 t848 _ A8.out).mono ?_); rintro e w' ⟨rfl, ⟨nd, rfl⟩⟩; (try exact zD))))
         go_roundg k1
         case measure => have := HK1.out; omega
         case rel => exact ⟨(wrap64 (x7_1 + 1)), (by first | rfl | (simp; done) | (simp [*]; done)), H', ⟨by have := HK1.out; omega⟩, ⟨zK BK845.out⟩, ⟨zB⟩⟩
     · rw [if_neg c6] at H
       exact absurd H (by simp)
   · rw [if_neg c5] at H
     have c5b0 : decide (x7_1 < (l0_1.length : Int)) = false := decide_eq_false c5
     clear c5
     obtain rfl := Option.some.inj H
     have hcz12_0 := zy BK845 0
     have hcz12_1 := zy BK845 1
     have hfz12_0 := blk_frozen BK845.out 0
     have hfz12_1 := blk_frozen BK845.out 1
     go_wp2
     repeat (go_quiet (fail); try go_wp2)
     go_ret
     exact ⟨by first | rfl | (simp [errW_none, errW_some] <;> rfl) | (simp [*, errW_none, errW_some] <;> rfl), zB⟩

end Go.Proofs.Ytpbngmkhpcgpkaa.P
