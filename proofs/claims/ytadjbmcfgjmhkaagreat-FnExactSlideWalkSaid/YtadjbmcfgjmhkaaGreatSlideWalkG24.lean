import Derived.Test.YtadjbmcfgjmhkaaGreatSlideWalkG23
import Derived.Test.YtadjbmcfgjmhkaaGreatSlideWalkG22
namespace Go.Proofs.YtadjbmcfgjmhkaaGreat.P
open Go.RowKit YtadjbmcfgjmhkaaGreatW.PrintWords YtadjbmcfgjmhkaaGreatW.PrintLast YtadjbmcfgjmhkaaGreatW.PrintMore
attribute [local go_sem] aX aT aU aM aV aN aW aQ
set_option maxRecDepth 100000
set_option maxHeartbeats 8000000
set_option linter.unusedVariables false
set_option linter.unusedSimpArgs false
def gE (k : Nat) (a0_0 : Int) (l0_1 : List (S69)) (a1 : Int) (a2 : Int) : Option (Bool) := (jA a1 a2).bind fun bt294 => ((hJ k l0_1 bt294.1 bt294.2).bind fun t296 => (some t296))
theorem qX (k : Nat) (a0_0 : Int) (A0_1 : Option Addr) (c0_1 : Nat) (l0_1 : List (S69)) (a1 : Int) (a2 : Int) (r : Bool) (w : World) (hr0_1 : Kd.C k69 w A0_1 l0_1.length l0_1) (hc0_1 : l0_1.length ≤ c0_1) (h : gE k a0_0 l0_1 a1 a2 = some r) :
 Calls Tryz.prog 91 #[.agg #[.int .i64 a0_0, .slice A0_1 l0_1.length c0_1], .int .i64 a1, .int .i64 a2] w fun e w' => e = .returned (.bool r) ∧ Below w.heap.size w w' := by
 have hu30 := Tryz.underlying30
 have HR0_1 := Aside0.mk hr0_1
 have HC0_1 := Aside0.mk hc0_1
 clear hr0_1 hc0_1
 have HB := zM (Below.refl w.heap.size w)
 have H := h
 unfold gE at H
 clear h
 replace H := ax H
 obtain ⟨⟨t294, t295⟩, A40, H⟩ := H
 try dsimp only at H
 have A4 := Aside0.mk A40
 clear A40
 replace H := ax H
 obtain ⟨t296, A50, H⟩ := H
 have A5 := Aside0.mk A50
 clear A50
 obtain rfl := ao H
 go_enter Tryz.func91, Tryz.ntmps91
 try go_wp2_with (first | ((with_reducible refine ap (N := 3) rfl ?_); refine zb (w := w) 3 #[.int .i64 a0_0, .slice A0_1 l0_1.length c0_1] 30 zB ?_; clear HB; intro gb293 w6 HB BK293 GW293; have GE293 := GW293))
 replace BK293 := zM (aq BK293.out)
 replace HB := zM (aC HB.out)
 refine zs (n := 7) (fun w' => w'.cell? ⟨gb293, 0, none⟩ = some (.int .i64 a0_0) ∧ w'.cell? ⟨gb293, 1, none⟩ = some (.slice A0_1 l0_1.length c0_1)) ⟨(am BK293.out 0).trans rfl, (am BK293.out 1).trans rfl⟩ (fun hHeld => ?_)
 generalize w6.drew = w7 at BK293 HB hHeld ⊢
 refine zq 0 7 ?_
 refine zq 2 9 ?_
 refine zq 3 10 ?_
 refine zl 1 8 hHeld ?_ (hy := by rintro w' ⟨s0, s1⟩; go_simp; with_reducible rfl)
 refine zh 4 11 Tryz.func108 #[.int .i64 a1, .int .i64 a2] (fun K hK => ?_)
 with_reducible refine (qB a1 a2 t294 t295 _ A4.out).mono ?_
 rintro e w8 ⟨rfl, hb⟩
 refine ⟨_, rfl, ?_⟩
 replace BK293 := zJ BK293 hb
 replace HB := zM (ah zB hb)
 (try clear hb)
 refine hK.out _ _ ⟨(am BK293.out 0).trans rfl, (am BK293.out 1).trans rfl⟩ (fun hHeld => ?_)
 clear hK K
 refine zn 11 ?_
 refine zh 5 12 Tryz.func107 #[.slice A0_1 l0_1.length c0_1, .agg #[.int .i64 t294, .int .i64 t295]] (fun K hK => ?_)
 with_reducible refine (ov k _ _ l0_1 t294 t295 t296 _ ?side1 ?side2 A5.out).mono ?_
 (case side1 => exact zC (Kd.C_below HR0_1.out HB.out))
 (case side2 => exact HC0_1.out)
 rintro e w9 ⟨rfl, hb⟩
 refine ⟨_, rfl, ?_⟩
 replace BK293 := zJ BK293 hb
 replace HB := zM (ah zB hb)
 (try clear hb)
 refine hK.out _ _ ⟨(am BK293.out 0).trans rfl, (am BK293.out 1).trans rfl⟩ (fun hHeld => ?_)
 clear hK K
 refine zn 12 ?_
 refine zq 6 6 ?_
 refine zx ?_
 try go_wp2
 go_ret
 exact ⟨by first | rfl | (simp [al, ak] <;> rfl) | (simp [*, al, ak] <;> rfl), zB⟩
theorem mJ {P : Program} {md : Region.Mode} {ops : Array Oper} {Q : Exit → Act → World → Prop} {S1 S2 : World → Prop} {fuel : Nat} {l : Array Bool} {a : Act} {w : World} (hsub : ∀ w, S2 w → S1 w) (h2 : S2 w) (H : az P md ops Q S2 [] fuel l a w) : az P md ops Q S1 [] fuel l a w := by
 induction fuel generalizing l a w with
 | zero => exact H
 | succ fuel ih => exact ⟨H.1, fun i hi => wpOp_mono (fun a' w' h => ⟨fun hd _ => hsub _ (h.1 hd h2), ih (h.1 (by simp) h2) h.2⟩) (H.2 i hi)⟩
def em (k : Nat) (a0_0 : Int) (l0_1 : List (S69)) (l1 : List Int) (l2 : List Int) : Option (Bool) := (fz k l1 l2).bind fun bt298 => ((dP bt298.1).bind fun t300 => (if t300 = 1 then ((dP bt298.2).bind fun t301 => (if t301 = 1 then ((fD k bt298.1).bind fun t302 => (if 0 < (t302.length : Int) then ((fD k bt298.2).bind fun t306 => (if 0 < (t306.length : Int) then ((gE k a0_0 l0_1 (rd t302 0) (rd t306 0)).bind fun t310 => (some t310)) else (none))) else (none))) else (some false))) else (some false)))
def impl_Graph_isSlide.T2 : Bool × List (List Nat × List Nat) := (true, [([], []), ([0], [0]), ([1], [1]), ([2, 1], [2]), ([3], [3]), ([4, 3, 3], [3, 4]), ([5, 3], [3, 5]), ([3, 6], [3, 6]), ([7, 5], [7]), ([8], [8]), ([8], [8]), ([10, 8, 8], [8, 10]), ([11, 8], [8, 11]), ([12, 8], [8, 12]), ([8], [8]), ([14, 11, 8], [8, 14]), ([15, 8], [8, 15]), ([16, 8], [8, 16]), ([9, 13, 17, 15, 8], [8, 9, 13, 17]), ([8, 18], [8, 18]), ([19, 18, 0, 1, 2, 3, 4, 5, 6, 7, 8, 9, 10, 11, 12, 13, 14, 15, 16, 17, 18, 19], [19])])
def qV : List Nat := [0, 1, 3, 7, 15, 31, 63, 127, 255, 511, 511, 1535, 3583, 7679, 511, 19967, 52735, 118271, 262143, 524287, 1048575]
theorem jF : aG .any (bP Tryz.f68 2) = impl_Graph_isSlide.T2 := by kernel_rfl
theorem jG : bC impl_Graph_isSlide.T2.2 qV = true := by kernel_rfl
theorem qU (k : Nat) (a0_0 : Int) (A0_1 : Option Addr) (c0_1 : Nat) (l0_1 : List (S69)) (A1 : Option Addr) (c1 : Nat) (l1 : List Int) (A2 : Option Addr) (c2 : Nat) (l2 : List Int) (r : Bool) (w : World) (hr0_1 : Kd.C k69 w A0_1 l0_1.length l0_1) (hc0_1 : l0_1.length ≤ c0_1) (hr1 : Kd.C (Kd.int .i64) w A1 l1.length l1) (hc1 : l1.length ≤ c1) (hr2 : Kd.C (Kd.int .i64) w A2 l2.length l2) (hc2 : l2.length ≤ c2) (h : em k a0_0 l0_1 l1 l2 = some r) :
 Calls Tryz.prog 68 #[.agg #[.int .i64 a0_0, .slice A0_1 l0_1.length c0_1], .slice A1 l1.length c1, .slice A2 l2.length c2] w fun e w' => e = .returned (.bool r) ∧ Below w.heap.size w w' := by
 have hu30 := Tryz.underlying30
 have HR0_1 := Aside0.mk hr0_1
 have HC0_1 := Aside0.mk hc0_1
 clear hr0_1 hc0_1
 have HR1 := Aside0.mk hr1
 have HC1 := Aside0.mk hc1
 clear hr1 hc1
 have HR2 := Aside0.mk hr2
 have HC2 := Aside0.mk hc2
 clear hr2 hc2
 have HB := zM (Below.refl w.heap.size w)
 have H := h
 unfold em at H
 clear h
 replace H := ax H
 obtain ⟨⟨t298, t299⟩, A40, H⟩ := H
 try dsimp only at H
 have A4 := Aside0.mk A40
 clear A40
 replace H := ax H
 obtain ⟨t300, A50, H⟩ := H
 have A5 := Aside0.mk A50
 clear A50
 by_cases c6 : t300 = 1
 · rw [if_pos c6] at H
   have c6b0 : (t300 == 1) = true := beq_iff_eq.mpr c6
   have c6b1 : (t300 != 1) = false := bne_eq_false_iff_eq.mpr c6
   clear c6
   replace H := ax H
   obtain ⟨t301, A70, H⟩ := H
   have A7 := Aside0.mk A70
   clear A70
   by_cases c8 : t301 = 1
   · rw [if_pos c8] at H
     have c8b0 : (t301 == 1) = true := beq_iff_eq.mpr c8
     have c8b1 : (t301 != 1) = false := bne_eq_false_iff_eq.mpr c8
     clear c8
     replace H := ax H
     obtain ⟨t302, A90, H⟩ := H
     have A9 := Aside0.mk A90
     clear A90
     by_cases c10 : 0 < (t302.length : Int)
     case neg => rw [if_neg c10] at H; simp at H
     rw [if_pos c10] at H
     have c10b0 := ag c10
     have c10b1 : decide (0 < t302.length) = true := ag (by omega)
     clear c10
     replace H := ax H
     obtain ⟨t306, A110, H⟩ := H
     have A11 := Aside0.mk A110
     clear A110
     by_cases c12 : 0 < (t306.length : Int)
     case neg => rw [if_neg c12] at H; simp at H
     rw [if_pos c12] at H
     have c12b0 := ag c12
     have c12b1 : decide (0 < t306.length) = true := ag (by omega)
     clear c12
     replace H := ax H
     obtain ⟨t310, A130, H⟩ := H
     have A13 := Aside0.mk A130
     clear A130
     obtain rfl := ao H
     go_enter Tryz.func68, Tryz.ntmps68
     try go_wp2_with (first | ((with_reducible refine ap (N := 3) rfl ?_); refine zb (w := w) 3 #[.int .i64 a0_0, .slice A0_1 l0_1.length c0_1] 30 zB ?_; clear HB; intro gb297 w14 HB BK297 GW297; have GE297 := GW297) | ((with_reducible refine ay (f := 88) rfl ?_); refine zc 12 Tryz.func88 #[.slice A1 l1.length c1, .slice A2 l2.length c2] ?_; (with_reducible refine (iu k _ _ l1 _ _ l2 t298 t299 _ ?side1 ?side2 ?side3 ?side4 A4.out).mono ?_); (case side1 => exact zC (Kd.C_below HR1.out HB.out)); (case side2 => exact HC1.out); (case side3 => exact zC (Kd.C_below HR2.out HB.out)); (case side4 => exact HC2.out); rintro e w' ⟨rfl, ⟨nd, rfl⟩⟩; refine ⟨_, rfl, ?_⟩))
     (try (rw [dE w14]; generalize hq_ : World.drewN w14 _ = w14; have n0_ : Aside0 (w14.heap[gb297]? = some (.cells #[.int .i64 a0_0, .slice A0_1 l0_1.length c0_1] 30 (0, 0))) := ⟨by rw [← hq_]; exact (zK BK297.out)⟩; have n1_ : Aside0 (Below w.heap.size w w14) := ⟨by rw [← hq_]; exact zB⟩; clear BK297 HB hq_; have BK297 := n0_; have HB := n1_; clear n0_ n1_))
     replace BK297 := zM (aq BK297.out)
     replace HB := zM (aC HB.out)
     refine zs (n := 21) (fun w' => w'.cell? ⟨gb297, 0, none⟩ = some (.int .i64 a0_0) ∧ w'.cell? ⟨gb297, 1, none⟩ = some (.slice A0_1 l0_1.length c0_1)) ⟨(am BK297.out 0).trans rfl, (am BK297.out 1).trans rfl⟩ (fun hHeld => ?_); refine aH jF jG (fun HT_ HW_ => ?_)
     generalize w14.drew = w15 at BK297 HB hHeld ⊢
     refine zp HT_ 0 15 ?_
     refine zg HT_ 1 16 Tryz.func89 #[.int .u64 t298] (fun K hK => ?_)
     with_reducible refine (eh t298 t300 _ A5.out).mono ?_
     rintro e w16 ⟨rfl, hb⟩
     refine ⟨_, rfl, ?_⟩
     replace BK297 := zJ BK297 hb
     replace HB := zM (ah zB hb)
     (try clear hb)
     refine hK.out _ _ ⟨(am BK297.out 0).trans rfl, (am BK297.out 1).trans rfl⟩ (fun hHeld => ?_)
     clear hK K
     refine zn 16 ?_
     refine zp HT_ 2 17 ?_
     refine zp HT_ 3 18 ?_
     refine zp HT_ 4 19 ?_
     refine zg HT_ 5 20 Tryz.func89 #[.int .u64 t299] (fun K hK => ?_)
     with_reducible refine (eh t299 t301 _ A7.out).mono ?_
     rintro e w17 ⟨rfl, hb⟩
     refine ⟨_, rfl, ?_⟩
     replace BK297 := zJ BK297 hb
     replace HB := zM (ah zB hb)
     (try clear hb)
     refine hK.out _ _ ⟨(am BK297.out 0).trans rfl, (am BK297.out 1).trans rfl⟩ (fun hHeld => ?_)
     clear hK K
     refine zn 20 ?_
     refine zp HT_ 6 21 ?_
     refine zp HT_ 7 22 ?_
     refine zp HT_ 8 23 ?_
     refine zp HT_ 10 25 ?_
     refine zp HT_ 14 29 ?_
     refine zt HT_ HW_ 9 24 hHeld ?_ (hy := by rintro w' ⟨s0, s1⟩; go_simp; with_reducible rfl)
     refine zg HT_ 11 26 Tryz.func76 #[.int .u64 t298] (fun K hK => ?_)
     with_reducible refine (jC k t298 t302 _ A9.out).mono ?_
     rintro e w18 ⟨v303, rfl, ho0, hb⟩
     refine ⟨_, rfl, ?_⟩
     have HO304 := zM (Kd.R_lower ho0 (ai zB))
     replace BK297 := zJ BK297 hb
     replace HB := zM (ah zB hb)
     (try clear hb)
     (try clear ho0)
     obtain ⟨Ao19, co19, eo19⟩ := Kd.R_slice HO304.out
     (first | subst eo19 | (injection eo19 with f1_ f2_ f3_; have f4_ := f1_.symm; have f5_ := f3_.symm; clear f1_ f2_ f3_; subst f4_; subst f5_))
     have p305 : 0 ≤ (0 : Int) := (by omega)
     have q305 : 0 < (t302.length : Int) := ac zA
     obtain ⟨ad305, e305, hx305_0⟩ := Kd.at_int (Kd.R_reads' HO304.out).2.2 0 p305 q305
     cases e305
     have qi305 : (0 < t302.length) = True := eq_true (by omega)
     (try rw [show ((0 : Int)).toNat = 0 from rfl] at hx305_0)
     (try rw [Addr.add_zero'] at hx305_0)
     replace p305 := eq_true p305
     replace q305 := eq_true q305
     refine hK.out _ _ ⟨(am BK297.out 0).trans rfl, (am BK297.out 1).trans rfl⟩ (fun hHeld => ?_)
     have hMore_ := hHeld
     clear hHeld
     refine mJ (S2 := fun w' => w'.cell? ⟨gb297, 0, none⟩ = some (.int .i64 a0_0) ∧ w'.cell? ⟨gb297, 1, none⟩ = some (.slice A0_1 l0_1.length c0_1) ∧ w'.cell? ad305 = some (.int .i64 (rd t302 0))) (fun _ h => ⟨h.1, h.2.1⟩) ⟨hMore_.1, hMore_.2, hx305_0⟩ ?_
     have hHeld := (⟨hMore_.1, hMore_.2, hx305_0⟩ : _ ∧ _ ∧ _)
     clear hMore_
     clear hK K
     refine zn 26 ?_
     refine zp HT_ 12 27 ?_
     refine zt HT_ HW_ 13 28 hHeld ?_ (hy := by rintro w' ⟨s0, s1, s2⟩; go_simp; with_reducible rfl)
     refine zg HT_ 15 30 Tryz.func76 #[.int .u64 t299] (fun K hK => ?_)
     with_reducible refine (jC k t299 t306 _ A11.out).mono ?_
     rintro e w20 ⟨v307, rfl, ho0, hb⟩
     have HS2_ := (hb.cell (aj _ _ (hHeld.2.2))).trans (hHeld.2.2)
     refine ⟨_, rfl, ?_⟩
     have HO308 := zM (Kd.R_lower (Kd.R_new' ho0 (Kd.R_lt (zR HO304.out))) (ai zB))
     replace HO304 := zM (Kd.R_elder' (zR HO304.out) (Kd.R_base ho0) hb)
     replace BK297 := zJ BK297 hb
     replace HB := zM (ah zB hb)
     (try clear hb)
     (try clear ho0)
     obtain ⟨Ao21, co21, eo21⟩ := Kd.R_slice HO308.out
     (first | subst eo21 | (injection eo21 with f1_ f2_ f3_; have f4_ := f1_.symm; have f5_ := f3_.symm; clear f1_ f2_ f3_; subst f4_; subst f5_))
     have p309 : 0 ≤ (0 : Int) := (by omega)
     have q309 : 0 < (t306.length : Int) := ac zA
     obtain ⟨ad309, e309, hx309_0⟩ := Kd.at_int (Kd.R_reads' HO308.out).2.2 0 p309 q309
     cases e309
     have qi309 : (0 < t306.length) = True := eq_true (by omega)
     (try rw [show ((0 : Int)).toNat = 0 from rfl] at hx309_0)
     (try rw [Addr.add_zero'] at hx309_0)
     replace p309 := eq_true p309
     replace q309 := eq_true q309
     refine hK.out _ _ ⟨(am BK297.out 0).trans rfl, (am BK297.out 1).trans rfl, HS2_⟩ (fun hHeld => ?_)
     have hMore_ := hHeld
     clear hHeld
     refine mJ (S2 := fun w' => w'.cell? ⟨gb297, 0, none⟩ = some (.int .i64 a0_0) ∧ w'.cell? ⟨gb297, 1, none⟩ = some (.slice A0_1 l0_1.length c0_1) ∧ w'.cell? ad305 = some (.int .i64 (rd t302 0)) ∧ w'.cell? ad309 = some (.int .i64 (rd t306 0))) (fun _ h => ⟨h.1, h.2.1, h.2.2.1⟩) ⟨hMore_.1, hMore_.2.1, hMore_.2.2, hx309_0⟩ ?_
     have hHeld := (⟨hMore_.1, hMore_.2.1, hMore_.2.2, hx309_0⟩ : _ ∧ _ ∧ _ ∧ _)
     clear hMore_
     clear hK K
     refine zn 30 ?_
     refine zp HT_ 16 31 ?_
     refine zt HT_ HW_ 17 32 hHeld ?_ (hy := by rintro w' ⟨s0, s1, s2, s3⟩; go_simp; with_reducible rfl)
     refine zg HT_ 18 33 Tryz.func91 #[.agg #[.int .i64 a0_0, .slice A0_1 l0_1.length c0_1], .int .i64 (rd t302 0), .int .i64 (rd t306 0)] (fun K hK => ?_)
     with_reducible refine (qX k a0_0 _ _ l0_1 (rd t302 0) (rd t306 0) t310 _ ?side1 ?side2 A13.out).mono ?_
     (case side1 => exact zC (Kd.C_below HR0_1.out HB.out))
     (case side2 => exact HC0_1.out)
     rintro e w22 ⟨rfl, hb⟩
     have HS2_ := (hb.cell (aj _ _ (hHeld.2.2.1))).trans (hHeld.2.2.1)
     have HS3_ := (hb.cell (aj _ _ (hHeld.2.2.2))).trans (hHeld.2.2.2)
     refine ⟨_, rfl, ?_⟩
     replace HO304 := zM (Kd.R_below (zR HO304.out) hb)
     replace HO308 := zM (Kd.R_below (zR HO308.out) hb)
     replace BK297 := zJ BK297 hb
     replace HB := zM (ah zB hb)
     (try clear hb)
     refine hK.out _ _ ⟨(am BK297.out 0).trans rfl, (am BK297.out 1).trans rfl, HS2_, HS3_⟩ (fun hHeld => ?_)
     clear hK K
     refine zn 33 ?_
     refine zp HT_ 19 34 ?_
     refine zp HT_ 20 6 ?_
     refine zo HT_ ?_
     try go_wp2
     go_ret
     exact ⟨by first | rfl | (simp [al, ak] <;> rfl) | (simp [*, al, ak] <;> rfl), zB⟩
   · rw [if_neg c8] at H
     have c8b0 : (t301 == 1) = false := beq_eq_false_iff_ne.mpr c8
     have c8b1 : (t301 != 1) = true := bne_iff_ne.mpr c8
     obtain rfl := ao H
     go_enter Tryz.func68, Tryz.ntmps68
     try go_wp2_with (first | ((with_reducible refine ap (N := 3) rfl ?_); refine zb (w := w) 3 #[.int .i64 a0_0, .slice A0_1 l0_1.length c0_1] 30 zB ?_; clear HB; intro gb297 w23 HB BK297 GW297; have GE297 := GW297) | ((with_reducible refine ay (f := 88) rfl ?_); refine zc 12 Tryz.func88 #[.slice A1 l1.length c1, .slice A2 l2.length c2] ?_; (with_reducible refine (iu k _ _ l1 _ _ l2 t298 t299 _ ?side1 ?side2 ?side3 ?side4 A4.out).mono ?_); (case side1 => exact zC (Kd.C_below HR1.out HB.out)); (case side2 => exact HC1.out); (case side3 => exact zC (Kd.C_below HR2.out HB.out)); (case side4 => exact HC2.out); rintro e w' ⟨rfl, ⟨nd, rfl⟩⟩; refine ⟨_, rfl, ?_⟩))
     (try (rw [dE w23]; generalize hq_ : World.drewN w23 _ = w23; have n0_ : Aside0 (w23.heap[gb297]? = some (.cells #[.int .i64 a0_0, .slice A0_1 l0_1.length c0_1] 30 (0, 0))) := ⟨by rw [← hq_]; exact (zK BK297.out)⟩; have n1_ : Aside0 (Below w.heap.size w w23) := ⟨by rw [← hq_]; exact zB⟩; clear BK297 HB hq_; have BK297 := n0_; have HB := n1_; clear n0_ n1_))
     replace BK297 := zM (aq BK297.out)
     replace HB := zM (aC HB.out)
     refine zs (n := 21) (fun w' => True) trivial (fun hHeld => ?_); refine aH jF jG (fun HT_ HW_ => ?_)
     generalize w23.drew = w24 at BK297 HB hHeld ⊢
     refine zp HT_ 0 15 ?_
     refine zg HT_ 1 16 Tryz.func89 #[.int .u64 t298] (fun K hK => ?_)
     with_reducible refine (eh t298 t300 _ A5.out).mono ?_
     rintro e w25 ⟨rfl, hb⟩
     refine ⟨_, rfl, ?_⟩
     replace BK297 := zJ BK297 hb
     replace HB := zM (ah zB hb)
     (try clear hb)
     refine hK.out _ _ trivial (fun hHeld => ?_)
     clear hK K
     refine zn 16 ?_
     refine zp HT_ 2 17 ?_
     refine zp HT_ 3 18 ?_
     refine zp HT_ 4 19 ?_
     refine zg HT_ 5 20 Tryz.func89 #[.int .u64 t299] (fun K hK => ?_)
     with_reducible refine (eh t299 t301 _ A7.out).mono ?_
     rintro e w26 ⟨rfl, hb⟩
     refine ⟨_, rfl, ?_⟩
     replace BK297 := zJ BK297 hb
     replace HB := zM (ah zB hb)
     (try clear hb)
     refine hK.out _ _ trivial (fun hHeld => ?_)
     clear hK K
     refine zn 20 ?_
     refine zp HT_ 6 21 ?_
     refine zp HT_ 7 22 ?_
     refine zp HT_ 8 23 ?_
     refine zu HT_ 9 24 ?_
     refine zu HT_ 10 25 ?_
     refine zu HT_ 11 26 ?_
     refine zu HT_ 12 27 ?_
     refine zu HT_ 13 28 ?_
     refine zu HT_ 14 29 ?_
     refine zu HT_ 15 30 ?_
     refine zu HT_ 16 31 ?_
     refine zu HT_ 17 32 ?_
     refine zu HT_ 18 33 ?_
     refine zp HT_ 19 34 ?_
     refine zp HT_ 20 6 ?_
     refine zo HT_ ?_
     try go_wp2
     go_ret
     exact ⟨by first | rfl | (simp [al, ak] <;> rfl) | (simp [*, al, ak] <;> rfl), zB⟩
 · rw [if_neg c6] at H
   have c6b0 : (t300 == 1) = false := beq_eq_false_iff_ne.mpr c6
   have c6b1 : (t300 != 1) = true := bne_iff_ne.mpr c6
   obtain rfl := ao H
   go_enter Tryz.func68, Tryz.ntmps68
   try go_wp2_with (first | ((with_reducible refine ap (N := 3) rfl ?_); refine zb (w := w) 3 #[.int .i64 a0_0, .slice A0_1 l0_1.length c0_1] 30 zB ?_; clear HB; intro gb297 w27 HB BK297 GW297; have GE297 := GW297) | ((with_reducible refine ay (f := 88) rfl ?_); refine zc 12 Tryz.func88 #[.slice A1 l1.length c1, .slice A2 l2.length c2] ?_; (with_reducible refine (iu k _ _ l1 _ _ l2 t298 t299 _ ?side1 ?side2 ?side3 ?side4 A4.out).mono ?_); (case side1 => exact zC (Kd.C_below HR1.out HB.out)); (case side2 => exact HC1.out); (case side3 => exact zC (Kd.C_below HR2.out HB.out)); (case side4 => exact HC2.out); rintro e w' ⟨rfl, ⟨nd, rfl⟩⟩; refine ⟨_, rfl, ?_⟩))
   (try (rw [dE w27]; generalize hq_ : World.drewN w27 _ = w27; have n0_ : Aside0 (w27.heap[gb297]? = some (.cells #[.int .i64 a0_0, .slice A0_1 l0_1.length c0_1] 30 (0, 0))) := ⟨by rw [← hq_]; exact (zK BK297.out)⟩; have n1_ : Aside0 (Below w.heap.size w w27) := ⟨by rw [← hq_]; exact zB⟩; clear BK297 HB hq_; have BK297 := n0_; have HB := n1_; clear n0_ n1_))
   replace BK297 := zM (aq BK297.out)
   replace HB := zM (aC HB.out)
   refine zs (n := 21) (fun w' => True) trivial (fun hHeld => ?_); refine aH jF jG (fun HT_ HW_ => ?_)
   generalize w27.drew = w28 at BK297 HB hHeld ⊢
   refine zp HT_ 0 15 ?_
   refine zg HT_ 1 16 Tryz.func89 #[.int .u64 t298] (fun K hK => ?_)
   with_reducible refine (eh t298 t300 _ A5.out).mono ?_
   rintro e w29 ⟨rfl, hb⟩
   refine ⟨_, rfl, ?_⟩
   replace BK297 := zJ BK297 hb
   replace HB := zM (ah zB hb)
   (try clear hb)
   refine hK.out _ _ trivial (fun hHeld => ?_)
   clear hK K
   refine zn 16 ?_
   refine zp HT_ 2 17 ?_
   refine zp HT_ 3 18 ?_
   refine zu HT_ 4 19 ?_
   refine zu HT_ 5 20 ?_
   refine zu HT_ 6 21 ?_
   refine zp HT_ 7 22 ?_
   refine zp HT_ 8 23 ?_
   refine zu HT_ 9 24 ?_
   refine zu HT_ 10 25 ?_
   refine zu HT_ 11 26 ?_
   refine zu HT_ 12 27 ?_
   refine zu HT_ 13 28 ?_
   refine zu HT_ 14 29 ?_
   refine zu HT_ 15 30 ?_
   refine zu HT_ 16 31 ?_
   refine zu HT_ 17 32 ?_
   refine zu HT_ 18 33 ?_
   refine zp HT_ 19 34 ?_
   refine zp HT_ 20 6 ?_
   refine zo HT_ ?_
   try go_wp2
   go_ret
   exact ⟨by first | rfl | (simp [al, ak] <;> rfl) | (simp [*, al, ak] <;> rfl), zB⟩
theorem lG (l : List S69) : ∀ (k : Int), 0 ≤ k → k + 2 * (l.length : Int) ≤ 4611686018427387904 → (cq l k).1 = k + 2 * (l.length : Int) := by
 induction l with
 | nil => intro k h1 h2; simp [cq]
 | cons e t ih =>
  intro k h1 h2
  simp only [List.length_cons] at h2 ⊢
  simp only [cq]
  have e1 : wrap64 (k + 1) = k + 1 := b5 (by omega) (by omega)
  have e2 : wrap64 (k + 1 + 1) = k + 1 + 1 := b5 (by omega) (by omega)
  rw [e1, e2, ih (k + 1 + 1) (by omega) (by omega)]
  omega
theorem pI (a : Int) (l : List S69) (k : Int) : gr a l k = some ((cq l k).1, (cq l k).2) := rfl
theorem pJ (l : List S69) (hl : l.length ≤ 1048576) : ¬ (cq l 1).1 < 0 := by rw [lG l 1 (by omega) (by omega)]; omega
theorem gG (n : Int) (l : List S69) : ∀ p, bL n p l = true → ∀ e ∈ l, 0 ≤ e.f0 ∧ e.f0 < e.f1 ∧ e.f1 < n := by
 induction l with
 | nil => intro p h e he; simp at he
 | cons x t ih =>
  intro p h e he
  simp only [bL, Bool.and_eq_true, decide_eq_true_eq] at h
  obtain ⟨⟨⟨h1, h2⟩, h3⟩, h4, h5⟩ := h
  rcases List.mem_cons.1 he with rfl | he
  · exact ⟨h1, h2, h3⟩
  · exact ih _ h5 e he
theorem d7 {a : Int} {l : List S69} (h : bQ a l = true) : 0 ≤ a ∧ a ≤ 8 ∧ ∀ e ∈ l, 0 ≤ e.f0 ∧ e.f0 < e.f1 ∧ e.f1 < a := by
 simp only [bQ, Bool.and_eq_true, decide_eq_true_eq] at h
 exact ⟨h.1.1, h.1.2, gG a l none h.2⟩
def b4 (l : List S69) (x y : Int) : Bool := l.any fun e => (decide (e.f0 = x) && decide (e.f1 = y)) || (decide (e.f0 = y) && decide (e.f1 = x))
theorem pv (a : Int) (l : List S69) (x y : Int) (hl : l.length ≤ 1048576) (d : Nat) : ∀ (m : Nat), l.length - m = d → m ≤ l.length →
  Ev (fun k => cZ k x y (m : Int) a l) (b4 (l.drop m) x y) := by
 induction d with
 | zero =>
  intro m h0 h1
  refine Ev.step (fun k => by rw [cZ]) ?_
  rw [List.drop_eq_nil_of_le (by omega)]
  exact Ev.neg (by omega) (Ev.now _)
 | succ d ih =>
  intro m h0 h1
  have hm : m < l.length := by omega
  refine Ev.step (fun k => by rw [cZ]) ?_
  refine Ev.pos (by omega) (Ev.pos (by omega) ?_)
  have ihm := ih (m + 1) (by omega) (by omega)
  rw [← aY hm (by omega)] at ihm
  rw [dd l m hm, List.drop_eq_getElem_cons hm]
  simp only [b4, List.any_cons] at ihm ⊢
  generalize (l.drop (m + 1)).any _ = R at ihm ⊢
  by_cases c1 : l[m].f0 = x
  · refine Ev.pos c1 ?_
    by_cases c2 : l[m].f1 = y
    · refine Ev.pos c2 ?_
      rw [ag c1, ag c2]
      exact Ev.now _
    · refine Ev.neg c2 ?_
      rw [ar c2, Bool.and_false, Bool.false_or]
      by_cases c3 : l[m].f0 = y
      · refine Ev.pos c3 ?_
        by_cases c4 : l[m].f1 = x
        · refine Ev.pos c4 ?_
          rw [ag c3, ag c4]
          exact Ev.now _
        · refine Ev.neg c4 ?_
          rw [ar c4, Bool.and_false, Bool.false_or]
          exact ihm
      · refine Ev.neg c3 ?_
        rw [ar c3, Bool.false_and, Bool.false_or]
        exact ihm
  · refine Ev.neg c1 ?_
    rw [ar c1, Bool.false_and, Bool.false_or]
    by_cases c3 : l[m].f0 = y
    · refine Ev.pos c3 ?_
      by_cases c4 : l[m].f1 = x
      · refine Ev.pos c4 ?_
        rw [ag c3, ag c4]
        exact Ev.now _
      · refine Ev.neg c4 ?_
        rw [ar c4, Bool.and_false, Bool.false_or]
        exact ihm
    · refine Ev.neg c3 ?_
      rw [ar c3, Bool.false_and, Bool.false_or]
      exact ihm
theorem lC (a : Int) (l : List S69) (x y : Int) (hl : l.length ≤ 1048576) : Ev (fun k => f3 k a l x y) (b4 l x y) :=
 pv a l x y hl l.length 0 (by omega) (Nat.zero_le _)
theorem qx (l : List S69) (p q : Int) (hl : l.length ≤ 1048576) (d : Nat) : ∀ (m : Nat), l.length - m = d → m ≤ l.length →
  ∃ i : Int, (decide (i ≥ 0)) = ((l.drop m).any fun e => p == e.f0 && q == e.f1) ∧ Ev (fun k => dM k l (l.length : Int) (m : Int) p q) i := by
 induction d with
 | zero =>
  intro m h0 h1
  refine ⟨-1, by rw [List.drop_eq_nil_of_le (by omega)]; rfl, Ev.step (fun k => by rw [dM]) ?_⟩
  exact Ev.neg (by omega) (Ev.now _)
 | succ d ih =>
  intro m h0 h1
  have hm : m < l.length := by omega
  obtain ⟨i, hi, ihm⟩ := ih (m + 1) (by omega) (by omega)
  rw [← aY hm (by omega)] at ihm
  rw [List.drop_eq_getElem_cons hm, List.any_cons, ← hi]
  cases hc : (p == l[m].f0 && q == l[m].f1) with
  | true =>
   refine ⟨(m : Int), by simp, Ev.step (fun k => by rw [dM]) ?_⟩
   refine Ev.pos (by omega) (Ev.pos (by omega) (Ev.pos (by omega) ?_))
   rw [dd l m hm]
   exact Ev.pos hc (Ev.now _)
  | false =>
   refine ⟨i, by simp, Ev.step (fun k => by rw [dM]) ?_⟩
   refine Ev.pos (by omega) (Ev.pos (by omega) (Ev.pos (by omega) ?_))
   rw [dd l m hm]
   exact Ev.neg (by rw [hc]; decide) ihm
theorem j6 {α : Type} (l : List α) (f g : α → Bool) (h : ∀ e ∈ l, f e = g e) : l.any f = l.any g := by
 induction l with
 | nil => rfl
 | cons x t ih => rw [List.any_cons, List.any_cons, h x (List.mem_cons_self ..), ih fun e he => h e (List.mem_cons_of_mem _ he)]
theorem rh (a : Int) (l : List S69) (x y : Int) (hl : l.length ≤ 1048576) (hu : ∀ e ∈ l, e.f0 < e.f1) : Ev (fun k => gE k a l x y) (b4 l x y) := by
 unfold gE hJ hI
 obtain ⟨i, hi, h⟩ := qx l (mn x y) (mx x y) hl l.length 0 (by omega) (Nat.zero_le _)
 refine Ev.bindo rfl ?_
 refine Ev.bind (Ev.bind h (Ev.now _)) ?_
 have : b4 l x y = decide (i ≥ 0) := by
  rw [hi, List.drop_zero]
  unfold b4
  refine j6 l _ _ fun e he => ?_
  have := hu e he
  unfold mn mx
  by_cases c : y < x
  · have c2 : ¬ x < y := by omega
    rw [if_pos c, if_neg c2]
    rw [Bool.eq_iff_iff]
    simp only [Bool.or_eq_true, Bool.and_eq_true, decide_eq_true_eq, beq_iff_eq]
    omega
  · rw [if_neg c]
    by_cases c2 : x < y
    · rw [if_pos c2, Bool.eq_iff_iff]
      simp only [Bool.or_eq_true, Bool.and_eq_true, decide_eq_true_eq, beq_iff_eq]
      omega
    · rw [if_neg c2, Bool.eq_iff_iff]
      simp only [Bool.or_eq_true, Bool.and_eq_true, decide_eq_true_eq, beq_iff_eq]
      omega
 rw [this]
 exact Ev.now _
def bA (lo hi : Int) : Option Int → List Int → Bool
 | _, [] => true
 | p, x :: t => (decide (lo ≤ x) && decide (x ≤ hi)) && ((match p with | none => true | some q => decide (q < x)) && bA lo hi (some x) t)
def b9 (l : List Int) : Nat → Option Int
 | 0 => none
 | m + 1 => l[m]?
theorem kZ (l : List Int) (lo hi : Int) (m : Nat) (hm : m < l.length) : bA lo hi (b9 l m) (l.drop m) = ((decide (lo ≤ l[m]) && decide (l[m] ≤ hi)) && ((match b9 l m with | none => true | some q => decide (q < l[m])) && bA lo hi (b9 l (m + 1)) (l.drop (m + 1)))) := by
 rw [List.drop_eq_getElem_cons hm, show b9 l (m + 1) = some l[m] from List.getElem?_eq_getElem hm]
 cases b9 l m <;> rfl
theorem qj (l : List Int) (lo hi : Int) (hl : l.length ≤ 1048576) (d : Nat) : ∀ (m : Nat), l.length - m = d → m ≤ l.length →
  Ev (fun k => dp k l lo hi (m : Int)) (bA lo hi (b9 l m) (l.drop m)) := by
 induction d with
 | zero =>
  intro m h0 h1
  refine Ev.step (fun k => by rw [dp]) ?_
  rw [List.drop_eq_nil_of_le (by omega)]
  refine Ev.neg (by omega) ?_
  cases b9 l m <;> exact Ev.now _
 | succ d ih =>
  intro m h0 h1
  have hm : m < l.length := by omega
  refine Ev.step (fun k => by rw [dp]) ?_
  rw [kZ l lo hi m hm]
  refine Ev.pos (by omega) (Ev.pos (by omega) ?_)
  rw [bl l m hm]
  have ihm := ih (m + 1) (by omega) (by omega)
  rw [← aY hm (by omega)] at ihm
  generalize bA lo hi (b9 l (m + 1)) (l.drop (m + 1)) = R at ihm ⊢
  refine Ev.bindo (gA _ _ _) ?_
  cases hc : (decide (lo ≤ l[m]) && decide (l[m] ≤ hi)) with
  | false => rw [Bool.false_and]; exact Ev.neg (by decide) (Ev.now _)
  | true =>
   rw [Bool.true_and]
   refine Ev.pos rfl ?_
   cases m with
   | zero =>
    refine Ev.neg (by omega) ?_
    simp only [b9, Bool.true_and]
    exact ihm
   | succ q =>
    have hq : q < l.length := by omega
    have hw : wrap64 (((q + 1 : Nat) : Int) - 1) = (q : Int) := by unfold wrap64; omega
    refine Ev.pos (by omega) ?_
    rw [hw]
    refine Ev.pos (by omega) (Ev.pos (by omega) ?_)
    rw [bl l q hq]
    simp only [b9, List.getElem?_eq_getElem hq]
    by_cases c : l[q] ≥ l[q + 1]
    · rw [ar (by omega : ¬ l[q] < l[q + 1]), Bool.false_and]
      exact Ev.pos c (Ev.now _)
    · rw [ag (by omega : l[q] < l[q + 1]), Bool.true_and]
      exact Ev.neg c ihm
theorem qp (l : List Int) (n : Int) (hl : l.length ≤ 1048576) (d : Nat) : ∀ (m : Nat), l.length - m = d → m ≤ l.length →
  Ev (fun k => dy k l n l (l.length : Int) (m : Int)) (bA 0 (wrap64 (n - 1)) (b9 l m) (l.drop m)) := by
 induction d with
 | zero =>
  intro m h0 h1
  refine Ev.step (fun k => by rw [dy]) ?_
  rw [List.drop_eq_nil_of_le (by omega)]
  refine Ev.neg (by omega) ?_
  cases b9 l m <;> exact Ev.now _
 | succ d ih =>
  intro m h0 h1
  have hm : m < l.length := by omega
  refine Ev.step (fun k => by rw [dy]) ?_
  rw [kZ l 0 (wrap64 (n - 1)) m hm]
  refine Ev.pos (by omega) (Ev.pos (by omega) (Ev.pos (by omega) ?_))
  rw [bl l m hm]
  have ihm := ih (m + 1) (by omega) (by omega)
  rw [← aY hm (by omega)] at ihm
  generalize bA 0 (wrap64 (n - 1)) (b9 l (m + 1)) (l.drop (m + 1)) = R at ihm ⊢
  refine Ev.bindo (iE _ _ _) ?_
  cases hc : (decide (0 ≤ l[m]) && decide (l[m] ≤ wrap64 (n - 1))) with
  | false => rw [Bool.false_and]; exact Ev.neg (by decide) (Ev.now _)
  | true =>
   rw [Bool.true_and]
   refine Ev.pos rfl ?_
   cases m with
   | zero =>
    refine Ev.neg (by omega) ?_
    simp only [b9, Bool.true_and]
    exact ihm
   | succ q =>
    have hq : q < l.length := by omega
    have hw : wrap64 (((q + 1 : Nat) : Int) - 1) = (q : Int) := by unfold wrap64; omega
    refine Ev.pos (by omega) ?_
    rw [hw]
    refine Ev.pos (by omega) (Ev.pos (by omega) ?_)
    rw [bl l q hq]
    simp only [b9, List.getElem?_eq_getElem hq]
    by_cases c : l[q + 1] ≤ l[q]
    · rw [ar (by omega : ¬ l[q] < l[q + 1]), Bool.false_and]
      exact Ev.pos c (Ev.now _)
    · rw [ag (by omega : l[q] < l[q + 1]), Bool.true_and]
      exact Ev.neg c ihm
theorem oV (l : List Int) (n : Int) (hl : l.length ≤ 1048576) : Ev (fun k => iv k l n) (bA 0 (wrap64 (n - 1)) none l) :=
 qp l n hl l.length 0 (by omega) (Nat.zero_le _)
theorem qk (l : List Int) (lo hi : Int) (hl : l.length ≤ 1048576) : Ev (fun k => g9 k l lo hi) (bA lo hi none l) :=
 qj l lo hi hl l.length 0 (by omega) (Nat.zero_le _)
theorem qf (a : Int) (e : List S69) (l : List Int) (hl : l.length ≤ 1048576) : Ev (fun k => f2 k a e l) (bA 0 (wrap64 (a - 1)) none l) := by
 unfold f2
 exact Ev.bind (qk l _ _ hl) (Ev.now _)
theorem jg (lo hi : Int) (l : List Int) : ∀ p, bA lo hi p l = true → ∀ x ∈ l, lo ≤ x ∧ x ≤ hi := by
 induction l with
 | nil => intro p h x hx; simp at hx
 | cons y t ih =>
  intro p h x hx
  simp only [bA, Bool.and_eq_true, decide_eq_true_eq] at h
  rcases List.mem_cons.1 hx with rfl | hx
  · exact h.1
  · exact ih _ h.2.2 x hx
theorem la (lo hi : Int) (l : List Int) : ∀ p, bA lo hi p l = true → l.Pairwise (· < ·) ∧ ∀ q, p = some q → ∀ x ∈ l, q < x := by
 induction l with
 | nil => intro p _; exact ⟨.nil, fun _ _ x hx => by cases hx⟩
 | cons y t ih =>
  intro p h
  simp only [bA, Bool.and_eq_true, decide_eq_true_eq] at h
  obtain ⟨_, h2, h3⟩ := h
  obtain ⟨i1, i2⟩ := ih _ h3
  refine ⟨List.pairwise_cons.2 ⟨fun x hx => i2 y rfl x hx, i1⟩, fun q hq x hx => ?_⟩
  subst hq
  have h4 : q < y := by simpa using h2
  rcases List.mem_cons.1 hx with rfl | hx
  · exact h4
  · have := i2 y rfl x hx; omega
theorem oW (lo hi : Int) (l : List Int) : ∀ p, l.Pairwise (· < ·) → (∀ x ∈ l, lo ≤ x ∧ x ≤ hi) → (∀ q, p = some q → ∀ x ∈ l, q < x) → bA lo hi p l = true := by
 induction l with
 | nil => intro p _ _ _; cases p <;> rfl
 | cons y t ih =>
  intro p hp hb hq
  obtain ⟨h1, h2⟩ := List.pairwise_cons.1 hp
  have hy := hb y (.head _)
  have ih' := ih (some y) h2 (fun x hx => hb x (.tail _ hx)) (fun q e x hx => by injection e with e; subst e; exact h1 x hx)
  cases p with
  | none => simp only [bA, Bool.and_eq_true, decide_eq_true_eq, true_and]; exact ⟨hy, ih'⟩
  | some q => simp only [bA, Bool.and_eq_true, decide_eq_true_eq]; exact ⟨hy, hq q rfl y (.head _), ih'⟩
def aJ (b y : Int) : Bool := Go.bits .and .u64 (cO .u64 b y) 1 == 1
def dT (b x : Int) : Int := Go.bits .or .u64 b (cP .u64 1 x)
theorem tk : ∀ b : Fin 256, ∀ x : Fin 8, (0 ≤ dT b x ∧ dT b x < 256) ∧ ∀ y : Fin 8, aJ (dT b x) y = (aJ b y || decide (y = x)) := by decide +kernel
theorem ri : ∀ y : Fin 8, aJ 0 y = false := by decide +kernel
theorem dD {n : Nat} {b : Int} (h : 0 ≤ b) (h2 : b < (n : Int)) : ∃ i : Fin n, b = ((i.val : Nat) : Int) := ⟨⟨b.toNat, by omega⟩, by show b = ((b.toNat : Nat) : Int); omega⟩
theorem tl {b x : Int} (hb : 0 ≤ b ∧ b < 256) (hx : 0 ≤ x ∧ x < 8) : (0 ≤ dT b x ∧ dT b x < 256) ∧ ∀ y, 0 ≤ y → y < 8 → aJ (dT b x) y = (aJ b y || decide (y = x)) := by
 obtain ⟨i, rfl⟩ := dD (n := 256) hb.1 hb.2
 obtain ⟨j, rfl⟩ := dD (n := 8) hx.1 hx.2
 have h := tk i j
 refine ⟨h.1, fun y h0 h8 => ?_⟩
 obtain ⟨q, rfl⟩ := dD (n := 8) h0 h8
 rw [h.2 q]
 congr 1
 rw [decide_eq_decide]
 omega
theorem iA {y : Int} (h0 : 0 ≤ y) (h8 : y < 8) : aJ 0 y = false := by
 obtain ⟨q, rfl⟩ := dD (n := 8) h0 h8
 exact ri q
theorem ez {b y : Int} (h0 : 0 ≤ y) : ct b y = some (aJ b y) := by
 unfold ct
 rw [if_pos h0]
 rfl
def aZ (b : Int) (l : List Int) : Int := l.foldl dT b
theorem j4 (l : List Int) : ∀ (b : Int), 0 ≤ b ∧ b < 256 → (∀ x ∈ l, 0 ≤ x ∧ x < 8) → (0 ≤ aZ b l ∧ aZ b l < 256) ∧ ∀ y, 0 ≤ y → y < 8 → aJ (aZ b l) y = (aJ b y || decide (y ∈ l)) := by
 induction l with
 | nil => intro b hb _; exact ⟨hb, fun y _ _ => by simp [aZ]⟩
 | cons x t ih =>
  intro b hb hx
  have h1 := tl hb (hx x (List.mem_cons_self ..))
  have h2 := ih (dT b x) h1.1 (fun z hz => hx z (List.mem_cons_of_mem _ hz))
  refine ⟨h2.1, fun y h0 h8 => ?_⟩
  have := h2.2 y h0 h8
  rw [show aZ b (x :: t) = aZ (dT b x) t from rfl, this, h1.2 y h0 h8, Bool.or_assoc]
  congr 1
  rw [Bool.eq_iff_iff]
  simp only [Bool.or_eq_true, decide_eq_true_eq, List.mem_cons]
theorem ta (l : List Int) (hl : l.length ≤ 1048576) (hx : ∀ x ∈ l, 0 ≤ x ∧ x < 8) (d : Nat) : ∀ (b : Int) (m : Nat), l.length - m = d → m ≤ l.length →
  Ev (fun k => dQ k b l (l.length : Int) (m : Int)) (aZ b (l.drop m)) := by
 induction d with
 | zero =>
  intro b m h0 h1
  refine Ev.step (fun k => by rw [dQ]) (Ev.neg (by omega) ?_)
  rw [List.drop_eq_nil_of_le (by omega)]
  exact Ev.now _
 | succ d ih =>
  intro b m h0 h1
  have hm : m < l.length := by omega
  have := hx l[m] (List.getElem_mem hm)
  refine Ev.step (fun k => by rw [dQ]) (Ev.pos (by omega) (Ev.pos (by omega) (Ev.pos (by omega) ?_)))
  rw [bl l m hm, List.drop_eq_getElem_cons hm, aY hm (by omega)]
  exact Ev.pos this.1 (ih _ (m + 1) (by omega) (by omega))
theorem j3 (l : List Int) (hl : l.length ≤ 1048576) (hx : ∀ x ∈ l, 0 ≤ x ∧ x < 8) : Ev (fun k => fE k l) (aZ 0 l) :=
 ta l hl hx l.length 0 0 (by omega) (Nat.zero_le _)
theorem ql (l : List Int) (x : Int) (hl : l.length ≤ 1048576) (d : Nat) : ∀ (m : Nat), l.length - m = d → m ≤ l.length → Ev (fun k => d3 k l x (m : Int)) (decide (x ∈ l.drop m)) := by
 induction d with
 | zero =>
  intro m h0 h1
  refine Ev.step (fun k => by rw [d3]) (Ev.neg (by omega) ?_)
  rw [List.drop_eq_nil_of_le (by omega), ar (by simp)]
  exact Ev.now _
 | succ d ih =>
  intro m h0 h1
  have hm : m < l.length := by omega
  refine Ev.step (fun k => by rw [d3]) (Ev.pos (by omega) (Ev.pos (by omega) ?_))
  rw [bl l m hm, List.drop_eq_getElem_cons hm, aY hm (by omega)]
  by_cases c : l[m] = x
  · rw [ag (by rw [c]; exact List.mem_cons_self ..)]
    exact Ev.pos c (Ev.now _)
  · have h := ih (m + 1) (by omega) (by omega)
    rw [show decide (x ∈ l[m] :: l.drop (m + 1)) = decide (x ∈ l.drop (m + 1)) from by
     rw [decide_eq_decide, List.mem_cons]
     exact ⟨fun h => h.resolve_left (fun h => c h.symm), .inr⟩]
    exact Ev.neg c h
theorem qm (l : List Int) (x : Int) (hl : l.length ≤ 1048576) : Ev (fun k => f9 k l x) (decide (x ∈ l)) := by
 have := ql l x hl l.length 0 (by omega) (Nat.zero_le _)
 unfold f9
 simpa only [List.drop_zero, Int.natCast_zero] using this
def aI (f : Int → Bool) : Nat → Int → List Int
 | 0, _ => []
 | d + 1, y => (if f y = true then [y] else []) ++ aI f d (y + 1)
theorem oH (f : Int → Bool) (d : Nat) : ∀ y, (aI f d y).length ≤ d := by
 induction d with
 | zero => intro y; simp [aI]
 | succ d ih =>
  intro y
  have := ih (y + 1)
  simp only [aI, List.length_append]
  split <;> simp only [List.length_nil, List.length_cons] <;> omega
theorem oI (f g : Int → Bool) (d : Nat) : ∀ y, (∀ z, y ≤ z → z < y + (d : Int) → f z = g z) → aI f d y = aI g d y := by
 induction d with
 | zero => intro y _; rfl
 | succ d ih =>
  intro y h
  simp only [aI]
  rw [h y (by omega) (by omega), ih (y + 1) (fun z h1 h2 => h z (by omega) (by omega))]
theorem oG (f : Int → Bool) (d : Nat) : ∀ y, (∀ z, y ≤ z → z < y + (d : Int) → f z = false) → aI f d y = [] := by
 induction d with
 | zero => intro y _; rfl
 | succ d ih =>
  intro y h
  simp only [aI]
  rw [h y (by omega) (by omega), ih (y + 1) (fun z h1 h2 => h z (by omega) (by omega))]
  rfl
theorem kU (f : Int → Bool) (d e : Nat) : ∀ y, aI f (d + e) y = aI f d y ++ aI f e (y + (d : Int)) := by
 induction d with
 | zero => intro y; simp [aI]
 | succ d ih =>
  intro y
  rw [show d + 1 + e = (d + e) + 1 by omega]
  simp only [aI]
  rw [ih (y + 1), List.append_assoc, show y + 1 + (d : Int) = y + ((d + 1 : Nat) : Int) by omega]
theorem dc (f : Int → Bool) (d : Nat) : ∀ y z, z ∈ aI f d y ↔ (y ≤ z ∧ z < y + (d : Int)) ∧ f z = true := by
 induction d with
 | zero => intro y z; simp only [aI, List.not_mem_nil, false_iff]; omega
 | succ d ih =>
  intro y z
  simp only [aI, List.mem_append, ih]
  by_cases c : f y = true
  · rw [if_pos c, List.mem_singleton]
    constructor
    · rintro (rfl | h)
      · exact ⟨by omega, c⟩
      · exact ⟨by omega, h.2⟩
    · rintro ⟨h, hf⟩
      by_cases hz : z = y
      · exact .inl hz
      · exact .inr ⟨by omega, hf⟩
  · rw [if_neg c]
    constructor
    · rintro (h | h)
      · simp at h
      · exact ⟨by omega, h.2⟩
    · rintro ⟨h, hf⟩
      by_cases hz : z = y
      · subst hz; exact absurd hf c
      · exact .inr ⟨by omega, hf⟩
def th (n : Int) : Int := IntKind.u64.wrap ((cP .u64 1 n) - 1)
def cB (b c : Int) : Int := Go.bits .andNot .u64 b c
theorem s8 (b : Int) (d : Nat) : ∀ (y : Int) (acc : List Int), (8 - y).toNat = d → 0 ≤ y → acc.length + d ≤ 1000 → Ev (fun k => cE k b acc y) (acc ++ aI (aJ b) d y) := by
 induction d with
 | zero =>
  intro y acc h0 h1 h2
  refine Ev.step (fun k => by rw [cE]) (Ev.neg (by omega) ?_)
  simp only [aI, List.append_nil]
  exact Ev.now _
 | succ d ih =>
  intro y acc h0 h1 h2
  refine Ev.step (fun k => by rw [cE]) (Ev.pos (by omega) (Ev.pos (by omega) ?_))
  have hw : wrap64 (y + 1) = y + 1 := b5 (by omega) (by omega)
  rw [hw, aI]
  by_cases c : aJ b y = true
  · rw [if_pos c, ← List.append_assoc]
    refine Ev.pos (by simpa only [aJ, beq_iff_eq] using c) (Ev.pos (by omega) ?_)
    exact ih (y + 1) _ (by omega) (by omega) (by rw [List.length_append, List.length_singleton]; omega)
  · rw [if_neg c, List.nil_append]
    exact Ev.neg (by simpa only [aJ, beq_iff_eq] using c) (ih (y + 1) acc (by omega) (by omega) (by omega))
theorem jY (b : Int) : Ev (fun k => fD k b) (aI (aJ b) 8 0) := by
 unfold fD
 have := s8 b 8 0 [] (by omega) (by omega) (by simp)
 simpa only [List.nil_append] using this
theorem sB : m0 87 bH := by
 intro W x y A B c c' hx hc hy hc'
 refine (kQ (x.length + 1) A c x B c' y (bH x y) W hx hc hy hc' (kR x y hx.2.1 _ (Nat.lt_succ_self _))).mono ?_
 rintro e w' ⟨rfl, ⟨n, rfl⟩⟩
 exact ⟨rfl, n, #[], (Sort.grow_empty _).symm⟩
theorem jq : ltOf bH = aE := by
 funext x y
 unfold ltOf
 rw [Bool.eq_iff_iff, decide_eq_true_eq]
 exact jS x y
theorem nv : Sort.SWO aE := ⟨gT, fun x y z => gR x y z, fun x y z => mF⟩
theorem sortLists.calls (P0_ : Nat → Prop) (u9000_ : Value) (l0 : List (List Int)) (w0 w : World) (hB : Below w0.heap.size w0 w) (ho0 : Kd.S (Kd.slice 3 (Kd.int .i64)) 25 w w0.heap.size P0_ u9000_ l0) (hlen : l0.length < 4611686018427387904) :
  Calls Tryz.prog 86 #[u9000_, .func (.func 87) #[] #[]] w fun e w' => e = .returned (.tuple #[]) ∧ Kd.S (Kd.slice 3 (Kd.int .i64)) 25 w' w0.heap.size (fun k_ => (P0_ k_ ∨ w.heap.size ≤ k_)) u9000_ (bJ l0) ∧ Below w0.heap.size w0 w' ∧ Kept w w' (fun k_ => P0_ k_) := by
 have h := ol Tryz.laysSlF6_f86 Tryz.laysSlF06_f86 86 rfl rfl bH (by rw [jq]; exact nv) (by rw [jq]; exact iF) 87 (enters_of Tryz.func87 (by kernel_rfl) rfl) sB P0_ u9000_ l0 w0 w hB ho0 hlen
 rw [jq] at h
 exact h
def bS (p : Int → Bool) (n : Nat) : List (List Int) := (aI p n 0).map fun b => aI (aJ b) 8 0
theorem mz (p : Int → Bool) (n : Nat) : bS p (n + 1) = bS p n ++ (if p (n : Int) = true then [aI (aJ (n : Int)) 8 0] else []) := by
 unfold bS
 rw [kU, List.map_append]
 congr 1
 simp only [aI, List.append_nil, Int.zero_add]
 split <;> rfl
theorem gM (p : Int → Bool) (n : Nat) : (bS p n).length ≤ n := by
 unfold bS
 rw [List.length_map]
 exact oH p n 0
theorem tg : ∀ n : Fin 9, th n = ((2 ^ n.val - 1 : Nat) : Int) := by decide +kernel
theorem td (a : Int) (l : List S69) (h0 : 0 ≤ a) (h8 : a ≤ 8) : iz a l = some ((2 ^ a.toNat - 1 : Nat) : Int) := by
 unfold iz
 rw [if_pos h0]
 obtain ⟨i, rfl⟩ := dD (n := 9) h0 (by omega)
 exact congrArg some (tg i)
def PredN (g : Nat) (lb : Array Value) (p : Int → Bool) (N : Nat) (w : World) : Prop :=
 ∀ (W : World) (b : Int), 0 ≤ b → b < (N : Int) → Below w.heap.size w W → Calls Tryz.prog g (#[.int .u64 b] ++ lb) W fun e w' => e = .returned (.bool (p b)) ∧ Below W.heap.size W w'
theorem PredN.mono {g : Nat} {lb : Array Value} {p : Int → Bool} {N : Nat} {w w' : World} (h : PredN g lb p N w) (hb : Below w.heap.size w w') : PredN g lb p N w' := fun W b h0 h1 h2 => h W b h0 h1 (ah hb h2)
set_option maxHeartbeats 2000000 in
theorem oz (g : Nat) (lb : Array Value) (eg : ∀ (args : Array Value) (w : World), (callFunc g args).run Tryz.prog w = .ok (.enter g args) w) (p : Int → Bool) (a0 : Int) (h0 : 0 ≤ a0) (h8 : a0 ≤ 8) (A1 : Option Addr) (c1 : Nat) (l1 : List S69) (w : World)
  (hr : Kd.C k69 w A1 l1.length l1) (hc : l1.length ≤ c1) (hp : PredN g lb p (2 ^ a0.toNat) w) :
  Calls Tryz.prog 97 #[.agg #[.int .i64 a0, .slice A1 l1.length c1], .func (.func g) #[] lb] w fun e w' => ∃ v : Value, e = .returned v ∧ Kd.S (Kd.slice 3 (Kd.int .i64)) 25 w' w.heap.size (fun _ => True) v (bJ (bS p (2 ^ a0.toNat))) ∧ Below w.heap.size w w' := by
 have hu43 := Tryz.underlying30
 have hpow : 2 ^ a0.toNat ≤ 256 := Nat.pow_le_pow_right (n := 2) (by decide) (show a0.toNat ≤ 8 by omega)
 have hpos : 0 < 2 ^ a0.toNat := Nat.pow_pos (by decide)
 obtain ⟨M, hM⟩ : ∃ M : Nat, 2 ^ a0.toNat = M + 1 := ⟨2 ^ a0.toNat - 1, by omega⟩
 have hall := td a0 l1 h0 h8
 rw [hM, Nat.add_sub_cancel] at hall
 rw [hM] at hpow hp ⊢
 have HAL := zM hall
 have HM := zM hpow
 have HR := zM hr
 have HC := zM hc
 have HP := zM hp
 have HB := zM (Below.refl w.heap.size w)
 clear hr hc hp hall hpow hpos hM h0 h8
 go_enter Tryz.func97, Tryz.ntmps97
 go_wp2_with (first | ((with_reducible refine ap (N := 2) rfl ?_); refine zb (w := w) 2 #[.int .i64 a0, .slice A1 l1.length c1] 30 zB ?_; clear HB; intro gb w3 HB BK GW) | ((with_reducible refine ap (N := 7) rfl ?_); refine Kd.S_lit (Kd.slice 3 (Kd.int .i64)) _ 25 ?hg (N := 7) ?hd (xs := ([] : List (List Int))) (inner := []) (ok := fun _ => True) (okp := fun _ => True) ?hr ?hp (fun _ hk => hk) trivial (Below.refl _ _) (au _) (by simp) ?_; (case hd => rfl); (case hg => rfl); (case hr => first | (go_simp; done) | (go_simp; rfl)); (case hp => exact (Reps.none _ _)); intro v4 w4 ho5 hb hg_ hnew_; clear hg_ hnew_; have HO := zM (Kd.S_lower ho5 (ai zB)); replace BK := zM (bo (zK BK.out) hb); replace HB := zM (ah zB hb); clear hb ho5))
 go_loopg [5, 6] (M + 2) (fun kq v5 v6 w' => ∃ (m : Nat), v6 = .int .u64 (m : Int) ∧ Aside0 (m ≤ M + 1) ∧ Aside0 (kq = M + 2 - m) ∧ Aside0 (Kd.S (Kd.slice 3 (Kd.int .i64)) 25 w' w.heap.size (fun _ => True) v5 (bS p m)) ∧ Aside0 (w'.heap[gb]? = some (.cells #[.int .i64 a0, .slice A1 l1.length c1] 30 (0, 0))) ∧ Aside0 (Below w.heap.size w w'))
 case atStart => exact ⟨0, by first | rfl | (simp; done), ⟨Nat.zero_le _⟩, ⟨by omega⟩, HO, BK, HB⟩
 case round =>
  clear HO BK HB
  obtain ⟨m, rfl, HM1, HK1, HO, BK, HB⟩ := hrel
  have hcz0 := zy BK 0
  have hcz1 := zy BK 1
  have hfz0 := ae BK.out 0
  have hfz1 := ae BK.out 1
  by_cases c1_ : m ≤ M
  · have q1 : (m : Int) ≤ (M : Int) := by omega
    have c1b : decide ((m : Int) ≤ (M : Int)) = true := ag q1
    have c1c : decide (m ≤ M) = true := ag c1_
    have HW := zM (show IntKind.u64.wrap ((m : Int) + 1) = ((m + 1 : Nat) : Int) by have := HM.out; show ((m : Int) + 1) % 18446744073709551616 = _; omega)
    have HLe := zM c1_
    have HX := zM (HP.out.mono HB.out)
    have HLn := zM (gM p m)
    have HS := zM (mz p m)
    obtain ⟨kf, hf⟩ := Ev.rounds (jY (m : Int))
    have HF := zM hf
    clear q1 c1_ hf
    cases hq : p (m : Int) with
    | true =>
     rw [hq, if_pos rfl] at HS
     have HQ := zM hq
     clear hq
     generalize bS p m = xs at HO HLn HS
     go_wp2_with (first
      | (go_at_call 122; refine (jI a0 _ _ l1 (M : Int) _ (zC (Kd.C_below HR.out HB.out)) HC.out HAL.out).mono ?_; rintro e w5 ⟨rfl, hb⟩; replace HO := zM (Kd.S_below HO.out hb); replace BK := zM (bo (zK BK.out) hb); replace HX := zM (HX.out.mono hb); replace HB := zM (ah zB hb); clear hb)
      | (go_at_fn g; refine (HX.out _ (m : Int) (by omega) (by have := HLe.out; omega) (Below.refl _ _)).mono ?_; rw [HQ.out]; rintro e w6 ⟨rfl, hb⟩; replace HO := zM (Kd.S_below HO.out hb); replace BK := zM (bo (zK BK.out) hb); replace HB := zM (ah zB hb); clear hb)
      | (go_at_call 76; refine (jC kf _ (aI (aJ (m : Int)) 8 0) _ HF.out).mono ?_; rintro e w7 ⟨v7, rfl, ho0, hb⟩; replace HO := zM (Kd.S_elder' HO.out (Kd.R_base ho0) hb); have HI := zM (Kd.R_lower ho0 (ai zB)); replace BK := zM (bo (zK BK.out) hb); replace HB := zM (ah zB hb); clear ho0 hb; generalize aI (aJ (m : Int)) 8 0 = row at HI HS; obtain ⟨Ao, co, eo⟩ := Kd.R_slice HI.out; subst eo)
      | ((with_reducible refine br (b := .append) (xs := #[.tmp 17, .tmp 20]) rfl ?_); at_builtin; refine Kd.S_append (Kd.slice 3 (Kd.int .i64)) (w0 := w) w.heap.size rfl (.tmp 17) (.tmp 20) 27 25 (.slice none 0 0) 24 rfl Tryz.underlying27 bR rfl (by decide) (by omega) u5 xs row [.slice Ao row.length co] (fun _ => True) (fun k_ => some k_ = (.slice Ao row.length co : Value).ownBlock) rfl rfl ?aP (fun k_ hk_ => ((Kd.R_mono (ok' := fun k_ => ((fun _ => True)) k_ ∧ some k_ ≠ (u5 : Value).ownBlock) (Kd.R_apart' (HI.out) (Kd.S_typed HO.out) (by decide)) (fun k_ hk => ⟨trivial, hk.2⟩))).1 k_ hk_.symm) ?aF ?aO ?aB ?aS ?aL ?_; (case aP => exact Kd.M_row (Kd.R_mono (Kd.R_tight rfl (Kd.R_mono (ok' := fun k_ => ((fun _ => True)) k_ ∧ some k_ ≠ (u5 : Value).ownBlock) (Kd.R_apart' (HI.out) (Kd.S_typed HO.out) (by decide)) (fun k_ hk => ⟨trivial, hk.2⟩))) (fun _ h_ => h_))); (case aB => exact zB); (case aF => exact (fun _ _ => trivial)); (case aO => exact (by (with_reducible repeat (first | apply Kd.S_alloc | apply Kd.S_drewN | apply Kd.S_drew)); exact Kd.S_mono HO.out (fun k_ hk => ⟨trivial, fun e_ => hk.2 e_⟩))); (case aS => exact (ai zB)); (case aL => have := HLn.out; have := HM.out; have := HLe.out; omega); intro v8 w8 ho hb hg hat; rw [← HS.out] at ho; replace BK := zM (bc (zK BK.out) hg (Kd.S_ne HO.out BK.out (by decide))); replace HB := zM hb; replace HO := zM ho; clear ho hb hg hat))
     go_roundg (M + 1 - m)
     case measure => have := HK1.out; have := HLe.out; omega
     case rel => exact ⟨m + 1, by first | rfl | exact congrArg (Value.int .u64) HW.out | (rw [HW.out]; done), ⟨by have := HLe.out; omega⟩, ⟨by omega⟩, HO, BK, HB⟩
    | false =>
     rw [hq, if_neg (by decide), List.append_nil] at HS
     have HQ := zM hq
     clear hq
     rw [← HS.out] at HO
     go_wp2_with (first
      | (go_at_call 122; refine (jI a0 _ _ l1 (M : Int) _ (zC (Kd.C_below HR.out HB.out)) HC.out HAL.out).mono ?_; rintro e w5 ⟨rfl, hb⟩; replace HO := zM (Kd.S_below HO.out hb); replace BK := zM (bo (zK BK.out) hb); replace HX := zM (HX.out.mono hb); replace HB := zM (ah zB hb); clear hb)
      | (go_at_fn g; refine (HX.out _ (m : Int) (by omega) (by have := HLe.out; omega) (Below.refl _ _)).mono ?_; rw [HQ.out]; rintro e w6 ⟨rfl, hb⟩; replace HO := zM (Kd.S_below HO.out hb); replace BK := zM (bo (zK BK.out) hb); replace HB := zM (ah zB hb); clear hb))
     go_roundg (M + 1 - m)
     case measure => have := HK1.out; have := HLe.out; omega
     case rel => exact ⟨m + 1, by first | rfl | exact congrArg (Value.int .u64) HW.out | (rw [HW.out]; done), ⟨by have := HLe.out; omega⟩, ⟨by omega⟩, HO, BK, HB⟩
  · have q1 : ¬ (m : Int) ≤ (M : Int) := by omega
    have c1b : decide ((m : Int) ≤ (M : Int)) = false := ar q1
    have c1c : decide (m ≤ M) = false := ar c1_
    have hm : m = M + 1 := by have := HM1.out; omega
    have HE := zM hm
    have HLn := zM (gM p m)
    clear q1 c1_ hm
    go_wp2_with (first
      | (go_at_call 122; refine (jI a0 _ _ l1 (M : Int) _ (zC (Kd.C_below HR.out HB.out)) HC.out HAL.out).mono ?_; rintro e w5 ⟨rfl, hb⟩; replace HO := zM (Kd.S_below HO.out hb); replace BK := zM (bo (zK BK.out) hb); replace HB := zM (ah zB hb); clear hb)
      | (go_at_call 86; refine (sortLists.calls (fun _ => True) _ (bS p m) w _ HB.out HO.out (by have := HLn.out; have := HE.out; have := HM.out; omega)).mono ?_; rintro e w9 ⟨rfl, ho, hb, hk⟩; replace HO := zM (Kd.S_mono (ok' := fun _ => True) ho (fun _ _ => trivial)); replace HB := zM hb; clear ho hb hk))
    go_ret
    exact ⟨_, rfl, by rw [← HE.out]; exact HO.out, HB.out⟩
section
variable {α : Type} {d : Kd α} {e base : Nat} {ok S : Nat → Prop} {w W W1 : World} {v : Value} {xs : List α} {g : Nat} {o : Obj}
theorem uR (hB : Below w.heap.size w W) (h : d.R e W1 W.heap.size (fun _ => True) v xs) : Aside0 (d.R e W1 w.heap.size (fun k => W.heap.size ≤ k ∧ k < W1.heap.size) v xs) :=
 ⟨Kd.R_mono (Kd.R_lower (Kd.R_bound h) (ai hB)) (fun k hk => ⟨hk.2.1, hk.2.2.1⟩)⟩
theorem uS (hB : Below w.heap.size w W) (h : Kd.S d e W1 W.heap.size (fun _ => True) v xs) : Aside0 (Kd.S d e W1 w.heap.size (fun k => W.heap.size ≤ k ∧ k < W1.heap.size) v xs) :=
 ⟨Kd.S_mono (Kd.S_lower (Kd.S_bound h) (ai hB)) (fun k hk => ⟨hk.2.1, hk.2.2.1⟩)⟩
theorem uV (hB : Below w.heap.size w W) (h : Kd.V d e W1 W.heap.size (fun k_ => W.heap.size ≤ k_) v xs) : Aside0 (Kd.V d e W1 w.heap.size (fun k => W.heap.size ≤ k ∧ k < W1.heap.size) v xs) :=
 ⟨Kd.V_mono (Kd.V_lower (Kd.V_bound h) (ai hB)) (fun k hk => ⟨hk.1, hk.2⟩)⟩
theorem bN (h : Aside0 (Kd.V d e W base ok v xs)) (hb : Below W.heap.size W W1) : Aside0 (Kd.V d e W1 base ok v xs) := ⟨Kd.V_below h.out hb⟩
theorem fU (h : Aside0 (Kd.V d e W base ok v xs)) (hk : Kept W W1 S) (hne : ∀ k, ok k → ¬ S k) : Aside0 (Kd.V d e W1 base ok v xs) := ⟨Kd.V_kept h.out hk hne⟩
theorem bd (h : Aside0 (d.R e W base ok v xs)) (hb : Below W.heap.size W W1) : Aside0 (d.R e W1 base ok v xs) := ⟨Kd.R_below h.out hb⟩
theorem cl (h : Aside0 (Kd.S d e W base ok v xs)) (hb : Below W.heap.size W W1) : Aside0 (Kd.S d e W1 base ok v xs) := ⟨Kd.S_below h.out hb⟩
theorem bj (h : Aside0 (W.heap[g]? = some o)) (hb : Below W.heap.size W W1) : Aside0 (W1.heap[g]? = some o) := ⟨bo h.out hb⟩
theorem gW (h : Aside0 (d.R e W base ok v xs)) (hk : Kept W W1 S) (hne : ∀ k, ok k → ¬ S k) : Aside0 (d.R e W1 base ok v xs) := ⟨Kd.R_kept h.out hk hne⟩
theorem iO (h : Aside0 (Kd.S d e W base ok v xs)) (hk : Kept W W1 S) (hne : ∀ k, ok k → ¬ S k) : Aside0 (Kd.S d e W1 base ok v xs) := ⟨Kd.S_kept h.out hk hne⟩
theorem fV (h : Aside0 (W.heap[g]? = some o)) (hk : Kept W W1 S) (hne : ¬ S g) : Aside0 (W1.heap[g]? = some o) := ⟨gQ h.out hk hne⟩
theorem kv {P : Program} {f : FuncId} {args : Array Value} {Q : Ending → World → Prop} {t : TypeId} {x y a b : Value} (hb : Aside0 (W.heap[g]? = some (.cells #[x, y] t (0, 0)))) (hB : Aside0 (Below w.heap.size w W)) (hg : w.heap.size ≤ g)
  (h : ∀ W', Aside0 (W'.heap[g]? = some (.cells #[a, b] t (0, 0))) → Kept W W' (fun k => k = g) → Aside0 (Below w.heap.size w W') → Calls P f args W' Q) : Calls P f args ((W.setCell ⟨g, 0, none⟩ a).setCell ⟨g, 1, none⟩ b) Q :=
 h _ ⟨aD (cs := #[a, y]) (aD (cs := #[x, y]) hb.out 0 a rfl) 1 b rfl⟩ (Kept.setCell (Kept.setCell (Kept.refl W (fun k => k = g)) (p := ⟨g, 0, none⟩) (.inl rfl) a) (p := ⟨g, 1, none⟩) (.inl rfl) b) ⟨bz (bz hB.out hg) hg⟩
theorem kw {P : Program} {f : FuncId} {args args' : Array Value} {Q : Ending → World → Prop} (h : args = args') (k : Calls P f args' W Q) : Calls P f args W Q := h ▸ k
end
end Go.Proofs.YtadjbmcfgjmhkaaGreat.P
