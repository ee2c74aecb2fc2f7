import Derived.Test.YtadjbmcfgjmhkaaGreatSlideWalkG13
namespace Go.Proofs.YtadjbmcfgjmhkaaGreat.P
open Go.RowKit YtadjbmcfgjmhkaaGreatW.PrintWords YtadjbmcfgjmhkaaGreatW.PrintLast YtadjbmcfgjmhkaaGreatW.PrintMore
attribute [local go_sem] aX aT aU aM aV aN aW aQ
set_option linter.unusedVariables false
set_option linter.unusedSimpArgs false
def eC (k : Nat) (a0_0 : Int) (l0_1 : List (S69)) (a1 : Int) (l2 : List Int) (l3 : List Int) : Option (Bool) := (fa k l2 l3).bind fun t414 => ((fa k l3 l2).bind fun t417 => (if a1 = 2 then (some ((wrap64 ((t414.length : Int) + (t417.length : Int))) == 1)) else (if (t414.length : Int) = 1 then (if (t417.length : Int) = 1 then (if a1 = 1 then (some true) else (if 0 < (t414.length : Int) then (if 0 < (t417.length : Int) then ((f3 k a0_0 l0_1 (rd t414 0) (rd t417 0)).bind fun t422 => (some t422)) else (none)) else (none))) else (some false)) else (some false))))
def spec_l3Step.T4 : Bool × List (List Nat × List Nat) := (true, [([], []), ([0], [0]), ([1], [1]), ([2], [2]), ([3], [3]), ([4, 3], [3, 4]), ([5, 3], [3, 5]), ([3, 6], [3, 6]), ([7, 3], [7]), ([8], [8]), ([9, 8], [8, 9]), ([10, 8, 8], [8, 10]), ([11], [11]), ([11], [11]), ([13, 11], [11, 13]), ([14, 11], [11, 14]), ([11], [11]), ([16, 11], [11, 16]), ([17, 11], [11, 17]), ([12, 15, 18, 11, 11], [11, 12, 15, 18]), ([11, 19, 8], [8, 11, 19]), ([8, 20], [8, 20]), ([21, 19, 0, 1, 2, 3, 4, 5, 6, 7, 8, 9, 10, 11, 12, 13, 14, 15, 16, 17, 18, 19, 20, 21], [21])])
def nL : List Nat := [0, 1, 3, 7, 15, 31, 63, 127, 255, 511, 1023, 2047, 4095, 4095, 12287, 28671, 4095, 69631, 200703, 524287, 1048575, 2097151, 4194303]
theorem gY : aG .any (bP Tryz.f54 4) = spec_l3Step.T4 := by kernel_rfl
theorem gZ : bC spec_l3Step.T4.2 nL = true := by kernel_rfl
set_option maxHeartbeats 8000000 in
set_option maxRecDepth 100000 in
theorem kA (k : Nat) (a0_0 : Int) (A0_1 : Option Addr) (c0_1 : Nat) (l0_1 : List (S69)) (a1 : Int) (A2 : Option Addr) (c2 : Nat) (l2 : List Int) (A3 : Option Addr) (c3 : Nat) (l3 : List Int) (r : Bool) (w : World) (hr0_1 : Kd.C k69 w A0_1 l0_1.length l0_1) (hc0_1 : l0_1.length ≤ c0_1) (hr2 : Kd.C (Kd.int .i64) w A2 l2.length l2) (hc2 : l2.length ≤ c2) (hr3 : Kd.C (Kd.int .i64) w A3 l3.length l3) (hc3 : l3.length ≤ c3) (h : eC k a0_0 l0_1 a1 l2 l3 = some r) :
 Calls Tryz.prog 54 #[.agg #[.int .i64 a0_0, .slice A0_1 l0_1.length c0_1], .int .i64 a1, .slice A2 l2.length c2, .slice A3 l3.length c3] w fun e w' => e = .returned (.bool r) ∧ Below w.heap.size w w' := by
 have hu30 := Tryz.underlying30
 have HR0_1 := Aside0.mk hr0_1
 have HC0_1 := Aside0.mk hc0_1
 clear hr0_1 hc0_1
 have HR2 := Aside0.mk hr2
 have HC2 := Aside0.mk hc2
 clear hr2 hc2
 have HR3 := Aside0.mk hr3
 have HC3 := Aside0.mk hc3
 clear hr3 hc3
 have HB := zM (Below.refl w.heap.size w)
 have H := h
 unfold eC at H
 clear h
 replace H := ax H
 obtain ⟨t414, A50, H⟩ := H
 have A5 := Aside0.mk A50
 clear A50
 replace H := ax H
 obtain ⟨t417, A60, H⟩ := H
 have A6 := Aside0.mk A60
 clear A60
 by_cases c7 : a1 = 2
 · rw [if_pos c7] at H
   have c7b0 : (a1 == 2) = true := beq_iff_eq.mpr c7
   have c7b1 : (a1 != 2) = false := bne_eq_false_iff_eq.mpr c7
   clear c7
   obtain rfl := ao H
   go_enter Tryz.func54, Tryz.ntmps54
   go_wp2_with (first | ((with_reducible refine ap (N := 4) rfl ?_); (try (refine gH (by rfl) ?_; dsimp only)); refine zb (w := w) 4 #[.int .i64 a0_0, .slice A0_1 l0_1.length c0_1] 30 zB ?_; clear HB; intro gb413 w8 HB BK413 GW413; have GE413 := GW413) | ((with_reducible refine ay (f := 73) rfl ?_); refine zc 13 Tryz.func73 #[.slice A2 l2.length c2, .slice A3 l3.length c3] ?_; (with_reducible refine (dm k _ _ l2 _ _ l3 t414 _ ?side1 ?side2 ?side3 ?side4 A5.out).mono ?_); (case side1 => exact zC (Kd.C_below HR2.out HB.out)); (case side2 => exact HC2.out); (case side3 => exact zC (Kd.C_below HR3.out HB.out)); (case side4 => exact HC3.out); rintro e w9 ⟨v415, rfl, ho0, hb⟩; refine ⟨_, rfl, ?_⟩; have HO416 := zM (Kd.R_lower ho0 (ai zB)); replace BK413 := zJ BK413 hb; replace HB := zM (ah zB hb); (try clear hb); (try clear ho0)) | ((with_reducible refine ay (f := 73) rfl ?_); refine zc 16 Tryz.func73 #[.slice A3 l3.length c3, .slice A2 l2.length c2] ?_; (with_reducible refine (dm k _ _ l3 _ _ l2 t417 _ ?side1 ?side2 ?side3 ?side4 A6.out).mono ?_); (case side1 => exact zC (Kd.C_below HR3.out HB.out)); (case side2 => exact HC3.out); (case side3 => exact zC (Kd.C_below HR2.out HB.out)); (case side4 => exact HC2.out); rintro e w10 ⟨v418, rfl, ho0, hb⟩; refine ⟨_, rfl, ?_⟩; have HO419 := zM (Kd.R_lower (Kd.R_new' ho0 (Kd.R_lt (zR HO416.out))) (ai zB)); replace HO416 := zM (Kd.R_elder' (zR HO416.out) (Kd.R_base ho0) hb); replace BK413 := zJ BK413 hb; replace HB := zM (ah zB hb); (try clear hb); (try clear ho0); obtain ⟨Ao11, co11, eo11⟩ := Kd.R_slice HO416.out; subst eo11; obtain ⟨Ao12, co12, eo12⟩ := Kd.R_slice HO419.out; subst eo12))
   go_ret
   exact ⟨by first | rfl | (simp [al, ak] <;> rfl) | (simp [*, al, ak] <;> rfl), zB⟩
 · rw [if_neg c7] at H
   have c7b0 : (a1 == 2) = false := beq_eq_false_iff_ne.mpr c7
   have c7b1 : (a1 != 2) = true := bne_iff_ne.mpr c7
   by_cases c13 : (t414.length : Int) = 1
   · rw [if_pos c13] at H
     have c13b0 : ((t414.length : Int) == 1) = true := beq_iff_eq.mpr c13
     have c13b1 : ((t414.length : Int) != 1) = false := bne_eq_false_iff_eq.mpr c13
     clear c13
     by_cases c14 : (t417.length : Int) = 1
     · rw [if_pos c14] at H
       have c14b0 : ((t417.length : Int) == 1) = true := beq_iff_eq.mpr c14
       have c14b1 : ((t417.length : Int) != 1) = false := bne_eq_false_iff_eq.mpr c14
       clear c14
       by_cases c15 : a1 = 1
       · rw [if_pos c15] at H
         have c15b0 : (a1 == 1) = true := beq_iff_eq.mpr c15
         have c15b1 : (a1 != 1) = false := bne_eq_false_iff_eq.mpr c15
         clear c15
         obtain rfl := ao H
         go_enter Tryz.func54, Tryz.ntmps54
         try go_wp2_with (first | ((with_reducible refine ap (N := 4) rfl ?_); (try (refine gH (by rfl) ?_; dsimp only)); refine zb (w := w) 4 #[.int .i64 a0_0, .slice A0_1 l0_1.length c0_1] 30 zB ?_; clear HB; intro gb413 w16 HB BK413 GW413; have GE413 := GW413) | ((with_reducible refine ay (f := 73) rfl ?_); refine zc 13 Tryz.func73 #[.slice A2 l2.length c2, .slice A3 l3.length c3] ?_; (with_reducible refine (dm k _ _ l2 _ _ l3 t414 _ ?side1 ?side2 ?side3 ?side4 A5.out).mono ?_); (case side1 => exact zC (Kd.C_below HR2.out HB.out)); (case side2 => exact HC2.out); (case side3 => exact zC (Kd.C_below HR3.out HB.out)); (case side4 => exact HC3.out); rintro e w17 ⟨v415, rfl, ho0, hb⟩; refine ⟨_, rfl, ?_⟩; have HO416 := zM (Kd.R_lower ho0 (ai zB)); replace BK413 := zJ BK413 hb; replace HB := zM (ah zB hb); (try clear hb); (try clear ho0)) | ((with_reducible refine ay (f := 73) rfl ?_); refine zc 16 Tryz.func73 #[.slice A3 l3.length c3, .slice A2 l2.length c2] ?_; (with_reducible refine (dm k _ _ l3 _ _ l2 t417 _ ?side1 ?side2 ?side3 ?side4 A6.out).mono ?_); (case side1 => exact zC (Kd.C_below HR3.out HB.out)); (case side2 => exact HC3.out); (case side3 => exact zC (Kd.C_below HR2.out HB.out)); (case side4 => exact HC2.out); rintro e w18 ⟨v418, rfl, ho0, hb⟩; refine ⟨_, rfl, ?_⟩; have HO419 := zM (Kd.R_lower (Kd.R_new' ho0 (Kd.R_lt (zR HO416.out))) (ai zB)); replace HO416 := zM (Kd.R_elder' (zR HO416.out) (Kd.R_base ho0) hb); replace BK413 := zJ BK413 hb; replace HB := zM (ah zB hb); (try clear hb); (try clear ho0)))
         replace HO416 := zM (Kd.R_drew HO416.out)
         replace HO419 := zM (Kd.R_drew HO419.out)
         replace BK413 := zM (aq BK413.out)
         replace HB := zM (aC HB.out)
         obtain ⟨Ao20, co20, eo20⟩ := Kd.R_slice HO416.out
         (first | subst eo20 | (injection eo20 with f1_ f2_ f3_; have f4_ := f1_.symm; have f5_ := f3_.symm; clear f1_ f2_ f3_; subst f4_; subst f5_))
         obtain ⟨Ao21, co21, eo21⟩ := Kd.R_slice HO419.out
         (first | subst eo21 | (injection eo21 with f1_ f2_ f3_; have f4_ := f1_.symm; have f5_ := f3_.symm; clear f1_ f2_ f3_; subst f4_; subst f5_))
         refine zs (n := 23) (fun w' => True) trivial (fun hHeld => ?_); refine aH gY gZ (fun HT_ HW_ => ?_)
         generalize w18.drew = w19 at HO416 HO419 BK413 HB hHeld ⊢
         refine zp HT_ 0 25 ?_
         refine zp HT_ 1 26 ?_
         refine zp HT_ 2 27 ?_
         refine zp HT_ 3 28 ?_
         refine zp HT_ 4 29 ?_
         refine zp HT_ 5 30 ?_
         refine zp HT_ 6 31 ?_
         refine zp HT_ 7 32 ?_
         refine zp HT_ 8 33 ?_
         refine zp HT_ 9 34 ?_
         refine zp HT_ 10 35 ?_
         refine zp HT_ 11 36 ?_
         refine zu HT_ 12 37 ?_
         refine zu HT_ 13 38 ?_
         refine zu HT_ 14 39 ?_
         refine zu HT_ 15 40 ?_
         refine zu HT_ 16 41 ?_
         refine zu HT_ 17 42 ?_
         refine zu HT_ 18 43 ?_
         refine zu HT_ 19 44 ?_
         refine zp HT_ 20 45 ?_
         refine zp HT_ 21 46 ?_
         refine zp HT_ 22 8 ?_
         refine zo HT_ ?_
         try go_wp2
         go_ret
         exact ⟨by first | rfl | (simp [al, ak] <;> rfl) | (simp [*, al, ak] <;> rfl), zB⟩
       · rw [if_neg c15] at H
         have c15b0 : (a1 == 1) = false := beq_eq_false_iff_ne.mpr c15
         have c15b1 : (a1 != 1) = true := bne_iff_ne.mpr c15
         by_cases c22 : 0 < (t414.length : Int)
         case neg => rw [if_neg c22] at H; simp at H
         rw [if_pos c22] at H
         have c22b0 := ag c22
         have c22b1 : decide (0 < t414.length) = true := ag (by omega)
         clear c22
         by_cases c23 : 0 < (t417.length : Int)
         case neg => rw [if_neg c23] at H; simp at H
         rw [if_pos c23] at H
         have c23b0 := ag c23
         have c23b1 : decide (0 < t417.length) = true := ag (by omega)
         clear c23
         replace H := ax H
         obtain ⟨t422, A240, H⟩ := H
         have A24 := Aside0.mk A240
         clear A240
         obtain rfl := ao H
         go_enter Tryz.func54, Tryz.ntmps54
         try go_wp2_with (first | ((with_reducible refine ap (N := 4) rfl ?_); (try (refine gH (by rfl) ?_; dsimp only)); refine zb (w := w) 4 #[.int .i64 a0_0, .slice A0_1 l0_1.length c0_1] 30 zB ?_; clear HB; intro gb413 w25 HB BK413 GW413; have GE413 := GW413) | ((with_reducible refine ay (f := 73) rfl ?_); refine zc 13 Tryz.func73 #[.slice A2 l2.length c2, .slice A3 l3.length c3] ?_; (with_reducible refine (dm k _ _ l2 _ _ l3 t414 _ ?side1 ?side2 ?side3 ?side4 A5.out).mono ?_); (case side1 => exact zC (Kd.C_below HR2.out HB.out)); (case side2 => exact HC2.out); (case side3 => exact zC (Kd.C_below HR3.out HB.out)); (case side4 => exact HC3.out); rintro e w26 ⟨v415, rfl, ho0, hb⟩; refine ⟨_, rfl, ?_⟩; have HO416 := zM (Kd.R_lower ho0 (ai zB)); replace BK413 := zJ BK413 hb; replace HB := zM (ah zB hb); (try clear hb); (try clear ho0)) | ((with_reducible refine ay (f := 73) rfl ?_); refine zc 16 Tryz.func73 #[.slice A3 l3.length c3, .slice A2 l2.length c2] ?_; (with_reducible refine (dm k _ _ l3 _ _ l2 t417 _ ?side1 ?side2 ?side3 ?side4 A6.out).mono ?_); (case side1 => exact zC (Kd.C_below HR3.out HB.out)); (case side2 => exact HC3.out); (case side3 => exact zC (Kd.C_below HR2.out HB.out)); (case side4 => exact HC2.out); rintro e w27 ⟨v418, rfl, ho0, hb⟩; refine ⟨_, rfl, ?_⟩; have HO419 := zM (Kd.R_lower (Kd.R_new' ho0 (Kd.R_lt (zR HO416.out))) (ai zB)); replace HO416 := zM (Kd.R_elder' (zR HO416.out) (Kd.R_base ho0) hb); replace BK413 := zJ BK413 hb; replace HB := zM (ah zB hb); (try clear hb); (try clear ho0)))
         replace HO416 := zM (Kd.R_drew HO416.out)
         replace HO419 := zM (Kd.R_drew HO419.out)
         replace BK413 := zM (aq BK413.out)
         replace HB := zM (aC HB.out)
         obtain ⟨Ao29, co29, eo29⟩ := Kd.R_slice HO416.out
         (first | subst eo29 | (injection eo29 with f1_ f2_ f3_; have f4_ := f1_.symm; have f5_ := f3_.symm; clear f1_ f2_ f3_; subst f4_; subst f5_))
         obtain ⟨Ao30, co30, eo30⟩ := Kd.R_slice HO419.out
         (first | subst eo30 | (injection eo30 with f1_ f2_ f3_; have f4_ := f1_.symm; have f5_ := f3_.symm; clear f1_ f2_ f3_; subst f4_; subst f5_))
         have p420 : 0 ≤ (0 : Int) := (by omega)
         have q420 : 0 < (t414.length : Int) := ac zA
         obtain ⟨ad420, e420, hx420_0⟩ := Kd.at_int (Kd.R_reads' HO416.out).2.2 0 p420 q420
         cases e420
         have qi420 : (0 < t414.length) = True := eq_true (by omega)
         (try rw [show ((0 : Int)).toNat = 0 from rfl] at hx420_0)
         (try rw [Addr.add_zero'] at hx420_0)
         replace p420 := eq_true p420
         replace q420 := eq_true q420
         have p421 : 0 ≤ (0 : Int) := (by omega)
         have q421 : 0 < (t417.length : Int) := ac zA
         obtain ⟨ad421, e421, hx421_0⟩ := Kd.at_int (Kd.R_reads' HO419.out).2.2 0 p421 q421
         cases e421
         have qi421 : (0 < t417.length) = True := eq_true (by omega)
         (try rw [show ((0 : Int)).toNat = 0 from rfl] at hx421_0)
         (try rw [Addr.add_zero'] at hx421_0)
         replace p421 := eq_true p421
         replace q421 := eq_true q421
         refine zs (n := 23) (fun w' => w'.cell? ⟨gb413, 0, none⟩ = some (.int .i64 a0_0) ∧ w'.cell? ⟨gb413, 1, none⟩ = some (.slice A0_1 l0_1.length c0_1) ∧ w'.cell? ad420 = some (.int .i64 (rd t414 0)) ∧ w'.cell? ad421 = some (.int .i64 (rd t417 0))) ⟨(am BK413.out 0).trans rfl, (am BK413.out 1).trans rfl, hx420_0, hx421_0⟩ (fun hHeld => ?_); refine aH gY gZ (fun HT_ HW_ => ?_)
         generalize w27.drew = w28 at HO416 HO419 BK413 HB hx420_0 hx421_0 hHeld ⊢
         refine zp HT_ 0 25 ?_
         refine zp HT_ 1 26 ?_
         refine zp HT_ 2 27 ?_
         refine zp HT_ 3 28 ?_
         refine zp HT_ 4 29 ?_
         refine zp HT_ 5 30 ?_
         refine zp HT_ 6 31 ?_
         refine zp HT_ 7 32 ?_
         refine zp HT_ 8 33 ?_
         refine zp HT_ 9 34 ?_
         refine zp HT_ 10 35 ?_
         refine zp HT_ 11 36 ?_
         refine zp HT_ 13 38 ?_
         refine zp HT_ 14 39 ?_
         refine zp HT_ 16 41 ?_
         refine zp HT_ 17 42 ?_
         refine zt HT_ HW_ 12 37 hHeld ?_ (hy := by rintro w' ⟨s0, s1, s2, s3⟩; go_simp; with_reducible rfl)
         refine zt HT_ HW_ 15 40 hHeld ?_ (hy := by rintro w' ⟨s0, s1, s2, s3⟩; go_simp; with_reducible rfl)
         refine zt HT_ HW_ 18 43 hHeld ?_ (hy := by rintro w' ⟨s0, s1, s2, s3⟩; go_simp; with_reducible rfl)
         refine zg HT_ 19 44 Tryz.func80 #[.agg #[.int .i64 a0_0, .slice A0_1 l0_1.length c0_1], .int .i64 (rd t414 0), .int .i64 (rd t417 0)] (fun K hK => ?_)
         with_reducible refine (iY k a0_0 _ _ l0_1 (rd t414 0) (rd t417 0) t422 _ ?side1 ?side2 A24.out).mono ?_
         (case side1 => exact zC (Kd.C_below HR0_1.out HB.out))
         (case side2 => exact HC0_1.out)
         rintro e w31 ⟨rfl, hb⟩
         have HS2_ := (hb.cell (aj _ _ (hHeld.2.2.1))).trans (hHeld.2.2.1)
         have HS3_ := (hb.cell (aj _ _ (hHeld.2.2.2))).trans (hHeld.2.2.2)
         refine ⟨_, rfl, ?_⟩
         replace HO416 := zM (Kd.R_below (zR HO416.out) hb)
         replace HO419 := zM (Kd.R_below (zR HO419.out) hb)
         replace BK413 := zJ BK413 hb
         replace HB := zM (ah zB hb)
         (try clear hb)
         refine hK.out _ _ ⟨(am BK413.out 0).trans rfl, (am BK413.out 1).trans rfl, HS2_, HS3_⟩ (fun hHeld => ?_)
         clear hK K
         refine zn 44 ?_
         refine zp HT_ 20 45 ?_
         refine zp HT_ 21 46 ?_
         refine zp HT_ 22 8 ?_
         refine zo HT_ ?_
         try go_wp2
         go_ret
         exact ⟨by first | rfl | (simp [al, ak] <;> rfl) | (simp [*, al, ak] <;> rfl), zB⟩
     · rw [if_neg c14] at H
       have c14b0 : ((t417.length : Int) == 1) = false := beq_eq_false_iff_ne.mpr c14
       have c14b1 : ((t417.length : Int) != 1) = true := bne_iff_ne.mpr c14
       obtain rfl := ao H
       go_enter Tryz.func54, Tryz.ntmps54
       try go_wp2_with (first | ((with_reducible refine ap (N := 4) rfl ?_); (try (refine gH (by rfl) ?_; dsimp only)); refine zb (w := w) 4 #[.int .i64 a0_0, .slice A0_1 l0_1.length c0_1] 30 zB ?_; clear HB; intro gb413 w32 HB BK413 GW413; have GE413 := GW413) | ((with_reducible refine ay (f := 73) rfl ?_); refine zc 13 Tryz.func73 #[.slice A2 l2.length c2, .slice A3 l3.length c3] ?_; (with_reducible refine (dm k _ _ l2 _ _ l3 t414 _ ?side1 ?side2 ?side3 ?side4 A5.out).mono ?_); (case side1 => exact zC (Kd.C_below HR2.out HB.out)); (case side2 => exact HC2.out); (case side3 => exact zC (Kd.C_below HR3.out HB.out)); (case side4 => exact HC3.out); rintro e w33 ⟨v415, rfl, ho0, hb⟩; refine ⟨_, rfl, ?_⟩; have HO416 := zM (Kd.R_lower ho0 (ai zB)); replace BK413 := zJ BK413 hb; replace HB := zM (ah zB hb); (try clear hb); (try clear ho0)) | ((with_reducible refine ay (f := 73) rfl ?_); refine zc 16 Tryz.func73 #[.slice A3 l3.length c3, .slice A2 l2.length c2] ?_; (with_reducible refine (dm k _ _ l3 _ _ l2 t417 _ ?side1 ?side2 ?side3 ?side4 A6.out).mono ?_); (case side1 => exact zC (Kd.C_below HR3.out HB.out)); (case side2 => exact HC3.out); (case side3 => exact zC (Kd.C_below HR2.out HB.out)); (case side4 => exact HC2.out); rintro e w34 ⟨v418, rfl, ho0, hb⟩; refine ⟨_, rfl, ?_⟩; have HO419 := zM (Kd.R_lower (Kd.R_new' ho0 (Kd.R_lt (zR HO416.out))) (ai zB)); replace HO416 := zM (Kd.R_elder' (zR HO416.out) (Kd.R_base ho0) hb); replace BK413 := zJ BK413 hb; replace HB := zM (ah zB hb); (try clear hb); (try clear ho0)))
       replace HO416 := zM (Kd.R_drew HO416.out)
       replace HO419 := zM (Kd.R_drew HO419.out)
       replace BK413 := zM (aq BK413.out)
       replace HB := zM (aC HB.out)
       obtain ⟨Ao36, co36, eo36⟩ := Kd.R_slice HO416.out
       (first | subst eo36 | (injection eo36 with f1_ f2_ f3_; have f4_ := f1_.symm; have f5_ := f3_.symm; clear f1_ f2_ f3_; subst f4_; subst f5_))
       obtain ⟨Ao37, co37, eo37⟩ := Kd.R_slice HO419.out
       (first | subst eo37 | (injection eo37 with f1_ f2_ f3_; have f4_ := f1_.symm; have f5_ := f3_.symm; clear f1_ f2_ f3_; subst f4_; subst f5_))
       refine zs (n := 23) (fun w' => True) trivial (fun hHeld => ?_); refine aH gY gZ (fun HT_ HW_ => ?_)
       generalize w34.drew = w35 at HO416 HO419 BK413 HB hHeld ⊢
       refine zp HT_ 0 25 ?_
       refine zp HT_ 1 26 ?_
       refine zp HT_ 2 27 ?_
       refine zp HT_ 3 28 ?_
       refine zp HT_ 4 29 ?_
       refine zp HT_ 5 30 ?_
       refine zp HT_ 6 31 ?_
       refine zp HT_ 7 32 ?_
       refine zp HT_ 8 33 ?_
       refine zu HT_ 9 34 ?_
       refine zu HT_ 10 35 ?_
       refine zu HT_ 11 36 ?_
       refine zu HT_ 12 37 ?_
       refine zu HT_ 13 38 ?_
       refine zu HT_ 14 39 ?_
       refine zu HT_ 15 40 ?_
       refine zu HT_ 16 41 ?_
       refine zu HT_ 17 42 ?_
       refine zu HT_ 18 43 ?_
       refine zu HT_ 19 44 ?_
       refine zu HT_ 20 45 ?_
       refine zp HT_ 21 46 ?_
       refine zp HT_ 22 8 ?_
       refine zo HT_ ?_
       try go_wp2
       go_ret
       exact ⟨by first | rfl | (simp [al, ak] <;> rfl) | (simp [*, al, ak] <;> rfl), zB⟩
   · rw [if_neg c13] at H
     have c13b0 : ((t414.length : Int) == 1) = false := beq_eq_false_iff_ne.mpr c13
     have c13b1 : ((t414.length : Int) != 1) = true := bne_iff_ne.mpr c13
     obtain rfl := ao H
     go_enter Tryz.func54, Tryz.ntmps54
     try go_wp2_with (first | ((with_reducible refine ap (N := 4) rfl ?_); (try (refine gH (by rfl) ?_; dsimp only)); refine zb (w := w) 4 #[.int .i64 a0_0, .slice A0_1 l0_1.length c0_1] 30 zB ?_; clear HB; intro gb413 w38 HB BK413 GW413; have GE413 := GW413) | ((with_reducible refine ay (f := 73) rfl ?_); refine zc 13 Tryz.func73 #[.slice A2 l2.length c2, .slice A3 l3.length c3] ?_; (with_reducible refine (dm k _ _ l2 _ _ l3 t414 _ ?side1 ?side2 ?side3 ?side4 A5.out).mono ?_); (case side1 => exact zC (Kd.C_below HR2.out HB.out)); (case side2 => exact HC2.out); (case side3 => exact zC (Kd.C_below HR3.out HB.out)); (case side4 => exact HC3.out); rintro e w39 ⟨v415, rfl, ho0, hb⟩; refine ⟨_, rfl, ?_⟩; have HO416 := zM (Kd.R_lower ho0 (ai zB)); replace BK413 := zJ BK413 hb; replace HB := zM (ah zB hb); (try clear hb); (try clear ho0)) | ((with_reducible refine ay (f := 73) rfl ?_); refine zc 16 Tryz.func73 #[.slice A3 l3.length c3, .slice A2 l2.length c2] ?_; (with_reducible refine (dm k _ _ l3 _ _ l2 t417 _ ?side1 ?side2 ?side3 ?side4 A6.out).mono ?_); (case side1 => exact zC (Kd.C_below HR3.out HB.out)); (case side2 => exact HC3.out); (case side3 => exact zC (Kd.C_below HR2.out HB.out)); (case side4 => exact HC2.out); rintro e w40 ⟨v418, rfl, ho0, hb⟩; refine ⟨_, rfl, ?_⟩; have HO419 := zM (Kd.R_lower (Kd.R_new' ho0 (Kd.R_lt (zR HO416.out))) (ai zB)); replace HO416 := zM (Kd.R_elder' (zR HO416.out) (Kd.R_base ho0) hb); replace BK413 := zJ BK413 hb; replace HB := zM (ah zB hb); (try clear hb); (try clear ho0)))
     replace HO416 := zM (Kd.R_drew HO416.out)
     replace HO419 := zM (Kd.R_drew HO419.out)
     replace BK413 := zM (aq BK413.out)
     replace HB := zM (aC HB.out)
     obtain ⟨Ao42, co42, eo42⟩ := Kd.R_slice HO416.out
     (first | subst eo42 | (injection eo42 with f1_ f2_ f3_; have f4_ := f1_.symm; have f5_ := f3_.symm; clear f1_ f2_ f3_; subst f4_; subst f5_))
     refine zs (n := 23) (fun w' => True) trivial (fun hHeld => ?_); refine aH gY gZ (fun HT_ HW_ => ?_)
     generalize w40.drew = w41 at HO416 HO419 BK413 HB hHeld ⊢
     refine zp HT_ 0 25 ?_
     refine zp HT_ 1 26 ?_
     refine zp HT_ 2 27 ?_
     refine zp HT_ 3 28 ?_
     refine zu HT_ 4 29 ?_
     refine zu HT_ 5 30 ?_
     refine zu HT_ 6 31 ?_
     refine zp HT_ 7 32 ?_
     refine zp HT_ 8 33 ?_
     refine zu HT_ 9 34 ?_
     refine zu HT_ 10 35 ?_
     refine zu HT_ 11 36 ?_
     refine zu HT_ 12 37 ?_
     refine zu HT_ 13 38 ?_
     refine zu HT_ 14 39 ?_
     refine zu HT_ 15 40 ?_
     refine zu HT_ 16 41 ?_
     refine zu HT_ 17 42 ?_
     refine zu HT_ 18 43 ?_
     refine zu HT_ 19 44 ?_
     refine zu HT_ 20 45 ?_
     refine zp HT_ 21 46 ?_
     refine zp HT_ 22 8 ?_
     refine zo HT_ ?_
     try go_wp2
     go_ret
     exact ⟨by first | rfl | (simp [al, ak] <;> rfl) | (simp [*, al, ak] <;> rfl), zB⟩
end Go.Proofs.YtadjbmcfgjmhkaaGreat.P
