-- Written by a program of this session (the kit's print, turned: wip/print/patch.py) out of the translation. Not trusted: Lean checks it.
import Derived.Test.YtjgcehldepfaaaaGreatForestLockedG5
import Derived.Test.YtjgcehldepfaaaaGreatForestLockedG9
import Derived.Test.YtjgcehldepfaaaaGreatForestLockedG16
import Derived.Test.YtjgcehldepfaaaaGreatForestLockedG7
import Derived.Test.YtjgcehldepfaaaaGreatForestLockedG19
import Derived.Test.YtjgcehldepfaaaaGreatForestLockedG14
import Derived.Test.YtjgcehldepfaaaaGreatForestLockedG17
namespace Go.Proofs.YtjgcehldepfaaaaGreat.P
open Go.RowKit YtjgcehldepfaaaaGreatW.PrintWords Go.Proofs.YtjgcehldepfaaaaGreatW.PrintLast Go.Proofs.YtjgcehldepfaaaaGreatW.PrintMore
attribute [local go_sem] bk bg bh bc bi bd bj bf   -- for this text's walks alone
set_option linter.unusedVariables false
set_option linter.unusedSimpArgs false

/-! ### impl_moves: function 89 -/
def gK (k : Nat) (l0 : List Int) (l1 : List Int) : Option (Int × Int) := (cI k l0).bind fun t219 => ((cI k l1).bind fun t220 => (some (Go.bits .andNot .u64 t219 t220, Go.bits .andNot .u64 t220 t219)))
set_option maxHeartbeats 8000000 in
set_option maxRecDepth 100000 in
theorem jD (k : Nat) (A0 : Option Addr) (c0 : Nat) (l0 : List Int) (A1 : Option Addr) (c1 : Nat) (l1 : List Int) (r1 : Int) (r2 : Int) (w : World) (hr0 : Kd.C (Kd.int .i64) w A0 l0.length l0) (hc0 : l0.length ≤ c0) (hr1 : Kd.C (Kd.int .i64) w A1 l1.length l1) (hc1 : l1.length ≤ c1) (h : gK k l0 l1 = some (r1, r2)) :
 Calls Tryz.prog 89 #[.slice A0 l0.length c0, .slice A1 l1.length c1] w fun e w' => e = .returned (.tuple #[.int .u64 r1, .int .u64 r2]) ∧ Drawn0 w w' := by
 have HR0 := Aside0.mk hr0
 have HC0 := Aside0.mk hc0
 clear hr0 hc0
 have HR1 := Aside0.mk hr1
 have HC1 := Aside0.mk hc1
 clear hr1 hc1
 have H : ((cI k l0).bind fun t219 => ((cI k l1).bind fun t220 => (some (Go.bits .andNot .u64 t219 t220, Go.bits .andNot .u64 t220 t219)))) = some (r1, r2) := h
 clear h
 replace H := aw H
 obtain ⟨t219, A30, H⟩ := H
 replace H : ((cI k l1).bind fun t220 => (some (Go.bits .andNot .u64 t219 t220, Go.bits .andNot .u64 t220 t219))) = some (r1, r2) := H
 have A3 := Aside0.mk A30
 clear A30
 replace H := aw H
 obtain ⟨t220, A40, H⟩ := H
 replace H : (some (Go.bits .andNot .u64 t219 t220, Go.bits .andNot .u64 t220 t219)) = some (r1, r2) := H
 have A4 := Aside0.mk A40
 clear A40
 simp only [Option.some.injEq, Prod.mk.injEq] at H
 obtain ⟨rfl, rfl⟩ := H
 go_enter Tryz.func89, Tryz.ntmps89
 go_wp2_with (first | ((with_reducible refine az (f := 32) rfl ?_); refine zc 9 Tryz.func32 #[.slice A0 l0.length c0] ?_; (with_reducible refine (gM k _ _ l0 t219 _ ?side1 ?side2 A3.out).mono ?_); (case side1 => exact zC HR0.out); (case side2 => exact HC0.out); rintro e w' ⟨rfl, ⟨nd, rfl⟩⟩; refine ⟨_, rfl, ?_⟩) | ((with_reducible refine az (f := 32) rfl ?_); refine zc 11 Tryz.func32 #[.slice A1 l1.length c1] ?_; (with_reducible refine (gM k _ _ l1 t220 _ ?side1 ?side2 A4.out).mono ?_); (case side1 => exact zC HR1.out); (case side2 => exact HC1.out); rintro e w' ⟨rfl, ⟨nd, rfl⟩⟩; refine ⟨_, rfl, ?_⟩))
 go_ret2
 exact ⟨by first | rfl | (simp; done) | (simp [*]; done), by repeat (first | exact Drawn0.refl _ | apply Drawn0.step)⟩

/-! ### impl_Graph_isSlide: function 72 -/
/-- What is held in a region may grow. -/
theorem mH {P : Program} {md : Region.Mode} {ops : Array Oper} {Q : Exit → Act → World → Prop} {S1 S2 : World → Prop} {fuel : Nat} {l : Array Bool} {a : Act} {w : World} (hsub : ∀ w, S2 w → S1 w) (h2 : S2 w) (H : aA P md ops Q S2 [] fuel l a w) : aA P md ops Q S1 [] fuel l a w := by
  induction fuel generalizing l a w with
  | zero => exact H
  | succ fuel ih => exact ⟨H.1, fun i hi => wpOp_mono (fun a' w' h => ⟨fun hd _ => hsub _ (h.1 hd h2), ih (h.1 (by simp) h2) h.2⟩) (H.2 i hi)⟩
def eY (k : Nat) (a0_0 : Int) (l0_1 : List (S63)) (l1 : List Int) (l2 : List Int) : Option (Bool) := (gK k l1 l2).bind fun bt222 => ((dP bt222.1).bind fun t224 => (if t224 = 1 then ((dP bt222.2).bind fun t225 => (if t225 = 1 then ((dQ k bt222.1).bind fun t226 => (if 0 < (t226.length : Int) then ((dQ k bt222.2).bind fun t230 => (if 0 < (t230.length : Int) then ((fb k a0_0 l0_1 (rd t226 0) (rd t230 0)).bind fun t234 => (some t234)) else (none))) else (none))) else (some false))) else (some false)))
def impl_Graph_isSlide.T2 : Bool × List (List Nat × List Nat) := (true, [([], []), ([0], [0]), ([1], [1]), ([2, 1], [2]), ([3], [3]), ([4, 3, 3], [3, 4]), ([5, 3], [3, 5]), ([3, 6], [3, 6]), ([7, 5], [7]), ([8], [8]), ([8], [8]), ([10, 8, 8], [8, 10]), ([11, 8], [8, 11]), ([12, 8], [8, 12]), ([8], [8]), ([14, 11, 8], [8, 14]), ([15, 8], [8, 15]), ([16, 8], [8, 16]), ([9, 13, 17, 15, 8], [8, 9, 13, 17]), ([8, 18], [8, 18]), ([19, 18, 0, 1, 2, 3, 4, 5, 6, 7, 8, 9, 10, 11, 12, 13, 14, 15, 16, 17, 18, 19], [19])])
def qP : List Nat := [0, 1, 3, 7, 15, 31, 63, 127, 255, 511, 511, 1535, 3583, 7679, 511, 19967, 52735, 118271, 262143, 524287, 1048575]
theorem jF : aQ .any (cq Tryz.f72 2) = impl_Graph_isSlide.T2 := by kernel_rfl
theorem jG : bG impl_Graph_isSlide.T2.2 qP = true := by kernel_rfl
set_option maxHeartbeats 8000000 in
set_option maxRecDepth 100000 in
theorem qO (k : Nat) (a0_0 : Int) (A0_1 : Option Addr) (c0_1 : Nat) (l0_1 : List (S63)) (A1 : Option Addr) (c1 : Nat) (l1 : List Int) (A2 : Option Addr) (c2 : Nat) (l2 : List Int) (r : Bool) (w : World) (hr0_1 : Kd.C k63 w A0_1 l0_1.length l0_1) (hc0_1 : l0_1.length ≤ c0_1) (hr1 : Kd.C (Kd.int .i64) w A1 l1.length l1) (hc1 : l1.length ≤ c1) (hr2 : Kd.C (Kd.int .i64) w A2 l2.length l2) (hc2 : l2.length ≤ c2) (h : eY k a0_0 l0_1 l1 l2 = some r) :
 Calls Tryz.prog 72 #[.agg #[.int .i64 a0_0, .slice A0_1 l0_1.length c0_1], .slice A1 l1.length c1, .slice A2 l2.length c2] w fun e w' => e = .returned (.bool r) ∧ Below w.heap.size w w' := by
 have hu29 := Tryz.underlying29
 have HR0_1 := Aside0.mk hr0_1
 have HC0_1 := Aside0.mk hc0_1
 clear hr0_1 hc0_1
 have HR1 := Aside0.mk hr1
 have HC1 := Aside0.mk hc1
 clear hr1 hc1
 have HR2 := Aside0.mk hr2
 have HC2 := Aside0.mk hc2
 clear hr2 hc2
 have HB := zM (Below.refl w.heap.size w)
 have H : ((gK k l1 l2).bind fun bt222 => ((dP bt222.1).bind fun t224 => (if t224 = 1 then ((dP bt222.2).bind fun t225 => (if t225 = 1 then ((dQ k bt222.1).bind fun t226 => (if 0 < (t226.length : Int) then ((dQ k bt222.2).bind fun t230 => (if 0 < (t230.length : Int) then ((fb k a0_0 l0_1 (rd t226 0) (rd t230 0)).bind fun t234 => (some t234)) else (none))) else (none))) else (some false))) else (some false)))) = some r := h
 clear h
 replace H := aw H
 obtain ⟨⟨t222, t223⟩, A40, H⟩ := H
 replace H : ((dP t222).bind fun t224 => (if t224 = 1 then ((dP t223).bind fun t225 => (if t225 = 1 then ((dQ k t222).bind fun t226 => (if 0 < (t226.length : Int) then ((dQ k t223).bind fun t230 => (if 0 < (t230.length : Int) then ((fb k a0_0 l0_1 (rd t226 0) (rd t230 0)).bind fun t234 => (some t234)) else (none))) else (none))) else (some false))) else (some false))) = some r := H
 have A4 := Aside0.mk A40
 clear A40
 replace H := aw H
 obtain ⟨t224, A50, H⟩ := H
 have A5 := Aside0.mk A50
 clear A50
 by_cases c6 : t224 = 1
 · rw [if_pos c6] at H
   have c6b0 : (t224 == 1) = true := beq_iff_eq.mpr c6
   have c6b1 : (t224 != 1) = false := bne_eq_false_iff_eq.mpr c6
   clear c6
   replace H := aw H
   obtain ⟨t225, A70, H⟩ := H
   have A7 := Aside0.mk A70
   clear A70
   by_cases c8 : t225 = 1
   · rw [if_pos c8] at H
     have c8b0 : (t225 == 1) = true := beq_iff_eq.mpr c8
     have c8b1 : (t225 != 1) = false := bne_eq_false_iff_eq.mpr c8
     clear c8
     replace H := aw H
     obtain ⟨t226, A90, H⟩ := H
     have A9 := Aside0.mk A90
     clear A90
     by_cases c10 : 0 < (t226.length : Int)
     · rw [if_pos c10] at H
       have c10b0 := af c10
       have c10b1 : decide (0 < t226.length) = true := af (by omega)
       clear c10
       replace H := aw H
       obtain ⟨t230, A110, H⟩ := H
       have A11 := Aside0.mk A110
       clear A110
       by_cases c12 : 0 < (t230.length : Int)
       · rw [if_pos c12] at H
         have c12b0 := af c12
         have c12b1 : decide (0 < t230.length) = true := af (by omega)
         clear c12
         replace H := aw H
         obtain ⟨t234, A130, H⟩ := H
         have A13 := Aside0.mk A130
         clear A130
         obtain rfl := aq H
         go_enter Tryz.func72, Tryz.ntmps72
         try go_wp2_with (first | ((with_reducible refine ar (N := 3) rfl ?_); refine zb (w := w) 3 #[.int .i64 a0_0, .slice A0_1 l0_1.length c0_1] 29 zB ?_; clear HB; intro gb221 w14 HB BK221 GW221; have GE221 := GW221) | ((with_reducible refine az (f := 89) rfl ?_); refine zc 12 Tryz.func89 #[.slice A1 l1.length c1, .slice A2 l2.length c2] ?_; (with_reducible refine (jD k _ _ l1 _ _ l2 t222 t223 _ ?side1 ?side2 ?side3 ?side4 A4.out).mono ?_); (case side1 => exact zC (Kd.C_below HR1.out HB.out)); (case side2 => exact HC1.out); (case side3 => exact zC (Kd.C_below HR2.out HB.out)); (case side4 => exact HC2.out); rintro e w' ⟨rfl, ⟨nd, rfl⟩⟩; refine ⟨_, rfl, ?_⟩))
         (try (rw [gQ w14]; generalize hq_ : World.drewN w14 _ = w14; have n0_ : Aside0 (w14.heap[gb221]? = some (.cells #[.int .i64 a0_0, .slice A0_1 l0_1.length c0_1] 29 (0, 0))) := ⟨by rw [← hq_]; exact (zK BK221.out)⟩; have n1_ : Aside0 (Below w.heap.size w w14) := ⟨by rw [← hq_]; exact zB⟩; clear BK221 HB hq_; have BK221 := n0_; have HB := n1_; clear n0_ n1_))
         replace BK221 := zM (ap BK221.out)
         replace HB := zM (aD HB.out)
         refine zs (n := 21) (fun w' => w'.cell? ⟨gb221, 0, none⟩ = some (.int .i64 a0_0) ∧ w'.cell? ⟨gb221, 1, none⟩ = some (.slice A0_1 l0_1.length c0_1)) ⟨(ah BK221.out 0).trans rfl, (ah BK221.out 1).trans rfl⟩ (fun hHeld => ?_); refine aZ jF jG (fun HT_ HW_ => ?_)
         generalize w14.drew = w15 at BK221 HB hHeld ⊢
         refine zp HT_ 0 15 ?_
         refine zg HT_ 1 16 Tryz.func40 #[.int .u64 t222] (fun K hK => ?_)
         with_reducible refine (fS t222 t224 _ A5.out).mono ?_
         rintro e w16 ⟨rfl, hb⟩
         refine ⟨_, rfl, ?_⟩
         replace BK221 := zM (am (g := gb221) (o := .cells #[.int .i64 a0_0, .slice A0_1 l0_1.length c0_1] 29 (0, 0)) (zK BK221.out) hb)
         replace HB := zM (ag zB hb)
         (try clear hb)
         (try clear hb2)
         (try clear hk)
         (try clear hi)
         refine hK.out _ _ ⟨(ah BK221.out 0).trans rfl, (ah BK221.out 1).trans rfl⟩ (fun hHeld => ?_)
         clear hK K
         refine zn 16 ?_
         refine zp HT_ 2 17 ?_
         refine zp HT_ 3 18 ?_
         refine zp HT_ 4 19 ?_
         refine zg HT_ 5 20 Tryz.func40 #[.int .u64 t223] (fun K hK => ?_)
         with_reducible refine (fS t223 t225 _ A7.out).mono ?_
         rintro e w17 ⟨rfl, hb⟩
         refine ⟨_, rfl, ?_⟩
         replace BK221 := zM (am (g := gb221) (o := .cells #[.int .i64 a0_0, .slice A0_1 l0_1.length c0_1] 29 (0, 0)) (zK BK221.out) hb)
         replace HB := zM (ag zB hb)
         (try clear hb)
         (try clear hb2)
         (try clear hk)
         (try clear hi)
         refine hK.out _ _ ⟨(ah BK221.out 0).trans rfl, (ah BK221.out 1).trans rfl⟩ (fun hHeld => ?_)
         clear hK K
         refine zn 20 ?_
         refine zp HT_ 6 21 ?_
         refine zp HT_ 7 22 ?_
         refine zp HT_ 8 23 ?_
         refine zp HT_ 10 25 ?_
         refine zp HT_ 14 29 ?_
         refine zt HT_ HW_ 9 24 hHeld ?_ (hy := by rintro w' ⟨s0, s1⟩; go_simp; with_reducible rfl)
         refine zg HT_ 11 26 Tryz.func33 #[.int .u64 t222] (fun K hK => ?_)
         with_reducible refine (iL k t222 t226 _ A9.out).mono ?_
         rintro e w18 ⟨v227, rfl, ho0, hb⟩
         refine ⟨_, rfl, ?_⟩
         have HO228 := zM (Kd.R_lower ho0 (ao zB))
         replace BK221 := zM (am (g := gb221) (o := .cells #[.int .i64 a0_0, .slice A0_1 l0_1.length c0_1] 29 (0, 0)) (zK BK221.out) hb)
         replace HB := zM (ag zB hb)
         (try clear hb)
         (try clear hb2)
         (try clear hk)
         (try clear hi)
         (try clear ho0)
         obtain ⟨Ao19, co19, eo19⟩ := Kd.R_slice HO228.out
         (first | subst eo19 | (injection eo19 with f1_ f2_ f3_; have f4_ := f1_.symm; have f5_ := f3_.symm; clear f1_ f2_ f3_; subst f4_; subst f5_))
         have p229 : 0 ≤ (0 : Int) := (by omega)
         have q229 : 0 < (t226.length : Int) := ac zA
         obtain ⟨ad229, e229, hx229_0⟩ := Kd.at_int (Kd.R_reads' HO228.out).2.2 0 p229 q229
         cases e229
         have qi229 : (0 < t226.length) = True := eq_true (by omega)
         (try rw [show ((0 : Int)).toNat = 0 from rfl] at hx229_0)
         (try rw [Addr.add_zero'] at hx229_0)
         replace p229 := eq_true p229
         replace q229 := eq_true q229
         refine hK.out _ _ ⟨(ah BK221.out 0).trans rfl, (ah BK221.out 1).trans rfl⟩ (fun hHeld => ?_)
         have hMore_ := hHeld
         clear hHeld
         refine mH (S2 := fun w' => w'.cell? ⟨gb221, 0, none⟩ = some (.int .i64 a0_0) ∧ w'.cell? ⟨gb221, 1, none⟩ = some (.slice A0_1 l0_1.length c0_1) ∧ w'.cell? ad229 = some (.int .i64 (rd t226 0))) (fun _ h => ⟨h.1, h.2.1⟩) ⟨hMore_.1, hMore_.2, hx229_0⟩ ?_
         have hHeld := (⟨hMore_.1, hMore_.2, hx229_0⟩ : _ ∧ _ ∧ _)
         clear hMore_
         clear hK K
         refine zn 26 ?_
         refine zp HT_ 12 27 ?_
         refine zt HT_ HW_ 13 28 hHeld ?_ (hy := by rintro w' ⟨s0, s1, s2⟩; go_simp; with_reducible rfl)
         refine zg HT_ 15 30 Tryz.func33 #[.int .u64 t223] (fun K hK => ?_)
         with_reducible refine (iL k t223 t230 _ A11.out).mono ?_
         rintro e w20 ⟨v231, rfl, ho0, hb⟩
         have HS2_ := (hb.cell (ak _ _ (hHeld.2.2))).trans (hHeld.2.2)
         refine ⟨_, rfl, ?_⟩
         have HO232 := zM (Kd.R_lower (Kd.R_new' ho0 (Kd.R_lt (zR HO228.out))) (ao zB))
         replace HO228 := zM (Kd.R_elder' (zR HO228.out) (Kd.R_base ho0) hb)
         replace BK221 := zM (am (g := gb221) (o := .cells #[.int .i64 a0_0, .slice A0_1 l0_1.length c0_1] 29 (0, 0)) (zK BK221.out) hb)
         replace HB := zM (ag zB hb)
         (try clear hb)
         (try clear hb2)
         (try clear hk)
         (try clear hi)
         (try clear ho0)
         obtain ⟨Ao21, co21, eo21⟩ := Kd.R_slice HO232.out
         (first | subst eo21 | (injection eo21 with f1_ f2_ f3_; have f4_ := f1_.symm; have f5_ := f3_.symm; clear f1_ f2_ f3_; subst f4_; subst f5_))
         have p233 : 0 ≤ (0 : Int) := (by omega)
         have q233 : 0 < (t230.length : Int) := ac zA
         obtain ⟨ad233, e233, hx233_0⟩ := Kd.at_int (Kd.R_reads' HO232.out).2.2 0 p233 q233
         cases e233
         have qi233 : (0 < t230.length) = True := eq_true (by omega)
         (try rw [show ((0 : Int)).toNat = 0 from rfl] at hx233_0)
         (try rw [Addr.add_zero'] at hx233_0)
         replace p233 := eq_true p233
         replace q233 := eq_true q233
         refine hK.out _ _ ⟨(ah BK221.out 0).trans rfl, (ah BK221.out 1).trans rfl, HS2_⟩ (fun hHeld => ?_)
         have hMore_ := hHeld
         clear hHeld
         refine mH (S2 := fun w' => w'.cell? ⟨gb221, 0, none⟩ = some (.int .i64 a0_0) ∧ w'.cell? ⟨gb221, 1, none⟩ = some (.slice A0_1 l0_1.length c0_1) ∧ w'.cell? ad229 = some (.int .i64 (rd t226 0)) ∧ w'.cell? ad233 = some (.int .i64 (rd t230 0))) (fun _ h => ⟨h.1, h.2.1, h.2.2.1⟩) ⟨hMore_.1, hMore_.2.1, hMore_.2.2, hx233_0⟩ ?_
         have hHeld := (⟨hMore_.1, hMore_.2.1, hMore_.2.2, hx233_0⟩ : _ ∧ _ ∧ _ ∧ _)
         clear hMore_
         clear hK K
         refine zn 30 ?_
         refine zp HT_ 16 31 ?_
         refine zt HT_ HW_ 17 32 hHeld ?_ (hy := by rintro w' ⟨s0, s1, s2, s3⟩; go_simp; with_reducible rfl)
         refine zg HT_ 18 33 Tryz.func58 #[.agg #[.int .i64 a0_0, .slice A0_1 l0_1.length c0_1], .int .i64 (rd t226 0), .int .i64 (rd t230 0)] (fun K hK => ?_)
         with_reducible refine (jI k a0_0 _ _ l0_1 (rd t226 0) (rd t230 0) t234 _ ?side1 ?side2 A13.out).mono ?_
         (case side1 => exact zC (Kd.C_below HR0_1.out HB.out))
         (case side2 => exact HC0_1.out)
         rintro e w22 ⟨rfl, hb⟩
         have HS2_ := (hb.cell (ak _ _ (hHeld.2.2.1))).trans (hHeld.2.2.1)
         have HS3_ := (hb.cell (ak _ _ (hHeld.2.2.2))).trans (hHeld.2.2.2)
         refine ⟨_, rfl, ?_⟩
         replace HO228 := zM (Kd.R_below (zR HO228.out) hb)
         replace HO232 := zM (Kd.R_below (zR HO232.out) hb)
         replace BK221 := zM (am (g := gb221) (o := .cells #[.int .i64 a0_0, .slice A0_1 l0_1.length c0_1] 29 (0, 0)) (zK BK221.out) hb)
         replace HB := zM (ag zB hb)
         (try clear hb)
         (try clear hb2)
         (try clear hk)
         (try clear hi)
         refine hK.out _ _ ⟨(ah BK221.out 0).trans rfl, (ah BK221.out 1).trans rfl, HS2_, HS3_⟩ (fun hHeld => ?_)
         clear hK K
         refine zn 33 ?_
         refine zp HT_ 19 34 ?_
         refine zp HT_ 20 6 ?_
         refine zo HT_ ?_
         try go_wp2
         go_ret
         exact ⟨by first | rfl | (simp [aj, ai] <;> rfl) | (simp [*, aj, ai] <;> rfl), zB⟩
       · rw [if_neg c12] at H
         exact absurd H (by simp)
     · rw [if_neg c10] at H
       exact absurd H (by simp)
   · rw [if_neg c8] at H
     have c8b0 : (t225 == 1) = false := beq_eq_false_iff_ne.mpr c8
     have c8b1 : (t225 != 1) = true := bne_iff_ne.mpr c8
     obtain rfl := aq H
     go_enter Tryz.func72, Tryz.ntmps72
     try go_wp2_with (first | ((with_reducible refine ar (N := 3) rfl ?_); refine zb (w := w) 3 #[.int .i64 a0_0, .slice A0_1 l0_1.length c0_1] 29 zB ?_; clear HB; intro gb221 w23 HB BK221 GW221; have GE221 := GW221) | ((with_reducible refine az (f := 89) rfl ?_); refine zc 12 Tryz.func89 #[.slice A1 l1.length c1, .slice A2 l2.length c2] ?_; (with_reducible refine (jD k _ _ l1 _ _ l2 t222 t223 _ ?side1 ?side2 ?side3 ?side4 A4.out).mono ?_); (case side1 => exact zC (Kd.C_below HR1.out HB.out)); (case side2 => exact HC1.out); (case side3 => exact zC (Kd.C_below HR2.out HB.out)); (case side4 => exact HC2.out); rintro e w' ⟨rfl, ⟨nd, rfl⟩⟩; refine ⟨_, rfl, ?_⟩))
     (try (rw [gQ w23]; generalize hq_ : World.drewN w23 _ = w23; have n0_ : Aside0 (w23.heap[gb221]? = some (.cells #[.int .i64 a0_0, .slice A0_1 l0_1.length c0_1] 29 (0, 0))) := ⟨by rw [← hq_]; exact (zK BK221.out)⟩; have n1_ : Aside0 (Below w.heap.size w w23) := ⟨by rw [← hq_]; exact zB⟩; clear BK221 HB hq_; have BK221 := n0_; have HB := n1_; clear n0_ n1_))
     replace BK221 := zM (ap BK221.out)
     replace HB := zM (aD HB.out)
     refine zs (n := 21) (fun w' => True) trivial (fun hHeld => ?_); refine aZ jF jG (fun HT_ HW_ => ?_)
     generalize w23.drew = w24 at BK221 HB hHeld ⊢
     refine zp HT_ 0 15 ?_
     refine zg HT_ 1 16 Tryz.func40 #[.int .u64 t222] (fun K hK => ?_)
     with_reducible refine (fS t222 t224 _ A5.out).mono ?_
     rintro e w25 ⟨rfl, hb⟩
     refine ⟨_, rfl, ?_⟩
     replace BK221 := zM (am (g := gb221) (o := .cells #[.int .i64 a0_0, .slice A0_1 l0_1.length c0_1] 29 (0, 0)) (zK BK221.out) hb)
     replace HB := zM (ag zB hb)
     (try clear hb)
     (try clear hb2)
     (try clear hk)
     (try clear hi)
     refine hK.out _ _ trivial (fun hHeld => ?_)
     clear hK K
     refine zn 16 ?_
     refine zp HT_ 2 17 ?_
     refine zp HT_ 3 18 ?_
     refine zp HT_ 4 19 ?_
     refine zg HT_ 5 20 Tryz.func40 #[.int .u64 t223] (fun K hK => ?_)
     with_reducible refine (fS t223 t225 _ A7.out).mono ?_
     rintro e w26 ⟨rfl, hb⟩
     refine ⟨_, rfl, ?_⟩
     replace BK221 := zM (am (g := gb221) (o := .cells #[.int .i64 a0_0, .slice A0_1 l0_1.length c0_1] 29 (0, 0)) (zK BK221.out) hb)
     replace HB := zM (ag zB hb)
     (try clear hb)
     (try clear hb2)
     (try clear hk)
     (try clear hi)
     refine hK.out _ _ trivial (fun hHeld => ?_)
     clear hK K
     refine zn 20 ?_
     refine zp HT_ 6 21 ?_
     refine zp HT_ 7 22 ?_
     refine zp HT_ 8 23 ?_
     refine zu HT_ 9 24 ?_
     refine zu HT_ 10 25 ?_
     refine zu HT_ 11 26 ?_
     refine zu HT_ 12 27 ?_
     refine zu HT_ 13 28 ?_
     refine zu HT_ 14 29 ?_
     refine zu HT_ 15 30 ?_
     refine zu HT_ 16 31 ?_
     refine zu HT_ 17 32 ?_
     refine zu HT_ 18 33 ?_
     refine zp HT_ 19 34 ?_
     refine zp HT_ 20 6 ?_
     refine zo HT_ ?_
     try go_wp2
     go_ret
     exact ⟨by first | rfl | (simp [aj, ai] <;> rfl) | (simp [*, aj, ai] <;> rfl), zB⟩
 · rw [if_neg c6] at H
   have c6b0 : (t224 == 1) = false := beq_eq_false_iff_ne.mpr c6
   have c6b1 : (t224 != 1) = true := bne_iff_ne.mpr c6
   obtain rfl := aq H
   go_enter Tryz.func72, Tryz.ntmps72
   try go_wp2_with (first | ((with_reducible refine ar (N := 3) rfl ?_); refine zb (w := w) 3 #[.int .i64 a0_0, .slice A0_1 l0_1.length c0_1] 29 zB ?_; clear HB; intro gb221 w27 HB BK221 GW221; have GE221 := GW221) | ((with_reducible refine az (f := 89) rfl ?_); refine zc 12 Tryz.func89 #[.slice A1 l1.length c1, .slice A2 l2.length c2] ?_; (with_reducible refine (jD k _ _ l1 _ _ l2 t222 t223 _ ?side1 ?side2 ?side3 ?side4 A4.out).mono ?_); (case side1 => exact zC (Kd.C_below HR1.out HB.out)); (case side2 => exact HC1.out); (case side3 => exact zC (Kd.C_below HR2.out HB.out)); (case side4 => exact HC2.out); rintro e w' ⟨rfl, ⟨nd, rfl⟩⟩; refine ⟨_, rfl, ?_⟩))
   (try (rw [gQ w27]; generalize hq_ : World.drewN w27 _ = w27; have n0_ : Aside0 (w27.heap[gb221]? = some (.cells #[.int .i64 a0_0, .slice A0_1 l0_1.length c0_1] 29 (0, 0))) := ⟨by rw [← hq_]; exact (zK BK221.out)⟩; have n1_ : Aside0 (Below w.heap.size w w27) := ⟨by rw [← hq_]; exact zB⟩; clear BK221 HB hq_; have BK221 := n0_; have HB := n1_; clear n0_ n1_))
   replace BK221 := zM (ap BK221.out)
   replace HB := zM (aD HB.out)
   refine zs (n := 21) (fun w' => True) trivial (fun hHeld => ?_); refine aZ jF jG (fun HT_ HW_ => ?_)
   generalize w27.drew = w28 at BK221 HB hHeld ⊢
   refine zp HT_ 0 15 ?_
   refine zg HT_ 1 16 Tryz.func40 #[.int .u64 t222] (fun K hK => ?_)
   with_reducible refine (fS t222 t224 _ A5.out).mono ?_
   rintro e w29 ⟨rfl, hb⟩
   refine ⟨_, rfl, ?_⟩
   replace BK221 := zM (am (g := gb221) (o := .cells #[.int .i64 a0_0, .slice A0_1 l0_1.length c0_1] 29 (0, 0)) (zK BK221.out) hb)
   replace HB := zM (ag zB hb)
   (try clear hb)
   (try clear hb2)
   (try clear hk)
   (try clear hi)
   refine hK.out _ _ trivial (fun hHeld => ?_)
   clear hK K
   refine zn 16 ?_
   refine zp HT_ 2 17 ?_
   refine zp HT_ 3 18 ?_
   refine zu HT_ 4 19 ?_
   refine zu HT_ 5 20 ?_
   refine zu HT_ 6 21 ?_
   refine zp HT_ 7 22 ?_
   refine zp HT_ 8 23 ?_
   refine zu HT_ 9 24 ?_
   refine zu HT_ 10 25 ?_
   refine zu HT_ 11 26 ?_
   refine zu HT_ 12 27 ?_
   refine zu HT_ 13 28 ?_
   refine zu HT_ 14 29 ?_
   refine zu HT_ 15 30 ?_
   refine zu HT_ 16 31 ?_
   refine zu HT_ 17 32 ?_
   refine zu HT_ 18 33 ?_
   refine zp HT_ 19 34 ?_
   refine zp HT_ 20 6 ?_
   refine zo HT_ ?_
   try go_wp2
   go_ret
   exact ⟨by first | rfl | (simp [aj, ai] <;> rfl) | (simp [*, aj, ai] <;> rfl), zB⟩

end Go.Proofs.YtjgcehldepfaaaaGreat.P
namespace Go.Proofs.YtjgcehldepfaaaaGreat.P
open Go.RowKit YtjgcehldepfaaaaGreatW.PrintWords Go.Proofs.YtjgcehldepfaaaaGreatW.PrintLast Go.Proofs.YtjgcehldepfaaaaGreatW.PrintMore
attribute [local go_sem] bk bg bh bc bi bd bj bf   -- for this text's walks alone
set_option linter.unusedVariables false
set_option linter.unusedSimpArgs false

/-! ### impl_IndependentSets: function 70 -/
def fV (k : Nat) (a0_0 : Int) (l0_1 : List (S63)) (a1 : Int) : Option ((List (List Int)) × Bool) := (eX k a0_0 l0_1).bind fun t236 => (if t236 = true then ((cY a1 0 8).bind fun t237 => (if t237 = true then ((dS a0_0 l0_1 a1 a1).bind fun t238 => (some (t238, true))) else (some (([] : List (List Int)), false)))) else (some (([] : List (List Int)), false)))
set_option maxHeartbeats 8000000 in
set_option maxRecDepth 100000 in
theorem l5 (k : Nat) (a0_0 : Int) (A0_1 : Option Addr) (c0_1 : Nat) (l0_1 : List (S63)) (a1 : Int) (r1 : List (List Int)) (r2 : Bool) (w : World) (hr0_1 : Kd.C k63 w A0_1 l0_1.length l0_1) (hc0_1 : l0_1.length ≤ c0_1) (h : fV k a0_0 l0_1 a1 = some (r1, r2)) :
 Calls Tryz.prog 70 #[.agg #[.int .i64 a0_0, .slice A0_1 l0_1.length c0_1], .int .i64 a1] w fun e w' => ∃ v0_ : Value, e = .returned (.tuple #[v0_, .bool r2]) ∧ Kd.S (Kd.slice 3 (Kd.int .i64)) 25 w' w.heap.size (fun _ => True) v0_ r1 ∧ Below w.heap.size w w' := by
 have hu29 := Tryz.underlying29
 have HR0_1 := Aside0.mk hr0_1
 have HC0_1 := Aside0.mk hc0_1
 clear hr0_1 hc0_1
 have HB := zM (Below.refl w.heap.size w)
 have H : ((eX k a0_0 l0_1).bind fun t236 => (if t236 = true then ((cY a1 0 8).bind fun t237 => (if t237 = true then ((dS a0_0 l0_1 a1 a1).bind fun t238 => (some (t238, true))) else (some (([] : List (List Int)), false)))) else (some (([] : List (List Int)), false)))) = some (r1, r2) := h
 clear h
 replace H := aw H
 obtain ⟨t236, A30, H⟩ := H
 replace H : (if t236 = true then ((cY a1 0 8).bind fun t237 => (if t237 = true then ((dS a0_0 l0_1 a1 a1).bind fun t238 => (some (t238, true))) else (some (([] : List (List Int)), false)))) else (some (([] : List (List Int)), false))) = some (r1, r2) := H
 have A3 := Aside0.mk A30
 clear A30
 by_cases c4 : t236 = true
 · subst c4
   have H1 : ((cY a1 0 8).bind fun t237 => (if t237 = true then ((dS a0_0 l0_1 a1 a1).bind fun t238 => (some (t238, true))) else (some (([] : List (List Int)), false)))) = some (r1, r2) := by rw [if_pos rfl] at H; exact H
   clear H
   have H := H1
   clear H1
   replace H := aw H
   obtain ⟨t237, A50, H⟩ := H
   replace H : (if t237 = true then ((dS a0_0 l0_1 a1 a1).bind fun t238 => (some (t238, true))) else (some (([] : List (List Int)), false))) = some (r1, r2) := H
   have A5 := Aside0.mk A50
   clear A50
   by_cases c6 : t237 = true
   · subst c6
     have H1 : ((dS a0_0 l0_1 a1 a1).bind fun t238 => (some (t238, true))) = some (r1, r2) := by rw [if_pos rfl] at H; exact H
     clear H
     have H := H1
     clear H1
     replace H := aw H
     obtain ⟨t238, A70, H⟩ := H
     replace H : (some (t238, true)) = some (r1, r2) := H
     have A7 := Aside0.mk A70
     clear A70
     simp only [Option.some.injEq, Prod.mk.injEq] at H
     obtain ⟨rfl, rfl⟩ := H
     go_enter Tryz.func70, Tryz.ntmps70
     go_wp2_with (first | ((with_reducible refine ar (N := 2) rfl ?_); refine zb (w := w) 2 #[.int .i64 a0_0, .slice A0_1 l0_1.length c0_1] 29 zB ?_; clear HB; intro gb235 w8 HB BK235 GW235; have GE235 := GW235; have hcz9_0 := zy BK235 0; have hcz9_1 := zy BK235 1; have hfz9_0 := ae BK235.out 0; have hfz9_1 := ae BK235.out 1) | ((with_reducible refine az (f := 46) rfl ?_); refine zc 7 Tryz.func46 #[.agg #[.int .i64 a0_0, .slice A0_1 l0_1.length c0_1]] ?_; (with_reducible refine (fU k a0_0 _ _ l0_1 true _ ?side1 ?side2 A3.out).mono ?_); (case side1 => exact zC (Kd.C_below HR0_1.out HB.out)); (case side2 => exact HC0_1.out); rintro e w10 ⟨rfl, hb⟩; refine ⟨_, rfl, ?_⟩; replace BK235 := zM (am (g := gb235) (o := .cells #[.int .i64 a0_0, .slice A0_1 l0_1.length c0_1] 29 (0, 0)) (zK BK235.out) hb); replace HB := zM (ag zB hb); (try clear hb); (try clear hb2); (try clear hk); (try clear hi)) | (go_at_call 66; (with_reducible refine (d9 a1 0 8 true _ A5.out).mono ?_); rintro e w' ⟨rfl, ⟨nd, rfl⟩⟩; have hcz11_0 := zy BK235 0; have hcz11_1 := zy BK235 1; have hfz11_0 := ae BK235.out 0; have hfz11_1 := ae BK235.out 1) | ((with_reducible refine az (f := 87) rfl ?_); refine zc 17 Tryz.func87 #[.agg #[.int .i64 a0_0, .slice A0_1 l0_1.length c0_1], .int .i64 a1, .int .i64 a1] ?_; (with_reducible refine (qU a0_0 _ _ l0_1 a1 a1 t238 _ ?side1 ?side2 A7.out).mono ?_); (case side1 => exact zC (Kd.C_below HR0_1.out zB)); (case side2 => exact HC0_1.out); rintro e w12 ⟨v239, rfl, ho0, hb⟩; refine ⟨_, rfl, ?_⟩; have HO240 := zM (Kd.S_lower ho0 (ao zB)); replace BK235 := zM (am (g := gb235) (o := .cells #[.int .i64 a0_0, .slice A0_1 l0_1.length c0_1] 29 (0, 0)) (zK BK235.out) hb); replace HB := zM (ag zB hb); (try clear hb); (try clear hb2); (try clear hk); (try clear hi); (try clear ho0)))
     go_ret2
     exact ⟨_, by first | rfl | (simp [aj, ai] <;> rfl) | (simp [*, aj, ai] <;> rfl), by (with_reducible repeat (first | apply Kd.S_alloc | apply Kd.S_drewN | apply Kd.S_drew)); exact HO240.out, zB⟩
   · replace c6 := Bool.eq_false_iff.mpr c6
     subst c6
     have H1 : (some (([] : List (List Int)), false)) = some (r1, r2) := by rw [if_neg (show ¬ (false = true) by decide)] at H; exact H
     clear H
     have H := H1
     clear H1
     simp only [Option.some.injEq, Prod.mk.injEq] at H
     obtain ⟨rfl, rfl⟩ := H
     go_enter Tryz.func70, Tryz.ntmps70
     go_wp2_with (first | ((with_reducible refine ar (N := 2) rfl ?_); refine zb (w := w) 2 #[.int .i64 a0_0, .slice A0_1 l0_1.length c0_1] 29 zB ?_; clear HB; intro gb235 w13 HB BK235 GW235; have GE235 := GW235; have hcz14_0 := zy BK235 0; have hcz14_1 := zy BK235 1; have hfz14_0 := ae BK235.out 0; have hfz14_1 := ae BK235.out 1) | ((with_reducible refine az (f := 46) rfl ?_); refine zc 7 Tryz.func46 #[.agg #[.int .i64 a0_0, .slice A0_1 l0_1.length c0_1]] ?_; (with_reducible refine (fU k a0_0 _ _ l0_1 true _ ?side1 ?side2 A3.out).mono ?_); (case side1 => exact zC (Kd.C_below HR0_1.out HB.out)); (case side2 => exact HC0_1.out); rintro e w15 ⟨rfl, hb⟩; refine ⟨_, rfl, ?_⟩; replace BK235 := zM (am (g := gb235) (o := .cells #[.int .i64 a0_0, .slice A0_1 l0_1.length c0_1] 29 (0, 0)) (zK BK235.out) hb); replace HB := zM (ag zB hb); (try clear hb); (try clear hb2); (try clear hk); (try clear hi)) | (go_at_call 66; (with_reducible refine (d9 a1 0 8 false _ A5.out).mono ?_); rintro e w' ⟨rfl, ⟨nd, rfl⟩⟩))
     go_ret2
     exact ⟨_, by first | rfl | (simp [aj, ai] <;> rfl) | (simp [*, aj, ai] <;> rfl), by first | exact Kd.S_nil _ _ _ _ _ | exact Kd.N_nil _ _ _ _ _ | exact Kd.V_nil _ _ _ _ _ | exact Kd.Q_nil _ _ _ _ _ | exact Kd.R_nil _ _ _ _ _, zB⟩
 · replace c4 := Bool.eq_false_iff.mpr c4
   subst c4
   have H1 : (some (([] : List (List Int)), false)) = some (r1, r2) := by rw [if_neg (show ¬ (false = true) by decide)] at H; exact H
   clear H
   have H := H1
   clear H1
   simp only [Option.some.injEq, Prod.mk.injEq] at H
   obtain ⟨rfl, rfl⟩ := H
   go_enter Tryz.func70, Tryz.ntmps70
   go_wp2_with (first | ((with_reducible refine ar (N := 2) rfl ?_); refine zb (w := w) 2 #[.int .i64 a0_0, .slice A0_1 l0_1.length c0_1] 29 zB ?_; clear HB; intro gb235 w16 HB BK235 GW235; have GE235 := GW235; have hcz17_0 := zy BK235 0; have hcz17_1 := zy BK235 1; have hfz17_0 := ae BK235.out 0; have hfz17_1 := ae BK235.out 1) | ((with_reducible refine az (f := 46) rfl ?_); refine zc 7 Tryz.func46 #[.agg #[.int .i64 a0_0, .slice A0_1 l0_1.length c0_1]] ?_; (with_reducible refine (fU k a0_0 _ _ l0_1 false _ ?side1 ?side2 A3.out).mono ?_); (case side1 => exact zC (Kd.C_below HR0_1.out HB.out)); (case side2 => exact HC0_1.out); rintro e w18 ⟨rfl, hb⟩; refine ⟨_, rfl, ?_⟩; replace BK235 := zM (am (g := gb235) (o := .cells #[.int .i64 a0_0, .slice A0_1 l0_1.length c0_1] 29 (0, 0)) (zK BK235.out) hb); replace HB := zM (ag zB hb); (try clear hb); (try clear hb2); (try clear hk); (try clear hi)))
   go_ret2
   exact ⟨_, by first | rfl | (simp [aj, ai] <;> rfl) | (simp [*, aj, ai] <;> rfl), by first | exact Kd.S_nil _ _ _ _ _ | exact Kd.N_nil _ _ _ _ _ | exact Kd.V_nil _ _ _ _ _ | exact Kd.Q_nil _ _ _ _ _ | exact Kd.R_nil _ _ _ _ _, zB⟩

end Go.Proofs.YtjgcehldepfaaaaGreat.P
namespace Go.Proofs.YtjgcehldepfaaaaGreat.P
open Go.RowKit YtjgcehldepfaaaaGreatW.PrintWords Go.Proofs.YtjgcehldepfaaaaGreatW.PrintLast Go.Proofs.YtjgcehldepfaaaaGreatW.PrintMore
set_option linter.unusedVariables false
set_option linter.unusedSimpArgs false

def bL (a b : List Int) : List Int := a.filter fun x => !decide (x ∈ b)
def gG (x y : List Int) : Bool := (bL x y).length == 1 && (bL y x).length == 1
def tt (x y : List Int) : Bool := (bL x y).length + (bL y x).length == 1
def fN (es : List S63) (a b : Int) : Bool := es.any fun e => (e.f0 == a && e.f1 == b) || (e.f0 == b && e.f1 == a)
def ba (es : List S63) (x y : List Int) : Bool := gG x y && fN es ((bL x y).headD 0) ((bL y x).headD 0)
def fA (ok : Bool) (st : List Int → List Int → Bool) (t : List (List Int)) : Option (List (List Int) × List S63 × Bool) :=
  if t.length ≤ 1024 ∧ ok = true then some (bK t, aT st 0 (bK t), true) else none
def i3 (f : List Int → List Int → Option Bool) (st : List Int → List Int → Bool) (t : List (List Int)) : Bool := decide (∀ x ∈ t, ∀ y ∈ t, f x y = some (st x y))
theorem nZ (k : Nat) (a0 : Int) (A1 : Option Addr) (c1 : Nat) (l1 : List S63) (ls : List (List Int)) (w : World) (hr : Kd.C k63 w A1 l1.length l1) (hc1 : l1.length ≤ c1) (h : ∀ x ∈ ls, ∀ y ∈ ls, eY k a0 l1 x y = some (ba l1 x y)) : j6 72 #[.agg #[.int .i64 a0, .slice A1 l1.length c1]] #[] (ba l1) ls w := by
  intro W x y A B c c' hx hy hb ha hc hb' hc'
  have h0 := qO k a0 A1 c1 l1 A c x B c' y _ W (Kd.C_below hr hb) hc1 ha hc hb' hc' (h x hx y hy)
  rw [show (#[.agg #[.int .i64 a0, .slice A1 l1.length c1]] : Array Value) ++ (#[.slice A x.length c, .slice B y.length c'] ++ #[]) = #[.agg #[.int .i64 a0, .slice A1 l1.length c1], .slice A x.length c, .slice B y.length c'] from by simp]
  exact h0.mono fun e w' h => ⟨h.1, by first | exact h.2 | exact Drawn0.below h.2⟩
def fT (k : Nat) (a0_0 : Int) (l0_1 : List S63) (a1 : Int) : Option (List (List Int) × List S63 × Bool) :=
  (fV k a0_0 l0_1 a1).bind fun t => if t.2 = true then fA (i3 (eY k a0_0 l0_1) (ba l0_1) t.1) (ba l0_1) t.1 else some ([], [], false)
set_option maxRecDepth 100000 in
set_option maxHeartbeats 2000000 in
theorem qK (k : Nat) (a0_0 : Int) (A0_1 : Option Addr) (c0_1 : Nat) (l0_1 : List (S63)) (a1 : Int) (r1 : List (List Int)) (r2 : List S63) (r3 : Bool) (w : World) (hr0_1 : Kd.C k63 w A0_1 l0_1.length l0_1) (hc0_1 : l0_1.length ≤ c0_1) (h : fT k a0_0 l0_1 a1 = some (r1, r2, r3)) :
    Calls Tryz.prog 48 #[.agg #[.int .i64 a0_0, .slice A0_1 l0_1.length c0_1], .int .i64 a1] w fun e w' => ∃ v0_ v1_ : Value, e = .returned (.tuple #[.agg #[v0_, v1_], .bool r3]) ∧ Kd.S (Kd.slice 3 (Kd.int .i64)) 25 w' w.heap.size (fun _ => True) v0_ r1 ∧ Kd.R k63 63 w' w.heap.size (fun _ => True) v1_ r2 ∧ Below w.heap.size w w' := by
  have hu := Tryz.underlying67
  have hug := Tryz.underlying29
  have HR := zM hr0_1
  have HC := zM hc0_1
  have HB := zM (Below.refl w.heap.size w)
  clear hr0_1 hc0_1
  unfold fT at h
  obtain ⟨t, ht, h⟩ := aw h
  obtain ⟨ls, b⟩ := t
  have HT := zM ht
  clear ht
  cases b with
  | false =>
    simp only [Bool.false_eq_true, if_false, Option.some.injEq, Prod.mk.injEq] at h
    obtain ⟨rfl, rfl, rfl⟩ := h
    go_enter Tryz.func48, Tryz.ntmps48
    go_wp2_with (first
      | ((with_reducible refine ar (N := 2) rfl ?_); refine ze 2 #[.int .i64 a0_0, .slice A0_1 l0_1.length c0_1] 29 ?_; intro g2 hg w1 hbox hb; have BK2 := zM hbox; replace HB := zM (ag HB.out hb); clear hg hbox hb)
      | ((with_reducible refine ar (N := 4) rfl ?_); refine ze 4 #[.slice none 0 0, .slice none 0 0] 67 ?_; intro g4 hg w2 hbox hb; have BK4 := zM hbox; have HG4 := zM (show w.heap.size ≤ g4 by rw [hg]; exact ao HB.out); replace HB := zM (ag HB.out hb); replace BK2 := zM (am BK2.out hb); clear hg hbox hb; have hd0 := zy BK2 0; have hd1 := zy BK2 1)
      | (go_at_call 70; refine (l5 k a0_0 A0_1 c0_1 l0_1 a1 _ _ _ (Kd.C_below HR.out HB.out) HC.out HT.out).mono ?_; rintro e w3 ⟨v3, rfl, ho, hb⟩; have BK2b := zM (am BK2.out hb); have BK4b := zM (am BK4.out hb); have HB3 := zM (ag HB.out hb); have HBs := zM hb; have HS := zM ho; clear hb ho; have hc0 := zy BK4b 0; have hc1 := zy BK4b 1; have hf0 := ae BK4b.out 0; have hf1 := ae BK4b.out 1; clear hd0 hd1; have hd0 := zy BK2b 0; have hd1 := zy BK2b 1; have hg0 := ae BK2b.out 0; have hg1 := ae BK2b.out 1))
    (try simp only [Exit.inBlock, Exit.then])
    refine bodyPost_ret (kX rfl _ _ g4 67 #[.slice none 0 0, .slice none 0 0] (0, 0) _ rfl (aM (cs := #[.slice none 0 0, .slice none 0 0]) (aM (cs := #[.slice none 0 0, .slice none 0 0]) BK4b.out 0 _ rfl) 1 _ rfl) hu rfl (by kernel_rfl)) rfl ?_
    exact ⟨_, _, by first | rfl | (simp; done), Kd.S_nil _ _ _ _ _, Kd.R_nil _ _ _ _ _, bE (bE HB3.out HG4.out) HG4.out⟩
  | true =>
    simp only [if_true] at h
    unfold fA at h
    by_cases c : ls.length ≤ 1024 ∧ i3 (eY k a0_0 l0_1) (ba l0_1) ls = true
    case neg => rw [if_neg c] at h; cases h
    rw [if_pos c] at h
    simp only [Option.some.injEq, Prod.mk.injEq] at h
    obtain ⟨rfl, rfl, rfl⟩ := h
    have HST := zM (ac c.2)
    have HL := zM c.1
    clear c
    go_enter Tryz.func48, Tryz.ntmps48
    go_wp2_with (first
      | ((with_reducible refine ar (N := 2) rfl ?_); refine ze 2 #[.int .i64 a0_0, .slice A0_1 l0_1.length c0_1] 29 ?_; intro g2 hg w1 hbox hb; have BK2 := zM hbox; replace HB := zM (ag HB.out hb); clear hg hbox hb)
      | ((with_reducible refine ar (N := 4) rfl ?_); refine ze 4 #[.slice none 0 0, .slice none 0 0] 67 ?_; intro g4 hg w2 hbox hb; have BK4 := zM hbox; have HG4 := zM (show w.heap.size ≤ g4 by rw [hg]; exact ao HB.out); replace HB := zM (ag HB.out hb); replace BK2 := zM (am BK2.out hb); clear hg hbox hb; have hd0 := zy BK2 0; have hd1 := zy BK2 1)
      | (go_at_call 70; refine (l5 k a0_0 A0_1 c0_1 l0_1 a1 _ _ _ (Kd.C_below HR.out HB.out) HC.out HT.out).mono ?_; rintro e w3 ⟨v3, rfl, ho, hb⟩; have BK2b := zM (am BK2.out hb); have BK4b := zM (am BK4.out hb); have HB3 := zM (ag HB.out hb); have HBs := zM hb; have HS := zM ho; clear hb ho; have hc0 := zy BK4b 0; have hc1 := zy BK4b 1; have hf0 := ae BK4b.out 0; have hf1 := ae BK4b.out 1; clear hd0 hd1; have hd0 := zy BK2b 0; have hd1 := zy BK2b 1; have hg0 := ae BK2b.out 0; have hg1 := ae BK2b.out 1)
      | (go_at_call 71; refine (nR 72 #[.agg #[.int .i64 a0_0, .slice A0_1 l0_1.length c0_1]] #[] (enters_of Tryz.func72 (by kernel_rfl) rfl) (ba l0_1) v3 ls w2 w3 HBs.out HS.out HL.out (nZ k a0_0 A0_1 c0_1 l0_1 ls w2 (Kd.C_below HR.out HB.out) HC.out HST.out)).mono ?_; rintro e w5 ⟨v5, v6, rfl, h0, h1, hb⟩; clear hc0 hc1 hf0 hf1 BK4b; have BK4b := zM (am BK4.out hb); have HB5 := zM (ag HB.out hb); have HS5 := zM (Kd.S_lower h0 (ao HB.out)); have HR5 := zM (Kd.R_lower h1 (ao HB.out)); clear h0 h1 hb; obtain ⟨A5, c5, e5⟩ := Kd.S_slice HS5.out; subst e5; obtain ⟨A6, c6, e6⟩ := Kd.R_slice HR5.out; subst e6; have hc0 := zy BK4b 0; have hc1 := zy BK4b 1; have hf0 := ae BK4b.out 0; have hf1 := ae BK4b.out 1))
    (try simp only [Exit.inBlock, Exit.then])
    refine bodyPost_ret (kX rfl _ _ g4 67 #[.slice A5 (bK ls).length c5, .slice A6 (aT (ba l0_1) 0 (bK ls)).length c6] (0, 0) _ rfl (aM (cs := #[.slice A5 (bK ls).length c5, .slice none 0 0]) (aM (cs := #[.slice none 0 0, .slice none 0 0]) BK4b.out 0 _ rfl) 1 _ rfl) hu rfl (by kernel_rfl)) rfl ?_
    refine ⟨_, _, by first | rfl | (simp; done), ?_, ?_, bE (bE HB5.out HG4.out) HG4.out⟩
    · exact Kd.S_mono (Kd.S_far (p := ⟨g4, 1, none⟩) (Kd.S_far (p := ⟨g4, 0, none⟩) (Kd.S_types HS5.out BK4b.out (by decide)) (fun _ hk => hk.2) _) (fun _ hk => hk.2) _) (fun _ _ => trivial)
    · exact Kd.R_mono (Kd.R_far (p := ⟨g4, 1, none⟩) (Kd.R_far (p := ⟨g4, 0, none⟩) (Kd.R_types HR5.out BK4b.out (by decide)) (fun _ hk => hk.2) _) (fun _ hk => hk.2) _) (fun _ _ => trivial)
end Go.Proofs.YtjgcehldepfaaaaGreat.P
namespace Go.Proofs.YtjgcehldepfaaaaGreat.P
open Go.RowKit YtjgcehldepfaaaaGreatW.PrintWords Go.Proofs.YtjgcehldepfaaaaGreatW.PrintLast Go.Proofs.YtjgcehldepfaaaaGreatW.PrintMore
attribute [local go_sem] bk bg bh bc bi bd bj bf   -- for this text's walks alone
set_option linter.unusedVariables false
set_option linter.unusedSimpArgs false

/-! ### impl_Graph_locked: function 24 -/
def da : Nat → Int → List Int → Int → Int → List (List Int) → List (S63) → Option (List Int)
 | 0, _, _, _, _, _, _ => none
 | k + 1, x9, x30, x31, x32, x445000, x445001 => if x32 < x31 then (if 0 ≤ x32 then (if x32 < (x30.length : Int) then (if (rd x30 x32) ≥ 0 then (if x32 < (x445000.length : Int) then ((cI k (al x445000 x32)).bind fun t456 => (da k (Go.bits .and .u64 x9 t456) x30 x31 (wrap64 (x32 + 1)) x445000 x445001)) else (none)) else (da k x9 x30 x31 (wrap64 (x32 + 1)) x445000 x445001)) else (none)) else (none)) else ((dQ k x9).bind fun t457 => (some t457))
def ed (k : Nat) (a0_0 : Int) (l0_1 : List (S63)) (l1 : List Int) : Option (List Int) := (fT k a0_0 l0_1 (l1.length : Int)).bind fun bt437 => ((eW bt437.1 bt437.2.1 l1).bind fun bt445 => ((cI k l1).bind fun t447 => ((eV k bt437.1 bt437.2.1).bind fun t448 => ((eQ k t448 bt445.1).bind fun t451 => (da k t447 t451 (t451.length : Int) 0 bt437.1 bt437.2.1)))))
set_option maxHeartbeats 8000000 in
set_option maxRecDepth 100000 in
theorem qN (k : Nat) (a0_0 : Int) (A0_1 : Option Addr) (c0_1 : Nat) (l0_1 : List (S63)) (A1 : Option Addr) (c1 : Nat) (l1 : List Int) (r : List Int) (w : World) (hr0_1 : Kd.C k63 w A0_1 l0_1.length l0_1) (hc0_1 : l0_1.length ≤ c0_1) (hr1 : Kd.C (Kd.int .i64) w A1 l1.length l1) (hc1 : l1.length ≤ c1) (h : ed k a0_0 l0_1 l1 = some r) :
 Calls Tryz.prog 24 #[.agg #[.int .i64 a0_0, .slice A0_1 l0_1.length c0_1], .slice A1 l1.length c1] w fun e w' => ∃ v0_ : Value, e = .returned (v0_) ∧ Kd.R (Kd.int .i64) 3 w' w.heap.size (fun _ => True) v0_ r ∧ Below w.heap.size w w' := by
 have hu29 := Tryz.underlying29
 have hu67 := Tryz.underlying67
 have HR0_1 := Aside0.mk hr0_1
 have HC0_1 := Aside0.mk hc0_1
 clear hr0_1 hc0_1
 have HR1 := Aside0.mk hr1
 have HC1 := Aside0.mk hc1
 clear hr1 hc1
 have HB := zM (Below.refl w.heap.size w)
 have H : ((fT k a0_0 l0_1 (l1.length : Int)).bind fun bt437 => ((eW bt437.1 bt437.2.1 l1).bind fun bt445 => ((cI k l1).bind fun t447 => ((eV k bt437.1 bt437.2.1).bind fun t448 => ((eQ k t448 bt445.1).bind fun t451 => (da k t447 t451 (t451.length : Int) 0 bt437.1 bt437.2.1)))))) = some r := h
 clear h
 replace H := aw H
 obtain ⟨⟨t437, t440, t443⟩, A30, H⟩ := H
 replace H : ((eW t437 t440 l1).bind fun bt445 => ((cI k l1).bind fun t447 => ((eV k t437 t440).bind fun t448 => ((eQ k t448 bt445.1).bind fun t451 => (da k t447 t451 (t451.length : Int) 0 t437 t440))))) = some r := H
 have A3 := Aside0.mk A30
 clear A30
 replace H := aw H
 obtain ⟨⟨t445, t446⟩, A40, H⟩ := H
 replace H : ((cI k l1).bind fun t447 => ((eV k t437 t440).bind fun t448 => ((eQ k t448 t445).bind fun t451 => (da k t447 t451 (t451.length : Int) 0 t437 t440)))) = some r := H
 have A4 := Aside0.mk A40
 clear A40
 replace H := aw H
 obtain ⟨t447, A50, H⟩ := H
 have A5 := Aside0.mk A50
 clear A50
 replace H := aw H
 obtain ⟨t448, A60, H⟩ := H
 have A6 := Aside0.mk A60
 clear A60
 replace H := aw H
 obtain ⟨t451, A70, H⟩ := H
 have A7 := Aside0.mk A70
 clear A70
 have H' := Aside0.mk H
 clear H
 go_enter Tryz.func24, Tryz.ntmps24
 go_wp2_with (first | ((with_reducible refine ar (N := 2) rfl ?_); refine zb (w := w) 2 #[.int .i64 a0_0, .slice A0_1 l0_1.length c0_1] 29 zB ?_; clear HB; intro gb436 w8 HB BK436 GW436; have GE436 := GW436; have hcz9_0 := zy BK436 0; have hcz9_1 := zy BK436 1; have hfz9_0 := ae BK436.out 0; have hfz9_1 := ae BK436.out 1) | ((with_reducible refine az (f := 48) rfl ?_); refine zc 16 Tryz.func48 #[.agg #[.int .i64 a0_0, .slice A0_1 l0_1.length c0_1], .int .i64 (l1.length : Int)] ?_; (with_reducible refine (qK k a0_0 _ _ l0_1 (l1.length : Int) t437 t440 t443 _ ?side1 ?side2 A3.out).mono ?_); (case side1 => exact zC (Kd.C_below HR0_1.out HB.out)); (case side2 => exact HC0_1.out); rintro e w10 ⟨v438, v441, rfl, ho0, ho1, hb⟩; refine ⟨_, rfl, ?_⟩; have HO439 := zM (Kd.S_lower ho0 (ao zB)); have HO442 := zM (Kd.R_lower ho1 (ao zB)); replace BK436 := zM (am (g := gb436) (o := .cells #[.int .i64 a0_0, .slice A0_1 l0_1.length c0_1] 29 (0, 0)) (zK BK436.out) hb); replace HB := zM (ag zB hb); (try clear hb); (try clear hb2); (try clear hk); (try clear hi); (try clear ho0); (try clear ho1)) | ((with_reducible refine ar (N := 5) rfl ?_); refine ze 5 #[.slice none 0 0, .slice none 0 0] 67 ?_; intro gb444 hg w11 hbox hb; replace HO439 := zM (Kd.S_below (by (with_reducible repeat (first | apply Kd.S_alloc | apply Kd.S_drewN | apply Kd.S_drew)); exact HO439.out) hb); replace HO442 := zM (Kd.R_below (zR HO442.out) hb); have BK444 := zM (hbox); have GW444 := zM ((by rw [hg]; exact (ao zB) : w.heap.size ≤ gb444)); have GE444 := zM ((by rw [hg]; exact (ao zB) : w.heap.size ≤ gb444)); replace HB := zM (ag zB hb); have NB436_444 := zM ((by rw [hg]; exact Nat.ne_of_lt (aE (g := gb436) (o := .cells #[.int .i64 a0_0, .slice A0_1 l0_1.length c0_1] 29 (0, 0)) (zK BK436.out)) : gb436 ≠ gb444)); have NB444_436 := zM ((by rw [hg]; exact Nat.ne_of_gt (aE (g := gb436) (o := .cells #[.int .i64 a0_0, .slice A0_1 l0_1.length c0_1] 29 (0, 0)) (zK BK436.out)) : gb444 ≠ gb436)); replace BK436 := zM (am (g := gb436) (o := .cells #[.int .i64 a0_0, .slice A0_1 l0_1.length c0_1] 29 (0, 0)) (zK BK436.out) hb); clear hb hbox hg; obtain ⟨Ao12, co12, eo12⟩ := Kd.S_slice HO439.out; subst eo12; have hnb13 := NB444_436.out; have hnc13 := NB436_444.out; have hcz14_0 := zy BK444 0; have hcz14_1 := zy BK444 1; have hfz14_0 := ae BK444.out 0; have hfz14_1 := ae BK444.out 1; obtain ⟨Ao15, co15, eo15⟩ := Kd.R_slice HO442.out; subst eo15) | ((with_reducible refine az (f := 49) rfl ?_); refine zc 22 Tryz.func49 #[.agg #[.slice Ao12 t437.length co12, .slice Ao15 t440.length co15], .slice A1 l1.length c1] ?_; (with_reducible refine (qI _ _ t437 _ _ t440 _ _ l1 t445 t446 _ ?side1 ?side2 ?side3 ?side4 ?side5 ?side6 A4.out).mono ?_); (case side1 => refine (Kd.S_reads' (e := 25) (base := w.heap.size) (ok := fun k_ => True) (n := t437.length) (c := co12) ?_).2.2; exact (by (with_reducible repeat (first | apply Kd.S_alloc | apply Kd.S_drewN | apply Kd.S_drew)); exact (Kd.S_mono (Kd.S_far (p := ⟨gb444, 1, none⟩) (Kd.S_far (p := ⟨gb444, 0, none⟩) (Kd.S_types HO439.out BK444.out (by decide)) (fun _ hk => hk.2) (.slice Ao12 t437.length co12)) (fun _ hk => hk.2) (.slice Ao15 t440.length co15)) (fun _ h_ => h_.1)))); (case side2 => exact (Kd.S_reads' HO439.out).2.1); (case side3 => refine (Kd.R_reads' (e := 63) (base := w.heap.size) (ok := fun k_ => True) (n := t440.length) (c := co15) ?_).2.2; exact (by (with_reducible repeat (first | apply Kd.R_alloc | apply Kd.R_drewN | apply Kd.R_drew)); exact (Kd.R_mono (Kd.R_far (p := ⟨gb444, 1, none⟩) (Kd.R_far (p := ⟨gb444, 0, none⟩) (Kd.R_types HO442.out BK444.out (by decide)) (fun _ hk => hk.2) (.slice Ao12 t437.length co12)) (fun _ hk => hk.2) (.slice Ao15 t440.length co15)) (fun _ h_ => h_.1)))); (case side4 => exact (Kd.R_reads' HO442.out).2.1); (case side5 => exact Kd.C_below HR1.out zB); (case side6 => exact HC1.out); rintro e w16 ⟨rfl, hb⟩; refine ⟨_, rfl, ?_⟩; replace HO439 := zM (Kd.S_below (by (with_reducible repeat (first | apply Kd.S_alloc | apply Kd.S_drewN | apply Kd.S_drew)); exact (Kd.S_mono (Kd.S_far (p := ⟨gb444, 1, none⟩) (Kd.S_far (p := ⟨gb444, 0, none⟩) (Kd.S_types HO439.out BK444.out (by decide)) (fun _ hk => hk.2) (.slice Ao12 t437.length co12)) (fun _ hk => hk.2) (.slice Ao15 t440.length co15)) (fun _ h_ => h_.1))) hb); replace HO442 := zM (Kd.R_below (by (with_reducible repeat (first | apply Kd.R_alloc | apply Kd.R_drewN | apply Kd.R_drew)); exact (Kd.R_mono (Kd.R_far (p := ⟨gb444, 1, none⟩) (Kd.R_far (p := ⟨gb444, 0, none⟩) (Kd.R_types HO442.out BK444.out (by decide)) (fun _ hk => hk.2) (.slice Ao12 t437.length co12)) (fun _ hk => hk.2) (.slice Ao15 t440.length co15)) (fun _ h_ => h_.1))) hb); replace BK436 := zM (am (g := gb436) (o := .cells #[.int .i64 a0_0, .slice A0_1 l0_1.length c0_1] 29 (0, 0)) (by (with_reducible repeat (first | refine ay ?_ _ | refine ap ?_ | refine ax ?_ _)); refine bH ?_ NB436_444.out _; (with_reducible repeat (first | refine ay ?_ _ | refine ap ?_ | refine ax ?_ _)); refine bH ?_ NB436_444.out _; (with_reducible repeat (first | refine ay ?_ _ | refine ap ?_ | refine ax ?_ _)); exact BK436.out) hb); replace BK444 := zM (am (g := gb444) (o := .cells #[.slice Ao12 t437.length co12, .slice Ao15 t440.length co15] 67 (0, 0)) (by (with_reducible repeat (first | refine ay ?_ _ | refine ap ?_ | refine ax ?_ _)); refine aM (cs := #[.slice Ao12 t437.length co12, .slice none 0 0]) ?_ 1 _ rfl; (with_reducible repeat (first | refine ay ?_ _ | refine ap ?_ | refine ax ?_ _)); refine aM (cs := #[.slice none 0 0, .slice none 0 0]) ?_ 0 _ rfl; (with_reducible repeat (first | refine ay ?_ _ | refine ap ?_ | refine ax ?_ _)); exact BK444.out) hb); replace HB := zM (ag zB hb); (try clear hb); (try clear hb2); (try clear hk); (try clear hi)) | ((with_reducible refine az (f := 32) rfl ?_); refine zc 26 Tryz.func32 #[.slice A1 l1.length c1] ?_; (with_reducible refine (gM k _ _ l1 t447 _ ?side1 ?side2 A5.out).mono ?_); (case side1 => exact zC (Kd.C_below HR1.out HB.out)); (case side2 => exact HC1.out); rintro e w' ⟨rfl, ⟨nd, rfl⟩⟩; refine ⟨_, rfl, ?_⟩; have hcz17_0 := zy BK444 0; have hcz17_1 := zy BK444 1; have hfz17_0 := ae BK444.out 0; have hfz17_1 := ae BK444.out 1) | ((with_reducible refine az (f := 51) rfl ?_); refine zc 28 Tryz.func51 #[.agg #[.slice Ao12 t437.length co12, .slice Ao15 t440.length co15]] ?_; (with_reducible refine (qD k _ _ t437 _ _ t440 t448 _ ?side1 ?side2 ?side3 ?side4 A6.out).mono ?_); (case side1 => exact zC (Kd.S_reads' HO439.out).2.2); (case side2 => exact (Kd.S_reads' HO439.out).2.1); (case side3 => exact zC (Kd.R_reads' HO442.out).2.2); (case side4 => exact (Kd.R_reads' HO442.out).2.1); rintro e w18 ⟨v449, rfl, ho0, hb⟩; refine ⟨_, rfl, ?_⟩; replace HO442 := zM (Kd.R_below (zR HO442.out) hb); have HO450 := zM (Kd.S_lower (Kd.S_new' ho0 (Kd.S_lt (by (with_reducible repeat (first | apply Kd.S_alloc | apply Kd.S_drewN | apply Kd.S_drew)); exact HO439.out))) (ao zB)); replace HO439 := zM (Kd.S_elder' (by (with_reducible repeat (first | apply Kd.S_alloc | apply Kd.S_drewN | apply Kd.S_drew)); exact HO439.out) (Kd.S_base ho0) hb); replace BK436 := zM (am (g := gb436) (o := .cells #[.int .i64 a0_0, .slice A0_1 l0_1.length c0_1] 29 (0, 0)) (zK BK436.out) hb); replace BK444 := zM (am (g := gb444) (o := .cells #[.slice Ao12 t437.length co12, .slice Ao15 t440.length co15] 67 (0, 0)) (zK BK444.out) hb); replace HB := zM (ag zB hb); (try clear hb); (try clear hb2); (try clear hk); (try clear hi); (try clear ho0); obtain ⟨Ao19, co19, eo19⟩ := Kd.S_slice HO450.out; subst eo19) | ((with_reducible refine az (f := 50) rfl ?_); refine zc 30 Tryz.func50 #[.slice Ao19 t448.length co19, .int .i64 t445] ?_; (with_reducible refine (qo k _ _ t448 t445 t451 _ ?side1 ?side2 A7.out).mono ?_); (case side1 => exact zC (Kd.S_reads' HO450.out).2.2); (case side2 => exact (Kd.S_reads' HO450.out).2.1); rintro e w20 ⟨v452, rfl, ho0, hb⟩; refine ⟨_, rfl, ?_⟩; replace HO439 := zM (Kd.S_elder' (by (with_reducible repeat (first | apply Kd.S_alloc | apply Kd.S_drewN | apply Kd.S_drew)); exact HO439.out) (Kd.R_base ho0) hb); replace HO442 := zM (Kd.R_below (zR HO442.out) hb); replace HO450 := zM (Kd.S_elder' (by (with_reducible repeat (first | apply Kd.S_alloc | apply Kd.S_drewN | apply Kd.S_drew)); exact HO450.out) (Kd.R_base ho0) hb); have HO453 := zM (Kd.R_lower ho0 (ao zB)); replace BK436 := zM (am (g := gb436) (o := .cells #[.int .i64 a0_0, .slice A0_1 l0_1.length c0_1] 29 (0, 0)) (zK BK436.out) hb); replace BK444 := zM (am (g := gb444) (o := .cells #[.slice Ao12 t437.length co12, .slice Ao15 t440.length co15] 67 (0, 0)) (zK BK444.out) hb); replace HB := zM (ag zB hb); (try clear hb); (try clear hb2); (try clear hk); (try clear hi); (try clear ho0); obtain ⟨Ao21, co21, eo21⟩ := Kd.R_slice HO453.out; subst eo21))
 go_loopg [9, 32] k (fun kq v9 v32 w' => ∃ (x9_1 : Int) (x32_1 : Int), v9 = .int .u64 x9_1 ∧ v32 = .int .i64 x32_1 ∧ Aside0 (da kq x9_1 t451 (t451.length : Int) x32_1 t437 t440 = some r) ∧ Aside0 (kq ≤ k) ∧ Aside0 (Kd.R (Kd.int .i64) 3 w' w.heap.size (fun _ => True) (.slice Ao21 t451.length co21) t451) ∧ Aside0 (Kd.S (Kd.slice 3 (Kd.int .i64)) 25 w' w.heap.size (fun k_ => some k_ ≠ ((.slice Ao21 t451.length co21) : Value).ownBlock) (.slice Ao12 t437.length co12) t437) ∧ Aside0 (Kd.R k63 63 w' w.heap.size (fun _ => True) (.slice Ao15 t440.length co15) t440) ∧ Aside0 (w'.heap[gb436]? = some (.cells #[.int .i64 a0_0, (.slice A0_1 l0_1.length c0_1)] 29 (0, 0))) ∧ Aside0 (w'.heap[gb444]? = some (.cells #[(.slice Ao12 t437.length co12), (.slice Ao15 t440.length co15)] 67 (0, 0))) ∧ Aside0 (Below w.heap.size w w'))
 case atStart => exact ⟨(t447), (0), (by first | rfl | (simp; done) | (simp [*]; done)), (by first | rfl | (simp; done) | (simp [*]; done)), H', ⟨av _⟩, ⟨zR HO453.out⟩, ⟨by (with_reducible repeat (first | apply Kd.S_alloc | apply Kd.S_drewN | apply Kd.S_drew)); exact Kd.S_mono HO439.out (fun _ hk => hk.2)⟩, ⟨zR HO442.out⟩, ⟨zK BK436.out⟩, ⟨zK BK444.out⟩, ⟨zB⟩⟩
 case round =>
  clear H'
  try clear c1
  try clear c2
  try clear p2
  try clear c3
  try clear c4
  try clear c5
  try clear c13
  try clear hcz14_0
  try clear hcz14_1
  try clear hcz17_0
  try clear hcz17_1
  try clear hcz9_0
  try clear hcz9_1
  try clear hfz14_0
  try clear hfz14_1
  try clear hfz17_0
  try clear hfz17_1
  try clear hfz9_0
  try clear hfz9_1
  obtain ⟨x9_1, x32_1, rfl, rfl, HA, HK1, HO_30, HO_445000, HO_445001, BK436, BK444, HB⟩ := hrel
  cases gk with
  | zero => exact absurd HA.out (by simp [da])
  | succ k1 =>
   have H := HA.out
   clear HA
   simp only [da] at H
   by_cases c22 : x32_1 < (t451.length : Int)
   · rw [if_pos c22] at H
     have c22b0 := af c22
     clear c22
     by_cases c23 : 0 ≤ x32_1
     · rw [if_pos c23] at H
       have c23b0 := af c23
       clear c23
       by_cases c24 : x32_1 < (t451.length : Int)
       · rw [if_pos c24] at H
         have c24b0 := af c24
         clear c24
         by_cases c25 : (rd t451 x32_1) ≥ 0
         · rw [if_pos c25] at H
           have c25b0 : decide (0 ≤ (rd t451 x32_1)) = true := af c25
           clear c25
           by_cases c26 : x32_1 < (t437.length : Int)
           · rw [if_pos c26] at H
             have c26b0 := af c26
             clear c26
             replace H := aw H
             obtain ⟨t456, A270, H⟩ := H
             have A27 := Aside0.mk A270
             clear A270
             have H' := Aside0.mk H
             clear H
             have p454 : 0 ≤ (x32_1 : Int) := ac zA
             have q454 : x32_1 < (t451.length : Int) := ac zA
             obtain ⟨ad454, e454, hx454_0⟩ := Kd.at_int (Kd.R_reads' HO_30.out).2.2 x32_1 p454 q454
             cases e454
             replace p454 := eq_true p454
             replace q454 := eq_true q454
             have hnb28 := NB444_436.out
             have hnc28 := NB436_444.out
             have hcz29_0 := zy BK444 0
             have hcz29_1 := zy BK444 1
             have hfz29_0 := ae BK444.out 0
             have hfz29_1 := ae BK444.out 1
             have p455 : 0 ≤ (x32_1 : Int) := ac zA
             have q455 : x32_1 < (t437.length : Int) := ac zA
             obtain ⟨ad455, A455_0, c455_0, e455, hx455_0, hl455_0, hi455_0⟩ := gZ (Kd.S_reads' HO_445000.out).2.2 x32_1 p455 q455
             cases e455
             obtain ⟨ce455, hce455, hMe455, hcc455⟩ := Kd.S_get HO_445000.out [] x32_1 p455 (by first | exact q455 | exact ac zA | (have e_ := (Kd.S_reads' HO_445000.out).1; omega))
             obtain ⟨ve455_0, rfl, ge455_0⟩ := hMe455
             have hv455_0 := hcc455 0 _ rfl
             rw [Nat.add_zero, show ((Kd.slice 3 (Kd.int .i64))).sz = 1 from rfl, Nat.mul_one] at hv455_0
             replace hv455_0 := aq (hv455_0.symm.trans hx455_0)
             rw [hv455_0] at ge455_0
             have HL455_0 := zM (show Kd.R (Kd.int .i64) 3 _ _ _ _ (al t437 x32_1) from ge455_0)
             clear hv455_0 ge455_0
             clear hcc455 hce455
             have HR455_0 := Aside0.mk hi455_0
             have HC455_0 := Aside0.mk hl455_0
             clear hi455_0 hl455_0
             replace p455 := eq_true p455
             replace q455 := eq_true q455
             go_wp2_with (first | ((with_reducible refine az (f := 32) rfl ?_); refine zc 45 Tryz.func32 #[.slice A455_0 (al t437 x32_1).length c455_0] ?_; (with_reducible refine (gM k1 _ _ (al t437 x32_1) t456 _ ?side1 ?side2 A27.out).mono ?_); (case side1 => repeat (first | exact (by repeat (first | (with_reducible exact HR455_0.out) | (with_reducible refine Kd.C_alloc ?_ _) | (with_reducible refine Kd.C_drewN ?_ _) | (with_reducible refine Kd.C_drew ?_) | exact HR455_0.out)) | (with_reducible refine Kd.C_alloc ?_ _) | (with_reducible refine Kd.C_drewN ?_ _) | (with_reducible refine Kd.C_drew ?_))); (case side2 => exact HC455_0.out); rintro e w' ⟨rfl, ⟨nd, rfl⟩⟩; refine ⟨_, rfl, ?_⟩))
             go_roundg k1
             case measure => have := HK1.out; omega
             case rel => exact ⟨(Go.bits .and .u64 x9_1 t456), (wrap64 (x32_1 + 1)), (by first | rfl | (simp; done) | (simp [*]; done)), (by first | rfl | (simp; done) | (simp [*]; done)), H', ⟨by have := HK1.out; omega⟩, ⟨zR HO_30.out⟩, ⟨by (with_reducible repeat (first | apply Kd.S_alloc | apply Kd.S_drewN | apply Kd.S_drew)); exact HO_445000.out⟩, ⟨zR HO_445001.out⟩, ⟨zK BK436.out⟩, ⟨zK BK444.out⟩, ⟨zB⟩⟩
           · rw [if_neg c26] at H
             exact absurd H (by simp)
         · rw [if_neg c25] at H
           have c25b0 : decide (0 ≤ (rd t451 x32_1)) = false := au c25
           clear c25
           have H' := Aside0.mk H
           clear H
           have p454 : 0 ≤ (x32_1 : Int) := ac zA
           have q454 : x32_1 < (t451.length : Int) := ac zA
           obtain ⟨ad454, e454, hx454_0⟩ := Kd.at_int (Kd.R_reads' HO_30.out).2.2 x32_1 p454 q454
           cases e454
           replace p454 := eq_true p454
           replace q454 := eq_true q454
           go_wp2
           go_roundg k1
           case measure => have := HK1.out; omega
           case rel => exact ⟨(x9_1), (wrap64 (x32_1 + 1)), (by first | rfl | (simp; done) | (simp [*]; done)), (by first | rfl | (simp; done) | (simp [*]; done)), H', ⟨by have := HK1.out; omega⟩, ⟨zR HO_30.out⟩, ⟨by (with_reducible repeat (first | apply Kd.S_alloc | apply Kd.S_drewN | apply Kd.S_drew)); exact HO_445000.out⟩, ⟨zR HO_445001.out⟩, ⟨zK BK436.out⟩, ⟨zK BK444.out⟩, ⟨zB⟩⟩
       · rw [if_neg c24] at H
         exact absurd H (by simp)
     · rw [if_neg c23] at H
       exact absurd H (by simp)
   · rw [if_neg c22] at H
     have c22b0 : decide (x32_1 < (t451.length : Int)) = false := au c22
     clear c22
     replace H := aw H
     obtain ⟨t457, A300, H⟩ := H
     have A30 := Aside0.mk A300
     clear A300
     obtain rfl := aq H
     go_wp2_with (first | ((with_reducible refine az (f := 33) rfl ?_); refine zc 49 Tryz.func33 #[.int .u64 x9_1] ?_; (with_reducible refine (iL k1 x9_1 t457 _ A30.out).mono ?_); rintro e w31 ⟨v458, rfl, ho0, hb⟩; refine ⟨_, rfl, ?_⟩; replace HO_445000 := zM (Kd.S_elder' (by (with_reducible repeat (first | apply Kd.S_alloc | apply Kd.S_drewN | apply Kd.S_drew)); exact HO_445000.out) (Kd.R_base ho0) hb); replace HO_445001 := zM (Kd.R_below (zR HO_445001.out) hb); have HO459 := zM (Kd.R_lower (Kd.R_new' ho0 (Kd.R_lt (zR HO_30.out))) (ao zB)); replace HO_30 := zM (Kd.R_elder' (zR HO_30.out) (Kd.R_base ho0) hb); replace BK436 := zM (am (g := gb436) (o := .cells #[.int .i64 a0_0, .slice A0_1 l0_1.length c0_1] 29 (0, 0)) (zK BK436.out) hb); replace BK444 := zM (am (g := gb444) (o := .cells #[.slice Ao12 t437.length co12, .slice Ao15 t440.length co15] 67 (0, 0)) (zK BK444.out) hb); replace HB := zM (ag zB hb); (try clear hb); (try clear hb2); (try clear hk); (try clear hi); (try clear ho0)))
     go_ret
     exact ⟨_, by first | rfl | (simp [aj, ai] <;> rfl) | (simp [*, aj, ai] <;> rfl), by (with_reducible repeat (first | apply Kd.R_alloc | apply Kd.R_drewN | apply Kd.R_drew)); exact Kd.R_mono HO459.out (fun _ hk => trivial), zB⟩

end Go.Proofs.YtjgcehldepfaaaaGreat.P
