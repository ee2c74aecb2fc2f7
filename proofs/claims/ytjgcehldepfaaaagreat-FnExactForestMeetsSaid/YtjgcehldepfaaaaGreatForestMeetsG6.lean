import Derived.Test.YtjgcehldepfaaaaGreatForestMeetsG5
namespace Go.Proofs.YtjgcehldepfaaaaGreat.P
open Go.RowKit YtjgcehldepfaaaaGreatW.PrintWords YtjgcehldepfaaaaGreatW.PrintLast YtjgcehldepfaaaaGreatW.PrintMore
attribute [local go_sem] bl bh bi bd bj bf bk bg
set_option maxRecDepth 100000
set_option maxHeartbeats 8000000
set_option linter.unusedVariables false
set_option linter.unusedSimpArgs false
def fU (a0 : Int) (a1 : Int) : Option (Int) := (iH a0).bind fun t134 => ((iH a1).bind fun t135 => (if t134 = true then (if t135 = true then (some 0) else (some (-1))) else (if t135 = true then (some 1) else (if a0 < a1 then (some (-1)) else (if a0 > a1 then (some 1) else (some 0))))))
theorem jB (a0 : Int) (a1 : Int) (r : Int) (w : World) (h : fU a0 a1 = some r) :
 Calls Tryz.prog 90 #[.int .i64 a0, .int .i64 a1] w fun e w' => e = .returned (.int .i64 r) ∧ Drawn0 w w' := by
 have H := h
 unfold fU at H
 clear h
 replace H := av H
 obtain ⟨t134, A30, H⟩ := H
 have A3 := Aside0.mk A30
 clear A30
 replace H := av H
 obtain ⟨t135, A40, H⟩ := H
 have A4 := Aside0.mk A40
 clear A40
 by_cases c5 : t134 = true
 · subst c5
   rw [if_pos rfl] at H
   by_cases c6 : t135 = true
   · subst c6
     rw [if_pos rfl] at H
     obtain rfl := ap H
     go_enter Tryz.func90, Tryz.ntmps90
     go_wp2_with (first | ((with_reducible refine ax (f := 109) rfl ?_); refine zc 8 Tryz.func109 #[.int .i64 a0] ?_; (with_reducible refine (du a0 true _ A3.out).mono ?_); rintro e w' ⟨rfl, ⟨nd, rfl⟩⟩; refine ⟨_, rfl, ?_⟩) | ((with_reducible refine ax (f := 109) rfl ?_); refine zc 10 Tryz.func109 #[.int .i64 a1] ?_; (with_reducible refine (du a1 true _ A4.out).mono ?_); rintro e w' ⟨rfl, ⟨nd, rfl⟩⟩; refine ⟨_, rfl, ?_⟩))
     go_ret
     exact ⟨by first | rfl | (simp; done) | (simp [*]; done), by repeat (first | exact Drawn0.refl _ | apply Drawn0.step)⟩
   · replace c6 := Bool.eq_false_iff.mpr c6
     subst c6
     rw [if_neg (show ¬ (false = true) by decide)] at H
     obtain rfl := ap H
     go_enter Tryz.func90, Tryz.ntmps90
     go_wp2_with (first | ((with_reducible refine ax (f := 109) rfl ?_); refine zc 8 Tryz.func109 #[.int .i64 a0] ?_; (with_reducible refine (du a0 true _ A3.out).mono ?_); rintro e w' ⟨rfl, ⟨nd, rfl⟩⟩; refine ⟨_, rfl, ?_⟩) | ((with_reducible refine ax (f := 109) rfl ?_); refine zc 10 Tryz.func109 #[.int .i64 a1] ?_; (with_reducible refine (du a1 false _ A4.out).mono ?_); rintro e w' ⟨rfl, ⟨nd, rfl⟩⟩; refine ⟨_, rfl, ?_⟩))
     go_ret
     exact ⟨by first | rfl | (simp; done) | (simp [*]; done), by repeat (first | exact Drawn0.refl _ | apply Drawn0.step)⟩
 · replace c5 := Bool.eq_false_iff.mpr c5
   subst c5
   rw [if_neg (show ¬ (false = true) by decide)] at H
   by_cases c7 : t135 = true
   · subst c7
     rw [if_pos rfl] at H
     obtain rfl := ap H
     go_enter Tryz.func90, Tryz.ntmps90
     go_wp2_with (first | ((with_reducible refine ax (f := 109) rfl ?_); refine zc 8 Tryz.func109 #[.int .i64 a0] ?_; (with_reducible refine (du a0 false _ A3.out).mono ?_); rintro e w' ⟨rfl, ⟨nd, rfl⟩⟩; refine ⟨_, rfl, ?_⟩) | ((with_reducible refine ax (f := 109) rfl ?_); refine zc 10 Tryz.func109 #[.int .i64 a1] ?_; (with_reducible refine (du a1 true _ A4.out).mono ?_); rintro e w' ⟨rfl, ⟨nd, rfl⟩⟩; refine ⟨_, rfl, ?_⟩))
     go_ret
     exact ⟨by first | rfl | (simp; done) | (simp [*]; done), by repeat (first | exact Drawn0.refl _ | apply Drawn0.step)⟩
   · replace c7 := Bool.eq_false_iff.mpr c7
     subst c7
     rw [if_neg (show ¬ (false = true) by decide)] at H
     by_cases c8 : a0 < a1
     · rw [if_pos c8] at H
       have c8b0 := af c8
       clear c8
       obtain rfl := ap H
       go_enter Tryz.func90, Tryz.ntmps90
       go_wp2_with (first | ((with_reducible refine ax (f := 109) rfl ?_); refine zc 8 Tryz.func109 #[.int .i64 a0] ?_; (with_reducible refine (du a0 false _ A3.out).mono ?_); rintro e w' ⟨rfl, ⟨nd, rfl⟩⟩; refine ⟨_, rfl, ?_⟩) | ((with_reducible refine ax (f := 109) rfl ?_); refine zc 10 Tryz.func109 #[.int .i64 a1] ?_; (with_reducible refine (du a1 false _ A4.out).mono ?_); rintro e w' ⟨rfl, ⟨nd, rfl⟩⟩; refine ⟨_, rfl, ?_⟩))
       go_ret
       exact ⟨by first | rfl | (simp; done) | (simp [*]; done), by repeat (first | exact Drawn0.refl _ | apply Drawn0.step)⟩
     · rw [if_neg c8] at H
       have c8b0 : decide (a0 < a1) = false := ao c8
       clear c8
       by_cases c9 : a0 > a1
       · rw [if_pos c9] at H
         have c9b0 : decide (a1 < a0) = true := af c9
         clear c9
         obtain rfl := ap H
         go_enter Tryz.func90, Tryz.ntmps90
         go_wp2_with (first | ((with_reducible refine ax (f := 109) rfl ?_); refine zc 8 Tryz.func109 #[.int .i64 a0] ?_; (with_reducible refine (du a0 false _ A3.out).mono ?_); rintro e w' ⟨rfl, ⟨nd, rfl⟩⟩; refine ⟨_, rfl, ?_⟩) | ((with_reducible refine ax (f := 109) rfl ?_); refine zc 10 Tryz.func109 #[.int .i64 a1] ?_; (with_reducible refine (du a1 false _ A4.out).mono ?_); rintro e w' ⟨rfl, ⟨nd, rfl⟩⟩; refine ⟨_, rfl, ?_⟩))
         go_ret
         exact ⟨by first | rfl | (simp; done) | (simp [*]; done), by repeat (first | exact Drawn0.refl _ | apply Drawn0.step)⟩
       · rw [if_neg c9] at H
         have c9b0 : decide (a1 < a0) = false := ao c9
         clear c9
         obtain rfl := ap H
         go_enter Tryz.func90, Tryz.ntmps90
         go_wp2_with (first | ((with_reducible refine ax (f := 109) rfl ?_); refine zc 8 Tryz.func109 #[.int .i64 a0] ?_; (with_reducible refine (du a0 false _ A3.out).mono ?_); rintro e w' ⟨rfl, ⟨nd, rfl⟩⟩; refine ⟨_, rfl, ?_⟩) | ((with_reducible refine ax (f := 109) rfl ?_); refine zc 10 Tryz.func109 #[.int .i64 a1] ?_; (with_reducible refine (du a1 false _ A4.out).mono ?_); rintro e w' ⟨rfl, ⟨nd, rfl⟩⟩; refine ⟨_, rfl, ?_⟩))
         go_ret
         exact ⟨by first | rfl | (simp; done) | (simp [*]; done), by repeat (first | exact Drawn0.refl _ | apply Drawn0.step)⟩
attribute [local go_sem] bl bh bi bd bj bf bk bg
set_option linter.unusedVariables false
set_option linter.unusedSimpArgs false
def fq : Nat → Int → List Int → Int → Int → Option (Int)
 | 0, _, _, _, _ => none
 | k + 1, x3, x6, x7, x8 => if x8 < x7 then (if 0 ≤ x8 then (if x8 < (x6.length : Int) then (if (rd x6 x8) = x3 then (fq k x3 x6 x7 (wrap64 (x8 + 1))) else (some (rd x6 x8))) else (none)) else (none)) else (some x3)
def iI (k : Nat) (l0 : List Int) : Option (Int) := fq k 0 l0 (l0.length : Int) 0
theorem tO (k : Nat) (A0 : Option Addr) (c0 : Nat) (l0 : List Int) (r : Int) (w : World) (hr0 : Kd.C (Kd.int .i64) w A0 l0.length l0) (hc0 : l0.length ≤ c0) (h : iI k l0 = some r) :
 Calls Tryz.prog 104 #[.slice A0 l0.length c0] w fun e w' => e = .returned (.int .i64 r) ∧ Drawn0 w w' := by
 have HR0 := Aside0.mk hr0
 have HC0 := Aside0.mk hc0
 clear hr0 hc0
 have H := h
 unfold iI at H
 clear h
 have H' := Aside0.mk H
 clear H
 go_enter Tryz.func104, Tryz.ntmps104
 go_wp2
 go_loopg [8] k (fun kq v8 w' => ∃ (x8_1 : Int), v8 = .int .i64 x8_1 ∧ Aside0 (fq kq 0 l0 (l0.length : Int) x8_1 = some r) ∧ Aside0 (kq ≤ k) ∧ Drawn0 w w')
 case atStart => exact ⟨(0), (by first | rfl | (simp; done) | (simp [*]; done)), H', ⟨ar _⟩, by repeat (first | exact Drawn0.refl _ | apply Drawn0.step)⟩
 case round =>
  clear H'
  try clear c1
  obtain ⟨x8_1, rfl, HA, HK1, ⟨m1, rfl⟩⟩ := hrel
  cases gk with
  | zero => exact absurd HA.out (by simp [fq])
  | succ k1 =>
   have H := HA.out
   clear HA
   simp only [fq] at H
   by_cases c2 : x8_1 < (l0.length : Int)
   · rw [if_pos c2] at H
     have c2b0 := af c2
     clear c2
     by_cases c3 : 0 ≤ x8_1
     case neg => rw [if_neg c3] at H; simp at H
     rw [if_pos c3] at H
     have c3b0 := af c3
     clear c3
     by_cases c4 : x8_1 < (l0.length : Int)
     case neg => rw [if_neg c4] at H; simp at H
     rw [if_pos c4] at H
     have c4b0 := af c4
     clear c4
     by_cases c5 : (rd l0 x8_1) = 0
     · rw [if_pos c5] at H
       have c5b0 : ((rd l0 x8_1) == 0) = true := beq_iff_eq.mpr c5
       have c5b1 : ((rd l0 x8_1) != 0) = false := bne_eq_false_iff_eq.mpr c5
       clear c5
       have H' := Aside0.mk H
       clear H
       have p136 : 0 ≤ (x8_1 : Int) := ac zA
       have q136 : x8_1 < (l0.length : Int) := ac zA
       obtain ⟨ad136, e136, hx136_0⟩ := Kd.at_int HR0.out x8_1 p136 q136
       cases e136
       replace p136 := eq_true p136
       replace q136 := eq_true q136
       go_wp2
       go_roundg k1
       case measure => have := HK1.out; omega
       case rel => exact ⟨(wrap64 (x8_1 + 1)), (by first | rfl | (simp; done) | (simp [*]; done)), H', ⟨by have := HK1.out; omega⟩, by repeat (first | exact Drawn0.refl _ | apply Drawn0.step)⟩
     · rw [if_neg c5] at H
       have c5b0 : ((rd l0 x8_1) == 0) = false := beq_eq_false_iff_ne.mpr c5
       have c5b1 : ((rd l0 x8_1) != 0) = true := bne_iff_ne.mpr c5
       obtain rfl := ap H
       have p136 : 0 ≤ (x8_1 : Int) := ac zA
       have q136 : x8_1 < (l0.length : Int) := ac zA
       obtain ⟨ad136, e136, hx136_0⟩ := Kd.at_int HR0.out x8_1 p136 q136
       cases e136
       replace p136 := eq_true p136
       replace q136 := eq_true q136
       go_wp2
       go_ret
       exact ⟨by first | rfl | (simp; done) | (simp [*]; done), by repeat (first | exact Drawn0.refl _ | apply Drawn0.step)⟩
   · rw [if_neg c2] at H
     have c2b0 : decide (x8_1 < (l0.length : Int)) = false := ao c2
     clear c2
     obtain rfl := ap H
     go_wp2
     go_ret
     exact ⟨by first | rfl | (simp; done) | (simp [*]; done), by repeat (first | exact Drawn0.refl _ | apply Drawn0.step)⟩
attribute [local go_sem] bl bh bi bd bj bf bk bg
set_option linter.unusedVariables false
set_option linter.unusedSimpArgs false
def gL (k : Nat) (a0_0 : Int) (a0_1 : Int) (a1_0 : Int) (a1_1 : Int) : Option (Int) := (fU a0_0 a1_0).bind fun t139 => ((fU a0_1 a1_1).bind fun t140 => ((iI k (([t139, t140] : List Int))).bind fun t144 => (some t144)))
def impl_comparePairs.T1 : Bool × List (List Nat × List Nat) := (true, [([], []), ([0], [0]), ([], []), ([2], [2]), ([1, 3], [1, 3]), ([], []), ([5], [5]), ([], []), ([7], [7]), ([6, 8, 4], [6, 8]), ([4, 9], [4, 9]), ([10, 9], [10]), ([11, 11, 0, 1, 2, 3, 4, 5, 6, 7, 8, 9, 10, 11], [11])])
def rM : List Nat := [0, 1, 0, 4, 15, 0, 32, 0, 128, 511, 1023, 2047, 4095]
theorem rK : aQ .any (ct Tryz.f84 1) = impl_comparePairs.T1 := by kernel_rfl
theorem rL : bK impl_comparePairs.T1.2 rM = true := by kernel_rfl
theorem m9 (k : Nat) (a0_0 : Int) (a0_1 : Int) (a1_0 : Int) (a1_1 : Int) (r : Int) (w : World) (h : gL k a0_0 a0_1 a1_0 a1_1 = some r) :
 Calls Tryz.prog 84 #[.agg #[.int .i64 a0_0, .int .i64 a0_1], .agg #[.int .i64 a1_0, .int .i64 a1_1]] w fun e w' => e = .returned (.int .i64 r) ∧ Below w.heap.size w w' := by
 have hu63 := Tryz.underlying63
 have HB := zM (Below.refl w.heap.size w)
 have H := h
 unfold gL at H
 clear h
 replace H := av H
 obtain ⟨t139, A30, H⟩ := H
 have A3 := Aside0.mk A30
 clear A30
 replace H := av H
 obtain ⟨t140, A40, H⟩ := H
 have A4 := Aside0.mk A40
 clear A40
 obtain ⟨y141, hy141⟩ : ∃ y_ : List Int, y_ = (([t139, t140] : List Int)) := ⟨_, rfl⟩
 replace H : ((iI k y141).bind fun t144 => (some t144)) = some r := by first | (rw [hy141]; with_reducible exact H) | (have H2_ := (Option.bind_some _ _).symm.trans H; rw [hy141]; with_reducible exact H2_) | (have H2_ := (Option.bind_some _ _).symm.trans H; with_reducible exact H2_) | with_reducible exact H | (rw [hy141]; exact H) | exact H
 have Ny141 := Aside0.mk hy141
 clear hy141
 replace H := av H
 obtain ⟨t144, A50, H⟩ := H
 have A5 := Aside0.mk A50
 clear A50
 obtain rfl := ap H
 go_enter Tryz.func84, Tryz.ntmps84
 try go_wp2_with (first | ((with_reducible refine au (N := 2) rfl ?_); refine zb (w := w) 2 #[.int .i64 a0_0, .int .i64 a0_1] 63 zB ?_; clear HB; intro gb137 w6 HB BK137 GW137; have GE137 := GW137) | ((with_reducible refine au (N := 3) rfl ?_); refine ze 3 #[.int .i64 a1_0, .int .i64 a1_1] 63 ?_; intro gb138 hg w7 hbox hb; have BK138 := zM (hbox); have GW138 := zM ((by rw [hg]; exact (am zB) : w.heap.size ≤ gb138)); have GE138 := zM ((by rw [hg]; exact (am zB) : w.heap.size ≤ gb138)); replace HB := zM (ag zB hb); have NB137_138 := zM ((by rw [hg]; exact Nat.ne_of_lt (aH (g := gb137) (o := .cells #[.int .i64 a0_0, .int .i64 a0_1] 63 (0, 0)) (zK BK137.out)) : gb137 ≠ gb138)); have NB138_137 := zM ((by rw [hg]; exact Nat.ne_of_gt (aH (g := gb137) (o := .cells #[.int .i64 a0_0, .int .i64 a0_1] 63 (0, 0)) (zK BK137.out)) : gb138 ≠ gb137)); replace BK137 := zJ BK137 hb; clear hb hbox hg))
 replace BK137 := zM (aq BK137.out)
 replace BK138 := zM (aq BK138.out)
 replace HB := zM (aD HB.out)
 refine zs (n := 13) (fun w' => w'.cell? ⟨gb137, 0, none⟩ = some (.int .i64 a0_0) ∧ w'.cell? ⟨gb137, 1, none⟩ = some (.int .i64 a0_1) ∧ w'.cell? ⟨gb138, 0, none⟩ = some (.int .i64 a1_0) ∧ w'.cell? ⟨gb138, 1, none⟩ = some (.int .i64 a1_1)) ⟨(ah BK137.out 0).trans rfl, (ah BK137.out 1).trans rfl, (ah BK138.out 0).trans rfl, (ah BK138.out 1).trans rfl⟩ (fun hHeld => ?_); refine aX rK rL (fun HT_ HW_ => ?_)
 generalize w7.drew = w8 at BK137 BK138 HB hHeld ⊢
 refine zp HT_ 0 5 ?_
 refine zp HT_ 2 7 ?_
 refine zp HT_ 5 10 ?_
 refine zp HT_ 7 12 ?_
 refine zt HT_ HW_ 1 6 hHeld ?_ (hy := by rintro w' ⟨s0, s1, s2, s3⟩; go_simp; with_reducible rfl)
 refine zt HT_ HW_ 3 8 hHeld ?_ (hy := by rintro w' ⟨s0, s1, s2, s3⟩; go_simp; with_reducible rfl)
 refine zt HT_ HW_ 6 11 hHeld ?_ (hy := by rintro w' ⟨s0, s1, s2, s3⟩; go_simp; with_reducible rfl)
 refine zt HT_ HW_ 8 13 hHeld ?_ (hy := by rintro w' ⟨s0, s1, s2, s3⟩; go_simp; with_reducible rfl)
 refine zg HT_ 4 9 Tryz.func90 #[.int .i64 a0_0, .int .i64 a1_0] (fun K hK => ?_)
 with_reducible refine (jB a0_0 a1_0 t139 _ A3.out).mono ?_
 rintro e w' ⟨rfl, ⟨nd, rfl⟩⟩
 refine ⟨_, rfl, ?_⟩
 refine hK.out _ _ ⟨(ah BK137.out 0).trans rfl, (ah BK137.out 1).trans rfl, (ah BK138.out 0).trans rfl, (ah BK138.out 1).trans rfl⟩ (fun hHeld => ?_)
 clear hK K
 refine zn 9 ?_
 refine zg HT_ 9 14 Tryz.func90 #[.int .i64 a0_1, .int .i64 a1_1] (fun K hK => ?_)
 with_reducible refine (jB a0_1 a1_1 t140 _ A4.out).mono ?_
 rintro e w' ⟨rfl, ⟨nd, rfl⟩⟩
 refine ⟨_, rfl, ?_⟩
 refine hK.out _ _ ⟨(ah BK137.out 0).trans rfl, (ah BK137.out 1).trans rfl, (ah BK138.out 0).trans rfl, (ah BK138.out 1).trans rfl⟩ (fun hHeld => ?_)
 clear hK K
 refine zn 14 ?_
 refine bz (i := 10) (N := some 15) #[true, true, true, true, true, true, true, true, true, true, true, false, false] rfl rfl (bu HT_.out (by kernel_rfl)) (by decide) (fun K hK => ?_)
 refine Kd.R_lit_step (Kd.int .i64) _ 3 ?hg (N := 15) ?hd (xs := ([t139, t140] : List Int)) (inner := [.int .i64 t139, .int .i64 t140]) (ok := fun _ => True) (okp := fun _ => True) ?hr ?hp (fun _ hk => hk) trivial (Below.refl _ _) (ar _) (by simp) ?_; (case hd => rfl); (case hg => rfl); (case hr => first | (go_simp; done) | (go_simp; rfl)); (case hp => exact (Reps.one (show Kd.M (Kd.int .i64) _ _ _ t139 [.int .i64 t139] from rfl) (Reps.one (show Kd.M (Kd.int .i64) _ _ _ t140 [.int .i64 t140] from rfl) (Reps.none _ _))))
 intro v142 w9 ho10 hb hg_ hnew_
 clear hg_ hnew_
 (first | rw [← Ny141.out] at ho10 | (simp only [Int.reduceToNat] at ho10; rw [← Ny141.out] at ho10))
 have HO143 := zM (Kd.R_lower ho10 (am zB))
 replace BK137 := zJ BK137 hb
 replace BK138 := zJ BK138 hb
 replace HB := zM (ag zB hb)
 clear hb ho10
 obtain ⟨Ao11, co11, eo11⟩ := Kd.R_slice HO143.out
 (first | subst eo11 | (injection eo11 with f1_ f2_ f3_; have f4_ := f1_.symm; have f5_ := f3_.symm; clear f1_ f2_ f3_; subst f4_; subst f5_))
 refine hK.out _ _ ⟨(ah BK137.out 0).trans rfl, (ah BK137.out 1).trans rfl, (ah BK138.out 0).trans rfl, (ah BK138.out 1).trans rfl⟩ (fun hHeld => ?_)
 clear hK K
 refine zn 15 ?_
 refine zg HT_ 11 16 Tryz.func104 #[.slice Ao11 y141.length co11] (fun K hK => ?_)
 with_reducible refine (tO k _ _ y141 t144 _ ?side1 ?side2 A5.out).mono ?_
 (case side1 => exact zC (Kd.R_reads' HO143.out).2.2)
 (case side2 => exact (Kd.R_reads' HO143.out).2.1)
 rintro e w' ⟨rfl, ⟨nd, rfl⟩⟩
 refine ⟨_, rfl, ?_⟩
 refine hK.out _ _ ⟨(ah BK137.out 0).trans rfl, (ah BK137.out 1).trans rfl, (ah BK138.out 0).trans rfl, (ah BK138.out 1).trans rfl⟩ (fun hHeld => ?_)
 clear hK K
 refine zn 16 ?_
 refine zp HT_ 12 4 ?_
 refine zo HT_ ?_
 try go_wp2
 go_ret
 exact ⟨by first | rfl | (simp [al, ak] <;> rfl) | (simp [*, al, ak] <;> rfl), zB⟩
attribute [local go_sem] bl bh bi bd bj bf bk bg
set_option linter.unusedVariables false
set_option linter.unusedSimpArgs false
def dZ : Nat → List (S63) → Int → List (S63) → Int → Int → Option (Bool)
 | 0, _, _, _, _, _ => none
 | k + 1, x0, x1, x7, x8, x9 => if x9 < x8 then (if 0 ≤ x9 then (if x9 < (x7.length : Int) then (if ((aa x7 x9).f0) < 0 then (some false) else (if ((aa x7 x9).f0) ≥ ((aa x7 x9).f1) then (some false) else (if ((aa x7 x9).f1) ≥ x1 then (some false) else (if x9 > 0 then (if 0 ≤ (wrap64 (x9 - 1)) then (if (wrap64 (x9 - 1)) < (x0.length : Int) then ((gL k ((aa x0 (wrap64 (x9 - 1))).f0) ((aa x0 (wrap64 (x9 - 1))).f1) ((aa x7 x9).f0) ((aa x7 x9).f1)).bind fun t148 => (if t148 ≥ 0 then (some false) else (dZ k x0 x1 x7 x8 (wrap64 (x9 + 1))))) else (none)) else (none)) else (dZ k x0 x1 x7 x8 (wrap64 (x9 + 1))))))) else (none)) else (none)) else (some true)
def jq (k : Nat) (l0 : List (S63)) (a1 : Int) : Option (Bool) := dZ k l0 a1 l0 (l0.length : Int) 0
def impl_isPairs.T4 : Bool × List (List Nat × List Nat) := (true, [([], []), ([0], [0]), ([1], [1]), ([2], [2]), ([3], [3]), ([4, 3], [3, 4]), ([3], [3]), ([6, 3], [3, 6]), ([5, 7, 3], [3, 5, 7]), ([3, 8], [3, 8]), ([9, 3], [9]), ([10], [10]), ([11, 10], [10, 11]), ([10], [10]), ([12, 13, 10], [10, 12, 13]), ([10, 14], [10, 14]), ([15, 10], [15]), ([16], [16]), ([17, 16], [16, 17]), ([18, 16, 16], [16, 18]), ([19], [19]), ([19], [19]), ([21, 19], [19, 21]), ([20, 22, 19], [19, 20, 22]), ([23, 19], [19, 23]), ([19], [19]), ([24, 25, 19, 19], [19, 24, 25]), ([26, 19], [19, 26]), ([19, 27, 16], [16, 19, 27]), ([16, 28], [16, 28])])
def rH : List Nat := [0, 1, 3, 7, 15, 31, 15, 79, 255, 511, 1023, 2047, 4095, 2047, 16383, 32767, 65535, 131071, 262143, 524287, 1048575, 1048575, 3145727, 8388607, 16777215, 1048575, 67108863, 134217727, 268435455, 536870911]
theorem gJ : aQ .any (ct Tryz.f67 4) = impl_isPairs.T4 := by kernel_rfl
theorem gK : bK impl_isPairs.T4.2 rH = true := by kernel_rfl
theorem rG (k : Nat) (A0 : Option Addr) (c0 : Nat) (l0 : List (S63)) (a1 : Int) (r : Bool) (w : World) (hr0 : Kd.C k63 w A0 l0.length l0) (hc0 : l0.length ≤ c0) (h : jq k l0 a1 = some r) :
 Calls Tryz.prog 67 #[.slice A0 l0.length c0, .int .i64 a1] w fun e w' => e = .returned (.bool r) ∧ Below w.heap.size w w' := by
 have hu63 := Tryz.underlying63
 have HR0 := Aside0.mk hr0
 have HC0 := Aside0.mk hc0
 clear hr0 hc0
 have HB := zM (Below.refl w.heap.size w)
 have H := h
 unfold jq at H
 clear h
 have H' := Aside0.mk H
 clear H
 go_enter Tryz.func67, Tryz.ntmps67
 go_wp2
 go_loopg [9] k (fun kq v9 w' => ∃ (x9_1 : Int), v9 = .int .i64 x9_1 ∧ Aside0 (dZ kq l0 a1 l0 (l0.length : Int) x9_1 = some r) ∧ Aside0 (kq ≤ k) ∧ Aside0 (Below w.heap.size w w'))
 case atStart => exact ⟨(0), (by first | rfl | (simp; done) | (simp [*]; done)), H', ⟨ar _⟩, ⟨zB⟩⟩
 case round =>
  clear H'
  try clear p2
  obtain ⟨x9_1, rfl, HA, HK1, HB⟩ := hrel
  cases gk with
  | zero => exact absurd HA.out (by simp [dZ])
  | succ k1 =>
   have H := HA.out
   clear HA
   simp only [dZ] at H
   by_cases c3 : x9_1 < (l0.length : Int)
   · rw [if_pos c3] at H
     have c3b0 := af c3
     clear c3
     by_cases c4 : 0 ≤ x9_1
     case neg => rw [if_neg c4] at H; simp at H
     rw [if_pos c4] at H
     have c4b0 := af c4
     clear c4
     by_cases c5 : x9_1 < (l0.length : Int)
     case neg => rw [if_neg c5] at H; simp at H
     rw [if_pos c5] at H
     have c5b0 := af c5
     clear c5
     by_cases c6 : ((aa l0 x9_1).f0) < 0
     · rw [if_pos c6] at H
       have c6b0 := af c6
       clear c6
       obtain rfl := ap H
       have p145 : 0 ≤ (x9_1 : Int) := ac zA
       have q145 : x9_1 < (l0.length : Int) := ac zA
       obtain ⟨ad145, e145, hx145_0, hx145_1⟩ := bp HR0.out x9_1 p145 q145
       cases e145
       (try replace hx145_0 := (HB.out.cell (aj w _ hx145_0)).trans hx145_0)
       (try replace hx145_1 := (HB.out.cell (aj w _ hx145_1)).trans hx145_1)
       replace p145 := eq_true p145
       replace q145 := eq_true q145
       try go_wp2_with (first | ((with_reducible refine au (N := 6) rfl ?_); refine zb (w := w) 6 #[.int .i64 0, .int .i64 0] 63 zB ?_; clear HB; intro gb146 w7 HB BK146 GW146; have GE146 := GW146; have hcz8_0 := zy BK146 0; have hcz8_1 := zy BK146 1; have hfz8_0 := ae BK146.out 0; have hfz8_1 := ae BK146.out 1))
       have n0_ : Aside0 (((w7.setCell ⟨gb146, 0, none⟩ (.int .i64 ((aa l0 x9_1).f0))).setCell ⟨gb146, 1, none⟩ (.int .i64 ((aa l0 x9_1).f1))).heap[gb146]? = some (.cells #[.int .i64 ((aa l0 x9_1).f0), .int .i64 ((aa l0 x9_1).f1)] 63 (0, 0))) := ⟨by (with_reducible repeat (first | refine ay ?_ _ | refine aq ?_ | refine aw ?_ _)); refine aK (cs := #[.int .i64 ((aa l0 x9_1).f0), .int .i64 0]) ?_ 1 _ rfl; (with_reducible repeat (first | refine ay ?_ _ | refine aq ?_ | refine aw ?_ _)); refine aK (cs := #[.int .i64 0, .int .i64 0]) ?_ 0 _ rfl; (with_reducible repeat (first | refine ay ?_ _ | refine aq ?_ | refine aw ?_ _)); exact BK146.out⟩
       have n1_ : Aside0 (Below w.heap.size w ((w7.setCell ⟨gb146, 0, none⟩ (.int .i64 ((aa l0 x9_1).f0))).setCell ⟨gb146, 1, none⟩ (.int .i64 ((aa l0 x9_1).f1)))) := ⟨zB⟩
       (try clear BK146)
       (try clear HB)
       generalize ((w7.setCell ⟨gb146, 0, none⟩ (.int .i64 ((aa l0 x9_1).f0))).setCell ⟨gb146, 1, none⟩ (.int .i64 ((aa l0 x9_1).f1))) = w9 at n0_ n1_ ⊢
       have BK146 := n0_
       have HB := n1_
       clear n0_ n1_
       replace BK146 := zM (aq BK146.out)
       replace HB := zM (aD HB.out)
       refine zs (n := 30) (fun w' => w'.cell? ⟨gb146, 0, none⟩ = some (.int .i64 ((aa l0 x9_1).f0)) ∧ w'.cell? ⟨gb146, 1, none⟩ = some (.int .i64 ((aa l0 x9_1).f1))) ⟨(ah BK146.out 0).trans rfl, (ah BK146.out 1).trans rfl⟩ (fun hHeld => ?_); refine aX gJ gK (fun HT_ HW_ => ?_)
       generalize w9.drew = w10 at BK146 HB hHeld ⊢
       refine zp HT_ 0 14 ?_
       refine zt HT_ HW_ 1 15 hHeld ?_ (hy := by rintro w' ⟨s0, s1⟩; go_simp; with_reducible rfl)
       refine zp HT_ 2 16 ?_
       refine zp HT_ 3 17 ?_
       refine zu HT_ 4 18 ?_
       refine zu HT_ 5 19 ?_
       refine zu HT_ 6 20 ?_
       refine zu HT_ 7 21 ?_
       refine zu HT_ 8 22 ?_
       refine zp HT_ 9 23 ?_
       refine zp HT_ 10 24 ?_
       refine zu HT_ 11 25 ?_
       refine zu HT_ 12 26 ?_
       refine zu HT_ 13 27 ?_
       refine zu HT_ 14 28 ?_
       refine zp HT_ 15 29 ?_
       refine zp HT_ 16 30 ?_
       refine zu HT_ 17 31 ?_
       refine zu HT_ 18 32 ?_
       refine zu HT_ 19 33 ?_
       refine zu HT_ 20 34 ?_
       refine zu HT_ 21 35 ?_
       refine zu HT_ 22 36 ?_
       refine zu HT_ 23 37 ?_
       refine zu HT_ 24 38 ?_
       refine zu HT_ 25 39 ?_
       refine zu HT_ 26 40 ?_
       refine zu HT_ 27 41 ?_
       refine zu HT_ 28 42 ?_
       refine zp HT_ 29 43 ?_
       refine zo HT_ ?_
       try go_wp2
       go_ret
       exact ⟨by first | rfl | (simp [al, ak] <;> rfl) | (simp [*, al, ak] <;> rfl), zB⟩
     · rw [if_neg c6] at H
       have c6b0 : decide (((aa l0 x9_1).f0) < 0) = false := ao c6
       clear c6
       by_cases c11 : ((aa l0 x9_1).f0) ≥ ((aa l0 x9_1).f1)
       · rw [if_pos c11] at H
         have c11b0 : decide (((aa l0 x9_1).f1) ≤ ((aa l0 x9_1).f0)) = true := af c11
         clear c11
         obtain rfl := ap H
         have p145 : 0 ≤ (x9_1 : Int) := ac zA
         have q145 : x9_1 < (l0.length : Int) := ac zA
         obtain ⟨ad145, e145, hx145_0, hx145_1⟩ := bp HR0.out x9_1 p145 q145
         cases e145
         (try replace hx145_0 := (HB.out.cell (aj w _ hx145_0)).trans hx145_0)
         (try replace hx145_1 := (HB.out.cell (aj w _ hx145_1)).trans hx145_1)
         replace p145 := eq_true p145
         replace q145 := eq_true q145
         try go_wp2_with (first | ((with_reducible refine au (N := 6) rfl ?_); refine zb (w := w) 6 #[.int .i64 0, .int .i64 0] 63 zB ?_; clear HB; intro gb146 w12 HB BK146 GW146; have GE146 := GW146; have hcz13_0 := zy BK146 0; have hcz13_1 := zy BK146 1; have hfz13_0 := ae BK146.out 0; have hfz13_1 := ae BK146.out 1))
         have n0_ : Aside0 (((w12.setCell ⟨gb146, 0, none⟩ (.int .i64 ((aa l0 x9_1).f0))).setCell ⟨gb146, 1, none⟩ (.int .i64 ((aa l0 x9_1).f1))).heap[gb146]? = some (.cells #[.int .i64 ((aa l0 x9_1).f0), .int .i64 ((aa l0 x9_1).f1)] 63 (0, 0))) := ⟨by (with_reducible repeat (first | refine ay ?_ _ | refine aq ?_ | refine aw ?_ _)); refine aK (cs := #[.int .i64 ((aa l0 x9_1).f0), .int .i64 0]) ?_ 1 _ rfl; (with_reducible repeat (first | refine ay ?_ _ | refine aq ?_ | refine aw ?_ _)); refine aK (cs := #[.int .i64 0, .int .i64 0]) ?_ 0 _ rfl; (with_reducible repeat (first | refine ay ?_ _ | refine aq ?_ | refine aw ?_ _)); exact BK146.out⟩
         have n1_ : Aside0 (Below w.heap.size w ((w12.setCell ⟨gb146, 0, none⟩ (.int .i64 ((aa l0 x9_1).f0))).setCell ⟨gb146, 1, none⟩ (.int .i64 ((aa l0 x9_1).f1)))) := ⟨zB⟩
         (try clear BK146)
         (try clear HB)
         generalize ((w12.setCell ⟨gb146, 0, none⟩ (.int .i64 ((aa l0 x9_1).f0))).setCell ⟨gb146, 1, none⟩ (.int .i64 ((aa l0 x9_1).f1))) = w14 at n0_ n1_ ⊢
         have BK146 := n0_
         have HB := n1_
         clear n0_ n1_
         replace BK146 := zM (aq BK146.out)
         replace HB := zM (aD HB.out)
         refine zs (n := 30) (fun w' => w'.cell? ⟨gb146, 0, none⟩ = some (.int .i64 ((aa l0 x9_1).f0)) ∧ w'.cell? ⟨gb146, 1, none⟩ = some (.int .i64 ((aa l0 x9_1).f1))) ⟨(ah BK146.out 0).trans rfl, (ah BK146.out 1).trans rfl⟩ (fun hHeld => ?_); refine aX gJ gK (fun HT_ HW_ => ?_)
         generalize w14.drew = w15 at BK146 HB hHeld ⊢
         refine zp HT_ 0 14 ?_
         refine zt HT_ HW_ 1 15 hHeld ?_ (hy := by rintro w' ⟨s0, s1⟩; go_simp; with_reducible rfl)
         refine zp HT_ 2 16 ?_
         refine zp HT_ 3 17 ?_
         refine zp HT_ 4 18 ?_
         refine zp HT_ 6 20 ?_
         refine zt HT_ HW_ 5 19 hHeld ?_ (hy := by rintro w' ⟨s0, s1⟩; go_simp; with_reducible rfl)
         refine zt HT_ HW_ 7 21 hHeld ?_ (hy := by rintro w' ⟨s0, s1⟩; go_simp; with_reducible rfl)
         refine zp HT_ 8 22 ?_
         refine zp HT_ 9 23 ?_
         refine zp HT_ 10 24 ?_
         refine zu HT_ 11 25 ?_
         refine zu HT_ 12 26 ?_
         refine zu HT_ 13 27 ?_
         refine zu HT_ 14 28 ?_
         refine zp HT_ 15 29 ?_
         refine zp HT_ 16 30 ?_
         refine zu HT_ 17 31 ?_
         refine zu HT_ 18 32 ?_
         refine zu HT_ 19 33 ?_
         refine zu HT_ 20 34 ?_
         refine zu HT_ 21 35 ?_
         refine zu HT_ 22 36 ?_
         refine zu HT_ 23 37 ?_
         refine zu HT_ 24 38 ?_
         refine zu HT_ 25 39 ?_
         refine zu HT_ 26 40 ?_
         refine zu HT_ 27 41 ?_
         refine zu HT_ 28 42 ?_
         refine zp HT_ 29 43 ?_
         refine zo HT_ ?_
         try go_wp2
         go_ret
         exact ⟨by first | rfl | (simp [al, ak] <;> rfl) | (simp [*, al, ak] <;> rfl), zB⟩
       · rw [if_neg c11] at H
         have c11b0 : decide (((aa l0 x9_1).f1) ≤ ((aa l0 x9_1).f0)) = false := ao c11
         clear c11
         by_cases c16 : ((aa l0 x9_1).f1) ≥ a1
         · rw [if_pos c16] at H
           have c16b0 : decide (a1 ≤ ((aa l0 x9_1).f1)) = true := af c16
           clear c16
           obtain rfl := ap H
           have p145 : 0 ≤ (x9_1 : Int) := ac zA
           have q145 : x9_1 < (l0.length : Int) := ac zA
           obtain ⟨ad145, e145, hx145_0, hx145_1⟩ := bp HR0.out x9_1 p145 q145
           cases e145
           (try replace hx145_0 := (HB.out.cell (aj w _ hx145_0)).trans hx145_0)
           (try replace hx145_1 := (HB.out.cell (aj w _ hx145_1)).trans hx145_1)
           replace p145 := eq_true p145
           replace q145 := eq_true q145
           try go_wp2_with (first | ((with_reducible refine au (N := 6) rfl ?_); refine zb (w := w) 6 #[.int .i64 0, .int .i64 0] 63 zB ?_; clear HB; intro gb146 w17 HB BK146 GW146; have GE146 := GW146; have hcz18_0 := zy BK146 0; have hcz18_1 := zy BK146 1; have hfz18_0 := ae BK146.out 0; have hfz18_1 := ae BK146.out 1))
           have n0_ : Aside0 (((w17.setCell ⟨gb146, 0, none⟩ (.int .i64 ((aa l0 x9_1).f0))).setCell ⟨gb146, 1, none⟩ (.int .i64 ((aa l0 x9_1).f1))).heap[gb146]? = some (.cells #[.int .i64 ((aa l0 x9_1).f0), .int .i64 ((aa l0 x9_1).f1)] 63 (0, 0))) := ⟨by (with_reducible repeat (first | refine ay ?_ _ | refine aq ?_ | refine aw ?_ _)); refine aK (cs := #[.int .i64 ((aa l0 x9_1).f0), .int .i64 0]) ?_ 1 _ rfl; (with_reducible repeat (first | refine ay ?_ _ | refine aq ?_ | refine aw ?_ _)); refine aK (cs := #[.int .i64 0, .int .i64 0]) ?_ 0 _ rfl; (with_reducible repeat (first | refine ay ?_ _ | refine aq ?_ | refine aw ?_ _)); exact BK146.out⟩
           have n1_ : Aside0 (Below w.heap.size w ((w17.setCell ⟨gb146, 0, none⟩ (.int .i64 ((aa l0 x9_1).f0))).setCell ⟨gb146, 1, none⟩ (.int .i64 ((aa l0 x9_1).f1)))) := ⟨zB⟩
           (try clear BK146)
           (try clear HB)
           generalize ((w17.setCell ⟨gb146, 0, none⟩ (.int .i64 ((aa l0 x9_1).f0))).setCell ⟨gb146, 1, none⟩ (.int .i64 ((aa l0 x9_1).f1))) = w19 at n0_ n1_ ⊢
           have BK146 := n0_
           have HB := n1_
           clear n0_ n1_
           replace BK146 := zM (aq BK146.out)
           replace HB := zM (aD HB.out)
           refine zs (n := 30) (fun w' => w'.cell? ⟨gb146, 0, none⟩ = some (.int .i64 ((aa l0 x9_1).f0)) ∧ w'.cell? ⟨gb146, 1, none⟩ = some (.int .i64 ((aa l0 x9_1).f1))) ⟨(ah BK146.out 0).trans rfl, (ah BK146.out 1).trans rfl⟩ (fun hHeld => ?_); refine aX gJ gK (fun HT_ HW_ => ?_)
           generalize w19.drew = w20 at BK146 HB hHeld ⊢
           refine zp HT_ 0 14 ?_
           refine zt HT_ HW_ 1 15 hHeld ?_ (hy := by rintro w' ⟨s0, s1⟩; go_simp; with_reducible rfl)
           refine zp HT_ 2 16 ?_
           refine zp HT_ 3 17 ?_
           refine zp HT_ 4 18 ?_
           refine zp HT_ 6 20 ?_
           refine zt HT_ HW_ 5 19 hHeld ?_ (hy := by rintro w' ⟨s0, s1⟩; go_simp; with_reducible rfl)
           refine zt HT_ HW_ 7 21 hHeld ?_ (hy := by rintro w' ⟨s0, s1⟩; go_simp; with_reducible rfl)
           refine zp HT_ 8 22 ?_
           refine zp HT_ 9 23 ?_
           refine zp HT_ 10 24 ?_
           refine zp HT_ 11 25 ?_
           refine zp HT_ 13 27 ?_
           refine zt HT_ HW_ 12 26 hHeld ?_ (hy := by rintro w' ⟨s0, s1⟩; go_simp; with_reducible rfl)
           refine zp HT_ 14 28 ?_
           refine zp HT_ 15 29 ?_
           refine zp HT_ 16 30 ?_
           refine zu HT_ 17 31 ?_
           refine zu HT_ 18 32 ?_
           refine zu HT_ 19 33 ?_
           refine zu HT_ 20 34 ?_
           refine zu HT_ 21 35 ?_
           refine zu HT_ 22 36 ?_
           refine zu HT_ 23 37 ?_
           refine zu HT_ 24 38 ?_
           refine zu HT_ 25 39 ?_
           refine zu HT_ 26 40 ?_
           refine zu HT_ 27 41 ?_
           refine zu HT_ 28 42 ?_
           refine zp HT_ 29 43 ?_
           refine zo HT_ ?_
           try go_wp2
           go_ret
           exact ⟨by first | rfl | (simp [al, ak] <;> rfl) | (simp [*, al, ak] <;> rfl), zB⟩
         · rw [if_neg c16] at H
           have c16b0 : decide (a1 ≤ ((aa l0 x9_1).f1)) = false := ao c16
           clear c16
           by_cases c21 : x9_1 > 0
           · rw [if_pos c21] at H
             have c21b0 : decide (0 < x9_1) = true := af c21
             clear c21
             obtain ⟨ji22, hji22⟩ : ∃ j_ : Int, (wrap64 (x9_1 - 1)) = j_ := ⟨_, rfl⟩
             replace H : (if 0 ≤ (ji22) then (if (ji22) < (l0.length : Int) then ((gL k1 ((aa l0 (ji22)).f0) ((aa l0 (ji22)).f1) ((aa l0 x9_1).f0) ((aa l0 x9_1).f1)).bind fun t148 => (if t148 ≥ 0 then (some false) else (dZ k1 l0 a1 l0 (l0.length : Int) (wrap64 (x9_1 + 1))))) else (none)) else (none)) = some r := by first | (rw [hji22] at H; exact H) | (simp only [hji22] at H ⊢; exact H)
             have hji22w : (IntKind.i64.wrap (x9_1 - 1)) = ji22 := (bW _).trans hji22
             by_cases c23 : 0 ≤ (ji22)
             case neg => rw [if_neg c23] at H; simp at H
             rw [if_pos c23] at H
             have c23b0 := af c23
             clear c23
             by_cases c24 : (ji22) < (l0.length : Int)
             case neg => rw [if_neg c24] at H; simp at H
             rw [if_pos c24] at H
             have c24b0 := af c24
             clear c24
             replace H := av H
             obtain ⟨t148, A250, H⟩ := H
             have A25 := Aside0.mk A250
             clear A250
             by_cases c26 : t148 ≥ 0
             · rw [if_pos c26] at H
               have c26b0 : decide (0 ≤ t148) = true := af c26
               clear c26
               obtain rfl := ap H
               have p145 : 0 ≤ (x9_1 : Int) := ac zA
               have q145 : x9_1 < (l0.length : Int) := ac zA
               obtain ⟨ad145, e145, hx145_0, hx145_1⟩ := bp HR0.out x9_1 p145 q145
               cases e145
               (try replace hx145_0 := (HB.out.cell (aj w _ hx145_0)).trans hx145_0)
               (try replace hx145_1 := (HB.out.cell (aj w _ hx145_1)).trans hx145_1)
               replace p145 := eq_true p145
               replace q145 := eq_true q145
               try go_wp2_with (first | ((with_reducible refine au (N := 6) rfl ?_); refine zb (w := w) 6 #[.int .i64 0, .int .i64 0] 63 zB ?_; clear HB; intro gb146 w27 HB BK146 GW146; have GE146 := GW146; have hcz28_0 := zy BK146 0; have hcz28_1 := zy BK146 1; have hfz28_0 := ae BK146.out 0; have hfz28_1 := ae BK146.out 1))
               have n0_ : Aside0 (((w27.setCell ⟨gb146, 0, none⟩ (.int .i64 ((aa l0 x9_1).f0))).setCell ⟨gb146, 1, none⟩ (.int .i64 ((aa l0 x9_1).f1))).heap[gb146]? = some (.cells #[.int .i64 ((aa l0 x9_1).f0), .int .i64 ((aa l0 x9_1).f1)] 63 (0, 0))) := ⟨by (with_reducible repeat (first | refine ay ?_ _ | refine aq ?_ | refine aw ?_ _)); refine aK (cs := #[.int .i64 ((aa l0 x9_1).f0), .int .i64 0]) ?_ 1 _ rfl; (with_reducible repeat (first | refine ay ?_ _ | refine aq ?_ | refine aw ?_ _)); refine aK (cs := #[.int .i64 0, .int .i64 0]) ?_ 0 _ rfl; (with_reducible repeat (first | refine ay ?_ _ | refine aq ?_ | refine aw ?_ _)); exact BK146.out⟩
               have n1_ : Aside0 (Below w.heap.size w ((w27.setCell ⟨gb146, 0, none⟩ (.int .i64 ((aa l0 x9_1).f0))).setCell ⟨gb146, 1, none⟩ (.int .i64 ((aa l0 x9_1).f1)))) := ⟨zB⟩
               (try clear BK146)
               (try clear HB)
               generalize ((w27.setCell ⟨gb146, 0, none⟩ (.int .i64 ((aa l0 x9_1).f0))).setCell ⟨gb146, 1, none⟩ (.int .i64 ((aa l0 x9_1).f1))) = w29 at n0_ n1_ ⊢
               have BK146 := n0_
               have HB := n1_
               clear n0_ n1_
               replace BK146 := zM (aq BK146.out)
               replace HB := zM (aD HB.out)
               have p147 : 0 ≤ ((ji22) : Int) := ac zA
               have q147 : (ji22) < (l0.length : Int) := ac zA
               obtain ⟨ad147, e147, hx147_0, hx147_1⟩ := bp HR0.out (ji22) p147 q147
               have hw147_1 := hx147_1
               have hw147_0 := hx147_0
               obtain rfl : ad145 = ad147 := (by injection e147)
               (try replace hx147_0 := (HB.out.cell (aj w _ hx147_0)).trans hx147_0)
               (try replace hx147_1 := (HB.out.cell (aj w _ hx147_1)).trans hx147_1)
               replace p147 := eq_true p147
               replace q147 := eq_true q147
               refine zs (n := 30) (fun w' => w'.cell? ⟨gb146, 0, none⟩ = some (.int .i64 ((aa l0 x9_1).f0)) ∧ w'.cell? ⟨gb146, 1, none⟩ = some (.int .i64 ((aa l0 x9_1).f1)) ∧ w'.cell? (ad145.add (((ji22)).toNat * 2)) = some (.int .i64 ((aa l0 (ji22)).f0)) ∧ w'.cell? ⟨(ad145.add (((ji22)).toNat * 2)).block, (ad145.add (((ji22)).toNat * 2)).off + 1, none⟩ = some (.int .i64 ((aa l0 (ji22)).f1))) ⟨(ah BK146.out 0).trans rfl, (ah BK146.out 1).trans rfl, ((HB.out.cell (aj w _ hw147_0)).trans hw147_0), ((HB.out.cell (aj w _ hw147_1)).trans hw147_1)⟩ (fun hHeld => ?_); refine aX gJ gK (fun HT_ HW_ => ?_)
               generalize w29.drew = w30 at BK146 HB hx147_0 hx147_1 hHeld ⊢
               refine zp HT_ 0 14 ?_
               refine zt HT_ HW_ 1 15 hHeld ?_ (hy := by rintro w' ⟨s0, s1, s2, s3⟩; go_simp; with_reducible rfl)
               refine zp HT_ 2 16 ?_
               refine zp HT_ 3 17 ?_
               refine zp HT_ 4 18 ?_
               refine zp HT_ 6 20 ?_
               refine zt HT_ HW_ 5 19 hHeld ?_ (hy := by rintro w' ⟨s0, s1, s2, s3⟩; go_simp; with_reducible rfl)
               refine zt HT_ HW_ 7 21 hHeld ?_ (hy := by rintro w' ⟨s0, s1, s2, s3⟩; go_simp; with_reducible rfl)
               refine zp HT_ 8 22 ?_
               refine zp HT_ 9 23 ?_
               refine zp HT_ 10 24 ?_
               refine zp HT_ 11 25 ?_
               refine zp HT_ 13 27 ?_
               refine zt HT_ HW_ 12 26 hHeld ?_ (hy := by rintro w' ⟨s0, s1, s2, s3⟩; go_simp; with_reducible rfl)
               refine zp HT_ 14 28 ?_
               refine zp HT_ 15 29 ?_
               refine zp HT_ 16 30 ?_
               refine zp HT_ 17 31 ?_
               refine zp HT_ 18 32 ?_
               refine zp HT_ 19 33 ?_
               refine zp HT_ 20 34 ?_
               refine zp HT_ 21 35 ?_
               refine zp HT_ 22 36 ?_
               refine zp HT_ 23 37 ?_
               refine zt HT_ HW_ 24 38 hHeld ?_ (hy := by rintro w' ⟨s0, s1, s2, s3⟩; go_simp; with_reducible rfl)
               refine zt HT_ HW_ 25 39 hHeld ?_ (hy := by rintro w' ⟨s0, s1, s2, s3⟩; go_simp; with_reducible rfl)
               refine bz (i := 26) (N := some 40) #[true, true, true, true, true, true, true, true, true, true, true, true, true, true, true, true, true, true, true, true, true, true, true, true, true, true, true, false, false, false] rfl rfl (bu HT_.out (by kernel_rfl)) (by decide) (fun K hK => ?_)
               refine fQ Tryz.func84 (by kernel_rfl) rfl #[.agg #[.int .i64 ((aa l0 (ji22)).f0), .int .i64 ((aa l0 (ji22)).f1)], .agg #[.int .i64 ((aa l0 x9_1).f0), .int .i64 ((aa l0 x9_1).f1)]] (by rfl) rfl rfl (by (try simp only [List.map_toArray, List.map_cons, List.map_nil]); first | done | (simp only [hji22]; rfl) | rfl | (simp only [List.length_drop, List.length_take]; rfl)) ?_
               with_reducible refine (m9 k1 ((aa l0 (ji22)).f0) ((aa l0 (ji22)).f1) ((aa l0 x9_1).f0) ((aa l0 x9_1).f1) t148 _ A25.out).mono ?_
               rintro e w31 ⟨rfl, hb⟩
               refine ⟨_, rfl, ?_⟩
               replace BK146 := zJ BK146 hb
               replace HB := zM (ag zB hb)
               (try clear hb)
               refine hK.out _ _ ⟨(ah BK146.out 0).trans rfl, (ah BK146.out 1).trans rfl, ((HB.out.cell (aj w _ hw147_0)).trans hw147_0), ((HB.out.cell (aj w _ hw147_1)).trans hw147_1)⟩ (fun hHeld => ?_)
               clear hK K
               refine zn 40 ?_
               refine zp HT_ 27 41 ?_
               refine zp HT_ 28 42 ?_
               refine zp HT_ 29 43 ?_
               refine zo HT_ ?_
               try go_wp2
               go_ret
               exact ⟨by first | rfl | (simp [al, ak] <;> rfl) | (simp only [← hji22]; first | rfl | (simp [al, ak] <;> rfl)) | (simp [*, al, ak] <;> rfl), zB⟩
             · rw [if_neg c26] at H
               have c26b0 : decide (0 ≤ t148) = false := ao c26
               clear c26
               have H' := Aside0.mk H
               clear H
               have p145 : 0 ≤ (x9_1 : Int) := ac zA
               have q145 : x9_1 < (l0.length : Int) := ac zA
               obtain ⟨ad145, e145, hx145_0, hx145_1⟩ := bp HR0.out x9_1 p145 q145
               cases e145
               (try replace hx145_0 := (HB.out.cell (aj w _ hx145_0)).trans hx145_0)
               (try replace hx145_1 := (HB.out.cell (aj w _ hx145_1)).trans hx145_1)
               replace p145 := eq_true p145
               replace q145 := eq_true q145
               try go_wp2_with (first | ((with_reducible refine au (N := 6) rfl ?_); refine zb (w := w) 6 #[.int .i64 0, .int .i64 0] 63 zB ?_; clear HB; intro gb146 w32 HB BK146 GW146; have GE146 := GW146; have hcz33_0 := zy BK146 0; have hcz33_1 := zy BK146 1; have hfz33_0 := ae BK146.out 0; have hfz33_1 := ae BK146.out 1))
               have n0_ : Aside0 (((w32.setCell ⟨gb146, 0, none⟩ (.int .i64 ((aa l0 x9_1).f0))).setCell ⟨gb146, 1, none⟩ (.int .i64 ((aa l0 x9_1).f1))).heap[gb146]? = some (.cells #[.int .i64 ((aa l0 x9_1).f0), .int .i64 ((aa l0 x9_1).f1)] 63 (0, 0))) := ⟨by (with_reducible repeat (first | refine ay ?_ _ | refine aq ?_ | refine aw ?_ _)); refine aK (cs := #[.int .i64 ((aa l0 x9_1).f0), .int .i64 0]) ?_ 1 _ rfl; (with_reducible repeat (first | refine ay ?_ _ | refine aq ?_ | refine aw ?_ _)); refine aK (cs := #[.int .i64 0, .int .i64 0]) ?_ 0 _ rfl; (with_reducible repeat (first | refine ay ?_ _ | refine aq ?_ | refine aw ?_ _)); exact BK146.out⟩
               have n1_ : Aside0 (Below w.heap.size w ((w32.setCell ⟨gb146, 0, none⟩ (.int .i64 ((aa l0 x9_1).f0))).setCell ⟨gb146, 1, none⟩ (.int .i64 ((aa l0 x9_1).f1)))) := ⟨zB⟩
               (try clear BK146)
               (try clear HB)
               generalize ((w32.setCell ⟨gb146, 0, none⟩ (.int .i64 ((aa l0 x9_1).f0))).setCell ⟨gb146, 1, none⟩ (.int .i64 ((aa l0 x9_1).f1))) = w34 at n0_ n1_ ⊢
               have BK146 := n0_
               have HB := n1_
               clear n0_ n1_
               replace BK146 := zM (aq BK146.out)
               replace HB := zM (aD HB.out)
               have p147 : 0 ≤ ((ji22) : Int) := ac zA
               have q147 : (ji22) < (l0.length : Int) := ac zA
               obtain ⟨ad147, e147, hx147_0, hx147_1⟩ := bp HR0.out (ji22) p147 q147
               have hw147_1 := hx147_1
               have hw147_0 := hx147_0
               obtain rfl : ad145 = ad147 := (by injection e147)
               (try replace hx147_0 := (HB.out.cell (aj w _ hx147_0)).trans hx147_0)
               (try replace hx147_1 := (HB.out.cell (aj w _ hx147_1)).trans hx147_1)
               replace p147 := eq_true p147
               replace q147 := eq_true q147
               refine zs (n := 30) (fun w' => w'.cell? ⟨gb146, 0, none⟩ = some (.int .i64 ((aa l0 x9_1).f0)) ∧ w'.cell? ⟨gb146, 1, none⟩ = some (.int .i64 ((aa l0 x9_1).f1)) ∧ w'.cell? (ad145.add (((ji22)).toNat * 2)) = some (.int .i64 ((aa l0 (ji22)).f0)) ∧ w'.cell? ⟨(ad145.add (((ji22)).toNat * 2)).block, (ad145.add (((ji22)).toNat * 2)).off + 1, none⟩ = some (.int .i64 ((aa l0 (ji22)).f1))) ⟨(ah BK146.out 0).trans rfl, (ah BK146.out 1).trans rfl, ((HB.out.cell (aj w _ hw147_0)).trans hw147_0), ((HB.out.cell (aj w _ hw147_1)).trans hw147_1)⟩ (fun hHeld => ?_); refine aX gJ gK (fun HT_ HW_ => ?_)
               generalize w34.drew = w35 at BK146 HB hx147_0 hx147_1 hHeld ⊢
               refine zp HT_ 0 14 ?_
               refine zt HT_ HW_ 1 15 hHeld ?_ (hy := by rintro w' ⟨s0, s1, s2, s3⟩; go_simp; with_reducible rfl)
               refine zp HT_ 2 16 ?_
               refine zp HT_ 3 17 ?_
               refine zp HT_ 4 18 ?_
               refine zp HT_ 6 20 ?_
               refine zt HT_ HW_ 5 19 hHeld ?_ (hy := by rintro w' ⟨s0, s1, s2, s3⟩; go_simp; with_reducible rfl)
               refine zt HT_ HW_ 7 21 hHeld ?_ (hy := by rintro w' ⟨s0, s1, s2, s3⟩; go_simp; with_reducible rfl)
               refine zp HT_ 8 22 ?_
               refine zp HT_ 9 23 ?_
               refine zp HT_ 10 24 ?_
               refine zp HT_ 11 25 ?_
               refine zp HT_ 13 27 ?_
               refine zt HT_ HW_ 12 26 hHeld ?_ (hy := by rintro w' ⟨s0, s1, s2, s3⟩; go_simp; with_reducible rfl)
               refine zp HT_ 14 28 ?_
               refine zp HT_ 15 29 ?_
               refine zp HT_ 16 30 ?_
               refine zp HT_ 17 31 ?_
               refine zp HT_ 18 32 ?_
               refine zp HT_ 19 33 ?_
               refine zp HT_ 20 34 ?_
               refine zp HT_ 21 35 ?_
               refine zp HT_ 22 36 ?_
               refine zp HT_ 23 37 ?_
               refine zt HT_ HW_ 24 38 hHeld ?_ (hy := by rintro w' ⟨s0, s1, s2, s3⟩; go_simp; with_reducible rfl)
               refine zt HT_ HW_ 25 39 hHeld ?_ (hy := by rintro w' ⟨s0, s1, s2, s3⟩; go_simp; with_reducible rfl)
               refine bz (i := 26) (N := some 40) #[true, true, true, true, true, true, true, true, true, true, true, true, true, true, true, true, true, true, true, true, true, true, true, true, true, true, true, false, false, false] rfl rfl (bu HT_.out (by kernel_rfl)) (by decide) (fun K hK => ?_)
               refine fQ Tryz.func84 (by kernel_rfl) rfl #[.agg #[.int .i64 ((aa l0 (ji22)).f0), .int .i64 ((aa l0 (ji22)).f1)], .agg #[.int .i64 ((aa l0 x9_1).f0), .int .i64 ((aa l0 x9_1).f1)]] (by rfl) rfl rfl (by (try simp only [List.map_toArray, List.map_cons, List.map_nil]); first | done | (simp only [hji22]; rfl) | rfl | (simp only [List.length_drop, List.length_take]; rfl)) ?_
               with_reducible refine (m9 k1 ((aa l0 (ji22)).f0) ((aa l0 (ji22)).f1) ((aa l0 x9_1).f0) ((aa l0 x9_1).f1) t148 _ A25.out).mono ?_
               rintro e w36 ⟨rfl, hb⟩
               refine ⟨_, rfl, ?_⟩
               replace BK146 := zJ BK146 hb
               replace HB := zM (ag zB hb)
               (try clear hb)
               refine hK.out _ _ ⟨(ah BK146.out 0).trans rfl, (ah BK146.out 1).trans rfl, ((HB.out.cell (aj w _ hw147_0)).trans hw147_0), ((HB.out.cell (aj w _ hw147_1)).trans hw147_1)⟩ (fun hHeld => ?_)
               clear hK K
               refine zn 40 ?_
               refine zp HT_ 27 41 ?_
               refine zp HT_ 28 42 ?_
               refine zp HT_ 29 43 ?_
               refine zo HT_ ?_
               try go_wp2
               go_roundg k1
               case measure => have := HK1.out; omega
               case rel => exact ⟨(wrap64 (x9_1 + 1)), (by first | rfl | (simp; done) | (simp [*]; done)), H', ⟨by have := HK1.out; omega⟩, ⟨zB⟩⟩
           · rw [if_neg c21] at H
             have c21b0 : decide (0 < x9_1) = false := ao c21
             clear c21
             have H' := Aside0.mk H
             clear H
             have p145 : 0 ≤ (x9_1 : Int) := ac zA
             have q145 : x9_1 < (l0.length : Int) := ac zA
             obtain ⟨ad145, e145, hx145_0, hx145_1⟩ := bp HR0.out x9_1 p145 q145
             cases e145
             (try replace hx145_0 := (HB.out.cell (aj w _ hx145_0)).trans hx145_0)
             (try replace hx145_1 := (HB.out.cell (aj w _ hx145_1)).trans hx145_1)
             replace p145 := eq_true p145
             replace q145 := eq_true q145
             try go_wp2_with (first | ((with_reducible refine au (N := 6) rfl ?_); refine zb (w := w) 6 #[.int .i64 0, .int .i64 0] 63 zB ?_; clear HB; intro gb146 w37 HB BK146 GW146; have GE146 := GW146; have hcz38_0 := zy BK146 0; have hcz38_1 := zy BK146 1; have hfz38_0 := ae BK146.out 0; have hfz38_1 := ae BK146.out 1))
             have n0_ : Aside0 (((w37.setCell ⟨gb146, 0, none⟩ (.int .i64 ((aa l0 x9_1).f0))).setCell ⟨gb146, 1, none⟩ (.int .i64 ((aa l0 x9_1).f1))).heap[gb146]? = some (.cells #[.int .i64 ((aa l0 x9_1).f0), .int .i64 ((aa l0 x9_1).f1)] 63 (0, 0))) := ⟨by (with_reducible repeat (first | refine ay ?_ _ | refine aq ?_ | refine aw ?_ _)); refine aK (cs := #[.int .i64 ((aa l0 x9_1).f0), .int .i64 0]) ?_ 1 _ rfl; (with_reducible repeat (first | refine ay ?_ _ | refine aq ?_ | refine aw ?_ _)); refine aK (cs := #[.int .i64 0, .int .i64 0]) ?_ 0 _ rfl; (with_reducible repeat (first | refine ay ?_ _ | refine aq ?_ | refine aw ?_ _)); exact BK146.out⟩
             have n1_ : Aside0 (Below w.heap.size w ((w37.setCell ⟨gb146, 0, none⟩ (.int .i64 ((aa l0 x9_1).f0))).setCell ⟨gb146, 1, none⟩ (.int .i64 ((aa l0 x9_1).f1)))) := ⟨zB⟩
             (try clear BK146)
             (try clear HB)
             generalize ((w37.setCell ⟨gb146, 0, none⟩ (.int .i64 ((aa l0 x9_1).f0))).setCell ⟨gb146, 1, none⟩ (.int .i64 ((aa l0 x9_1).f1))) = w39 at n0_ n1_ ⊢
             have BK146 := n0_
             have HB := n1_
             clear n0_ n1_
             replace BK146 := zM (aq BK146.out)
             replace HB := zM (aD HB.out)
             refine zs (n := 30) (fun w' => w'.cell? ⟨gb146, 0, none⟩ = some (.int .i64 ((aa l0 x9_1).f0)) ∧ w'.cell? ⟨gb146, 1, none⟩ = some (.int .i64 ((aa l0 x9_1).f1))) ⟨(ah BK146.out 0).trans rfl, (ah BK146.out 1).trans rfl⟩ (fun hHeld => ?_); refine aX gJ gK (fun HT_ HW_ => ?_)
             generalize w39.drew = w40 at BK146 HB hHeld ⊢
             refine zp HT_ 0 14 ?_
             refine zt HT_ HW_ 1 15 hHeld ?_ (hy := by rintro w' ⟨s0, s1⟩; go_simp; with_reducible rfl)
             refine zp HT_ 2 16 ?_
             refine zp HT_ 3 17 ?_
             refine zp HT_ 4 18 ?_
             refine zp HT_ 6 20 ?_
             refine zt HT_ HW_ 5 19 hHeld ?_ (hy := by rintro w' ⟨s0, s1⟩; go_simp; with_reducible rfl)
             refine zt HT_ HW_ 7 21 hHeld ?_ (hy := by rintro w' ⟨s0, s1⟩; go_simp; with_reducible rfl)
             refine zp HT_ 8 22 ?_
             refine zp HT_ 9 23 ?_
             refine zp HT_ 10 24 ?_
             refine zp HT_ 11 25 ?_
             refine zp HT_ 13 27 ?_
             refine zt HT_ HW_ 12 26 hHeld ?_ (hy := by rintro w' ⟨s0, s1⟩; go_simp; with_reducible rfl)
             refine zp HT_ 14 28 ?_
             refine zp HT_ 15 29 ?_
             refine zp HT_ 16 30 ?_
             refine zp HT_ 17 31 ?_
             refine zp HT_ 18 32 ?_
             refine zp HT_ 19 33 ?_
             refine zu HT_ 20 34 ?_
             refine zu HT_ 21 35 ?_
             refine zu HT_ 22 36 ?_
             refine zu HT_ 23 37 ?_
             refine zu HT_ 24 38 ?_
             refine zu HT_ 25 39 ?_
             refine zu HT_ 26 40 ?_
             refine zu HT_ 27 41 ?_
             refine zp HT_ 28 42 ?_
             refine zp HT_ 29 43 ?_
             refine zo HT_ ?_
             try go_wp2
             go_roundg k1
             case measure => have := HK1.out; omega
             case rel => exact ⟨(wrap64 (x9_1 + 1)), (by first | rfl | (simp; done) | (simp [*]; done)), H', ⟨by have := HK1.out; omega⟩, ⟨zB⟩⟩
   · rw [if_neg c3] at H
     have c3b0 : decide (x9_1 < (l0.length : Int)) = false := ao c3
     clear c3
     obtain rfl := ap H
     go_wp2
     go_ret
     exact ⟨by first | rfl | (simp [al, ak] <;> rfl) | (simp [*, al, ak] <;> rfl), zB⟩
end Go.Proofs.YtjgcehldepfaaaaGreat.P
