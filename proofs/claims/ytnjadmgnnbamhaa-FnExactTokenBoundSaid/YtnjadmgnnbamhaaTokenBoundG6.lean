-- Written by a program of this session (the kit's print, turned: wip/print/patch.py) out of the translation. Not trusted: Lean checks it.
import Derived.Test.YtnjadmgnnbamhaaTokenBoundG5
namespace Go.Proofs.Ytnjadmgnnbamhaa.P
open Go.RowKit Go.Proofs.YtnjadmgnnbamhaaW.PrintWords Go.Proofs.YtnjadmgnnbamhaaW.PrintLast Go.Proofs.YtnjadmgnnbamhaaW.PrintMore
attribute [local go_sem] max2_int min2_int max_two min_two max_three min_three max_four min_four   -- for this text's walks alone
set_option linter.unusedVariables false
set_option linter.unusedSimpArgs false

/-! ### cmp_Compare_int: function 56 -/
def cmp_Compare_int.f (a0 : Int) (a1 : Int) : Option (Int) := (cmp_isNaN_int.f a0).bind fun t130 => ((cmp_isNaN_int.f a1).bind fun t131 => (if t130 = true then (if t131 = true then (some 0) else (some (-1))) else (if t131 = true then (some 1) else (if a0 < a1 then (some (-1)) else (if a0 > a1 then (some 1) else (some 0))))))
set_option maxHeartbeats 8000000 in
set_option maxRecDepth 100000 in
theorem cmp_Compare_int.calls (a0 : Int) (a1 : Int) (r : Int) (w : World) (h : cmp_Compare_int.f a0 a1 = some r) :
 Calls Try.prog 56 #[.int .i64 a0, .int .i64 a1] w fun e w' => e = .returned (.int .i64 r) ∧ Drawn0 w w' := by
 have H : ((cmp_isNaN_int.f a0).bind fun t130 => ((cmp_isNaN_int.f a1).bind fun t131 => (if t130 = true then (if t131 = true then (some 0) else (some (-1))) else (if t131 = true then (some 1) else (if a0 < a1 then (some (-1)) else (if a0 > a1 then (some 1) else (some 0))))))) = some r := h
 clear h
 replace H := Option.bind_eq_some_iff.mp H
 obtain ⟨t130, A30, H⟩ := H
 have A3 := Aside0.mk A30
 clear A30
 replace H := Option.bind_eq_some_iff.mp H
 obtain ⟨t131, A40, H⟩ := H
 have A4 := Aside0.mk A40
 clear A40
 by_cases c5 : t130 = true
 · subst c5
   rw [if_pos rfl] at H
   by_cases c6 : t131 = true
   · subst c6
     rw [if_pos rfl] at H
     obtain rfl := Option.some.inj H
     go_enter Try.func56, Try.ntmps56
     go_wp2_with (first | ((with_reducible refine gate_callee (f := 59) rfl ?_); refine zc 8 Try.func59 #[.int .i64 a0] ?_; (with_reducible refine (cmp_isNaN_int.calls a0 true _ A3.out).mono ?_); rintro e w' ⟨rfl, ⟨nd, rfl⟩⟩; refine ⟨_, rfl, ?_⟩) | ((with_reducible refine gate_callee (f := 59) rfl ?_); refine zc 10 Try.func59 #[.int .i64 a1] ?_; (with_reducible refine (cmp_isNaN_int.calls a1 true _ A4.out).mono ?_); rintro e w' ⟨rfl, ⟨nd, rfl⟩⟩; refine ⟨_, rfl, ?_⟩))
     go_ret
     exact ⟨by first | rfl | (simp; done) | (simp [*]; done), by repeat (first | exact Drawn0.refl _ | apply Drawn0.step)⟩
   · replace c6 := Bool.eq_false_iff.mpr c6
     subst c6
     have H1 : (some (-1)) = some r := by rw [if_neg (show ¬ (false = true) by decide)] at H; exact H
     clear H
     have H := H1
     clear H1
     obtain rfl := Option.some.inj H
     go_enter Try.func56, Try.ntmps56
     go_wp2_with (first | ((with_reducible refine gate_callee (f := 59) rfl ?_); refine zc 8 Try.func59 #[.int .i64 a0] ?_; (with_reducible refine (cmp_isNaN_int.calls a0 true _ A3.out).mono ?_); rintro e w' ⟨rfl, ⟨nd, rfl⟩⟩; refine ⟨_, rfl, ?_⟩) | ((with_reducible refine gate_callee (f := 59) rfl ?_); refine zc 10 Try.func59 #[.int .i64 a1] ?_; (with_reducible refine (cmp_isNaN_int.calls a1 false _ A4.out).mono ?_); rintro e w' ⟨rfl, ⟨nd, rfl⟩⟩; refine ⟨_, rfl, ?_⟩))
     go_ret
     exact ⟨by first | rfl | (simp; done) | (simp [*]; done), by repeat (first | exact Drawn0.refl _ | apply Drawn0.step)⟩
 · replace c5 := Bool.eq_false_iff.mpr c5
   subst c5
   have H1 : (if t131 = true then (some 1) else (if a0 < a1 then (some (-1)) else (if a0 > a1 then (some 1) else (some 0)))) = some r := by rw [if_neg (show ¬ (false = true) by decide)] at H; exact H
   clear H
   have H := H1
   clear H1
   by_cases c7 : t131 = true
   · subst c7
     rw [if_pos rfl] at H
     obtain rfl := Option.some.inj H
     go_enter Try.func56, Try.ntmps56
     go_wp2_with (first | ((with_reducible refine gate_callee (f := 59) rfl ?_); refine zc 8 Try.func59 #[.int .i64 a0] ?_; (with_reducible refine (cmp_isNaN_int.calls a0 false _ A3.out).mono ?_); rintro e w' ⟨rfl, ⟨nd, rfl⟩⟩; refine ⟨_, rfl, ?_⟩) | ((with_reducible refine gate_callee (f := 59) rfl ?_); refine zc 10 Try.func59 #[.int .i64 a1] ?_; (with_reducible refine (cmp_isNaN_int.calls a1 true _ A4.out).mono ?_); rintro e w' ⟨rfl, ⟨nd, rfl⟩⟩; refine ⟨_, rfl, ?_⟩))
     go_ret
     exact ⟨by first | rfl | (simp; done) | (simp [*]; done), by repeat (first | exact Drawn0.refl _ | apply Drawn0.step)⟩
   · replace c7 := Bool.eq_false_iff.mpr c7
     subst c7
     have H1 : (if a0 < a1 then (some (-1)) else (if a0 > a1 then (some 1) else (some 0))) = some r := by rw [if_neg (show ¬ (false = true) by decide)] at H; exact H
     clear H
     have H := H1
     clear H1
     by_cases c8 : a0 < a1
     · rw [if_pos c8] at H
       have c8b0 := decide_eq_true c8
       clear c8
       obtain rfl := Option.some.inj H
       go_enter Try.func56, Try.ntmps56
       go_wp2_with (first | ((with_reducible refine gate_callee (f := 59) rfl ?_); refine zc 8 Try.func59 #[.int .i64 a0] ?_; (with_reducible refine (cmp_isNaN_int.calls a0 false _ A3.out).mono ?_); rintro e w' ⟨rfl, ⟨nd, rfl⟩⟩; refine ⟨_, rfl, ?_⟩) | ((with_reducible refine gate_callee (f := 59) rfl ?_); refine zc 10 Try.func59 #[.int .i64 a1] ?_; (with_reducible refine (cmp_isNaN_int.calls a1 false _ A4.out).mono ?_); rintro e w' ⟨rfl, ⟨nd, rfl⟩⟩; refine ⟨_, rfl, ?_⟩))
       go_ret
       exact ⟨by first | rfl | (simp; done) | (simp [*]; done), by repeat (first | exact Drawn0.refl _ | apply Drawn0.step)⟩
     · rw [if_neg c8] at H
       have c8b0 : decide (a0 < a1) = false := decide_eq_false c8
       clear c8
       by_cases c9 : a0 > a1
       · rw [if_pos c9] at H
         have c9b0 : decide (a1 < a0) = true := decide_eq_true c9
         clear c9
         obtain rfl := Option.some.inj H
         go_enter Try.func56, Try.ntmps56
         go_wp2_with (first | ((with_reducible refine gate_callee (f := 59) rfl ?_); refine zc 8 Try.func59 #[.int .i64 a0] ?_; (with_reducible refine (cmp_isNaN_int.calls a0 false _ A3.out).mono ?_); rintro e w' ⟨rfl, ⟨nd, rfl⟩⟩; refine ⟨_, rfl, ?_⟩) | ((with_reducible refine gate_callee (f := 59) rfl ?_); refine zc 10 Try.func59 #[.int .i64 a1] ?_; (with_reducible refine (cmp_isNaN_int.calls a1 false _ A4.out).mono ?_); rintro e w' ⟨rfl, ⟨nd, rfl⟩⟩; refine ⟨_, rfl, ?_⟩))
         go_ret
         exact ⟨by first | rfl | (simp; done) | (simp [*]; done), by repeat (first | exact Drawn0.refl _ | apply Drawn0.step)⟩
       · rw [if_neg c9] at H
         have c9b0 : decide (a1 < a0) = false := decide_eq_false c9
         clear c9
         obtain rfl := Option.some.inj H
         go_enter Try.func56, Try.ntmps56
         go_wp2_with (first | ((with_reducible refine gate_callee (f := 59) rfl ?_); refine zc 8 Try.func59 #[.int .i64 a0] ?_; (with_reducible refine (cmp_isNaN_int.calls a0 false _ A3.out).mono ?_); rintro e w' ⟨rfl, ⟨nd, rfl⟩⟩; refine ⟨_, rfl, ?_⟩) | ((with_reducible refine gate_callee (f := 59) rfl ?_); refine zc 10 Try.func59 #[.int .i64 a1] ?_; (with_reducible refine (cmp_isNaN_int.calls a1 false _ A4.out).mono ?_); rintro e w' ⟨rfl, ⟨nd, rfl⟩⟩; refine ⟨_, rfl, ?_⟩))
         go_ret
         exact ⟨by first | rfl | (simp; done) | (simp [*]; done), by repeat (first | exact Drawn0.refl _ | apply Drawn0.step)⟩

end Go.Proofs.Ytnjadmgnnbamhaa.P
namespace Go.Proofs.Ytnjadmgnnbamhaa.P
open Go.RowKit Go.Proofs.YtnjadmgnnbamhaaW.PrintWords Go.Proofs.YtnjadmgnnbamhaaW.PrintLast Go.Proofs.YtnjadmgnnbamhaaW.PrintMore
attribute [local go_sem] max2_int min2_int max_two min_two max_three min_three max_four min_four   -- for this text's walks alone
set_option linter.unusedVariables false
set_option linter.unusedSimpArgs false

/-! ### impl_comparePairs: function 46 -/
def impl_comparePairs.f (k : Nat) (a0_0 : Int) (a0_1 : Int) (a1_0 : Int) (a1_1 : Int) : Option (Int) := (cmp_Compare_int.f a0_0 a1_0).bind fun t134 => ((cmp_Compare_int.f a0_1 a1_1).bind fun t135 => ((cmp_Or_int.f k (([t134, t135] : List Int))).bind fun t139 => (some t139)))
def impl_comparePairs.T1 : Bool × List (List Nat × List Nat) := (true, [([], []), ([0], [0]), ([], []), ([2], [2]), ([1, 3], [1, 3]), ([], []), ([5], [5]), ([], []), ([7], [7]), ([6, 8, 4], [6, 8]), ([4, 9], [4, 9]), ([10, 9], [10]), ([11, 11, 0, 1, 2, 3, 4, 5, 6, 7, 8, 9, 10, 11], [11])])
def impl_comparePairs.B1 : List Nat := [0, 1, 0, 4, 15, 0, 32, 0, 128, 511, 1023, 2047, 4095]
theorem impl_comparePairs.tab1 : rtab .any (opsOf Try.f46 1) = impl_comparePairs.T1 := by kernel_rfl
theorem impl_comparePairs.bits1 : waitsOk impl_comparePairs.T1.2 impl_comparePairs.B1 = true := by kernel_rfl
set_option maxHeartbeats 8000000 in
set_option maxRecDepth 100000 in
theorem impl_comparePairs.calls (k : Nat) (a0_0 : Int) (a0_1 : Int) (a1_0 : Int) (a1_1 : Int) (r : Int) (w : World) (h : impl_comparePairs.f k a0_0 a0_1 a1_0 a1_1 = some r) :
 Calls Try.prog 46 #[.agg #[.int .i64 a0_0, .int .i64 a0_1], .agg #[.int .i64 a1_0, .int .i64 a1_1]] w fun e w' => e = .returned (.int .i64 r) ∧ Below w.heap.size w w' := by
 have hu50 := Try.underlying50
 have HB := zM (Below.refl w.heap.size w)
 have H : ((cmp_Compare_int.f a0_0 a1_0).bind fun t134 => ((cmp_Compare_int.f a0_1 a1_1).bind fun t135 => ((cmp_Or_int.f k (([t134, t135] : List Int))).bind fun t139 => (some t139)))) = some r := h
 clear h
 replace H := Option.bind_eq_some_iff.mp H
 obtain ⟨t134, A30, H⟩ := H
 have A3 := Aside0.mk A30
 clear A30
 replace H := Option.bind_eq_some_iff.mp H
 obtain ⟨t135, A40, H⟩ := H
 have A4 := Aside0.mk A40
 clear A40
 obtain ⟨y136, hy136⟩ : ∃ y_ : List Int, y_ = (([t134, t135] : List Int)) := ⟨_, rfl⟩
 replace H : ((cmp_Or_int.f k y136).bind fun t139 => (some t139)) = some r := by first | (rw [hy136]; with_reducible exact H) | (have H2_ := (Option.bind_some _ _).symm.trans H; rw [hy136]; with_reducible exact H2_) | (have H2_ := (Option.bind_some _ _).symm.trans H; with_reducible exact H2_) | with_reducible exact H | (rw [hy136]; exact H) | exact H
 have Ny136 := Aside0.mk hy136
 clear hy136
 replace H := Option.bind_eq_some_iff.mp H
 obtain ⟨t139, A50, H⟩ := H
 have A5 := Aside0.mk A50
 clear A50
 obtain rfl := Option.some.inj H
 go_enter Try.func46, Try.ntmps46
 try go_wp2_with (first | ((with_reducible refine gate_dst (N := 2) rfl ?_); refine zb (w := w) 2 #[.int .i64 a0_0, .int .i64 a0_1] 50 zB ?_; clear HB; intro gb132 w6 HB BK132 GW132; have GE132 := GW132) | ((with_reducible refine gate_dst (N := 3) rfl ?_); refine ze 3 #[.int .i64 a1_0, .int .i64 a1_1] 50 ?_; intro gb133 hg w7 hbox hb; have BK133 := zM (hbox); have GW133 := zM ((by rw [hg]; exact (below_size zB) : w.heap.size ≤ gb133)); have GE133 := zM ((by rw [hg]; exact (below_size zB) : w.heap.size ≤ gb133)); replace HB := zM (below_step zB hb); have NB132_133 := zM ((by rw [hg]; exact Nat.ne_of_lt (blk_lt (g := gb132) (o := .cells #[.int .i64 a0_0, .int .i64 a0_1] 50 (0, 0)) (zK BK132.out)) : gb132 ≠ gb133)); have NB133_132 := zM ((by rw [hg]; exact Nat.ne_of_gt (blk_lt (g := gb132) (o := .cells #[.int .i64 a0_0, .int .i64 a0_1] 50 (0, 0)) (zK BK132.out)) : gb133 ≠ gb132)); replace BK132 := zM (blk_below (g := gb132) (o := .cells #[.int .i64 a0_0, .int .i64 a0_1] 50 (0, 0)) (zK BK132.out) hb); clear hb hbox hg))
 replace BK132 := zM (blk_drew BK132.out)
 replace BK133 := zM (blk_drew BK133.out)
 replace HB := zM (below_drew1 HB.out)
 refine zs (n := 13) (fun w' => w'.cell? ⟨gb132, 0, none⟩ = some (.int .i64 a0_0) ∧ w'.cell? ⟨gb132, 1, none⟩ = some (.int .i64 a0_1) ∧ w'.cell? ⟨gb133, 0, none⟩ = some (.int .i64 a1_0) ∧ w'.cell? ⟨gb133, 1, none⟩ = some (.int .i64 a1_1)) ⟨(blk_cell BK132.out 0).trans rfl, (blk_cell BK132.out 1).trans rfl, (blk_cell BK133.out 0).trans rfl, (blk_cell BK133.out 1).trans rfl⟩ (fun hHeld => ?_); refine with_tabW impl_comparePairs.tab1 impl_comparePairs.bits1 (fun HT_ HW_ => ?_)
 generalize w7.drew = w8 at BK132 BK133 HB hHeld ⊢
 refine zp HT_ 0 5 ?_
 refine zp HT_ 2 7 ?_
 refine zp HT_ 5 10 ?_
 refine zp HT_ 7 12 ?_
 refine zt HT_ HW_ 1 6 hHeld ?_ (hy := by rintro w' ⟨s0, s1, s2, s3⟩; go_simp; with_reducible rfl)
 refine zt HT_ HW_ 3 8 hHeld ?_ (hy := by rintro w' ⟨s0, s1, s2, s3⟩; go_simp; with_reducible rfl)
 refine zt HT_ HW_ 6 11 hHeld ?_ (hy := by rintro w' ⟨s0, s1, s2, s3⟩; go_simp; with_reducible rfl)
 refine zt HT_ HW_ 8 13 hHeld ?_ (hy := by rintro w' ⟨s0, s1, s2, s3⟩; go_simp; with_reducible rfl)
 refine zg HT_ 4 9 Try.func56 #[.int .i64 a0_0, .int .i64 a1_0] (fun K hK => ?_)
 with_reducible refine (cmp_Compare_int.calls a0_0 a1_0 t134 _ A3.out).mono ?_
 rintro e w' ⟨rfl, ⟨nd, rfl⟩⟩
 refine ⟨_, rfl, ?_⟩
 refine hK.out _ _ ⟨(blk_cell BK132.out 0).trans rfl, (blk_cell BK132.out 1).trans rfl, (blk_cell BK133.out 0).trans rfl, (blk_cell BK133.out 1).trans rfl⟩ (fun hHeld => ?_)
 clear hK K
 refine zn 9 ?_
 refine zg HT_ 9 14 Try.func56 #[.int .i64 a0_1, .int .i64 a1_1] (fun K hK => ?_)
 with_reducible refine (cmp_Compare_int.calls a0_1 a1_1 t135 _ A4.out).mono ?_
 rintro e w' ⟨rfl, ⟨nd, rfl⟩⟩
 refine ⟨_, rfl, ?_⟩
 refine hK.out _ _ ⟨(blk_cell BK132.out 0).trans rfl, (blk_cell BK132.out 1).trans rfl, (blk_cell BK133.out 0).trans rfl, (blk_cell BK133.out 1).trans rfl⟩ (fun hHeld => ?_)
 clear hK K
 refine zn 14 ?_
 refine one_ (i := 10) (N := some 15) #[true, true, true, true, true, true, true, true, true, true, true, false, false] rfl rfl (one_of HT_.out (by kernel_rfl)) (by decide) (fun K hK => ?_)
 refine Kd.R_lit_step (Kd.int .i64) _ 3 ?hg (N := 15) ?hd (xs := ([t134, t135] : List Int)) (inner := [.int .i64 t134, .int .i64 t135]) (ok := fun _ => True) (okp := fun _ => True) ?hr ?hp (fun _ hk => hk) trivial (Below.refl _ _) (Nat.le_refl _) (by simp) ?_; (case hd => rfl); (case hg => rfl); (case hr => first | (go_simp; done) | (go_simp; rfl)); (case hp => exact (Reps.one (show Kd.M (Kd.int .i64) _ _ _ t134 [.int .i64 t134] from rfl) (Reps.one (show Kd.M (Kd.int .i64) _ _ _ t135 [.int .i64 t135] from rfl) (Reps.none _ _))))
 intro v137 w9 ho10 hb hg_ hnew_
 clear hg_ hnew_
 (first | rw [← Ny136.out] at ho10 | (simp only [Int.reduceToNat] at ho10; rw [← Ny136.out] at ho10))
 have HO138 := zM (Kd.R_lower ho10 (below_size zB))
 replace BK132 := zM (blk_below (g := gb132) (o := .cells #[.int .i64 a0_0, .int .i64 a0_1] 50 (0, 0)) (zK BK132.out) hb)
 replace BK133 := zM (blk_below (g := gb133) (o := .cells #[.int .i64 a1_0, .int .i64 a1_1] 50 (0, 0)) (zK BK133.out) hb)
 replace HB := zM (below_step zB hb)
 clear hb ho10
 obtain ⟨Ao11, co11, eo11⟩ := Kd.R_slice HO138.out
 (first | subst eo11 | (injection eo11 with f1_ f2_ f3_; have f4_ := f1_.symm; have f5_ := f3_.symm; clear f1_ f2_ f3_; subst f4_; subst f5_))
 refine hK.out _ _ ⟨(blk_cell BK132.out 0).trans rfl, (blk_cell BK132.out 1).trans rfl, (blk_cell BK133.out 0).trans rfl, (blk_cell BK133.out 1).trans rfl⟩ (fun hHeld => ?_)
 clear hK K
 refine zn 15 ?_
 refine zg HT_ 11 16 Try.func55 #[.slice Ao11 y136.length co11] (fun K hK => ?_)
 with_reducible refine (cmp_Or_int.calls k _ _ y136 t139 _ ?side1 ?side2 A5.out).mono ?_
 (case side1 => exact zC (Kd.R_reads' HO138.out).2.2)
 (case side2 => exact (Kd.R_reads' HO138.out).2.1)
 rintro e w' ⟨rfl, ⟨nd, rfl⟩⟩
 refine ⟨_, rfl, ?_⟩
 refine hK.out _ _ ⟨(blk_cell BK132.out 0).trans rfl, (blk_cell BK132.out 1).trans rfl, (blk_cell BK133.out 0).trans rfl, (blk_cell BK133.out 1).trans rfl⟩ (fun hHeld => ?_)
 clear hK K
 refine zn 16 ?_
 refine zp HT_ 12 4 ?_
 refine zo HT_ ?_
 try go_wp2
 go_ret
 exact ⟨by first | rfl | (simp [errW_none, errW_some] <;> rfl) | (simp [*, errW_none, errW_some] <;> rfl), zB⟩

end Go.Proofs.Ytnjadmgnnbamhaa.P
namespace Go.Proofs.Ytnjadmgnnbamhaa.P
open Go.RowKit Go.Proofs.YtnjadmgnnbamhaaW.PrintWords Go.Proofs.YtnjadmgnnbamhaaW.PrintLast Go.Proofs.YtnjadmgnnbamhaaW.PrintMore
attribute [local go_sem] max2_int min2_int max_two min_two max_three min_three max_four min_four   -- for this text's walks alone
set_option linter.unusedVariables false
set_option linter.unusedSimpArgs false

/-! ### impl_isPairs: function 38 -/
def impl_isPairs.l0 : Nat → List (S50) → Int → List (S50) → Int → Int → Option (Bool)
 | 0, _, _, _, _, _ => none
 | k + 1, x0, x1, x7, x8, x9 => if x9 < x8 then (if 0 ≤ x9 then (if x9 < (x7.length : Int) then (if ((rd_T50 x7 x9).f0) < 0 then (some false) else (if ((rd_T50 x7 x9).f0) ≥ ((rd_T50 x7 x9).f1) then (some false) else (if ((rd_T50 x7 x9).f1) ≥ x1 then (some false) else (if x9 > 0 then (if 0 ≤ (wrap64 (x9 - 1)) then (if (wrap64 (x9 - 1)) < (x0.length : Int) then ((impl_comparePairs.f k ((rd_T50 x0 (wrap64 (x9 - 1))).f0) ((rd_T50 x0 (wrap64 (x9 - 1))).f1) ((rd_T50 x7 x9).f0) ((rd_T50 x7 x9).f1)).bind fun t143 => (if t143 ≥ 0 then (some false) else (impl_isPairs.l0 k x0 x1 x7 x8 (wrap64 (x9 + 1))))) else (none)) else (none)) else (impl_isPairs.l0 k x0 x1 x7 x8 (wrap64 (x9 + 1))))))) else (none)) else (none)) else (some true)
def impl_isPairs.f (k : Nat) (l0 : List (S50)) (a1 : Int) : Option (Bool) := impl_isPairs.l0 k l0 a1 l0 (l0.length : Int) 0
def impl_isPairs.T4 : Bool × List (List Nat × List Nat) := (true, [([], []), ([0], [0]), ([1], [1]), ([2], [2]), ([3], [3]), ([4, 3], [3, 4]), ([3], [3]), ([6, 3], [3, 6]), ([5, 7, 3], [3, 5, 7]), ([3, 8], [3, 8]), ([9, 3], [9]), ([10], [10]), ([11, 10], [10, 11]), ([10], [10]), ([12, 13, 10], [10, 12, 13]), ([10, 14], [10, 14]), ([15, 10], [15]), ([16], [16]), ([17, 16], [16, 17]), ([18, 16, 16], [16, 18]), ([19], [19]), ([19], [19]), ([21, 19], [19, 21]), ([20, 22, 19], [19, 20, 22]), ([23, 19], [19, 23]), ([19], [19]), ([24, 25, 19, 19], [19, 24, 25]), ([26, 19], [19, 26]), ([19, 27, 16], [16, 19, 27]), ([16, 28], [16, 28])])
def impl_isPairs.B4 : List Nat := [0, 1, 3, 7, 15, 31, 15, 79, 255, 511, 1023, 2047, 4095, 2047, 16383, 32767, 65535, 131071, 262143, 524287, 1048575, 1048575, 3145727, 8388607, 16777215, 1048575, 67108863, 134217727, 268435455, 536870911]
theorem impl_isPairs.tab4 : rtab .any (opsOf Try.f38 4) = impl_isPairs.T4 := by kernel_rfl
theorem impl_isPairs.bits4 : waitsOk impl_isPairs.T4.2 impl_isPairs.B4 = true := by kernel_rfl
set_option maxHeartbeats 8000000 in
set_option maxRecDepth 100000 in
theorem impl_isPairs.calls (k : Nat) (A0 : Option Addr) (c0 : Nat) (l0 : List (S50)) (a1 : Int) (r : Bool) (w : World) (hr0 : Kd.C k50 w A0 l0.length l0) (hc0 : l0.length ≤ c0) (h : impl_isPairs.f k l0 a1 = some r) :
 Calls Try.prog 38 #[.slice A0 l0.length c0, .int .i64 a1] w fun e w' => e = .returned (.bool r) ∧ Below w.heap.size w w' := by
 have hu50 := Try.underlying50
 have HR0 := Aside0.mk hr0
 have HC0 := Aside0.mk hc0
 clear hr0 hc0
 have HB := zM (Below.refl w.heap.size w)
 have H : (impl_isPairs.l0 k l0 a1 l0 (l0.length : Int) 0) = some r := h
 clear h
 have H' := Aside0.mk H
 clear H
 go_enter Try.func38, Try.ntmps38
 go_wp2
 go_loopg [9] k (fun kq v9 w' => ∃ (x9_1 : Int), v9 = .int .i64 x9_1 ∧ Aside0 (impl_isPairs.l0 kq l0 a1 l0 (l0.length : Int) x9_1 = some r) ∧ Aside0 (kq ≤ k) ∧ Aside0 (Below w.heap.size w w'))
 case atStart => exact ⟨(0), (by first | rfl | (simp; done) | (simp [*]; done)), H', ⟨Nat.le_refl _⟩, ⟨zB⟩⟩
 case round =>
  clear H'
  try clear p2
  obtain ⟨x9_1, rfl, HA, HK1, HB⟩ := hrel
  cases gk with
  | zero => exact absurd HA.out (by simp [impl_isPairs.l0])
  | succ k1 =>
   have H := HA.out
   clear HA
   simp only [impl_isPairs.l0] at H
   by_cases c3 : x9_1 < (l0.length : Int)
   · rw [if_pos c3] at H
     have c3b0 := decide_eq_true c3
     clear c3
     by_cases c4 : 0 ≤ x9_1
     · rw [if_pos c4] at H
       have c4b0 := decide_eq_true c4
       clear c4
       by_cases c5 : x9_1 < (l0.length : Int)
       · rw [if_pos c5] at H
         have c5b0 := decide_eq_true c5
         clear c5
         by_cases c6 : ((rd_T50 l0 x9_1).f0) < 0
         · rw [if_pos c6] at H
           have c6b0 := decide_eq_true c6
           clear c6
           obtain rfl := Option.some.inj H
           have p140 : 0 ≤ (x9_1 : Int) := of_decide_eq_true zA
           have q140 : x9_1 < (l0.length : Int) := of_decide_eq_true zA
           obtain ⟨ad140, e140, hx140_0, hx140_1⟩ := at_T50 HR0.out x9_1 p140 q140
           cases e140
           (try replace hx140_0 := (HB.out.cell (World.block_lt_of_cell? w _ hx140_0)).trans hx140_0)
           (try replace hx140_1 := (HB.out.cell (World.block_lt_of_cell? w _ hx140_1)).trans hx140_1)
           replace p140 := eq_true p140
           replace q140 := eq_true q140
           try go_wp2_with (first | ((with_reducible refine gate_dst (N := 6) rfl ?_); refine zb (w := w) 6 #[.int .i64 0, .int .i64 0] 50 zB ?_; clear HB; intro gb141 w7 HB BK141 GW141; have GE141 := GW141; have hcz8_0 := zy BK141 0; have hcz8_1 := zy BK141 1; have hfz8_0 := blk_frozen BK141.out 0; have hfz8_1 := blk_frozen BK141.out 1))
           have n0_ : Aside0 (((w7.setCell ⟨gb141, 0, none⟩ (.int .i64 ((rd_T50 l0 x9_1).f0))).setCell ⟨gb141, 1, none⟩ (.int .i64 ((rd_T50 l0 x9_1).f1))).heap[gb141]? = some (.cells #[.int .i64 ((rd_T50 l0 x9_1).f0), .int .i64 ((rd_T50 l0 x9_1).f1)] 50 (0, 0))) := ⟨by (with_reducible repeat (first | refine blk_drewN ?_ _ | refine blk_drew ?_ | refine blk_alloc ?_ _)); refine blk_put (cs := #[.int .i64 ((rd_T50 l0 x9_1).f0), .int .i64 0]) ?_ 1 _ rfl; (with_reducible repeat (first | refine blk_drewN ?_ _ | refine blk_drew ?_ | refine blk_alloc ?_ _)); refine blk_put (cs := #[.int .i64 0, .int .i64 0]) ?_ 0 _ rfl; (with_reducible repeat (first | refine blk_drewN ?_ _ | refine blk_drew ?_ | refine blk_alloc ?_ _)); exact BK141.out⟩
           have n1_ : Aside0 (Below w.heap.size w ((w7.setCell ⟨gb141, 0, none⟩ (.int .i64 ((rd_T50 l0 x9_1).f0))).setCell ⟨gb141, 1, none⟩ (.int .i64 ((rd_T50 l0 x9_1).f1)))) := ⟨zB⟩
           (try clear BK141)
           (try clear HB)
           generalize ((w7.setCell ⟨gb141, 0, none⟩ (.int .i64 ((rd_T50 l0 x9_1).f0))).setCell ⟨gb141, 1, none⟩ (.int .i64 ((rd_T50 l0 x9_1).f1))) = w9 at n0_ n1_ ⊢
           have BK141 := n0_
           have HB := n1_
           clear n0_ n1_
           replace BK141 := zM (blk_drew BK141.out)
           replace HB := zM (below_drew1 HB.out)
           refine zs (n := 30) (fun w' => w'.cell? ⟨gb141, 0, none⟩ = some (.int .i64 ((rd_T50 l0 x9_1).f0)) ∧ w'.cell? ⟨gb141, 1, none⟩ = some (.int .i64 ((rd_T50 l0 x9_1).f1))) ⟨(blk_cell BK141.out 0).trans rfl, (blk_cell BK141.out 1).trans rfl⟩ (fun hHeld => ?_); refine with_tabW impl_isPairs.tab4 impl_isPairs.bits4 (fun HT_ HW_ => ?_)
           generalize w9.drew = w10 at BK141 HB hHeld ⊢
           refine zp HT_ 0 14 ?_
           refine zt HT_ HW_ 1 15 hHeld ?_ (hy := by rintro w' ⟨s0, s1⟩; go_simp; with_reducible rfl)
           refine zp HT_ 2 16 ?_
           refine zp HT_ 3 17 ?_
           refine zu HT_ 4 18 ?_
           refine zu HT_ 5 19 ?_
           refine zu HT_ 6 20 ?_
           refine zu HT_ 7 21 ?_
           refine zu HT_ 8 22 ?_
           refine zp HT_ 9 23 ?_
           refine zp HT_ 10 24 ?_
           refine zu HT_ 11 25 ?_
           refine zu HT_ 12 26 ?_
           refine zu HT_ 13 27 ?_
           refine zu HT_ 14 28 ?_
           refine zp HT_ 15 29 ?_
           refine zp HT_ 16 30 ?_
           refine zu HT_ 17 31 ?_
           refine zu HT_ 18 32 ?_
           refine zu HT_ 19 33 ?_
           refine zu HT_ 20 34 ?_
           refine zu HT_ 21 35 ?_
           refine zu HT_ 22 36 ?_
           refine zu HT_ 23 37 ?_
           refine zu HT_ 24 38 ?_
           refine zu HT_ 25 39 ?_
           refine zu HT_ 26 40 ?_
           refine zu HT_ 27 41 ?_
           refine zu HT_ 28 42 ?_
           refine zp HT_ 29 43 ?_
           refine zo HT_ ?_
           try go_wp2
           go_ret
           exact ⟨by first | rfl | (simp [errW_none, errW_some] <;> rfl) | (simp [*, errW_none, errW_some] <;> rfl), zB⟩
         · rw [if_neg c6] at H
           have c6b0 : decide (((rd_T50 l0 x9_1).f0) < 0) = false := decide_eq_false c6
           clear c6
           by_cases c11 : ((rd_T50 l0 x9_1).f0) ≥ ((rd_T50 l0 x9_1).f1)
           · rw [if_pos c11] at H
             have c11b0 : decide (((rd_T50 l0 x9_1).f1) ≤ ((rd_T50 l0 x9_1).f0)) = true := decide_eq_true c11
             clear c11
             obtain rfl := Option.some.inj H
             have p140 : 0 ≤ (x9_1 : Int) := of_decide_eq_true zA
             have q140 : x9_1 < (l0.length : Int) := of_decide_eq_true zA
             obtain ⟨ad140, e140, hx140_0, hx140_1⟩ := at_T50 HR0.out x9_1 p140 q140
             cases e140
             (try replace hx140_0 := (HB.out.cell (World.block_lt_of_cell? w _ hx140_0)).trans hx140_0)
             (try replace hx140_1 := (HB.out.cell (World.block_lt_of_cell? w _ hx140_1)).trans hx140_1)
             replace p140 := eq_true p140
             replace q140 := eq_true q140
             try go_wp2_with (first | ((with_reducible refine gate_dst (N := 6) rfl ?_); refine zb (w := w) 6 #[.int .i64 0, .int .i64 0] 50 zB ?_; clear HB; intro gb141 w12 HB BK141 GW141; have GE141 := GW141; have hcz13_0 := zy BK141 0; have hcz13_1 := zy BK141 1; have hfz13_0 := blk_frozen BK141.out 0; have hfz13_1 := blk_frozen BK141.out 1))
             have n0_ : Aside0 (((w12.setCell ⟨gb141, 0, none⟩ (.int .i64 ((rd_T50 l0 x9_1).f0))).setCell ⟨gb141, 1, none⟩ (.int .i64 ((rd_T50 l0 x9_1).f1))).heap[gb141]? = some (.cells #[.int .i64 ((rd_T50 l0 x9_1).f0), .int .i64 ((rd_T50 l0 x9_1).f1)] 50 (0, 0))) := ⟨by (with_reducible repeat (first | refine blk_drewN ?_ _ | refine blk_drew ?_ | refine blk_alloc ?_ _)); refine blk_put (cs := #[.int .i64 ((rd_T50 l0 x9_1).f0), .int .i64 0]) ?_ 1 _ rfl; (with_reducible repeat (first | refine blk_drewN ?_ _ | refine blk_drew ?_ | refine blk_alloc ?_ _)); refine blk_put (cs := #[.int .i64 0, .int .i64 0]) ?_ 0 _ rfl; (with_reducible repeat (first | refine blk_drewN ?_ _ | refine blk_drew ?_ | refine blk_alloc ?_ _)); exact BK141.out⟩
             have n1_ : Aside0 (Below w.heap.size w ((w12.setCell ⟨gb141, 0, none⟩ (.int .i64 ((rd_T50 l0 x9_1).f0))).setCell ⟨gb141, 1, none⟩ (.int .i64 ((rd_T50 l0 x9_1).f1)))) := ⟨zB⟩
             (try clear BK141)
             (try clear HB)
             generalize ((w12.setCell ⟨gb141, 0, none⟩ (.int .i64 ((rd_T50 l0 x9_1).f0))).setCell ⟨gb141, 1, none⟩ (.int .i64 ((rd_T50 l0 x9_1).f1))) = w14 at n0_ n1_ ⊢
             have BK141 := n0_
             have HB := n1_
             clear n0_ n1_
             replace BK141 := zM (blk_drew BK141.out)
             replace HB := zM (below_drew1 HB.out)
             refine zs (n := 30) (fun w' => w'.cell? ⟨gb141, 0, none⟩ = some (.int .i64 ((rd_T50 l0 x9_1).f0)) ∧ w'.cell? ⟨gb141, 1, none⟩ = some (.int .i64 ((rd_T50 l0 x9_1).f1))) ⟨(blk_cell BK141.out 0).trans rfl, (blk_cell BK141.out 1).trans rfl⟩ (fun hHeld => ?_); refine with_tabW impl_isPairs.tab4 impl_isPairs.bits4 (fun HT_ HW_ => ?_)
             generalize w14.drew = w15 at BK141 HB hHeld ⊢
             refine zp HT_ 0 14 ?_
             refine zt HT_ HW_ 1 15 hHeld ?_ (hy := by rintro w' ⟨s0, s1⟩; go_simp; with_reducible rfl)
             refine zp HT_ 2 16 ?_
             refine zp HT_ 3 17 ?_
             refine zp HT_ 4 18 ?_
             refine zp HT_ 6 20 ?_
             refine zt HT_ HW_ 5 19 hHeld ?_ (hy := by rintro w' ⟨s0, s1⟩; go_simp; with_reducible rfl)
             refine zt HT_ HW_ 7 21 hHeld ?_ (hy := by rintro w' ⟨s0, s1⟩; go_simp; with_reducible rfl)
             refine zp HT_ 8 22 ?_
             refine zp HT_ 9 23 ?_
             refine zp HT_ 10 24 ?_
             refine zu HT_ 11 25 ?_
             refine zu HT_ 12 26 ?_
             refine zu HT_ 13 27 ?_
             refine zu HT_ 14 28 ?_
             refine zp HT_ 15 29 ?_
             refine zp HT_ 16 30 ?_
             refine zu HT_ 17 31 ?_
             refine zu HT_ 18 32 ?_
             refine zu HT_ 19 33 ?_
             refine zu HT_ 20 34 ?_
             refine zu HT_ 21 35 ?_
             refine zu HT_ 22 36 ?_
             refine zu HT_ 23 37 ?_
             refine zu HT_ 24 38 ?_
             refine zu HT_ 25 39 ?_
             refine zu HT_ 26 40 ?_
             refine zu HT_ 27 41 ?_
             refine zu HT_ 28 42 ?_
             refine zp HT_ 29 43 ?_
             refine zo HT_ ?_
             try go_wp2
             go_ret
             exact ⟨by first | rfl | (simp [errW_none, errW_some] <;> rfl) | (simp [*, errW_none, errW_some] <;> rfl), zB⟩
           · rw [if_neg c11] at H
             have c11b0 : decide (((rd_T50 l0 x9_1).f1) ≤ ((rd_T50 l0 x9_1).f0)) = false := decide_eq_false c11
             clear c11
             by_cases c16 : ((rd_T50 l0 x9_1).f1) ≥ a1
             · rw [if_pos c16] at H
               have c16b0 : decide (a1 ≤ ((rd_T50 l0 x9_1).f1)) = true := decide_eq_true c16
               clear c16
               obtain rfl := Option.some.inj H
               have p140 : 0 ≤ (x9_1 : Int) := of_decide_eq_true zA
               have q140 : x9_1 < (l0.length : Int) := of_decide_eq_true zA
               obtain ⟨ad140, e140, hx140_0, hx140_1⟩ := at_T50 HR0.out x9_1 p140 q140
               cases e140
               (try replace hx140_0 := (HB.out.cell (World.block_lt_of_cell? w _ hx140_0)).trans hx140_0)
               (try replace hx140_1 := (HB.out.cell (World.block_lt_of_cell? w _ hx140_1)).trans hx140_1)
               replace p140 := eq_true p140
               replace q140 := eq_true q140
               try go_wp2_with (first | ((with_reducible refine gate_dst (N := 6) rfl ?_); refine zb (w := w) 6 #[.int .i64 0, .int .i64 0] 50 zB ?_; clear HB; intro gb141 w17 HB BK141 GW141; have GE141 := GW141; have hcz18_0 := zy BK141 0; have hcz18_1 := zy BK141 1; have hfz18_0 := blk_frozen BK141.out 0; have hfz18_1 := blk_frozen BK141.out 1))
               have n0_ : Aside0 (((w17.setCell ⟨gb141, 0, none⟩ (.int .i64 ((rd_T50 l0 x9_1).f0))).setCell ⟨gb141, 1, none⟩ (.int .i64 ((rd_T50 l0 x9_1).f1))).heap[gb141]? = some (.cells #[.int .i64 ((rd_T50 l0 x9_1).f0), .int .i64 ((rd_T50 l0 x9_1).f1)] 50 (0, 0))) := ⟨by (with_reducible repeat (first | refine blk_drewN ?_ _ | refine blk_drew ?_ | refine blk_alloc ?_ _)); refine blk_put (cs := #[.int .i64 ((rd_T50 l0 x9_1).f0), .int .i64 0]) ?_ 1 _ rfl; (with_reducible repeat (first | refine blk_drewN ?_ _ | refine blk_drew ?_ | refine blk_alloc ?_ _)); refine blk_put (cs := #[.int .i64 0, .int .i64 0]) ?_ 0 _ rfl; (with_reducible repeat (first | refine blk_drewN ?_ _ | refine blk_drew ?_ | refine blk_alloc ?_ _)); exact BK141.out⟩
               have n1_ : Aside0 (Below w.heap.size w ((w17.setCell ⟨gb141, 0, none⟩ (.int .i64 ((rd_T50 l0 x9_1).f0))).setCell ⟨gb141, 1, none⟩ (.int .i64 ((rd_T50 l0 x9_1).f1)))) := ⟨zB⟩
               (try clear BK141)
               (try clear HB)
               generalize ((w17.setCell ⟨gb141, 0, none⟩ (.int .i64 ((rd_T50 l0 x9_1).f0))).setCell ⟨gb141, 1, none⟩ (.int .i64 ((rd_T50 l0 x9_1).f1))) = w19 at n0_ n1_ ⊢
               have BK141 := n0_
               have HB := n1_
               clear n0_ n1_
               replace BK141 := zM (blk_drew BK141.out)
               replace HB := zM (below_drew1 HB.out)
               refine zs (n := 30) (fun w' => w'.cell? ⟨gb141, 0, none⟩ = some (.int .i64 ((rd_T50 l0 x9_1).f0)) ∧ w'.cell? ⟨gb141, 1, none⟩ = some (.int .i64 ((rd_T50 l0 x9_1).f1))) ⟨(blk_cell BK141.out 0).trans rfl, (blk_cell BK141.out 1).trans rfl⟩ (fun hHeld => ?_); refine with_tabW impl_isPairs.tab4 impl_isPairs.bits4 (fun HT_ HW_ => ?_)
               generalize w19.drew = w20 at BK141 HB hHeld ⊢
               refine zp HT_ 0 14 ?_
               refine zt HT_ HW_ 1 15 hHeld ?_ (hy := by rintro w' ⟨s0, s1⟩; go_simp; with_reducible rfl)
               refine zp HT_ 2 16 ?_
               refine zp HT_ 3 17 ?_
               refine zp HT_ 4 18 ?_
               refine zp HT_ 6 20 ?_
               refine zt HT_ HW_ 5 19 hHeld ?_ (hy := by rintro w' ⟨s0, s1⟩; go_simp; with_reducible rfl)
               refine zt HT_ HW_ 7 21 hHeld ?_ (hy := by rintro w' ⟨s0, s1⟩; go_simp; with_reducible rfl)
               refine zp HT_ 8 22 ?_
               refine zp HT_ 9 23 ?_
               refine zp HT_ 10 24 ?_
               refine zp HT_ 11 25 ?_
               refine zp HT_ 13 27 ?_
               refine zt HT_ HW_ 12 26 hHeld ?_ (hy := by rintro w' ⟨s0, s1⟩; go_simp; with_reducible rfl)
               refine zp HT_ 14 28 ?_
               refine zp HT_ 15 29 ?_
               refine zp HT_ 16 30 ?_
               refine zu HT_ 17 31 ?_
               refine zu HT_ 18 32 ?_
               refine zu HT_ 19 33 ?_
               refine zu HT_ 20 34 ?_
               refine zu HT_ 21 35 ?_
               refine zu HT_ 22 36 ?_
               refine zu HT_ 23 37 ?_
               refine zu HT_ 24 38 ?_
               refine zu HT_ 25 39 ?_
               refine zu HT_ 26 40 ?_
               refine zu HT_ 27 41 ?_
               refine zu HT_ 28 42 ?_
               refine zp HT_ 29 43 ?_
               refine zo HT_ ?_
               try go_wp2
               go_ret
               exact ⟨by first | rfl | (simp [errW_none, errW_some] <;> rfl) | (simp [*, errW_none, errW_some] <;> rfl), zB⟩
             · rw [if_neg c16] at H
               have c16b0 : decide (a1 ≤ ((rd_T50 l0 x9_1).f1)) = false := decide_eq_false c16
               clear c16
               by_cases c21 : x9_1 > 0
               · rw [if_pos c21] at H
                 have c21b0 : decide (0 < x9_1) = true := decide_eq_true c21
                 clear c21
                 obtain ⟨ji22, hji22⟩ : ∃ j_ : Int, (wrap64 (x9_1 - 1)) = j_ := ⟨_, rfl⟩
                 replace H : (if 0 ≤ (ji22) then (if (ji22) < (l0.length : Int) then ((impl_comparePairs.f k1 ((rd_T50 l0 (ji22)).f0) ((rd_T50 l0 (ji22)).f1) ((rd_T50 l0 x9_1).f0) ((rd_T50 l0 x9_1).f1)).bind fun t143 => (if t143 ≥ 0 then (some false) else (impl_isPairs.l0 k1 l0 a1 l0 (l0.length : Int) (wrap64 (x9_1 + 1))))) else (none)) else (none)) = some r := by first | (rw [hji22] at H; exact H) | (simp only [hji22] at H ⊢; exact H)
                 have hji22w : (IntKind.i64.wrap (x9_1 - 1)) = ji22 := (i64_w _).trans hji22
                 by_cases c23 : 0 ≤ (ji22)
                 · rw [if_pos c23] at H
                   have c23b0 := decide_eq_true c23
                   clear c23
                   by_cases c24 : (ji22) < (l0.length : Int)
                   · rw [if_pos c24] at H
                     have c24b0 := decide_eq_true c24
                     clear c24
                     replace H := Option.bind_eq_some_iff.mp H
                     obtain ⟨t143, A250, H⟩ := H
                     have A25 := Aside0.mk A250
                     clear A250
                     by_cases c26 : t143 ≥ 0
                     · rw [if_pos c26] at H
                       have c26b0 : decide (0 ≤ t143) = true := decide_eq_true c26
                       clear c26
                       obtain rfl := Option.some.inj H
                       have p140 : 0 ≤ (x9_1 : Int) := of_decide_eq_true zA
                       have q140 : x9_1 < (l0.length : Int) := of_decide_eq_true zA
                       obtain ⟨ad140, e140, hx140_0, hx140_1⟩ := at_T50 HR0.out x9_1 p140 q140
                       cases e140
                       (try replace hx140_0 := (HB.out.cell (World.block_lt_of_cell? w _ hx140_0)).trans hx140_0)
                       (try replace hx140_1 := (HB.out.cell (World.block_lt_of_cell? w _ hx140_1)).trans hx140_1)
                       replace p140 := eq_true p140
                       replace q140 := eq_true q140
                       try go_wp2_with (first | ((with_reducible refine gate_dst (N := 6) rfl ?_); refine zb (w := w) 6 #[.int .i64 0, .int .i64 0] 50 zB ?_; clear HB; intro gb141 w27 HB BK141 GW141; have GE141 := GW141; have hcz28_0 := zy BK141 0; have hcz28_1 := zy BK141 1; have hfz28_0 := blk_frozen BK141.out 0; have hfz28_1 := blk_frozen BK141.out 1))
                       have n0_ : Aside0 (((w27.setCell ⟨gb141, 0, none⟩ (.int .i64 ((rd_T50 l0 x9_1).f0))).setCell ⟨gb141, 1, none⟩ (.int .i64 ((rd_T50 l0 x9_1).f1))).heap[gb141]? = some (.cells #[.int .i64 ((rd_T50 l0 x9_1).f0), .int .i64 ((rd_T50 l0 x9_1).f1)] 50 (0, 0))) := ⟨by (with_reducible repeat (first | refine blk_drewN ?_ _ | refine blk_drew ?_ | refine blk_alloc ?_ _)); refine blk_put (cs := #[.int .i64 ((rd_T50 l0 x9_1).f0), .int .i64 0]) ?_ 1 _ rfl; (with_reducible repeat (first | refine blk_drewN ?_ _ | refine blk_drew ?_ | refine blk_alloc ?_ _)); refine blk_put (cs := #[.int .i64 0, .int .i64 0]) ?_ 0 _ rfl; (with_reducible repeat (first | refine blk_drewN ?_ _ | refine blk_drew ?_ | refine blk_alloc ?_ _)); exact BK141.out⟩
                       have n1_ : Aside0 (Below w.heap.size w ((w27.setCell ⟨gb141, 0, none⟩ (.int .i64 ((rd_T50 l0 x9_1).f0))).setCell ⟨gb141, 1, none⟩ (.int .i64 ((rd_T50 l0 x9_1).f1)))) := ⟨zB⟩
                       (try clear BK141)
                       (try clear HB)
                       generalize ((w27.setCell ⟨gb141, 0, none⟩ (.int .i64 ((rd_T50 l0 x9_1).f0))).setCell ⟨gb141, 1, none⟩ (.int .i64 ((rd_T50 l0 x9_1).f1))) = w29 at n0_ n1_ ⊢
                       have BK141 := n0_
                       have HB := n1_
                       clear n0_ n1_
                       replace BK141 := zM (blk_drew BK141.out)
                       replace HB := zM (below_drew1 HB.out)
                       have p142 : 0 ≤ ((ji22) : Int) := of_decide_eq_true zA
                       have q142 : (ji22) < (l0.length : Int) := of_decide_eq_true zA
                       obtain ⟨ad142, e142, hx142_0, hx142_1⟩ := at_T50 HR0.out (ji22) p142 q142
                       have hw142_1 := hx142_1
                       have hw142_0 := hx142_0
                       obtain rfl : ad140 = ad142 := (by injection e142)
                       (try replace hx142_0 := (HB.out.cell (World.block_lt_of_cell? w _ hx142_0)).trans hx142_0)
                       (try replace hx142_1 := (HB.out.cell (World.block_lt_of_cell? w _ hx142_1)).trans hx142_1)
                       replace p142 := eq_true p142
                       replace q142 := eq_true q142
                       refine zs (n := 30) (fun w' => w'.cell? ⟨gb141, 0, none⟩ = some (.int .i64 ((rd_T50 l0 x9_1).f0)) ∧ w'.cell? ⟨gb141, 1, none⟩ = some (.int .i64 ((rd_T50 l0 x9_1).f1)) ∧ w'.cell? (ad140.add (((ji22)).toNat * 2)) = some (.int .i64 ((rd_T50 l0 (ji22)).f0)) ∧ w'.cell? ⟨(ad140.add (((ji22)).toNat * 2)).block, (ad140.add (((ji22)).toNat * 2)).off + 1, none⟩ = some (.int .i64 ((rd_T50 l0 (ji22)).f1))) ⟨(blk_cell BK141.out 0).trans rfl, (blk_cell BK141.out 1).trans rfl, ((HB.out.cell (World.block_lt_of_cell? w _ hw142_0)).trans hw142_0), ((HB.out.cell (World.block_lt_of_cell? w _ hw142_1)).trans hw142_1)⟩ (fun hHeld => ?_); refine with_tabW impl_isPairs.tab4 impl_isPairs.bits4 (fun HT_ HW_ => ?_)
                       generalize w29.drew = w30 at BK141 HB hx142_0 hx142_1 hHeld ⊢
                       refine zp HT_ 0 14 ?_
                       refine zt HT_ HW_ 1 15 hHeld ?_ (hy := by rintro w' ⟨s0, s1, s2, s3⟩; go_simp; with_reducible rfl)
                       refine zp HT_ 2 16 ?_
                       refine zp HT_ 3 17 ?_
                       refine zp HT_ 4 18 ?_
                       refine zp HT_ 6 20 ?_
                       refine zt HT_ HW_ 5 19 hHeld ?_ (hy := by rintro w' ⟨s0, s1, s2, s3⟩; go_simp; with_reducible rfl)
                       refine zt HT_ HW_ 7 21 hHeld ?_ (hy := by rintro w' ⟨s0, s1, s2, s3⟩; go_simp; with_reducible rfl)
                       refine zp HT_ 8 22 ?_
                       refine zp HT_ 9 23 ?_
                       refine zp HT_ 10 24 ?_
                       refine zp HT_ 11 25 ?_
                       refine zp HT_ 13 27 ?_
                       refine zt HT_ HW_ 12 26 hHeld ?_ (hy := by rintro w' ⟨s0, s1, s2, s3⟩; go_simp; with_reducible rfl)
                       refine zp HT_ 14 28 ?_
                       refine zp HT_ 15 29 ?_
                       refine zp HT_ 16 30 ?_
                       refine zp HT_ 17 31 ?_
                       refine zp HT_ 18 32 ?_
                       refine zp HT_ 19 33 ?_
                       refine zp HT_ 20 34 ?_
                       refine zp HT_ 21 35 ?_
                       refine zp HT_ 22 36 ?_
                       refine zp HT_ 23 37 ?_
                       refine zt HT_ HW_ 24 38 hHeld ?_ (hy := by rintro w' ⟨s0, s1, s2, s3⟩; go_simp; with_reducible rfl)
                       refine zt HT_ HW_ 25 39 hHeld ?_ (hy := by rintro w' ⟨s0, s1, s2, s3⟩; go_simp; with_reducible rfl)
                       refine one_ (i := 26) (N := some 40) #[true, true, true, true, true, true, true, true, true, true, true, true, true, true, true, true, true, true, true, true, true, true, true, true, true, true, true, false, false, false] rfl rfl (one_of HT_.out (by kernel_rfl)) (by decide) (fun K hK => ?_)
                       refine goes_ Try.func46 (by kernel_rfl) rfl #[.agg #[.int .i64 ((rd_T50 l0 (ji22)).f0), .int .i64 ((rd_T50 l0 (ji22)).f1)], .agg #[.int .i64 ((rd_T50 l0 x9_1).f0), .int .i64 ((rd_T50 l0 x9_1).f1)]] (by rfl) rfl rfl (by (try simp only [List.map_toArray, List.map_cons, List.map_nil]); first | done | (simp only [hji22]; rfl) | rfl | (simp only [List.length_drop, List.length_take]; rfl)) ?_
                       with_reducible refine (impl_comparePairs.calls k1 ((rd_T50 l0 (ji22)).f0) ((rd_T50 l0 (ji22)).f1) ((rd_T50 l0 x9_1).f0) ((rd_T50 l0 x9_1).f1) t143 _ A25.out).mono ?_
                       rintro e w31 ⟨rfl, hb⟩
                       refine ⟨_, rfl, ?_⟩
                       replace BK141 := zM (blk_below (g := gb141) (o := .cells #[.int .i64 ((rd_T50 l0 x9_1).f0), .int .i64 ((rd_T50 l0 x9_1).f1)] 50 (0, 0)) (zK BK141.out) hb)
                       replace HB := zM (below_step zB hb)
                       (try clear hb)
                       (try clear hb2)
                       (try clear hk)
                       (try clear hi)
                       refine hK.out _ _ ⟨(blk_cell BK141.out 0).trans rfl, (blk_cell BK141.out 1).trans rfl, ((HB.out.cell (World.block_lt_of_cell? w _ hw142_0)).trans hw142_0), ((HB.out.cell (World.block_lt_of_cell? w _ hw142_1)).trans hw142_1)⟩ (fun hHeld => ?_)
                       clear hK K
                       refine zn 40 ?_
                       refine zp HT_ 27 41 ?_
                       refine zp HT_ 28 42 ?_
                       refine zp HT_ 29 43 ?_
                       refine zo HT_ ?_
                       try go_wp2
                       go_ret
                       exact ⟨by first | rfl | (simp [errW_none, errW_some] <;> rfl) | (simp only [← hji22]; first | rfl | (simp [errW_none, errW_some] <;> rfl)) | (simp [*, errW_none, errW_some] <;> rfl), zB⟩
                     · rw [if_neg c26] at H
                       have c26b0 : decide (0 ≤ t143) = false := decide_eq_false c26
                       clear c26
                       have H' := Aside0.mk H
                       clear H
                       have p140 : 0 ≤ (x9_1 : Int) := of_decide_eq_true zA
                       have q140 : x9_1 < (l0.length : Int) := of_decide_eq_true zA
                       obtain ⟨ad140, e140, hx140_0, hx140_1⟩ := at_T50 HR0.out x9_1 p140 q140
                       cases e140
                       (try replace hx140_0 := (HB.out.cell (World.block_lt_of_cell? w _ hx140_0)).trans hx140_0)
                       (try replace hx140_1 := (HB.out.cell (World.block_lt_of_cell? w _ hx140_1)).trans hx140_1)
                       replace p140 := eq_true p140
                       replace q140 := eq_true q140
                       try go_wp2_with (first | ((with_reducible refine gate_dst (N := 6) rfl ?_); refine zb (w := w) 6 #[.int .i64 0, .int .i64 0] 50 zB ?_; clear HB; intro gb141 w32 HB BK141 GW141; have GE141 := GW141; have hcz33_0 := zy BK141 0; have hcz33_1 := zy BK141 1; have hfz33_0 := blk_frozen BK141.out 0; have hfz33_1 := blk_frozen BK141.out 1))
                       have n0_ : Aside0 (((w32.setCell ⟨gb141, 0, none⟩ (.int .i64 ((rd_T50 l0 x9_1).f0))).setCell ⟨gb141, 1, none⟩ (.int .i64 ((rd_T50 l0 x9_1).f1))).heap[gb141]? = some (.cells #[.int .i64 ((rd_T50 l0 x9_1).f0), .int .i64 ((rd_T50 l0 x9_1).f1)] 50 (0, 0))) := ⟨by (with_reducible repeat (first | refine blk_drewN ?_ _ | refine blk_drew ?_ | refine blk_alloc ?_ _)); refine blk_put (cs := #[.int .i64 ((rd_T50 l0 x9_1).f0), .int .i64 0]) ?_ 1 _ rfl; (with_reducible repeat (first | refine blk_drewN ?_ _ | refine blk_drew ?_ | refine blk_alloc ?_ _)); refine blk_put (cs := #[.int .i64 0, .int .i64 0]) ?_ 0 _ rfl; (with_reducible repeat (first | refine blk_drewN ?_ _ | refine blk_drew ?_ | refine blk_alloc ?_ _)); exact BK141.out⟩
                       have n1_ : Aside0 (Below w.heap.size w ((w32.setCell ⟨gb141, 0, none⟩ (.int .i64 ((rd_T50 l0 x9_1).f0))).setCell ⟨gb141, 1, none⟩ (.int .i64 ((rd_T50 l0 x9_1).f1)))) := ⟨zB⟩
                       (try clear BK141)
                       (try clear HB)
                       generalize ((w32.setCell ⟨gb141, 0, none⟩ (.int .i64 ((rd_T50 l0 x9_1).f0))).setCell ⟨gb141, 1, none⟩ (.int .i64 ((rd_T50 l0 x9_1).f1))) = w34 at n0_ n1_ ⊢
                       have BK141 := n0_
                       have HB := n1_
                       clear n0_ n1_
                       replace BK141 := zM (blk_drew BK141.out)
                       replace HB := zM (below_drew1 HB.out)
                       have p142 : 0 ≤ ((ji22) : Int) := of_decide_eq_true zA
                       have q142 : (ji22) < (l0.length : Int) := of_decide_eq_true zA
                       obtain ⟨ad142, e142, hx142_0, hx142_1⟩ := at_T50 HR0.out (ji22) p142 q142
                       have hw142_1 := hx142_1
                       have hw142_0 := hx142_0
                       obtain rfl : ad140 = ad142 := (by injection e142)
                       (try replace hx142_0 := (HB.out.cell (World.block_lt_of_cell? w _ hx142_0)).trans hx142_0)
                       (try replace hx142_1 := (HB.out.cell (World.block_lt_of_cell? w _ hx142_1)).trans hx142_1)
                       replace p142 := eq_true p142
                       replace q142 := eq_true q142
                       refine zs (n := 30) (fun w' => w'.cell? ⟨gb141, 0, none⟩ = some (.int .i64 ((rd_T50 l0 x9_1).f0)) ∧ w'.cell? ⟨gb141, 1, none⟩ = some (.int .i64 ((rd_T50 l0 x9_1).f1)) ∧ w'.cell? (ad140.add (((ji22)).toNat * 2)) = some (.int .i64 ((rd_T50 l0 (ji22)).f0)) ∧ w'.cell? ⟨(ad140.add (((ji22)).toNat * 2)).block, (ad140.add (((ji22)).toNat * 2)).off + 1, none⟩ = some (.int .i64 ((rd_T50 l0 (ji22)).f1))) ⟨(blk_cell BK141.out 0).trans rfl, (blk_cell BK141.out 1).trans rfl, ((HB.out.cell (World.block_lt_of_cell? w _ hw142_0)).trans hw142_0), ((HB.out.cell (World.block_lt_of_cell? w _ hw142_1)).trans hw142_1)⟩ (fun hHeld => ?_); refine with_tabW impl_isPairs.tab4 impl_isPairs.bits4 (fun HT_ HW_ => ?_)
                       generalize w34.drew = w35 at BK141 HB hx142_0 hx142_1 hHeld ⊢
                       refine zp HT_ 0 14 ?_
                       refine zt HT_ HW_ 1 15 hHeld ?_ (hy := by rintro w' ⟨s0, s1, s2, s3⟩; go_simp; with_reducible rfl)
                       refine zp HT_ 2 16 ?_
                       refine zp HT_ 3 17 ?_
                       refine zp HT_ 4 18 ?_
                       refine zp HT_ 6 20 ?_
                       refine zt HT_ HW_ 5 19 hHeld ?_ (hy := by rintro w' ⟨s0, s1, s2, s3⟩; go_simp; with_reducible rfl)
                       refine zt HT_ HW_ 7 21 hHeld ?_ (hy := by rintro w' ⟨s0, s1, s2, s3⟩; go_simp; with_reducible rfl)
                       refine zp HT_ 8 22 ?_
                       refine zp HT_ 9 23 ?_
                       refine zp HT_ 10 24 ?_
                       refine zp HT_ 11 25 ?_
                       refine zp HT_ 13 27 ?_
                       refine zt HT_ HW_ 12 26 hHeld ?_ (hy := by rintro w' ⟨s0, s1, s2, s3⟩; go_simp; with_reducible rfl)
                       refine zp HT_ 14 28 ?_
                       refine zp HT_ 15 29 ?_
                       refine zp HT_ 16 30 ?_
                       refine zp HT_ 17 31 ?_
                       refine zp HT_ 18 32 ?_
                       refine zp HT_ 19 33 ?_
                       refine zp HT_ 20 34 ?_
                       refine zp HT_ 21 35 ?_
                       refine zp HT_ 22 36 ?_
                       refine zp HT_ 23 37 ?_
                       refine zt HT_ HW_ 24 38 hHeld ?_ (hy := by rintro w' ⟨s0, s1, s2, s3⟩; go_simp; with_reducible rfl)
                       refine zt HT_ HW_ 25 39 hHeld ?_ (hy := by rintro w' ⟨s0, s1, s2, s3⟩; go_simp; with_reducible rfl)
                       refine one_ (i := 26) (N := some 40) #[true, true, true, true, true, true, true, true, true, true, true, true, true, true, true, true, true, true, true, true, true, true, true, true, true, true, true, false, false, false] rfl rfl (one_of HT_.out (by kernel_rfl)) (by decide) (fun K hK => ?_)
                       refine goes_ Try.func46 (by kernel_rfl) rfl #[.agg #[.int .i64 ((rd_T50 l0 (ji22)).f0), .int .i64 ((rd_T50 l0 (ji22)).f1)], .agg #[.int .i64 ((rd_T50 l0 x9_1).f0), .int .i64 ((rd_T50 l0 x9_1).f1)]] (by rfl) rfl rfl (by (try simp only [List.map_toArray, List.map_cons, List.map_nil]); first | done | (simp only [hji22]; rfl) | rfl | (simp only [List.length_drop, List.length_take]; rfl)) ?_
                       with_reducible refine (impl_comparePairs.calls k1 ((rd_T50 l0 (ji22)).f0) ((rd_T50 l0 (ji22)).f1) ((rd_T50 l0 x9_1).f0) ((rd_T50 l0 x9_1).f1) t143 _ A25.out).mono ?_
                       rintro e w36 ⟨rfl, hb⟩
                       refine ⟨_, rfl, ?_⟩
                       replace BK141 := zM (blk_below (g := gb141) (o := .cells #[.int .i64 ((rd_T50 l0 x9_1).f0), .int .i64 ((rd_T50 l0 x9_1).f1)] 50 (0, 0)) (zK BK141.out) hb)
                       replace HB := zM (below_step zB hb)
                       (try clear hb)
                       (try clear hb2)
                       (try clear hk)
                       (try clear hi)
                       refine hK.out _ _ ⟨(blk_cell BK141.out 0).trans rfl, (blk_cell BK141.out 1).trans rfl, ((HB.out.cell (World.block_lt_of_cell? w _ hw142_0)).trans hw142_0), ((HB.out.cell (World.block_lt_of_cell? w _ hw142_1)).trans hw142_1)⟩ (fun hHeld => ?_)
                       clear hK K
                       refine zn 40 ?_
                       refine zp HT_ 27 41 ?_
                       refine zp HT_ 28 42 ?_
                       refine zp HT_ 29 43 ?_
                       refine zo HT_ ?_
                       try go_wp2
                       go_roundg k1
                       case measure => have := HK1.out; omega
                       case rel => exact ⟨(wrap64 (x9_1 + 1)), (by first | rfl | (simp; done) | (simp [*]; done)), H', ⟨by have := HK1.out; omega⟩, ⟨zB⟩⟩
                   · rw [if_neg c24] at H
                     exact absurd H (by simp)
                 · rw [if_neg c23] at H
                   exact absurd H (by simp)
               · rw [if_neg c21] at H
                 have c21b0 : decide (0 < x9_1) = false := decide_eq_false c21
                 clear c21
                 have H' := Aside0.mk H
                 clear H
                 have p140 : 0 ≤ (x9_1 : Int) := of_decide_eq_true zA
                 have q140 : x9_1 < (l0.length : Int) := of_decide_eq_true zA
                 obtain ⟨ad140, e140, hx140_0, hx140_1⟩ := at_T50 HR0.out x9_1 p140 q140
                 cases e140
                 (try replace hx140_0 := (HB.out.cell (World.block_lt_of_cell? w _ hx140_0)).trans hx140_0)
                 (try replace hx140_1 := (HB.out.cell (World.block_lt_of_cell? w _ hx140_1)).trans hx140_1)
                 replace p140 := eq_true p140
                 replace q140 := eq_true q140
                 try go_wp2_with (first | ((with_reducible refine gate_dst (N := 6) rfl ?_); refine zb (w := w) 6 #[.int .i64 0, .int .i64 0] 50 zB ?_; clear HB; intro gb141 w37 HB BK141 GW141; have GE141 := GW141; have hcz38_0 := zy BK141 0; have hcz38_1 := zy BK141 1; have hfz38_0 := blk_frozen BK141.out 0; have hfz38_1 := blk_frozen BK141.out 1))
                 have n0_ : Aside0 (((w37.setCell ⟨gb141, 0, none⟩ (.int .i64 ((rd_T50 l0 x9_1).f0))).setCell ⟨gb141, 1, none⟩ (.int .i64 ((rd_T50 l0 x9_1).f1))).heap[gb141]? = some (.cells #[.int .i64 ((rd_T50 l0 x9_1).f0), .int .i64 ((rd_T50 l0 x9_1).f1)] 50 (0, 0))) := ⟨by (with_reducible repeat (first | refine blk_drewN ?_ _ | refine blk_drew ?_ | refine blk_alloc ?_ _)); refine blk_put (cs := #[.int .i64 ((rd_T50 l0 x9_1).f0), .int .i64 0]) ?_ 1 _ rfl; (with_reducible repeat (first | refine blk_drewN ?_ _ | refine blk_drew ?_ | refine blk_alloc ?_ _)); refine blk_put (cs := #[.int .i64 0, .int .i64 0]) ?_ 0 _ rfl; (with_reducible repeat (first | refine blk_drewN ?_ _ | refine blk_drew ?_ | refine blk_alloc ?_ _)); exact BK141.out⟩
                 have n1_ : Aside0 (Below w.heap.size w ((w37.setCell ⟨gb141, 0, none⟩ (.int .i64 ((rd_T50 l0 x9_1).f0))).setCell ⟨gb141, 1, none⟩ (.int .i64 ((rd_T50 l0 x9_1).f1)))) := ⟨zB⟩
                 (try clear BK141)
                 (try clear HB)
                 generalize ((w37.setCell ⟨gb141, 0, none⟩ (.int .i64 ((rd_T50 l0 x9_1).f0))).setCell ⟨gb141, 1, none⟩ (.int .i64 ((rd_T50 l0 x9_1).f1))) = w39 at n0_ n1_ ⊢
                 have BK141 := n0_
                 have HB := n1_
                 clear n0_ n1_
                 replace BK141 := zM (blk_drew BK141.out)
                 replace HB := zM (below_drew1 HB.out)
                 refine zs (n := 30) (fun w' => w'.cell? ⟨gb141, 0, none⟩ = some (.int .i64 ((rd_T50 l0 x9_1).f0)) ∧ w'.cell? ⟨gb141, 1, none⟩ = some (.int .i64 ((rd_T50 l0 x9_1).f1))) ⟨(blk_cell BK141.out 0).trans rfl, (blk_cell BK141.out 1).trans rfl⟩ (fun hHeld => ?_); refine with_tabW impl_isPairs.tab4 impl_isPairs.bits4 (fun HT_ HW_ => ?_)
                 generalize w39.drew = w40 at BK141 HB hHeld ⊢
                 refine zp HT_ 0 14 ?_
                 refine zt HT_ HW_ 1 15 hHeld ?_ (hy := by rintro w' ⟨s0, s1⟩; go_simp; with_reducible rfl)
                 refine zp HT_ 2 16 ?_
                 refine zp HT_ 3 17 ?_
                 refine zp HT_ 4 18 ?_
                 refine zp HT_ 6 20 ?_
                 refine zt HT_ HW_ 5 19 hHeld ?_ (hy := by rintro w' ⟨s0, s1⟩; go_simp; with_reducible rfl)
                 refine zt HT_ HW_ 7 21 hHeld ?_ (hy := by rintro w' ⟨s0, s1⟩; go_simp; with_reducible rfl)
                 refine zp HT_ 8 22 ?_
                 refine zp HT_ 9 23 ?_
                 refine zp HT_ 10 24 ?_
                 refine zp HT_ 11 25 ?_
                 refine zp HT_ 13 27 ?_
                 refine zt HT_ HW_ 12 26 hHeld ?_ (hy := by rintro w' ⟨s0, s1⟩; go_simp; with_reducible rfl)
                 refine zp HT_ 14 28 ?_
                 refine zp HT_ 15 29 ?_
                 refine zp HT_ 16 30 ?_
                 refine zp HT_ 17 31 ?_
                 refine zp HT_ 18 32 ?_
                 refine zp HT_ 19 33 ?_
                 refine zu HT_ 20 34 ?_
                 refine zu HT_ 21 35 ?_
                 refine zu HT_ 22 36 ?_
                 refine zu HT_ 23 37 ?_
                 refine zu HT_ 24 38 ?_
                 refine zu HT_ 25 39 ?_
                 refine zu HT_ 26 40 ?_
                 refine zu HT_ 27 41 ?_
                 refine zp HT_ 28 42 ?_
                 refine zp HT_ 29 43 ?_
                 refine zo HT_ ?_
                 try go_wp2
                 go_roundg k1
                 case measure => have := HK1.out; omega
                 case rel => exact ⟨(wrap64 (x9_1 + 1)), (by first | rfl | (simp; done) | (simp [*]; done)), H', ⟨by have := HK1.out; omega⟩, ⟨zB⟩⟩
       · rw [if_neg c5] at H
         exact absurd H (by simp)
     · rw [if_neg c4] at H
       exact absurd H (by simp)
   · rw [if_neg c3] at H
     have c3b0 : decide (x9_1 < (l0.length : Int)) = false := decide_eq_false c3
     clear c3
     obtain rfl := Option.some.inj H
     go_wp2
     go_ret
     exact ⟨by first | rfl | (simp [errW_none, errW_some] <;> rfl) | (simp [*, errW_none, errW_some] <;> rfl), zB⟩

end Go.Proofs.Ytnjadmgnnbamhaa.P
