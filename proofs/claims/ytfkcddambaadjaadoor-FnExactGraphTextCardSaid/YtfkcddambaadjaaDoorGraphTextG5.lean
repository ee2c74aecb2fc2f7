-- Written by a program of this session (the kit's print, turned: wip/print/patch.py) out of the translation. Not trusted: Lean checks it.
import Derived.Test.YtfkcddambaadjaaDoorGraphTextG3
import Derived.Test.YtfkcddambaadjaaDoorGraphTextG4
import Derived.ProofKit
import Derived.OpenShut
import Derived.Deep.Matrix
import Derived.Lib.SmallJoins
import Derived.Handy
namespace Go.Proofs.YtfkcddambaadjaaDoor.P
open Go.RowKit Go.Proofs.YtfkcddambaadjaaDoorW.PrintWords Go.Proofs.YtfkcddambaadjaaDoorW.PrintLast Go.Proofs.YtfkcddambaadjaaDoorW.PrintMore
attribute [local go_sem] max2_int min2_int max_two min_two max_three min_three max_four min_four   -- for this text's walks alone
set_option linter.unusedVariables false
set_option linter.unusedSimpArgs false

/-! ### spec_l2Good: function 15 -/
def spec_l2Good.f (k : Nat) (a0_0 : Int) (l0_1 : List (S41)) : Option (Bool) := (spec_l1In.f a0_0 0 8).bind fun t154 => (if t154 = true then ((spec_l2Pairs.f k l0_1 a0_0).bind fun t155 => (some t155)) else (some false))
set_option maxHeartbeats 8000000 in
set_option maxRecDepth 100000 in
theorem spec_l2Good.calls (k : Nat) (a0_0 : Int) (A0_1 : Option Addr) (c0_1 : Nat) (l0_1 : List (S41)) (r : Bool) (w : World) (hr0_1 : Kd.C k41 w A0_1 l0_1.length l0_1) (hc0_1 : l0_1.length ≤ c0_1) (h : spec_l2Good.f k a0_0 l0_1 = some r) :
 Calls Tryd.prog 15 #[.agg #[.int .i64 a0_0, .slice A0_1 l0_1.length c0_1]] w fun e w' => e = .returned (.bool r) ∧ Below w.heap.size w w' := by
 have hu28 := Tryd.underlying28
 have HR0_1 := Aside0.mk hr0_1
 have HC0_1 := Aside0.mk hc0_1
 clear hr0_1 hc0_1
 have HB := zM (Below.refl w.heap.size w)
 have H : ((spec_l1In.f a0_0 0 8).bind fun t154 => (if t154 = true then ((spec_l2Pairs.f k l0_1 a0_0).bind fun t155 => (some t155)) else (some false))) = some r := h
 clear h
 replace H := Option.bind_eq_some_iff.mp H
 obtain ⟨t154, A20, H⟩ := H
 have A2 := Aside0.mk A20
 clear A20
 by_cases c3 : t154 = true
 · subst c3
   rw [if_pos rfl] at H
   replace H := Option.bind_eq_some_iff.mp H
   obtain ⟨t155, A40, H⟩ := H
   have A4 := Aside0.mk A40
   clear A40
   obtain rfl := Option.some.inj H
   go_enter Tryd.func15, Tryd.ntmps15
   go_wp2_with (first | ((with_reducible refine gate_dst (N := 1) rfl ?_); refine zb (w := w) 1 #[.int .i64 a0_0, .slice A0_1 l0_1.length c0_1] 28 zB ?_; clear HB; intro gb153 w5 HB BK153 GW153; have GE153 := GW153; have hcz6_0 := zy BK153 0; have hcz6_1 := zy BK153 1; have hfz6_0 := blk_frozen BK153.out 0; have hfz6_1 := blk_frozen BK153.out 1) | ((with_reducible refine gate_callee (f := 29) rfl ?_); refine zc 5 Tryd.func29 #[.int .i64 a0_0, .int .i64 0, .int .i64 8] ?_; (with_reducible refine (spec_l1In.calls a0_0 0 8 true _ A2.out).mono ?_); rintro e w' ⟨rfl, ⟨nd, rfl⟩⟩; refine ⟨_, rfl, ?_⟩) | (go_at_call 30; (with_reducible refine (spec_l2Pairs.calls k _ _ l0_1 a0_0 t155 _ ?side1 ?side2 A4.out).mono ?_); (case side1 => exact zC (Kd.C_below HR0_1.out zB)); (case side2 => exact HC0_1.out); rintro e w7 ⟨rfl, hb⟩; replace BK153 := zM (blk_below (g := gb153) (o := .cells #[.int .i64 a0_0, .slice A0_1 l0_1.length c0_1] 28 (0, 0)) (zK BK153.out) hb); replace HB := zM (below_step zB hb); (try clear hb); (try clear hb2); (try clear hk); (try clear hi)))
   go_ret
   exact ⟨by first | rfl | (simp [errW_none, errW_some] <;> rfl) | (simp [*, errW_none, errW_some] <;> rfl), zB⟩
 · replace c3 := Bool.eq_false_iff.mpr c3
   subst c3
   have H1 : (some false) = some r := by rw [if_neg (show ¬ (false = true) by decide)] at H; exact H
   clear H
   have H := H1
   clear H1
   obtain rfl := Option.some.inj H
   go_enter Tryd.func15, Tryd.ntmps15
   go_wp2_with (first | ((with_reducible refine gate_dst (N := 1) rfl ?_); refine zb (w := w) 1 #[.int .i64 a0_0, .slice A0_1 l0_1.length c0_1] 28 zB ?_; clear HB; intro gb153 w8 HB BK153 GW153; have GE153 := GW153; have hcz9_0 := zy BK153 0; have hcz9_1 := zy BK153 1; have hfz9_0 := blk_frozen BK153.out 0; have hfz9_1 := blk_frozen BK153.out 1) | ((with_reducible refine gate_callee (f := 29) rfl ?_); refine zc 5 Tryd.func29 #[.int .i64 a0_0, .int .i64 0, .int .i64 8] ?_; (with_reducible refine (spec_l1In.calls a0_0 0 8 false _ A2.out).mono ?_); rintro e w' ⟨rfl, ⟨nd, rfl⟩⟩; refine ⟨_, rfl, ?_⟩))
   go_ret
   exact ⟨by first | rfl | (simp [errW_none, errW_some] <;> rfl) | (simp [*, errW_none, errW_some] <;> rfl), zB⟩

/-! ### spec_l1Num: function 31 -/
def spec_l1Num.f : Nat → Int → Option (ByteArray)
 | 0, _ => none
 | k + 1, a0 => if a0 < 0 then ((spec_l1Num.f k (wrap64 (-a0))).bind fun t156 => (if 1 + t156.size ≤ 9223372036854775807 then (some ((⟨#[45]⟩ : ByteArray) ++ t156)) else (none))) else (if a0 < 10 then (if 0 ≤ a0 then (if a0 ≤ (wrap64 (a0 + 1)) then (if (wrap64 (a0 + 1)) ≤ 10 then (some ((⟨#[48, 49, 50, 51, 52, 53, 54, 55, 56, 57]⟩ : ByteArray).extract (a0 : Int).toNat ((wrap64 (a0 + 1)) : Int).toNat)) else (none)) else (none)) else (none)) else ((spec_l1Num.f k (wrap64 (Int.tdiv a0 10))).bind fun t157 => (if 0 ≤ (Int.tmod a0 10) then (if (Int.tmod a0 10) ≤ (wrap64 ((Int.tmod a0 10) + 1)) then (if (wrap64 ((Int.tmod a0 10) + 1)) ≤ 10 then (if t157.size + ((⟨#[48, 49, 50, 51, 52, 53, 54, 55, 56, 57]⟩ : ByteArray).extract ((Int.tmod a0 10) : Int).toNat ((wrap64 ((Int.tmod a0 10) + 1)) : Int).toNat).size ≤ 9223372036854775807 then (some (t157 ++ ((⟨#[48, 49, 50, 51, 52, 53, 54, 55, 56, 57]⟩ : ByteArray).extract ((Int.tmod a0 10) : Int).toNat ((wrap64 ((Int.tmod a0 10) + 1)) : Int).toNat))) else (none)) else (none)) else (none)) else (none))))
def spec_l1Num.T5 : Bool × List (List Nat × List Nat) := (true, [([], []), ([0], [0]), ([1], [1]), ([], []), ([3], [3]), ([], []), ([5], [5]), ([6], [6]), ([4, 7], [4, 7]), ([2, 8], [2, 8]), ([9, 2, 0, 1, 2, 3, 4, 5, 6, 7, 8, 9], [9])])
def spec_l1Num.B5 : List Nat := [0, 1, 3, 0, 8, 0, 32, 96, 248, 511, 1023]
theorem spec_l1Num.tab5 : rtab .any (opsOf Tryd.f31 5) = spec_l1Num.T5 := by kernel_rfl
theorem spec_l1Num.bits5 : waitsOk spec_l1Num.T5.2 spec_l1Num.B5 = true := by kernel_rfl
set_option maxHeartbeats 8000000 in
set_option maxRecDepth 100000 in
theorem spec_l1Num.calls (k : Nat) : ∀ (a0 : Int) (r : ByteArray) (w : World) (h : spec_l1Num.f k a0 = some r),
 Calls Tryd.prog 31 #[.int .i64 a0] w fun e w' => e = .returned (.string r) ∧ Below w.heap.size w w' := by
 induction k using Nat.strongRecOn with
 | _ k ih =>
 intro a0 r w h
 cases k with
 | zero => exact absurd h (by simp [spec_l1Num.f])
 | succ k =>
 simp only [spec_l1Num.f] at h
 have HB := zM (Below.refl w.heap.size w)
 have H : (if a0 < 0 then ((spec_l1Num.f k (wrap64 (-a0))).bind fun t156 => (if 1 + t156.size ≤ 9223372036854775807 then (some ((⟨#[45]⟩ : ByteArray) ++ t156)) else (none))) else (if a0 < 10 then (if 0 ≤ a0 then (if a0 ≤ (wrap64 (a0 + 1)) then (if (wrap64 (a0 + 1)) ≤ 10 then (some ((⟨#[48, 49, 50, 51, 52, 53, 54, 55, 56, 57]⟩ : ByteArray).extract (a0 : Int).toNat ((wrap64 (a0 + 1)) : Int).toNat)) else (none)) else (none)) else (none)) else ((spec_l1Num.f k (wrap64 (Int.tdiv a0 10))).bind fun t157 => (if 0 ≤ (Int.tmod a0 10) then (if (Int.tmod a0 10) ≤ (wrap64 ((Int.tmod a0 10) + 1)) then (if (wrap64 ((Int.tmod a0 10) + 1)) ≤ 10 then (if t157.size + ((⟨#[48, 49, 50, 51, 52, 53, 54, 55, 56, 57]⟩ : ByteArray).extract ((Int.tmod a0 10) : Int).toNat ((wrap64 ((Int.tmod a0 10) + 1)) : Int).toNat).size ≤ 9223372036854775807 then (some (t157 ++ ((⟨#[48, 49, 50, 51, 52, 53, 54, 55, 56, 57]⟩ : ByteArray).extract ((Int.tmod a0 10) : Int).toNat ((wrap64 ((Int.tmod a0 10) + 1)) : Int).toNat))) else (none)) else (none)) else (none)) else (none))))) = some r := h
 clear h
 by_cases c2 : a0 < 0
 · rw [if_pos c2] at H
   have c2b0 := decide_eq_true c2
   clear c2
   replace H := Option.bind_eq_some_iff.mp H
   obtain ⟨t156, A30, H⟩ := H
   have A3 := Aside0.mk A30
   clear A30
   by_cases c4 : 1 + t156.size ≤ 9223372036854775807
   · rw [if_pos c4] at H
     have c4b0 := eq_true c4
     have c4b1 : decide (1 + t156.size ≤ 9223372036854775807) = true := decide_eq_true c4
     try have c4b2 : (9223372036854775807 < 1 + t156.size) = False := eq_false (Nat.not_lt.2 c4)
     obtain rfl := Option.some.inj H
     go_enter Tryd.func31, Tryd.ntmps31
     go_wp2_with (first | ((with_reducible refine gate_callee (f := 31) rfl ?_); refine zc 7 Tryd.func31 #[.int .i64 (wrap64 (-a0))] ?_; (with_reducible refine (ih k (by omega) (wrap64 (-a0)) t156 _ A3.out).mono ?_); rintro e w5 ⟨rfl, hb⟩; refine ⟨_, rfl, ?_⟩; replace HB := zM (below_step zB hb); (try clear hb); (try clear hb2); (try clear hk); (try clear hi)))
     go_ret
     exact ⟨by first | rfl | (simp [errW_none, errW_some] <;> rfl) | (simp [*, errW_none, errW_some] <;> rfl), zB⟩
   · rw [if_neg c4] at H
     exact absurd H (by simp)
 · rw [if_neg c2] at H
   have c2b0 : decide (a0 < 0) = false := decide_eq_false c2
   clear c2
   by_cases c6 : a0 < 10
   · rw [if_pos c6] at H
     have c6b0 := decide_eq_true c6
     clear c6
     by_cases c7 : 0 ≤ a0
     · rw [if_pos c7] at H
       have c7b0 := eq_true c7
       have c7b1 : decide (0 ≤ a0) = true := decide_eq_true c7
       clear c7
       by_cases c8 : a0 ≤ (wrap64 (a0 + 1))
       · rw [if_pos c8] at H
         have c8b0 := eq_true c8
         have c8b1 : decide (a0 ≤ (wrap64 (a0 + 1))) = true := decide_eq_true c8
         by_cases c9 : (wrap64 (a0 + 1)) ≤ 10
         · rw [if_pos c9] at H
           have c9b0 := eq_true c9
           have c9b1 : decide ((wrap64 (a0 + 1)) ≤ 10) = true := decide_eq_true c9
           obtain rfl := Option.some.inj H
           go_enter Tryd.func31, Tryd.ntmps31
           go_wp2
           go_ret
           exact ⟨by first | rfl | (simp [errW_none, errW_some] <;> rfl) | (simp [*, errW_none, errW_some] <;> rfl), zB⟩
         · rw [if_neg c9] at H
           exact absurd H (by simp)
       · rw [if_neg c8] at H
         exact absurd H (by simp)
     · rw [if_neg c7] at H
       exact absurd H (by simp)
   · rw [if_neg c6] at H
     have c6b0 : decide (a0 < 10) = false := decide_eq_false c6
     clear c6
     replace H := Option.bind_eq_some_iff.mp H
     obtain ⟨t157, A100, H⟩ := H
     have A10 := Aside0.mk A100
     clear A100
     obtain ⟨ji11, hji11⟩ : ∃ j_ : Int, (Int.tmod a0 10) = j_ := ⟨_, rfl⟩
     replace H : (if 0 ≤ (ji11) then (if (ji11) ≤ (wrap64 ((ji11) + 1)) then (if (wrap64 ((ji11) + 1)) ≤ 10 then (if t157.size + ((⟨#[48, 49, 50, 51, 52, 53, 54, 55, 56, 57]⟩ : ByteArray).extract ((ji11) : Int).toNat ((wrap64 ((ji11) + 1)) : Int).toNat).size ≤ 9223372036854775807 then (some (t157 ++ ((⟨#[48, 49, 50, 51, 52, 53, 54, 55, 56, 57]⟩ : ByteArray).extract ((ji11) : Int).toNat ((wrap64 ((ji11) + 1)) : Int).toNat))) else (none)) else (none)) else (none)) else (none)) = some r := by first | (rw [hji11] at H; exact H) | (simp only [hji11] at H ⊢; exact H)
     (try rw [hji11] at A10)
     by_cases c12 : 0 ≤ (ji11)
     · rw [if_pos c12] at H
       have c12b0 := eq_true c12
       have c12b1 : decide (0 ≤ (ji11)) = true := decide_eq_true c12
       clear c12
       by_cases c13 : (ji11) ≤ (wrap64 ((ji11) + 1))
       · rw [if_pos c13] at H
         have c13b0 := eq_true c13
         have c13b1 : decide ((ji11) ≤ (wrap64 ((ji11) + 1))) = true := decide_eq_true c13
         by_cases c14 : (wrap64 ((ji11) + 1)) ≤ 10
         · rw [if_pos c14] at H
           have c14b0 := eq_true c14
           have c14b1 : decide ((wrap64 ((ji11) + 1)) ≤ 10) = true := decide_eq_true c14
           by_cases c15 : t157.size + ((⟨#[48, 49, 50, 51, 52, 53, 54, 55, 56, 57]⟩ : ByteArray).extract ((ji11) : Int).toNat ((wrap64 ((ji11) + 1)) : Int).toNat).size ≤ 9223372036854775807
           · rw [if_pos c15] at H
             have c15b0 := eq_true c15
             have c15b1 : decide (t157.size + ((⟨#[48, 49, 50, 51, 52, 53, 54, 55, 56, 57]⟩ : ByteArray).extract ((ji11) : Int).toNat ((wrap64 ((ji11) + 1)) : Int).toNat).size ≤ 9223372036854775807) = true := decide_eq_true c15
             try have c15b2 : (9223372036854775807 < t157.size + ((⟨#[48, 49, 50, 51, 52, 53, 54, 55, 56, 57]⟩ : ByteArray).extract ((ji11) : Int).toNat ((wrap64 ((ji11) + 1)) : Int).toNat).size) = False := eq_false (Nat.not_lt.2 c15)
             have c15b3 : (9223372036854775807 < t157.size + ((wrap64 ((ji11) + 1)).toNat - (ji11).toNat)) = False := eq_false (by have h_ := c15; simp [show (⟨#[48, 49, 50, 51, 52, 53, 54, 55, 56, 57]⟩ : ByteArray).size = 10 from rfl] at h_; have h2_ := c14; omega)
             obtain rfl := Option.some.inj H
             go_enter Tryd.func31, Tryd.ntmps31
             try go_wp2
             replace HB := zM (below_drew1 HB.out)
             refine zs (n := 11) (fun w' => True) trivial (fun hHeld => ?_); refine with_tabW spec_l1Num.tab5 spec_l1Num.bits5 (fun HT_ HW_ => ?_)
             generalize w.drew = w16 at HB hHeld ⊢
             refine zp HT_ 0 15 ?_
             refine zp HT_ 1 16 ?_
             refine zp HT_ 3 18 ?_
             refine zp HT_ 4 19 ?_
             refine zp HT_ 5 20 ?_
             refine zp HT_ 6 21 ?_
             refine zp HT_ 7 22 ?_
             refine zp HT_ 8 23 ?_
             refine zg HT_ 2 17 Tryd.func31 #[.int .i64 (wrap64 (Int.tdiv a0 10))] (fun K hK => ?_)
             with_reducible refine (ih k (by omega) (wrap64 (Int.tdiv a0 10)) t157 _ A10.out).mono ?_
             rintro e w17 ⟨rfl, hb⟩
             refine ⟨_, rfl, ?_⟩
             replace HB := zM (below_step zB hb)
             (try clear hb)
             (try clear hb2)
             (try clear hk)
             (try clear hi)
             refine hK.out _ _ trivial (fun hHeld => ?_)
             clear hK K
             refine zn 17 ?_
             refine zp HT_ 9 24 ?_
             refine zp HT_ 10 2 ?_
             refine zo HT_ ?_
             try go_wp2
             go_ret
             exact ⟨by first | rfl | (simp [errW_none, errW_some] <;> rfl) | (simp only [← hji11]; first | rfl | (simp [errW_none, errW_some] <;> rfl)) | (simp [*, errW_none, errW_some] <;> rfl), zB⟩
           · rw [if_neg c15] at H
             exact absurd H (by simp)
         · rw [if_neg c14] at H
           exact absurd H (by simp)
       · rw [if_neg c13] at H
         exact absurd H (by simp)
     · rw [if_neg c12] at H
       exact absurd H (by simp)

/-! ### spec_l2Text: function 16 -/
def spec_l2Text.l0 : Nat → ByteArray → Int → Int → List (S41) → Option (ByteArray)
 | 0, _, _, _, _ => none
 | k + 1, x3, x4, x159000, x159001 => if x4 < (x159001.length : Int) then (if x3.size + 1 ≤ 9223372036854775807 then (if 0 ≤ x4 then ((spec_l1Num.f k ((rd_T41 x159001 x4).f0)).bind fun t161 => (if (x3 ++ (⟨#[32]⟩ : ByteArray)).size + t161.size ≤ 9223372036854775807 then (if ((x3 ++ (⟨#[32]⟩ : ByteArray)) ++ t161).size + 1 ≤ 9223372036854775807 then ((spec_l1Num.f k ((rd_T41 x159001 x4).f1)).bind fun t163 => (if (((x3 ++ (⟨#[32]⟩ : ByteArray)) ++ t161) ++ (⟨#[45]⟩ : ByteArray)).size + t163.size ≤ 9223372036854775807 then (spec_l2Text.l0 k ((((x3 ++ (⟨#[32]⟩ : ByteArray)) ++ t161) ++ (⟨#[45]⟩ : ByteArray)) ++ t163) (wrap64 (x4 + 1)) x159000 x159001) else (none))) else (none)) else (none))) else (none)) else (none)) else (some x3)
def spec_l2Text.f (k : Nat) (a0_0 : Int) (l0_1 : List (S41)) : Option (ByteArray) := (spec_l1Num.f k a0_0).bind fun t159 => (spec_l2Text.l0 k t159 0 a0_0 l0_1)
def spec_l2Text.T5 : Bool × List (List Nat × List Nat) := (true, [([], []), ([0], [0]), ([], []), ([2], [2]), ([], []), ([3, 4], [3, 4]), ([5], [5]), ([6], [6]), ([7], [7]), ([1, 8], [1, 8]), ([9], [9]), ([], []), ([11], [11]), ([], []), ([12, 13], [12, 13]), ([14], [14]), ([15], [15]), ([16, 8], [16]), ([10, 17], [10, 17]), ([18, 17, 0, 1, 2, 3, 4, 5, 6, 7, 8, 9, 10, 11, 12, 13, 14, 15, 16, 17, 18], [0, 18])])
def spec_l2Text.B5 : List Nat := [0, 1, 0, 4, 0, 28, 60, 124, 252, 511, 1023, 0, 2048, 0, 14336, 30720, 63488, 129532, 262143, 524287]
theorem spec_l2Text.tab5 : rtab .any (opsOf Tryd.f16 5) = spec_l2Text.T5 := by kernel_rfl
theorem spec_l2Text.bits5 : waitsOk spec_l2Text.T5.2 spec_l2Text.B5 = true := by kernel_rfl
set_option maxHeartbeats 8000000 in
set_option maxRecDepth 100000 in
theorem spec_l2Text.calls (k : Nat) (a0_0 : Int) (A0_1 : Option Addr) (c0_1 : Nat) (l0_1 : List (S41)) (r : ByteArray) (w : World) (hr0_1 : Kd.C k41 w A0_1 l0_1.length l0_1) (hc0_1 : l0_1.length ≤ c0_1) (h : spec_l2Text.f k a0_0 l0_1 = some r) :
 Calls Tryd.prog 16 #[.agg #[.int .i64 a0_0, .slice A0_1 l0_1.length c0_1]] w fun e w' => e = .returned (.string r) ∧ Below w.heap.size w w' := by
 have hu28 := Tryd.underlying28
 have HR0_1 := Aside0.mk hr0_1
 have HC0_1 := Aside0.mk hc0_1
 clear hr0_1 hc0_1
 have HB := zM (Below.refl w.heap.size w)
 have H : ((spec_l1Num.f k a0_0).bind fun t159 => (spec_l2Text.l0 k t159 0 a0_0 l0_1)) = some r := h
 clear h
 replace H := Option.bind_eq_some_iff.mp H
 obtain ⟨t159, A20, H⟩ := H
 have A2 := Aside0.mk A20
 clear A20
 have H' := Aside0.mk H
 clear H
 go_enter Tryd.func16, Tryd.ntmps16
 go_wp2_with (first | ((with_reducible refine gate_dst (N := 1) rfl ?_); refine zb (w := w) 1 #[.int .i64 a0_0, .slice A0_1 l0_1.length c0_1] 28 zB ?_; clear HB; intro gb158 w3 HB BK158 GW158; have GE158 := GW158; have hcz4_0 := zy BK158 0; have hcz4_1 := zy BK158 1; have hfz4_0 := blk_frozen BK158.out 0; have hfz4_1 := blk_frozen BK158.out 1) | ((with_reducible refine gate_callee (f := 31) rfl ?_); refine zc 7 Tryd.func31 #[.int .i64 a0_0] ?_; (with_reducible refine (spec_l1Num.calls k a0_0 t159 _ A2.out).mono ?_); rintro e w5 ⟨rfl, hb⟩; refine ⟨_, rfl, ?_⟩; replace BK158 := zM (blk_below (g := gb158) (o := .cells #[.int .i64 a0_0, .slice A0_1 l0_1.length c0_1] 28 (0, 0)) (zK BK158.out) hb); replace HB := zM (below_step zB hb); (try clear hb); (try clear hb2); (try clear hk); (try clear hi)))
 go_loopg [3, 4] k (fun kq v3 v4 w' => ∃ (x3_1 : ByteArray) (x4_1 : Int), v3 = .string x3_1 ∧ v4 = .int .i64 x4_1 ∧ Aside0 (spec_l2Text.l0 kq x3_1 x4_1 a0_0 l0_1 = some r) ∧ Aside0 (kq ≤ k) ∧ Aside0 (w'.heap[gb158]? = some (.cells #[.int .i64 a0_0, (.slice A0_1 l0_1.length c0_1)] 28 (0, 0))) ∧ Aside0 (Below w.heap.size w w'))
 case atStart => exact ⟨(t159), (0), (by first | rfl | (simp; done) | (simp [*]; done)), (by first | rfl | (simp; done) | (simp [*]; done)), H', ⟨Nat.le_refl _⟩, ⟨zK BK158.out⟩, ⟨zB⟩⟩
 case round =>
  clear H'
  try clear c1
  try clear p2
  try clear c3
  try clear hcz4_0
  try clear hcz4_1
  try clear hfz4_0
  try clear hfz4_1
  obtain ⟨x3_1, x4_1, rfl, rfl, HA, HK1, BK158, HB⟩ := hrel
  cases gk with
  | zero => exact absurd HA.out (by simp [spec_l2Text.l0])
  | succ k1 =>
   have H := HA.out
   clear HA
   simp only [spec_l2Text.l0] at H
   by_cases c6 : x4_1 < (l0_1.length : Int)
   · rw [if_pos c6] at H
     have c6b0 := decide_eq_true c6
     clear c6
     by_cases c7 : x3_1.size + 1 ≤ 9223372036854775807
     · rw [if_pos c7] at H
       have c7b0 := eq_true c7
       have c7b1 : decide (x3_1.size + 1 ≤ 9223372036854775807) = true := decide_eq_true c7
       try have c7b2 : (9223372036854775807 < x3_1.size + 1) = False := eq_false (Nat.not_lt.2 c7)
       by_cases c8 : 0 ≤ x4_1
       · rw [if_pos c8] at H
         have c8b0 := decide_eq_true c8
         clear c8
         replace H := Option.bind_eq_some_iff.mp H
         obtain ⟨t161, A90, H⟩ := H
         have A9 := Aside0.mk A90
         clear A90
         by_cases c10 : (x3_1 ++ (⟨#[32]⟩ : ByteArray)).size + t161.size ≤ 9223372036854775807
         · rw [if_pos c10] at H
           have c10b0 := eq_true c10
           have c10b1 : decide ((x3_1 ++ (⟨#[32]⟩ : ByteArray)).size + t161.size ≤ 9223372036854775807) = true := decide_eq_true c10
           try have c10b2 : (9223372036854775807 < (x3_1 ++ (⟨#[32]⟩ : ByteArray)).size + t161.size) = False := eq_false (Nat.not_lt.2 c10)
           have c10b9 : (9223372036854775807 < x3_1.size + 1 + t161.size) = False := eq_false (by have h_ := c10; simp only [ByteArray.size_append, show (⟨#[32]⟩ : ByteArray).size = 1 from rfl, show (⟨#[35]⟩ : ByteArray).size = 1 from rfl, show (⟨#[45]⟩ : ByteArray).size = 1 from rfl] at h_; omega)
           by_cases c11 : ((x3_1 ++ (⟨#[32]⟩ : ByteArray)) ++ t161).size + 1 ≤ 9223372036854775807
           · rw [if_pos c11] at H
             have c11b0 := eq_true c11
             have c11b1 : decide (((x3_1 ++ (⟨#[32]⟩ : ByteArray)) ++ t161).size + 1 ≤ 9223372036854775807) = true := decide_eq_true c11
             try have c11b2 : (9223372036854775807 < ((x3_1 ++ (⟨#[32]⟩ : ByteArray)) ++ t161).size + 1) = False := eq_false (Nat.not_lt.2 c11)
             have c11b9 : (9223372036854775807 < x3_1.size + 1 + t161.size + 1) = False := eq_false (by have h_ := c11; simp only [ByteArray.size_append, show (⟨#[32]⟩ : ByteArray).size = 1 from rfl, show (⟨#[35]⟩ : ByteArray).size = 1 from rfl, show (⟨#[45]⟩ : ByteArray).size = 1 from rfl] at h_; omega)
             replace H := Option.bind_eq_some_iff.mp H
             obtain ⟨t163, A120, H⟩ := H
             have A12 := Aside0.mk A120
             clear A120
             by_cases c13 : (((x3_1 ++ (⟨#[32]⟩ : ByteArray)) ++ t161) ++ (⟨#[45]⟩ : ByteArray)).size + t163.size ≤ 9223372036854775807
             · rw [if_pos c13] at H
               have c13b0 := eq_true c13
               have c13b1 : decide ((((x3_1 ++ (⟨#[32]⟩ : ByteArray)) ++ t161) ++ (⟨#[45]⟩ : ByteArray)).size + t163.size ≤ 9223372036854775807) = true := decide_eq_true c13
               try have c13b2 : (9223372036854775807 < (((x3_1 ++ (⟨#[32]⟩ : ByteArray)) ++ t161) ++ (⟨#[45]⟩ : ByteArray)).size + t163.size) = False := eq_false (Nat.not_lt.2 c13)
               have c13b9 : (9223372036854775807 < x3_1.size + 1 + t161.size + 1 + t163.size) = False := eq_false (by have h_ := c13; simp only [ByteArray.size_append, show (⟨#[32]⟩ : ByteArray).size = 1 from rfl, show (⟨#[35]⟩ : ByteArray).size = 1 from rfl, show (⟨#[45]⟩ : ByteArray).size = 1 from rfl] at h_; omega)
               have H' := Aside0.mk H
               clear H
               have hcz14_0 := zy BK158 0
               have hcz14_1 := zy BK158 1
               have hfz14_0 := blk_frozen BK158.out 0
               have hfz14_1 := blk_frozen BK158.out 1
               try go_wp2
               replace BK158 := zM (blk_drew BK158.out)
               replace HB := zM (below_drew1 HB.out)
               have p160 : 0 ≤ (x4_1 : Int) := of_decide_eq_true zA
               have q160 : x4_1 < (l0_1.length : Int) := of_decide_eq_true zA
               obtain ⟨ad160, e160, hx160_0, hx160_1⟩ := at_T41 HR0_1.out x4_1 p160 q160
               have hw160_1 := hx160_1
               have hw160_0 := hx160_0
               cases e160
               (try replace hx160_0 := (HB.out.cell (World.block_lt_of_cell? w _ hx160_0)).trans hx160_0)
               (try replace hx160_1 := (HB.out.cell (World.block_lt_of_cell? w _ hx160_1)).trans hx160_1)
               replace p160 := eq_true p160
               replace q160 := eq_true q160
               have p162 : 0 ≤ (x4_1 : Int) := of_decide_eq_true zA
               have q162 : x4_1 < (l0_1.length : Int) := of_decide_eq_true zA
               obtain ⟨ad162, e162, hx162_0, hx162_1⟩ := at_T41 HR0_1.out x4_1 p162 q162
               have hw162_1 := hx162_1
               have hw162_0 := hx162_0
               obtain rfl : ad160 = ad162 := (by injection e162)
               (try replace hx162_0 := (HB.out.cell (World.block_lt_of_cell? w _ hx162_0)).trans hx162_0)
               (try replace hx162_1 := (HB.out.cell (World.block_lt_of_cell? w _ hx162_1)).trans hx162_1)
               replace p162 := eq_true p162
               replace q162 := eq_true q162
               refine zs (n := 20) (fun w' => w'.cell? ⟨gb158, 0, none⟩ = some (.int .i64 a0_0) ∧ w'.cell? ⟨gb158, 1, none⟩ = some (.slice (some ad160) l0_1.length c0_1) ∧ w'.cell? (ad160.add ((x4_1).toNat * 2)) = some (.int .i64 ((rd_T41 l0_1 x4_1).f0)) ∧ w'.cell? ⟨(ad160.add ((x4_1).toNat * 2)).block, (ad160.add ((x4_1).toNat * 2)).off + 1, none⟩ = some (.int .i64 ((rd_T41 l0_1 x4_1).f1)) ∧ w'.cell? (ad160.add ((x4_1).toNat * 2)) = some (.int .i64 ((rd_T41 l0_1 x4_1).f0)) ∧ w'.cell? ⟨(ad160.add ((x4_1).toNat * 2)).block, (ad160.add ((x4_1).toNat * 2)).off + 1, none⟩ = some (.int .i64 ((rd_T41 l0_1 x4_1).f1))) ⟨(blk_cell BK158.out 0).trans rfl, (blk_cell BK158.out 1).trans rfl, ((HB.out.cell (World.block_lt_of_cell? w _ hw160_0)).trans hw160_0), ((HB.out.cell (World.block_lt_of_cell? w _ hw160_1)).trans hw160_1), ((HB.out.cell (World.block_lt_of_cell? w _ hw162_0)).trans hw162_0), ((HB.out.cell (World.block_lt_of_cell? w _ hw162_1)).trans hw162_1)⟩ (fun hHeld => ?_); refine with_tabW spec_l2Text.tab5 spec_l2Text.bits5 (fun HT_ HW_ => ?_)
               generalize wr.drew = w15 at BK158 HB hx160_0 hx160_1 hx162_0 hx162_1 hHeld ⊢
               refine zp HT_ 0 15 ?_
               refine zp HT_ 1 16 ?_
               refine zp HT_ 2 17 ?_
               refine zp HT_ 4 19 ?_
               refine zp HT_ 11 26 ?_
               refine zp HT_ 13 28 ?_
               refine zt HT_ HW_ 3 18 hHeld ?_ (hy := by rintro w' ⟨s0, s1, s2, s3, s4, s5⟩; go_simp; with_reducible rfl)
               refine zp HT_ 5 20 ?_
               refine zp HT_ 6 21 ?_
               refine zt HT_ HW_ 7 22 hHeld ?_ (hy := by rintro w' ⟨s0, s1, s2, s3, s4, s5⟩; go_simp; with_reducible rfl)
               refine zt HT_ HW_ 12 27 hHeld ?_ (hy := by rintro w' ⟨s0, s1, s2, s3, s4, s5⟩; go_simp; with_reducible rfl)
               refine zp HT_ 14 29 ?_
               refine zp HT_ 15 30 ?_
               refine zt HT_ HW_ 16 31 hHeld ?_ (hy := by rintro w' ⟨s0, s1, s2, s3, s4, s5⟩; go_simp; with_reducible rfl)
               refine zg HT_ 8 23 Tryd.func31 #[.int .i64 ((rd_T41 l0_1 x4_1).f0)] (fun K hK => ?_)
               with_reducible refine (spec_l1Num.calls k1 ((rd_T41 l0_1 x4_1).f0) t161 _ A9.out).mono ?_
               rintro e w16 ⟨rfl, hb⟩
               refine ⟨_, rfl, ?_⟩
               replace BK158 := zM (blk_below (g := gb158) (o := .cells #[.int .i64 a0_0, .slice (some ad160) l0_1.length c0_1] 28 (0, 0)) (zK BK158.out) hb)
               replace HB := zM (below_step zB hb)
               (try clear hb)
               (try clear hb2)
               (try clear hk)
               (try clear hi)
               refine hK.out _ _ ⟨(blk_cell BK158.out 0).trans rfl, (blk_cell BK158.out 1).trans rfl, ((HB.out.cell (World.block_lt_of_cell? w _ hw160_0)).trans hw160_0), ((HB.out.cell (World.block_lt_of_cell? w _ hw160_1)).trans hw160_1), ((HB.out.cell (World.block_lt_of_cell? w _ hw162_0)).trans hw162_0), ((HB.out.cell (World.block_lt_of_cell? w _ hw162_1)).trans hw162_1)⟩ (fun hHeld => ?_)
               clear hK K
               refine zn 23 ?_
               refine zp HT_ 9 24 ?_
               refine zp HT_ 10 25 ?_
               refine zg HT_ 17 32 Tryd.func31 #[.int .i64 ((rd_T41 l0_1 x4_1).f1)] (fun K hK => ?_)
               with_reducible refine (spec_l1Num.calls k1 ((rd_T41 l0_1 x4_1).f1) t163 _ A12.out).mono ?_
               rintro e w17 ⟨rfl, hb⟩
               refine ⟨_, rfl, ?_⟩
               replace BK158 := zM (blk_below (g := gb158) (o := .cells #[.int .i64 a0_0, .slice (some ad160) l0_1.length c0_1] 28 (0, 0)) (zK BK158.out) hb)
               replace HB := zM (below_step zB hb)
               (try clear hb)
               (try clear hb2)
               (try clear hk)
               (try clear hi)
               refine hK.out _ _ ⟨(blk_cell BK158.out 0).trans rfl, (blk_cell BK158.out 1).trans rfl, ((HB.out.cell (World.block_lt_of_cell? w _ hw160_0)).trans hw160_0), ((HB.out.cell (World.block_lt_of_cell? w _ hw160_1)).trans hw160_1), ((HB.out.cell (World.block_lt_of_cell? w _ hw162_0)).trans hw162_0), ((HB.out.cell (World.block_lt_of_cell? w _ hw162_1)).trans hw162_1)⟩ (fun hHeld => ?_)
               clear hK K
               refine zn 32 ?_
               refine zp HT_ 18 33 ?_
               refine zp HT_ 19 3 ?_
               refine zo HT_ ?_
               try go_wp2
               go_roundg k1
               case measure => have := HK1.out; omega
               case rel => exact ⟨((((x3_1 ++ (⟨#[32]⟩ : ByteArray)) ++ t161) ++ (⟨#[45]⟩ : ByteArray)) ++ t163), (wrap64 (x4_1 + 1)), (by first | rfl | (simp; done) | (simp [*]; done)), (by first | rfl | (simp; done) | (simp [*]; done)), H', ⟨by have := HK1.out; omega⟩, ⟨zK BK158.out⟩, ⟨zB⟩⟩
             · rw [if_neg c13] at H
               exact absurd H (by simp)
           · rw [if_neg c11] at H
             exact absurd H (by simp)
         · rw [if_neg c10] at H
           exact absurd H (by simp)
       · rw [if_neg c8] at H
         exact absurd H (by simp)
     · rw [if_neg c7] at H
       exact absurd H (by simp)
   · rw [if_neg c6] at H
     have c6b0 : decide (x4_1 < (l0_1.length : Int)) = false := decide_eq_false c6
     clear c6
     obtain rfl := Option.some.inj H
     have hcz18_0 := zy BK158 0
     have hcz18_1 := zy BK158 1
     have hfz18_0 := blk_frozen BK158.out 0
     have hfz18_1 := blk_frozen BK158.out 1
     go_wp2
     go_ret
     exact ⟨by first | rfl | (simp [errW_none, errW_some] <;> rfl) | (simp [*, errW_none, errW_some] <;> rfl), zB⟩

/-! ### spec_GraphText: function 6 -/
def spec_GraphText.f (k : Nat) (a0_0 : Int) (l0_1 : List (S41)) : Option (ByteArray × Bool) := (spec_l2Good.f k a0_0 l0_1).bind fun t165 => (if t165 = true then ((spec_l2Text.f k a0_0 l0_1).bind fun t166 => (some (t166, true))) else (some ((⟨#[]⟩ : ByteArray), false)))
set_option maxHeartbeats 8000000 in
set_option maxRecDepth 100000 in
theorem spec_GraphText.calls (k : Nat) (a0_0 : Int) (A0_1 : Option Addr) (c0_1 : Nat) (l0_1 : List (S41)) (r1 : ByteArray) (r2 : Bool) (w : World) (hr0_1 : Kd.C k41 w A0_1 l0_1.length l0_1) (hc0_1 : l0_1.length ≤ c0_1) (h : spec_GraphText.f k a0_0 l0_1 = some (r1, r2)) :
 Calls Tryd.prog 6 #[.agg #[.int .i64 a0_0, .slice A0_1 l0_1.length c0_1]] w fun e w' => e = .returned (.tuple #[.string r1, .bool r2]) ∧ Below w.heap.size w w' := by
 have hu28 := Tryd.underlying28
 have HR0_1 := Aside0.mk hr0_1
 have HC0_1 := Aside0.mk hc0_1
 clear hr0_1 hc0_1
 have HB := zM (Below.refl w.heap.size w)
 have H : ((spec_l2Good.f k a0_0 l0_1).bind fun t165 => (if t165 = true then ((spec_l2Text.f k a0_0 l0_1).bind fun t166 => (some (t166, true))) else (some ((⟨#[]⟩ : ByteArray), false)))) = some (r1, r2) := h
 clear h
 replace H := Option.bind_eq_some_iff.mp H
 obtain ⟨t165, A20, H⟩ := H
 replace H : (if t165 = true then ((spec_l2Text.f k a0_0 l0_1).bind fun t166 => (some (t166, true))) else (some ((⟨#[]⟩ : ByteArray), false))) = some (r1, r2) := H
 have A2 := Aside0.mk A20
 clear A20
 by_cases c3 : t165 = true
 · subst c3
   have H1 : ((spec_l2Text.f k a0_0 l0_1).bind fun t166 => (some (t166, true))) = some (r1, r2) := by rw [if_pos rfl] at H; exact H
   clear H
   have H := H1
   clear H1
   replace H := Option.bind_eq_some_iff.mp H
   obtain ⟨t166, A40, H⟩ := H
   replace H : (some (t166, true)) = some (r1, r2) := H
   have A4 := Aside0.mk A40
   clear A40
   simp only [Option.some.injEq, Prod.mk.injEq] at H
   obtain ⟨rfl, rfl⟩ := H
   go_enter Tryd.func6, Tryd.ntmps6
   go_wp2_with (first | ((with_reducible refine gate_dst (N := 1) rfl ?_); refine zb (w := w) 1 #[.int .i64 a0_0, .slice A0_1 l0_1.length c0_1] 28 zB ?_; clear HB; intro gb164 w5 HB BK164 GW164; have GE164 := GW164; have hcz6_0 := zy BK164 0; have hcz6_1 := zy BK164 1; have hfz6_0 := blk_frozen BK164.out 0; have hfz6_1 := blk_frozen BK164.out 1) | ((with_reducible refine gate_callee (f := 15) rfl ?_); refine zc 5 Tryd.func15 #[.agg #[.int .i64 a0_0, .slice A0_1 l0_1.length c0_1]] ?_; (with_reducible refine (spec_l2Good.calls k a0_0 _ _ l0_1 true _ ?side1 ?side2 A2.out).mono ?_); (case side1 => exact zC (Kd.C_below HR0_1.out HB.out)); (case side2 => exact HC0_1.out); rintro e w7 ⟨rfl, hb⟩; refine ⟨_, rfl, ?_⟩; replace BK164 := zM (blk_below (g := gb164) (o := .cells #[.int .i64 a0_0, .slice A0_1 l0_1.length c0_1] 28 (0, 0)) (zK BK164.out) hb); replace HB := zM (below_step zB hb); (try clear hb); (try clear hb2); (try clear hk); (try clear hi); have hcz8_0 := zy BK164 0; have hcz8_1 := zy BK164 1; have hfz8_0 := blk_frozen BK164.out 0; have hfz8_1 := blk_frozen BK164.out 1) | ((with_reducible refine gate_callee (f := 16) rfl ?_); refine zc 8 Tryd.func16 #[.agg #[.int .i64 a0_0, .slice A0_1 l0_1.length c0_1]] ?_; (with_reducible refine (spec_l2Text.calls k a0_0 _ _ l0_1 t166 _ ?side1 ?side2 A4.out).mono ?_); (case side1 => exact zC (Kd.C_below HR0_1.out HB.out)); (case side2 => exact HC0_1.out); rintro e w9 ⟨rfl, hb⟩; refine ⟨_, rfl, ?_⟩; replace BK164 := zM (blk_below (g := gb164) (o := .cells #[.int .i64 a0_0, .slice A0_1 l0_1.length c0_1] 28 (0, 0)) (zK BK164.out) hb); replace HB := zM (below_step zB hb); (try clear hb); (try clear hb2); (try clear hk); (try clear hi)))
   go_ret2
   exact ⟨by first | rfl | (simp [errW_none, errW_some] <;> rfl) | (simp [*, errW_none, errW_some] <;> rfl), zB⟩
 · replace c3 := Bool.eq_false_iff.mpr c3
   subst c3
   have H1 : (some ((⟨#[]⟩ : ByteArray), false)) = some (r1, r2) := by rw [if_neg (show ¬ (false = true) by decide)] at H; exact H
   clear H
   have H := H1
   clear H1
   simp only [Option.some.injEq, Prod.mk.injEq] at H
   obtain ⟨rfl, rfl⟩ := H
   go_enter Tryd.func6, Tryd.ntmps6
   go_wp2_with (first | ((with_reducible refine gate_dst (N := 1) rfl ?_); refine zb (w := w) 1 #[.int .i64 a0_0, .slice A0_1 l0_1.length c0_1] 28 zB ?_; clear HB; intro gb164 w10 HB BK164 GW164; have GE164 := GW164; have hcz11_0 := zy BK164 0; have hcz11_1 := zy BK164 1; have hfz11_0 := blk_frozen BK164.out 0; have hfz11_1 := blk_frozen BK164.out 1) | ((with_reducible refine gate_callee (f := 15) rfl ?_); refine zc 5 Tryd.func15 #[.agg #[.int .i64 a0_0, .slice A0_1 l0_1.length c0_1]] ?_; (with_reducible refine (spec_l2Good.calls k a0_0 _ _ l0_1 false _ ?side1 ?side2 A2.out).mono ?_); (case side1 => exact zC (Kd.C_below HR0_1.out HB.out)); (case side2 => exact HC0_1.out); rintro e w12 ⟨rfl, hb⟩; refine ⟨_, rfl, ?_⟩; replace BK164 := zM (blk_below (g := gb164) (o := .cells #[.int .i64 a0_0, .slice A0_1 l0_1.length c0_1] 28 (0, 0)) (zK BK164.out) hb); replace HB := zM (below_step zB hb); (try clear hb); (try clear hb2); (try clear hk); (try clear hi)))
   go_ret2
   exact ⟨by first | rfl | (simp [errW_none, errW_some] <;> rfl) | (simp [*, errW_none, errW_some] <;> rfl), zB⟩

end Go.Proofs.YtfkcddambaadjaaDoor.P
namespace Go.Proofs.YtfkcddambaadjaaDoor.P
open Go.RowKit Go.Deep Go.ChangeShapes Go.Joins Go.Proofs.YtfkcddambaadjaaDoorW.PrintWords
set_option linter.unusedVariables false
set_option linter.unusedSimpArgs false
def FitP (l : List S41) : Prop := l.length ≤ 9223372036854775807 ∧ ∀ e ∈ l, (Lit.int .i64 e.f0).wf = true ∧ (Lit.int .i64 e.f1).wf = true
section
variable {H : Type} {enc : TypeId × Value → H} {W : World} {base : Nat} {held : Bool} {fuel : Nat}

theorem read_prs {v : Value} {y : DataW H × List MemPlace} (h : DataW.trod enc Tryd.prog W base (fun _ => true) held fuel 22 [v] = some y) :
    ∃ (A : Option Addr) (c : Nat) (l : List S41), v = .slice A l.length c ∧ l.length ≤ c ∧ Kd.C k41 W A l.length l ∧ FitP l := by
  rcases open_slice Tryd.underlying22 h with ⟨hcs, _⟩ | ⟨a, len, cap, m, n, D, Pl, hcs, _, hl, hm, hmm, _, hx⟩
  · injection hcs with hv _
    exact ⟨none, 0, [], hv, Nat.le_refl _, ⟨rfl, Nat.zero_le _, fun h0 => absurd h0 (Nat.lt_irrefl _)⟩, ⟨Nat.zero_le _, fun n hn => by cases hn⟩⟩
  · injection hcs with hv _
    have hce : Tryd.prog.cellsOf 41 = 2 := by kernel_rfl
    have hci : Tryd.prog.cellsOf 3 = 1 := by kernel_rfl
    have each : ∀ i, i < len → ∃ e : S41, (W.cell? (a.add (i * 2)) = some (.int .i64 e.f0) ∧ W.cell? (a.add (i * 2 + 1)) = some (.int .i64 e.f1)) ∧ (Lit.int .i64 e.f0).wf = true ∧ (Lit.int .i64 e.f1).wf = true := by
      intro i hi
      obtain ⟨cs', h1, h2⟩ := hx i (by simp only [if_true] at hmm; omega)
      rw [hce] at h1
      obtain ⟨_, hcl, hcc⟩ := World.cells?_some h1
      obtain ⟨c0, c1, rfl⟩ : ∃ c0 c1, cs' = [c0, c1] := by
        match cs', hcl with
        | [c0, c1], _ => exact ⟨c0, c1, rfl⟩
      obtain ⟨xs, q, rfl, hq, _, hxl, he⟩ := DataW.trod_array Tryd.underlying41 h2
      have e0 := he 0 (by omega)
      have e1 := he 1 (by omega)
      simp only [hci] at e0 e1
      obtain ⟨y0, hy0⟩ : ∃ y0, xs[0]? = some y0 := ⟨xs[0], List.getElem?_eq_getElem (by omega)⟩
      obtain ⟨y1, hy1⟩ : ∃ y1, xs[1]? = some y1 := ⟨xs[1], List.getElem?_eq_getElem (by omega)⟩
      rw [hy0] at e0
      rw [hy1] at e1
      obtain ⟨n0, k0, _, w0⟩ := DataW.trod_int Tryd.underlying3 e0
      obtain ⟨n1, k1, _, w1⟩ := DataW.trod_int Tryd.underlying3 e1
      simp at k0 k1
      subst k0
      subst k1
      have f0 := hcc 0 (by omega)
      have f1 := hcc 1 (by omega)
      refine ⟨⟨n0, n1⟩, ⟨?_, ?_⟩, w0, w1⟩
      · rw [Addr.add_add, Nat.add_zero] at f0
        simpa using f0
      · rw [Addr.add_add] at f1
        simpa using f1
    have hlen : ((List.range len).map fun i => if hi : i < len then (each i hi).choose else z41).length = len := by simp
    refine ⟨some a, cap, (List.range len).map fun i => if hi : i < len then (each i hi).choose else z41, by rw [hlen]; exact hv, by omega, ⟨rfl, by unfold maxLen at hm; omega, fun _ => ⟨a, rfl, fun j p hj => ?_⟩⟩, ⟨by rw [hlen]; unfold maxLen at hm; omega, ?_⟩⟩
    · have hj2 := (List.getElem?_eq_some_iff.1 hj).1
      rw [hlen] at hj2
      have hp : (each j hj2).choose = p := by
        rw [List.getElem?_map, List.getElem?_range hj2] at hj
        simpa [hj2] using hj
      obtain ⟨⟨h1, h2⟩, _⟩ := (each j hj2).choose_spec
      rw [hp] at h1 h2
      refine ⟨[.int .i64 p.f0, .int .i64 p.f1], rfl, k41_mk W p, fun i u hi => ?_⟩
      rw [show k41.sz = 2 from rfl]
      match i, hi with
      | 0, hi =>
        have hu : Value.int .i64 p.f0 = u := by simpa using hi
        subst hu
        exact h1
      | 1, hi =>
        have hu : Value.int .i64 p.f1 = u := by simpa using hi
        subst hu
        exact h2
    · intro e he
      rw [List.mem_map] at he
      obtain ⟨r, hr, rfl⟩ := he
      have hr2 := List.mem_range.1 hr
      simp only [hr2, dif_pos]
      exact (each r hr2).choose_spec.2
end
end Go.Proofs.YtfkcddambaadjaaDoor.P
namespace Go.Proofs.YtfkcddambaadjaaDoor.P
open Go.RowKit Go.Proofs.YtfkcddambaadjaaDoorW.PrintWords Go.Proofs.YtfkcddambaadjaaDoorW.PrintLast Go.Proofs.YtfkcddambaadjaaDoorW.PrintMore
set_option linter.unusedVariables false
set_option linter.unusedSimpArgs false

def laws_toIntA2.f (a0_0 : Int) (a0_1 : Int) : Option (Int × Int) := some (a0_0, a0_1)
set_option maxHeartbeats 1000000 in
theorem laws_toIntA2.calls (a0_0 : Int) (a0_1 : Int) (r1 : Int) (r2 : Int) (w : World) (h : laws_toIntA2.f a0_0 a0_1 = some (r1, r2)) :
    Calls Tryd.prog 32 #[.agg #[.int .i64 a0_0, .int .i64 a0_1]] w fun e w' => e = .returned (.agg #[.int .i64 r1, .int .i64 r2]) ∧ Below w.heap.size w w' := by
  unfold laws_toIntA2.f at h
  simp only [Option.some.injEq, Prod.mk.injEq] at h
  obtain ⟨rfl, rfl⟩ := h
  go_enter Tryd.func32, Tryd.ntmps32
  go_wp2
  go_rounds 3
  exact bodyPost_ret (v := .agg #[.int .i64 a0_0, .int .i64 a0_1]) (by simp [results, Tryd.results32, go_sem]) rfl ⟨rfl, by repeat (first | exact Below.refl _ _ | apply below_alloc | apply pw_below_drewN | apply below_drew1)⟩

def laws_eqIntA2.f (a0_0 : Int) (a0_1 : Int) (a1_0 : Int) (a1_1 : Int) : Option Bool := some (a0_0 == a1_0 && a0_1 == a1_1)
set_option maxHeartbeats 1000000 in
theorem laws_eqIntA2.calls (a0_0 : Int) (a0_1 : Int) (a1_0 : Int) (a1_1 : Int) (r : Bool) (w : World) (h : laws_eqIntA2.f a0_0 a0_1 a1_0 a1_1 = some r) :
    Calls Tryd.prog 36 #[.agg #[.int .i64 a0_0, .int .i64 a0_1], .agg #[.int .i64 a1_0, .int .i64 a1_1]] w fun e w' => e = .returned (.bool r) ∧ Below w.heap.size w w' := by
  unfold laws_eqIntA2.f at h
  obtain rfl := Option.some.inj h
  clear h
  by_cases h0 : a0_0 = a1_0
  · have h0b : (a0_0 != a1_0) = false := bne_eq_false_iff_eq.mpr h0
    have h0c : (a0_0 == a1_0) = true := beq_iff_eq.mpr h0
    clear h0
    by_cases h1 : a0_1 = a1_1
    · have h1b : (a0_1 != a1_1) = false := bne_eq_false_iff_eq.mpr h1
      have h1c : (a0_1 == a1_1) = true := beq_iff_eq.mpr h1
      clear h1
      go_enter Tryd.func36, Tryd.ntmps36
      go_wp2
      refine wp_loop_rounds 3 ?_
      rw [rounds_succ]; go_wp2; go_quiet (fail); go_wp2
      rw [rounds_succ]; go_wp2; go_quiet (fail); go_wp2
      rw [rounds_succ]; go_wp2
      go_ret
      exact ⟨by simp [*], by repeat (first | exact Below.refl _ _ | apply below_alloc | apply pw_below_drewN | apply below_drew1)⟩
    · have h1b : (a0_1 != a1_1) = true := bne_iff_ne.mpr h1
      have h1c : (a0_1 == a1_1) = false := beq_eq_false_iff_ne.mpr h1
      clear h1
      go_enter Tryd.func36, Tryd.ntmps36
      go_wp2
      refine wp_loop_rounds 3 ?_
      rw [rounds_succ]; go_wp2; go_quiet (fail); go_wp2
      rw [rounds_succ]; go_wp2; go_quiet (fail); go_wp2
      go_ret
      exact ⟨by simp [*], by repeat (first | exact Below.refl _ _ | apply below_alloc | apply pw_below_drewN | apply below_drew1)⟩
  · have h0b : (a0_0 != a1_0) = true := bne_iff_ne.mpr h0
    have h0c : (a0_0 == a1_0) = false := beq_eq_false_iff_ne.mpr h0
    clear h0
    go_enter Tryd.func36, Tryd.ntmps36
    go_wp2
    refine wp_loop_rounds 3 ?_
    rw [rounds_succ]; go_wp2; go_quiet (fail); go_wp2
    go_ret
    exact ⟨by simp [*], by repeat (first | exact Below.refl _ _ | apply below_alloc | apply pw_below_drewN | apply below_drew1)⟩

end Go.Proofs.YtfkcddambaadjaaDoor.P
