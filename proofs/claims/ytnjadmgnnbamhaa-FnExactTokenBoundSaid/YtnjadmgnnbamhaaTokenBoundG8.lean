-- Written by a program of this session (the kit's print, turned: wip/print/patch.py) out of the translation. Not trusted: Lean checks it.
import Derived.Test.YtnjadmgnnbamhaaTokenBoundG5
import Derived.Test.YtnjadmgnnbamhaaTokenBoundG7
namespace Go.Proofs.Ytnjadmgnnbamhaa.P
open Go.RowKit Go.Proofs.YtnjadmgnnbamhaaW.PrintWords Go.Proofs.YtnjadmgnnbamhaaW.PrintLast Go.Proofs.YtnjadmgnnbamhaaW.PrintMore
attribute [local go_sem] max2_int min2_int max_two min_two max_three min_three max_four min_four   -- for this text's walks alone
set_option linter.unusedVariables false
set_option linter.unusedSimpArgs false

attribute [local go_sem high] eqA50
/-! ### spec_l2Good: function 34 -/
def spec_l2Good.f (k : Nat) (a0_0 : Int) (l0_1 : List (S50)) : Option (Bool) := (spec_l1In.f a0_0 0 8).bind fun t159 => (if t159 = true then ((spec_l2Pairs.f k l0_1 a0_0).bind fun t160 => (some t160)) else (some false))
set_option maxHeartbeats 8000000 in
set_option maxRecDepth 100000 in
theorem spec_l2Good.calls (k : Nat) (a0_0 : Int) (A0_1 : Option Addr) (c0_1 : Nat) (l0_1 : List (S50)) (r : Bool) (w : World) (hr0_1 : Kd.C k50 w A0_1 l0_1.length l0_1) (hc0_1 : l0_1.length ≤ c0_1) (h : spec_l2Good.f k a0_0 l0_1 = some r) :
 Calls Try.prog 34 #[.agg #[.int .i64 a0_0, .slice A0_1 l0_1.length c0_1]] w fun e w' => e = .returned (.bool r) ∧ Below w.heap.size w w' := by
 have hu29 := Try.underlying29
 have HR0_1 := Aside0.mk hr0_1
 have HC0_1 := Aside0.mk hc0_1
 clear hr0_1 hc0_1
 have HB := zM (Below.refl w.heap.size w)
 have H : ((spec_l1In.f a0_0 0 8).bind fun t159 => (if t159 = true then ((spec_l2Pairs.f k l0_1 a0_0).bind fun t160 => (some t160)) else (some false))) = some r := h
 clear h
 replace H := Option.bind_eq_some_iff.mp H
 obtain ⟨t159, A20, H⟩ := H
 have A2 := Aside0.mk A20
 clear A20
 by_cases c3 : t159 = true
 · subst c3
   rw [if_pos rfl] at H
   replace H := Option.bind_eq_some_iff.mp H
   obtain ⟨t160, A40, H⟩ := H
   have A4 := Aside0.mk A40
   clear A40
   obtain rfl := Option.some.inj H
   go_enter Try.func34, Try.ntmps34
   go_wp2_with (first | ((with_reducible refine gate_dst (N := 1) rfl ?_); refine zb (w := w) 1 #[.int .i64 a0_0, .slice A0_1 l0_1.length c0_1] 29 zB ?_; clear HB; intro gb158 w5 HB BK158 GW158; have GE158 := GW158; have hcz6_0 := zy BK158 0; have hcz6_1 := zy BK158 1; have hfz6_0 := blk_frozen BK158.out 0; have hfz6_1 := blk_frozen BK158.out 1) | ((with_reducible refine gate_callee (f := 43) rfl ?_); refine zc 5 Try.func43 #[.int .i64 a0_0, .int .i64 0, .int .i64 8] ?_; (with_reducible refine (spec_l1In.calls a0_0 0 8 true _ A2.out).mono ?_); rintro e w' ⟨rfl, ⟨nd, rfl⟩⟩; refine ⟨_, rfl, ?_⟩) | (go_at_call 44; (with_reducible refine (spec_l2Pairs.calls k _ _ l0_1 a0_0 t160 _ ?side1 ?side2 A4.out).mono ?_); (case side1 => exact zC (Kd.C_below HR0_1.out zB)); (case side2 => exact HC0_1.out); rintro e w7 ⟨rfl, hb⟩; replace BK158 := zM (blk_below (g := gb158) (o := .cells #[.int .i64 a0_0, .slice A0_1 l0_1.length c0_1] 29 (0, 0)) (zK BK158.out) hb); replace HB := zM (below_step zB hb); (try clear hb); (try clear hb2); (try clear hk); (try clear hi)))
   go_ret
   exact ⟨by first | rfl | (simp [errW_none, errW_some] <;> rfl) | (simp [*, errW_none, errW_some] <;> rfl), zB⟩
 · replace c3 := Bool.eq_false_iff.mpr c3
   subst c3
   have H1 : (some false) = some r := by rw [if_neg (show ¬ (false = true) by decide)] at H; exact H
   clear H
   have H := H1
   clear H1
   obtain rfl := Option.some.inj H
   go_enter Try.func34, Try.ntmps34
   go_wp2_with (first | ((with_reducible refine gate_dst (N := 1) rfl ?_); refine zb (w := w) 1 #[.int .i64 a0_0, .slice A0_1 l0_1.length c0_1] 29 zB ?_; clear HB; intro gb158 w8 HB BK158 GW158; have GE158 := GW158; have hcz9_0 := zy BK158 0; have hcz9_1 := zy BK158 1; have hfz9_0 := blk_frozen BK158.out 0; have hfz9_1 := blk_frozen BK158.out 1) | ((with_reducible refine gate_callee (f := 43) rfl ?_); refine zc 5 Try.func43 #[.int .i64 a0_0, .int .i64 0, .int .i64 8] ?_; (with_reducible refine (spec_l1In.calls a0_0 0 8 false _ A2.out).mono ?_); rintro e w' ⟨rfl, ⟨nd, rfl⟩⟩; refine ⟨_, rfl, ?_⟩))
   go_ret
   exact ⟨by first | rfl | (simp [errW_none, errW_some] <;> rfl) | (simp [*, errW_none, errW_some] <;> rfl), zB⟩

/-! ### spec_l1Rising: function 45 -/
def spec_l1Rising.l0 : Nat → List Int → Int → Int → Int → Option (Bool)
 | 0, _, _, _, _ => none
 | k + 1, x0, x1, x2, x7 => if x7 < (x0.length : Int) then (if 0 ≤ x7 then ((spec_l1In.f (rd x0 x7) x1 x2).bind fun t162 => (if t162 = true then (if x7 > 0 then (if 0 ≤ (wrap64 (x7 - 1)) then (if (wrap64 (x7 - 1)) < (x0.length : Int) then (if (rd x0 (wrap64 (x7 - 1))) ≥ (rd x0 x7) then (some false) else (spec_l1Rising.l0 k x0 x1 x2 (wrap64 (x7 + 1)))) else (none)) else (none)) else (spec_l1Rising.l0 k x0 x1 x2 (wrap64 (x7 + 1)))) else (some false))) else (none)) else (some true)
def spec_l1Rising.f (k : Nat) (l0 : List Int) (a1 : Int) (a2 : Int) : Option (Bool) := spec_l1Rising.l0 k l0 a1 a2 0
set_option maxHeartbeats 8000000 in
set_option maxRecDepth 100000 in
theorem spec_l1Rising.calls (k : Nat) (A0 : Option Addr) (c0 : Nat) (l0 : List Int) (a1 : Int) (a2 : Int) (r : Bool) (w : World) (hr0 : Kd.C (Kd.int .i64) w A0 l0.length l0) (hc0 : l0.length ≤ c0) (h : spec_l1Rising.f k l0 a1 a2 = some r) :
 Calls Try.prog 45 #[.slice A0 l0.length c0, .int .i64 a1, .int .i64 a2] w fun e w' => e = .returned (.bool r) ∧ Drawn0 w w' := by
 have HR0 := Aside0.mk hr0
 have HC0 := Aside0.mk hc0
 clear hr0 hc0
 have H : (spec_l1Rising.l0 k l0 a1 a2 0) = some r := h
 clear h
 have H' := Aside0.mk H
 clear H
 go_enter Try.func45, Try.ntmps45
 go_wp2
 repeat (go_quiet (fail); try go_wp2)
 go_loopg [7] k (fun kq v7 w' => ∃ (x7_1 : Int), v7 = .int .i64 x7_1 ∧ Aside0 (spec_l1Rising.l0 kq l0 a1 a2 x7_1 = some r) ∧ Aside0 (kq ≤ k) ∧ Drawn0 w w')
 case atStart => exact ⟨(0), (by first | rfl | (simp; done) | (simp [*]; done)), H', ⟨Nat.le_refl _⟩, by repeat (first | exact Drawn0.refl _ | apply Drawn0.step)⟩
 case round =>
  clear H'
  try clear p2
  obtain ⟨x7_1, rfl, HA, HK1, ⟨m1, rfl⟩⟩ := hrel
  cases gk with
  | zero => exact absurd HA.out (by simp [spec_l1Rising.l0])
  | succ k1 =>
   have H := HA.out
   clear HA
   simp only [spec_l1Rising.l0] at H
   by_cases c4 : x7_1 < (l0.length : Int)
   · rw [if_pos c4] at H
     have c4b0 := decide_eq_true c4
     clear c4
     by_cases c5 : 0 ≤ x7_1
     · rw [if_pos c5] at H
       have c5b0 := decide_eq_true c5
       clear c5
       replace H := Option.bind_eq_some_iff.mp H
       obtain ⟨t162, A60, H⟩ := H
       have A6 := Aside0.mk A60
       clear A60
       by_cases c7 : t162 = true
       · subst c7
         rw [if_pos rfl] at H
         by_cases c8 : x7_1 > 0
         · rw [if_pos c8] at H
           have c8b0 : decide (0 < x7_1) = true := decide_eq_true c8
           clear c8
           obtain ⟨ji9, hji9⟩ : ∃ j_ : Int, (wrap64 (x7_1 - 1)) = j_ := ⟨_, rfl⟩
           replace H : (if 0 ≤ (ji9) then (if (ji9) < (l0.length : Int) then (if (rd l0 (ji9)) ≥ (rd l0 x7_1) then (some false) else (spec_l1Rising.l0 k1 l0 a1 a2 (wrap64 (x7_1 + 1)))) else (none)) else (none)) = some r := by first | (rw [hji9] at H; exact H) | (simp only [hji9] at H ⊢; exact H)
           (try rw [hji9] at A6)
           have hji9w : (IntKind.i64.wrap (x7_1 - 1)) = ji9 := (i64_w _).trans hji9
           by_cases c10 : 0 ≤ (ji9)
           · rw [if_pos c10] at H
             have c10b0 := decide_eq_true c10
             clear c10
             by_cases c11 : (ji9) < (l0.length : Int)
             · rw [if_pos c11] at H
               have c11b0 := decide_eq_true c11
               clear c11
               by_cases c12 : (rd l0 (ji9)) ≥ (rd l0 x7_1)
               · rw [if_pos c12] at H
                 have c12b0 : decide ((rd l0 x7_1) ≤ (rd l0 (ji9))) = true := decide_eq_true c12
                 clear c12
                 obtain rfl := Option.some.inj H
                 have p161 : 0 ≤ (x7_1 : Int) := of_decide_eq_true zA
                 have q161 : x7_1 < (l0.length : Int) := of_decide_eq_true zA
                 obtain ⟨ad161, e161, hx161_0⟩ := Kd.at_int HR0.out x7_1 p161 q161
                 cases e161
                 replace p161 := eq_true p161
                 replace q161 := eq_true q161
                 go_wp2_with (first | (go_at_call 43; (with_reducible refine (spec_l1In.calls (rd l0 x7_1) a1 a2 true _ A6.out).mono ?_); rintro e w' ⟨rfl, ⟨nd, rfl⟩⟩; (try exact zD); have p163 : 0 ≤ ((ji9) : Int) := of_decide_eq_true zA; have q163 : (ji9) < (l0.length : Int) := of_decide_eq_true zA; obtain ⟨ad163, e163, hx163_0⟩ := Kd.at_int HR0.out (ji9) p163 q163; obtain rfl : ad161 = ad163 := (by injection e163); replace p163 := eq_true p163; replace q163 := eq_true q163; have p164 : 0 ≤ (x7_1 : Int) := of_decide_eq_true zA; have q164 : x7_1 < (l0.length : Int) := of_decide_eq_true zA; obtain ⟨ad164, e164, hx164_0⟩ := Kd.at_int HR0.out x7_1 p164 q164; obtain rfl : ad161 = ad164 := (by injection e164); replace p164 := eq_true p164; replace q164 := eq_true q164))
                 repeat (go_quiet (first | (go_at_call 43; (with_reducible refine (spec_l1In.calls (rd l0 x7_1) a1 a2 true _ A6.out).mono ?_); rintro e w' ⟨rfl, ⟨nd, rfl⟩⟩; (try exact zD); have p163 : 0 ≤ ((ji9) : Int) := of_decide_eq_true zA; have q163 : (ji9) < (l0.length : Int) := of_decide_eq_true zA; obtain ⟨ad163, e163, hx163_0⟩ := Kd.at_int HR0.out (ji9) p163 q163; obtain rfl : ad161 = ad163 := (by injection e163); replace p163 := eq_true p163; replace q163 := eq_true q163; have p164 : 0 ≤ (x7_1 : Int) := of_decide_eq_true zA; have q164 : x7_1 < (l0.length : Int) := of_decide_eq_true zA; obtain ⟨ad164, e164, hx164_0⟩ := Kd.at_int HR0.out x7_1 p164 q164; obtain rfl : ad161 = ad164 := (by injection e164); replace p164 := eq_true p164; replace q164 := eq_true q164)); try go_wp2_with (first | (go_at_call 43; (with_reducible refine (spec_l1In.calls (rd l0 x7_1) a1 a2 true _ A6.out).mono ?_); rintro e w' ⟨rfl, ⟨nd, rfl⟩⟩; (try exact zD); have p163 : 0 ≤ ((ji9) : Int) := of_decide_eq_true zA; have q163 : (ji9) < (l0.length : Int) := of_decide_eq_true zA; obtain ⟨ad163, e163, hx163_0⟩ := Kd.at_int HR0.out (ji9) p163 q163; obtain rfl : ad161 = ad163 := (by injection e163); replace p163 := eq_true p163; replace q163 := eq_true q163; have p164 : 0 ≤ (x7_1 : Int) := of_decide_eq_true zA; have q164 : x7_1 < (l0.length : Int) := of_decide_eq_true zA; obtain ⟨ad164, e164, hx164_0⟩ := Kd.at_int HR0.out x7_1 p164 q164; obtain rfl : ad161 = ad164 := (by injection e164); replace p164 := eq_true p164; replace q164 := eq_true q164)))
                 go_ret
                 exact ⟨by first | rfl | (simp; done) | (simp only [← hji9] <;> (first | rfl | simp)) | (simp [*]; done), by repeat (first | exact Drawn0.refl _ | apply Drawn0.step)⟩
               · rw [if_neg c12] at H
                 have c12b0 : decide ((rd l0 x7_1) ≤ (rd l0 (ji9))) = false := decide_eq_false c12
                 clear c12
                 have H' := Aside0.mk H
                 clear H
                 have p161 : 0 ≤ (x7_1 : Int) := of_decide_eq_true zA
                 have q161 : x7_1 < (l0.length : Int) := of_decide_eq_true zA
                 obtain ⟨ad161, e161, hx161_0⟩ := Kd.at_int HR0.out x7_1 p161 q161
                 cases e161
                 replace p161 := eq_true p161
                 replace q161 := eq_true q161
                 go_wp2_with (first | (go_at_call 43; (with_reducible refine (spec_l1In.calls (rd l0 x7_1) a1 a2 true _ A6.out).mono ?_); rintro e w' ⟨rfl, ⟨nd, rfl⟩⟩; (try exact zD); have p163 : 0 ≤ ((ji9) : Int) := of_decide_eq_true zA; have q163 : (ji9) < (l0.length : Int) := of_decide_eq_true zA; obtain ⟨ad163, e163, hx163_0⟩ := Kd.at_int HR0.out (ji9) p163 q163; obtain rfl : ad161 = ad163 := (by injection e163); replace p163 := eq_true p163; replace q163 := eq_true q163; have p164 : 0 ≤ (x7_1 : Int) := of_decide_eq_true zA; have q164 : x7_1 < (l0.length : Int) := of_decide_eq_true zA; obtain ⟨ad164, e164, hx164_0⟩ := Kd.at_int HR0.out x7_1 p164 q164; obtain rfl : ad161 = ad164 := (by injection e164); replace p164 := eq_true p164; replace q164 := eq_true q164))
                 repeat (go_quiet (first | (go_at_call 43; (with_reducible refine (spec_l1In.calls (rd l0 x7_1) a1 a2 true _ A6.out).mono ?_); rintro e w' ⟨rfl, ⟨nd, rfl⟩⟩; (try exact zD); have p163 : 0 ≤ ((ji9) : Int) := of_decide_eq_true zA; have q163 : (ji9) < (l0.length : Int) := of_decide_eq_true zA; obtain ⟨ad163, e163, hx163_0⟩ := Kd.at_int HR0.out (ji9) p163 q163; obtain rfl : ad161 = ad163 := (by injection e163); replace p163 := eq_true p163; replace q163 := eq_true q163; have p164 : 0 ≤ (x7_1 : Int) := of_decide_eq_true zA; have q164 : x7_1 < (l0.length : Int) := of_decide_eq_true zA; obtain ⟨ad164, e164, hx164_0⟩ := Kd.at_int HR0.out x7_1 p164 q164; obtain rfl : ad161 = ad164 := (by injection e164); replace p164 := eq_true p164; replace q164 := eq_true q164)); try go_wp2_with (first | (go_at_call 43; (with_reducible refine (spec_l1In.calls (rd l0 x7_1) a1 a2 true _ A6.out).mono ?_); rintro e w' ⟨rfl, ⟨nd, rfl⟩⟩; (try exact zD); have p163 : 0 ≤ ((ji9) : Int) := of_decide_eq_true zA; have q163 : (ji9) < (l0.length : Int) := of_decide_eq_true zA; obtain ⟨ad163, e163, hx163_0⟩ := Kd.at_int HR0.out (ji9) p163 q163; obtain rfl : ad161 = ad163 := (by injection e163); replace p163 := eq_true p163; replace q163 := eq_true q163; have p164 : 0 ≤ (x7_1 : Int) := of_decide_eq_true zA; have q164 : x7_1 < (l0.length : Int) := of_decide_eq_true zA; obtain ⟨ad164, e164, hx164_0⟩ := Kd.at_int HR0.out x7_1 p164 q164; obtain rfl : ad161 = ad164 := (by injection e164); replace p164 := eq_true p164; replace q164 := eq_true q164)))
                 go_roundg k1
                 case measure => have := HK1.out; omega
                 case rel => exact ⟨(wrap64 (x7_1 + 1)), (by first | rfl | (simp; done) | (simp [*]; done)), H', ⟨by have := HK1.out; omega⟩, by repeat (first | exact Drawn0.refl _ | apply Drawn0.step)⟩
             · rw [if_neg c11] at H
               exact absurd H (by simp)
           · rw [if_neg c10] at H
             exact absurd H (by simp)
         · rw [if_neg c8] at H
           have c8b0 : decide (0 < x7_1) = false := decide_eq_false c8
           clear c8
           have H' := Aside0.mk H
           clear H
           have p161 : 0 ≤ (x7_1 : Int) := of_decide_eq_true zA
           have q161 : x7_1 < (l0.length : Int) := of_decide_eq_true zA
           obtain ⟨ad161, e161, hx161_0⟩ := Kd.at_int HR0.out x7_1 p161 q161
           cases e161
           replace p161 := eq_true p161
           replace q161 := eq_true q161
           go_wp2_with (first | (go_at_call 43; (with_reducible refine (spec_l1In.calls (rd l0 x7_1) a1 a2 true _ A6.out).mono ?_); rintro e w' ⟨rfl, ⟨nd, rfl⟩⟩; (try exact zD)))
           repeat (go_quiet (first | (go_at_call 43; (with_reducible refine (spec_l1In.calls (rd l0 x7_1) a1 a2 true _ A6.out).mono ?_); rintro e w' ⟨rfl, ⟨nd, rfl⟩⟩; (try exact zD))); try go_wp2_with (first | (go_at_call 43; (with_reducible refine (spec_l1In.calls (rd l0 x7_1) a1 a2 true _ A6.out).mono ?_); rintro e w' ⟨rfl, ⟨nd, rfl⟩⟩; (try exact zD))))
           go_roundg k1
           case measure => have := HK1.out; omega
           case rel => exact ⟨(wrap64 (x7_1 + 1)), (by first | rfl | (simp; done) | (simp [*]; done)), H', ⟨by have := HK1.out; omega⟩, by repeat (first | exact Drawn0.refl _ | apply Drawn0.step)⟩
       · replace c7 := Bool.eq_false_iff.mpr c7
         subst c7
         have H1 : (some false) = some r := by rw [if_neg (show ¬ (false = true) by decide)] at H; exact H
         clear H
         have H := H1
         clear H1
         obtain rfl := Option.some.inj H
         have p161 : 0 ≤ (x7_1 : Int) := of_decide_eq_true zA
         have q161 : x7_1 < (l0.length : Int) := of_decide_eq_true zA
         obtain ⟨ad161, e161, hx161_0⟩ := Kd.at_int HR0.out x7_1 p161 q161
         cases e161
         replace p161 := eq_true p161
         replace q161 := eq_true q161
         go_wp2_with (first | (go_at_call 43; (with_reducible refine (spec_l1In.calls (rd l0 x7_1) a1 a2 false _ A6.out).mono ?_); rintro e w' ⟨rfl, ⟨nd, rfl⟩⟩; (try exact zD)))
         repeat (go_quiet (first | (go_at_call 43; (with_reducible refine (spec_l1In.calls (rd l0 x7_1) a1 a2 false _ A6.out).mono ?_); rintro e w' ⟨rfl, ⟨nd, rfl⟩⟩; (try exact zD))); try go_wp2_with (first | (go_at_call 43; (with_reducible refine (spec_l1In.calls (rd l0 x7_1) a1 a2 false _ A6.out).mono ?_); rintro e w' ⟨rfl, ⟨nd, rfl⟩⟩; (try exact zD))))
         go_ret
         exact ⟨by first | rfl | (simp; done) | (simp [*]; done), by repeat (first | exact Drawn0.refl _ | apply Drawn0.step)⟩
     · rw [if_neg c5] at H
       exact absurd H (by simp)
   · rw [if_neg c4] at H
     have c4b0 : decide (x7_1 < (l0.length : Int)) = false := decide_eq_false c4
     clear c4
     obtain rfl := Option.some.inj H
     go_wp2
     repeat (go_quiet (fail); try go_wp2)
     go_ret
     exact ⟨by first | rfl | (simp; done) | (simp [*]; done), by repeat (first | exact Drawn0.refl _ | apply Drawn0.step)⟩

/-! ### slices_Index_2_int_2_int: function 58 -/
def slices_Index_2_int_2_int.l0 : Nat → List (S50) → Int → Int → Int → Int → Option (Int)
 | 0, _, _, _, _, _ => none
 | k + 1, x0, x7, x8, x166000, x166001 => if x8 < x7 then (if 0 ≤ x8 then (if x8 < (x0.length : Int) then (if (x166000 == ((rd_T50 x0 x8).f0) && (x166001 == ((rd_T50 x0 x8).f1))) = true then (some x8) else (slices_Index_2_int_2_int.l0 k x0 x7 (wrap64 (x8 + 1)) x166000 x166001)) else (none)) else (none)) else (some (-1))
def slices_Index_2_int_2_int.f (k : Nat) (l0 : List (S50)) (a1_0 : Int) (a1_1 : Int) : Option (Int) := slices_Index_2_int_2_int.l0 k l0 (l0.length : Int) 0 a1_0 a1_1
set_option maxHeartbeats 8000000 in
set_option maxRecDepth 100000 in
theorem slices_Index_2_int_2_int.calls (k : Nat) (A0 : Option Addr) (c0 : Nat) (l0 : List (S50)) (a1_0 : Int) (a1_1 : Int) (r : Int) (w : World) (hr0 : Kd.C k50 w A0 l0.length l0) (hc0 : l0.length ≤ c0) (h : slices_Index_2_int_2_int.f k l0 a1_0 a1_1 = some r) :
 Calls Try.prog 58 #[.slice A0 l0.length c0, .agg #[.int .i64 a1_0, .int .i64 a1_1]] w fun e w' => e = .returned (.int .i64 r) ∧ Below w.heap.size w w' := by
 have hu50 := Try.underlying50
 have HR0 := Aside0.mk hr0
 have HC0 := Aside0.mk hc0
 clear hr0 hc0
 have HB := zM (Below.refl w.heap.size w)
 have H : (slices_Index_2_int_2_int.l0 k l0 (l0.length : Int) 0 a1_0 a1_1) = some r := h
 clear h
 have H' := Aside0.mk H
 clear H
 go_enter Try.func58, Try.ntmps58
 go_wp2_with (first | ((with_reducible refine gate_dst (N := 3) rfl ?_); refine zb (w := w) 3 #[.int .i64 a1_0, .int .i64 a1_1] 50 zB ?_; clear HB; intro gb165 w3 HB BK165 GW165; have GE165 := GW165))
 repeat (go_quiet (first | ((with_reducible refine gate_dst (N := 3) rfl ?_); refine zb (w := w) 3 #[.int .i64 a1_0, .int .i64 a1_1] 50 zB ?_; clear HB; intro gb165 w3 HB BK165 GW165; have GE165 := GW165)); try go_wp2_with (first | ((with_reducible refine gate_dst (N := 3) rfl ?_); refine zb (w := w) 3 #[.int .i64 a1_0, .int .i64 a1_1] 50 zB ?_; clear HB; intro gb165 w3 HB BK165 GW165; have GE165 := GW165)))
 go_loopg [8] k (fun kq v8 w' => ∃ (x8_1 : Int), v8 = .int .i64 x8_1 ∧ Aside0 (slices_Index_2_int_2_int.l0 kq l0 (l0.length : Int) x8_1 a1_0 a1_1 = some r) ∧ Aside0 (kq ≤ k) ∧ Aside0 (w'.heap[gb165]? = some (.cells #[.int .i64 a1_0, .int .i64 a1_1] 50 (0, 0))) ∧ Aside0 (Below w.heap.size w w'))
 case atStart => exact ⟨(0), (by first | rfl | (simp; done) | (simp [*]; done)), H', ⟨Nat.le_refl _⟩, ⟨zK BK165.out⟩, ⟨zB⟩⟩
 case round =>
  clear H'
  try clear p2
  obtain ⟨x8_1, rfl, HA, HK1, BK165, HB⟩ := hrel
  cases gk with
  | zero => exact absurd HA.out (by simp [slices_Index_2_int_2_int.l0])
  | succ k1 =>
   have H := HA.out
   clear HA
   simp only [slices_Index_2_int_2_int.l0] at H
   by_cases c4 : x8_1 < (l0.length : Int)
   · rw [if_pos c4] at H
     have c4b0 := decide_eq_true c4
     clear c4
     by_cases c5 : 0 ≤ x8_1
     · rw [if_pos c5] at H
       have c5b0 := decide_eq_true c5
       clear c5
       by_cases c6 : x8_1 < (l0.length : Int)
       · rw [if_pos c6] at H
         have c6b0 := decide_eq_true c6
         clear c6
         by_cases c7 : (a1_0 == ((rd_T50 l0 x8_1).f0) && (a1_1 == ((rd_T50 l0 x8_1).f1))) = true
         · rw [if_pos c7] at H
           have c7b0 : (a1_0 == ((rd_T50 l0 x8_1).f0) && (a1_1 == ((rd_T50 l0 x8_1).f1))) = true := c7
           (try (have c7b1 : decide (a1_0 = ((rd_T50 l0 x8_1).f0) && (a1_1 == ((rd_T50 l0 x8_1).f1))) = true := by simpa using c7))
           (try (have c7b2 : (a1_0 == ((rd_T50 l0 x8_1).f0) && (a1_1 == ((rd_T50 l0 x8_1).f1))) = true := by simpa using c7))
           clear c7
           obtain rfl := Option.some.inj H
           have hcz8_0 := zy BK165 0
           have hcz8_1 := zy BK165 1
           have hfz8_0 := blk_frozen BK165.out 0
           have hfz8_1 := blk_frozen BK165.out 1
           have p166 : 0 ≤ (x8_1 : Int) := of_decide_eq_true zA
           have q166 : x8_1 < (l0.length : Int) := of_decide_eq_true zA
           obtain ⟨ad166, e166, hx166_0, hx166_1⟩ := at_T50 HR0.out x8_1 p166 q166
           cases e166
           (try replace hx166_0 := (HB.out.cell (World.block_lt_of_cell? w _ hx166_0)).trans hx166_0)
           (try replace hx166_1 := (HB.out.cell (World.block_lt_of_cell? w _ hx166_1)).trans hx166_1)
           replace p166 := eq_true p166
           replace q166 := eq_true q166
           go_wp2
           repeat (go_quiet (fail); try go_wp2)
           go_ret
           exact ⟨by first | rfl | (simp [errW_none, errW_some] <;> rfl) | (simp [*, errW_none, errW_some] <;> rfl), zB⟩
         · rw [if_neg c7] at H
           have c7b0 : (a1_0 == ((rd_T50 l0 x8_1).f0) && (a1_1 == ((rd_T50 l0 x8_1).f1))) = false := by simpa using c7
           (try (have c7b1 : decide (a1_0 = ((rd_T50 l0 x8_1).f0) && (a1_1 == ((rd_T50 l0 x8_1).f1))) = false := by simpa using c7))
           (try (have c7b2 : (a1_0 == ((rd_T50 l0 x8_1).f0) && (a1_1 == ((rd_T50 l0 x8_1).f1))) = false := by simpa using c7))
           (try (have c7b3 : ¬ (a1_0 = ((rd_T50 l0 x8_1).f0) && (a1_1 == ((rd_T50 l0 x8_1).f1))) := by simpa using c7))
           clear c7
           have H' := Aside0.mk H
           clear H
           have hcz9_0 := zy BK165 0
           have hcz9_1 := zy BK165 1
           have hfz9_0 := blk_frozen BK165.out 0
           have hfz9_1 := blk_frozen BK165.out 1
           have p166 : 0 ≤ (x8_1 : Int) := of_decide_eq_true zA
           have q166 : x8_1 < (l0.length : Int) := of_decide_eq_true zA
           obtain ⟨ad166, e166, hx166_0, hx166_1⟩ := at_T50 HR0.out x8_1 p166 q166
           cases e166
           (try replace hx166_0 := (HB.out.cell (World.block_lt_of_cell? w _ hx166_0)).trans hx166_0)
           (try replace hx166_1 := (HB.out.cell (World.block_lt_of_cell? w _ hx166_1)).trans hx166_1)
           replace p166 := eq_true p166
           replace q166 := eq_true q166
           go_wp2
           repeat (go_quiet (fail); try go_wp2)
           go_roundg k1
           case measure => have := HK1.out; omega
           case rel => exact ⟨(wrap64 (x8_1 + 1)), (by first | rfl | (simp; done) | (simp [*]; done)), H', ⟨by have := HK1.out; omega⟩, ⟨zK BK165.out⟩, ⟨zB⟩⟩
       · rw [if_neg c6] at H
         exact absurd H (by simp)
     · rw [if_neg c5] at H
       exact absurd H (by simp)
   · rw [if_neg c4] at H
     have c4b0 : decide (x8_1 < (l0.length : Int)) = false := decide_eq_false c4
     clear c4
     obtain rfl := Option.some.inj H
     go_wp2
     repeat (go_quiet (fail); try go_wp2)
     go_ret
     exact ⟨by first | rfl | (simp [errW_none, errW_some] <;> rfl) | (simp [*, errW_none, errW_some] <;> rfl), zB⟩

/-! ### slices_Contains_2_int_2_int: function 50 -/
def slices_Contains_2_int_2_int.f (k : Nat) (l0 : List (S50)) (a1_0 : Int) (a1_1 : Int) : Option (Bool) := (slices_Index_2_int_2_int.f k l0 a1_0 a1_1).bind fun t168 => (some (decide (t168 ≥ 0)))
set_option maxHeartbeats 8000000 in
set_option maxRecDepth 100000 in
theorem slices_Contains_2_int_2_int.calls (k : Nat) (A0 : Option Addr) (c0 : Nat) (l0 : List (S50)) (a1_0 : Int) (a1_1 : Int) (r : Bool) (w : World) (hr0 : Kd.C k50 w A0 l0.length l0) (hc0 : l0.length ≤ c0) (h : slices_Contains_2_int_2_int.f k l0 a1_0 a1_1 = some r) :
 Calls Try.prog 50 #[.slice A0 l0.length c0, .agg #[.int .i64 a1_0, .int .i64 a1_1]] w fun e w' => e = .returned (.bool r) ∧ Below w.heap.size w w' := by
 have hu50 := Try.underlying50
 have HR0 := Aside0.mk hr0
 have HC0 := Aside0.mk hc0
 clear hr0 hc0
 have HB := zM (Below.refl w.heap.size w)
 have H : ((slices_Index_2_int_2_int.f k l0 a1_0 a1_1).bind fun t168 => (some (decide (t168 ≥ 0)))) = some r := h
 clear h
 replace H := Option.bind_eq_some_iff.mp H
 obtain ⟨t168, A30, H⟩ := H
 have A3 := Aside0.mk A30
 clear A30
 obtain rfl := Option.some.inj H
 go_enter Try.func50, Try.ntmps50
 go_wp2_with (first | ((with_reducible refine gate_dst (N := 3) rfl ?_); refine zb (w := w) 3 #[.int .i64 a1_0, .int .i64 a1_1] 50 zB ?_; clear HB; intro gb167 w4 HB BK167 GW167; have GE167 := GW167; have hcz5_0 := zy BK167 0; have hcz5_1 := zy BK167 1; have hfz5_0 := blk_frozen BK167.out 0; have hfz5_1 := blk_frozen BK167.out 1) | ((with_reducible refine gate_callee (f := 58) rfl ?_); refine zc 7 Try.func58 #[.slice A0 l0.length c0, .agg #[.int .i64 a1_0, .int .i64 a1_1]] ?_; (with_reducible refine (slices_Index_2_int_2_int.calls k _ _ l0 a1_0 a1_1 t168 _ ?side1 ?side2 A3.out).mono ?_); (case side1 => exact zC (Kd.C_below HR0.out HB.out)); (case side2 => exact HC0.out); rintro e w6 ⟨rfl, hb⟩; refine ⟨_, rfl, ?_⟩; replace BK167 := zM (blk_below (g := gb167) (o := .cells #[.int .i64 a1_0, .int .i64 a1_1] 50 (0, 0)) (zK BK167.out) hb); replace HB := zM (below_step zB hb); (try clear hb); (try clear hb2); (try clear hk); (try clear hi)))
 go_ret
 exact ⟨by first | rfl | (simp [errW_none, errW_some] <;> rfl) | (simp [*, errW_none, errW_some] <;> rfl), zB⟩

end Go.Proofs.Ytnjadmgnnbamhaa.P
namespace Go.Proofs.Ytnjadmgnnbamhaa.P
open Go.RowKit Go.Proofs.YtnjadmgnnbamhaaW.PrintWords Go.Proofs.YtnjadmgnnbamhaaW.PrintLast Go.Proofs.YtnjadmgnnbamhaaW.PrintMore
attribute [local go_sem] max2_int min2_int max_two min_two max_three min_three max_four min_four   -- for this text's walks alone
set_option linter.unusedVariables false
set_option linter.unusedSimpArgs false

/-! ### impl_pair: function 51 -/
def impl_pair.f (a0 : Int) (a1 : Int) : Option (Int × Int) := some (mn a0 a1, mx a0 a1)
set_option maxHeartbeats 8000000 in
set_option maxRecDepth 100000 in
theorem impl_pair.calls (a0 : Int) (a1 : Int) (r1 : Int) (r2 : Int) (w : World) (h : impl_pair.f a0 a1 = some (r1, r2)) :
 Calls Try.prog 51 #[.int .i64 a0, .int .i64 a1] w fun e w' => e = .returned (.agg #[.int .i64 r1, .int .i64 r2]) ∧ Below w.heap.size w w' := by
 have hu50 := Try.underlying50
 have HB := zM (Below.refl w.heap.size w)
 have H : (some (mn a0 a1, mx a0 a1)) = some (r1, r2) := h
 clear h
 obtain ⟨ji3, hji3⟩ : ∃ j_ : Int, (mn a0 a1) = j_ := ⟨_, rfl⟩
 replace H : (some (ji3, mx a0 a1)) = some (r1, r2) := by first | (rw [hji3] at H; exact H) | (simp only [hji3] at H ⊢; exact H)
 have hji3_ : (if a1 < a0 then a1 else a0) = ji3 := hji3
 obtain ⟨ji4, hji4⟩ : ∃ j_ : Int, (mx a0 a1) = j_ := ⟨_, rfl⟩
 replace H : (some (ji3, ji4)) = some (r1, r2) := by first | (rw [hji4] at H; exact H) | (simp only [hji4] at H ⊢; exact H)
 have hji4_ : (if a0 < a1 then a1 else a0) = ji4 := hji4
 simp only [Option.some.injEq, Prod.mk.injEq] at H
 obtain ⟨rfl, rfl⟩ := H
 go_enter Try.func51, Try.ntmps51
 go_wp2_with (first | ((with_reducible refine gate_dst (N := 4) rfl ?_); refine zb (w := w) 4 #[.int .i64 0, .int .i64 0] 50 zB ?_; clear HB; intro gb169 w5 HB BK169 GW169; have GE169 := GW169; have hcz6_0 := zy BK169 0; have hcz6_1 := zy BK169 1; have hfz6_0 := blk_frozen BK169.out 0; have hfz6_1 := blk_frozen BK169.out 1))
 refine bodyPost_ret (results_cell_row rfl _ _ gb169 50 #[.int .i64 ji3, .int .i64 ji4] (0, 0) _ rfl (by (with_reducible repeat (first | refine blk_drewN ?_ _ | refine blk_drew ?_ | refine blk_alloc ?_ _)); refine blk_put (cs := #[.int .i64 ji3, .int .i64 0]) ?_ 1 _ rfl; (with_reducible repeat (first | refine blk_drewN ?_ _ | refine blk_drew ?_ | refine blk_alloc ?_ _)); refine blk_put (cs := #[.int .i64 0, .int .i64 0]) ?_ 0 _ rfl; (with_reducible repeat (first | refine blk_drewN ?_ _ | refine blk_drew ?_ | refine blk_alloc ?_ _)); exact BK169.out) Try.underlying50 rfl (by kernel_rfl)) rfl ?_
 exact ⟨by first | rfl | (simp [errW_none, errW_some] <;> rfl) | (simp only [← hji3, ← hji4]; first | rfl | (simp [errW_none, errW_some] <;> rfl)) | (simp [*, errW_none, errW_some] <;> rfl), zB⟩

end Go.Proofs.Ytnjadmgnnbamhaa.P
namespace Go.Proofs.Ytnjadmgnnbamhaa.P
open Go.RowKit Go.Proofs.YtnjadmgnnbamhaaW.PrintWords Go.Proofs.YtnjadmgnnbamhaaW.PrintLast Go.Proofs.YtnjadmgnnbamhaaW.PrintMore
attribute [local go_sem] max2_int min2_int max_two min_two max_three min_three max_four min_four   -- for this text's walks alone
set_option linter.unusedVariables false
set_option linter.unusedSimpArgs false

/-! ### impl_Graph_has: function 41 -/
def impl_Graph_has.f (k : Nat) (a0_0 : Int) (l0_1 : List (S50)) (a1 : Int) (a2 : Int) : Option (Bool) := (impl_pair.f a1 a2).bind fun bt171 => ((slices_Contains_2_int_2_int.f k l0_1 bt171.1 bt171.2).bind fun t173 => (some t173))
set_option maxHeartbeats 8000000 in
set_option maxRecDepth 100000 in
theorem impl_Graph_has.calls (k : Nat) (a0_0 : Int) (A0_1 : Option Addr) (c0_1 : Nat) (l0_1 : List (S50)) (a1 : Int) (a2 : Int) (r : Bool) (w : World) (hr0_1 : Kd.C k50 w A0_1 l0_1.length l0_1) (hc0_1 : l0_1.length ≤ c0_1) (h : impl_Graph_has.f k a0_0 l0_1 a1 a2 = some r) :
 Calls Try.prog 41 #[.agg #[.int .i64 a0_0, .slice A0_1 l0_1.length c0_1], .int .i64 a1, .int .i64 a2] w fun e w' => e = .returned (.bool r) ∧ Below w.heap.size w w' := by
 have hu29 := Try.underlying29
 have HR0_1 := Aside0.mk hr0_1
 have HC0_1 := Aside0.mk hc0_1
 clear hr0_1 hc0_1
 have HB := zM (Below.refl w.heap.size w)
 have H : ((impl_pair.f a1 a2).bind fun bt171 => ((slices_Contains_2_int_2_int.f k l0_1 bt171.1 bt171.2).bind fun t173 => (some t173))) = some r := h
 clear h
 replace H := Option.bind_eq_some_iff.mp H
 obtain ⟨⟨t171, t172⟩, A40, H⟩ := H
 replace H : ((slices_Contains_2_int_2_int.f k l0_1 t171 t172).bind fun t173 => (some t173)) = some r := H
 have A4 := Aside0.mk A40
 clear A40
 replace H := Option.bind_eq_some_iff.mp H
 obtain ⟨t173, A50, H⟩ := H
 have A5 := Aside0.mk A50
 clear A50
 obtain rfl := Option.some.inj H
 go_enter Try.func41, Try.ntmps41
 try go_wp2_with (first | ((with_reducible refine gate_dst (N := 3) rfl ?_); refine zb (w := w) 3 #[.int .i64 a0_0, .slice A0_1 l0_1.length c0_1] 29 zB ?_; clear HB; intro gb170 w6 HB BK170 GW170; have GE170 := GW170))
 replace BK170 := zM (blk_drew BK170.out)
 replace HB := zM (below_drew1 HB.out)
 refine zs (n := 7) (fun w' => w'.cell? ⟨gb170, 0, none⟩ = some (.int .i64 a0_0) ∧ w'.cell? ⟨gb170, 1, none⟩ = some (.slice A0_1 l0_1.length c0_1)) ⟨(blk_cell BK170.out 0).trans rfl, (blk_cell BK170.out 1).trans rfl⟩ (fun hHeld => ?_)
 generalize w6.drew = w7 at BK170 HB hHeld ⊢
 refine zq 0 7 ?_
 refine zq 2 9 ?_
 refine zq 3 10 ?_
 refine zl 1 8 hHeld ?_ (hy := by rintro w' ⟨s0, s1⟩; go_simp; with_reducible rfl)
 refine zh 4 11 Try.func51 #[.int .i64 a1, .int .i64 a2] (fun K hK => ?_)
 with_reducible refine (impl_pair.calls a1 a2 t171 t172 _ A4.out).mono ?_
 rintro e w8 ⟨rfl, hb⟩
 refine ⟨_, rfl, ?_⟩
 replace BK170 := zM (blk_below (g := gb170) (o := .cells #[.int .i64 a0_0, .slice A0_1 l0_1.length c0_1] 29 (0, 0)) (zK BK170.out) hb)
 replace HB := zM (below_step zB hb)
 (try clear hb)
 (try clear hb2)
 (try clear hk)
 (try clear hi)
 refine hK.out _ _ ⟨(blk_cell BK170.out 0).trans rfl, (blk_cell BK170.out 1).trans rfl⟩ (fun hHeld => ?_)
 clear hK K
 refine zn 11 ?_
 refine zh 5 12 Try.func50 #[.slice A0_1 l0_1.length c0_1, .agg #[.int .i64 t171, .int .i64 t172]] (fun K hK => ?_)
 with_reducible refine (slices_Contains_2_int_2_int.calls k _ _ l0_1 t171 t172 t173 _ ?side1 ?side2 A5.out).mono ?_
 (case side1 => exact zC (Kd.C_below HR0_1.out HB.out))
 (case side2 => exact HC0_1.out)
 rintro e w9 ⟨rfl, hb⟩
 refine ⟨_, rfl, ?_⟩
 replace BK170 := zM (blk_below (g := gb170) (o := .cells #[.int .i64 a0_0, .slice A0_1 l0_1.length c0_1] 29 (0, 0)) (zK BK170.out) hb)
 replace HB := zM (below_step zB hb)
 (try clear hb)
 (try clear hb2)
 (try clear hk)
 (try clear hi)
 refine hK.out _ _ ⟨(blk_cell BK170.out 0).trans rfl, (blk_cell BK170.out 1).trans rfl⟩ (fun hHeld => ?_)
 clear hK K
 refine zn 12 ?_
 refine zq 6 6 ?_
 refine zx ?_
 try go_wp2
 go_ret
 exact ⟨by first | rfl | (simp [errW_none, errW_some] <;> rfl) | (simp [*, errW_none, errW_some] <;> rfl), zB⟩

/-! ### impl_Graph_neighbors: function 31 -/
def impl_Graph_neighbors.l0 : Nat → Int → List Int → Int → Int → Int → List (S50) → Option (List Int)
 | 0, _, _, _, _, _, _ => none
 | k + 1, x1, x5, x9, x10, x175000, x175001 => if x10 < x9 then (if x10 = x1 then (impl_Graph_neighbors.l0 k x1 x5 x9 (wrap64 (x10 + 1)) x175000 x175001) else ((impl_Graph_has.f k x175000 x175001 x1 x10).bind fun t178 => (if t178 = true then (if x5.length < 17592186044416 then (impl_Graph_neighbors.l0 k x1 (x5 ++ [x10]) x9 (wrap64 (x10 + 1)) x175000 x175001) else (none)) else (impl_Graph_neighbors.l0 k x1 x5 x9 (wrap64 (x10 + 1)) x175000 x175001)))) else (some x5)
def impl_Graph_neighbors.f (k : Nat) (a0_0 : Int) (l0_1 : List (S50)) (a1 : Int) : Option (List Int) := impl_Graph_neighbors.l0 k a1 (([] : List Int)) a0_0 0 a0_0 l0_1
set_option maxHeartbeats 8000000 in
set_option maxRecDepth 100000 in
theorem impl_Graph_neighbors.calls (k : Nat) (a0_0 : Int) (A0_1 : Option Addr) (c0_1 : Nat) (l0_1 : List (S50)) (a1 : Int) (r : List Int) (w : World) (hr0_1 : Kd.C k50 w A0_1 l0_1.length l0_1) (hc0_1 : l0_1.length ≤ c0_1) (h : impl_Graph_neighbors.f k a0_0 l0_1 a1 = some r) :
 Calls Try.prog 31 #[.agg #[.int .i64 a0_0, .slice A0_1 l0_1.length c0_1], .int .i64 a1] w fun e w' => ∃ v0_ : Value, e = .returned (v0_) ∧ Kd.R (Kd.int .i64) 3 w' w.heap.size (fun _ => True) v0_ r ∧ Below w.heap.size w w' := by
 have hu29 := Try.underlying29
 have HR0_1 := Aside0.mk hr0_1
 have HC0_1 := Aside0.mk hc0_1
 clear hr0_1 hc0_1
 have HB := zM (Below.refl w.heap.size w)
 have H : (impl_Graph_neighbors.l0 k a1 (([] : List Int)) a0_0 0 a0_0 l0_1) = some r := h
 clear h
 obtain ⟨y175, hy175⟩ : ∃ y_ : List Int, y_ = (([] : List Int)) := ⟨_, rfl⟩
 replace H : (impl_Graph_neighbors.l0 k a1 y175 a0_0 0 a0_0 l0_1) = some r := by first | (rw [hy175]; with_reducible exact H) | (have H2_ := (Option.bind_some _ _).symm.trans H; rw [hy175]; with_reducible exact H2_) | (have H2_ := (Option.bind_some _ _).symm.trans H; with_reducible exact H2_) | with_reducible exact H | (rw [hy175]; exact H) | exact H
 have Ny175 := Aside0.mk hy175
 clear hy175
 have H' := Aside0.mk H
 clear H
 go_enter Try.func31, Try.ntmps31
 go_wp2_with (first | ((with_reducible refine gate_dst (N := 2) rfl ?_); refine zb (w := w) 2 #[.int .i64 a0_0, .slice A0_1 l0_1.length c0_1] 29 zB ?_; clear HB; intro gb174 w3 HB BK174 GW174; have GE174 := GW174) | ((with_reducible refine gate_dst (N := 7) rfl ?_); refine Kd.R_lit (Kd.int .i64) _ 3 ?hg (N := 7) ?hd (xs := ([] : List Int)) (inner := []) (ok := fun _ => True) (okp := fun _ => True) ?hr ?hp (fun _ hk => hk) trivial (Below.refl _ _) (Nat.le_refl _) (by simp) ?_; (case hd => rfl); (case hg => rfl); (case hr => first | (go_simp; done) | (go_simp; rfl)); (case hp => exact (Reps.none _ _)); intro v176 w4 ho5 hb hg_ hnew_; clear hg_ hnew_; (first | rw [← Ny175.out] at ho5 | (simp only [Int.reduceToNat] at ho5; rw [← Ny175.out] at ho5)); have HO177 := zM (Kd.R_lower ho5 (below_size zB)); replace BK174 := zM (blk_below (g := gb174) (o := .cells #[.int .i64 a0_0, .slice A0_1 l0_1.length c0_1] 29 (0, 0)) (zK BK174.out) hb); replace HB := zM (below_step zB hb); clear hb ho5; have hcz6_0 := zy BK174 0; have hcz6_1 := zy BK174 1; have hfz6_0 := blk_frozen BK174.out 0; have hfz6_1 := blk_frozen BK174.out 1))
 go_loopg [5, 10] k (fun kq v5 v10 w' => ∃ (x5_1 : List Int) (x10_1 : Int), v10 = .int .i64 x10_1 ∧ Aside0 (impl_Graph_neighbors.l0 kq a1 x5_1 a0_0 x10_1 a0_0 l0_1 = some r) ∧ Aside0 (kq ≤ k) ∧ Aside0 (Kd.R (Kd.int .i64) 3 w' w.heap.size (fun _ => True) v5 x5_1) ∧ Aside0 (w'.heap[gb174]? = some (.cells #[.int .i64 a0_0, (.slice A0_1 l0_1.length c0_1)] 29 (0, 0))) ∧ Aside0 (Below w.heap.size w w'))
 case atStart => exact ⟨(y175), (0), (by first | rfl | (simp; done) | (simp [*]; done)), H', ⟨Nat.le_refl _⟩, ⟨zR HO177.out⟩, ⟨zK BK174.out⟩, ⟨zB⟩⟩
 case round =>
  clear H'
  try clear p2
  try clear c3
  try clear hcz6_0
  try clear hcz6_1
  try clear hfz6_0
  try clear hfz6_1
  obtain ⟨x5_1, x10_1, rfl, HA, HK1, HO_5, BK174, HB⟩ := hrel
  cases gk with
  | zero => exact absurd HA.out (by simp [impl_Graph_neighbors.l0])
  | succ k1 =>
   have H := HA.out
   clear HA
   simp only [impl_Graph_neighbors.l0] at H
   by_cases c7 : x10_1 < a0_0
   · rw [if_pos c7] at H
     have c7b0 := decide_eq_true c7
     clear c7
     by_cases c8 : x10_1 = a1
     · rw [if_pos c8] at H
       have c8b0 : (x10_1 == a1) = true := beq_iff_eq.mpr c8
       have c8b1 : (x10_1 != a1) = false := bne_eq_false_iff_eq.mpr c8
       clear c8
       have H' := Aside0.mk H
       clear H
       go_wp2
       go_roundg k1
       case measure => have := HK1.out; omega
       case rel => exact ⟨(x5_1), (wrap64 (x10_1 + 1)), (by first | rfl | (simp; done) | (simp [*]; done)), H', ⟨by have := HK1.out; omega⟩, ⟨zR HO_5.out⟩, ⟨zK BK174.out⟩, ⟨zB⟩⟩
     · rw [if_neg c8] at H
       have c8b0 : (x10_1 == a1) = false := beq_eq_false_iff_ne.mpr c8
       have c8b1 : (x10_1 != a1) = true := bne_iff_ne.mpr c8
       replace H := Option.bind_eq_some_iff.mp H
       obtain ⟨t178, A90, H⟩ := H
       have A9 := Aside0.mk A90
       clear A90
       by_cases c10 : t178 = true
       · subst c10
         rw [if_pos rfl] at H
         by_cases c11 : x5_1.length < 17592186044416
         · rw [if_pos c11] at H
           have LMc11 := Aside0.mk c11
           clear c11
           obtain ⟨y179, hy179⟩ : ∃ y_ : List Int, y_ = (x5_1 ++ [x10_1]) := ⟨_, rfl⟩
           replace H : (impl_Graph_neighbors.l0 k1 a1 y179 a0_0 (wrap64 (x10_1 + 1)) a0_0 l0_1) = some r := by first | (rw [hy179]; with_reducible exact H) | (have H2_ := (Option.bind_some _ _).symm.trans H; rw [hy179]; with_reducible exact H2_) | (have H2_ := (Option.bind_some _ _).symm.trans H; with_reducible exact H2_) | with_reducible exact H | (rw [hy179]; exact H) | exact H
           have Ny179 := Aside0.mk hy179
           clear hy179
           have H' := Aside0.mk H
           clear H
           have hcz12_0 := zy BK174 0
           have hcz12_1 := zy BK174 1
           have hfz12_0 := blk_frozen BK174.out 0
           have hfz12_1 := blk_frozen BK174.out 1
           go_wp2_with (first | (go_at_call 41; (with_reducible refine (impl_Graph_has.calls k1 a0_0 _ _ l0_1 a1 x10_1 true _ ?side1 ?side2 A9.out).mono ?_); (case side1 => exact zC (Kd.C_below HR0_1.out HB.out)); (case side2 => exact HC0_1.out); rintro e w13 ⟨rfl, hb⟩; replace HO_5 := zM (Kd.R_below (zR HO_5.out) hb); replace BK174 := zM (blk_below (g := gb174) (o := .cells #[.int .i64 a0_0, .slice A0_1 l0_1.length c0_1] 29 (0, 0)) (zK BK174.out) hb); replace HB := zM (below_step zB hb); (try clear hb); (try clear hb2); (try clear hk); (try clear hi)) | ((with_reducible refine gate_builtin (b := .append) (xs := #[.tmp 22, .tmp 24]) rfl ?_); at_builtin; refine Kd.R_append (Kd.int .i64) (w0 := w) w.heap.size rfl (.tmp 22) (.tmp 24) 25 3 (.int .i64 0) 8 rfl Try.underlying25 info3 rfl (by decide) (by omega) u5 x5_1 x10_1 [.int .i64 x10_1] (fun _ => True) (fun _ => False) rfl rfl ?aP (fun _ hk => hk.elim) ?aF ?aO ?aB ?aS ?aL ?_; (case aP => exact rfl); (case aB => exact zB); (case aF => exact (fun _ _ => trivial)); (case aO => exact (zR HO_5.out)); (case aS => exact (below_size zB)); (case aL => have := LMc11.out; omega); intro v180 w14 ho hb hg hat; rw [← Ny179.out] at ho; replace BK174 := zM (blk_grown (g := gb174) (o := .cells #[.int .i64 a0_0, .slice A0_1 l0_1.length c0_1] 29 (0, 0)) (zK BK174.out) hg (Kd.R_ne HO_5.out BK174.out (by decide))); replace HB := zM (hb); have HO181 := zM (ho); clear HO_5; clear ho hb hg hat))
           go_roundg k1
           case measure => have := HK1.out; omega
           case rel => exact ⟨(y179), (wrap64 (x10_1 + 1)), (by first | rfl | (simp; done) | (simp [*]; done)), H', ⟨by have := HK1.out; omega⟩, ⟨zR HO181.out⟩, ⟨zK BK174.out⟩, ⟨zB⟩⟩
         · rw [if_neg c11] at H
           exact absurd H (by simp)
       · replace c10 := Bool.eq_false_iff.mpr c10
         subst c10
         have H1 : (impl_Graph_neighbors.l0 k1 a1 x5_1 a0_0 (wrap64 (x10_1 + 1)) a0_0 l0_1) = some r := by rw [if_neg (show ¬ (false = true) by decide)] at H; exact H
         clear H
         have H := H1
         clear H1
         have H' := Aside0.mk H
         clear H
         have hcz15_0 := zy BK174 0
         have hcz15_1 := zy BK174 1
         have hfz15_0 := blk_frozen BK174.out 0
         have hfz15_1 := blk_frozen BK174.out 1
         go_wp2_with (first | (go_at_call 41; (with_reducible refine (impl_Graph_has.calls k1 a0_0 _ _ l0_1 a1 x10_1 false _ ?side1 ?side2 A9.out).mono ?_); (case side1 => exact zC (Kd.C_below HR0_1.out HB.out)); (case side2 => exact HC0_1.out); rintro e w16 ⟨rfl, hb⟩; replace HO_5 := zM (Kd.R_below (zR HO_5.out) hb); replace BK174 := zM (blk_below (g := gb174) (o := .cells #[.int .i64 a0_0, .slice A0_1 l0_1.length c0_1] 29 (0, 0)) (zK BK174.out) hb); replace HB := zM (below_step zB hb); (try clear hb); (try clear hb2); (try clear hk); (try clear hi)))
         go_roundg k1
         case measure => have := HK1.out; omega
         case rel => exact ⟨(x5_1), (wrap64 (x10_1 + 1)), (by first | rfl | (simp; done) | (simp [*]; done)), H', ⟨by have := HK1.out; omega⟩, ⟨zR HO_5.out⟩, ⟨zK BK174.out⟩, ⟨zB⟩⟩
   · rw [if_neg c7] at H
     have c7b0 : decide (x10_1 < a0_0) = false := decide_eq_false c7
     clear c7
     obtain rfl := Option.some.inj H
     go_wp2
     go_ret
     exact ⟨_, by first | rfl | (simp [errW_none, errW_some] <;> rfl) | (simp [*, errW_none, errW_some] <;> rfl), by (with_reducible repeat (first | apply Kd.R_alloc | apply Kd.R_drewN | apply Kd.R_drew)); exact HO_5.out, zB⟩

/-! ### spec_l2Near: function 35 -/
def spec_l2Near.l0 : Nat → Int → Int → Int → Int → List (S50) → Option (Bool)
 | 0, _, _, _, _, _ => none
 | k + 1, x1, x2, x7, x183000, x183001 => if x7 < (x183001.length : Int) then (if 0 ≤ x7 then (if ((rd_T50 x183001 x7).f0) = x1 then (if ((rd_T50 x183001 x7).f1) = x2 then (some true) else (if ((rd_T50 x183001 x7).f0) = x2 then (if ((rd_T50 x183001 x7).f1) = x1 then (some true) else (spec_l2Near.l0 k x1 x2 (wrap64 (x7 + 1)) x183000 x183001)) else (spec_l2Near.l0 k x1 x2 (wrap64 (x7 + 1)) x183000 x183001))) else (if ((rd_T50 x183001 x7).f0) = x2 then (if ((rd_T50 x183001 x7).f1) = x1 then (some true) else (spec_l2Near.l0 k x1 x2 (wrap64 (x7 + 1)) x183000 x183001)) else (spec_l2Near.l0 k x1 x2 (wrap64 (x7 + 1)) x183000 x183001))) else (none)) else (some false)
def spec_l2Near.f (k : Nat) (a0_0 : Int) (l0_1 : List (S50)) (a1 : Int) (a2 : Int) : Option (Bool) := spec_l2Near.l0 k a1 a2 0 a0_0 l0_1
set_option maxHeartbeats 8000000 in
set_option maxRecDepth 100000 in
theorem spec_l2Near.calls (k : Nat) (a0_0 : Int) (A0_1 : Option Addr) (c0_1 : Nat) (l0_1 : List (S50)) (a1 : Int) (a2 : Int) (r : Bool) (w : World) (hr0_1 : Kd.C k50 w A0_1 l0_1.length l0_1) (hc0_1 : l0_1.length ≤ c0_1) (h : spec_l2Near.f k a0_0 l0_1 a1 a2 = some r) :
 Calls Try.prog 35 #[.agg #[.int .i64 a0_0, .slice A0_1 l0_1.length c0_1], .int .i64 a1, .int .i64 a2] w fun e w' => e = .returned (.bool r) ∧ Below w.heap.size w w' := by
 have hu29 := Try.underlying29
 have hu50 := Try.underlying50
 have HR0_1 := Aside0.mk hr0_1
 have HC0_1 := Aside0.mk hc0_1
 clear hr0_1 hc0_1
 have HB := zM (Below.refl w.heap.size w)
 have H : (spec_l2Near.l0 k a1 a2 0 a0_0 l0_1) = some r := h
 clear h
 have H' := Aside0.mk H
 clear H
 go_enter Try.func35, Try.ntmps35
 go_wp2_with (first | ((with_reducible refine gate_dst (N := 3) rfl ?_); refine zb (w := w) 3 #[.int .i64 a0_0, .slice A0_1 l0_1.length c0_1] 29 zB ?_; clear HB; intro gb182 w4 HB BK182 GW182; have GE182 := GW182))
 go_loopg [7] k (fun kq v7 w' => ∃ (x7_1 : Int), v7 = .int .i64 x7_1 ∧ Aside0 (spec_l2Near.l0 kq a1 a2 x7_1 a0_0 l0_1 = some r) ∧ Aside0 (kq ≤ k) ∧ Aside0 (w'.heap[gb182]? = some (.cells #[.int .i64 a0_0, (.slice A0_1 l0_1.length c0_1)] 29 (0, 0))) ∧ Aside0 (Below w.heap.size w w'))
 case atStart => exact ⟨(0), (by first | rfl | (simp; done) | (simp [*]; done)), H', ⟨Nat.le_refl _⟩, ⟨zK BK182.out⟩, ⟨zB⟩⟩
 case round =>
  clear H'
  try clear p2
  try clear c3
  obtain ⟨x7_1, rfl, HA, HK1, BK182, HB⟩ := hrel
  cases gk with
  | zero => exact absurd HA.out (by simp [spec_l2Near.l0])
  | succ k1 =>
   have H := HA.out
   clear HA
   simp only [spec_l2Near.l0] at H
   by_cases c5 : x7_1 < (l0_1.length : Int)
   · rw [if_pos c5] at H
     have c5b0 := decide_eq_true c5
     clear c5
     by_cases c6 : 0 ≤ x7_1
     · rw [if_pos c6] at H
       have c6b0 := decide_eq_true c6
       clear c6
       by_cases c7 : ((rd_T50 l0_1 x7_1).f0) = a1
       · rw [if_pos c7] at H
         have c7b0 : (((rd_T50 l0_1 x7_1).f0) == a1) = true := beq_iff_eq.mpr c7
         have c7b1 : (((rd_T50 l0_1 x7_1).f0) != a1) = false := bne_eq_false_iff_eq.mpr c7
         clear c7
         by_cases c8 : ((rd_T50 l0_1 x7_1).f1) = a2
         · rw [if_pos c8] at H
           have c8b0 : (((rd_T50 l0_1 x7_1).f1) == a2) = true := beq_iff_eq.mpr c8
           have c8b1 : (((rd_T50 l0_1 x7_1).f1) != a2) = false := bne_eq_false_iff_eq.mpr c8
           clear c8
           obtain rfl := Option.some.inj H
           have hcz9_0 := zy BK182 0
           have hcz9_1 := zy BK182 1
           have hfz9_0 := blk_frozen BK182.out 0
           have hfz9_1 := blk_frozen BK182.out 1
           have p183 : 0 ≤ (x7_1 : Int) := of_decide_eq_true zA
           have q183 : x7_1 < (l0_1.length : Int) := of_decide_eq_true zA
           obtain ⟨ad183, e183, hx183_0, hx183_1⟩ := at_T50 HR0_1.out x7_1 p183 q183
           cases e183
           (try replace hx183_0 := (HB.out.cell (World.block_lt_of_cell? w _ hx183_0)).trans hx183_0)
           (try replace hx183_1 := (HB.out.cell (World.block_lt_of_cell? w _ hx183_1)).trans hx183_1)
           replace p183 := eq_true p183
           replace q183 := eq_true q183
           go_wp2_with (first | ((with_reducible refine gate_dst (N := 8) rfl ?_); refine ze 8 #[.int .i64 0, .int .i64 0] 50 ?_; intro gb184 hg w10 hbox hb; have BK184 := zM (hbox); have GW184 := zM ((by rw [hg]; exact (below_size zB) : w.heap.size ≤ gb184)); have GE184 := zM ((by rw [hg]; exact (below_size zB) : w.heap.size ≤ gb184)); replace HB := zM (below_step zB hb); have NB182_184 := zM ((by rw [hg]; exact Nat.ne_of_lt (blk_lt (g := gb182) (o := .cells #[.int .i64 a0_0, .slice (some ad183) l0_1.length c0_1] 29 (0, 0)) (zK BK182.out)) : gb182 ≠ gb184)); have NB184_182 := zM ((by rw [hg]; exact Nat.ne_of_gt (blk_lt (g := gb182) (o := .cells #[.int .i64 a0_0, .slice (some ad183) l0_1.length c0_1] 29 (0, 0)) (zK BK182.out)) : gb184 ≠ gb182)); replace BK182 := zM (blk_below (g := gb182) (o := .cells #[.int .i64 a0_0, .slice (some ad183) l0_1.length c0_1] 29 (0, 0)) (zK BK182.out) hb); clear hb hbox hg; have hnb11 := NB184_182.out; have hnc11 := NB182_184.out; have hcz12_0 := zy BK184 0; have hcz12_1 := zy BK184 1; have hfz12_0 := blk_frozen BK184.out 0; have hfz12_1 := blk_frozen BK184.out 1))
           go_ret
           exact ⟨by first | rfl | (simp [errW_none, errW_some] <;> rfl) | (simp [*, errW_none, errW_some] <;> rfl), zB⟩
         · rw [if_neg c8] at H
           have c8b0 : (((rd_T50 l0_1 x7_1).f1) == a2) = false := beq_eq_false_iff_ne.mpr c8
           have c8b1 : (((rd_T50 l0_1 x7_1).f1) != a2) = true := bne_iff_ne.mpr c8
           by_cases c13 : ((rd_T50 l0_1 x7_1).f0) = a2
           · rw [if_pos c13] at H
             have c13b0 : (((rd_T50 l0_1 x7_1).f0) == a2) = true := beq_iff_eq.mpr c13
             have c13b1 : (((rd_T50 l0_1 x7_1).f0) != a2) = false := bne_eq_false_iff_eq.mpr c13
             clear c13
             by_cases c14 : ((rd_T50 l0_1 x7_1).f1) = a1
             · rw [if_pos c14] at H
               have c14b0 : (((rd_T50 l0_1 x7_1).f1) == a1) = true := beq_iff_eq.mpr c14
               have c14b1 : (((rd_T50 l0_1 x7_1).f1) != a1) = false := bne_eq_false_iff_eq.mpr c14
               clear c14
               obtain rfl := Option.some.inj H
               have hcz15_0 := zy BK182 0
               have hcz15_1 := zy BK182 1
               have hfz15_0 := blk_frozen BK182.out 0
               have hfz15_1 := blk_frozen BK182.out 1
               have p183 : 0 ≤ (x7_1 : Int) := of_decide_eq_true zA
               have q183 : x7_1 < (l0_1.length : Int) := of_decide_eq_true zA
               obtain ⟨ad183, e183, hx183_0, hx183_1⟩ := at_T50 HR0_1.out x7_1 p183 q183
               cases e183
               (try replace hx183_0 := (HB.out.cell (World.block_lt_of_cell? w _ hx183_0)).trans hx183_0)
               (try replace hx183_1 := (HB.out.cell (World.block_lt_of_cell? w _ hx183_1)).trans hx183_1)
               replace p183 := eq_true p183
               replace q183 := eq_true q183
               go_wp2_with (first | ((with_reducible refine gate_dst (N := 8) rfl ?_); refine ze 8 #[.int .i64 0, .int .i64 0] 50 ?_; intro gb184 hg w16 hbox hb; have BK184 := zM (hbox); have GW184 := zM ((by rw [hg]; exact (below_size zB) : w.heap.size ≤ gb184)); have GE184 := zM ((by rw [hg]; exact (below_size zB) : w.heap.size ≤ gb184)); replace HB := zM (below_step zB hb); have NB182_184 := zM ((by rw [hg]; exact Nat.ne_of_lt (blk_lt (g := gb182) (o := .cells #[.int .i64 a0_0, .slice (some ad183) l0_1.length c0_1] 29 (0, 0)) (zK BK182.out)) : gb182 ≠ gb184)); have NB184_182 := zM ((by rw [hg]; exact Nat.ne_of_gt (blk_lt (g := gb182) (o := .cells #[.int .i64 a0_0, .slice (some ad183) l0_1.length c0_1] 29 (0, 0)) (zK BK182.out)) : gb184 ≠ gb182)); replace BK182 := zM (blk_below (g := gb182) (o := .cells #[.int .i64 a0_0, .slice (some ad183) l0_1.length c0_1] 29 (0, 0)) (zK BK182.out) hb); clear hb hbox hg; have hnb17 := NB184_182.out; have hnc17 := NB182_184.out; have hcz18_0 := zy BK184 0; have hcz18_1 := zy BK184 1; have hfz18_0 := blk_frozen BK184.out 0; have hfz18_1 := blk_frozen BK184.out 1))
               go_ret
               exact ⟨by first | rfl | (simp [errW_none, errW_some] <;> rfl) | (simp [*, errW_none, errW_some] <;> rfl), zB⟩
             · rw [if_neg c14] at H
               have c14b0 : (((rd_T50 l0_1 x7_1).f1) == a1) = false := beq_eq_false_iff_ne.mpr c14
               have c14b1 : (((rd_T50 l0_1 x7_1).f1) != a1) = true := bne_iff_ne.mpr c14
               have H' := Aside0.mk H
               clear H
               have hcz19_0 := zy BK182 0
               have hcz19_1 := zy BK182 1
               have hfz19_0 := blk_frozen BK182.out 0
               have hfz19_1 := blk_frozen BK182.out 1
               have p183 : 0 ≤ (x7_1 : Int) := of_decide_eq_true zA
               have q183 : x7_1 < (l0_1.length : Int) := of_decide_eq_true zA
               obtain ⟨ad183, e183, hx183_0, hx183_1⟩ := at_T50 HR0_1.out x7_1 p183 q183
               cases e183
               (try replace hx183_0 := (HB.out.cell (World.block_lt_of_cell? w _ hx183_0)).trans hx183_0)
               (try replace hx183_1 := (HB.out.cell (World.block_lt_of_cell? w _ hx183_1)).trans hx183_1)
               replace p183 := eq_true p183
               replace q183 := eq_true q183
               go_wp2_with (first | ((with_reducible refine gate_dst (N := 8) rfl ?_); refine ze 8 #[.int .i64 0, .int .i64 0] 50 ?_; intro gb184 hg w20 hbox hb; have BK184 := zM (hbox); have GW184 := zM ((by rw [hg]; exact (below_size zB) : w.heap.size ≤ gb184)); have GE184 := zM ((by rw [hg]; exact (below_size zB) : w.heap.size ≤ gb184)); replace HB := zM (below_step zB hb); have NB182_184 := zM ((by rw [hg]; exact Nat.ne_of_lt (blk_lt (g := gb182) (o := .cells #[.int .i64 a0_0, .slice (some ad183) l0_1.length c0_1] 29 (0, 0)) (zK BK182.out)) : gb182 ≠ gb184)); have NB184_182 := zM ((by rw [hg]; exact Nat.ne_of_gt (blk_lt (g := gb182) (o := .cells #[.int .i64 a0_0, .slice (some ad183) l0_1.length c0_1] 29 (0, 0)) (zK BK182.out)) : gb184 ≠ gb182)); replace BK182 := zM (blk_below (g := gb182) (o := .cells #[.int .i64 a0_0, .slice (some ad183) l0_1.length c0_1] 29 (0, 0)) (zK BK182.out) hb); clear hb hbox hg; have hnb21 := NB184_182.out; have hnc21 := NB182_184.out; have hcz22_0 := zy BK184 0; have hcz22_1 := zy BK184 1; have hfz22_0 := blk_frozen BK184.out 0; have hfz22_1 := blk_frozen BK184.out 1))
               go_roundg k1
               case measure => have := HK1.out; omega
               case rel => exact ⟨(wrap64 (x7_1 + 1)), (by first | rfl | (simp; done) | (simp [*]; done)), H', ⟨by have := HK1.out; omega⟩, ⟨by (with_reducible repeat (first | refine blk_drewN ?_ _ | refine blk_drew ?_ | refine blk_alloc ?_ _)); refine blk_far ?_ NB182_184.out _; (with_reducible repeat (first | refine blk_drewN ?_ _ | refine blk_drew ?_ | refine blk_alloc ?_ _)); refine blk_far ?_ NB182_184.out _; (with_reducible repeat (first | refine blk_drewN ?_ _ | refine blk_drew ?_ | refine blk_alloc ?_ _)); exact BK182.out⟩, ⟨zB⟩⟩
           · rw [if_neg c13] at H
             have c13b0 : (((rd_T50 l0_1 x7_1).f0) == a2) = false := beq_eq_false_iff_ne.mpr c13
             have c13b1 : (((rd_T50 l0_1 x7_1).f0) != a2) = true := bne_iff_ne.mpr c13
             have H' := Aside0.mk H
             clear H
             have hcz23_0 := zy BK182 0
             have hcz23_1 := zy BK182 1
             have hfz23_0 := blk_frozen BK182.out 0
             have hfz23_1 := blk_frozen BK182.out 1
             have p183 : 0 ≤ (x7_1 : Int) := of_decide_eq_true zA
             have q183 : x7_1 < (l0_1.length : Int) := of_decide_eq_true zA
             obtain ⟨ad183, e183, hx183_0, hx183_1⟩ := at_T50 HR0_1.out x7_1 p183 q183
             cases e183
             (try replace hx183_0 := (HB.out.cell (World.block_lt_of_cell? w _ hx183_0)).trans hx183_0)
             (try replace hx183_1 := (HB.out.cell (World.block_lt_of_cell? w _ hx183_1)).trans hx183_1)
             replace p183 := eq_true p183
             replace q183 := eq_true q183
             go_wp2_with (first | ((with_reducible refine gate_dst (N := 8) rfl ?_); refine ze 8 #[.int .i64 0, .int .i64 0] 50 ?_; intro gb184 hg w24 hbox hb; have BK184 := zM (hbox); have GW184 := zM ((by rw [hg]; exact (below_size zB) : w.heap.size ≤ gb184)); have GE184 := zM ((by rw [hg]; exact (below_size zB) : w.heap.size ≤ gb184)); replace HB := zM (below_step zB hb); have NB182_184 := zM ((by rw [hg]; exact Nat.ne_of_lt (blk_lt (g := gb182) (o := .cells #[.int .i64 a0_0, .slice (some ad183) l0_1.length c0_1] 29 (0, 0)) (zK BK182.out)) : gb182 ≠ gb184)); have NB184_182 := zM ((by rw [hg]; exact Nat.ne_of_gt (blk_lt (g := gb182) (o := .cells #[.int .i64 a0_0, .slice (some ad183) l0_1.length c0_1] 29 (0, 0)) (zK BK182.out)) : gb184 ≠ gb182)); replace BK182 := zM (blk_below (g := gb182) (o := .cells #[.int .i64 a0_0, .slice (some ad183) l0_1.length c0_1] 29 (0, 0)) (zK BK182.out) hb); clear hb hbox hg; have hnb25 := NB184_182.out; have hnc25 := NB182_184.out; have hcz26_0 := zy BK184 0; have hcz26_1 := zy BK184 1; have hfz26_0 := blk_frozen BK184.out 0; have hfz26_1 := blk_frozen BK184.out 1))
             go_roundg k1
             case measure => have := HK1.out; omega
             case rel => exact ⟨(wrap64 (x7_1 + 1)), (by first | rfl | (simp; done) | (simp [*]; done)), H', ⟨by have := HK1.out; omega⟩, ⟨by (with_reducible repeat (first | refine blk_drewN ?_ _ | refine blk_drew ?_ | refine blk_alloc ?_ _)); refine blk_far ?_ NB182_184.out _; (with_reducible repeat (first | refine blk_drewN ?_ _ | refine blk_drew ?_ | refine blk_alloc ?_ _)); refine blk_far ?_ NB182_184.out _; (with_reducible repeat (first | refine blk_drewN ?_ _ | refine blk_drew ?_ | refine blk_alloc ?_ _)); exact BK182.out⟩, ⟨zB⟩⟩
       · rw [if_neg c7] at H
         have c7b0 : (((rd_T50 l0_1 x7_1).f0) == a1) = false := beq_eq_false_iff_ne.mpr c7
         have c7b1 : (((rd_T50 l0_1 x7_1).f0) != a1) = true := bne_iff_ne.mpr c7
         by_cases c27 : ((rd_T50 l0_1 x7_1).f0) = a2
         · rw [if_pos c27] at H
           have c27b0 : (((rd_T50 l0_1 x7_1).f0) == a2) = true := beq_iff_eq.mpr c27
           have c27b1 : (((rd_T50 l0_1 x7_1).f0) != a2) = false := bne_eq_false_iff_eq.mpr c27
           clear c27
           by_cases c28 : ((rd_T50 l0_1 x7_1).f1) = a1
           · rw [if_pos c28] at H
             have c28b0 : (((rd_T50 l0_1 x7_1).f1) == a1) = true := beq_iff_eq.mpr c28
             have c28b1 : (((rd_T50 l0_1 x7_1).f1) != a1) = false := bne_eq_false_iff_eq.mpr c28
             clear c28
             obtain rfl := Option.some.inj H
             have hcz29_0 := zy BK182 0
             have hcz29_1 := zy BK182 1
             have hfz29_0 := blk_frozen BK182.out 0
             have hfz29_1 := blk_frozen BK182.out 1
             have p183 : 0 ≤ (x7_1 : Int) := of_decide_eq_true zA
             have q183 : x7_1 < (l0_1.length : Int) := of_decide_eq_true zA
             obtain ⟨ad183, e183, hx183_0, hx183_1⟩ := at_T50 HR0_1.out x7_1 p183 q183
             cases e183
             (try replace hx183_0 := (HB.out.cell (World.block_lt_of_cell? w _ hx183_0)).trans hx183_0)
             (try replace hx183_1 := (HB.out.cell (World.block_lt_of_cell? w _ hx183_1)).trans hx183_1)
             replace p183 := eq_true p183
             replace q183 := eq_true q183
             go_wp2_with (first | ((with_reducible refine gate_dst (N := 8) rfl ?_); refine ze 8 #[.int .i64 0, .int .i64 0] 50 ?_; intro gb184 hg w30 hbox hb; have BK184 := zM (hbox); have GW184 := zM ((by rw [hg]; exact (below_size zB) : w.heap.size ≤ gb184)); have GE184 := zM ((by rw [hg]; exact (below_size zB) : w.heap.size ≤ gb184)); replace HB := zM (below_step zB hb); have NB182_184 := zM ((by rw [hg]; exact Nat.ne_of_lt (blk_lt (g := gb182) (o := .cells #[.int .i64 a0_0, .slice (some ad183) l0_1.length c0_1] 29 (0, 0)) (zK BK182.out)) : gb182 ≠ gb184)); have NB184_182 := zM ((by rw [hg]; exact Nat.ne_of_gt (blk_lt (g := gb182) (o := .cells #[.int .i64 a0_0, .slice (some ad183) l0_1.length c0_1] 29 (0, 0)) (zK BK182.out)) : gb184 ≠ gb182)); replace BK182 := zM (blk_below (g := gb182) (o := .cells #[.int .i64 a0_0, .slice (some ad183) l0_1.length c0_1] 29 (0, 0)) (zK BK182.out) hb); clear hb hbox hg; have hnb31 := NB184_182.out; have hnc31 := NB182_184.out; have hcz32_0 := zy BK184 0; have hcz32_1 := zy BK184 1; have hfz32_0 := blk_frozen BK184.out 0; have hfz32_1 := blk_frozen BK184.out 1))
             go_ret
             exact ⟨by first | rfl | (simp [errW_none, errW_some] <;> rfl) | (simp [*, errW_none, errW_some] <;> rfl), zB⟩
           · rw [if_neg c28] at H
             have c28b0 : (((rd_T50 l0_1 x7_1).f1) == a1) = false := beq_eq_false_iff_ne.mpr c28
             have c28b1 : (((rd_T50 l0_1 x7_1).f1) != a1) = true := bne_iff_ne.mpr c28
             have H' := Aside0.mk H
             clear H
             have hcz33_0 := zy BK182 0
             have hcz33_1 := zy BK182 1
             have hfz33_0 := blk_frozen BK182.out 0
             have hfz33_1 := blk_frozen BK182.out 1
             have p183 : 0 ≤ (x7_1 : Int) := of_decide_eq_true zA
             have q183 : x7_1 < (l0_1.length : Int) := of_decide_eq_true zA
             obtain ⟨ad183, e183, hx183_0, hx183_1⟩ := at_T50 HR0_1.out x7_1 p183 q183
             cases e183
             (try replace hx183_0 := (HB.out.cell (World.block_lt_of_cell? w _ hx183_0)).trans hx183_0)
             (try replace hx183_1 := (HB.out.cell (World.block_lt_of_cell? w _ hx183_1)).trans hx183_1)
             replace p183 := eq_true p183
             replace q183 := eq_true q183
             go_wp2_with (first | ((with_reducible refine gate_dst (N := 8) rfl ?_); refine ze 8 #[.int .i64 0, .int .i64 0] 50 ?_; intro gb184 hg w34 hbox hb; have BK184 := zM (hbox); have GW184 := zM ((by rw [hg]; exact (below_size zB) : w.heap.size ≤ gb184)); have GE184 := zM ((by rw [hg]; exact (below_size zB) : w.heap.size ≤ gb184)); replace HB := zM (below_step zB hb); have NB182_184 := zM ((by rw [hg]; exact Nat.ne_of_lt (blk_lt (g := gb182) (o := .cells #[.int .i64 a0_0, .slice (some ad183) l0_1.length c0_1] 29 (0, 0)) (zK BK182.out)) : gb182 ≠ gb184)); have NB184_182 := zM ((by rw [hg]; exact Nat.ne_of_gt (blk_lt (g := gb182) (o := .cells #[.int .i64 a0_0, .slice (some ad183) l0_1.length c0_1] 29 (0, 0)) (zK BK182.out)) : gb184 ≠ gb182)); replace BK182 := zM (blk_below (g := gb182) (o := .cells #[.int .i64 a0_0, .slice (some ad183) l0_1.length c0_1] 29 (0, 0)) (zK BK182.out) hb); clear hb hbox hg; have hnb35 := NB184_182.out; have hnc35 := NB182_184.out; have hcz36_0 := zy BK184 0; have hcz36_1 := zy BK184 1; have hfz36_0 := blk_frozen BK184.out 0; have hfz36_1 := blk_frozen BK184.out 1))
             go_roundg k1
             case measure => have := HK1.out; omega
             case rel => exact ⟨(wrap64 (x7_1 + 1)), (by first | rfl | (simp; done) | (simp [*]; done)), H', ⟨by have := HK1.out; omega⟩, ⟨by (with_reducible repeat (first | refine blk_drewN ?_ _ | refine blk_drew ?_ | refine blk_alloc ?_ _)); refine blk_far ?_ NB182_184.out _; (with_reducible repeat (first | refine blk_drewN ?_ _ | refine blk_drew ?_ | refine blk_alloc ?_ _)); refine blk_far ?_ NB182_184.out _; (with_reducible repeat (first | refine blk_drewN ?_ _ | refine blk_drew ?_ | refine blk_alloc ?_ _)); exact BK182.out⟩, ⟨zB⟩⟩
         · rw [if_neg c27] at H
           have c27b0 : (((rd_T50 l0_1 x7_1).f0) == a2) = false := beq_eq_false_iff_ne.mpr c27
           have c27b1 : (((rd_T50 l0_1 x7_1).f0) != a2) = true := bne_iff_ne.mpr c27
           have H' := Aside0.mk H
           clear H
           have hcz37_0 := zy BK182 0
           have hcz37_1 := zy BK182 1
           have hfz37_0 := blk_frozen BK182.out 0
           have hfz37_1 := blk_frozen BK182.out 1
           have p183 : 0 ≤ (x7_1 : Int) := of_decide_eq_true zA
           have q183 : x7_1 < (l0_1.length : Int) := of_decide_eq_true zA
           obtain ⟨ad183, e183, hx183_0, hx183_1⟩ := at_T50 HR0_1.out x7_1 p183 q183
           cases e183
           (try replace hx183_0 := (HB.out.cell (World.block_lt_of_cell? w _ hx183_0)).trans hx183_0)
           (try replace hx183_1 := (HB.out.cell (World.block_lt_of_cell? w _ hx183_1)).trans hx183_1)
           replace p183 := eq_true p183
           replace q183 := eq_true q183
           go_wp2_with (first | ((with_reducible refine gate_dst (N := 8) rfl ?_); refine ze 8 #[.int .i64 0, .int .i64 0] 50 ?_; intro gb184 hg w38 hbox hb; have BK184 := zM (hbox); have GW184 := zM ((by rw [hg]; exact (below_size zB) : w.heap.size ≤ gb184)); have GE184 := zM ((by rw [hg]; exact (below_size zB) : w.heap.size ≤ gb184)); replace HB := zM (below_step zB hb); have NB182_184 := zM ((by rw [hg]; exact Nat.ne_of_lt (blk_lt (g := gb182) (o := .cells #[.int .i64 a0_0, .slice (some ad183) l0_1.length c0_1] 29 (0, 0)) (zK BK182.out)) : gb182 ≠ gb184)); have NB184_182 := zM ((by rw [hg]; exact Nat.ne_of_gt (blk_lt (g := gb182) (o := .cells #[.int .i64 a0_0, .slice (some ad183) l0_1.length c0_1] 29 (0, 0)) (zK BK182.out)) : gb184 ≠ gb182)); replace BK182 := zM (blk_below (g := gb182) (o := .cells #[.int .i64 a0_0, .slice (some ad183) l0_1.length c0_1] 29 (0, 0)) (zK BK182.out) hb); clear hb hbox hg; have hnb39 := NB184_182.out; have hnc39 := NB182_184.out; have hcz40_0 := zy BK184 0; have hcz40_1 := zy BK184 1; have hfz40_0 := blk_frozen BK184.out 0; have hfz40_1 := blk_frozen BK184.out 1))
           go_roundg k1
           case measure => have := HK1.out; omega
           case rel => exact ⟨(wrap64 (x7_1 + 1)), (by first | rfl | (simp; done) | (simp [*]; done)), H', ⟨by have := HK1.out; omega⟩, ⟨by (with_reducible repeat (first | refine blk_drewN ?_ _ | refine blk_drew ?_ | refine blk_alloc ?_ _)); refine blk_far ?_ NB182_184.out _; (with_reducible repeat (first | refine blk_drewN ?_ _ | refine blk_drew ?_ | refine blk_alloc ?_ _)); refine blk_far ?_ NB182_184.out _; (with_reducible repeat (first | refine blk_drewN ?_ _ | refine blk_drew ?_ | refine blk_alloc ?_ _)); exact BK182.out⟩, ⟨zB⟩⟩
     · rw [if_neg c6] at H
       exact absurd H (by simp)
   · rw [if_neg c5] at H
     have c5b0 : decide (x7_1 < (l0_1.length : Int)) = false := decide_eq_false c5
     clear c5
     obtain rfl := Option.some.inj H
     have hcz41_0 := zy BK182 0
     have hcz41_1 := zy BK182 1
     have hfz41_0 := blk_frozen BK182.out 0
     have hfz41_1 := blk_frozen BK182.out 1
     go_wp2
     go_ret
     exact ⟨by first | rfl | (simp [errW_none, errW_some] <;> rfl) | (simp [*, errW_none, errW_some] <;> rfl), zB⟩

/-! ### spec_l2Set: function 36 -/
def spec_l2Set.f (k : Nat) (a0_0 : Int) (l0_1 : List (S50)) (l1 : List Int) : Option (Bool) := (spec_l1Rising.f k l1 0 (wrap64 (a0_0 - 1))).bind fun t186 => (some t186)
set_option maxHeartbeats 8000000 in
set_option maxRecDepth 100000 in
theorem spec_l2Set.calls (k : Nat) (a0_0 : Int) (A0_1 : Option Addr) (c0_1 : Nat) (l0_1 : List (S50)) (A1 : Option Addr) (c1 : Nat) (l1 : List Int) (r : Bool) (w : World) (hr0_1 : Kd.C k50 w A0_1 l0_1.length l0_1) (hc0_1 : l0_1.length ≤ c0_1) (hr1 : Kd.C (Kd.int .i64) w A1 l1.length l1) (hc1 : l1.length ≤ c1) (h : spec_l2Set.f k a0_0 l0_1 l1 = some r) :
 Calls Try.prog 36 #[.agg #[.int .i64 a0_0, .slice A0_1 l0_1.length c0_1], .slice A1 l1.length c1] w fun e w' => e = .returned (.bool r) ∧ Below w.heap.size w w' := by
 have hu29 := Try.underlying29
 have HR0_1 := Aside0.mk hr0_1
 have HC0_1 := Aside0.mk hc0_1
 clear hr0_1 hc0_1
 have HR1 := Aside0.mk hr1
 have HC1 := Aside0.mk hc1
 clear hr1 hc1
 have HB := zM (Below.refl w.heap.size w)
 have H : ((spec_l1Rising.f k l1 0 (wrap64 (a0_0 - 1))).bind fun t186 => (some t186)) = some r := h
 clear h
 replace H := Option.bind_eq_some_iff.mp H
 obtain ⟨t186, A30, H⟩ := H
 have A3 := Aside0.mk A30
 clear A30
 obtain rfl := Option.some.inj H
 go_enter Try.func36, Try.ntmps36
 go_wp2_with (first | ((with_reducible refine gate_dst (N := 2) rfl ?_); refine zb (w := w) 2 #[.int .i64 a0_0, .slice A0_1 l0_1.length c0_1] 29 zB ?_; clear HB; intro gb185 w4 HB BK185 GW185; have GE185 := GW185; have hcz5_0 := zy BK185 0; have hcz5_1 := zy BK185 1; have hfz5_0 := blk_frozen BK185.out 0; have hfz5_1 := blk_frozen BK185.out 1) | ((with_reducible refine gate_callee (f := 45) rfl ?_); refine zc 9 Try.func45 #[.slice A1 l1.length c1, .int .i64 0, .int .i64 (wrap64 (a0_0 - 1))] ?_; (with_reducible refine (spec_l1Rising.calls k _ _ l1 0 (wrap64 (a0_0 - 1)) t186 _ ?side1 ?side2 A3.out).mono ?_); (case side1 => exact zC (Kd.C_below HR1.out HB.out)); (case side2 => exact HC1.out); rintro e w' ⟨rfl, ⟨nd, rfl⟩⟩; refine ⟨_, rfl, ?_⟩))
 go_ret
 exact ⟨by first | rfl | (simp [errW_none, errW_some] <;> rfl) | (simp [*, errW_none, errW_some] <;> rfl), zB⟩

end Go.Proofs.Ytnjadmgnnbamhaa.P
