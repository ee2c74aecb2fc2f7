-- Written by a program of this session (the kit's print, turned: wip/print/patch.py) out of the translation. Not trusted: Lean checks it.
import Derived.Test.YtpbngmkhpcgpkaaPx0
import Derived.Test.YtpbngmkhpcgpkaaPx2
import Derived.Test.YtpbngmkhpcgpkaaPx4
import Derived.Test.YtpbngmkhpcgpkaaPx12
namespace Go.Proofs.Ytpbngmkhpcgpkaa.P
open Go.RowKit Go.Proofs.YtpbngmkhpcgpkaaW.PrintWords Go.Proofs.YtpbngmkhpcgpkaaW.PrintLast Go.Proofs.YtpbngmkhpcgpkaaW.PrintMore
attribute [local go_sem] max2_int min2_int max_two min_two max_three min_three max_four min_four   -- for this text's walks alone
set_option linter.unusedVariables false
set_option linter.unusedSimpArgs false

/-! ### spec_l1Rising: function 101 -/
def spec_l1Rising.l0 : Nat → List Int → Int → Int → Int → Option (Bool)
 | 0, _, _, _, _ => none
 | k + 1, x0, x1, x2, x7 => if x7 < (x0.length : Int) then (if 0 ≤ x7 then ((spec_l1In.f (rd x0 x7) x1 x2).bind fun t255 => (if t255 = true then (if x7 > 0 then (if 0 ≤ (wrap64 (x7 - 1)) then (if (wrap64 (x7 - 1)) < (x0.length : Int) then (if (rd x0 (wrap64 (x7 - 1))) ≥ (rd x0 x7) then (some false) else (spec_l1Rising.l0 k x0 x1 x2 (wrap64 (x7 + 1)))) else (none)) else (none)) else (spec_l1Rising.l0 k x0 x1 x2 (wrap64 (x7 + 1)))) else (some false))) else (none)) else (some true)
def spec_l1Rising.f (k : Nat) (l0 : List Int) (a1 : Int) (a2 : Int) : Option (Bool) := spec_l1Rising.l0 k l0 a1 a2 0
theorem spec_l1Rising.mono_l : ∀ k, (∀ y0 y1 y2 y3, LeO (spec_l1Rising.l0 k y0 y1 y2 y3) (spec_l1Rising.l0 (k + 1) y0 y1 y2 y3))
 | 0 => fun _ _ _ _ r h => by simp [spec_l1Rising.l0] at h
 | k + 1 => by
  have ih0 := spec_l1Rising.mono_l k
  · intro y0 y1 y2 y3
    unfold spec_l1Rising.l0
    repeat' first
    | (with_reducible exact ih0 _ _ _ _)
    | (with_reducible exact LeO.refl _)
    | (with_reducible exact LeO.none _)
    | (with_reducible refine LeO.ite ?_ ?_)
    | (with_reducible refine LeO.bind ?_ (fun _ => ?_))
    | exact ih0 _ _ _ _
    | exact LeO.none _
    | refine LeO.ite ?_ ?_
    | refine LeO.bind ?_ (fun _ => ?_)
theorem spec_l1Rising.mono : ∀ a0 a1 a2 k, LeO (spec_l1Rising.f k a0 a1 a2) (spec_l1Rising.f (k + 1) a0 a1 a2) := by
 intro a0 a1 a2 k
 have ih0 := spec_l1Rising.mono_l k
 unfold spec_l1Rising.f
 repeat' first
  | (with_reducible exact ih0 _ _ _ _)
  | (with_reducible exact LeO.refl _)
  | (with_reducible exact LeO.none _)
  | (with_reducible refine LeO.ite ?_ ?_)
  | (with_reducible refine LeO.bind ?_ (fun _ => ?_))
  | exact ih0 _ _ _ _
  | exact LeO.none _
  | refine LeO.ite ?_ ?_
  | refine LeO.bind ?_ (fun _ => ?_)
set_option maxHeartbeats 8000000 in
set_option maxRecDepth 100000 in
theorem spec_l1Rising.calls (k : Nat) (A0 : Option Addr) (c0 : Nat) (l0 : List Int) (a1 : Int) (a2 : Int) (r : Bool) (w : World) (hr0 : Kd.C (Kd.int .i64) w A0 l0.length l0) (hc0 : l0.length ≤ c0) (h : spec_l1Rising.f k l0 a1 a2 = some r) :
 Calls Try.prog 101 #[.slice A0 l0.length c0, .int .i64 a1, .int .i64 a2] w fun e w' => e = .returned (.bool r) ∧ Drawn0 w w' := by
 have HR0 := Aside0.mk hr0
 have HC0 := Aside0.mk hc0
 clear hr0 hc0
 have H : (spec_l1Rising.l0 k l0 a1 a2 0) = some r := h
 clear h
 have H' := Aside0.mk H
 clear H
 go_enter Try.func101, Try.ntmps101
 go_wp2
 repeat (go_quiet (fail); try go_wp2)
 go_loopg [7] k (fun kq v7 w' => ∃ (x7_1 : Int), v7 = .int .i64 x7_1 ∧ Aside0 (spec_l1Rising.l0 kq l0 a1 a2 x7_1 = some r) ∧ Aside0 (kq ≤ k) ∧ Drawn0 w w')
 case atStart => exact ⟨(0), (by first | rfl | (simp; done) | (simp [*]; done)), H', ⟨Nat.le_refl _⟩, by repeat (first | exact Drawn0.refl _ | apply Drawn0.step)⟩
 case round =>
  clear H'
  try clear c1
  try clear p2
  obtain ⟨x7_1, rfl, HA, HK1, ⟨m1, rfl⟩⟩ := hrel
  cases gk with
  | zero => exact absurd HA.out (by simp [spec_l1Rising.l0])
  | succ k1 =>
   have H := HA.out
   clear HA
   simp only [spec_l1Rising.l0] at H
   by_cases c4 : x7_1 < (l0.length : Int)
   · rw [if_pos c4] at H
     have c4b0 := decide_eq_true c4
     clear c4
     by_cases c5 : 0 ≤ x7_1
     · rw [if_pos c5] at H
       have c5b0 := decide_eq_true c5
       clear c5
       replace H := Option.bind_eq_some_iff.mp H
       obtain ⟨t255, A60, H⟩ := H
       have A6 := Aside0.mk A60
       clear A60
       by_cases c7 : t255 = true
       · subst c7
         rw [if_pos rfl] at H
         by_cases c8 : x7_1 > 0
         · rw [if_pos c8] at H
           have c8b0 : decide (0 < x7_1) = true := decide_eq_true c8
           clear c8
           obtain ⟨ji9, hji9⟩ : ∃ j_ : Int, (wrap64 (x7_1 - 1)) = j_ := ⟨_, rfl⟩
           replace H : (if 0 ≤ (ji9) then (if (ji9) < (l0.length : Int) then (if (rd l0 (ji9)) ≥ (rd l0 x7_1) then (some false) else (spec_l1Rising.l0 k1 l0 a1 a2 (wrap64 (x7_1 + 1)))) else (none)) else (none)) = some r := by first | (rw [hji9] at H; exact H) | (simp only [hji9] at H ⊢; exact H)
           (try rw [hji9] at A6)
           have hji9w : (IntKind.i64.wrap (x7_1 - 1)) = ji9 := (i64_w _).trans hji9
           by_cases c10 : 0 ≤ (ji9)
           · rw [if_pos c10] at H
             have c10b0 := decide_eq_true c10
             clear c10
             by_cases c11 : (ji9) < (l0.length : Int)
             · rw [if_pos c11] at H
               have c11b0 := decide_eq_true c11
               clear c11
               by_cases c12 : (rd l0 (ji9)) ≥ (rd l0 x7_1)
               · rw [if_pos c12] at H
                 have c12b0 : decide ((rd l0 x7_1) ≤ (rd l0 (ji9))) = true := decide_eq_true c12
                 clear c12
                 obtain rfl := Option.some.inj H
                 have p254 : 0 ≤ (x7_1 : Int) := of_decide_eq_true zA
                 have q254 : x7_1 < (l0.length : Int) := of_decide_eq_true zA
                 obtain ⟨ad254, e254, hx254_0⟩ := Kd.at_int HR0.out x7_1 p254 q254
                 cases e254
                 replace p254 := eq_true p254
                 replace q254 := eq_true q254
                 go_wp2_with (first | (go_at_call 63; (with_reducible refine (spec_l1In.calls (rd l0 x7_1) a1 a2 true _ A6.out).mono ?_); rintro e w' ⟨rfl, ⟨nd, rfl⟩⟩; (try exact zD); have p256 : 0 ≤ ((ji9) : Int) := of_decide_eq_true zA; have q256 : (ji9) < (l0.length : Int) := of_decide_eq_true zA; obtain ⟨ad256, e256, hx256_0⟩ := Kd.at_int HR0.out (ji9) p256 q256; obtain rfl : ad254 = ad256 := (by injection e256); replace p256 := eq_true p256; replace q256 := eq_true q256; have p257 : 0 ≤ (x7_1 : Int) := of_decide_eq_true zA; have q257 : x7_1 < (l0.length : Int) := of_decide_eq_true zA; obtain ⟨ad257, e257, hx257_0⟩ := Kd.at_int HR0.out x7_1 p257 q257; obtain rfl : ad254 = ad257 := (by injection e257); replace p257 := eq_true p257; replace q257 := eq_true q257))
                 repeat (go_quiet (first | (go_at_call 63; (with_reducible refine (spec_l1In.calls (rd l0 x7_1) a1 a2 true _ A6.out).mono ?_); rintro e w' ⟨rfl, ⟨nd, rfl⟩⟩; (try exact zD); have p256 : 0 ≤ ((ji9) : Int) := of_decide_eq_true zA; have q256 : (ji9) < (l0.length : Int) := of_decide_eq_true zA; obtain ⟨ad256, e256, hx256_0⟩ := Kd.at_int HR0.out (ji9) p256 q256; obtain rfl : ad254 = ad256 := (by injection e256); replace p256 := eq_true p256; replace q256 := eq_true q256; have p257 : 0 ≤ (x7_1 : Int) := of_decide_eq_true zA; have q257 : x7_1 < (l0.length : Int) := of_decide_eq_true zA; obtain ⟨ad257, e257, hx257_0⟩ := Kd.at_int HR0.out x7_1 p257 q257; obtain rfl : ad254 = ad257 := (by injection e257); replace p257 := eq_true p257; replace q257 := eq_true q257)); try go_wp2_with (first | (go_at_call 63; (with_reducible refine (spec_l1In.calls (rd l0 x7_1) a1 a2 true _ A6.out).mono ?_); rintro e w' ⟨rfl, ⟨nd, rfl⟩⟩; (try exact zD); have p256 : 0 ≤ ((ji9) : Int) := of_decide_eq_true zA; have q256 : (ji9) < (l0.length : Int) := of_decide_eq_true zA; obtain ⟨ad256, e256, hx256_0⟩ := Kd.at_int HR0.out (ji9) p256 q256; obtain rfl : ad254 = ad256 := (by injection e256); replace p256 := eq_true p256; replace q256 := eq_true q256; have p257 : 0 ≤ (x7_1 : Int) := of_decide_eq_true zA; have q257 : x7_1 < (l0.length : Int) := of_decide_eq_true zA; obtain ⟨ad257, e257, hx257_0⟩ := Kd.at_int HR0.out x7_1 p257 q257; obtain rfl : ad254 = ad257 := (by injection e257); replace p257 := eq_true p257; replace q257 := eq_true q257)))
                 go_ret
                 exact ⟨by first | rfl | (simp; done) | (simp only [← hji9] <;> (first | rfl | simp)) | (simp [*]; done), by repeat (first | exact Drawn0.refl _ | apply Drawn0.step)⟩
               · rw [if_neg c12] at H
                 have c12b0 : decide ((rd l0 x7_1) ≤ (rd l0 (ji9))) = false := decide_eq_false c12
                 clear c12
                 have H' := Aside0.mk H
                 clear H
                 have p254 : 0 ≤ (x7_1 : Int) := of_decide_eq_true zA
                 have q254 : x7_1 < (l0.length : Int) := of_decide_eq_true zA
                 obtain ⟨ad254, e254, hx254_0⟩ := Kd.at_int HR0.out x7_1 p254 q254
                 cases e254
                 replace p254 := eq_true p254
                 replace q254 := eq_true q254
                 go_wp2_with (first | (go_at_call 63; (with_reducible refine (spec_l1In.calls (rd l0 x7_1) a1 a2 true _ A6.out).mono ?_); rintro e w' ⟨rfl, ⟨nd, rfl⟩⟩; (try exact zD); have p256 : 0 ≤ ((ji9) : Int) := of_decide_eq_true zA; have q256 : (ji9) < (l0.length : Int) := of_decide_eq_true zA; obtain ⟨ad256, e256, hx256_0⟩ := Kd.at_int HR0.out (ji9) p256 q256; obtain rfl : ad254 = ad256 := (by injection e256); replace p256 := eq_true p256; replace q256 := eq_true q256; have p257 : 0 ≤ (x7_1 : Int) := of_decide_eq_true zA; have q257 : x7_1 < (l0.length : Int) := of_decide_eq_true zA; obtain ⟨ad257, e257, hx257_0⟩ := Kd.at_int HR0.out x7_1 p257 q257; obtain rfl : ad254 = ad257 := (by injection e257); replace p257 := eq_true p257; replace q257 := eq_true q257))
                 repeat (go_quiet (first | (go_at_call 63; (with_reducible refine (spec_l1In.calls (rd l0 x7_1) a1 a2 true _ A6.out).mono ?_); rintro e w' ⟨rfl, ⟨nd, rfl⟩⟩; (try exact zD); have p256 : 0 ≤ ((ji9) : Int) := of_decide_eq_true zA; have q256 : (ji9) < (l0.length : Int) := of_decide_eq_true zA; obtain ⟨ad256, e256, hx256_0⟩ := Kd.at_int HR0.out (ji9) p256 q256; obtain rfl : ad254 = ad256 := (by injection e256); replace p256 := eq_true p256; replace q256 := eq_true q256; have p257 : 0 ≤ (x7_1 : Int) := of_decide_eq_true zA; have q257 : x7_1 < (l0.length : Int) := of_decide_eq_true zA; obtain ⟨ad257, e257, hx257_0⟩ := Kd.at_int HR0.out x7_1 p257 q257; obtain rfl : ad254 = ad257 := (by injection e257); replace p257 := eq_true p257; replace q257 := eq_true q257)); try go_wp2_with (first | (go_at_call 63; (with_reducible refine (spec_l1In.calls (rd l0 x7_1) a1 a2 true _ A6.out).mono ?_); rintro e w' ⟨rfl, ⟨nd, rfl⟩⟩; (try exact zD); have p256 : 0 ≤ ((ji9) : Int) := of_decide_eq_true zA; have q256 : (ji9) < (l0.length : Int) := of_decide_eq_true zA; obtain ⟨ad256, e256, hx256_0⟩ := Kd.at_int HR0.out (ji9) p256 q256; obtain rfl : ad254 = ad256 := (by injection e256); replace p256 := eq_true p256; replace q256 := eq_true q256; have p257 : 0 ≤ (x7_1 : Int) := of_decide_eq_true zA; have q257 : x7_1 < (l0.length : Int) := of_decide_eq_true zA; obtain ⟨ad257, e257, hx257_0⟩ := Kd.at_int HR0.out x7_1 p257 q257; obtain rfl : ad254 = ad257 := (by injection e257); replace p257 := eq_true p257; replace q257 := eq_true q257)))
                 go_roundg k1
                 case measure => have := HK1.out; omega
                 case rel => exact ⟨(wrap64 (x7_1 + 1)), (by first | rfl | (simp; done) | (simp [*]; done)), H', ⟨by have := HK1.out; omega⟩, by repeat (first | exact Drawn0.refl _ | apply Drawn0.step)⟩
             · rw [if_neg c11] at H
               exact absurd H (by simp)
           · rw [if_neg c10] at H
             exact absurd H (by simp)
         · rw [if_neg c8] at H
           have c8b0 : decide (0 < x7_1) = false := decide_eq_false c8
           clear c8
           have H' := Aside0.mk H
           clear H
           have p254 : 0 ≤ (x7_1 : Int) := of_decide_eq_true zA
           have q254 : x7_1 < (l0.length : Int) := of_decide_eq_true zA
           obtain ⟨ad254, e254, hx254_0⟩ := Kd.at_int HR0.out x7_1 p254 q254
           cases e254
           replace p254 := eq_true p254
           replace q254 := eq_true q254
           go_wp2_with (first | (go_at_call 63; (with_reducible refine (spec_l1In.calls (rd l0 x7_1) a1 a2 true _ A6.out).mono ?_); rintro e w' ⟨rfl, ⟨nd, rfl⟩⟩; (try exact zD)))
           repeat (go_quiet (first | (go_at_call 63; (with_reducible refine (spec_l1In.calls (rd l0 x7_1) a1 a2 true _ A6.out).mono ?_); rintro e w' ⟨rfl, ⟨nd, rfl⟩⟩; (try exact zD))); try go_wp2_with (first | (go_at_call 63; (with_reducible refine (spec_l1In.calls (rd l0 x7_1) a1 a2 true _ A6.out).mono ?_); rintro e w' ⟨rfl, ⟨nd, rfl⟩⟩; (try exact zD))))
           go_roundg k1
           case measure => have := HK1.out; omega
           case rel => exact ⟨(wrap64 (x7_1 + 1)), (by first | rfl | (simp; done) | (simp [*]; done)), H', ⟨by have := HK1.out; omega⟩, by repeat (first | exact Drawn0.refl _ | apply Drawn0.step)⟩
       · replace c7 := Bool.eq_false_iff.mpr c7
         subst c7
         have H1 : (some false) = some r := by rw [if_neg (show ¬ (false = true) by decide)] at H; exact H
         clear H
         have H := H1
         clear H1
         obtain rfl := Option.some.inj H
         have p254 : 0 ≤ (x7_1 : Int) := of_decide_eq_true zA
         have q254 : x7_1 < (l0.length : Int) := of_decide_eq_true zA
         obtain ⟨ad254, e254, hx254_0⟩ := Kd.at_int HR0.out x7_1 p254 q254
         cases e254
         replace p254 := eq_true p254
         replace q254 := eq_true q254
         go_wp2_with (first | (go_at_call 63; (with_reducible refine (spec_l1In.calls (rd l0 x7_1) a1 a2 false _ A6.out).mono ?_); rintro e w' ⟨rfl, ⟨nd, rfl⟩⟩; (try exact zD)))
         repeat (go_quiet (first | (go_at_call 63; (with_reducible refine (spec_l1In.calls (rd l0 x7_1) a1 a2 false _ A6.out).mono ?_); rintro e w' ⟨rfl, ⟨nd, rfl⟩⟩; (try exact zD))); try go_wp2_with (first | (go_at_call 63; (with_reducible refine (spec_l1In.calls (rd l0 x7_1) a1 a2 false _ A6.out).mono ?_); rintro e w' ⟨rfl, ⟨nd, rfl⟩⟩; (try exact zD))))
         go_ret
         exact ⟨by first | rfl | (simp; done) | (simp [*]; done), by repeat (first | exact Drawn0.refl _ | apply Drawn0.step)⟩
     · rw [if_neg c5] at H
       exact absurd H (by simp)
   · rw [if_neg c4] at H
     have c4b0 : decide (x7_1 < (l0.length : Int)) = false := decide_eq_false c4
     clear c4
     obtain rfl := Option.some.inj H
     go_wp2
     repeat (go_quiet (fail); try go_wp2)
     go_ret
     exact ⟨by first | rfl | (simp; done) | (simp [*]; done), by repeat (first | exact Drawn0.refl _ | apply Drawn0.step)⟩

/-! ### spec_l2Set: function 66 -/
def spec_l2Set.f (k : Nat) (a0_0 : Int) (l0_1 : List (S68)) (l1 : List Int) : Option (Bool) := (spec_l1Rising.f k l1 0 (wrap64 (a0_0 - 1))).bind fun t259 => (some t259)
theorem spec_l2Set.mono : ∀ a0 a1 a2 k, LeO (spec_l2Set.f k a0 a1 a2) (spec_l2Set.f (k + 1) a0 a1 a2) := by
 intro a0 a1 a2 k
 unfold spec_l2Set.f
 repeat' first
  | (with_reducible exact spec_l1Rising.mono _ _ _ _)
  | (with_reducible exact LeO.refl _)
  | (with_reducible exact LeO.none _)
  | (with_reducible refine LeO.ite ?_ ?_)
  | (with_reducible refine LeO.bind ?_ (fun _ => ?_))
  | exact spec_l1Rising.mono _ _ _ _
  | exact LeO.none _
  | refine LeO.ite ?_ ?_
  | refine LeO.bind ?_ (fun _ => ?_)
set_option maxHeartbeats 8000000 in
set_option maxRecDepth 100000 in
theorem spec_l2Set.calls (k : Nat) (a0_0 : Int) (A0_1 : Option Addr) (c0_1 : Nat) (l0_1 : List (S68)) (A1 : Option Addr) (c1 : Nat) (l1 : List Int) (r : Bool) (w : World) (hr0_1 : Kd.C k68 w A0_1 l0_1.length l0_1) (hc0_1 : l0_1.length ≤ c0_1) (hr1 : Kd.C (Kd.int .i64) w A1 l1.length l1) (hc1 : l1.length ≤ c1) (h : spec_l2Set.f k a0_0 l0_1 l1 = some r) :
 Calls Try.prog 66 #[.agg #[.int .i64 a0_0, .slice A0_1 l0_1.length c0_1], .slice A1 l1.length c1] w fun e w' => e = .returned (.bool r) ∧ Below w.heap.size w w' := by
 have hu27 := Try.underlying27
 have HR0_1 := Aside0.mk hr0_1
 have HC0_1 := Aside0.mk hc0_1
 clear hr0_1 hc0_1
 have HR1 := Aside0.mk hr1
 have HC1 := Aside0.mk hc1
 clear hr1 hc1
 have HB := zM (Below.refl w.heap.size w)
 have H : ((spec_l1Rising.f k l1 0 (wrap64 (a0_0 - 1))).bind fun t259 => (some t259)) = some r := h
 clear h
 replace H := Option.bind_eq_some_iff.mp H
 obtain ⟨t259, A30, H⟩ := H
 have A3 := Aside0.mk A30
 clear A30
 obtain rfl := Option.some.inj H
 go_enter Try.func66, Try.ntmps66
 go_wp2_with (first | ((with_reducible refine gate_dst (N := 2) rfl ?_); refine zb (w := w) 2 #[.int .i64 a0_0, .slice A0_1 l0_1.length c0_1] 27 zB ?_; clear HB; intro gb258 w4 HB BK258 GW258; have GE258 := GW258; have hcz5_0 := zy BK258 0; have hcz5_1 := zy BK258 1; have hfz5_0 := blk_frozen BK258.out 0; have hfz5_1 := blk_frozen BK258.out 1) | ((with_reducible refine gate_callee (f := 101) rfl ?_); refine zc 9 Try.func101 #[.slice A1 l1.length c1, .int .i64 0, .int .i64 (wrap64 (a0_0 - 1))] ?_; (with_reducible refine (spec_l1Rising.calls k _ _ l1 0 (wrap64 (a0_0 - 1)) t259 _ ?side1 ?side2 A3.out).mono ?_); (case side1 => exact zC (Kd.C_below HR1.out HB.out)); (case side2 => exact HC1.out); rintro e w' ⟨rfl, ⟨nd, rfl⟩⟩; refine ⟨_, rfl, ?_⟩))
 go_ret
 exact ⟨by first | rfl | (simp [errW_none, errW_some] <;> rfl) | (simp [*, errW_none, errW_some] <;> rfl), zB⟩

/-! ### spec_l3Free: function 61 -/
mutual
def spec_l3Free.l0 : Nat → List Int → Int → Int → List (S68) → Option (Bool)
 | 0, _, _, _, _ => none
 | k + 1, x1, x5, x261000, x261001 => if x5 < (x1.length : Int) then (spec_l3Free.l1 k x1 x5 0 x261000 x261001) else ((spec_l2Set.f k x261000 x261001 x1).bind fun t261 => (some t261))
def spec_l3Free.l1 : Nat → List Int → Int → Int → Int → List (S68) → Option (Bool)
 | 0, _, _, _, _, _ => none
 | k + 1, x1, x5, x6, x261000, x261001 => if x6 < x5 then (if 0 ≤ x6 then (if x6 < (x1.length : Int) then (if 0 ≤ x5 then (if x5 < (x1.length : Int) then ((spec_l2Near.f k x261000 x261001 (rd x1 x6) (rd x1 x5)).bind fun t264 => (if t264 = true then (some false) else (spec_l3Free.l1 k x1 x5 (wrap64 (x6 + 1)) x261000 x261001))) else (none)) else (none)) else (none)) else (none)) else (spec_l3Free.l0 k x1 (wrap64 (x5 + 1)) x261000 x261001)
end
def spec_l3Free.f (k : Nat) (a0_0 : Int) (l0_1 : List (S68)) (l1 : List Int) : Option (Bool) := spec_l3Free.l0 k l1 0 a0_0 l0_1
theorem spec_l3Free.mono_l : ∀ k, (∀ y0 y1 y2 y3, LeO (spec_l3Free.l0 k y0 y1 y2 y3) (spec_l3Free.l0 (k + 1) y0 y1 y2 y3)) ∧ (∀ y0 y1 y2 y3 y4, LeO (spec_l3Free.l1 k y0 y1 y2 y3 y4) (spec_l3Free.l1 (k + 1) y0 y1 y2 y3 y4))
 | 0 => ⟨fun _ _ _ _ r h => by simp [spec_l3Free.l0] at h, fun _ _ _ _ _ r h => by simp [spec_l3Free.l1] at h⟩
 | k + 1 => by
  obtain ⟨ih0, ih1⟩ := spec_l3Free.mono_l k
  refine ⟨?_, ?_⟩
  · intro y0 y1 y2 y3
    unfold spec_l3Free.l0
    repeat' first
    | (with_reducible exact ih0 _ _ _ _)
    | (with_reducible exact ih1 _ _ _ _ _)
    | (with_reducible exact spec_l2Near.mono _ _ _ _ _)
    | (with_reducible exact spec_l2Set.mono _ _ _ _)
    | (with_reducible exact LeO.refl _)
    | (with_reducible exact LeO.none _)
    | (with_reducible refine LeO.ite ?_ ?_)
    | (with_reducible refine LeO.bind ?_ (fun _ => ?_))
    | exact ih0 _ _ _ _
    | exact ih1 _ _ _ _ _
    | exact spec_l2Near.mono _ _ _ _ _
    | exact spec_l2Set.mono _ _ _ _
    | exact LeO.none _
    | refine LeO.ite ?_ ?_
    | refine LeO.bind ?_ (fun _ => ?_)
  · intro y0 y1 y2 y3 y4
    unfold spec_l3Free.l1
    repeat' first
    | (with_reducible exact ih0 _ _ _ _)
    | (with_reducible exact ih1 _ _ _ _ _)
    | (with_reducible exact spec_l2Near.mono _ _ _ _ _)
    | (with_reducible exact spec_l2Set.mono _ _ _ _)
    | (with_reducible exact LeO.refl _)
    | (with_reducible exact LeO.none _)
    | (with_reducible refine LeO.ite ?_ ?_)
    | (with_reducible refine LeO.bind ?_ (fun _ => ?_))
    | exact ih0 _ _ _ _
    | exact ih1 _ _ _ _ _
    | exact spec_l2Near.mono _ _ _ _ _
    | exact spec_l2Set.mono _ _ _ _
    | exact LeO.none _
    | refine LeO.ite ?_ ?_
    | refine LeO.bind ?_ (fun _ => ?_)
theorem spec_l3Free.mono : ∀ a0 a1 a2 k, LeO (spec_l3Free.f k a0 a1 a2) (spec_l3Free.f (k + 1) a0 a1 a2) := by
 intro a0 a1 a2 k
 obtain ⟨ih0, ih1⟩ := spec_l3Free.mono_l k
 unfold spec_l3Free.f
 repeat' first
  | (with_reducible exact ih0 _ _ _ _)
  | (with_reducible exact ih1 _ _ _ _ _)
  | (with_reducible exact spec_l2Near.mono _ _ _ _ _)
  | (with_reducible exact spec_l2Set.mono _ _ _ _)
  | (with_reducible exact LeO.refl _)
  | (with_reducible exact LeO.none _)
  | (with_reducible refine LeO.ite ?_ ?_)
  | (with_reducible refine LeO.bind ?_ (fun _ => ?_))
  | exact ih0 _ _ _ _
  | exact ih1 _ _ _ _ _
  | exact spec_l2Near.mono _ _ _ _ _
  | exact spec_l2Set.mono _ _ _ _
  | exact LeO.none _
  | refine LeO.ite ?_ ?_
  | refine LeO.bind ?_ (fun _ => ?_)
def spec_l3Free.T7 : Bool × List (List Nat × List Nat) := (true, [([], []), ([], []), ([], []), ([1, 2], [1, 2]), ([3], [3]), ([], []), ([], []), ([5, 6], [5, 6]), ([7], [7]), ([0, 4, 8], [0, 4, 8])])
def spec_l3Free.B7 : List Nat := [0, 0, 0, 6, 14, 0, 0, 96, 224, 511]
theorem spec_l3Free.tab7 : rtab .any (opsOf Try.f61 7) = spec_l3Free.T7 := by kernel_rfl
theorem spec_l3Free.bits7 : waitsOk spec_l3Free.T7.2 spec_l3Free.B7 = true := by kernel_rfl
set_option maxHeartbeats 8000000 in
set_option maxRecDepth 100000 in
theorem spec_l3Free.calls (k : Nat) (a0_0 : Int) (A0_1 : Option Addr) (c0_1 : Nat) (l0_1 : List (S68)) (A1 : Option Addr) (c1 : Nat) (l1 : List Int) (r : Bool) (w : World) (hr0_1 : Kd.C k68 w A0_1 l0_1.length l0_1) (hc0_1 : l0_1.length ≤ c0_1) (hr1 : Kd.C (Kd.int .i64) w A1 l1.length l1) (hc1 : l1.length ≤ c1) (h : spec_l3Free.f k a0_0 l0_1 l1 = some r) :
 Calls Try.prog 61 #[.agg #[.int .i64 a0_0, .slice A0_1 l0_1.length c0_1], .slice A1 l1.length c1] w fun e w' => e = .returned (.bool r) ∧ Below w.heap.size w w' := by
 have hu27 := Try.underlying27
 have HR0_1 := Aside0.mk hr0_1
 have HC0_1 := Aside0.mk hc0_1
 clear hr0_1 hc0_1
 have HR1 := Aside0.mk hr1
 have HC1 := Aside0.mk hc1
 clear hr1 hc1
 have HB := zM (Below.refl w.heap.size w)
 have H : (spec_l3Free.l0 k l1 0 a0_0 l0_1) = some r := h
 clear h
 have H' := Aside0.mk H
 clear H
 go_enter Try.func61, Try.ntmps61
 go_wp2_with (first | ((with_reducible refine gate_dst (N := 2) rfl ?_); refine zb (w := w) 2 #[.int .i64 a0_0, .slice A0_1 l0_1.length c0_1] 27 zB ?_; clear HB; intro gb260 w3 HB BK260 GW260; have GE260 := GW260))
 go_loopg [5] k (fun kq v5 w' => ∃ (x5_1 : Int), v5 = .int .i64 x5_1 ∧ Aside0 (spec_l3Free.l0 kq l1 x5_1 a0_0 l0_1 = some r) ∧ Aside0 (kq ≤ k) ∧ Aside0 (w'.heap[gb260]? = some (.cells #[.int .i64 a0_0, (.slice A0_1 l0_1.length c0_1)] 27 (0, 0))) ∧ Aside0 (Below w.heap.size w w'))
 case atStart => exact ⟨(0), (by first | rfl | (simp; done) | (simp [*]; done)), H', ⟨Nat.le_refl _⟩, ⟨zK BK260.out⟩, ⟨zB⟩⟩
 case round =>
  clear H'
  try clear c1
  try clear p2
  obtain ⟨x5_1, rfl, HA, HK1, BK260, HB⟩ := hrel
  cases gk with
  | zero => exact absurd HA.out (by simp [spec_l3Free.l0])
  | succ k1 =>
   have H := HA.out
   clear HA
   simp only [spec_l3Free.l0] at H
   by_cases c4 : x5_1 < (l1.length : Int)
   · rw [if_pos c4] at H
     have c4b0 := decide_eq_true c4
     clear c4
     have H' := Aside0.mk H
     clear H
     go_wp2
     go_loopg [6] k1 (fun kq v6 w' => ∃ (x6_2 : Int), v6 = .int .i64 x6_2 ∧ Aside0 (spec_l3Free.l1 kq l1 x5_1 x6_2 a0_0 l0_1 = some r) ∧ Aside0 (kq ≤ k1) ∧ Aside0 (w'.heap[gb260]? = some (.cells #[.int .i64 a0_0, (.slice A0_1 l0_1.length c0_1)] 27 (0, 0))) ∧ Aside0 (Below w.heap.size w w'))
     case atStart => exact ⟨(0), (by first | rfl | (simp; done) | (simp [*]; done)), H', ⟨Nat.le_refl _⟩, ⟨zK BK260.out⟩, ⟨zB⟩⟩
     case round =>
      clear H'
      try clear c1
      try clear p2
      try clear c4
      try clear c4b0
      try clear p2
      obtain ⟨x6_2, rfl, HA, HK2, BK260, HB⟩ := hrel
      cases gk with
      | zero => exact absurd HA.out (by simp [spec_l3Free.l1])
      | succ k2 =>
       have H := HA.out
       clear HA
       simp only [spec_l3Free.l1] at H
       by_cases c5 : x6_2 < x5_1
       · rw [if_pos c5] at H
         have c5b0 := decide_eq_true c5
         clear c5
         by_cases c6 : 0 ≤ x6_2
         · rw [if_pos c6] at H
           have c6b0 := decide_eq_true c6
           clear c6
           by_cases c7 : x6_2 < (l1.length : Int)
           · rw [if_pos c7] at H
             have c7b0 := decide_eq_true c7
             clear c7
             by_cases c8 : 0 ≤ x5_1
             · rw [if_pos c8] at H
               have c8b0 := decide_eq_true c8
               clear c8
               by_cases c9 : x5_1 < (l1.length : Int)
               · rw [if_pos c9] at H
                 have c9b0 := decide_eq_true c9
                 clear c9
                 replace H := Option.bind_eq_some_iff.mp H
                 obtain ⟨t264, A100, H⟩ := H
                 have A10 := Aside0.mk A100
                 clear A100
                 by_cases c11 : t264 = true
                 · subst c11
                   rw [if_pos rfl] at H
                   obtain rfl := Option.some.inj H
                   try go_wp2
                   replace BK260 := zM (blk_drew BK260.out)
                   replace HB := zM (below_drew1 HB.out)
                   have p262 : 0 ≤ (x6_2 : Int) := of_decide_eq_true zA
                   have q262 : x6_2 < (l1.length : Int) := of_decide_eq_true zA
                   obtain ⟨ad262, e262, hx262_0⟩ := Kd.at_int HR1.out x6_2 p262 q262
                   have hw262_0 := hx262_0
                   cases e262
                   (try replace hx262_0 := (HB.out.cell (World.block_lt_of_cell? w _ hx262_0)).trans hx262_0)
                   replace p262 := eq_true p262
                   replace q262 := eq_true q262
                   have p263 : 0 ≤ (x5_1 : Int) := of_decide_eq_true zA
                   have q263 : x5_1 < (l1.length : Int) := of_decide_eq_true zA
                   obtain ⟨ad263, e263, hx263_0⟩ := Kd.at_int HR1.out x5_1 p263 q263
                   have hw263_0 := hx263_0
                   obtain rfl : ad262 = ad263 := (by injection e263)
                   (try replace hx263_0 := (HB.out.cell (World.block_lt_of_cell? w _ hx263_0)).trans hx263_0)
                   replace p263 := eq_true p263
                   replace q263 := eq_true q263
                   refine zs (n := 10) (fun w' => w'.cell? ⟨gb260, 0, none⟩ = some (.int .i64 a0_0) ∧ w'.cell? ⟨gb260, 1, none⟩ = some (.slice A0_1 l0_1.length c0_1) ∧ w'.cell? (ad262.add (x6_2).toNat) = some (.int .i64 (rd l1 x6_2)) ∧ w'.cell? (ad262.add (x5_1).toNat) = some (.int .i64 (rd l1 x5_1))) ⟨(blk_cell BK260.out 0).trans rfl, (blk_cell BK260.out 1).trans rfl, ((HB.out.cell (World.block_lt_of_cell? w _ hw262_0)).trans hw262_0), ((HB.out.cell (World.block_lt_of_cell? w _ hw263_0)).trans hw263_0)⟩ (fun hHeld => ?_); refine with_tabW spec_l3Free.tab7 spec_l3Free.bits7 (fun HT_ HW_ => ?_)
                   generalize wr.drew = w12 at BK260 HB hx262_0 hx263_0 hHeld ⊢
                   refine zp HT_ 1 19 ?_
                   refine zp HT_ 2 20 ?_
                   refine zp HT_ 3 21 ?_
                   refine zp HT_ 5 23 ?_
                   refine zp HT_ 6 24 ?_
                   refine zp HT_ 7 25 ?_
                   refine zt HT_ HW_ 0 18 hHeld ?_ (hy := by rintro w' ⟨s0, s1, s2, s3⟩; go_simp; with_reducible rfl)
                   refine zt HT_ HW_ 4 22 hHeld ?_ (hy := by rintro w' ⟨s0, s1, s2, s3⟩; go_simp; with_reducible rfl)
                   refine zt HT_ HW_ 8 26 hHeld ?_ (hy := by rintro w' ⟨s0, s1, s2, s3⟩; go_simp; with_reducible rfl)
                   refine zg HT_ 9 27 Try.func57 #[.agg #[.int .i64 a0_0, .slice A0_1 l0_1.length c0_1], .int .i64 (rd l1 x6_2), .int .i64 (rd l1 x5_1)] (fun K hK => ?_)
                   with_reducible refine (spec_l2Near.calls k2 a0_0 _ _ l0_1 (rd l1 x6_2) (rd l1 x5_1) true _ ?side1 ?side2 A10.out).mono ?_
                   (case side1 => exact zC (Kd.C_below HR0_1.out HB.out))
                   (case side2 => exact HC0_1.out)
                   rintro e w13 ⟨rfl, hb⟩
                   refine ⟨_, rfl, ?_⟩
                   replace BK260 := zM (blk_below (g := gb260) (o := .cells #[.int .i64 a0_0, .slice A0_1 l0_1.length c0_1] 27 (0, 0)) (zK BK260.out) hb)
                   replace HB := zM (below_step zB hb)
                   (try clear hb)
                   (try clear hb2)
                   (try clear hk)
                   (try clear hi)
                   refine hK.out _ _ ⟨(blk_cell BK260.out 0).trans rfl, (blk_cell BK260.out 1).trans rfl, ((HB.out.cell (World.block_lt_of_cell? w _ hw262_0)).trans hw262_0), ((HB.out.cell (World.block_lt_of_cell? w _ hw263_0)).trans hw263_0)⟩ (fun hHeld => ?_)
                   clear hK K
                   refine zn 27 ?_
                   refine zo HT_ ?_
                   try go_wp2
                   go_ret
                   exact ⟨by first | rfl | (simp [errW_none, errW_some] <;> rfl) | (simp [*, errW_none, errW_some] <;> rfl), zB⟩
                 · replace c11 := Bool.eq_false_iff.mpr c11
                   subst c11
                   have H1 : (spec_l3Free.l1 k2 l1 x5_1 (wrap64 (x6_2 + 1)) a0_0 l0_1) = some r := by rw [if_neg (show ¬ (false = true) by decide)] at H; exact H
                   clear H
                   have H := H1
                   clear H1
                   have H' := Aside0.mk H
                   clear H
                   try go_wp2
                   replace BK260 := zM (blk_drew BK260.out)
                   replace HB := zM (below_drew1 HB.out)
                   have p262 : 0 ≤ (x6_2 : Int) := of_decide_eq_true zA
                   have q262 : x6_2 < (l1.length : Int) := of_decide_eq_true zA
                   obtain ⟨ad262, e262, hx262_0⟩ := Kd.at_int HR1.out x6_2 p262 q262
                   have hw262_0 := hx262_0
                   cases e262
                   (try replace hx262_0 := (HB.out.cell (World.block_lt_of_cell? w _ hx262_0)).trans hx262_0)
                   replace p262 := eq_true p262
                   replace q262 := eq_true q262
                   have p263 : 0 ≤ (x5_1 : Int) := of_decide_eq_true zA
                   have q263 : x5_1 < (l1.length : Int) := of_decide_eq_true zA
                   obtain ⟨ad263, e263, hx263_0⟩ := Kd.at_int HR1.out x5_1 p263 q263
                   have hw263_0 := hx263_0
                   obtain rfl : ad262 = ad263 := (by injection e263)
                   (try replace hx263_0 := (HB.out.cell (World.block_lt_of_cell? w _ hx263_0)).trans hx263_0)
                   replace p263 := eq_true p263
                   replace q263 := eq_true q263
                   refine zs (n := 10) (fun w' => w'.cell? ⟨gb260, 0, none⟩ = some (.int .i64 a0_0) ∧ w'.cell? ⟨gb260, 1, none⟩ = some (.slice A0_1 l0_1.length c0_1) ∧ w'.cell? (ad262.add (x6_2).toNat) = some (.int .i64 (rd l1 x6_2)) ∧ w'.cell? (ad262.add (x5_1).toNat) = some (.int .i64 (rd l1 x5_1))) ⟨(blk_cell BK260.out 0).trans rfl, (blk_cell BK260.out 1).trans rfl, ((HB.out.cell (World.block_lt_of_cell? w _ hw262_0)).trans hw262_0), ((HB.out.cell (World.block_lt_of_cell? w _ hw263_0)).trans hw263_0)⟩ (fun hHeld => ?_); refine with_tabW spec_l3Free.tab7 spec_l3Free.bits7 (fun HT_ HW_ => ?_)
                   generalize wr.drew = w14 at BK260 HB hx262_0 hx263_0 hHeld ⊢
                   refine zp HT_ 1 19 ?_
                   refine zp HT_ 2 20 ?_
                   refine zp HT_ 3 21 ?_
                   refine zp HT_ 5 23 ?_
                   refine zp HT_ 6 24 ?_
                   refine zp HT_ 7 25 ?_
                   refine zt HT_ HW_ 0 18 hHeld ?_ (hy := by rintro w' ⟨s0, s1, s2, s3⟩; go_simp; with_reducible rfl)
                   refine zt HT_ HW_ 4 22 hHeld ?_ (hy := by rintro w' ⟨s0, s1, s2, s3⟩; go_simp; with_reducible rfl)
                   refine zt HT_ HW_ 8 26 hHeld ?_ (hy := by rintro w' ⟨s0, s1, s2, s3⟩; go_simp; with_reducible rfl)
                   refine zg HT_ 9 27 Try.func57 #[.agg #[.int .i64 a0_0, .slice A0_1 l0_1.length c0_1], .int .i64 (rd l1 x6_2), .int .i64 (rd l1 x5_1)] (fun K hK => ?_)
                   with_reducible refine (spec_l2Near.calls k2 a0_0 _ _ l0_1 (rd l1 x6_2) (rd l1 x5_1) false _ ?side1 ?side2 A10.out).mono ?_
                   (case side1 => exact zC (Kd.C_below HR0_1.out HB.out))
                   (case side2 => exact HC0_1.out)
                   rintro e w15 ⟨rfl, hb⟩
                   refine ⟨_, rfl, ?_⟩
                   replace BK260 := zM (blk_below (g := gb260) (o := .cells #[.int .i64 a0_0, .slice A0_1 l0_1.length c0_1] 27 (0, 0)) (zK BK260.out) hb)
                   replace HB := zM (below_step zB hb)
                   (try clear hb)
                   (try clear hb2)
                   (try clear hk)
                   (try clear hi)
                   refine hK.out _ _ ⟨(blk_cell BK260.out 0).trans rfl, (blk_cell BK260.out 1).trans rfl, ((HB.out.cell (World.block_lt_of_cell? w _ hw262_0)).trans hw262_0), ((HB.out.cell (World.block_lt_of_cell? w _ hw263_0)).trans hw263_0)⟩ (fun hHeld => ?_)
                   clear hK K
                   refine zn 27 ?_
                   refine zo HT_ ?_
                   try go_wp2
                   go_roundg k2
                   case measure => have := HK1.out; have := HK2.out; omega
                   case rel => exact ⟨(wrap64 (x6_2 + 1)), (by first | rfl | (simp; done) | (simp [*]; done)), H', ⟨by have := HK1.out; have := HK2.out; omega⟩, ⟨zK BK260.out⟩, ⟨zB⟩⟩
               · rw [if_neg c9] at H
                 exact absurd H (by simp)
             · rw [if_neg c8] at H
               exact absurd H (by simp)
           · rw [if_neg c7] at H
             exact absurd H (by simp)
         · rw [if_neg c6] at H
           exact absurd H (by simp)
       · rw [if_neg c5] at H
         have c5b0 : decide (x6_2 < x5_1) = false := decide_eq_false c5
         clear c5
         have H' := Aside0.mk H
         clear H
         go_wp2
         go_roundg k2
         case measure => have := HK1.out; have := HK2.out; omega
         case rel => exact ⟨(wrap64 (x5_1 + 1)), (by first | rfl | (simp; done) | (simp [*]; done)), H', ⟨by have := HK1.out; have := HK2.out; omega⟩, ⟨zK BK260.out⟩, ⟨zB⟩⟩
   · rw [if_neg c4] at H
     have c4b0 : decide (x5_1 < (l1.length : Int)) = false := decide_eq_false c4
     clear c4
     replace H := Option.bind_eq_some_iff.mp H
     obtain ⟨t261, A160, H⟩ := H
     have A16 := Aside0.mk A160
     clear A160
     obtain rfl := Option.some.inj H
     have hcz17_0 := zy BK260 0
     have hcz17_1 := zy BK260 1
     have hfz17_0 := blk_frozen BK260.out 0
     have hfz17_1 := blk_frozen BK260.out 1
     go_wp2_with (first | ((with_reducible refine gate_callee (f := 66) rfl ?_); refine zc 30 Try.func66 #[.agg #[.int .i64 a0_0, .slice A0_1 l0_1.length c0_1], .slice A1 l1.length c1] ?_; (with_reducible refine (spec_l2Set.calls k1 a0_0 _ _ l0_1 _ _ l1 t261 _ ?side1 ?side2 ?side3 ?side4 A16.out).mono ?_); (case side1 => exact zC (Kd.C_below HR0_1.out HB.out)); (case side2 => exact HC0_1.out); (case side3 => exact zC (Kd.C_below HR1.out HB.out)); (case side4 => exact HC1.out); rintro e w18 ⟨rfl, hb⟩; refine ⟨_, rfl, ?_⟩; replace BK260 := zM (blk_below (g := gb260) (o := .cells #[.int .i64 a0_0, .slice A0_1 l0_1.length c0_1] 27 (0, 0)) (zK BK260.out) hb); replace HB := zM (below_step zB hb); (try clear hb); (try clear hb2); (try clear hk); (try clear hi)))
     go_ret
     exact ⟨by first | rfl | (simp [errW_none, errW_some] <;> rfl) | (simp [*, errW_none, errW_some] <;> rfl), zB⟩

/-! ### spec_IsIndependent: function 24 -/
def spec_IsIndependent.f (k : Nat) (a0_0 : Int) (l0_1 : List (S68)) (l1 : List Int) : Option (Bool × Bool) := (spec_l2Good.f k a0_0 l0_1).bind fun t266 => (if t266 = true then ((spec_l3Free.f k a0_0 l0_1 l1).bind fun t267 => (some (t267, true))) else (some (false, false)))
theorem spec_IsIndependent.mono : ∀ a0 a1 a2 k, LeO (spec_IsIndependent.f k a0 a1 a2) (spec_IsIndependent.f (k + 1) a0 a1 a2) := by
 intro a0 a1 a2 k
 unfold spec_IsIndependent.f
 repeat' first
  | (with_reducible exact spec_l2Good.mono _ _ _)
  | (with_reducible exact spec_l3Free.mono _ _ _ _)
  | (with_reducible exact LeO.refl _)
  | (with_reducible exact LeO.none _)
  | (with_reducible refine LeO.ite ?_ ?_)
  | (with_reducible refine LeO.bind ?_ (fun _ => ?_))
  | exact spec_l2Good.mono _ _ _
  | exact spec_l3Free.mono _ _ _ _
  | exact LeO.none _
  | refine LeO.ite ?_ ?_
  | refine LeO.bind ?_ (fun _ => ?_)
set_option maxHeartbeats 8000000 in
set_option maxRecDepth 100000 in
theorem spec_IsIndependent.calls (k : Nat) (a0_0 : Int) (A0_1 : Option Addr) (c0_1 : Nat) (l0_1 : List (S68)) (A1 : Option Addr) (c1 : Nat) (l1 : List Int) (r1 : Bool) (r2 : Bool) (w : World) (hr0_1 : Kd.C k68 w A0_1 l0_1.length l0_1) (hc0_1 : l0_1.length ≤ c0_1) (hr1 : Kd.C (Kd.int .i64) w A1 l1.length l1) (hc1 : l1.length ≤ c1) (h : spec_IsIndependent.f k a0_0 l0_1 l1 = some (r1, r2)) :
 Calls Try.prog 24 #[.agg #[.int .i64 a0_0, .slice A0_1 l0_1.length c0_1], .slice A1 l1.length c1] w fun e w' => e = .returned (.tuple #[.bool r1, .bool r2]) ∧ Below w.heap.size w w' := by
 have hu27 := Try.underlying27
 have HR0_1 := Aside0.mk hr0_1
 have HC0_1 := Aside0.mk hc0_1
 clear hr0_1 hc0_1
 have HR1 := Aside0.mk hr1
 have HC1 := Aside0.mk hc1
 clear hr1 hc1
 have HB := zM (Below.refl w.heap.size w)
 have H : ((spec_l2Good.f k a0_0 l0_1).bind fun t266 => (if t266 = true then ((spec_l3Free.f k a0_0 l0_1 l1).bind fun t267 => (some (t267, true))) else (some (false, false)))) = some (r1, r2) := h
 clear h
 replace H := Option.bind_eq_some_iff.mp H
 obtain ⟨t266, A30, H⟩ := H
 replace H : (if t266 = true then ((spec_l3Free.f k a0_0 l0_1 l1).bind fun t267 => (some (t267, true))) else (some (false, false))) = some (r1, r2) := H
 have A3 := Aside0.mk A30
 clear A30
 by_cases c4 : t266 = true
 · subst c4
   have H1 : ((spec_l3Free.f k a0_0 l0_1 l1).bind fun t267 => (some (t267, true))) = some (r1, r2) := by rw [if_pos rfl] at H; exact H
   clear H
   have H := H1
   clear H1
   replace H := Option.bind_eq_some_iff.mp H
   obtain ⟨t267, A50, H⟩ := H
   replace H : (some (t267, true)) = some (r1, r2) := H
   have A5 := Aside0.mk A50
   clear A50
   simp only [Option.some.injEq, Prod.mk.injEq] at H
   obtain ⟨rfl, rfl⟩ := H
   go_enter Try.func24, Try.ntmps24
   go_wp2_with (first | ((with_reducible refine gate_dst (N := 2) rfl ?_); refine zb (w := w) 2 #[.int .i64 a0_0, .slice A0_1 l0_1.length c0_1] 27 zB ?_; clear HB; intro gb265 w6 HB BK265 GW265; have GE265 := GW265; have hcz7_0 := zy BK265 0; have hcz7_1 := zy BK265 1; have hfz7_0 := blk_frozen BK265.out 0; have hfz7_1 := blk_frozen BK265.out 1) | ((with_reducible refine gate_callee (f := 52) rfl ?_); refine zc 7 Try.func52 #[.agg #[.int .i64 a0_0, .slice A0_1 l0_1.length c0_1]] ?_; (with_reducible refine (spec_l2Good.calls k a0_0 _ _ l0_1 true _ ?side1 ?side2 A3.out).mono ?_); (case side1 => exact zC (Kd.C_below HR0_1.out HB.out)); (case side2 => exact HC0_1.out); rintro e w8 ⟨rfl, hb⟩; refine ⟨_, rfl, ?_⟩; replace BK265 := zM (blk_below (g := gb265) (o := .cells #[.int .i64 a0_0, .slice A0_1 l0_1.length c0_1] 27 (0, 0)) (zK BK265.out) hb); replace HB := zM (below_step zB hb); (try clear hb); (try clear hb2); (try clear hk); (try clear hi); have hcz9_0 := zy BK265 0; have hcz9_1 := zy BK265 1; have hfz9_0 := blk_frozen BK265.out 0; have hfz9_1 := blk_frozen BK265.out 1) | ((with_reducible refine gate_callee (f := 61) rfl ?_); refine zc 11 Try.func61 #[.agg #[.int .i64 a0_0, .slice A0_1 l0_1.length c0_1], .slice A1 l1.length c1] ?_; (with_reducible refine (spec_l3Free.calls k a0_0 _ _ l0_1 _ _ l1 t267 _ ?side1 ?side2 ?side3 ?side4 A5.out).mono ?_); (case side1 => exact zC (Kd.C_below HR0_1.out HB.out)); (case side2 => exact HC0_1.out); (case side3 => exact zC (Kd.C_below HR1.out HB.out)); (case side4 => exact HC1.out); rintro e w10 ⟨rfl, hb⟩; refine ⟨_, rfl, ?_⟩; replace BK265 := zM (blk_below (g := gb265) (o := .cells #[.int .i64 a0_0, .slice A0_1 l0_1.length c0_1] 27 (0, 0)) (zK BK265.out) hb); replace HB := zM (below_step zB hb); (try clear hb); (try clear hb2); (try clear hk); (try clear hi)))
   go_ret2
   exact ⟨by first | rfl | (simp [errW_none, errW_some] <;> rfl) | (simp [*, errW_none, errW_some] <;> rfl), zB⟩
 · replace c4 := Bool.eq_false_iff.mpr c4
   subst c4
   have H1 : (some (false, false)) = some (r1, r2) := by rw [if_neg (show ¬ (false = true) by decide)] at H; exact H
   clear H
   have H := H1
   clear H1
   simp only [Option.some.injEq, Prod.mk.injEq] at H
   obtain ⟨rfl, rfl⟩ := H
   go_enter Try.func24, Try.ntmps24
   go_wp2_with (first | ((with_reducible refine gate_dst (N := 2) rfl ?_); refine zb (w := w) 2 #[.int .i64 a0_0, .slice A0_1 l0_1.length c0_1] 27 zB ?_; clear HB; intro gb265 w11 HB BK265 GW265; have GE265 := GW265; have hcz12_0 := zy BK265 0; have hcz12_1 := zy BK265 1; have hfz12_0 := blk_frozen BK265.out 0; have hfz12_1 := blk_frozen BK265.out 1) | ((with_reducible refine gate_callee (f := 52) rfl ?_); refine zc 7 Try.func52 #[.agg #[.int .i64 a0_0, .slice A0_1 l0_1.length c0_1]] ?_; (with_reducible refine (spec_l2Good.calls k a0_0 _ _ l0_1 false _ ?side1 ?side2 A3.out).mono ?_); (case side1 => exact zC (Kd.C_below HR0_1.out HB.out)); (case side2 => exact HC0_1.out); rintro e w13 ⟨rfl, hb⟩; refine ⟨_, rfl, ?_⟩; replace BK265 := zM (blk_below (g := gb265) (o := .cells #[.int .i64 a0_0, .slice A0_1 l0_1.length c0_1] 27 (0, 0)) (zK BK265.out) hb); replace HB := zM (below_step zB hb); (try clear hb); (try clear hb2); (try clear hk); (try clear hi)))
   go_ret2
   exact ⟨by first | rfl | (simp [errW_none, errW_some] <;> rfl) | (simp [*, errW_none, errW_some] <;> rfl), zB⟩

/-! ### laws_toIntS: function 25 -/
def laws_toIntS.l0 : Nat → List Int → List Int → Int → Option (List Int)
 | 0, _, _, _ => none
 | k + 1, x0, x3, x4 => if x4 < (x0.length : Int) then (if 0 ≤ x4 then (if x4 < (x3.length : Int) then (laws_toIntS.l0 k x0 (x3.set (x4 : Int).toNat (rd x0 x4)) (wrap64 (x4 + 1))) else (none)) else (none)) else (some x3)
def laws_toIntS.f (k : Nat) (l0 : List Int) : Option (List Int) := if 0 ≤ (l0.length : Int) then (if ((l0.length : Int) : Int).toNat ≤ 35184372088832 then (laws_toIntS.l0 k l0 (List.replicate ((l0.length : Int) : Int).toNat 0) 0) else (none)) else (none)
theorem laws_toIntS.mono_l : ∀ k, (∀ y0 y1 y2, LeO (laws_toIntS.l0 k y0 y1 y2) (laws_toIntS.l0 (k + 1) y0 y1 y2))
 | 0 => fun _ _ _ r h => by simp [laws_toIntS.l0] at h
 | k + 1 => by
  have ih0 := laws_toIntS.mono_l k
  · intro y0 y1 y2
    unfold laws_toIntS.l0
    repeat' first
    | (with_reducible exact ih0 _ _ _)
    | (with_reducible exact LeO.refl _)
    | (with_reducible exact LeO.none _)
    | (with_reducible refine LeO.ite ?_ ?_)
    | (with_reducible refine LeO.bind ?_ (fun _ => ?_))
    | exact ih0 _ _ _
    | exact LeO.none _
    | refine LeO.ite ?_ ?_
    | refine LeO.bind ?_ (fun _ => ?_)
theorem laws_toIntS.mono : ∀ a0 k, LeO (laws_toIntS.f k a0) (laws_toIntS.f (k + 1) a0) := by
 intro a0 k
 have ih0 := laws_toIntS.mono_l k
 unfold laws_toIntS.f
 repeat' first
  | (with_reducible exact ih0 _ _ _)
  | (with_reducible exact LeO.refl _)
  | (with_reducible exact LeO.none _)
  | (with_reducible refine LeO.ite ?_ ?_)
  | (with_reducible refine LeO.bind ?_ (fun _ => ?_))
  | exact ih0 _ _ _
  | exact LeO.none _
  | refine LeO.ite ?_ ?_
  | refine LeO.bind ?_ (fun _ => ?_)
set_option maxHeartbeats 8000000 in
set_option maxRecDepth 100000 in
theorem laws_toIntS.calls (k : Nat) (A0 : Option Addr) (c0 : Nat) (l0 : List Int) (r : List Int) (w : World) (hr0 : Kd.C (Kd.int .i64) w A0 l0.length l0) (hc0 : l0.length ≤ c0) (h : laws_toIntS.f k l0 = some r) :
 Calls Try.prog 25 #[.slice A0 l0.length c0] w fun e w' => ∃ v0_ : Value, e = .returned (v0_) ∧ Kd.R (Kd.int .i64) 3 w' w.heap.size (fun _ => True) v0_ r ∧ Below w.heap.size w w' := by
 have HR0 := Aside0.mk hr0
 have HC0 := Aside0.mk hc0
 clear hr0 hc0
 have HB := zM (Below.refl w.heap.size w)
 have H : (if 0 ≤ (l0.length : Int) then (if ((l0.length : Int) : Int).toNat ≤ 35184372088832 then (laws_toIntS.l0 k l0 (List.replicate ((l0.length : Int) : Int).toNat 0) 0) else (none)) else (none)) = some r := h
 clear h
 by_cases c2 : 0 ≤ (l0.length : Int)
 · rw [if_pos c2] at H
   have c2b0 := eq_true c2
   have c2b1 : decide (0 ≤ (l0.length : Int)) = true := decide_eq_true c2
   clear c2
   by_cases c3 : ((l0.length : Int) : Int).toNat ≤ 35184372088832
   · rw [if_pos c3] at H
     have c3b0 := eq_true c3
     have c3b1 : decide (((l0.length : Int) : Int).toNat ≤ 35184372088832) = true := decide_eq_true c3
     clear c3
     obtain ⟨y268, hy268⟩ : ∃ y_ : List Int, y_ = (List.replicate ((l0.length : Int) : Int).toNat 0) := ⟨_, rfl⟩
     replace H : (laws_toIntS.l0 k l0 y268 0) = some r := by first | (rw [hy268]; with_reducible exact H) | (have H2_ := (Option.bind_some _ _).symm.trans H; rw [hy268]; with_reducible exact H2_) | (have H2_ := (Option.bind_some _ _).symm.trans H; with_reducible exact H2_) | with_reducible exact H | (rw [hy268]; exact H) | exact H
     have Ny268 := Aside0.mk hy268
     clear hy268
     have H' := Aside0.mk H
     clear H
     go_enter Try.func25, Try.ntmps25
     go_wp2_with (first | ((with_reducible refine gate_dst (N := 7) rfl ?_); refine Kd.R_make (Kd.int .i64) _ 3 rfl (N := 7) rfl 34 _ _ rfl (l0.length : Int) rfl rfl Try.underlying34 (.int .i64 0) 8 info3 rfl (by decide) (by omega) 0 (ok := fun _ => True) (okp := fun _ => True) rfl (fun _ hk => hk) trivial (of_decide_eq_true zA) (Nat.le_trans (Nat.mul_le_mul_right _ (of_decide_eq_true zA : (l0.length : Int).toNat ≤ 35184372088832)) (by omega)) (Below.refl _ _) (Nat.le_refl _) ?_; intro v269 w4 ho5 hb hg_ hnew_; clear hg_ hnew_; (first | rw [← Ny268.out] at ho5 | (simp only [Int.reduceToNat] at ho5; rw [← Ny268.out] at ho5)); have HO270 := zM (Kd.R_lower ho5 (below_size zB)); replace HB := zM (below_step zB hb); clear hb ho5))
     go_loopg [4] k (fun kq v4 w' => ∃ (x3_1 : List Int) (x4_1 : Int), v4 = .int .i64 x4_1 ∧ Aside0 (laws_toIntS.l0 kq l0 x3_1 x4_1 = some r) ∧ Aside0 (kq ≤ k) ∧ Aside0 (Kd.R (Kd.int .i64) 3 w' w.heap.size (fun _ => True) v269 x3_1) ∧ Aside0 (Below w.heap.size w w'))
     case atStart => exact ⟨(y268), (0), (by first | rfl | (simp; done) | (simp [*]; done)), H', ⟨Nat.le_refl _⟩, ⟨zR HO270.out⟩, ⟨zB⟩⟩
     case round =>
      clear H'
      try clear c2
      try clear c2b0
      try clear c2b1
      try clear p2
      try clear c3
      try clear c3b0
      try clear c3b1
      obtain ⟨x3_1, x4_1, rfl, HA, HK1, HO_3, HB⟩ := hrel
      cases gk with
      | zero => exact absurd HA.out (by simp [laws_toIntS.l0])
      | succ k1 =>
       have H := HA.out
       clear HA
       simp only [laws_toIntS.l0] at H
       by_cases c6 : x4_1 < (l0.length : Int)
       · rw [if_pos c6] at H
         have c6b0 := decide_eq_true c6
         clear c6
         by_cases c7 : 0 ≤ x4_1
         · rw [if_pos c7] at H
           have c7b0 := decide_eq_true c7
           clear c7
           by_cases c8 : x4_1 < (x3_1.length : Int)
           · rw [if_pos c8] at H
             have c8b0 := decide_eq_true c8
             clear c8
             obtain ⟨y272, hy272⟩ : ∃ y_ : List Int, y_ = (x3_1.set (x4_1 : Int).toNat (rd l0 x4_1)) := ⟨_, rfl⟩
             replace H : (laws_toIntS.l0 k1 l0 y272 (wrap64 (x4_1 + 1))) = some r := by first | (rw [hy272]; with_reducible exact H) | (have H2_ := (Option.bind_some _ _).symm.trans H; rw [hy272]; with_reducible exact H2_) | (have H2_ := (Option.bind_some _ _).symm.trans H; with_reducible exact H2_) | with_reducible exact H | (rw [hy272]; exact H) | exact H
             have Ny272 := Aside0.mk hy272
             clear hy272
             have H' := Aside0.mk H
             clear H
             have p271 : 0 ≤ (x4_1 : Int) := of_decide_eq_true zA
             have q271 : x4_1 < (l0.length : Int) := of_decide_eq_true zA
             obtain ⟨ad271, e271, hx271_0⟩ := Kd.at_int HR0.out x4_1 p271 q271
             cases e271
             (try replace hx271_0 := (HB.out.cell (World.block_lt_of_cell? w _ hx271_0)).trans hx271_0)
             replace p271 := eq_true p271
             replace q271 := eq_true q271
             have p9 : 0 ≤ (x4_1 : Int) := of_decide_eq_true zA
             have q9 : (x4_1 : Int) < ((x3_1.length : Int) : Int) := of_decide_eq_true zA
             obtain ⟨go9, co9, eo9, gb9, gl9, cl9, HG9⟩ := Kd.R_form HO_3.out (by omega)
             (first | cases eo9 | (injection eo9 with ea_ en_ ec_; (first | subst ea_ | (injection ea_ with ea_; subst ea_)); subst ec_; clear en_))
             have GB9 := Aside0.mk gb9
             have GG9 := Aside0.mk HG9
             clear gb9 gl9 HG9
             obtain ⟨hx9_0, hf9_0⟩ := Kd.R_celln 0 HO_3.out (x4_1 : Int) p9 q9
             replace p9 := eq_true p9
             replace q9 := eq_true q9
             have HP10 := Kd.R_putg HO_3.out (x4_1 : Int) (rd l0 x4_1)
             go_wp2_with (first | ((with_reducible refine gate_store (t := 3) (p := 20) rfl ?_); refine store_event (t := 3) (p := 20) (v := ?vo_w11) (w1 := (wr.setCell ⟨go9, (x4_1 : Int).toNat, none⟩ (.int .i64 (rd l0 x4_1)))) ?hg ?ho ?hn ?hr ?_; (case ho => rfl); (case hg => rfl); (case hn => rfl); (case hr => first | (go_simp; done) | (go_simp; rfl)); intro w11 hw; have hg : wr.grownBy w11 (some go9) := (by rw [hw]; exact HP10.2); have hp_ : Kd.R (Kd.int .i64) 3 w11 w.heap.size (fun _ => True) (.slice (some ⟨go9, 0, none⟩) x3_1.length co9) y272 := (by rw [hw, Ny272.out]; exact HP10.1); clear HP10; replace HO_3 := zM (hp_); replace HB := zM ((by rw [hw]; exact below_set (HB.out) GB9.out : Below w.heap.size w w11)); clear hg hw hp_))
             go_roundg k1
             case measure => have := HK1.out; omega
             case rel => exact ⟨(y272), (wrap64 (x4_1 + 1)), (by first | rfl | (simp; done) | (simp [*]; done)), H', ⟨by have := HK1.out; omega⟩, ⟨zR HO_3.out⟩, ⟨zB⟩⟩
           · rw [if_neg c8] at H
             exact absurd H (by simp)
         · rw [if_neg c7] at H
           exact absurd H (by simp)
       · rw [if_neg c6] at H
         have c6b0 : decide (x4_1 < (l0.length : Int)) = false := decide_eq_false c6
         clear c6
         obtain rfl := Option.some.inj H
         go_wp2
         go_ret
         exact ⟨_, by first | rfl | (simp [errW_none, errW_some] <;> rfl) | (simp [*, errW_none, errW_some] <;> rfl), by (with_reducible repeat (first | apply Kd.R_alloc | apply Kd.R_drewN | apply Kd.R_drew)); exact HO_3.out, zB⟩
   · rw [if_neg c3] at H
     exact absurd H (by simp)
 · rw [if_neg c2] at H
   exact absurd H (by simp)

end Go.Proofs.Ytpbngmkhpcgpkaa.P
