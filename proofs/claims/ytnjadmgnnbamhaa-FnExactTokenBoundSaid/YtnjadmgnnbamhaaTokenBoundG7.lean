-- Written by a program of this session (the kit's print, turned: wip/print/patch.py) out of the translation. Not trusted: Lean checks it.
import Derived.Test.YtnjadmgnnbamhaaTokenBoundG5
import Derived.Test.YtnjadmgnnbamhaaTokenBoundG6
namespace Go.Proofs.Ytnjadmgnnbamhaa.P
open Go.RowKit Go.Proofs.YtnjadmgnnbamhaaW.PrintWords Go.Proofs.YtnjadmgnnbamhaaW.PrintLast Go.Proofs.YtnjadmgnnbamhaaW.PrintMore
attribute [local go_sem] max2_int min2_int max_two min_two max_three min_three max_four min_four   -- for this text's walks alone
set_option linter.unusedVariables false
set_option linter.unusedSimpArgs false

/-! ### impl_IsGraph: function 29 -/
def impl_IsGraph.f (k : Nat) (a0_0 : Int) (l0_1 : List (S50)) : Option (Bool) := (impl_between.f a0_0 0 8).bind fun t145 => (if t145 = true then ((impl_isPairs.f k l0_1 a0_0).bind fun t146 => (some t146)) else (some false))
set_option maxHeartbeats 8000000 in
set_option maxRecDepth 100000 in
theorem impl_IsGraph.calls (k : Nat) (a0_0 : Int) (A0_1 : Option Addr) (c0_1 : Nat) (l0_1 : List (S50)) (r : Bool) (w : World) (hr0_1 : Kd.C k50 w A0_1 l0_1.length l0_1) (hc0_1 : l0_1.length ≤ c0_1) (h : impl_IsGraph.f k a0_0 l0_1 = some r) :
 Calls Try.prog 29 #[.agg #[.int .i64 a0_0, .slice A0_1 l0_1.length c0_1]] w fun e w' => e = .returned (.bool r) ∧ Below w.heap.size w w' := by
 have hu29 := Try.underlying29
 have HR0_1 := Aside0.mk hr0_1
 have HC0_1 := Aside0.mk hc0_1
 clear hr0_1 hc0_1
 have HB := zM (Below.refl w.heap.size w)
 have H : ((impl_between.f a0_0 0 8).bind fun t145 => (if t145 = true then ((impl_isPairs.f k l0_1 a0_0).bind fun t146 => (some t146)) else (some false))) = some r := h
 clear h
 replace H := Option.bind_eq_some_iff.mp H
 obtain ⟨t145, A20, H⟩ := H
 have A2 := Aside0.mk A20
 clear A20
 by_cases c3 : t145 = true
 · subst c3
   rw [if_pos rfl] at H
   replace H := Option.bind_eq_some_iff.mp H
   obtain ⟨t146, A40, H⟩ := H
   have A4 := Aside0.mk A40
   clear A40
   obtain rfl := Option.some.inj H
   go_enter Try.func29, Try.ntmps29
   go_wp2_with (first | ((with_reducible refine gate_dst (N := 1) rfl ?_); refine zb (w := w) 1 #[.int .i64 a0_0, .slice A0_1 l0_1.length c0_1] 29 zB ?_; clear HB; intro gb144 w5 HB BK144 GW144; have GE144 := GW144; have hcz6_0 := zy BK144 0; have hcz6_1 := zy BK144 1; have hfz6_0 := blk_frozen BK144.out 0; have hfz6_1 := blk_frozen BK144.out 1) | ((with_reducible refine gate_callee (f := 37) rfl ?_); refine zc 5 Try.func37 #[.int .i64 a0_0, .int .i64 0, .int .i64 8] ?_; (with_reducible refine (impl_between.calls a0_0 0 8 true _ A2.out).mono ?_); rintro e w' ⟨rfl, ⟨nd, rfl⟩⟩; refine ⟨_, rfl, ?_⟩) | (go_at_call 38; (with_reducible refine (impl_isPairs.calls k _ _ l0_1 a0_0 t146 _ ?side1 ?side2 A4.out).mono ?_); (case side1 => exact zC (Kd.C_below HR0_1.out zB)); (case side2 => exact HC0_1.out); rintro e w7 ⟨rfl, hb⟩; replace BK144 := zM (blk_below (g := gb144) (o := .cells #[.int .i64 a0_0, .slice A0_1 l0_1.length c0_1] 29 (0, 0)) (zK BK144.out) hb); replace HB := zM (below_step zB hb); (try clear hb); (try clear hb2); (try clear hk); (try clear hi)))
   go_ret
   exact ⟨by first | rfl | (simp [errW_none, errW_some] <;> rfl) | (simp [*, errW_none, errW_some] <;> rfl), zB⟩
 · replace c3 := Bool.eq_false_iff.mpr c3
   subst c3
   have H1 : (some false) = some r := by rw [if_neg (show ¬ (false = true) by decide)] at H; exact H
   clear H
   have H := H1
   clear H1
   obtain rfl := Option.some.inj H
   go_enter Try.func29, Try.ntmps29
   go_wp2_with (first | ((with_reducible refine gate_dst (N := 1) rfl ?_); refine zb (w := w) 1 #[.int .i64 a0_0, .slice A0_1 l0_1.length c0_1] 29 zB ?_; clear HB; intro gb144 w8 HB BK144 GW144; have GE144 := GW144; have hcz9_0 := zy BK144 0; have hcz9_1 := zy BK144 1; have hfz9_0 := blk_frozen BK144.out 0; have hfz9_1 := blk_frozen BK144.out 1) | ((with_reducible refine gate_callee (f := 37) rfl ?_); refine zc 5 Try.func37 #[.int .i64 a0_0, .int .i64 0, .int .i64 8] ?_; (with_reducible refine (impl_between.calls a0_0 0 8 false _ A2.out).mono ?_); rintro e w' ⟨rfl, ⟨nd, rfl⟩⟩; refine ⟨_, rfl, ?_⟩))
   go_ret
   exact ⟨by first | rfl | (simp [errW_none, errW_some] <;> rfl) | (simp [*, errW_none, errW_some] <;> rfl), zB⟩

/-! ### impl_isRising: function 39 -/
def impl_isRising.l0 : Nat → List Int → Int → List Int → Int → Int → Option (Bool)
 | 0, _, _, _, _, _ => none
 | k + 1, x0, x1, x7, x8, x9 => if x9 < x8 then (if 0 ≤ x9 then (if x9 < (x7.length : Int) then ((impl_between.f (rd x7 x9) 0 (wrap64 (x1 - 1))).bind fun t148 => (if t148 = true then (if x9 > 0 then (if 0 ≤ (wrap64 (x9 - 1)) then (if (wrap64 (x9 - 1)) < (x0.length : Int) then (if (rd x7 x9) ≤ (rd x0 (wrap64 (x9 - 1))) then (some false) else (impl_isRising.l0 k x0 x1 x7 x8 (wrap64 (x9 + 1)))) else (none)) else (none)) else (impl_isRising.l0 k x0 x1 x7 x8 (wrap64 (x9 + 1)))) else (some false))) else (none)) else (none)) else (some true)
def impl_isRising.f (k : Nat) (l0 : List Int) (a1 : Int) : Option (Bool) := impl_isRising.l0 k l0 a1 l0 (l0.length : Int) 0
set_option maxHeartbeats 8000000 in
set_option maxRecDepth 100000 in
theorem impl_isRising.calls (k : Nat) (A0 : Option Addr) (c0 : Nat) (l0 : List Int) (a1 : Int) (r : Bool) (w : World) (hr0 : Kd.C (Kd.int .i64) w A0 l0.length l0) (hc0 : l0.length ≤ c0) (h : impl_isRising.f k l0 a1 = some r) :
 Calls Try.prog 39 #[.slice A0 l0.length c0, .int .i64 a1] w fun e w' => e = .returned (.bool r) ∧ Drawn0 w w' := by
 have HR0 := Aside0.mk hr0
 have HC0 := Aside0.mk hc0
 clear hr0 hc0
 have H : (impl_isRising.l0 k l0 a1 l0 (l0.length : Int) 0) = some r := h
 clear h
 have H' := Aside0.mk H
 clear H
 go_enter Try.func39, Try.ntmps39
 go_wp2
 go_loopg [9] k (fun kq v9 w' => ∃ (x9_1 : Int), v9 = .int .i64 x9_1 ∧ Aside0 (impl_isRising.l0 kq l0 a1 l0 (l0.length : Int) x9_1 = some r) ∧ Aside0 (kq ≤ k) ∧ Drawn0 w w')
 case atStart => exact ⟨(0), (by first | rfl | (simp; done) | (simp [*]; done)), H', ⟨Nat.le_refl _⟩, by repeat (first | exact Drawn0.refl _ | apply Drawn0.step)⟩
 case round =>
  clear H'
  try clear p2
  obtain ⟨x9_1, rfl, HA, HK1, ⟨m1, rfl⟩⟩ := hrel
  cases gk with
  | zero => exact absurd HA.out (by simp [impl_isRising.l0])
  | succ k1 =>
   have H := HA.out
   clear HA
   simp only [impl_isRising.l0] at H
   by_cases c3 : x9_1 < (l0.length : Int)
   · rw [if_pos c3] at H
     have c3b0 := decide_eq_true c3
     clear c3
     by_cases c4 : 0 ≤ x9_1
     · rw [if_pos c4] at H
       have c4b0 := decide_eq_true c4
       clear c4
       by_cases c5 : x9_1 < (l0.length : Int)
       · rw [if_pos c5] at H
         have c5b0 := decide_eq_true c5
         clear c5
         replace H := Option.bind_eq_some_iff.mp H
         obtain ⟨t148, A60, H⟩ := H
         have A6 := Aside0.mk A60
         clear A60
         by_cases c7 : t148 = true
         · subst c7
           rw [if_pos rfl] at H
           by_cases c8 : x9_1 > 0
           · rw [if_pos c8] at H
             have c8b0 : decide (0 < x9_1) = true := decide_eq_true c8
             clear c8
             obtain ⟨ji9, hji9⟩ : ∃ j_ : Int, (wrap64 (x9_1 - 1)) = j_ := ⟨_, rfl⟩
             replace H : (if 0 ≤ (ji9) then (if (ji9) < (l0.length : Int) then (if (rd l0 x9_1) ≤ (rd l0 (ji9)) then (some false) else (impl_isRising.l0 k1 l0 a1 l0 (l0.length : Int) (wrap64 (x9_1 + 1)))) else (none)) else (none)) = some r := by first | (rw [hji9] at H; exact H) | (simp only [hji9] at H ⊢; exact H)
             (try rw [hji9] at A6)
             have hji9w : (IntKind.i64.wrap (x9_1 - 1)) = ji9 := (i64_w _).trans hji9
             by_cases c10 : 0 ≤ (ji9)
             · rw [if_pos c10] at H
               have c10b0 := decide_eq_true c10
               clear c10
               by_cases c11 : (ji9) < (l0.length : Int)
               · rw [if_pos c11] at H
                 have c11b0 := decide_eq_true c11
                 clear c11
                 by_cases c12 : (rd l0 x9_1) ≤ (rd l0 (ji9))
                 · rw [if_pos c12] at H
                   have c12b0 := decide_eq_true c12
                   clear c12
                   obtain rfl := Option.some.inj H
                   have p147 : 0 ≤ (x9_1 : Int) := of_decide_eq_true zA
                   have q147 : x9_1 < (l0.length : Int) := of_decide_eq_true zA
                   obtain ⟨ad147, e147, hx147_0⟩ := Kd.at_int HR0.out x9_1 p147 q147
                   cases e147
                   replace p147 := eq_true p147
                   replace q147 := eq_true q147
                   go_wp2_with (first | ((with_reducible refine gate_callee (f := 37) rfl ?_); refine zc 17 Try.func37 #[.int .i64 (rd l0 x9_1), .int .i64 0, .int .i64 (wrap64 (a1 - 1))] ?_; (with_reducible refine (impl_between.calls (rd l0 x9_1) 0 (wrap64 (a1 - 1)) true _ A6.out).mono ?_); rintro e w' ⟨rfl, ⟨nd, rfl⟩⟩; refine ⟨_, rfl, ?_⟩; have p149 : 0 ≤ ((ji9) : Int) := of_decide_eq_true zA; have q149 : (ji9) < (l0.length : Int) := of_decide_eq_true zA; obtain ⟨ad149, e149, hx149_0⟩ := Kd.at_int HR0.out (ji9) p149 q149; obtain rfl : ad147 = ad149 := (by injection e149); replace p149 := eq_true p149; replace q149 := eq_true q149))
                   go_ret
                   exact ⟨by first | rfl | (simp; done) | (simp only [← hji9] <;> (first | rfl | simp)) | (simp [*]; done), by repeat (first | exact Drawn0.refl _ | apply Drawn0.step)⟩
                 · rw [if_neg c12] at H
                   have c12b0 : decide ((rd l0 x9_1) ≤ (rd l0 (ji9))) = false := decide_eq_false c12
                   clear c12
                   have H' := Aside0.mk H
                   clear H
                   have p147 : 0 ≤ (x9_1 : Int) := of_decide_eq_true zA
                   have q147 : x9_1 < (l0.length : Int) := of_decide_eq_true zA
                   obtain ⟨ad147, e147, hx147_0⟩ := Kd.at_int HR0.out x9_1 p147 q147
                   cases e147
                   replace p147 := eq_true p147
                   replace q147 := eq_true q147
                   go_wp2_with (first | ((with_reducible refine gate_callee (f := 37) rfl ?_); refine zc 17 Try.func37 #[.int .i64 (rd l0 x9_1), .int .i64 0, .int .i64 (wrap64 (a1 - 1))] ?_; (with_reducible refine (impl_between.calls (rd l0 x9_1) 0 (wrap64 (a1 - 1)) true _ A6.out).mono ?_); rintro e w' ⟨rfl, ⟨nd, rfl⟩⟩; refine ⟨_, rfl, ?_⟩; have p149 : 0 ≤ ((ji9) : Int) := of_decide_eq_true zA; have q149 : (ji9) < (l0.length : Int) := of_decide_eq_true zA; obtain ⟨ad149, e149, hx149_0⟩ := Kd.at_int HR0.out (ji9) p149 q149; obtain rfl : ad147 = ad149 := (by injection e149); replace p149 := eq_true p149; replace q149 := eq_true q149))
                   go_roundg k1
                   case measure => have := HK1.out; omega
                   case rel => exact ⟨(wrap64 (x9_1 + 1)), (by first | rfl | (simp; done) | (simp [*]; done)), H', ⟨by have := HK1.out; omega⟩, by repeat (first | exact Drawn0.refl _ | apply Drawn0.step)⟩
               · rw [if_neg c11] at H
                 exact absurd H (by simp)
             · rw [if_neg c10] at H
               exact absurd H (by simp)
           · rw [if_neg c8] at H
             have c8b0 : decide (0 < x9_1) = false := decide_eq_false c8
             clear c8
             have H' := Aside0.mk H
             clear H
             have p147 : 0 ≤ (x9_1 : Int) := of_decide_eq_true zA
             have q147 : x9_1 < (l0.length : Int) := of_decide_eq_true zA
             obtain ⟨ad147, e147, hx147_0⟩ := Kd.at_int HR0.out x9_1 p147 q147
             cases e147
             replace p147 := eq_true p147
             replace q147 := eq_true q147
             go_wp2_with (first | ((with_reducible refine gate_callee (f := 37) rfl ?_); refine zc 17 Try.func37 #[.int .i64 (rd l0 x9_1), .int .i64 0, .int .i64 (wrap64 (a1 - 1))] ?_; (with_reducible refine (impl_between.calls (rd l0 x9_1) 0 (wrap64 (a1 - 1)) true _ A6.out).mono ?_); rintro e w' ⟨rfl, ⟨nd, rfl⟩⟩; refine ⟨_, rfl, ?_⟩))
             go_roundg k1
             case measure => have := HK1.out; omega
             case rel => exact ⟨(wrap64 (x9_1 + 1)), (by first | rfl | (simp; done) | (simp [*]; done)), H', ⟨by have := HK1.out; omega⟩, by repeat (first | exact Drawn0.refl _ | apply Drawn0.step)⟩
         · replace c7 := Bool.eq_false_iff.mpr c7
           subst c7
           have H1 : (some false) = some r := by rw [if_neg (show ¬ (false = true) by decide)] at H; exact H
           clear H
           have H := H1
           clear H1
           obtain rfl := Option.some.inj H
           have p147 : 0 ≤ (x9_1 : Int) := of_decide_eq_true zA
           have q147 : x9_1 < (l0.length : Int) := of_decide_eq_true zA
           obtain ⟨ad147, e147, hx147_0⟩ := Kd.at_int HR0.out x9_1 p147 q147
           cases e147
           replace p147 := eq_true p147
           replace q147 := eq_true q147
           go_wp2_with (first | ((with_reducible refine gate_callee (f := 37) rfl ?_); refine zc 17 Try.func37 #[.int .i64 (rd l0 x9_1), .int .i64 0, .int .i64 (wrap64 (a1 - 1))] ?_; (with_reducible refine (impl_between.calls (rd l0 x9_1) 0 (wrap64 (a1 - 1)) false _ A6.out).mono ?_); rintro e w' ⟨rfl, ⟨nd, rfl⟩⟩; refine ⟨_, rfl, ?_⟩))
           go_ret
           exact ⟨by first | rfl | (simp; done) | (simp [*]; done), by repeat (first | exact Drawn0.refl _ | apply Drawn0.step)⟩
       · rw [if_neg c5] at H
         exact absurd H (by simp)
     · rw [if_neg c4] at H
       exact absurd H (by simp)
   · rw [if_neg c3] at H
     have c3b0 : decide (x9_1 < (l0.length : Int)) = false := decide_eq_false c3
     clear c3
     obtain rfl := Option.some.inj H
     go_wp2
     go_ret
     exact ⟨by first | rfl | (simp; done) | (simp [*]; done), by repeat (first | exact Drawn0.refl _ | apply Drawn0.step)⟩

/-! ### spec_l1In: function 43 -/
def spec_l1In.f (a0 : Int) (a1 : Int) (a2 : Int) : Option (Bool) := if a0 ≥ a1 then (some (decide (a0 ≤ a2))) else (some false)
set_option maxHeartbeats 8000000 in
set_option maxRecDepth 100000 in
theorem spec_l1In.calls (a0 : Int) (a1 : Int) (a2 : Int) (r : Bool) (w : World) (h : spec_l1In.f a0 a1 a2 = some r) :
 Calls Try.prog 43 #[.int .i64 a0, .int .i64 a1, .int .i64 a2] w fun e w' => e = .returned (.bool r) ∧ Drawn0 w w' := by
 have H : (if a0 ≥ a1 then (some (decide (a0 ≤ a2))) else (some false)) = some r := h
 clear h
 by_cases c4 : a0 ≥ a1
 · rw [if_pos c4] at H
   have c4b0 : decide (a1 ≤ a0) = true := decide_eq_true c4
   clear c4
   obtain rfl := Option.some.inj H
   go_enter Try.func43, Try.ntmps43
   go_wp2
   go_ret
   exact ⟨by first | rfl | (simp; done) | (simp [*]; done), by repeat (first | exact Drawn0.refl _ | apply Drawn0.step)⟩
 · rw [if_neg c4] at H
   have c4b0 : decide (a1 ≤ a0) = false := decide_eq_false c4
   clear c4
   obtain rfl := Option.some.inj H
   go_enter Try.func43, Try.ntmps43
   go_wp2
   go_ret
   exact ⟨by first | rfl | (simp; done) | (simp [*]; done), by repeat (first | exact Drawn0.refl _ | apply Drawn0.step)⟩

/-! ### spec_l2Edge: function 54 -/
def spec_l2Edge.f (a0_0 : Int) (a0_1 : Int) (a1_0 : Int) (a1_1 : Int) : Option (Bool) := if a0_0 < a1_0 then (some true) else (if a0_0 = a1_0 then (some (decide (a0_1 < a1_1))) else (some false))
set_option maxHeartbeats 8000000 in
set_option maxRecDepth 100000 in
theorem spec_l2Edge.calls (a0_0 : Int) (a0_1 : Int) (a1_0 : Int) (a1_1 : Int) (r : Bool) (w : World) (h : spec_l2Edge.f a0_0 a0_1 a1_0 a1_1 = some r) :
 Calls Try.prog 54 #[.agg #[.int .i64 a0_0, .int .i64 a0_1], .agg #[.int .i64 a1_0, .int .i64 a1_1]] w fun e w' => e = .returned (.bool r) ∧ Below w.heap.size w w' := by
 have hu50 := Try.underlying50
 have HB := zM (Below.refl w.heap.size w)
 have H : (if a0_0 < a1_0 then (some true) else (if a0_0 = a1_0 then (some (decide (a0_1 < a1_1))) else (some false))) = some r := h
 clear h
 by_cases c3 : a0_0 < a1_0
 · rw [if_pos c3] at H
   have c3b0 := decide_eq_true c3
   clear c3
   obtain rfl := Option.some.inj H
   go_enter Try.func54, Try.ntmps54
   go_wp2_with (first | ((with_reducible refine gate_dst (N := 2) rfl ?_); refine zb (w := w) 2 #[.int .i64 a0_0, .int .i64 a0_1] 50 zB ?_; clear HB; intro gb150 w4 HB BK150 GW150; have GE150 := GW150) | ((with_reducible refine gate_dst (N := 3) rfl ?_); refine ze 3 #[.int .i64 a1_0, .int .i64 a1_1] 50 ?_; intro gb151 hg w5 hbox hb; have BK151 := zM (hbox); have GW151 := zM ((by rw [hg]; exact (below_size zB) : w.heap.size ≤ gb151)); have GE151 := zM ((by rw [hg]; exact (below_size zB) : w.heap.size ≤ gb151)); replace HB := zM (below_step zB hb); have NB150_151 := zM ((by rw [hg]; exact Nat.ne_of_lt (blk_lt (g := gb150) (o := .cells #[.int .i64 a0_0, .int .i64 a0_1] 50 (0, 0)) (zK BK150.out)) : gb150 ≠ gb151)); have NB151_150 := zM ((by rw [hg]; exact Nat.ne_of_gt (blk_lt (g := gb150) (o := .cells #[.int .i64 a0_0, .int .i64 a0_1] 50 (0, 0)) (zK BK150.out)) : gb151 ≠ gb150)); replace BK150 := zM (blk_below (g := gb150) (o := .cells #[.int .i64 a0_0, .int .i64 a0_1] 50 (0, 0)) (zK BK150.out) hb); clear hb hbox hg; have hnb6 := NB150_151.out; have hnc6 := NB151_150.out; have hcz7_0 := zy BK150 0; have hcz7_1 := zy BK150 1; have hfz7_0 := blk_frozen BK150.out 0; have hfz7_1 := blk_frozen BK150.out 1; have hcz8_0 := zy BK151 0; have hcz8_1 := zy BK151 1; have hfz8_0 := blk_frozen BK151.out 0; have hfz8_1 := blk_frozen BK151.out 1))
   go_ret
   exact ⟨by first | rfl | (simp [errW_none, errW_some] <;> rfl) | (simp [*, errW_none, errW_some] <;> rfl), zB⟩
 · rw [if_neg c3] at H
   have c3b0 : decide (a0_0 < a1_0) = false := decide_eq_false c3
   clear c3
   by_cases c9 : a0_0 = a1_0
   · rw [if_pos c9] at H
     have c9b0 : (a0_0 == a1_0) = true := beq_iff_eq.mpr c9
     have c9b1 : (a0_0 != a1_0) = false := bne_eq_false_iff_eq.mpr c9
     clear c9
     obtain rfl := Option.some.inj H
     go_enter Try.func54, Try.ntmps54
     go_wp2_with (first | ((with_reducible refine gate_dst (N := 2) rfl ?_); refine zb (w := w) 2 #[.int .i64 a0_0, .int .i64 a0_1] 50 zB ?_; clear HB; intro gb150 w10 HB BK150 GW150; have GE150 := GW150) | ((with_reducible refine gate_dst (N := 3) rfl ?_); refine ze 3 #[.int .i64 a1_0, .int .i64 a1_1] 50 ?_; intro gb151 hg w11 hbox hb; have BK151 := zM (hbox); have GW151 := zM ((by rw [hg]; exact (below_size zB) : w.heap.size ≤ gb151)); have GE151 := zM ((by rw [hg]; exact (below_size zB) : w.heap.size ≤ gb151)); replace HB := zM (below_step zB hb); have NB150_151 := zM ((by rw [hg]; exact Nat.ne_of_lt (blk_lt (g := gb150) (o := .cells #[.int .i64 a0_0, .int .i64 a0_1] 50 (0, 0)) (zK BK150.out)) : gb150 ≠ gb151)); have NB151_150 := zM ((by rw [hg]; exact Nat.ne_of_gt (blk_lt (g := gb150) (o := .cells #[.int .i64 a0_0, .int .i64 a0_1] 50 (0, 0)) (zK BK150.out)) : gb151 ≠ gb150)); replace BK150 := zM (blk_below (g := gb150) (o := .cells #[.int .i64 a0_0, .int .i64 a0_1] 50 (0, 0)) (zK BK150.out) hb); clear hb hbox hg; have hnb12 := NB150_151.out; have hnc12 := NB151_150.out; have hcz13_0 := zy BK150 0; have hcz13_1 := zy BK150 1; have hfz13_0 := blk_frozen BK150.out 0; have hfz13_1 := blk_frozen BK150.out 1; have hcz14_0 := zy BK151 0; have hcz14_1 := zy BK151 1; have hfz14_0 := blk_frozen BK151.out 0; have hfz14_1 := blk_frozen BK151.out 1))
     go_ret
     exact ⟨by first | rfl | (simp [errW_none, errW_some] <;> rfl) | (simp [*, errW_none, errW_some] <;> rfl), zB⟩
   · rw [if_neg c9] at H
     have c9b0 : (a0_0 == a1_0) = false := beq_eq_false_iff_ne.mpr c9
     have c9b1 : (a0_0 != a1_0) = true := bne_iff_ne.mpr c9
     obtain rfl := Option.some.inj H
     go_enter Try.func54, Try.ntmps54
     go_wp2_with (first | ((with_reducible refine gate_dst (N := 2) rfl ?_); refine zb (w := w) 2 #[.int .i64 a0_0, .int .i64 a0_1] 50 zB ?_; clear HB; intro gb150 w15 HB BK150 GW150; have GE150 := GW150) | ((with_reducible refine gate_dst (N := 3) rfl ?_); refine ze 3 #[.int .i64 a1_0, .int .i64 a1_1] 50 ?_; intro gb151 hg w16 hbox hb; have BK151 := zM (hbox); have GW151 := zM ((by rw [hg]; exact (below_size zB) : w.heap.size ≤ gb151)); have GE151 := zM ((by rw [hg]; exact (below_size zB) : w.heap.size ≤ gb151)); replace HB := zM (below_step zB hb); have NB150_151 := zM ((by rw [hg]; exact Nat.ne_of_lt (blk_lt (g := gb150) (o := .cells #[.int .i64 a0_0, .int .i64 a0_1] 50 (0, 0)) (zK BK150.out)) : gb150 ≠ gb151)); have NB151_150 := zM ((by rw [hg]; exact Nat.ne_of_gt (blk_lt (g := gb150) (o := .cells #[.int .i64 a0_0, .int .i64 a0_1] 50 (0, 0)) (zK BK150.out)) : gb151 ≠ gb150)); replace BK150 := zM (blk_below (g := gb150) (o := .cells #[.int .i64 a0_0, .int .i64 a0_1] 50 (0, 0)) (zK BK150.out) hb); clear hb hbox hg; have hnb17 := NB150_151.out; have hnc17 := NB151_150.out; have hcz18_0 := zy BK150 0; have hcz18_1 := zy BK150 1; have hfz18_0 := blk_frozen BK150.out 0; have hfz18_1 := blk_frozen BK150.out 1; have hcz19_0 := zy BK151 0; have hcz19_1 := zy BK151 1; have hfz19_0 := blk_frozen BK151.out 0; have hfz19_1 := blk_frozen BK151.out 1))
     go_ret
     exact ⟨by first | rfl | (simp [errW_none, errW_some] <;> rfl) | (simp [*, errW_none, errW_some] <;> rfl), zB⟩

end Go.Proofs.Ytnjadmgnnbamhaa.P
namespace Go.Proofs.Ytnjadmgnnbamhaa.P
open Go.RowKit Go.Proofs.YtnjadmgnnbamhaaW.PrintWords Go.Proofs.YtnjadmgnnbamhaaW.PrintLast Go.Proofs.YtnjadmgnnbamhaaW.PrintMore
attribute [local go_sem] max2_int min2_int max_two min_two max_three min_three max_four min_four   -- for this text's walks alone
set_option linter.unusedVariables false
set_option linter.unusedSimpArgs false

/-! ### spec_l2Pairs: function 44 -/
def spec_l2Pairs.l0 : Nat → List (S50) → Int → Int → Option (Bool)
 | 0, _, _, _ => none
 | k + 1, x0, x1, x5 => if x5 < (x0.length : Int) then (if 0 ≤ x5 then ((spec_l1In.f ((rd_T50 x0 x5).f0) 0 (wrap64 (x1 - 1))).bind fun t154 => (if t154 = true then ((spec_l1In.f ((rd_T50 x0 x5).f1) 0 (wrap64 (x1 - 1))).bind fun t155 => (if t155 = true then (if ((rd_T50 x0 x5).f0) ≥ ((rd_T50 x0 x5).f1) then (some false) else (if x5 > 0 then (if 0 ≤ (wrap64 (x5 - 1)) then (if (wrap64 (x5 - 1)) < (x0.length : Int) then ((spec_l2Edge.f ((rd_T50 x0 (wrap64 (x5 - 1))).f0) ((rd_T50 x0 (wrap64 (x5 - 1))).f1) ((rd_T50 x0 x5).f0) ((rd_T50 x0 x5).f1)).bind fun t157 => (if t157 = true then (spec_l2Pairs.l0 k x0 x1 (wrap64 (x5 + 1))) else (some false))) else (none)) else (none)) else (spec_l2Pairs.l0 k x0 x1 (wrap64 (x5 + 1))))) else (some false))) else (some false))) else (none)) else (some true)
def spec_l2Pairs.f (k : Nat) (l0 : List (S50)) (a1 : Int) : Option (Bool) := spec_l2Pairs.l0 k l0 a1 0
def spec_l2Pairs.T5 : Bool × List (List Nat × List Nat) := (true, [([], []), ([0], [0]), ([], []), ([2], [2]), ([1, 3], [1, 3]), ([4], [4]), ([5, 4], [5]), ([6], [6]), ([7, 6], [6, 7]), ([6], [6]), ([9, 6], [6, 9]), ([8, 10, 6, 6], [6, 8, 10]), ([11, 6], [6, 11]), ([6, 12], [6, 12]), ([13, 11], [13]), ([14], [14]), ([15, 14], [14, 15]), ([14], [14]), ([17, 14], [14, 17]), ([16, 18, 14], [14, 16, 18]), ([14, 19], [14, 19]), ([20, 14], [20]), ([21], [21]), ([22, 21], [21, 22]), ([23, 21, 21], [21, 23]), ([24], [24]), ([24], [24]), ([26, 24], [24, 26]), ([25, 27, 24], [24, 25, 27]), ([28, 24], [24, 28]), ([24], [24]), ([29, 30, 24, 24], [24, 29, 30]), ([31, 24], [24, 31]), ([24, 32, 21], [21, 24, 32]), ([21, 33], [21, 33])])
def spec_l2Pairs.B5 : List Nat := [0, 1, 0, 4, 15, 31, 63, 127, 255, 127, 639, 2047, 4095, 8191, 16383, 32767, 65535, 32767, 163839, 524287, 1048575, 2097151, 4194303, 8388607, 16777215, 33554431, 33554431, 100663295, 268435455, 536870911, 33554431, 2147483647, 4294967295, 8589934591, 17179869183]
theorem spec_l2Pairs.tab5 : rtab .any (opsOf Try.f44 5) = spec_l2Pairs.T5 := by kernel_rfl
theorem spec_l2Pairs.bits5 : waitsOk spec_l2Pairs.T5.2 spec_l2Pairs.B5 = true := by kernel_rfl
set_option maxHeartbeats 8000000 in
set_option maxRecDepth 100000 in
theorem spec_l2Pairs.calls (k : Nat) (A0 : Option Addr) (c0 : Nat) (l0 : List (S50)) (a1 : Int) (r : Bool) (w : World) (hr0 : Kd.C k50 w A0 l0.length l0) (hc0 : l0.length ≤ c0) (h : spec_l2Pairs.f k l0 a1 = some r) :
 Calls Try.prog 44 #[.slice A0 l0.length c0, .int .i64 a1] w fun e w' => e = .returned (.bool r) ∧ Below w.heap.size w w' := by
 have hu50 := Try.underlying50
 have HR0 := Aside0.mk hr0
 have HC0 := Aside0.mk hc0
 clear hr0 hc0
 have HB := zM (Below.refl w.heap.size w)
 have H : (spec_l2Pairs.l0 k l0 a1 0) = some r := h
 clear h
 have H' := Aside0.mk H
 clear H
 go_enter Try.func44, Try.ntmps44
 go_wp2
 go_loopg [5] k (fun kq v5 w' => ∃ (x5_1 : Int), v5 = .int .i64 x5_1 ∧ Aside0 (spec_l2Pairs.l0 kq l0 a1 x5_1 = some r) ∧ Aside0 (kq ≤ k) ∧ Aside0 (Below w.heap.size w w'))
 case atStart => exact ⟨(0), (by first | rfl | (simp; done) | (simp [*]; done)), H', ⟨Nat.le_refl _⟩, ⟨zB⟩⟩
 case round =>
  clear H'
  try clear p2
  obtain ⟨x5_1, rfl, HA, HK1, HB⟩ := hrel
  cases gk with
  | zero => exact absurd HA.out (by simp [spec_l2Pairs.l0])
  | succ k1 =>
   have H := HA.out
   clear HA
   simp only [spec_l2Pairs.l0] at H
   by_cases c3 : x5_1 < (l0.length : Int)
   · rw [if_pos c3] at H
     have c3b0 := decide_eq_true c3
     clear c3
     by_cases c4 : 0 ≤ x5_1
     · rw [if_pos c4] at H
       have c4b0 := decide_eq_true c4
       clear c4
       replace H := Option.bind_eq_some_iff.mp H
       obtain ⟨t154, A50, H⟩ := H
       have A5 := Aside0.mk A50
       clear A50
       by_cases c6 : t154 = true
       · subst c6
         rw [if_pos rfl] at H
         replace H := Option.bind_eq_some_iff.mp H
         obtain ⟨t155, A70, H⟩ := H
         have A7 := Aside0.mk A70
         clear A70
         by_cases c8 : t155 = true
         · subst c8
           rw [if_pos rfl] at H
           by_cases c9 : ((rd_T50 l0 x5_1).f0) ≥ ((rd_T50 l0 x5_1).f1)
           · rw [if_pos c9] at H
             have c9b0 : decide (((rd_T50 l0 x5_1).f1) ≤ ((rd_T50 l0 x5_1).f0)) = true := decide_eq_true c9
             clear c9
             obtain rfl := Option.some.inj H
             have p152 : 0 ≤ (x5_1 : Int) := of_decide_eq_true zA
             have q152 : x5_1 < (l0.length : Int) := of_decide_eq_true zA
             obtain ⟨ad152, e152, hx152_0, hx152_1⟩ := at_T50 HR0.out x5_1 p152 q152
             cases e152
             (try replace hx152_0 := (HB.out.cell (World.block_lt_of_cell? w _ hx152_0)).trans hx152_0)
             (try replace hx152_1 := (HB.out.cell (World.block_lt_of_cell? w _ hx152_1)).trans hx152_1)
             replace p152 := eq_true p152
             replace q152 := eq_true q152
             try go_wp2_with (first | ((with_reducible refine gate_dst (N := 6) rfl ?_); refine zb (w := w) 6 #[.int .i64 0, .int .i64 0] 50 zB ?_; clear HB; intro gb153 w10 HB BK153 GW153; have GE153 := GW153; have hcz11_0 := zy BK153 0; have hcz11_1 := zy BK153 1; have hfz11_0 := blk_frozen BK153.out 0; have hfz11_1 := blk_frozen BK153.out 1))
             have n0_ : Aside0 (((w10.setCell ⟨gb153, 0, none⟩ (.int .i64 ((rd_T50 l0 x5_1).f0))).setCell ⟨gb153, 1, none⟩ (.int .i64 ((rd_T50 l0 x5_1).f1))).heap[gb153]? = some (.cells #[.int .i64 ((rd_T50 l0 x5_1).f0), .int .i64 ((rd_T50 l0 x5_1).f1)] 50 (0, 0))) := ⟨by (with_reducible repeat (first | refine blk_drewN ?_ _ | refine blk_drew ?_ | refine blk_alloc ?_ _)); refine blk_put (cs := #[.int .i64 ((rd_T50 l0 x5_1).f0), .int .i64 0]) ?_ 1 _ rfl; (with_reducible repeat (first | refine blk_drewN ?_ _ | refine blk_drew ?_ | refine blk_alloc ?_ _)); refine blk_put (cs := #[.int .i64 0, .int .i64 0]) ?_ 0 _ rfl; (with_reducible repeat (first | refine blk_drewN ?_ _ | refine blk_drew ?_ | refine blk_alloc ?_ _)); exact BK153.out⟩
             have n1_ : Aside0 (Below w.heap.size w ((w10.setCell ⟨gb153, 0, none⟩ (.int .i64 ((rd_T50 l0 x5_1).f0))).setCell ⟨gb153, 1, none⟩ (.int .i64 ((rd_T50 l0 x5_1).f1)))) := ⟨zB⟩
             (try clear BK153)
             (try clear HB)
             generalize ((w10.setCell ⟨gb153, 0, none⟩ (.int .i64 ((rd_T50 l0 x5_1).f0))).setCell ⟨gb153, 1, none⟩ (.int .i64 ((rd_T50 l0 x5_1).f1))) = w12 at n0_ n1_ ⊢
             have BK153 := n0_
             have HB := n1_
             clear n0_ n1_
             replace BK153 := zM (blk_drew BK153.out)
             replace HB := zM (below_drew1 HB.out)
             refine zs (n := 35) (fun w' => w'.cell? ⟨gb153, 0, none⟩ = some (.int .i64 ((rd_T50 l0 x5_1).f0)) ∧ w'.cell? ⟨gb153, 1, none⟩ = some (.int .i64 ((rd_T50 l0 x5_1).f1))) ⟨(blk_cell BK153.out 0).trans rfl, (blk_cell BK153.out 1).trans rfl⟩ (fun hHeld => ?_); refine with_tabW spec_l2Pairs.tab5 spec_l2Pairs.bits5 (fun HT_ HW_ => ?_)
             generalize w12.drew = w13 at BK153 HB hHeld ⊢
             refine zp HT_ 0 17 ?_
             refine zp HT_ 2 19 ?_
             refine zp HT_ 3 20 ?_
             refine zt HT_ HW_ 1 18 hHeld ?_ (hy := by rintro w' ⟨s0, s1⟩; go_simp; with_reducible rfl)
             refine zg HT_ 4 21 Try.func43 #[.int .i64 ((rd_T50 l0 x5_1).f0), .int .i64 0, .int .i64 (wrap64 (a1 - 1))] (fun K hK => ?_)
             with_reducible refine (spec_l1In.calls ((rd_T50 l0 x5_1).f0) 0 (wrap64 (a1 - 1)) true _ A5.out).mono ?_
             rintro e w' ⟨rfl, ⟨nd, rfl⟩⟩
             refine ⟨_, rfl, ?_⟩
             refine hK.out _ _ ⟨(blk_cell BK153.out 0).trans rfl, (blk_cell BK153.out 1).trans rfl⟩ (fun hHeld => ?_)
             clear hK K
             refine zn 21 ?_
             refine zp HT_ 5 22 ?_
             refine zp HT_ 6 23 ?_
             refine zp HT_ 7 24 ?_
             refine zp HT_ 9 26 ?_
             refine zp HT_ 10 27 ?_
             refine zt HT_ HW_ 8 25 hHeld ?_ (hy := by rintro w' ⟨s0, s1⟩; go_simp; with_reducible rfl)
             refine zg HT_ 11 28 Try.func43 #[.int .i64 ((rd_T50 l0 x5_1).f1), .int .i64 0, .int .i64 (wrap64 (a1 - 1))] (fun K hK => ?_)
             with_reducible refine (spec_l1In.calls ((rd_T50 l0 x5_1).f1) 0 (wrap64 (a1 - 1)) true _ A7.out).mono ?_
             rintro e w' ⟨rfl, ⟨nd, rfl⟩⟩
             refine ⟨_, rfl, ?_⟩
             refine hK.out _ _ ⟨(blk_cell BK153.out 0).trans rfl, (blk_cell BK153.out 1).trans rfl⟩ (fun hHeld => ?_)
             clear hK K
             refine zn 28 ?_
             refine zp HT_ 12 29 ?_
             refine zp HT_ 13 30 ?_
             refine zp HT_ 14 31 ?_
             refine zp HT_ 15 32 ?_
             refine zp HT_ 17 34 ?_
             refine zt HT_ HW_ 16 33 hHeld ?_ (hy := by rintro w' ⟨s0, s1⟩; go_simp; with_reducible rfl)
             refine zt HT_ HW_ 18 35 hHeld ?_ (hy := by rintro w' ⟨s0, s1⟩; go_simp; with_reducible rfl)
             refine zp HT_ 19 36 ?_
             refine zp HT_ 20 37 ?_
             refine zp HT_ 21 38 ?_
             refine zu HT_ 22 39 ?_
             refine zu HT_ 23 40 ?_
             refine zu HT_ 24 41 ?_
             refine zu HT_ 25 42 ?_
             refine zu HT_ 26 43 ?_
             refine zu HT_ 27 44 ?_
             refine zu HT_ 28 45 ?_
             refine zu HT_ 29 46 ?_
             refine zu HT_ 30 47 ?_
             refine zu HT_ 31 48 ?_
             refine zu HT_ 32 49 ?_
             refine zu HT_ 33 50 ?_
             refine zp HT_ 34 51 ?_
             refine zo HT_ ?_
             try go_wp2
             go_ret
             exact ⟨by first | rfl | (simp [errW_none, errW_some] <;> rfl) | (simp [*, errW_none, errW_some] <;> rfl), zB⟩
           · rw [if_neg c9] at H
             have c9b0 : decide (((rd_T50 l0 x5_1).f1) ≤ ((rd_T50 l0 x5_1).f0)) = false := decide_eq_false c9
             clear c9
             by_cases c14 : x5_1 > 0
             · rw [if_pos c14] at H
               have c14b0 : decide (0 < x5_1) = true := decide_eq_true c14
               clear c14
               obtain ⟨ji15, hji15⟩ : ∃ j_ : Int, (wrap64 (x5_1 - 1)) = j_ := ⟨_, rfl⟩
               replace H : (if 0 ≤ (ji15) then (if (ji15) < (l0.length : Int) then ((spec_l2Edge.f ((rd_T50 l0 (ji15)).f0) ((rd_T50 l0 (ji15)).f1) ((rd_T50 l0 x5_1).f0) ((rd_T50 l0 x5_1).f1)).bind fun t157 => (if t157 = true then (spec_l2Pairs.l0 k1 l0 a1 (wrap64 (x5_1 + 1))) else (some false))) else (none)) else (none)) = some r := by first | (rw [hji15] at H; exact H) | (simp only [hji15] at H ⊢; exact H)
               (try rw [hji15] at A5)
               (try rw [hji15] at A7)
               have hji15w : (IntKind.i64.wrap (x5_1 - 1)) = ji15 := (i64_w _).trans hji15
               by_cases c16 : 0 ≤ (ji15)
               · rw [if_pos c16] at H
                 have c16b0 := decide_eq_true c16
                 clear c16
                 by_cases c17 : (ji15) < (l0.length : Int)
                 · rw [if_pos c17] at H
                   have c17b0 := decide_eq_true c17
                   clear c17
                   replace H := Option.bind_eq_some_iff.mp H
                   obtain ⟨t157, A180, H⟩ := H
                   have A18 := Aside0.mk A180
                   clear A180
                   by_cases c19 : t157 = true
                   · subst c19
                     rw [if_pos rfl] at H
                     have H' := Aside0.mk H
                     clear H
                     have p152 : 0 ≤ (x5_1 : Int) := of_decide_eq_true zA
                     have q152 : x5_1 < (l0.length : Int) := of_decide_eq_true zA
                     obtain ⟨ad152, e152, hx152_0, hx152_1⟩ := at_T50 HR0.out x5_1 p152 q152
                     cases e152
                     (try replace hx152_0 := (HB.out.cell (World.block_lt_of_cell? w _ hx152_0)).trans hx152_0)
                     (try replace hx152_1 := (HB.out.cell (World.block_lt_of_cell? w _ hx152_1)).trans hx152_1)
                     replace p152 := eq_true p152
                     replace q152 := eq_true q152
                     try go_wp2_with (first | ((with_reducible refine gate_dst (N := 6) rfl ?_); refine zb (w := w) 6 #[.int .i64 0, .int .i64 0] 50 zB ?_; clear HB; intro gb153 w20 HB BK153 GW153; have GE153 := GW153; have hcz21_0 := zy BK153 0; have hcz21_1 := zy BK153 1; have hfz21_0 := blk_frozen BK153.out 0; have hfz21_1 := blk_frozen BK153.out 1))
                     have n0_ : Aside0 (((w20.setCell ⟨gb153, 0, none⟩ (.int .i64 ((rd_T50 l0 x5_1).f0))).setCell ⟨gb153, 1, none⟩ (.int .i64 ((rd_T50 l0 x5_1).f1))).heap[gb153]? = some (.cells #[.int .i64 ((rd_T50 l0 x5_1).f0), .int .i64 ((rd_T50 l0 x5_1).f1)] 50 (0, 0))) := ⟨by (with_reducible repeat (first | refine blk_drewN ?_ _ | refine blk_drew ?_ | refine blk_alloc ?_ _)); refine blk_put (cs := #[.int .i64 ((rd_T50 l0 x5_1).f0), .int .i64 0]) ?_ 1 _ rfl; (with_reducible repeat (first | refine blk_drewN ?_ _ | refine blk_drew ?_ | refine blk_alloc ?_ _)); refine blk_put (cs := #[.int .i64 0, .int .i64 0]) ?_ 0 _ rfl; (with_reducible repeat (first | refine blk_drewN ?_ _ | refine blk_drew ?_ | refine blk_alloc ?_ _)); exact BK153.out⟩
                     have n1_ : Aside0 (Below w.heap.size w ((w20.setCell ⟨gb153, 0, none⟩ (.int .i64 ((rd_T50 l0 x5_1).f0))).setCell ⟨gb153, 1, none⟩ (.int .i64 ((rd_T50 l0 x5_1).f1)))) := ⟨zB⟩
                     (try clear BK153)
                     (try clear HB)
                     generalize ((w20.setCell ⟨gb153, 0, none⟩ (.int .i64 ((rd_T50 l0 x5_1).f0))).setCell ⟨gb153, 1, none⟩ (.int .i64 ((rd_T50 l0 x5_1).f1))) = w22 at n0_ n1_ ⊢
                     have BK153 := n0_
                     have HB := n1_
                     clear n0_ n1_
                     replace BK153 := zM (blk_drew BK153.out)
                     replace HB := zM (below_drew1 HB.out)
                     have p156 : 0 ≤ ((ji15) : Int) := of_decide_eq_true zA
                     have q156 : (ji15) < (l0.length : Int) := of_decide_eq_true zA
                     obtain ⟨ad156, e156, hx156_0, hx156_1⟩ := at_T50 HR0.out (ji15) p156 q156
                     have hw156_1 := hx156_1
                     have hw156_0 := hx156_0
                     obtain rfl : ad152 = ad156 := (by injection e156)
                     (try replace hx156_0 := (HB.out.cell (World.block_lt_of_cell? w _ hx156_0)).trans hx156_0)
                     (try replace hx156_1 := (HB.out.cell (World.block_lt_of_cell? w _ hx156_1)).trans hx156_1)
                     replace p156 := eq_true p156
                     replace q156 := eq_true q156
                     refine zs (n := 35) (fun w' => w'.cell? ⟨gb153, 0, none⟩ = some (.int .i64 ((rd_T50 l0 x5_1).f0)) ∧ w'.cell? ⟨gb153, 1, none⟩ = some (.int .i64 ((rd_T50 l0 x5_1).f1)) ∧ w'.cell? (ad152.add (((ji15)).toNat * 2)) = some (.int .i64 ((rd_T50 l0 (ji15)).f0)) ∧ w'.cell? ⟨(ad152.add (((ji15)).toNat * 2)).block, (ad152.add (((ji15)).toNat * 2)).off + 1, none⟩ = some (.int .i64 ((rd_T50 l0 (ji15)).f1))) ⟨(blk_cell BK153.out 0).trans rfl, (blk_cell BK153.out 1).trans rfl, ((HB.out.cell (World.block_lt_of_cell? w _ hw156_0)).trans hw156_0), ((HB.out.cell (World.block_lt_of_cell? w _ hw156_1)).trans hw156_1)⟩ (fun hHeld => ?_); refine with_tabW spec_l2Pairs.tab5 spec_l2Pairs.bits5 (fun HT_ HW_ => ?_)
                     generalize w22.drew = w23 at BK153 HB hx156_0 hx156_1 hHeld ⊢
                     refine zp HT_ 0 17 ?_
                     refine zp HT_ 2 19 ?_
                     refine zp HT_ 3 20 ?_
                     refine zt HT_ HW_ 1 18 hHeld ?_ (hy := by rintro w' ⟨s0, s1, s2, s3⟩; go_simp; with_reducible rfl)
                     refine zg HT_ 4 21 Try.func43 #[.int .i64 ((rd_T50 l0 x5_1).f0), .int .i64 0, .int .i64 (wrap64 (a1 - 1))] (fun K hK => ?_)
                     with_reducible refine (spec_l1In.calls ((rd_T50 l0 x5_1).f0) 0 (wrap64 (a1 - 1)) true _ A5.out).mono ?_
                     rintro e w' ⟨rfl, ⟨nd, rfl⟩⟩
                     refine ⟨_, rfl, ?_⟩
                     refine hK.out _ _ ⟨(blk_cell BK153.out 0).trans rfl, (blk_cell BK153.out 1).trans rfl, ((HB.out.cell (World.block_lt_of_cell? w _ hw156_0)).trans hw156_0), ((HB.out.cell (World.block_lt_of_cell? w _ hw156_1)).trans hw156_1)⟩ (fun hHeld => ?_)
                     clear hK K
                     refine zn 21 ?_
                     refine zp HT_ 5 22 ?_
                     refine zp HT_ 6 23 ?_
                     refine zp HT_ 7 24 ?_
                     refine zp HT_ 9 26 ?_
                     refine zp HT_ 10 27 ?_
                     refine zt HT_ HW_ 8 25 hHeld ?_ (hy := by rintro w' ⟨s0, s1, s2, s3⟩; go_simp; with_reducible rfl)
                     refine zg HT_ 11 28 Try.func43 #[.int .i64 ((rd_T50 l0 x5_1).f1), .int .i64 0, .int .i64 (wrap64 (a1 - 1))] (fun K hK => ?_)
                     with_reducible refine (spec_l1In.calls ((rd_T50 l0 x5_1).f1) 0 (wrap64 (a1 - 1)) true _ A7.out).mono ?_
                     rintro e w' ⟨rfl, ⟨nd, rfl⟩⟩
                     refine ⟨_, rfl, ?_⟩
                     refine hK.out _ _ ⟨(blk_cell BK153.out 0).trans rfl, (blk_cell BK153.out 1).trans rfl, ((HB.out.cell (World.block_lt_of_cell? w _ hw156_0)).trans hw156_0), ((HB.out.cell (World.block_lt_of_cell? w _ hw156_1)).trans hw156_1)⟩ (fun hHeld => ?_)
                     clear hK K
                     refine zn 28 ?_
                     refine zp HT_ 12 29 ?_
                     refine zp HT_ 13 30 ?_
                     refine zp HT_ 14 31 ?_
                     refine zp HT_ 15 32 ?_
                     refine zp HT_ 17 34 ?_
                     refine zt HT_ HW_ 16 33 hHeld ?_ (hy := by rintro w' ⟨s0, s1, s2, s3⟩; go_simp; with_reducible rfl)
                     refine zt HT_ HW_ 18 35 hHeld ?_ (hy := by rintro w' ⟨s0, s1, s2, s3⟩; go_simp; with_reducible rfl)
                     refine zp HT_ 19 36 ?_
                     refine zp HT_ 20 37 ?_
                     refine zp HT_ 21 38 ?_
                     refine zp HT_ 22 39 ?_
                     refine zp HT_ 23 40 ?_
                     refine zp HT_ 24 41 ?_
                     refine zp HT_ 25 42 ?_
                     refine zp HT_ 26 43 ?_
                     refine zp HT_ 27 44 ?_
                     refine zp HT_ 28 45 ?_
                     refine zt HT_ HW_ 29 46 hHeld ?_ (hy := by rintro w' ⟨s0, s1, s2, s3⟩; go_simp; with_reducible rfl)
                     refine zt HT_ HW_ 30 47 hHeld ?_ (hy := by rintro w' ⟨s0, s1, s2, s3⟩; go_simp; with_reducible rfl)
                     refine one_ (i := 31) (N := some 48) #[true, true, true, true, true, true, true, true, true, true, true, true, true, true, true, true, true, true, true, true, true, true, true, true, true, true, true, true, true, true, true, true, false, false, false] rfl rfl (one_of HT_.out (by kernel_rfl)) (by decide) (fun K hK => ?_)
                     refine goes_ Try.func54 (by kernel_rfl) rfl #[.agg #[.int .i64 ((rd_T50 l0 (ji15)).f0), .int .i64 ((rd_T50 l0 (ji15)).f1)], .agg #[.int .i64 ((rd_T50 l0 x5_1).f0), .int .i64 ((rd_T50 l0 x5_1).f1)]] (by rfl) rfl rfl (by (try simp only [List.map_toArray, List.map_cons, List.map_nil]); first | done | (simp only [hji15]; rfl) | rfl | (simp only [List.length_drop, List.length_take]; rfl)) ?_
                     with_reducible refine (spec_l2Edge.calls ((rd_T50 l0 (ji15)).f0) ((rd_T50 l0 (ji15)).f1) ((rd_T50 l0 x5_1).f0) ((rd_T50 l0 x5_1).f1) true _ A18.out).mono ?_
                     rintro e w24 ⟨rfl, hb⟩
                     refine ⟨_, rfl, ?_⟩
                     replace BK153 := zM (blk_below (g := gb153) (o := .cells #[.int .i64 ((rd_T50 l0 x5_1).f0), .int .i64 ((rd_T50 l0 x5_1).f1)] 50 (0, 0)) (zK BK153.out) hb)
                     replace HB := zM (below_step zB hb)
                     (try clear hb)
                     (try clear hb2)
                     (try clear hk)
                     (try clear hi)
                     refine hK.out _ _ ⟨(blk_cell BK153.out 0).trans rfl, (blk_cell BK153.out 1).trans rfl, ((HB.out.cell (World.block_lt_of_cell? w _ hw156_0)).trans hw156_0), ((HB.out.cell (World.block_lt_of_cell? w _ hw156_1)).trans hw156_1)⟩ (fun hHeld => ?_)
                     clear hK K
                     refine zn 48 ?_
                     refine zp HT_ 32 49 ?_
                     refine zp HT_ 33 50 ?_
                     refine zp HT_ 34 51 ?_
                     refine zo HT_ ?_
                     try go_wp2
                     go_roundg k1
                     case measure => have := HK1.out; omega
                     case rel => exact ⟨(wrap64 (x5_1 + 1)), (by first | rfl | (simp; done) | (simp [*]; done)), H', ⟨by have := HK1.out; omega⟩, ⟨zB⟩⟩
                   · replace c19 := Bool.eq_false_iff.mpr c19
                     subst c19
                     have H1 : (some false) = some r := by rw [if_neg (show ¬ (false = true) by decide)] at H; exact H
                     clear H
                     have H := H1
                     clear H1
                     obtain rfl := Option.some.inj H
                     have p152 : 0 ≤ (x5_1 : Int) := of_decide_eq_true zA
                     have q152 : x5_1 < (l0.length : Int) := of_decide_eq_true zA
                     obtain ⟨ad152, e152, hx152_0, hx152_1⟩ := at_T50 HR0.out x5_1 p152 q152
                     cases e152
                     (try replace hx152_0 := (HB.out.cell (World.block_lt_of_cell? w _ hx152_0)).trans hx152_0)
                     (try replace hx152_1 := (HB.out.cell (World.block_lt_of_cell? w _ hx152_1)).trans hx152_1)
                     replace p152 := eq_true p152
                     replace q152 := eq_true q152
                     try go_wp2_with (first | ((with_reducible refine gate_dst (N := 6) rfl ?_); refine zb (w := w) 6 #[.int .i64 0, .int .i64 0] 50 zB ?_; clear HB; intro gb153 w25 HB BK153 GW153; have GE153 := GW153; have hcz26_0 := zy BK153 0; have hcz26_1 := zy BK153 1; have hfz26_0 := blk_frozen BK153.out 0; have hfz26_1 := blk_frozen BK153.out 1))
                     have n0_ : Aside0 (((w25.setCell ⟨gb153, 0, none⟩ (.int .i64 ((rd_T50 l0 x5_1).f0))).setCell ⟨gb153, 1, none⟩ (.int .i64 ((rd_T50 l0 x5_1).f1))).heap[gb153]? = some (.cells #[.int .i64 ((rd_T50 l0 x5_1).f0), .int .i64 ((rd_T50 l0 x5_1).f1)] 50 (0, 0))) := ⟨by (with_reducible repeat (first | refine blk_drewN ?_ _ | refine blk_drew ?_ | refine blk_alloc ?_ _)); refine blk_put (cs := #[.int .i64 ((rd_T50 l0 x5_1).f0), .int .i64 0]) ?_ 1 _ rfl; (with_reducible repeat (first | refine blk_drewN ?_ _ | refine blk_drew ?_ | refine blk_alloc ?_ _)); refine blk_put (cs := #[.int .i64 0, .int .i64 0]) ?_ 0 _ rfl; (with_reducible repeat (first | refine blk_drewN ?_ _ | refine blk_drew ?_ | refine blk_alloc ?_ _)); exact BK153.out⟩
                     have n1_ : Aside0 (Below w.heap.size w ((w25.setCell ⟨gb153, 0, none⟩ (.int .i64 ((rd_T50 l0 x5_1).f0))).setCell ⟨gb153, 1, none⟩ (.int .i64 ((rd_T50 l0 x5_1).f1)))) := ⟨zB⟩
                     (try clear BK153)
                     (try clear HB)
                     generalize ((w25.setCell ⟨gb153, 0, none⟩ (.int .i64 ((rd_T50 l0 x5_1).f0))).setCell ⟨gb153, 1, none⟩ (.int .i64 ((rd_T50 l0 x5_1).f1))) = w27 at n0_ n1_ ⊢
                     have BK153 := n0_
                     have HB := n1_
                     clear n0_ n1_
                     replace BK153 := zM (blk_drew BK153.out)
                     replace HB := zM (below_drew1 HB.out)
                     have p156 : 0 ≤ ((ji15) : Int) := of_decide_eq_true zA
                     have q156 : (ji15) < (l0.length : Int) := of_decide_eq_true zA
                     obtain ⟨ad156, e156, hx156_0, hx156_1⟩ := at_T50 HR0.out (ji15) p156 q156
                     have hw156_1 := hx156_1
                     have hw156_0 := hx156_0
                     obtain rfl : ad152 = ad156 := (by injection e156)
                     (try replace hx156_0 := (HB.out.cell (World.block_lt_of_cell? w _ hx156_0)).trans hx156_0)
                     (try replace hx156_1 := (HB.out.cell (World.block_lt_of_cell? w _ hx156_1)).trans hx156_1)
                     replace p156 := eq_true p156
                     replace q156 := eq_true q156
                     refine zs (n := 35) (fun w' => w'.cell? ⟨gb153, 0, none⟩ = some (.int .i64 ((rd_T50 l0 x5_1).f0)) ∧ w'.cell? ⟨gb153, 1, none⟩ = some (.int .i64 ((rd_T50 l0 x5_1).f1)) ∧ w'.cell? (ad152.add (((ji15)).toNat * 2)) = some (.int .i64 ((rd_T50 l0 (ji15)).f0)) ∧ w'.cell? ⟨(ad152.add (((ji15)).toNat * 2)).block, (ad152.add (((ji15)).toNat * 2)).off + 1, none⟩ = some (.int .i64 ((rd_T50 l0 (ji15)).f1))) ⟨(blk_cell BK153.out 0).trans rfl, (blk_cell BK153.out 1).trans rfl, ((HB.out.cell (World.block_lt_of_cell? w _ hw156_0)).trans hw156_0), ((HB.out.cell (World.block_lt_of_cell? w _ hw156_1)).trans hw156_1)⟩ (fun hHeld => ?_); refine with_tabW spec_l2Pairs.tab5 spec_l2Pairs.bits5 (fun HT_ HW_ => ?_)
                     generalize w27.drew = w28 at BK153 HB hx156_0 hx156_1 hHeld ⊢
                     refine zp HT_ 0 17 ?_
                     refine zp HT_ 2 19 ?_
                     refine zp HT_ 3 20 ?_
                     refine zt HT_ HW_ 1 18 hHeld ?_ (hy := by rintro w' ⟨s0, s1, s2, s3⟩; go_simp; with_reducible rfl)
                     refine zg HT_ 4 21 Try.func43 #[.int .i64 ((rd_T50 l0 x5_1).f0), .int .i64 0, .int .i64 (wrap64 (a1 - 1))] (fun K hK => ?_)
                     with_reducible refine (spec_l1In.calls ((rd_T50 l0 x5_1).f0) 0 (wrap64 (a1 - 1)) true _ A5.out).mono ?_
                     rintro e w' ⟨rfl, ⟨nd, rfl⟩⟩
                     refine ⟨_, rfl, ?_⟩
                     refine hK.out _ _ ⟨(blk_cell BK153.out 0).trans rfl, (blk_cell BK153.out 1).trans rfl, ((HB.out.cell (World.block_lt_of_cell? w _ hw156_0)).trans hw156_0), ((HB.out.cell (World.block_lt_of_cell? w _ hw156_1)).trans hw156_1)⟩ (fun hHeld => ?_)
                     clear hK K
                     refine zn 21 ?_
                     refine zp HT_ 5 22 ?_
                     refine zp HT_ 6 23 ?_
                     refine zp HT_ 7 24 ?_
                     refine zp HT_ 9 26 ?_
                     refine zp HT_ 10 27 ?_
                     refine zt HT_ HW_ 8 25 hHeld ?_ (hy := by rintro w' ⟨s0, s1, s2, s3⟩; go_simp; with_reducible rfl)
                     refine zg HT_ 11 28 Try.func43 #[.int .i64 ((rd_T50 l0 x5_1).f1), .int .i64 0, .int .i64 (wrap64 (a1 - 1))] (fun K hK => ?_)
                     with_reducible refine (spec_l1In.calls ((rd_T50 l0 x5_1).f1) 0 (wrap64 (a1 - 1)) true _ A7.out).mono ?_
                     rintro e w' ⟨rfl, ⟨nd, rfl⟩⟩
                     refine ⟨_, rfl, ?_⟩
                     refine hK.out _ _ ⟨(blk_cell BK153.out 0).trans rfl, (blk_cell BK153.out 1).trans rfl, ((HB.out.cell (World.block_lt_of_cell? w _ hw156_0)).trans hw156_0), ((HB.out.cell (World.block_lt_of_cell? w _ hw156_1)).trans hw156_1)⟩ (fun hHeld => ?_)
                     clear hK K
                     refine zn 28 ?_
                     refine zp HT_ 12 29 ?_
                     refine zp HT_ 13 30 ?_
                     refine zp HT_ 14 31 ?_
                     refine zp HT_ 15 32 ?_
                     refine zp HT_ 17 34 ?_
                     refine zt HT_ HW_ 16 33 hHeld ?_ (hy := by rintro w' ⟨s0, s1, s2, s3⟩; go_simp; with_reducible rfl)
                     refine zt HT_ HW_ 18 35 hHeld ?_ (hy := by rintro w' ⟨s0, s1, s2, s3⟩; go_simp; with_reducible rfl)
                     refine zp HT_ 19 36 ?_
                     refine zp HT_ 20 37 ?_
                     refine zp HT_ 21 38 ?_
                     refine zp HT_ 22 39 ?_
                     refine zp HT_ 23 40 ?_
                     refine zp HT_ 24 41 ?_
                     refine zp HT_ 25 42 ?_
                     refine zp HT_ 26 43 ?_
                     refine zp HT_ 27 44 ?_
                     refine zp HT_ 28 45 ?_
                     refine zt HT_ HW_ 29 46 hHeld ?_ (hy := by rintro w' ⟨s0, s1, s2, s3⟩; go_simp; with_reducible rfl)
                     refine zt HT_ HW_ 30 47 hHeld ?_ (hy := by rintro w' ⟨s0, s1, s2, s3⟩; go_simp; with_reducible rfl)
                     refine one_ (i := 31) (N := some 48) #[true, true, true, true, true, true, true, true, true, true, true, true, true, true, true, true, true, true, true, true, true, true, true, true, true, true, true, true, true, true, true, true, false, false, false] rfl rfl (one_of HT_.out (by kernel_rfl)) (by decide) (fun K hK => ?_)
                     refine goes_ Try.func54 (by kernel_rfl) rfl #[.agg #[.int .i64 ((rd_T50 l0 (ji15)).f0), .int .i64 ((rd_T50 l0 (ji15)).f1)], .agg #[.int .i64 ((rd_T50 l0 x5_1).f0), .int .i64 ((rd_T50 l0 x5_1).f1)]] (by rfl) rfl rfl (by (try simp only [List.map_toArray, List.map_cons, List.map_nil]); first | done | (simp only [hji15]; rfl) | rfl | (simp only [List.length_drop, List.length_take]; rfl)) ?_
                     with_reducible refine (spec_l2Edge.calls ((rd_T50 l0 (ji15)).f0) ((rd_T50 l0 (ji15)).f1) ((rd_T50 l0 x5_1).f0) ((rd_T50 l0 x5_1).f1) false _ A18.out).mono ?_
                     rintro e w29 ⟨rfl, hb⟩
                     refine ⟨_, rfl, ?_⟩
                     replace BK153 := zM (blk_below (g := gb153) (o := .cells #[.int .i64 ((rd_T50 l0 x5_1).f0), .int .i64 ((rd_T50 l0 x5_1).f1)] 50 (0, 0)) (zK BK153.out) hb)
                     replace HB := zM (below_step zB hb)
                     (try clear hb)
                     (try clear hb2)
                     (try clear hk)
                     (try clear hi)
                     refine hK.out _ _ ⟨(blk_cell BK153.out 0).trans rfl, (blk_cell BK153.out 1).trans rfl, ((HB.out.cell (World.block_lt_of_cell? w _ hw156_0)).trans hw156_0), ((HB.out.cell (World.block_lt_of_cell? w _ hw156_1)).trans hw156_1)⟩ (fun hHeld => ?_)
                     clear hK K
                     refine zn 48 ?_
                     refine zp HT_ 32 49 ?_
                     refine zp HT_ 33 50 ?_
                     refine zp HT_ 34 51 ?_
                     refine zo HT_ ?_
                     try go_wp2
                     go_ret
                     exact ⟨by first | rfl | (simp [errW_none, errW_some] <;> rfl) | (simp only [← hji15]; first | rfl | (simp [errW_none, errW_some] <;> rfl)) | (simp [*, errW_none, errW_some] <;> rfl), zB⟩
                 · rw [if_neg c17] at H
                   exact absurd H (by simp)
               · rw [if_neg c16] at H
                 exact absurd H (by simp)
             · rw [if_neg c14] at H
               have c14b0 : decide (0 < x5_1) = false := decide_eq_false c14
               clear c14
               have H' := Aside0.mk H
               clear H
               have p152 : 0 ≤ (x5_1 : Int) := of_decide_eq_true zA
               have q152 : x5_1 < (l0.length : Int) := of_decide_eq_true zA
               obtain ⟨ad152, e152, hx152_0, hx152_1⟩ := at_T50 HR0.out x5_1 p152 q152
               cases e152
               (try replace hx152_0 := (HB.out.cell (World.block_lt_of_cell? w _ hx152_0)).trans hx152_0)
               (try replace hx152_1 := (HB.out.cell (World.block_lt_of_cell? w _ hx152_1)).trans hx152_1)
               replace p152 := eq_true p152
               replace q152 := eq_true q152
               try go_wp2_with (first | ((with_reducible refine gate_dst (N := 6) rfl ?_); refine zb (w := w) 6 #[.int .i64 0, .int .i64 0] 50 zB ?_; clear HB; intro gb153 w30 HB BK153 GW153; have GE153 := GW153; have hcz31_0 := zy BK153 0; have hcz31_1 := zy BK153 1; have hfz31_0 := blk_frozen BK153.out 0; have hfz31_1 := blk_frozen BK153.out 1))
               have n0_ : Aside0 (((w30.setCell ⟨gb153, 0, none⟩ (.int .i64 ((rd_T50 l0 x5_1).f0))).setCell ⟨gb153, 1, none⟩ (.int .i64 ((rd_T50 l0 x5_1).f1))).heap[gb153]? = some (.cells #[.int .i64 ((rd_T50 l0 x5_1).f0), .int .i64 ((rd_T50 l0 x5_1).f1)] 50 (0, 0))) := ⟨by (with_reducible repeat (first | refine blk_drewN ?_ _ | refine blk_drew ?_ | refine blk_alloc ?_ _)); refine blk_put (cs := #[.int .i64 ((rd_T50 l0 x5_1).f0), .int .i64 0]) ?_ 1 _ rfl; (with_reducible repeat (first | refine blk_drewN ?_ _ | refine blk_drew ?_ | refine blk_alloc ?_ _)); refine blk_put (cs := #[.int .i64 0, .int .i64 0]) ?_ 0 _ rfl; (with_reducible repeat (first | refine blk_drewN ?_ _ | refine blk_drew ?_ | refine blk_alloc ?_ _)); exact BK153.out⟩
               have n1_ : Aside0 (Below w.heap.size w ((w30.setCell ⟨gb153, 0, none⟩ (.int .i64 ((rd_T50 l0 x5_1).f0))).setCell ⟨gb153, 1, none⟩ (.int .i64 ((rd_T50 l0 x5_1).f1)))) := ⟨zB⟩
               (try clear BK153)
               (try clear HB)
               generalize ((w30.setCell ⟨gb153, 0, none⟩ (.int .i64 ((rd_T50 l0 x5_1).f0))).setCell ⟨gb153, 1, none⟩ (.int .i64 ((rd_T50 l0 x5_1).f1))) = w32 at n0_ n1_ ⊢
               have BK153 := n0_
               have HB := n1_
               clear n0_ n1_
               replace BK153 := zM (blk_drew BK153.out)
               replace HB := zM (below_drew1 HB.out)
               refine zs (n := 35) (fun w' => w'.cell? ⟨gb153, 0, none⟩ = some (.int .i64 ((rd_T50 l0 x5_1).f0)) ∧ w'.cell? ⟨gb153, 1, none⟩ = some (.int .i64 ((rd_T50 l0 x5_1).f1))) ⟨(blk_cell BK153.out 0).trans rfl, (blk_cell BK153.out 1).trans rfl⟩ (fun hHeld => ?_); refine with_tabW spec_l2Pairs.tab5 spec_l2Pairs.bits5 (fun HT_ HW_ => ?_)
               generalize w32.drew = w33 at BK153 HB hHeld ⊢
               refine zp HT_ 0 17 ?_
               refine zp HT_ 2 19 ?_
               refine zp HT_ 3 20 ?_
               refine zt HT_ HW_ 1 18 hHeld ?_ (hy := by rintro w' ⟨s0, s1⟩; go_simp; with_reducible rfl)
               refine zg HT_ 4 21 Try.func43 #[.int .i64 ((rd_T50 l0 x5_1).f0), .int .i64 0, .int .i64 (wrap64 (a1 - 1))] (fun K hK => ?_)
               with_reducible refine (spec_l1In.calls ((rd_T50 l0 x5_1).f0) 0 (wrap64 (a1 - 1)) true _ A5.out).mono ?_
               rintro e w' ⟨rfl, ⟨nd, rfl⟩⟩
               refine ⟨_, rfl, ?_⟩
               refine hK.out _ _ ⟨(blk_cell BK153.out 0).trans rfl, (blk_cell BK153.out 1).trans rfl⟩ (fun hHeld => ?_)
               clear hK K
               refine zn 21 ?_
               refine zp HT_ 5 22 ?_
               refine zp HT_ 6 23 ?_
               refine zp HT_ 7 24 ?_
               refine zp HT_ 9 26 ?_
               refine zp HT_ 10 27 ?_
               refine zt HT_ HW_ 8 25 hHeld ?_ (hy := by rintro w' ⟨s0, s1⟩; go_simp; with_reducible rfl)
               refine zg HT_ 11 28 Try.func43 #[.int .i64 ((rd_T50 l0 x5_1).f1), .int .i64 0, .int .i64 (wrap64 (a1 - 1))] (fun K hK => ?_)
               with_reducible refine (spec_l1In.calls ((rd_T50 l0 x5_1).f1) 0 (wrap64 (a1 - 1)) true _ A7.out).mono ?_
               rintro e w' ⟨rfl, ⟨nd, rfl⟩⟩
               refine ⟨_, rfl, ?_⟩
               refine hK.out _ _ ⟨(blk_cell BK153.out 0).trans rfl, (blk_cell BK153.out 1).trans rfl⟩ (fun hHeld => ?_)
               clear hK K
               refine zn 28 ?_
               refine zp HT_ 12 29 ?_
               refine zp HT_ 13 30 ?_
               refine zp HT_ 14 31 ?_
               refine zp HT_ 15 32 ?_
               refine zp HT_ 17 34 ?_
               refine zt HT_ HW_ 16 33 hHeld ?_ (hy := by rintro w' ⟨s0, s1⟩; go_simp; with_reducible rfl)
               refine zt HT_ HW_ 18 35 hHeld ?_ (hy := by rintro w' ⟨s0, s1⟩; go_simp; with_reducible rfl)
               refine zp HT_ 19 36 ?_
               refine zp HT_ 20 37 ?_
               refine zp HT_ 21 38 ?_
               refine zp HT_ 22 39 ?_
               refine zp HT_ 23 40 ?_
               refine zp HT_ 24 41 ?_
               refine zu HT_ 25 42 ?_
               refine zu HT_ 26 43 ?_
               refine zu HT_ 27 44 ?_
               refine zu HT_ 28 45 ?_
               refine zu HT_ 29 46 ?_
               refine zu HT_ 30 47 ?_
               refine zu HT_ 31 48 ?_
               refine zu HT_ 32 49 ?_
               refine zp HT_ 33 50 ?_
               refine zp HT_ 34 51 ?_
               refine zo HT_ ?_
               try go_wp2
               go_roundg k1
               case measure => have := HK1.out; omega
               case rel => exact ⟨(wrap64 (x5_1 + 1)), (by first | rfl | (simp; done) | (simp [*]; done)), H', ⟨by have := HK1.out; omega⟩, ⟨zB⟩⟩
         · replace c8 := Bool.eq_false_iff.mpr c8
           subst c8
           have H1 : (some false) = some r := by rw [if_neg (show ¬ (false = true) by decide)] at H; exact H
           clear H
           have H := H1
           clear H1
           obtain rfl := Option.some.inj H
           have p152 : 0 ≤ (x5_1 : Int) := of_decide_eq_true zA
           have q152 : x5_1 < (l0.length : Int) := of_decide_eq_true zA
           obtain ⟨ad152, e152, hx152_0, hx152_1⟩ := at_T50 HR0.out x5_1 p152 q152
           cases e152
           (try replace hx152_0 := (HB.out.cell (World.block_lt_of_cell? w _ hx152_0)).trans hx152_0)
           (try replace hx152_1 := (HB.out.cell (World.block_lt_of_cell? w _ hx152_1)).trans hx152_1)
           replace p152 := eq_true p152
           replace q152 := eq_true q152
           try go_wp2_with (first | ((with_reducible refine gate_dst (N := 6) rfl ?_); refine zb (w := w) 6 #[.int .i64 0, .int .i64 0] 50 zB ?_; clear HB; intro gb153 w34 HB BK153 GW153; have GE153 := GW153; have hcz35_0 := zy BK153 0; have hcz35_1 := zy BK153 1; have hfz35_0 := blk_frozen BK153.out 0; have hfz35_1 := blk_frozen BK153.out 1))
           have n0_ : Aside0 (((w34.setCell ⟨gb153, 0, none⟩ (.int .i64 ((rd_T50 l0 x5_1).f0))).setCell ⟨gb153, 1, none⟩ (.int .i64 ((rd_T50 l0 x5_1).f1))).heap[gb153]? = some (.cells #[.int .i64 ((rd_T50 l0 x5_1).f0), .int .i64 ((rd_T50 l0 x5_1).f1)] 50 (0, 0))) := ⟨by (with_reducible repeat (first | refine blk_drewN ?_ _ | refine blk_drew ?_ | refine blk_alloc ?_ _)); refine blk_put (cs := #[.int .i64 ((rd_T50 l0 x5_1).f0), .int .i64 0]) ?_ 1 _ rfl; (with_reducible repeat (first | refine blk_drewN ?_ _ | refine blk_drew ?_ | refine blk_alloc ?_ _)); refine blk_put (cs := #[.int .i64 0, .int .i64 0]) ?_ 0 _ rfl; (with_reducible repeat (first | refine blk_drewN ?_ _ | refine blk_drew ?_ | refine blk_alloc ?_ _)); exact BK153.out⟩
           have n1_ : Aside0 (Below w.heap.size w ((w34.setCell ⟨gb153, 0, none⟩ (.int .i64 ((rd_T50 l0 x5_1).f0))).setCell ⟨gb153, 1, none⟩ (.int .i64 ((rd_T50 l0 x5_1).f1)))) := ⟨zB⟩
           (try clear BK153)
           (try clear HB)
           generalize ((w34.setCell ⟨gb153, 0, none⟩ (.int .i64 ((rd_T50 l0 x5_1).f0))).setCell ⟨gb153, 1, none⟩ (.int .i64 ((rd_T50 l0 x5_1).f1))) = w36 at n0_ n1_ ⊢
           have BK153 := n0_
           have HB := n1_
           clear n0_ n1_
           replace BK153 := zM (blk_drew BK153.out)
           replace HB := zM (below_drew1 HB.out)
           refine zs (n := 35) (fun w' => w'.cell? ⟨gb153, 0, none⟩ = some (.int .i64 ((rd_T50 l0 x5_1).f0)) ∧ w'.cell? ⟨gb153, 1, none⟩ = some (.int .i64 ((rd_T50 l0 x5_1).f1))) ⟨(blk_cell BK153.out 0).trans rfl, (blk_cell BK153.out 1).trans rfl⟩ (fun hHeld => ?_); refine with_tabW spec_l2Pairs.tab5 spec_l2Pairs.bits5 (fun HT_ HW_ => ?_)
           generalize w36.drew = w37 at BK153 HB hHeld ⊢
           refine zp HT_ 0 17 ?_
           refine zp HT_ 2 19 ?_
           refine zp HT_ 3 20 ?_
           refine zt HT_ HW_ 1 18 hHeld ?_ (hy := by rintro w' ⟨s0, s1⟩; go_simp; with_reducible rfl)
           refine zg HT_ 4 21 Try.func43 #[.int .i64 ((rd_T50 l0 x5_1).f0), .int .i64 0, .int .i64 (wrap64 (a1 - 1))] (fun K hK => ?_)
           with_reducible refine (spec_l1In.calls ((rd_T50 l0 x5_1).f0) 0 (wrap64 (a1 - 1)) true _ A5.out).mono ?_
           rintro e w' ⟨rfl, ⟨nd, rfl⟩⟩
           refine ⟨_, rfl, ?_⟩
           refine hK.out _ _ ⟨(blk_cell BK153.out 0).trans rfl, (blk_cell BK153.out 1).trans rfl⟩ (fun hHeld => ?_)
           clear hK K
           refine zn 21 ?_
           refine zp HT_ 5 22 ?_
           refine zp HT_ 6 23 ?_
           refine zp HT_ 7 24 ?_
           refine zp HT_ 9 26 ?_
           refine zp HT_ 10 27 ?_
           refine zt HT_ HW_ 8 25 hHeld ?_ (hy := by rintro w' ⟨s0, s1⟩; go_simp; with_reducible rfl)
           refine zg HT_ 11 28 Try.func43 #[.int .i64 ((rd_T50 l0 x5_1).f1), .int .i64 0, .int .i64 (wrap64 (a1 - 1))] (fun K hK => ?_)
           with_reducible refine (spec_l1In.calls ((rd_T50 l0 x5_1).f1) 0 (wrap64 (a1 - 1)) false _ A7.out).mono ?_
           rintro e w' ⟨rfl, ⟨nd, rfl⟩⟩
           refine ⟨_, rfl, ?_⟩
           refine hK.out _ _ ⟨(blk_cell BK153.out 0).trans rfl, (blk_cell BK153.out 1).trans rfl⟩ (fun hHeld => ?_)
           clear hK K
           refine zn 28 ?_
           refine zp HT_ 12 29 ?_
           refine zp HT_ 13 30 ?_
           refine zp HT_ 14 31 ?_
           refine zu HT_ 15 32 ?_
           refine zu HT_ 16 33 ?_
           refine zu HT_ 17 34 ?_
           refine zu HT_ 18 35 ?_
           refine zu HT_ 19 36 ?_
           refine zp HT_ 20 37 ?_
           refine zp HT_ 21 38 ?_
           refine zu HT_ 22 39 ?_
           refine zu HT_ 23 40 ?_
           refine zu HT_ 24 41 ?_
           refine zu HT_ 25 42 ?_
           refine zu HT_ 26 43 ?_
           refine zu HT_ 27 44 ?_
           refine zu HT_ 28 45 ?_
           refine zu HT_ 29 46 ?_
           refine zu HT_ 30 47 ?_
           refine zu HT_ 31 48 ?_
           refine zu HT_ 32 49 ?_
           refine zu HT_ 33 50 ?_
           refine zp HT_ 34 51 ?_
           refine zo HT_ ?_
           try go_wp2
           go_ret
           exact ⟨by first | rfl | (simp [errW_none, errW_some] <;> rfl) | (simp [*, errW_none, errW_some] <;> rfl), zB⟩
       · replace c6 := Bool.eq_false_iff.mpr c6
         subst c6
         have H1 : (some false) = some r := by rw [if_neg (show ¬ (false = true) by decide)] at H; exact H
         clear H
         have H := H1
         clear H1
         obtain rfl := Option.some.inj H
         have p152 : 0 ≤ (x5_1 : Int) := of_decide_eq_true zA
         have q152 : x5_1 < (l0.length : Int) := of_decide_eq_true zA
         obtain ⟨ad152, e152, hx152_0, hx152_1⟩ := at_T50 HR0.out x5_1 p152 q152
         cases e152
         (try replace hx152_0 := (HB.out.cell (World.block_lt_of_cell? w _ hx152_0)).trans hx152_0)
         (try replace hx152_1 := (HB.out.cell (World.block_lt_of_cell? w _ hx152_1)).trans hx152_1)
         replace p152 := eq_true p152
         replace q152 := eq_true q152
         try go_wp2_with (first | ((with_reducible refine gate_dst (N := 6) rfl ?_); refine zb (w := w) 6 #[.int .i64 0, .int .i64 0] 50 zB ?_; clear HB; intro gb153 w38 HB BK153 GW153; have GE153 := GW153; have hcz39_0 := zy BK153 0; have hcz39_1 := zy BK153 1; have hfz39_0 := blk_frozen BK153.out 0; have hfz39_1 := blk_frozen BK153.out 1))
         have n0_ : Aside0 (((w38.setCell ⟨gb153, 0, none⟩ (.int .i64 ((rd_T50 l0 x5_1).f0))).setCell ⟨gb153, 1, none⟩ (.int .i64 ((rd_T50 l0 x5_1).f1))).heap[gb153]? = some (.cells #[.int .i64 ((rd_T50 l0 x5_1).f0), .int .i64 ((rd_T50 l0 x5_1).f1)] 50 (0, 0))) := ⟨by (with_reducible repeat (first | refine blk_drewN ?_ _ | refine blk_drew ?_ | refine blk_alloc ?_ _)); refine blk_put (cs := #[.int .i64 ((rd_T50 l0 x5_1).f0), .int .i64 0]) ?_ 1 _ rfl; (with_reducible repeat (first | refine blk_drewN ?_ _ | refine blk_drew ?_ | refine blk_alloc ?_ _)); refine blk_put (cs := #[.int .i64 0, .int .i64 0]) ?_ 0 _ rfl; (with_reducible repeat (first | refine blk_drewN ?_ _ | refine blk_drew ?_ | refine blk_alloc ?_ _)); exact BK153.out⟩
         have n1_ : Aside0 (Below w.heap.size w ((w38.setCell ⟨gb153, 0, none⟩ (.int .i64 ((rd_T50 l0 x5_1).f0))).setCell ⟨gb153, 1, none⟩ (.int .i64 ((rd_T50 l0 x5_1).f1)))) := ⟨zB⟩
         (try clear BK153)
         (try clear HB)
         generalize ((w38.setCell ⟨gb153, 0, none⟩ (.int .i64 ((rd_T50 l0 x5_1).f0))).setCell ⟨gb153, 1, none⟩ (.int .i64 ((rd_T50 l0 x5_1).f1))) = w40 at n0_ n1_ ⊢
         have BK153 := n0_
         have HB := n1_
         clear n0_ n1_
         replace BK153 := zM (blk_drew BK153.out)
         replace HB := zM (below_drew1 HB.out)
         refine zs (n := 35) (fun w' => w'.cell? ⟨gb153, 0, none⟩ = some (.int .i64 ((rd_T50 l0 x5_1).f0)) ∧ w'.cell? ⟨gb153, 1, none⟩ = some (.int .i64 ((rd_T50 l0 x5_1).f1))) ⟨(blk_cell BK153.out 0).trans rfl, (blk_cell BK153.out 1).trans rfl⟩ (fun hHeld => ?_); refine with_tabW spec_l2Pairs.tab5 spec_l2Pairs.bits5 (fun HT_ HW_ => ?_)
         generalize w40.drew = w41 at BK153 HB hHeld ⊢
         refine zp HT_ 0 17 ?_
         refine zp HT_ 2 19 ?_
         refine zp HT_ 3 20 ?_
         refine zt HT_ HW_ 1 18 hHeld ?_ (hy := by rintro w' ⟨s0, s1⟩; go_simp; with_reducible rfl)
         refine zg HT_ 4 21 Try.func43 #[.int .i64 ((rd_T50 l0 x5_1).f0), .int .i64 0, .int .i64 (wrap64 (a1 - 1))] (fun K hK => ?_)
         with_reducible refine (spec_l1In.calls ((rd_T50 l0 x5_1).f0) 0 (wrap64 (a1 - 1)) false _ A5.out).mono ?_
         rintro e w' ⟨rfl, ⟨nd, rfl⟩⟩
         refine ⟨_, rfl, ?_⟩
         refine hK.out _ _ ⟨(blk_cell BK153.out 0).trans rfl, (blk_cell BK153.out 1).trans rfl⟩ (fun hHeld => ?_)
         clear hK K
         refine zn 21 ?_
         refine zp HT_ 5 22 ?_
         refine zp HT_ 6 23 ?_
         refine zu HT_ 7 24 ?_
         refine zu HT_ 8 25 ?_
         refine zu HT_ 9 26 ?_
         refine zu HT_ 10 27 ?_
         refine zu HT_ 11 28 ?_
         refine zu HT_ 12 29 ?_
         refine zp HT_ 13 30 ?_
         refine zp HT_ 14 31 ?_
         refine zu HT_ 15 32 ?_
         refine zu HT_ 16 33 ?_
         refine zu HT_ 17 34 ?_
         refine zu HT_ 18 35 ?_
         refine zu HT_ 19 36 ?_
         refine zp HT_ 20 37 ?_
         refine zp HT_ 21 38 ?_
         refine zu HT_ 22 39 ?_
         refine zu HT_ 23 40 ?_
         refine zu HT_ 24 41 ?_
         refine zu HT_ 25 42 ?_
         refine zu HT_ 26 43 ?_
         refine zu HT_ 27 44 ?_
         refine zu HT_ 28 45 ?_
         refine zu HT_ 29 46 ?_
         refine zu HT_ 30 47 ?_
         refine zu HT_ 31 48 ?_
         refine zu HT_ 32 49 ?_
         refine zu HT_ 33 50 ?_
         refine zp HT_ 34 51 ?_
         refine zo HT_ ?_
         try go_wp2
         go_ret
         exact ⟨by first | rfl | (simp [errW_none, errW_some] <;> rfl) | (simp [*, errW_none, errW_some] <;> rfl), zB⟩
     · rw [if_neg c4] at H
       exact absurd H (by simp)
   · rw [if_neg c3] at H
     have c3b0 : decide (x5_1 < (l0.length : Int)) = false := decide_eq_false c3
     clear c3
     obtain rfl := Option.some.inj H
     go_wp2
     go_ret
     exact ⟨by first | rfl | (simp [errW_none, errW_some] <;> rfl) | (simp [*, errW_none, errW_some] <;> rfl), zB⟩

end Go.Proofs.Ytnjadmgnnbamhaa.P
