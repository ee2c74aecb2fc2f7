-- Written by a program of this session (the kit's print, turned: wip/print/patch.py) out of the translation. Not trusted: Lean checks it.
import Derived.Test.YtpbngmkhpcgpkaaIsWayPx0
import Derived.Test.YtpbngmkhpcgpkaaIsWayPx1
import Derived.Test.YtpbngmkhpcgpkaaIsWayPx2
import Derived.Test.YtpbngmkhpcgpkaaIsWayPx4
import Derived.Test.YtpbngmkhpcgpkaaIsWayPx11
import Derived.Test.YtpbngmkhpcgpkaaIsWayPx16
import Derived.Test.YtpbngmkhpcgpkaaIsWayPx17
import Derived.Test.YtpbngmkhpcgpkaaIsWayPx27
import Derived.Test.YtpbngmkhpcgpkaaIsWayPx5
import Derived.Test.YtpbngmkhpcgpkaaIsWayPx23
import Derived.Test.YtpbngmkhpcgpkaaIsWayPx24
import Derived.Test.YtpbngmkhpcgpkaaIsWayPx26
import Derived.Test.YtpbngmkhpcgpkaaIsWayExtC
import Derived.Test.YtpbngmkhpcgpkaaIsWayPx25
import Derived.Test.YtpbngmkhpcgpkaaIsWayPx13
import Derived.Test.YtpbngmkhpcgpkaaIsWayExtA
import Derived.Handy
import Derived.Test.YtpbngmkhpcgpkaaIsWayExtF
namespace Go.Proofs.Ytpbngmkhpcgpkaa.P
open Go.RowKit Go.Proofs.YtpbngmkhpcgpkaaW.PrintWords Go.Proofs.YtpbngmkhpcgpkaaW.PrintLast Go.Proofs.YtpbngmkhpcgpkaaW.PrintMore
attribute [local go_sem] max2_int min2_int max_two min_two max_three min_three max_four min_four   -- for this text's walks alone
set_option linter.unusedVariables false
set_option linter.unusedSimpArgs false

attribute [local go_sem high] eqA68
/-! ### spec_l1Least: function 117 -/
def spec_l1Least.f (a0 : Int) (a1 : Int) : Option (Int) := if a0 < a1 then (some a0) else (some a1)
set_option maxHeartbeats 8000000 in
set_option maxRecDepth 100000 in
theorem spec_l1Least.calls (a0 : Int) (a1 : Int) (r : Int) (w : World) (h : spec_l1Least.f a0 a1 = some r) :
 Calls Try.prog 117 #[.int .i64 a0, .int .i64 a1] w fun e w' => e = .returned (.int .i64 r) ∧ Drawn0 w w' := by
 have H : (if a0 < a1 then (some a0) else (some a1)) = some r := h
 clear h
 by_cases c3 : a0 < a1
 · rw [if_pos c3] at H
   have c3b0 := decide_eq_true c3
   clear c3
   obtain rfl := Option.some.inj H
   go_enter Try.func117, Try.ntmps117
   go_wp2
   go_ret
   exact ⟨by first | rfl | (simp; done) | (simp [*]; done), by repeat (first | exact Drawn0.refl _ | apply Drawn0.step)⟩
 · rw [if_neg c3] at H
   have c3b0 : decide (a0 < a1) = false := decide_eq_false c3
   clear c3
   obtain rfl := Option.some.inj H
   go_enter Try.func117, Try.ntmps117
   go_wp2
   go_ret
   exact ⟨by first | rfl | (simp; done) | (simp [*]; done), by repeat (first | exact Drawn0.refl _ | apply Drawn0.step)⟩

/-! ### spec_l2Step: function 92 -/
def spec_l2Step.l0 : Nat → Int → Int → Int → List (List Int) → List (S68) → Option (Bool)
 | 0, _, _, _, _, _ => none
 | k + 1, x1, x2, x7, x846000, x846001 => if x7 < (x846001.length : Int) then (if 0 ≤ x7 then ((spec_l1Least.f x1 x2).bind fun t847 => ((spec_l1Most.f x1 x2).bind fun t848 => (if (((rd_T68 x846001 x7).f0) == t847 && (((rd_T68 x846001 x7).f1) == t848)) = true then (some true) else (spec_l2Step.l0 k x1 x2 (wrap64 (x7 + 1)) x846000 x846001)))) else (none)) else (some false)
def spec_l2Step.f (k : Nat) (l0_0 : List (List Int)) (l0_1 : List (S68)) (a1 : Int) (a2 : Int) : Option (Bool) := spec_l2Step.l0 k a1 a2 0 l0_0 l0_1
set_option maxHeartbeats 8000000 in
set_option maxRecDepth 100000 in
theorem spec_l2Step.calls (k : Nat) (A0_0 : Option Addr) (c0_0 : Nat) (l0_0 : List (List Int)) (A0_1 : Option Addr) (c0_1 : Nat) (l0_1 : List (S68)) (a1 : Int) (a2 : Int) (r : Bool) (w : World) (hr0_0 : Kd.C (Kd.slice 3 (Kd.int .i64)) w A0_0 l0_0.length l0_0) (hc0_0 : l0_0.length ≤ c0_0) (hr0_1 : Kd.C k68 w A0_1 l0_1.length l0_1) (hc0_1 : l0_1.length ≤ c0_1) (h : spec_l2Step.f k l0_0 l0_1 a1 a2 = some r) :
 Calls Try.prog 92 #[.agg #[.slice A0_0 l0_0.length c0_0, .slice A0_1 l0_1.length c0_1], .int .i64 a1, .int .i64 a2] w fun e w' => e = .returned (.bool r) ∧ Below w.heap.size w w' := by
 have hu50 := Try.underlying50
 have hu68 := Try.underlying68
 have HR0_0 := Aside0.mk hr0_0
 have HC0_0 := Aside0.mk hc0_0
 clear hr0_0 hc0_0
 have HR0_1 := Aside0.mk hr0_1
 have HC0_1 := Aside0.mk hc0_1
 clear hr0_1 hc0_1
 have HB := zM (Below.refl w.heap.size w)
 have H : (spec_l2Step.l0 k a1 a2 0 l0_0 l0_1) = some r := h
 clear h
 have H' := Aside0.mk H
 clear H
 go_enter Try.func92, Try.ntmps92
 go_wp2_with (first | ((with_reducible refine gate_dst (N := 3) rfl ?_); refine zb (w := w) 3 #[.slice A0_0 l0_0.length c0_0, .slice A0_1 l0_1.length c0_1] 50 zB ?_; clear HB; intro gb845 w4 HB BK845 GW845; have GE845 := GW845))
 repeat (go_quiet (first | ((with_reducible refine gate_dst (N := 3) rfl ?_); refine zb (w := w) 3 #[.slice A0_0 l0_0.length c0_0, .slice A0_1 l0_1.length c0_1] 50 zB ?_; clear HB; intro gb845 w4 HB BK845 GW845; have GE845 := GW845)); try go_wp2_with (first | ((with_reducible refine gate_dst (N := 3) rfl ?_); refine zb (w := w) 3 #[.slice A0_0 l0_0.length c0_0, .slice A0_1 l0_1.length c0_1] 50 zB ?_; clear HB; intro gb845 w4 HB BK845 GW845; have GE845 := GW845)))
 go_loopg [7] k (fun kq v7 w' => ∃ (x7_1 : Int), v7 = .int .i64 x7_1 ∧ Aside0 (spec_l2Step.l0 kq a1 a2 x7_1 l0_0 l0_1 = some r) ∧ Aside0 (kq ≤ k) ∧ Aside0 (w'.heap[gb845]? = some (.cells #[(.slice A0_0 l0_0.length c0_0), (.slice A0_1 l0_1.length c0_1)] 50 (0, 0))) ∧ Aside0 (Below w.heap.size w w'))
 case atStart => exact ⟨(0), (by first | rfl | (simp; done) | (simp [*]; done)), H', ⟨Nat.le_refl _⟩, ⟨zK BK845.out⟩, ⟨zB⟩⟩
 case round =>
  clear H'
  try clear p2
  obtain ⟨x7_1, rfl, HA, HK1, BK845, HB⟩ := hrel
  cases gk with
  | zero => exact absurd HA.out (by simp [spec_l2Step.l0])
  | succ k1 =>
   have H := HA.out
   clear HA
   simp only [spec_l2Step.l0] at H
   by_cases c5 : x7_1 < (l0_1.length : Int)
   · rw [if_pos c5] at H
     have c5b0 := decide_eq_true c5
     clear c5
     by_cases c6 : 0 ≤ x7_1
     · rw [if_pos c6] at H
       have c6b0 := decide_eq_true c6
       clear c6
       replace H := Option.bind_eq_some_iff.mp H
       obtain ⟨t847, A70, H⟩ := H
       have A7 := Aside0.mk A70
       clear A70
       replace H := Option.bind_eq_some_iff.mp H
       obtain ⟨t848, A80, H⟩ := H
       have A8 := Aside0.mk A80
       clear A80
       by_cases c9 : (((rd_T68 l0_1 x7_1).f0) == t847 && (((rd_T68 l0_1 x7_1).f1) == t848)) = true
       · rw [if_pos c9] at H
         have c9b0 : (((rd_T68 l0_1 x7_1).f0) == t847 && (((rd_T68 l0_1 x7_1).f1) == t848)) = true := c9
         (try (have c9b1 : decide (((rd_T68 l0_1 x7_1).f0) = t847 && (((rd_T68 l0_1 x7_1).f1) == t848)) = true := by simpa using c9))
         (try (have c9b2 : (((rd_T68 l0_1 x7_1).f0) == t847 && (((rd_T68 l0_1 x7_1).f1) == t848)) = true := by simpa using c9))
         clear c9
         obtain rfl := Option.some.inj H
         have hcz10_0 := zy BK845 0
         have hcz10_1 := zy BK845 1
         have hfz10_0 := blk_frozen BK845.out 0
         have hfz10_1 := blk_frozen BK845.out 1
         have p846 : 0 ≤ (x7_1 : Int) := of_decide_eq_true zA
         have q846 : x7_1 < (l0_1.length : Int) := of_decide_eq_true zA
         obtain ⟨ad846, e846, hx846_0, hx846_1⟩ := at_T68 HR0_1.out x7_1 p846 q846
         cases e846
         (try replace hx846_0 := (HB.out.cell (World.block_lt_of_cell? w _ hx846_0)).trans hx846_0)
         (try replace hx846_1 := (HB.out.cell (World.block_lt_of_cell? w _ hx846_1)).trans hx846_1)
         replace p846 := eq_true p846
         replace q846 := eq_true q846
         go_wp2_with (first | (go_at_call 117; (with_reducible refine (spec_l1Least.calls a1 a2 t847 _ A7.out).mono ?_); rintro e w' ⟨rfl, ⟨nd, rfl⟩⟩; (try exact zD)) | (go_at_call 83; (with_reducible refine (spec_l1Most.calls a1 a2 t848 _ A8.out).mono ?_); rintro e w' ⟨rfl, ⟨nd, rfl⟩⟩; (try exact zD)))
         repeat (go_quiet (first | (go_at_call 117; (with_reducible refine (spec_l1Least.calls a1 a2 t847 _ A7.out).mono ?_); rintro e w' ⟨rfl, ⟨nd, rfl⟩⟩; (try exact zD)) | (go_at_call 83; (with_reducible refine (spec_l1Most.calls a1 a2 t848 _ A8.out).mono ?_); rintro e w' ⟨rfl, ⟨nd, rfl⟩⟩; (try exact zD))); try go_wp2_with (first | (go_at_call 117; (with_reducible refine (spec_l1Least.calls a1 a2 t847 _ A7.out).mono ?_); rintro e w' ⟨rfl, ⟨nd, rfl⟩⟩; (try exact zD)) | (go_at_call 83; (with_reducible refine (spec_l1Most.calls a1 a2 t848 _ A8.out).mono ?_); rintro e w' ⟨rfl, ⟨nd, rfl⟩⟩; (try exact zD))))
         go_ret
         exact ⟨by first | rfl | (simp [errW_none, errW_some] <;> rfl) | (simp [*, errW_none, errW_some] <;> rfl), zB⟩
       · rw [if_neg c9] at H
         have c9b0 : (((rd_T68 l0_1 x7_1).f0) == t847 && (((rd_T68 l0_1 x7_1).f1) == t848)) = false := by simpa using c9
         (try (have c9b1 : decide (((rd_T68 l0_1 x7_1).f0) = t847 && (((rd_T68 l0_1 x7_1).f1) == t848)) = false := by simpa using c9))
         (try (have c9b2 : (((rd_T68 l0_1 x7_1).f0) == t847 && (((rd_T68 l0_1 x7_1).f1) == t848)) = false := by simpa using c9))
         (try (have c9b3 : ¬ (((rd_T68 l0_1 x7_1).f0) = t847 && (((rd_T68 l0_1 x7_1).f1) == t848)) := by simpa using c9))
         clear c9
         have H' := Aside0.mk H
         clear H
         have hcz11_0 := zy BK845 0
         have hcz11_1 := zy BK845 1
         have hfz11_0 := blk_frozen BK845.out 0
         have hfz11_1 := blk_frozen BK845.out 1
         have p846 : 0 ≤ (x7_1 : Int) := of_decide_eq_true zA
         have q846 : x7_1 < (l0_1.length : Int) := of_decide_eq_true zA
         obtain ⟨ad846, e846, hx846_0, hx846_1⟩ := at_T68 HR0_1.out x7_1 p846 q846
         cases e846
         (try replace hx846_0 := (HB.out.cell (World.block_lt_of_cell? w _ hx846_0)).trans hx846_0)
         (try replace hx846_1 := (HB.out.cell (World.block_lt_of_cell? w _ hx846_1)).trans hx846_1)
         replace p846 := eq_true p846
         replace q846 := eq_true q846
         go_wp2_with (first | (go_at_call 117; (with_reducible refine (spec_l1Least.calls a1 a2 t847 _ A7.out).mono ?_); rintro e w' ⟨rfl, ⟨nd, rfl⟩⟩; (try exact zD)) | (go_at_call 83; (with_reducible refine (spec_l1Most.calls a1 a2 t848 _ A8.out).mono ?_); rintro e w' ⟨rfl, ⟨nd, rfl⟩⟩; (try exact zD)))
         repeat (go_quiet (first | (go_at_call 117; (with_reducible refine (spec_l1Least.calls a1 a2 t847 _ A7.out).mono ?_); rintro e w' ⟨rfl, ⟨nd, rfl⟩⟩; (try exact zD)) | (go_at_call 83; (with_reducible refine (spec_l1Most.calls a1 a2 t848 _ A8.out).mono ?_); rintro e w' ⟨rfl, ⟨nd, rfl⟩⟩; (try exact zD))); try go_wp2_with (first | (go_at_call 117; (with_reducible refine (spec_l1Least.calls a1 a2 t847 _ A7.out).mono ?_); rintro e w' ⟨rfl, ⟨nd, rfl⟩⟩; (try exact zD)) | (go_at_call 83; (with_reducible refine (spec_l1Most.calls a1 a2 t848 _ A8.out).mono ?_); rintro e w' ⟨rfl, ⟨nd, rfl⟩⟩; (try exact zD))))
         go_roundg k1
         case measure => have := HK1.out; omega
         case rel => exact ⟨(wrap64 (x7_1 + 1)), (by first | rfl | (simp; done) | (simp [*]; done)), H', ⟨by have := HK1.out; omega⟩, ⟨zK BK845.out⟩, ⟨zB⟩⟩
     · rw [if_neg c6] at H
       exact absurd H (by simp)
   · rw [if_neg c5] at H
     have c5b0 : decide (x7_1 < (l0_1.length : Int)) = false := decide_eq_false c5
     clear c5
     obtain rfl := Option.some.inj H
     have hcz12_0 := zy BK845 0
     have hcz12_1 := zy BK845 1
     have hfz12_0 := blk_frozen BK845.out 0
     have hfz12_1 := blk_frozen BK845.out 1
     go_wp2
     repeat (go_quiet (fail); try go_wp2)
     go_ret
     exact ⟨by first | rfl | (simp [errW_none, errW_some] <;> rfl) | (simp [*, errW_none, errW_some] <;> rfl), zB⟩

end Go.Proofs.Ytpbngmkhpcgpkaa.P
