-- Written by a program of this session (the kit's print, turned: wip/print/patch.py) out of the translation. Not trusted: Lean checks it.
import Derived.Test.YtpbngmkhpcgpkaaPx0
namespace Go.Proofs.Ytpbngmkhpcgpkaa.P
open Go.RowKit Go.Proofs.YtpbngmkhpcgpkaaW.PrintWords Go.Proofs.YtpbngmkhpcgpkaaW.PrintLast Go.Proofs.YtpbngmkhpcgpkaaW.PrintMore
attribute [local go_sem] max2_int min2_int max_two min_two max_three min_three max_four min_four   -- for this text's walks alone
set_option linter.unusedVariables false
set_option linter.unusedSimpArgs false

/-! ### impl_differ: function 85 -/
def impl_differ.f (l0 : List Int) (a1 : Int) (a2 : Int) : Option (Int) := if 0 ≤ a1 then (if a1 < (l0.length : Int) then (if 0 ≤ a2 then (if a2 < (l0.length : Int) then (some (mx (wrap64 ((rd l0 a1) - (rd l0 a2))) (wrap64 ((rd l0 a2) - (rd l0 a1))))) else (none)) else (none)) else (none)) else (none)
set_option maxHeartbeats 8000000 in
set_option maxRecDepth 100000 in
theorem impl_differ.calls (A0 : Option Addr) (c0 : Nat) (l0 : List Int) (a1 : Int) (a2 : Int) (r : Int) (w : World) (hr0 : Kd.C (Kd.int .i64) w A0 l0.length l0) (hc0 : l0.length ≤ c0) (h : impl_differ.f l0 a1 a2 = some r) :
 Calls Try.prog 85 #[.slice A0 l0.length c0, .int .i64 a1, .int .i64 a2] w fun e w' => e = .returned (.int .i64 r) ∧ Below w.heap.size w w' := by
 have HR0 := Aside0.mk hr0
 have HC0 := Aside0.mk hc0
 clear hr0 hc0
 have HB := zM (Below.refl w.heap.size w)
 have H : (if 0 ≤ a1 then (if a1 < (l0.length : Int) then (if 0 ≤ a2 then (if a2 < (l0.length : Int) then (some (mx (wrap64 ((rd l0 a1) - (rd l0 a2))) (wrap64 ((rd l0 a2) - (rd l0 a1))))) else (none)) else (none)) else (none)) else (none)) = some r := h
 clear h
 by_cases c4 : 0 ≤ a1
 · rw [if_pos c4] at H
   have c4b0 := decide_eq_true c4
   clear c4
   by_cases c5 : a1 < (l0.length : Int)
   · rw [if_pos c5] at H
     have c5b0 := decide_eq_true c5
     clear c5
     by_cases c6 : 0 ≤ a2
     · rw [if_pos c6] at H
       have c6b0 := decide_eq_true c6
       clear c6
       by_cases c7 : a2 < (l0.length : Int)
       · rw [if_pos c7] at H
         have c7b0 := decide_eq_true c7
         clear c7
         obtain ⟨ji8, hji8⟩ : ∃ j_ : Int, (mx (wrap64 ((rd l0 a1) - (rd l0 a2))) (wrap64 ((rd l0 a2) - (rd l0 a1)))) = j_ := ⟨_, rfl⟩
         replace H : (some ji8) = some r := by first | (rw [hji8] at H; exact H) | (simp only [hji8] at H ⊢; exact H)
         have hji8_ : (if (wrap64 ((rd l0 a1) - (rd l0 a2))) < (wrap64 ((rd l0 a2) - (rd l0 a1))) then (wrap64 ((rd l0 a2) - (rd l0 a1))) else (wrap64 ((rd l0 a1) - (rd l0 a2)))) = ji8 := hji8
         obtain rfl := Option.some.inj H
         have p674 : 0 ≤ (a1 : Int) := of_decide_eq_true zA
         have q674 : a1 < (l0.length : Int) := of_decide_eq_true zA
         obtain ⟨ad674, e674, hx674_0⟩ := Kd.at_int HR0.out a1 p674 q674
         cases e674
         replace p674 := eq_true p674
         replace q674 := eq_true q674
         have p675 : 0 ≤ (a2 : Int) := of_decide_eq_true zA
         have q675 : a2 < (l0.length : Int) := of_decide_eq_true zA
         obtain ⟨ad675, e675, hx675_0⟩ := Kd.at_int HR0.out a2 p675 q675
         obtain rfl : ad674 = ad675 := (by injection e675)
         replace p675 := eq_true p675
         replace q675 := eq_true q675
         have p676 : 0 ≤ (a2 : Int) := of_decide_eq_true zA
         have q676 : a2 < (l0.length : Int) := of_decide_eq_true zA
         obtain ⟨ad676, e676, hx676_0⟩ := Kd.at_int HR0.out a2 p676 q676
         obtain rfl : ad674 = ad676 := (by injection e676)
         replace p676 := eq_true p676
         replace q676 := eq_true q676
         have p677 : 0 ≤ (a1 : Int) := of_decide_eq_true zA
         have q677 : a1 < (l0.length : Int) := of_decide_eq_true zA
         obtain ⟨ad677, e677, hx677_0⟩ := Kd.at_int HR0.out a1 p677 q677
         obtain rfl : ad674 = ad677 := (by injection e677)
         replace p677 := eq_true p677
         replace q677 := eq_true q677
         go_enter Try.func85, Try.ntmps85
         go_wp2
         repeat (go_quiet (fail); try go_wp2)
         go_ret
         exact ⟨by first | rfl | (simp [errW_none, errW_some] <;> rfl) | (simp only [← hji8]; first | rfl | (simp [errW_none, errW_some] <;> rfl)) | (simp [*, errW_none, errW_some] <;> rfl), zB⟩
       · rw [if_neg c7] at H
         exact absurd H (by simp)
     · rw [if_neg c6] at H
       exact absurd H (by simp)
   · rw [if_neg c5] at H
     exact absurd H (by simp)
 · rw [if_neg c4] at H
   exact absurd H (by simp)

end Go.Proofs.Ytpbngmkhpcgpkaa.P
