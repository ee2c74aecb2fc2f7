import Derived.Test.YtjgcehldepfaaaaGreatForestMeetsG6
namespace Go.Proofs.YtjgcehldepfaaaaGreat.P
open Go.RowKit YtjgcehldepfaaaaGreatW.PrintWords YtjgcehldepfaaaaGreatW.PrintLast YtjgcehldepfaaaaGreatW.PrintMore
attribute [local go_sem] bl bh bi bd bj bf bk bg
set_option maxRecDepth 100000
set_option maxHeartbeats 8000000
set_option linter.unusedVariables false
set_option linter.unusedSimpArgs false
def gM (k : Nat) (a0_0 : Int) (l0_1 : List (S63)) : Option (Bool) := (d3 a0_0 0 8).bind fun t150 => (if t150 = true then ((jq k l0_1 a0_0).bind fun t151 => (some t151)) else (some false))
theorem gN (k : Nat) (a0_0 : Int) (A0_1 : Option Addr) (c0_1 : Nat) (l0_1 : List (S63)) (r : Bool) (w : World) (hr0_1 : Kd.C k63 w A0_1 l0_1.length l0_1) (hc0_1 : l0_1.length ≤ c0_1) (h : gM k a0_0 l0_1 = some r) :
 Calls Tryz.prog 46 #[.agg #[.int .i64 a0_0, .slice A0_1 l0_1.length c0_1]] w fun e w' => e = .returned (.bool r) ∧ Below w.heap.size w w' := by
 have hu29 := Tryz.underlying29
 have HR0_1 := Aside0.mk hr0_1
 have HC0_1 := Aside0.mk hc0_1
 clear hr0_1 hc0_1
 have HB := zM (Below.refl w.heap.size w)
 have H := h
 unfold gM at H
 clear h
 replace H := av H
 obtain ⟨t150, A20, H⟩ := H
 have A2 := Aside0.mk A20
 clear A20
 by_cases c3 : t150 = true
 · subst c3
   rw [if_pos rfl] at H
   replace H := av H
   obtain ⟨t151, A40, H⟩ := H
   have A4 := Aside0.mk A40
   clear A40
   obtain rfl := ap H
   go_enter Tryz.func46, Tryz.ntmps46
   go_wp2_with (first | ((with_reducible refine au (N := 1) rfl ?_); refine zb (w := w) 1 #[.int .i64 a0_0, .slice A0_1 l0_1.length c0_1] 29 zB ?_; clear HB; intro gb149 w5 HB BK149 GW149; have GE149 := GW149; have hcz6_0 := zy BK149 0; have hcz6_1 := zy BK149 1; have hfz6_0 := ae BK149.out 0; have hfz6_1 := ae BK149.out 1) | ((with_reducible refine ax (f := 66) rfl ?_); refine zc 5 Tryz.func66 #[.int .i64 a0_0, .int .i64 0, .int .i64 8] ?_; (with_reducible refine (eG a0_0 0 8 true _ A2.out).mono ?_); rintro e w' ⟨rfl, ⟨nd, rfl⟩⟩; refine ⟨_, rfl, ?_⟩) | (go_at_call 67; (with_reducible refine (rG k _ _ l0_1 a0_0 t151 _ ?side1 ?side2 A4.out).mono ?_); (case side1 => exact zC (Kd.C_below HR0_1.out zB)); (case side2 => exact HC0_1.out); rintro e w7 ⟨rfl, hb⟩; replace BK149 := zJ BK149 hb; replace HB := zM (ag zB hb); (try clear hb); (try clear hi)))
   go_ret
   exact ⟨by first | rfl | (simp [al, ak] <;> rfl) | (simp [*, al, ak] <;> rfl), zB⟩
 · replace c3 := Bool.eq_false_iff.mpr c3
   subst c3
   rw [if_neg (show ¬ (false = true) by decide)] at H
   obtain rfl := ap H
   go_enter Tryz.func46, Tryz.ntmps46
   go_wp2_with (first | ((with_reducible refine au (N := 1) rfl ?_); refine zb (w := w) 1 #[.int .i64 a0_0, .slice A0_1 l0_1.length c0_1] 29 zB ?_; clear HB; intro gb149 w8 HB BK149 GW149; have GE149 := GW149; have hcz9_0 := zy BK149 0; have hcz9_1 := zy BK149 1; have hfz9_0 := ae BK149.out 0; have hfz9_1 := ae BK149.out 1) | ((with_reducible refine ax (f := 66) rfl ?_); refine zc 5 Tryz.func66 #[.int .i64 a0_0, .int .i64 0, .int .i64 8] ?_; (with_reducible refine (eG a0_0 0 8 false _ A2.out).mono ?_); rintro e w' ⟨rfl, ⟨nd, rfl⟩⟩; refine ⟨_, rfl, ?_⟩))
   go_ret
   exact ⟨by first | rfl | (simp [al, ak] <;> rfl) | (simp [*, al, ak] <;> rfl), zB⟩
def dY : Nat → List Int → Int → List Int → Int → Int → Option (Bool)
 | 0, _, _, _, _, _ => none
 | k + 1, x0, x1, x7, x8, x9 => if x9 < x8 then (if 0 ≤ x9 then (if x9 < (x7.length : Int) then ((d3 (rd x7 x9) 0 (wrap64 (x1 - 1))).bind fun t153 => (if t153 = true then (if x9 > 0 then (if 0 ≤ (wrap64 (x9 - 1)) then (if (wrap64 (x9 - 1)) < (x0.length : Int) then (if (rd x7 x9) ≤ (rd x0 (wrap64 (x9 - 1))) then (some false) else (dY k x0 x1 x7 x8 (wrap64 (x9 + 1)))) else (none)) else (none)) else (dY k x0 x1 x7 x8 (wrap64 (x9 + 1)))) else (some false))) else (none)) else (none)) else (some true)
def jp (k : Nat) (l0 : List Int) (a1 : Int) : Option (Bool) := dY k l0 a1 l0 (l0.length : Int) 0
theorem m8 (k : Nat) (A0 : Option Addr) (c0 : Nat) (l0 : List Int) (a1 : Int) (r : Bool) (w : World) (hr0 : Kd.C (Kd.int .i64) w A0 l0.length l0) (hc0 : l0.length ≤ c0) (h : jp k l0 a1 = some r) :
 Calls Tryz.prog 68 #[.slice A0 l0.length c0, .int .i64 a1] w fun e w' => e = .returned (.bool r) ∧ Drawn0 w w' := by
 have HR0 := Aside0.mk hr0
 have HC0 := Aside0.mk hc0
 clear hr0 hc0
 have H := h
 unfold jp at H
 clear h
 have H' := Aside0.mk H
 clear H
 go_enter Tryz.func68, Tryz.ntmps68
 go_wp2
 go_loopg [9] k (fun kq v9 w' => ∃ (x9_1 : Int), v9 = .int .i64 x9_1 ∧ Aside0 (dY kq l0 a1 l0 (l0.length : Int) x9_1 = some r) ∧ Aside0 (kq ≤ k) ∧ Drawn0 w w')
 case atStart => exact ⟨(0), (by first | rfl | (simp; done) | (simp [*]; done)), H', ⟨ar _⟩, by repeat (first | exact Drawn0.refl _ | apply Drawn0.step)⟩
 case round =>
  clear H'
  try clear p2
  obtain ⟨x9_1, rfl, HA, HK1, ⟨m1, rfl⟩⟩ := hrel
  cases gk with
  | zero => exact absurd HA.out (by simp [dY])
  | succ k1 =>
   have H := HA.out
   clear HA
   simp only [dY] at H
   by_cases c3 : x9_1 < (l0.length : Int)
   · rw [if_pos c3] at H
     have c3b0 := af c3
     clear c3
     by_cases c4 : 0 ≤ x9_1
     case neg => rw [if_neg c4] at H; simp at H
     rw [if_pos c4] at H
     have c4b0 := af c4
     clear c4
     by_cases c5 : x9_1 < (l0.length : Int)
     case neg => rw [if_neg c5] at H; simp at H
     rw [if_pos c5] at H
     have c5b0 := af c5
     clear c5
     replace H := av H
     obtain ⟨t153, A60, H⟩ := H
     have A6 := Aside0.mk A60
     clear A60
     by_cases c7 : t153 = true
     · subst c7
       rw [if_pos rfl] at H
       by_cases c8 : x9_1 > 0
       · rw [if_pos c8] at H
         have c8b0 : decide (0 < x9_1) = true := af c8
         clear c8
         obtain ⟨ji9, hji9⟩ : ∃ j_ : Int, (wrap64 (x9_1 - 1)) = j_ := ⟨_, rfl⟩
         replace H : (if 0 ≤ (ji9) then (if (ji9) < (l0.length : Int) then (if (rd l0 x9_1) ≤ (rd l0 (ji9)) then (some false) else (dY k1 l0 a1 l0 (l0.length : Int) (wrap64 (x9_1 + 1)))) else (none)) else (none)) = some r := by first | (rw [hji9] at H; exact H) | (simp only [hji9] at H ⊢; exact H)
         (try rw [hji9] at A6)
         have hji9w : (IntKind.i64.wrap (x9_1 - 1)) = ji9 := (bW _).trans hji9
         by_cases c10 : 0 ≤ (ji9)
         case neg => rw [if_neg c10] at H; simp at H
         rw [if_pos c10] at H
         have c10b0 := af c10
         clear c10
         by_cases c11 : (ji9) < (l0.length : Int)
         case neg => rw [if_neg c11] at H; simp at H
         rw [if_pos c11] at H
         have c11b0 := af c11
         clear c11
         by_cases c12 : (rd l0 x9_1) ≤ (rd l0 (ji9))
         · rw [if_pos c12] at H
           have c12b0 := af c12
           clear c12
           obtain rfl := ap H
           have p152 : 0 ≤ (x9_1 : Int) := ac zA
           have q152 : x9_1 < (l0.length : Int) := ac zA
           obtain ⟨ad152, e152, hx152_0⟩ := Kd.at_int HR0.out x9_1 p152 q152
           cases e152
           replace p152 := eq_true p152
           replace q152 := eq_true q152
           go_wp2_with (first | ((with_reducible refine ax (f := 66) rfl ?_); refine zc 17 Tryz.func66 #[.int .i64 (rd l0 x9_1), .int .i64 0, .int .i64 (wrap64 (a1 - 1))] ?_; (with_reducible refine (eG (rd l0 x9_1) 0 (wrap64 (a1 - 1)) true _ A6.out).mono ?_); rintro e w' ⟨rfl, ⟨nd, rfl⟩⟩; refine ⟨_, rfl, ?_⟩; have p154 : 0 ≤ ((ji9) : Int) := ac zA; have q154 : (ji9) < (l0.length : Int) := ac zA; obtain ⟨ad154, e154, hx154_0⟩ := Kd.at_int HR0.out (ji9) p154 q154; obtain rfl : ad152 = ad154 := (by injection e154); replace p154 := eq_true p154; replace q154 := eq_true q154))
           go_ret
           exact ⟨by first | rfl | (simp; done) | (simp only [← hji9] <;> (first | rfl | simp)) | (simp [*]; done), by repeat (first | exact Drawn0.refl _ | apply Drawn0.step)⟩
         · rw [if_neg c12] at H
           have c12b0 : decide ((rd l0 x9_1) ≤ (rd l0 (ji9))) = false := ao c12
           clear c12
           have H' := Aside0.mk H
           clear H
           have p152 : 0 ≤ (x9_1 : Int) := ac zA
           have q152 : x9_1 < (l0.length : Int) := ac zA
           obtain ⟨ad152, e152, hx152_0⟩ := Kd.at_int HR0.out x9_1 p152 q152
           cases e152
           replace p152 := eq_true p152
           replace q152 := eq_true q152
           go_wp2_with (first | ((with_reducible refine ax (f := 66) rfl ?_); refine zc 17 Tryz.func66 #[.int .i64 (rd l0 x9_1), .int .i64 0, .int .i64 (wrap64 (a1 - 1))] ?_; (with_reducible refine (eG (rd l0 x9_1) 0 (wrap64 (a1 - 1)) true _ A6.out).mono ?_); rintro e w' ⟨rfl, ⟨nd, rfl⟩⟩; refine ⟨_, rfl, ?_⟩; have p154 : 0 ≤ ((ji9) : Int) := ac zA; have q154 : (ji9) < (l0.length : Int) := ac zA; obtain ⟨ad154, e154, hx154_0⟩ := Kd.at_int HR0.out (ji9) p154 q154; obtain rfl : ad152 = ad154 := (by injection e154); replace p154 := eq_true p154; replace q154 := eq_true q154))
           go_roundg k1
           case measure => have := HK1.out; omega
           case rel => exact ⟨(wrap64 (x9_1 + 1)), (by first | rfl | (simp; done) | (simp [*]; done)), H', ⟨by have := HK1.out; omega⟩, by repeat (first | exact Drawn0.refl _ | apply Drawn0.step)⟩
       · rw [if_neg c8] at H
         have c8b0 : decide (0 < x9_1) = false := ao c8
         clear c8
         have H' := Aside0.mk H
         clear H
         have p152 : 0 ≤ (x9_1 : Int) := ac zA
         have q152 : x9_1 < (l0.length : Int) := ac zA
         obtain ⟨ad152, e152, hx152_0⟩ := Kd.at_int HR0.out x9_1 p152 q152
         cases e152
         replace p152 := eq_true p152
         replace q152 := eq_true q152
         go_wp2_with (first | ((with_reducible refine ax (f := 66) rfl ?_); refine zc 17 Tryz.func66 #[.int .i64 (rd l0 x9_1), .int .i64 0, .int .i64 (wrap64 (a1 - 1))] ?_; (with_reducible refine (eG (rd l0 x9_1) 0 (wrap64 (a1 - 1)) true _ A6.out).mono ?_); rintro e w' ⟨rfl, ⟨nd, rfl⟩⟩; refine ⟨_, rfl, ?_⟩))
         go_roundg k1
         case measure => have := HK1.out; omega
         case rel => exact ⟨(wrap64 (x9_1 + 1)), (by first | rfl | (simp; done) | (simp [*]; done)), H', ⟨by have := HK1.out; omega⟩, by repeat (first | exact Drawn0.refl _ | apply Drawn0.step)⟩
     · replace c7 := Bool.eq_false_iff.mpr c7
       subst c7
       rw [if_neg (show ¬ (false = true) by decide)] at H
       obtain rfl := ap H
       have p152 : 0 ≤ (x9_1 : Int) := ac zA
       have q152 : x9_1 < (l0.length : Int) := ac zA
       obtain ⟨ad152, e152, hx152_0⟩ := Kd.at_int HR0.out x9_1 p152 q152
       cases e152
       replace p152 := eq_true p152
       replace q152 := eq_true q152
       go_wp2_with (first | ((with_reducible refine ax (f := 66) rfl ?_); refine zc 17 Tryz.func66 #[.int .i64 (rd l0 x9_1), .int .i64 0, .int .i64 (wrap64 (a1 - 1))] ?_; (with_reducible refine (eG (rd l0 x9_1) 0 (wrap64 (a1 - 1)) false _ A6.out).mono ?_); rintro e w' ⟨rfl, ⟨nd, rfl⟩⟩; refine ⟨_, rfl, ?_⟩))
       go_ret
       exact ⟨by first | rfl | (simp; done) | (simp [*]; done), by repeat (first | exact Drawn0.refl _ | apply Drawn0.step)⟩
   · rw [if_neg c3] at H
     have c3b0 : decide (x9_1 < (l0.length : Int)) = false := ao c3
     clear c3
     obtain rfl := ap H
     go_wp2
     go_ret
     exact ⟨by first | rfl | (simp; done) | (simp [*]; done), by repeat (first | exact Drawn0.refl _ | apply Drawn0.step)⟩
def eZ (a0 : Int) (a1 : Int) (a2 : Int) : Option (Bool) := if a0 ≥ a1 then (some (decide (a0 ≤ a2))) else (some false)
theorem bD (a0 : Int) (a1 : Int) (a2 : Int) (r : Bool) (w : World) (h : eZ a0 a1 a2 = some r) :
 Calls Tryz.prog 62 #[.int .i64 a0, .int .i64 a1, .int .i64 a2] w fun e w' => e = .returned (.bool r) ∧ Drawn0 w w' := by
 have H := h
 unfold eZ at H
 clear h
 by_cases c4 : a0 ≥ a1
 · rw [if_pos c4] at H
   have c4b0 : decide (a1 ≤ a0) = true := af c4
   clear c4
   obtain rfl := ap H
   go_enter Tryz.func62, Tryz.ntmps62
   go_wp2
   go_ret
   exact ⟨by first | rfl | (simp; done) | (simp [*]; done), by repeat (first | exact Drawn0.refl _ | apply Drawn0.step)⟩
 · rw [if_neg c4] at H
   have c4b0 : decide (a1 ≤ a0) = false := ao c4
   clear c4
   obtain rfl := ap H
   go_enter Tryz.func62, Tryz.ntmps62
   go_wp2
   go_ret
   exact ⟨by first | rfl | (simp; done) | (simp [*]; done), by repeat (first | exact Drawn0.refl _ | apply Drawn0.step)⟩
def gn (a0_0 : Int) (a0_1 : Int) (a1_0 : Int) (a1_1 : Int) : Option (Bool) := if a0_0 < a1_0 then (some true) else (if a0_0 = a1_0 then (some (decide (a0_1 < a1_1))) else (some false))
theorem lx (a0_0 : Int) (a0_1 : Int) (a1_0 : Int) (a1_1 : Int) (r : Bool) (w : World) (h : gn a0_0 a0_1 a1_0 a1_1 = some r) :
 Calls Tryz.prog 82 #[.agg #[.int .i64 a0_0, .int .i64 a0_1], .agg #[.int .i64 a1_0, .int .i64 a1_1]] w fun e w' => e = .returned (.bool r) ∧ Below w.heap.size w w' := by
 have hu63 := Tryz.underlying63
 have HB := zM (Below.refl w.heap.size w)
 have H := h
 unfold gn at H
 clear h
 by_cases c3 : a0_0 < a1_0
 · rw [if_pos c3] at H
   have c3b0 := af c3
   clear c3
   obtain rfl := ap H
   go_enter Tryz.func82, Tryz.ntmps82
   go_wp2_with (first | ((with_reducible refine au (N := 2) rfl ?_); refine zb (w := w) 2 #[.int .i64 a0_0, .int .i64 a0_1] 63 zB ?_; clear HB; intro gb155 w4 HB BK155 GW155; have GE155 := GW155) | ((with_reducible refine au (N := 3) rfl ?_); refine ze 3 #[.int .i64 a1_0, .int .i64 a1_1] 63 ?_; intro gb156 hg w5 hbox hb; have BK156 := zM (hbox); have GW156 := zM ((by rw [hg]; exact (am zB) : w.heap.size ≤ gb156)); have GE156 := zM ((by rw [hg]; exact (am zB) : w.heap.size ≤ gb156)); replace HB := zM (ag zB hb); have NB155_156 := zM ((by rw [hg]; exact Nat.ne_of_lt (aH (g := gb155) (o := .cells #[.int .i64 a0_0, .int .i64 a0_1] 63 (0, 0)) (zK BK155.out)) : gb155 ≠ gb156)); have NB156_155 := zM ((by rw [hg]; exact Nat.ne_of_gt (aH (g := gb155) (o := .cells #[.int .i64 a0_0, .int .i64 a0_1] 63 (0, 0)) (zK BK155.out)) : gb156 ≠ gb155)); replace BK155 := zJ BK155 hb; clear hb hbox hg; have hnb6 := NB155_156.out; have hnc6 := NB156_155.out; have hcz7_0 := zy BK155 0; have hcz7_1 := zy BK155 1; have hfz7_0 := ae BK155.out 0; have hfz7_1 := ae BK155.out 1; have hcz8_0 := zy BK156 0; have hcz8_1 := zy BK156 1; have hfz8_0 := ae BK156.out 0; have hfz8_1 := ae BK156.out 1))
   go_ret
   exact ⟨by first | rfl | (simp [al, ak] <;> rfl) | (simp [*, al, ak] <;> rfl), zB⟩
 · rw [if_neg c3] at H
   have c3b0 : decide (a0_0 < a1_0) = false := ao c3
   clear c3
   by_cases c9 : a0_0 = a1_0
   · rw [if_pos c9] at H
     have c9b0 : (a0_0 == a1_0) = true := beq_iff_eq.mpr c9
     have c9b1 : (a0_0 != a1_0) = false := bne_eq_false_iff_eq.mpr c9
     clear c9
     obtain rfl := ap H
     go_enter Tryz.func82, Tryz.ntmps82
     go_wp2_with (first | ((with_reducible refine au (N := 2) rfl ?_); refine zb (w := w) 2 #[.int .i64 a0_0, .int .i64 a0_1] 63 zB ?_; clear HB; intro gb155 w10 HB BK155 GW155; have GE155 := GW155) | ((with_reducible refine au (N := 3) rfl ?_); refine ze 3 #[.int .i64 a1_0, .int .i64 a1_1] 63 ?_; intro gb156 hg w11 hbox hb; have BK156 := zM (hbox); have GW156 := zM ((by rw [hg]; exact (am zB) : w.heap.size ≤ gb156)); have GE156 := zM ((by rw [hg]; exact (am zB) : w.heap.size ≤ gb156)); replace HB := zM (ag zB hb); have NB155_156 := zM ((by rw [hg]; exact Nat.ne_of_lt (aH (g := gb155) (o := .cells #[.int .i64 a0_0, .int .i64 a0_1] 63 (0, 0)) (zK BK155.out)) : gb155 ≠ gb156)); have NB156_155 := zM ((by rw [hg]; exact Nat.ne_of_gt (aH (g := gb155) (o := .cells #[.int .i64 a0_0, .int .i64 a0_1] 63 (0, 0)) (zK BK155.out)) : gb156 ≠ gb155)); replace BK155 := zJ BK155 hb; clear hb hbox hg; have hnb12 := NB155_156.out; have hnc12 := NB156_155.out; have hcz13_0 := zy BK155 0; have hcz13_1 := zy BK155 1; have hfz13_0 := ae BK155.out 0; have hfz13_1 := ae BK155.out 1; have hcz14_0 := zy BK156 0; have hcz14_1 := zy BK156 1; have hfz14_0 := ae BK156.out 0; have hfz14_1 := ae BK156.out 1))
     go_ret
     exact ⟨by first | rfl | (simp [al, ak] <;> rfl) | (simp [*, al, ak] <;> rfl), zB⟩
   · rw [if_neg c9] at H
     have c9b0 : (a0_0 == a1_0) = false := beq_eq_false_iff_ne.mpr c9
     have c9b1 : (a0_0 != a1_0) = true := bne_iff_ne.mpr c9
     obtain rfl := ap H
     go_enter Tryz.func82, Tryz.ntmps82
     go_wp2_with (first | ((with_reducible refine au (N := 2) rfl ?_); refine zb (w := w) 2 #[.int .i64 a0_0, .int .i64 a0_1] 63 zB ?_; clear HB; intro gb155 w15 HB BK155 GW155; have GE155 := GW155) | ((with_reducible refine au (N := 3) rfl ?_); refine ze 3 #[.int .i64 a1_0, .int .i64 a1_1] 63 ?_; intro gb156 hg w16 hbox hb; have BK156 := zM (hbox); have GW156 := zM ((by rw [hg]; exact (am zB) : w.heap.size ≤ gb156)); have GE156 := zM ((by rw [hg]; exact (am zB) : w.heap.size ≤ gb156)); replace HB := zM (ag zB hb); have NB155_156 := zM ((by rw [hg]; exact Nat.ne_of_lt (aH (g := gb155) (o := .cells #[.int .i64 a0_0, .int .i64 a0_1] 63 (0, 0)) (zK BK155.out)) : gb155 ≠ gb156)); have NB156_155 := zM ((by rw [hg]; exact Nat.ne_of_gt (aH (g := gb155) (o := .cells #[.int .i64 a0_0, .int .i64 a0_1] 63 (0, 0)) (zK BK155.out)) : gb156 ≠ gb155)); replace BK155 := zJ BK155 hb; clear hb hbox hg; have hnb17 := NB155_156.out; have hnc17 := NB156_155.out; have hcz18_0 := zy BK155 0; have hcz18_1 := zy BK155 1; have hfz18_0 := ae BK155.out 0; have hfz18_1 := ae BK155.out 1; have hcz19_0 := zy BK156 0; have hcz19_1 := zy BK156 1; have hfz19_0 := ae BK156.out 0; have hfz19_1 := ae BK156.out 1))
     go_ret
     exact ⟨by first | rfl | (simp [al, ak] <;> rfl) | (simp [*, al, ak] <;> rfl), zB⟩
attribute [local go_sem] bl bh bi bd bj bf bk bg
set_option linter.unusedVariables false
set_option linter.unusedSimpArgs false
def dO : Nat → List (S63) → Int → Int → Option (Bool)
 | 0, _, _, _ => none
 | k + 1, x0, x1, x5 => if x5 < (x0.length : Int) then (if 0 ≤ x5 then ((eZ ((aa x0 x5).f0) 0 (wrap64 (x1 - 1))).bind fun t159 => (if t159 = true then ((eZ ((aa x0 x5).f1) 0 (wrap64 (x1 - 1))).bind fun t160 => (if t160 = true then (if ((aa x0 x5).f0) ≥ ((aa x0 x5).f1) then (some false) else (if x5 > 0 then (if 0 ≤ (wrap64 (x5 - 1)) then (if (wrap64 (x5 - 1)) < (x0.length : Int) then ((gn ((aa x0 (wrap64 (x5 - 1))).f0) ((aa x0 (wrap64 (x5 - 1))).f1) ((aa x0 x5).f0) ((aa x0 x5).f1)).bind fun t162 => (if t162 = true then (dO k x0 x1 (wrap64 (x5 + 1))) else (some false))) else (none)) else (none)) else (dO k x0 x1 (wrap64 (x5 + 1))))) else (some false))) else (some false))) else (none)) else (some true)
def iW (k : Nat) (l0 : List (S63)) (a1 : Int) : Option (Bool) := dO k l0 a1 0
def spec_l2Pairs.T5 : Bool × List (List Nat × List Nat) := (true, [([], []), ([0], [0]), ([], []), ([2], [2]), ([1, 3], [1, 3]), ([4], [4]), ([5, 4], [5]), ([6], [6]), ([7, 6], [6, 7]), ([6], [6]), ([9, 6], [6, 9]), ([8, 10, 6, 6], [6, 8, 10]), ([11, 6], [6, 11]), ([6, 12], [6, 12]), ([13, 11], [13]), ([14], [14]), ([15, 14], [14, 15]), ([14], [14]), ([17, 14], [14, 17]), ([16, 18, 14], [14, 16, 18]), ([14, 19], [14, 19]), ([20, 14], [20]), ([21], [21]), ([22, 21], [21, 22]), ([23, 21, 21], [21, 23]), ([24], [24]), ([24], [24]), ([26, 24], [24, 26]), ([25, 27, 24], [24, 25, 27]), ([28, 24], [24, 28]), ([24], [24]), ([29, 30, 24, 24], [24, 29, 30]), ([31, 24], [24, 31]), ([24, 32, 21], [21, 24, 32]), ([21, 33], [21, 33])])
def oZ : List Nat := [0, 1, 0, 4, 15, 31, 63, 127, 255, 127, 639, 2047, 4095, 8191, 16383, 32767, 65535, 32767, 163839, 524287, 1048575, 2097151, 4194303, 8388607, 16777215, 33554431, 33554431, 100663295, 268435455, 536870911, 33554431, 2147483647, 4294967295, 8589934591, 17179869183]
theorem gf : aQ .any (ct Tryz.f63 5) = spec_l2Pairs.T5 := by kernel_rfl
theorem gi : bK spec_l2Pairs.T5.2 oZ = true := by kernel_rfl
theorem oY (k : Nat) (A0 : Option Addr) (c0 : Nat) (l0 : List (S63)) (a1 : Int) (r : Bool) (w : World) (hr0 : Kd.C k63 w A0 l0.length l0) (hc0 : l0.length ≤ c0) (h : iW k l0 a1 = some r) :
 Calls Tryz.prog 63 #[.slice A0 l0.length c0, .int .i64 a1] w fun e w' => e = .returned (.bool r) ∧ Below w.heap.size w w' := by
 have hu63 := Tryz.underlying63
 have HR0 := Aside0.mk hr0
 have HC0 := Aside0.mk hc0
 clear hr0 hc0
 have HB := zM (Below.refl w.heap.size w)
 have H := h
 unfold iW at H
 clear h
 have H' := Aside0.mk H
 clear H
 go_enter Tryz.func63, Tryz.ntmps63
 go_wp2
 go_loopg [5] k (fun kq v5 w' => ∃ (x5_1 : Int), v5 = .int .i64 x5_1 ∧ Aside0 (dO kq l0 a1 x5_1 = some r) ∧ Aside0 (kq ≤ k) ∧ Aside0 (Below w.heap.size w w'))
 case atStart => exact ⟨(0), (by first | rfl | (simp; done) | (simp [*]; done)), H', ⟨ar _⟩, ⟨zB⟩⟩
 case round =>
  clear H'
  try clear p2
  obtain ⟨x5_1, rfl, HA, HK1, HB⟩ := hrel
  cases gk with
  | zero => exact absurd HA.out (by simp [dO])
  | succ k1 =>
   have H := HA.out
   clear HA
   simp only [dO] at H
   by_cases c3 : x5_1 < (l0.length : Int)
   · rw [if_pos c3] at H
     have c3b0 := af c3
     clear c3
     by_cases c4 : 0 ≤ x5_1
     case neg => rw [if_neg c4] at H; simp at H
     rw [if_pos c4] at H
     have c4b0 := af c4
     clear c4
     replace H := av H
     obtain ⟨t159, A50, H⟩ := H
     have A5 := Aside0.mk A50
     clear A50
     by_cases c6 : t159 = true
     · subst c6
       rw [if_pos rfl] at H
       replace H := av H
       obtain ⟨t160, A70, H⟩ := H
       have A7 := Aside0.mk A70
       clear A70
       by_cases c8 : t160 = true
       · subst c8
         rw [if_pos rfl] at H
         by_cases c9 : ((aa l0 x5_1).f0) ≥ ((aa l0 x5_1).f1)
         · rw [if_pos c9] at H
           have c9b0 : decide (((aa l0 x5_1).f1) ≤ ((aa l0 x5_1).f0)) = true := af c9
           clear c9
           obtain rfl := ap H
           have p157 : 0 ≤ (x5_1 : Int) := ac zA
           have q157 : x5_1 < (l0.length : Int) := ac zA
           obtain ⟨ad157, e157, hx157_0, hx157_1⟩ := bp HR0.out x5_1 p157 q157
           cases e157
           (try replace hx157_0 := (HB.out.cell (aj w _ hx157_0)).trans hx157_0)
           (try replace hx157_1 := (HB.out.cell (aj w _ hx157_1)).trans hx157_1)
           replace p157 := eq_true p157
           replace q157 := eq_true q157
           try go_wp2_with (first | ((with_reducible refine au (N := 6) rfl ?_); refine zb (w := w) 6 #[.int .i64 0, .int .i64 0] 63 zB ?_; clear HB; intro gb158 w10 HB BK158 GW158; have GE158 := GW158; have hcz11_0 := zy BK158 0; have hcz11_1 := zy BK158 1; have hfz11_0 := ae BK158.out 0; have hfz11_1 := ae BK158.out 1))
           have n0_ : Aside0 (((w10.setCell ⟨gb158, 0, none⟩ (.int .i64 ((aa l0 x5_1).f0))).setCell ⟨gb158, 1, none⟩ (.int .i64 ((aa l0 x5_1).f1))).heap[gb158]? = some (.cells #[.int .i64 ((aa l0 x5_1).f0), .int .i64 ((aa l0 x5_1).f1)] 63 (0, 0))) := ⟨by (with_reducible repeat (first | refine ay ?_ _ | refine aq ?_ | refine aw ?_ _)); refine aK (cs := #[.int .i64 ((aa l0 x5_1).f0), .int .i64 0]) ?_ 1 _ rfl; (with_reducible repeat (first | refine ay ?_ _ | refine aq ?_ | refine aw ?_ _)); refine aK (cs := #[.int .i64 0, .int .i64 0]) ?_ 0 _ rfl; (with_reducible repeat (first | refine ay ?_ _ | refine aq ?_ | refine aw ?_ _)); exact BK158.out⟩
           have n1_ : Aside0 (Below w.heap.size w ((w10.setCell ⟨gb158, 0, none⟩ (.int .i64 ((aa l0 x5_1).f0))).setCell ⟨gb158, 1, none⟩ (.int .i64 ((aa l0 x5_1).f1)))) := ⟨zB⟩
           (try clear BK158)
           (try clear HB)
           generalize ((w10.setCell ⟨gb158, 0, none⟩ (.int .i64 ((aa l0 x5_1).f0))).setCell ⟨gb158, 1, none⟩ (.int .i64 ((aa l0 x5_1).f1))) = w12 at n0_ n1_ ⊢
           have BK158 := n0_
           have HB := n1_
           clear n0_ n1_
           replace BK158 := zM (aq BK158.out)
           replace HB := zM (aD HB.out)
           refine zs (n := 35) (fun w' => w'.cell? ⟨gb158, 0, none⟩ = some (.int .i64 ((aa l0 x5_1).f0)) ∧ w'.cell? ⟨gb158, 1, none⟩ = some (.int .i64 ((aa l0 x5_1).f1))) ⟨(ah BK158.out 0).trans rfl, (ah BK158.out 1).trans rfl⟩ (fun hHeld => ?_); refine aX gf gi (fun HT_ HW_ => ?_)
           generalize w12.drew = w13 at BK158 HB hHeld ⊢
           refine zp HT_ 0 17 ?_
           refine zp HT_ 2 19 ?_
           refine zp HT_ 3 20 ?_
           refine zt HT_ HW_ 1 18 hHeld ?_ (hy := by rintro w' ⟨s0, s1⟩; go_simp; with_reducible rfl)
           refine zg HT_ 4 21 Tryz.func62 #[.int .i64 ((aa l0 x5_1).f0), .int .i64 0, .int .i64 (wrap64 (a1 - 1))] (fun K hK => ?_)
           with_reducible refine (bD ((aa l0 x5_1).f0) 0 (wrap64 (a1 - 1)) true _ A5.out).mono ?_
           rintro e w' ⟨rfl, ⟨nd, rfl⟩⟩
           refine ⟨_, rfl, ?_⟩
           refine hK.out _ _ ⟨(ah BK158.out 0).trans rfl, (ah BK158.out 1).trans rfl⟩ (fun hHeld => ?_)
           clear hK K
           refine zn 21 ?_
           refine zp HT_ 5 22 ?_
           refine zp HT_ 6 23 ?_
           refine zp HT_ 7 24 ?_
           refine zp HT_ 9 26 ?_
           refine zp HT_ 10 27 ?_
           refine zt HT_ HW_ 8 25 hHeld ?_ (hy := by rintro w' ⟨s0, s1⟩; go_simp; with_reducible rfl)
           refine zg HT_ 11 28 Tryz.func62 #[.int .i64 ((aa l0 x5_1).f1), .int .i64 0, .int .i64 (wrap64 (a1 - 1))] (fun K hK => ?_)
           with_reducible refine (bD ((aa l0 x5_1).f1) 0 (wrap64 (a1 - 1)) true _ A7.out).mono ?_
           rintro e w' ⟨rfl, ⟨nd, rfl⟩⟩
           refine ⟨_, rfl, ?_⟩
           refine hK.out _ _ ⟨(ah BK158.out 0).trans rfl, (ah BK158.out 1).trans rfl⟩ (fun hHeld => ?_)
           clear hK K
           refine zn 28 ?_
           refine zp HT_ 12 29 ?_
           refine zp HT_ 13 30 ?_
           refine zp HT_ 14 31 ?_
           refine zp HT_ 15 32 ?_
           refine zp HT_ 17 34 ?_
           refine zt HT_ HW_ 16 33 hHeld ?_ (hy := by rintro w' ⟨s0, s1⟩; go_simp; with_reducible rfl)
           refine zt HT_ HW_ 18 35 hHeld ?_ (hy := by rintro w' ⟨s0, s1⟩; go_simp; with_reducible rfl)
           refine zp HT_ 19 36 ?_
           refine zp HT_ 20 37 ?_
           refine zp HT_ 21 38 ?_
           refine zu HT_ 22 39 ?_
           refine zu HT_ 23 40 ?_
           refine zu HT_ 24 41 ?_
           refine zu HT_ 25 42 ?_
           refine zu HT_ 26 43 ?_
           refine zu HT_ 27 44 ?_
           refine zu HT_ 28 45 ?_
           refine zu HT_ 29 46 ?_
           refine zu HT_ 30 47 ?_
           refine zu HT_ 31 48 ?_
           refine zu HT_ 32 49 ?_
           refine zu HT_ 33 50 ?_
           refine zp HT_ 34 51 ?_
           refine zo HT_ ?_
           try go_wp2
           go_ret
           exact ⟨by first | rfl | (simp [al, ak] <;> rfl) | (simp [*, al, ak] <;> rfl), zB⟩
         · rw [if_neg c9] at H
           have c9b0 : decide (((aa l0 x5_1).f1) ≤ ((aa l0 x5_1).f0)) = false := ao c9
           clear c9
           by_cases c14 : x5_1 > 0
           · rw [if_pos c14] at H
             have c14b0 : decide (0 < x5_1) = true := af c14
             clear c14
             obtain ⟨ji15, hji15⟩ : ∃ j_ : Int, (wrap64 (x5_1 - 1)) = j_ := ⟨_, rfl⟩
             replace H : (if 0 ≤ (ji15) then (if (ji15) < (l0.length : Int) then ((gn ((aa l0 (ji15)).f0) ((aa l0 (ji15)).f1) ((aa l0 x5_1).f0) ((aa l0 x5_1).f1)).bind fun t162 => (if t162 = true then (dO k1 l0 a1 (wrap64 (x5_1 + 1))) else (some false))) else (none)) else (none)) = some r := by first | (rw [hji15] at H; exact H) | (simp only [hji15] at H ⊢; exact H)
             (try rw [hji15] at A5)
             (try rw [hji15] at A7)
             have hji15w : (IntKind.i64.wrap (x5_1 - 1)) = ji15 := (bW _).trans hji15
             by_cases c16 : 0 ≤ (ji15)
             case neg => rw [if_neg c16] at H; simp at H
             rw [if_pos c16] at H
             have c16b0 := af c16
             clear c16
             by_cases c17 : (ji15) < (l0.length : Int)
             case neg => rw [if_neg c17] at H; simp at H
             rw [if_pos c17] at H
             have c17b0 := af c17
             clear c17
             replace H := av H
             obtain ⟨t162, A180, H⟩ := H
             have A18 := Aside0.mk A180
             clear A180
             by_cases c19 : t162 = true
             · subst c19
               rw [if_pos rfl] at H
               have H' := Aside0.mk H
               clear H
               have p157 : 0 ≤ (x5_1 : Int) := ac zA
               have q157 : x5_1 < (l0.length : Int) := ac zA
               obtain ⟨ad157, e157, hx157_0, hx157_1⟩ := bp HR0.out x5_1 p157 q157
               cases e157
               (try replace hx157_0 := (HB.out.cell (aj w _ hx157_0)).trans hx157_0)
               (try replace hx157_1 := (HB.out.cell (aj w _ hx157_1)).trans hx157_1)
               replace p157 := eq_true p157
               replace q157 := eq_true q157
               try go_wp2_with (first | ((with_reducible refine au (N := 6) rfl ?_); refine zb (w := w) 6 #[.int .i64 0, .int .i64 0] 63 zB ?_; clear HB; intro gb158 w20 HB BK158 GW158; have GE158 := GW158; have hcz21_0 := zy BK158 0; have hcz21_1 := zy BK158 1; have hfz21_0 := ae BK158.out 0; have hfz21_1 := ae BK158.out 1))
               have n0_ : Aside0 (((w20.setCell ⟨gb158, 0, none⟩ (.int .i64 ((aa l0 x5_1).f0))).setCell ⟨gb158, 1, none⟩ (.int .i64 ((aa l0 x5_1).f1))).heap[gb158]? = some (.cells #[.int .i64 ((aa l0 x5_1).f0), .int .i64 ((aa l0 x5_1).f1)] 63 (0, 0))) := ⟨by (with_reducible repeat (first | refine ay ?_ _ | refine aq ?_ | refine aw ?_ _)); refine aK (cs := #[.int .i64 ((aa l0 x5_1).f0), .int .i64 0]) ?_ 1 _ rfl; (with_reducible repeat (first | refine ay ?_ _ | refine aq ?_ | refine aw ?_ _)); refine aK (cs := #[.int .i64 0, .int .i64 0]) ?_ 0 _ rfl; (with_reducible repeat (first | refine ay ?_ _ | refine aq ?_ | refine aw ?_ _)); exact BK158.out⟩
               have n1_ : Aside0 (Below w.heap.size w ((w20.setCell ⟨gb158, 0, none⟩ (.int .i64 ((aa l0 x5_1).f0))).setCell ⟨gb158, 1, none⟩ (.int .i64 ((aa l0 x5_1).f1)))) := ⟨zB⟩
               (try clear BK158)
               (try clear HB)
               generalize ((w20.setCell ⟨gb158, 0, none⟩ (.int .i64 ((aa l0 x5_1).f0))).setCell ⟨gb158, 1, none⟩ (.int .i64 ((aa l0 x5_1).f1))) = w22 at n0_ n1_ ⊢
               have BK158 := n0_
               have HB := n1_
               clear n0_ n1_
               replace BK158 := zM (aq BK158.out)
               replace HB := zM (aD HB.out)
               have p161 : 0 ≤ ((ji15) : Int) := ac zA
               have q161 : (ji15) < (l0.length : Int) := ac zA
               obtain ⟨ad161, e161, hx161_0, hx161_1⟩ := bp HR0.out (ji15) p161 q161
               have hw161_1 := hx161_1
               have hw161_0 := hx161_0
               obtain rfl : ad157 = ad161 := (by injection e161)
               (try replace hx161_0 := (HB.out.cell (aj w _ hx161_0)).trans hx161_0)
               (try replace hx161_1 := (HB.out.cell (aj w _ hx161_1)).trans hx161_1)
               replace p161 := eq_true p161
               replace q161 := eq_true q161
               refine zs (n := 35) (fun w' => w'.cell? ⟨gb158, 0, none⟩ = some (.int .i64 ((aa l0 x5_1).f0)) ∧ w'.cell? ⟨gb158, 1, none⟩ = some (.int .i64 ((aa l0 x5_1).f1)) ∧ w'.cell? (ad157.add (((ji15)).toNat * 2)) = some (.int .i64 ((aa l0 (ji15)).f0)) ∧ w'.cell? ⟨(ad157.add (((ji15)).toNat * 2)).block, (ad157.add (((ji15)).toNat * 2)).off + 1, none⟩ = some (.int .i64 ((aa l0 (ji15)).f1))) ⟨(ah BK158.out 0).trans rfl, (ah BK158.out 1).trans rfl, ((HB.out.cell (aj w _ hw161_0)).trans hw161_0), ((HB.out.cell (aj w _ hw161_1)).trans hw161_1)⟩ (fun hHeld => ?_); refine aX gf gi (fun HT_ HW_ => ?_)
               generalize w22.drew = w23 at BK158 HB hx161_0 hx161_1 hHeld ⊢
               refine zp HT_ 0 17 ?_
               refine zp HT_ 2 19 ?_
               refine zp HT_ 3 20 ?_
               refine zt HT_ HW_ 1 18 hHeld ?_ (hy := by rintro w' ⟨s0, s1, s2, s3⟩; go_simp; with_reducible rfl)
               refine zg HT_ 4 21 Tryz.func62 #[.int .i64 ((aa l0 x5_1).f0), .int .i64 0, .int .i64 (wrap64 (a1 - 1))] (fun K hK => ?_)
               with_reducible refine (bD ((aa l0 x5_1).f0) 0 (wrap64 (a1 - 1)) true _ A5.out).mono ?_
               rintro e w' ⟨rfl, ⟨nd, rfl⟩⟩
               refine ⟨_, rfl, ?_⟩
               refine hK.out _ _ ⟨(ah BK158.out 0).trans rfl, (ah BK158.out 1).trans rfl, ((HB.out.cell (aj w _ hw161_0)).trans hw161_0), ((HB.out.cell (aj w _ hw161_1)).trans hw161_1)⟩ (fun hHeld => ?_)
               clear hK K
               refine zn 21 ?_
               refine zp HT_ 5 22 ?_
               refine zp HT_ 6 23 ?_
               refine zp HT_ 7 24 ?_
               refine zp HT_ 9 26 ?_
               refine zp HT_ 10 27 ?_
               refine zt HT_ HW_ 8 25 hHeld ?_ (hy := by rintro w' ⟨s0, s1, s2, s3⟩; go_simp; with_reducible rfl)
               refine zg HT_ 11 28 Tryz.func62 #[.int .i64 ((aa l0 x5_1).f1), .int .i64 0, .int .i64 (wrap64 (a1 - 1))] (fun K hK => ?_)
               with_reducible refine (bD ((aa l0 x5_1).f1) 0 (wrap64 (a1 - 1)) true _ A7.out).mono ?_
               rintro e w' ⟨rfl, ⟨nd, rfl⟩⟩
               refine ⟨_, rfl, ?_⟩
               refine hK.out _ _ ⟨(ah BK158.out 0).trans rfl, (ah BK158.out 1).trans rfl, ((HB.out.cell (aj w _ hw161_0)).trans hw161_0), ((HB.out.cell (aj w _ hw161_1)).trans hw161_1)⟩ (fun hHeld => ?_)
               clear hK K
               refine zn 28 ?_
               refine zp HT_ 12 29 ?_
               refine zp HT_ 13 30 ?_
               refine zp HT_ 14 31 ?_
               refine zp HT_ 15 32 ?_
               refine zp HT_ 17 34 ?_
               refine zt HT_ HW_ 16 33 hHeld ?_ (hy := by rintro w' ⟨s0, s1, s2, s3⟩; go_simp; with_reducible rfl)
               refine zt HT_ HW_ 18 35 hHeld ?_ (hy := by rintro w' ⟨s0, s1, s2, s3⟩; go_simp; with_reducible rfl)
               refine zp HT_ 19 36 ?_
               refine zp HT_ 20 37 ?_
               refine zp HT_ 21 38 ?_
               refine zp HT_ 22 39 ?_
               refine zp HT_ 23 40 ?_
               refine zp HT_ 24 41 ?_
               refine zp HT_ 25 42 ?_
               refine zp HT_ 26 43 ?_
               refine zp HT_ 27 44 ?_
               refine zp HT_ 28 45 ?_
               refine zt HT_ HW_ 29 46 hHeld ?_ (hy := by rintro w' ⟨s0, s1, s2, s3⟩; go_simp; with_reducible rfl)
               refine zt HT_ HW_ 30 47 hHeld ?_ (hy := by rintro w' ⟨s0, s1, s2, s3⟩; go_simp; with_reducible rfl)
               refine bz (i := 31) (N := some 48) #[true, true, true, true, true, true, true, true, true, true, true, true, true, true, true, true, true, true, true, true, true, true, true, true, true, true, true, true, true, true, true, true, false, false, false] rfl rfl (bu HT_.out (by kernel_rfl)) (by decide) (fun K hK => ?_)
               refine fQ Tryz.func82 (by kernel_rfl) rfl #[.agg #[.int .i64 ((aa l0 (ji15)).f0), .int .i64 ((aa l0 (ji15)).f1)], .agg #[.int .i64 ((aa l0 x5_1).f0), .int .i64 ((aa l0 x5_1).f1)]] (by rfl) rfl rfl (by (try simp only [List.map_toArray, List.map_cons, List.map_nil]); first | done | (simp only [hji15]; rfl) | rfl | (simp only [List.length_drop, List.length_take]; rfl)) ?_
               with_reducible refine (lx ((aa l0 (ji15)).f0) ((aa l0 (ji15)).f1) ((aa l0 x5_1).f0) ((aa l0 x5_1).f1) true _ A18.out).mono ?_
               rintro e w24 ⟨rfl, hb⟩
               refine ⟨_, rfl, ?_⟩
               replace BK158 := zJ BK158 hb
               replace HB := zM (ag zB hb)
               (try clear hb)
               refine hK.out _ _ ⟨(ah BK158.out 0).trans rfl, (ah BK158.out 1).trans rfl, ((HB.out.cell (aj w _ hw161_0)).trans hw161_0), ((HB.out.cell (aj w _ hw161_1)).trans hw161_1)⟩ (fun hHeld => ?_)
               clear hK K
               refine zn 48 ?_
               refine zp HT_ 32 49 ?_
               refine zp HT_ 33 50 ?_
               refine zp HT_ 34 51 ?_
               refine zo HT_ ?_
               try go_wp2
               go_roundg k1
               case measure => have := HK1.out; omega
               case rel => exact ⟨(wrap64 (x5_1 + 1)), (by first | rfl | (simp; done) | (simp [*]; done)), H', ⟨by have := HK1.out; omega⟩, ⟨zB⟩⟩
             · replace c19 := Bool.eq_false_iff.mpr c19
               subst c19
               rw [if_neg (show ¬ (false = true) by decide)] at H
               obtain rfl := ap H
               have p157 : 0 ≤ (x5_1 : Int) := ac zA
               have q157 : x5_1 < (l0.length : Int) := ac zA
               obtain ⟨ad157, e157, hx157_0, hx157_1⟩ := bp HR0.out x5_1 p157 q157
               cases e157
               (try replace hx157_0 := (HB.out.cell (aj w _ hx157_0)).trans hx157_0)
               (try replace hx157_1 := (HB.out.cell (aj w _ hx157_1)).trans hx157_1)
               replace p157 := eq_true p157
               replace q157 := eq_true q157
               try go_wp2_with (first | ((with_reducible refine au (N := 6) rfl ?_); refine zb (w := w) 6 #[.int .i64 0, .int .i64 0] 63 zB ?_; clear HB; intro gb158 w25 HB BK158 GW158; have GE158 := GW158; have hcz26_0 := zy BK158 0; have hcz26_1 := zy BK158 1; have hfz26_0 := ae BK158.out 0; have hfz26_1 := ae BK158.out 1))
               have n0_ : Aside0 (((w25.setCell ⟨gb158, 0, none⟩ (.int .i64 ((aa l0 x5_1).f0))).setCell ⟨gb158, 1, none⟩ (.int .i64 ((aa l0 x5_1).f1))).heap[gb158]? = some (.cells #[.int .i64 ((aa l0 x5_1).f0), .int .i64 ((aa l0 x5_1).f1)] 63 (0, 0))) := ⟨by (with_reducible repeat (first | refine ay ?_ _ | refine aq ?_ | refine aw ?_ _)); refine aK (cs := #[.int .i64 ((aa l0 x5_1).f0), .int .i64 0]) ?_ 1 _ rfl; (with_reducible repeat (first | refine ay ?_ _ | refine aq ?_ | refine aw ?_ _)); refine aK (cs := #[.int .i64 0, .int .i64 0]) ?_ 0 _ rfl; (with_reducible repeat (first | refine ay ?_ _ | refine aq ?_ | refine aw ?_ _)); exact BK158.out⟩
               have n1_ : Aside0 (Below w.heap.size w ((w25.setCell ⟨gb158, 0, none⟩ (.int .i64 ((aa l0 x5_1).f0))).setCell ⟨gb158, 1, none⟩ (.int .i64 ((aa l0 x5_1).f1)))) := ⟨zB⟩
               (try clear BK158)
               (try clear HB)
               generalize ((w25.setCell ⟨gb158, 0, none⟩ (.int .i64 ((aa l0 x5_1).f0))).setCell ⟨gb158, 1, none⟩ (.int .i64 ((aa l0 x5_1).f1))) = w27 at n0_ n1_ ⊢
               have BK158 := n0_
               have HB := n1_
               clear n0_ n1_
               replace BK158 := zM (aq BK158.out)
               replace HB := zM (aD HB.out)
               have p161 : 0 ≤ ((ji15) : Int) := ac zA
               have q161 : (ji15) < (l0.length : Int) := ac zA
               obtain ⟨ad161, e161, hx161_0, hx161_1⟩ := bp HR0.out (ji15) p161 q161
               have hw161_1 := hx161_1
               have hw161_0 := hx161_0
               obtain rfl : ad157 = ad161 := (by injection e161)
               (try replace hx161_0 := (HB.out.cell (aj w _ hx161_0)).trans hx161_0)
               (try replace hx161_1 := (HB.out.cell (aj w _ hx161_1)).trans hx161_1)
               replace p161 := eq_true p161
               replace q161 := eq_true q161
               refine zs (n := 35) (fun w' => w'.cell? ⟨gb158, 0, none⟩ = some (.int .i64 ((aa l0 x5_1).f0)) ∧ w'.cell? ⟨gb158, 1, none⟩ = some (.int .i64 ((aa l0 x5_1).f1)) ∧ w'.cell? (ad157.add (((ji15)).toNat * 2)) = some (.int .i64 ((aa l0 (ji15)).f0)) ∧ w'.cell? ⟨(ad157.add (((ji15)).toNat * 2)).block, (ad157.add (((ji15)).toNat * 2)).off + 1, none⟩ = some (.int .i64 ((aa l0 (ji15)).f1))) ⟨(ah BK158.out 0).trans rfl, (ah BK158.out 1).trans rfl, ((HB.out.cell (aj w _ hw161_0)).trans hw161_0), ((HB.out.cell (aj w _ hw161_1)).trans hw161_1)⟩ (fun hHeld => ?_); refine aX gf gi (fun HT_ HW_ => ?_)
               generalize w27.drew = w28 at BK158 HB hx161_0 hx161_1 hHeld ⊢
               refine zp HT_ 0 17 ?_
               refine zp HT_ 2 19 ?_
               refine zp HT_ 3 20 ?_
               refine zt HT_ HW_ 1 18 hHeld ?_ (hy := by rintro w' ⟨s0, s1, s2, s3⟩; go_simp; with_reducible rfl)
               refine zg HT_ 4 21 Tryz.func62 #[.int .i64 ((aa l0 x5_1).f0), .int .i64 0, .int .i64 (wrap64 (a1 - 1))] (fun K hK => ?_)
               with_reducible refine (bD ((aa l0 x5_1).f0) 0 (wrap64 (a1 - 1)) true _ A5.out).mono ?_
               rintro e w' ⟨rfl, ⟨nd, rfl⟩⟩
               refine ⟨_, rfl, ?_⟩
               refine hK.out _ _ ⟨(ah BK158.out 0).trans rfl, (ah BK158.out 1).trans rfl, ((HB.out.cell (aj w _ hw161_0)).trans hw161_0), ((HB.out.cell (aj w _ hw161_1)).trans hw161_1)⟩ (fun hHeld => ?_)
               clear hK K
               refine zn 21 ?_
               refine zp HT_ 5 22 ?_
               refine zp HT_ 6 23 ?_
               refine zp HT_ 7 24 ?_
               refine zp HT_ 9 26 ?_
               refine zp HT_ 10 27 ?_
               refine zt HT_ HW_ 8 25 hHeld ?_ (hy := by rintro w' ⟨s0, s1, s2, s3⟩; go_simp; with_reducible rfl)
               refine zg HT_ 11 28 Tryz.func62 #[.int .i64 ((aa l0 x5_1).f1), .int .i64 0, .int .i64 (wrap64 (a1 - 1))] (fun K hK => ?_)
               with_reducible refine (bD ((aa l0 x5_1).f1) 0 (wrap64 (a1 - 1)) true _ A7.out).mono ?_
               rintro e w' ⟨rfl, ⟨nd, rfl⟩⟩
               refine ⟨_, rfl, ?_⟩
               refine hK.out _ _ ⟨(ah BK158.out 0).trans rfl, (ah BK158.out 1).trans rfl, ((HB.out.cell (aj w _ hw161_0)).trans hw161_0), ((HB.out.cell (aj w _ hw161_1)).trans hw161_1)⟩ (fun hHeld => ?_)
               clear hK K
               refine zn 28 ?_
               refine zp HT_ 12 29 ?_
               refine zp HT_ 13 30 ?_
               refine zp HT_ 14 31 ?_
               refine zp HT_ 15 32 ?_
               refine zp HT_ 17 34 ?_
               refine zt HT_ HW_ 16 33 hHeld ?_ (hy := by rintro w' ⟨s0, s1, s2, s3⟩; go_simp; with_reducible rfl)
               refine zt HT_ HW_ 18 35 hHeld ?_ (hy := by rintro w' ⟨s0, s1, s2, s3⟩; go_simp; with_reducible rfl)
               refine zp HT_ 19 36 ?_
               refine zp HT_ 20 37 ?_
               refine zp HT_ 21 38 ?_
               refine zp HT_ 22 39 ?_
               refine zp HT_ 23 40 ?_
               refine zp HT_ 24 41 ?_
               refine zp HT_ 25 42 ?_
               refine zp HT_ 26 43 ?_
               refine zp HT_ 27 44 ?_
               refine zp HT_ 28 45 ?_
               refine zt HT_ HW_ 29 46 hHeld ?_ (hy := by rintro w' ⟨s0, s1, s2, s3⟩; go_simp; with_reducible rfl)
               refine zt HT_ HW_ 30 47 hHeld ?_ (hy := by rintro w' ⟨s0, s1, s2, s3⟩; go_simp; with_reducible rfl)
               refine bz (i := 31) (N := some 48) #[true, true, true, true, true, true, true, true, true, true, true, true, true, true, true, true, true, true, true, true, true, true, true, true, true, true, true, true, true, true, true, true, false, false, false] rfl rfl (bu HT_.out (by kernel_rfl)) (by decide) (fun K hK => ?_)
               refine fQ Tryz.func82 (by kernel_rfl) rfl #[.agg #[.int .i64 ((aa l0 (ji15)).f0), .int .i64 ((aa l0 (ji15)).f1)], .agg #[.int .i64 ((aa l0 x5_1).f0), .int .i64 ((aa l0 x5_1).f1)]] (by rfl) rfl rfl (by (try simp only [List.map_toArray, List.map_cons, List.map_nil]); first | done | (simp only [hji15]; rfl) | rfl | (simp only [List.length_drop, List.length_take]; rfl)) ?_
               with_reducible refine (lx ((aa l0 (ji15)).f0) ((aa l0 (ji15)).f1) ((aa l0 x5_1).f0) ((aa l0 x5_1).f1) false _ A18.out).mono ?_
               rintro e w29 ⟨rfl, hb⟩
               refine ⟨_, rfl, ?_⟩
               replace BK158 := zJ BK158 hb
               replace HB := zM (ag zB hb)
               (try clear hb)
               refine hK.out _ _ ⟨(ah BK158.out 0).trans rfl, (ah BK158.out 1).trans rfl, ((HB.out.cell (aj w _ hw161_0)).trans hw161_0), ((HB.out.cell (aj w _ hw161_1)).trans hw161_1)⟩ (fun hHeld => ?_)
               clear hK K
               refine zn 48 ?_
               refine zp HT_ 32 49 ?_
               refine zp HT_ 33 50 ?_
               refine zp HT_ 34 51 ?_
               refine zo HT_ ?_
               try go_wp2
               go_ret
               exact ⟨by first | rfl | (simp [al, ak] <;> rfl) | (simp only [← hji15]; first | rfl | (simp [al, ak] <;> rfl)) | (simp [*, al, ak] <;> rfl), zB⟩
           · rw [if_neg c14] at H
             have c14b0 : decide (0 < x5_1) = false := ao c14
             clear c14
             have H' := Aside0.mk H
             clear H
             have p157 : 0 ≤ (x5_1 : Int) := ac zA
             have q157 : x5_1 < (l0.length : Int) := ac zA
             obtain ⟨ad157, e157, hx157_0, hx157_1⟩ := bp HR0.out x5_1 p157 q157
             cases e157
             (try replace hx157_0 := (HB.out.cell (aj w _ hx157_0)).trans hx157_0)
             (try replace hx157_1 := (HB.out.cell (aj w _ hx157_1)).trans hx157_1)
             replace p157 := eq_true p157
             replace q157 := eq_true q157
             try go_wp2_with (first | ((with_reducible refine au (N := 6) rfl ?_); refine zb (w := w) 6 #[.int .i64 0, .int .i64 0] 63 zB ?_; clear HB; intro gb158 w30 HB BK158 GW158; have GE158 := GW158; have hcz31_0 := zy BK158 0; have hcz31_1 := zy BK158 1; have hfz31_0 := ae BK158.out 0; have hfz31_1 := ae BK158.out 1))
             have n0_ : Aside0 (((w30.setCell ⟨gb158, 0, none⟩ (.int .i64 ((aa l0 x5_1).f0))).setCell ⟨gb158, 1, none⟩ (.int .i64 ((aa l0 x5_1).f1))).heap[gb158]? = some (.cells #[.int .i64 ((aa l0 x5_1).f0), .int .i64 ((aa l0 x5_1).f1)] 63 (0, 0))) := ⟨by (with_reducible repeat (first | refine ay ?_ _ | refine aq ?_ | refine aw ?_ _)); refine aK (cs := #[.int .i64 ((aa l0 x5_1).f0), .int .i64 0]) ?_ 1 _ rfl; (with_reducible repeat (first | refine ay ?_ _ | refine aq ?_ | refine aw ?_ _)); refine aK (cs := #[.int .i64 0, .int .i64 0]) ?_ 0 _ rfl; (with_reducible repeat (first | refine ay ?_ _ | refine aq ?_ | refine aw ?_ _)); exact BK158.out⟩
             have n1_ : Aside0 (Below w.heap.size w ((w30.setCell ⟨gb158, 0, none⟩ (.int .i64 ((aa l0 x5_1).f0))).setCell ⟨gb158, 1, none⟩ (.int .i64 ((aa l0 x5_1).f1)))) := ⟨zB⟩
             (try clear BK158)
             (try clear HB)
             generalize ((w30.setCell ⟨gb158, 0, none⟩ (.int .i64 ((aa l0 x5_1).f0))).setCell ⟨gb158, 1, none⟩ (.int .i64 ((aa l0 x5_1).f1))) = w32 at n0_ n1_ ⊢
             have BK158 := n0_
             have HB := n1_
             clear n0_ n1_
             replace BK158 := zM (aq BK158.out)
             replace HB := zM (aD HB.out)
             refine zs (n := 35) (fun w' => w'.cell? ⟨gb158, 0, none⟩ = some (.int .i64 ((aa l0 x5_1).f0)) ∧ w'.cell? ⟨gb158, 1, none⟩ = some (.int .i64 ((aa l0 x5_1).f1))) ⟨(ah BK158.out 0).trans rfl, (ah BK158.out 1).trans rfl⟩ (fun hHeld => ?_); refine aX gf gi (fun HT_ HW_ => ?_)
             generalize w32.drew = w33 at BK158 HB hHeld ⊢
             refine zp HT_ 0 17 ?_
             refine zp HT_ 2 19 ?_
             refine zp HT_ 3 20 ?_
             refine zt HT_ HW_ 1 18 hHeld ?_ (hy := by rintro w' ⟨s0, s1⟩; go_simp; with_reducible rfl)
             refine zg HT_ 4 21 Tryz.func62 #[.int .i64 ((aa l0 x5_1).f0), .int .i64 0, .int .i64 (wrap64 (a1 - 1))] (fun K hK => ?_)
             with_reducible refine (bD ((aa l0 x5_1).f0) 0 (wrap64 (a1 - 1)) true _ A5.out).mono ?_
             rintro e w' ⟨rfl, ⟨nd, rfl⟩⟩
             refine ⟨_, rfl, ?_⟩
             refine hK.out _ _ ⟨(ah BK158.out 0).trans rfl, (ah BK158.out 1).trans rfl⟩ (fun hHeld => ?_)
             clear hK K
             refine zn 21 ?_
             refine zp HT_ 5 22 ?_
             refine zp HT_ 6 23 ?_
             refine zp HT_ 7 24 ?_
             refine zp HT_ 9 26 ?_
             refine zp HT_ 10 27 ?_
             refine zt HT_ HW_ 8 25 hHeld ?_ (hy := by rintro w' ⟨s0, s1⟩; go_simp; with_reducible rfl)
             refine zg HT_ 11 28 Tryz.func62 #[.int .i64 ((aa l0 x5_1).f1), .int .i64 0, .int .i64 (wrap64 (a1 - 1))] (fun K hK => ?_)
             with_reducible refine (bD ((aa l0 x5_1).f1) 0 (wrap64 (a1 - 1)) true _ A7.out).mono ?_
             rintro e w' ⟨rfl, ⟨nd, rfl⟩⟩
             refine ⟨_, rfl, ?_⟩
             refine hK.out _ _ ⟨(ah BK158.out 0).trans rfl, (ah BK158.out 1).trans rfl⟩ (fun hHeld => ?_)
             clear hK K
             refine zn 28 ?_
             refine zp HT_ 12 29 ?_
             refine zp HT_ 13 30 ?_
             refine zp HT_ 14 31 ?_
             refine zp HT_ 15 32 ?_
             refine zp HT_ 17 34 ?_
             refine zt HT_ HW_ 16 33 hHeld ?_ (hy := by rintro w' ⟨s0, s1⟩; go_simp; with_reducible rfl)
             refine zt HT_ HW_ 18 35 hHeld ?_ (hy := by rintro w' ⟨s0, s1⟩; go_simp; with_reducible rfl)
             refine zp HT_ 19 36 ?_
             refine zp HT_ 20 37 ?_
             refine zp HT_ 21 38 ?_
             refine zp HT_ 22 39 ?_
             refine zp HT_ 23 40 ?_
             refine zp HT_ 24 41 ?_
             refine zu HT_ 25 42 ?_
             refine zu HT_ 26 43 ?_
             refine zu HT_ 27 44 ?_
             refine zu HT_ 28 45 ?_
             refine zu HT_ 29 46 ?_
             refine zu HT_ 30 47 ?_
             refine zu HT_ 31 48 ?_
             refine zu HT_ 32 49 ?_
             refine zp HT_ 33 50 ?_
             refine zp HT_ 34 51 ?_
             refine zo HT_ ?_
             try go_wp2
             go_roundg k1
             case measure => have := HK1.out; omega
             case rel => exact ⟨(wrap64 (x5_1 + 1)), (by first | rfl | (simp; done) | (simp [*]; done)), H', ⟨by have := HK1.out; omega⟩, ⟨zB⟩⟩
       · replace c8 := Bool.eq_false_iff.mpr c8
         subst c8
         rw [if_neg (show ¬ (false = true) by decide)] at H
         obtain rfl := ap H
         have p157 : 0 ≤ (x5_1 : Int) := ac zA
         have q157 : x5_1 < (l0.length : Int) := ac zA
         obtain ⟨ad157, e157, hx157_0, hx157_1⟩ := bp HR0.out x5_1 p157 q157
         cases e157
         (try replace hx157_0 := (HB.out.cell (aj w _ hx157_0)).trans hx157_0)
         (try replace hx157_1 := (HB.out.cell (aj w _ hx157_1)).trans hx157_1)
         replace p157 := eq_true p157
         replace q157 := eq_true q157
         try go_wp2_with (first | ((with_reducible refine au (N := 6) rfl ?_); refine zb (w := w) 6 #[.int .i64 0, .int .i64 0] 63 zB ?_; clear HB; intro gb158 w34 HB BK158 GW158; have GE158 := GW158; have hcz35_0 := zy BK158 0; have hcz35_1 := zy BK158 1; have hfz35_0 := ae BK158.out 0; have hfz35_1 := ae BK158.out 1))
         have n0_ : Aside0 (((w34.setCell ⟨gb158, 0, none⟩ (.int .i64 ((aa l0 x5_1).f0))).setCell ⟨gb158, 1, none⟩ (.int .i64 ((aa l0 x5_1).f1))).heap[gb158]? = some (.cells #[.int .i64 ((aa l0 x5_1).f0), .int .i64 ((aa l0 x5_1).f1)] 63 (0, 0))) := ⟨by (with_reducible repeat (first | refine ay ?_ _ | refine aq ?_ | refine aw ?_ _)); refine aK (cs := #[.int .i64 ((aa l0 x5_1).f0), .int .i64 0]) ?_ 1 _ rfl; (with_reducible repeat (first | refine ay ?_ _ | refine aq ?_ | refine aw ?_ _)); refine aK (cs := #[.int .i64 0, .int .i64 0]) ?_ 0 _ rfl; (with_reducible repeat (first | refine ay ?_ _ | refine aq ?_ | refine aw ?_ _)); exact BK158.out⟩
         have n1_ : Aside0 (Below w.heap.size w ((w34.setCell ⟨gb158, 0, none⟩ (.int .i64 ((aa l0 x5_1).f0))).setCell ⟨gb158, 1, none⟩ (.int .i64 ((aa l0 x5_1).f1)))) := ⟨zB⟩
         (try clear BK158)
         (try clear HB)
         generalize ((w34.setCell ⟨gb158, 0, none⟩ (.int .i64 ((aa l0 x5_1).f0))).setCell ⟨gb158, 1, none⟩ (.int .i64 ((aa l0 x5_1).f1))) = w36 at n0_ n1_ ⊢
         have BK158 := n0_
         have HB := n1_
         clear n0_ n1_
         replace BK158 := zM (aq BK158.out)
         replace HB := zM (aD HB.out)
         refine zs (n := 35) (fun w' => w'.cell? ⟨gb158, 0, none⟩ = some (.int .i64 ((aa l0 x5_1).f0)) ∧ w'.cell? ⟨gb158, 1, none⟩ = some (.int .i64 ((aa l0 x5_1).f1))) ⟨(ah BK158.out 0).trans rfl, (ah BK158.out 1).trans rfl⟩ (fun hHeld => ?_); refine aX gf gi (fun HT_ HW_ => ?_)
         generalize w36.drew = w37 at BK158 HB hHeld ⊢
         refine zp HT_ 0 17 ?_
         refine zp HT_ 2 19 ?_
         refine zp HT_ 3 20 ?_
         refine zt HT_ HW_ 1 18 hHeld ?_ (hy := by rintro w' ⟨s0, s1⟩; go_simp; with_reducible rfl)
         refine zg HT_ 4 21 Tryz.func62 #[.int .i64 ((aa l0 x5_1).f0), .int .i64 0, .int .i64 (wrap64 (a1 - 1))] (fun K hK => ?_)
         with_reducible refine (bD ((aa l0 x5_1).f0) 0 (wrap64 (a1 - 1)) true _ A5.out).mono ?_
         rintro e w' ⟨rfl, ⟨nd, rfl⟩⟩
         refine ⟨_, rfl, ?_⟩
         refine hK.out _ _ ⟨(ah BK158.out 0).trans rfl, (ah BK158.out 1).trans rfl⟩ (fun hHeld => ?_)
         clear hK K
         refine zn 21 ?_
         refine zp HT_ 5 22 ?_
         refine zp HT_ 6 23 ?_
         refine zp HT_ 7 24 ?_
         refine zp HT_ 9 26 ?_
         refine zp HT_ 10 27 ?_
         refine zt HT_ HW_ 8 25 hHeld ?_ (hy := by rintro w' ⟨s0, s1⟩; go_simp; with_reducible rfl)
         refine zg HT_ 11 28 Tryz.func62 #[.int .i64 ((aa l0 x5_1).f1), .int .i64 0, .int .i64 (wrap64 (a1 - 1))] (fun K hK => ?_)
         with_reducible refine (bD ((aa l0 x5_1).f1) 0 (wrap64 (a1 - 1)) false _ A7.out).mono ?_
         rintro e w' ⟨rfl, ⟨nd, rfl⟩⟩
         refine ⟨_, rfl, ?_⟩
         refine hK.out _ _ ⟨(ah BK158.out 0).trans rfl, (ah BK158.out 1).trans rfl⟩ (fun hHeld => ?_)
         clear hK K
         refine zn 28 ?_
         refine zp HT_ 12 29 ?_
         refine zp HT_ 13 30 ?_
         refine zp HT_ 14 31 ?_
         refine zu HT_ 15 32 ?_
         refine zu HT_ 16 33 ?_
         refine zu HT_ 17 34 ?_
         refine zu HT_ 18 35 ?_
         refine zu HT_ 19 36 ?_
         refine zp HT_ 20 37 ?_
         refine zp HT_ 21 38 ?_
         refine zu HT_ 22 39 ?_
         refine zu HT_ 23 40 ?_
         refine zu HT_ 24 41 ?_
         refine zu HT_ 25 42 ?_
         refine zu HT_ 26 43 ?_
         refine zu HT_ 27 44 ?_
         refine zu HT_ 28 45 ?_
         refine zu HT_ 29 46 ?_
         refine zu HT_ 30 47 ?_
         refine zu HT_ 31 48 ?_
         refine zu HT_ 32 49 ?_
         refine zu HT_ 33 50 ?_
         refine zp HT_ 34 51 ?_
         refine zo HT_ ?_
         try go_wp2
         go_ret
         exact ⟨by first | rfl | (simp [al, ak] <;> rfl) | (simp [*, al, ak] <;> rfl), zB⟩
     · replace c6 := Bool.eq_false_iff.mpr c6
       subst c6
       rw [if_neg (show ¬ (false = true) by decide)] at H
       obtain rfl := ap H
       have p157 : 0 ≤ (x5_1 : Int) := ac zA
       have q157 : x5_1 < (l0.length : Int) := ac zA
       obtain ⟨ad157, e157, hx157_0, hx157_1⟩ := bp HR0.out x5_1 p157 q157
       cases e157
       (try replace hx157_0 := (HB.out.cell (aj w _ hx157_0)).trans hx157_0)
       (try replace hx157_1 := (HB.out.cell (aj w _ hx157_1)).trans hx157_1)
       replace p157 := eq_true p157
       replace q157 := eq_true q157
       try go_wp2_with (first | ((with_reducible refine au (N := 6) rfl ?_); refine zb (w := w) 6 #[.int .i64 0, .int .i64 0] 63 zB ?_; clear HB; intro gb158 w38 HB BK158 GW158; have GE158 := GW158; have hcz39_0 := zy BK158 0; have hcz39_1 := zy BK158 1; have hfz39_0 := ae BK158.out 0; have hfz39_1 := ae BK158.out 1))
       have n0_ : Aside0 (((w38.setCell ⟨gb158, 0, none⟩ (.int .i64 ((aa l0 x5_1).f0))).setCell ⟨gb158, 1, none⟩ (.int .i64 ((aa l0 x5_1).f1))).heap[gb158]? = some (.cells #[.int .i64 ((aa l0 x5_1).f0), .int .i64 ((aa l0 x5_1).f1)] 63 (0, 0))) := ⟨by (with_reducible repeat (first | refine ay ?_ _ | refine aq ?_ | refine aw ?_ _)); refine aK (cs := #[.int .i64 ((aa l0 x5_1).f0), .int .i64 0]) ?_ 1 _ rfl; (with_reducible repeat (first | refine ay ?_ _ | refine aq ?_ | refine aw ?_ _)); refine aK (cs := #[.int .i64 0, .int .i64 0]) ?_ 0 _ rfl; (with_reducible repeat (first | refine ay ?_ _ | refine aq ?_ | refine aw ?_ _)); exact BK158.out⟩
       have n1_ : Aside0 (Below w.heap.size w ((w38.setCell ⟨gb158, 0, none⟩ (.int .i64 ((aa l0 x5_1).f0))).setCell ⟨gb158, 1, none⟩ (.int .i64 ((aa l0 x5_1).f1)))) := ⟨zB⟩
       (try clear BK158)
       (try clear HB)
       generalize ((w38.setCell ⟨gb158, 0, none⟩ (.int .i64 ((aa l0 x5_1).f0))).setCell ⟨gb158, 1, none⟩ (.int .i64 ((aa l0 x5_1).f1))) = w40 at n0_ n1_ ⊢
       have BK158 := n0_
       have HB := n1_
       clear n0_ n1_
       replace BK158 := zM (aq BK158.out)
       replace HB := zM (aD HB.out)
       refine zs (n := 35) (fun w' => w'.cell? ⟨gb158, 0, none⟩ = some (.int .i64 ((aa l0 x5_1).f0)) ∧ w'.cell? ⟨gb158, 1, none⟩ = some (.int .i64 ((aa l0 x5_1).f1))) ⟨(ah BK158.out 0).trans rfl, (ah BK158.out 1).trans rfl⟩ (fun hHeld => ?_); refine aX gf gi (fun HT_ HW_ => ?_)
       generalize w40.drew = w41 at BK158 HB hHeld ⊢
       refine zp HT_ 0 17 ?_
       refine zp HT_ 2 19 ?_
       refine zp HT_ 3 20 ?_
       refine zt HT_ HW_ 1 18 hHeld ?_ (hy := by rintro w' ⟨s0, s1⟩; go_simp; with_reducible rfl)
       refine zg HT_ 4 21 Tryz.func62 #[.int .i64 ((aa l0 x5_1).f0), .int .i64 0, .int .i64 (wrap64 (a1 - 1))] (fun K hK => ?_)
       with_reducible refine (bD ((aa l0 x5_1).f0) 0 (wrap64 (a1 - 1)) false _ A5.out).mono ?_
       rintro e w' ⟨rfl, ⟨nd, rfl⟩⟩
       refine ⟨_, rfl, ?_⟩
       refine hK.out _ _ ⟨(ah BK158.out 0).trans rfl, (ah BK158.out 1).trans rfl⟩ (fun hHeld => ?_)
       clear hK K
       refine zn 21 ?_
       refine zp HT_ 5 22 ?_
       refine zp HT_ 6 23 ?_
       refine zu HT_ 7 24 ?_
       refine zu HT_ 8 25 ?_
       refine zu HT_ 9 26 ?_
       refine zu HT_ 10 27 ?_
       refine zu HT_ 11 28 ?_
       refine zu HT_ 12 29 ?_
       refine zp HT_ 13 30 ?_
       refine zp HT_ 14 31 ?_
       refine zu HT_ 15 32 ?_
       refine zu HT_ 16 33 ?_
       refine zu HT_ 17 34 ?_
       refine zu HT_ 18 35 ?_
       refine zu HT_ 19 36 ?_
       refine zp HT_ 20 37 ?_
       refine zp HT_ 21 38 ?_
       refine zu HT_ 22 39 ?_
       refine zu HT_ 23 40 ?_
       refine zu HT_ 24 41 ?_
       refine zu HT_ 25 42 ?_
       refine zu HT_ 26 43 ?_
       refine zu HT_ 27 44 ?_
       refine zu HT_ 28 45 ?_
       refine zu HT_ 29 46 ?_
       refine zu HT_ 30 47 ?_
       refine zu HT_ 31 48 ?_
       refine zu HT_ 32 49 ?_
       refine zu HT_ 33 50 ?_
       refine zp HT_ 34 51 ?_
       refine zo HT_ ?_
       try go_wp2
       go_ret
       exact ⟨by first | rfl | (simp [al, ak] <;> rfl) | (simp [*, al, ak] <;> rfl), zB⟩
   · rw [if_neg c3] at H
     have c3b0 : decide (x5_1 < (l0.length : Int)) = false := ao c3
     clear c3
     obtain rfl := ap H
     go_wp2
     go_ret
     exact ⟨by first | rfl | (simp [al, ak] <;> rfl) | (simp [*, al, ak] <;> rfl), zB⟩
end Go.Proofs.YtjgcehldepfaaaaGreat.P
