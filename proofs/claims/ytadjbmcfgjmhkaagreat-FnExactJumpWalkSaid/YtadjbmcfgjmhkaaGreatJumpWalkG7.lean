import Derived.Test.YtadjbmcfgjmhkaaGreatJumpWalkG6
namespace Go.Proofs.YtadjbmcfgjmhkaaGreat.P
open Go.RowKit YtadjbmcfgjmhkaaGreatW.PrintWords YtadjbmcfgjmhkaaGreatW.PrintLast YtadjbmcfgjmhkaaGreatW.PrintMore
attribute [local go_sem] aY aU aV aN aW aQ aX aT
set_option maxRecDepth 100000
set_option maxHeartbeats 8000000
def fG (k : Nat) (a0_0 : Int) (l0_1 : List (S69)) : Option (Bool) := (dz a0_0 0 8).bind fun t155 => (if t155 = true then ((il k l0_1 a0_0).bind fun t156 => (some t156)) else (some false))
theorem fH (k : Nat) (a0_0 : Int) (A0_1 : Option Addr) (c0_1 : Nat) (l0_1 : List (S69)) (r : Bool) (w : World) (hr0_1 : Kd.C k69 w A0_1 l0_1.length l0_1) (hc0_1 : l0_1.length ≤ c0_1) (h : fG k a0_0 l0_1 = some r) :
 Calls Tryz.prog 59 #[.agg #[.int .i64 a0_0, .slice A0_1 l0_1.length c0_1]] w fun e w' => e = .returned (.bool r) ∧ Below w.heap.size w w' := by
 have hu30 := Tryz.underlying30
 have HR0_1 := Aside0.mk hr0_1
 have HC0_1 := Aside0.mk hc0_1
 clear hr0_1 hc0_1
 have HB := zM (Below.refl w.heap.size w)
 have H := h
 unfold fG at H
 clear h
 replace H := ay H
 obtain ⟨t155, A20, H⟩ := H
 have A2 := Aside0.mk A20
 clear A20
 by_cases c3 : t155 = true
 · subst c3
   rw [if_pos rfl] at H
   replace H := ay H
   obtain ⟨t156, A40, H⟩ := H
   have A4 := Aside0.mk A40
   clear A40
   obtain rfl := ao H
   go_enter Tryz.func59, Tryz.ntmps59
   go_wp2_with (first | ((with_reducible refine ap (N := 1) rfl ?_); refine zb (w := w) 1 #[.int .i64 a0_0, .slice A0_1 l0_1.length c0_1] 30 zB ?_; clear HB; intro gb154 w5 HB BK154 GW154; have GE154 := GW154; have hcz6_0 := zy BK154 0; have hcz6_1 := zy BK154 1; have hfz6_0 := ae BK154.out 0; have hfz6_1 := ae BK154.out 1) | ((with_reducible refine ax (f := 77) rfl ?_); refine zc 5 Tryz.func77 #[.int .i64 a0_0, .int .i64 0, .int .i64 8] ?_; (with_reducible refine (dM a0_0 0 8 true _ A2.out).mono ?_); rintro e w' ⟨rfl, ⟨nd, rfl⟩⟩; refine ⟨_, rfl, ?_⟩) | (go_at_call 83; (with_reducible refine (qm k _ _ l0_1 a0_0 t156 _ ?side1 ?side2 A4.out).mono ?_); (case side1 => exact zC (Kd.C_below HR0_1.out zB)); (case side2 => exact HC0_1.out); rintro e w7 ⟨rfl, hb⟩; replace BK154 := zJ BK154 hb; replace HB := zM (ah zB hb); (try clear hb); (try clear hi)))
   go_ret
   exact ⟨by first | rfl | (simp [al, ak] <;> rfl) | (simp [*, al, ak] <;> rfl), zB⟩
 · replace c3 := Bool.eq_false_iff.mpr c3
   subst c3
   rw [if_neg (show ¬ (false = true) by decide)] at H
   obtain rfl := ao H
   go_enter Tryz.func59, Tryz.ntmps59
   go_wp2_with (first | ((with_reducible refine ap (N := 1) rfl ?_); refine zb (w := w) 1 #[.int .i64 a0_0, .slice A0_1 l0_1.length c0_1] 30 zB ?_; clear HB; intro gb154 w8 HB BK154 GW154; have GE154 := GW154; have hcz9_0 := zy BK154 0; have hcz9_1 := zy BK154 1; have hfz9_0 := ae BK154.out 0; have hfz9_1 := ae BK154.out 1) | ((with_reducible refine ax (f := 77) rfl ?_); refine zc 5 Tryz.func77 #[.int .i64 a0_0, .int .i64 0, .int .i64 8] ?_; (with_reducible refine (dM a0_0 0 8 false _ A2.out).mono ?_); rintro e w' ⟨rfl, ⟨nd, rfl⟩⟩; refine ⟨_, rfl, ?_⟩))
   go_ret
   exact ⟨by first | rfl | (simp [al, ak] <;> rfl) | (simp [*, al, ak] <;> rfl), zB⟩
def dx : Nat → List Int → Int → List Int → Int → Int → Option (Bool)
 | 0, _, _, _, _, _ => none
 | k + 1, x0, x1, x7, x8, x9 => if x9 < x8 then (if 0 ≤ x9 then (if x9 < (x7.length : Int) then ((dz (rd x7 x9) 0 (wrap64 (x1 - 1))).bind fun t158 => (if t158 = true then (if x9 > 0 then (if 0 ≤ (wrap64 (x9 - 1)) then (if (wrap64 (x9 - 1)) < (x0.length : Int) then (if (rd x7 x9) ≤ (rd x0 (wrap64 (x9 - 1))) then (some false) else (dx k x0 x1 x7 x8 (wrap64 (x9 + 1)))) else (none)) else (none)) else (dx k x0 x1 x7 x8 (wrap64 (x9 + 1)))) else (some false))) else (none)) else (none)) else (some true)
def ik (k : Nat) (l0 : List Int) (a1 : Int) : Option (Bool) := dx k l0 a1 l0 (l0.length : Int) 0
theorem lP (k : Nat) (A0 : Option Addr) (c0 : Nat) (l0 : List Int) (a1 : Int) (r : Bool) (w : World) (hr0 : Kd.C (Kd.int .i64) w A0 l0.length l0) (hc0 : l0.length ≤ c0) (h : ik k l0 a1 = some r) :
 Calls Tryz.prog 84 #[.slice A0 l0.length c0, .int .i64 a1] w fun e w' => e = .returned (.bool r) ∧ Drawn0 w w' := by
 have HR0 := Aside0.mk hr0
 have HC0 := Aside0.mk hc0
 clear hr0 hc0
 have H := h
 unfold ik at H
 clear h
 have H' := Aside0.mk H
 clear H
 go_enter Tryz.func84, Tryz.ntmps84
 go_wp2
 go_loopg [9] k (fun kq v9 w' => ∃ (x9_1 : Int), v9 = .int .i64 x9_1 ∧ Aside0 (dx kq l0 a1 l0 (l0.length : Int) x9_1 = some r) ∧ Aside0 (kq ≤ k) ∧ Drawn0 w w')
 case atStart => exact ⟨(0), (by first | rfl | (simp; done) | (simp [*]; done)), H', ⟨au _⟩, by repeat (first | exact Drawn0.refl _ | apply Drawn0.step)⟩
 case round =>
  clear H'
  try clear p2
  obtain ⟨x9_1, rfl, HA, HK1, ⟨m1, rfl⟩⟩ := hrel
  cases gk with
  | zero => exact absurd HA.out (by simp [dx])
  | succ k1 =>
   have H := HA.out
   clear HA
   simp only [dx] at H
   by_cases c3 : x9_1 < (l0.length : Int)
   · rw [if_pos c3] at H
     have c3b0 := ag c3
     clear c3
     by_cases c4 : 0 ≤ x9_1
     case neg => rw [if_neg c4] at H; simp at H
     rw [if_pos c4] at H
     have c4b0 := ag c4
     clear c4
     by_cases c5 : x9_1 < (l0.length : Int)
     case neg => rw [if_neg c5] at H; simp at H
     rw [if_pos c5] at H
     have c5b0 := ag c5
     clear c5
     replace H := ay H
     obtain ⟨t158, A60, H⟩ := H
     have A6 := Aside0.mk A60
     clear A60
     by_cases c7 : t158 = true
     · subst c7
       rw [if_pos rfl] at H
       by_cases c8 : x9_1 > 0
       · rw [if_pos c8] at H
         have c8b0 : decide (0 < x9_1) = true := ag c8
         clear c8
         obtain ⟨ji9, hji9⟩ : ∃ j_ : Int, (wrap64 (x9_1 - 1)) = j_ := ⟨_, rfl⟩
         replace H : (if 0 ≤ (ji9) then (if (ji9) < (l0.length : Int) then (if (rd l0 x9_1) ≤ (rd l0 (ji9)) then (some false) else (dx k1 l0 a1 l0 (l0.length : Int) (wrap64 (x9_1 + 1)))) else (none)) else (none)) = some r := by first | (rw [hji9] at H; exact H) | (simp only [hji9] at H ⊢; exact H)
         (try rw [hji9] at A6)
         have hji9w : (IntKind.i64.wrap (x9_1 - 1)) = ji9 := (bD _).trans hji9
         by_cases c10 : 0 ≤ (ji9)
         case neg => rw [if_neg c10] at H; simp at H
         rw [if_pos c10] at H
         have c10b0 := ag c10
         clear c10
         by_cases c11 : (ji9) < (l0.length : Int)
         case neg => rw [if_neg c11] at H; simp at H
         rw [if_pos c11] at H
         have c11b0 := ag c11
         clear c11
         by_cases c12 : (rd l0 x9_1) ≤ (rd l0 (ji9))
         · rw [if_pos c12] at H
           have c12b0 := ag c12
           clear c12
           obtain rfl := ao H
           have p157 : 0 ≤ (x9_1 : Int) := ac zA
           have q157 : x9_1 < (l0.length : Int) := ac zA
           obtain ⟨ad157, e157, hx157_0⟩ := Kd.at_int HR0.out x9_1 p157 q157
           cases e157
           replace p157 := eq_true p157
           replace q157 := eq_true q157
           go_wp2_with (first | ((with_reducible refine ax (f := 77) rfl ?_); refine zc 17 Tryz.func77 #[.int .i64 (rd l0 x9_1), .int .i64 0, .int .i64 (wrap64 (a1 - 1))] ?_; (with_reducible refine (dM (rd l0 x9_1) 0 (wrap64 (a1 - 1)) true _ A6.out).mono ?_); rintro e w' ⟨rfl, ⟨nd, rfl⟩⟩; refine ⟨_, rfl, ?_⟩; have p159 : 0 ≤ ((ji9) : Int) := ac zA; have q159 : (ji9) < (l0.length : Int) := ac zA; obtain ⟨ad159, e159, hx159_0⟩ := Kd.at_int HR0.out (ji9) p159 q159; obtain rfl : ad157 = ad159 := (by injection e159); replace p159 := eq_true p159; replace q159 := eq_true q159))
           go_ret
           exact ⟨by first | rfl | (simp; done) | (simp only [← hji9] <;> (first | rfl | simp)) | (simp [*]; done), by repeat (first | exact Drawn0.refl _ | apply Drawn0.step)⟩
         · rw [if_neg c12] at H
           have c12b0 : decide ((rd l0 x9_1) ≤ (rd l0 (ji9))) = false := ar c12
           clear c12
           have H' := Aside0.mk H
           clear H
           have p157 : 0 ≤ (x9_1 : Int) := ac zA
           have q157 : x9_1 < (l0.length : Int) := ac zA
           obtain ⟨ad157, e157, hx157_0⟩ := Kd.at_int HR0.out x9_1 p157 q157
           cases e157
           replace p157 := eq_true p157
           replace q157 := eq_true q157
           go_wp2_with (first | ((with_reducible refine ax (f := 77) rfl ?_); refine zc 17 Tryz.func77 #[.int .i64 (rd l0 x9_1), .int .i64 0, .int .i64 (wrap64 (a1 - 1))] ?_; (with_reducible refine (dM (rd l0 x9_1) 0 (wrap64 (a1 - 1)) true _ A6.out).mono ?_); rintro e w' ⟨rfl, ⟨nd, rfl⟩⟩; refine ⟨_, rfl, ?_⟩; have p159 : 0 ≤ ((ji9) : Int) := ac zA; have q159 : (ji9) < (l0.length : Int) := ac zA; obtain ⟨ad159, e159, hx159_0⟩ := Kd.at_int HR0.out (ji9) p159 q159; obtain rfl : ad157 = ad159 := (by injection e159); replace p159 := eq_true p159; replace q159 := eq_true q159))
           go_roundg k1
           case measure => have := HK1.out; omega
           case rel => exact ⟨(wrap64 (x9_1 + 1)), (by first | rfl | (simp; done) | (simp [*]; done)), H', ⟨by have := HK1.out; omega⟩, by repeat (first | exact Drawn0.refl _ | apply Drawn0.step)⟩
       · rw [if_neg c8] at H
         have c8b0 : decide (0 < x9_1) = false := ar c8
         clear c8
         have H' := Aside0.mk H
         clear H
         have p157 : 0 ≤ (x9_1 : Int) := ac zA
         have q157 : x9_1 < (l0.length : Int) := ac zA
         obtain ⟨ad157, e157, hx157_0⟩ := Kd.at_int HR0.out x9_1 p157 q157
         cases e157
         replace p157 := eq_true p157
         replace q157 := eq_true q157
         go_wp2_with (first | ((with_reducible refine ax (f := 77) rfl ?_); refine zc 17 Tryz.func77 #[.int .i64 (rd l0 x9_1), .int .i64 0, .int .i64 (wrap64 (a1 - 1))] ?_; (with_reducible refine (dM (rd l0 x9_1) 0 (wrap64 (a1 - 1)) true _ A6.out).mono ?_); rintro e w' ⟨rfl, ⟨nd, rfl⟩⟩; refine ⟨_, rfl, ?_⟩))
         go_roundg k1
         case measure => have := HK1.out; omega
         case rel => exact ⟨(wrap64 (x9_1 + 1)), (by first | rfl | (simp; done) | (simp [*]; done)), H', ⟨by have := HK1.out; omega⟩, by repeat (first | exact Drawn0.refl _ | apply Drawn0.step)⟩
     · replace c7 := Bool.eq_false_iff.mpr c7
       subst c7
       rw [if_neg (show ¬ (false = true) by decide)] at H
       obtain rfl := ao H
       have p157 : 0 ≤ (x9_1 : Int) := ac zA
       have q157 : x9_1 < (l0.length : Int) := ac zA
       obtain ⟨ad157, e157, hx157_0⟩ := Kd.at_int HR0.out x9_1 p157 q157
       cases e157
       replace p157 := eq_true p157
       replace q157 := eq_true q157
       go_wp2_with (first | ((with_reducible refine ax (f := 77) rfl ?_); refine zc 17 Tryz.func77 #[.int .i64 (rd l0 x9_1), .int .i64 0, .int .i64 (wrap64 (a1 - 1))] ?_; (with_reducible refine (dM (rd l0 x9_1) 0 (wrap64 (a1 - 1)) false _ A6.out).mono ?_); rintro e w' ⟨rfl, ⟨nd, rfl⟩⟩; refine ⟨_, rfl, ?_⟩))
       go_ret
       exact ⟨by first | rfl | (simp; done) | (simp [*]; done), by repeat (first | exact Drawn0.refl _ | apply Drawn0.step)⟩
   · rw [if_neg c3] at H
     have c3b0 : decide (x9_1 < (l0.length : Int)) = false := ar c3
     clear c3
     obtain rfl := ao H
     go_wp2
     go_ret
     exact ⟨by first | rfl | (simp; done) | (simp [*]; done), by repeat (first | exact Drawn0.refl _ | apply Drawn0.step)⟩
def dp (a0 : Int) (a1 : Int) (a2 : Int) : Option (Bool) := if a0 ≥ a1 then (some (decide (a0 ≤ a2))) else (some false)
theorem bm (a0 : Int) (a1 : Int) (a2 : Int) (r : Bool) (w : World) (h : dp a0 a1 a2 = some r) :
 Calls Tryz.prog 56 #[.int .i64 a0, .int .i64 a1, .int .i64 a2] w fun e w' => e = .returned (.bool r) ∧ Drawn0 w w' := by
 have H := h
 unfold dp at H
 clear h
 by_cases c4 : a0 ≥ a1
 · rw [if_pos c4] at H
   have c4b0 : decide (a1 ≤ a0) = true := ag c4
   clear c4
   obtain rfl := ao H
   go_enter Tryz.func56, Tryz.ntmps56
   go_wp2
   go_ret
   exact ⟨by first | rfl | (simp; done) | (simp [*]; done), by repeat (first | exact Drawn0.refl _ | apply Drawn0.step)⟩
 · rw [if_neg c4] at H
   have c4b0 : decide (a1 ≤ a0) = false := ar c4
   clear c4
   obtain rfl := ao H
   go_enter Tryz.func56, Tryz.ntmps56
   go_wp2
   go_ret
   exact ⟨by first | rfl | (simp; done) | (simp [*]; done), by repeat (first | exact Drawn0.refl _ | apply Drawn0.step)⟩
def fe (a0_0 : Int) (a0_1 : Int) (a1_0 : Int) (a1_1 : Int) : Option (Bool) := if a0_0 < a1_0 then (some true) else (if a0_0 = a1_0 then (some (decide (a0_1 < a1_1))) else (some false))
theorem kz (a0_0 : Int) (a0_1 : Int) (a1_0 : Int) (a1_1 : Int) (r : Bool) (w : World) (h : fe a0_0 a0_1 a1_0 a1_1 = some r) :
 Calls Tryz.prog 109 #[.agg #[.int .i64 a0_0, .int .i64 a0_1], .agg #[.int .i64 a1_0, .int .i64 a1_1]] w fun e w' => e = .returned (.bool r) ∧ Below w.heap.size w w' := by
 have hu69 := Tryz.underlying69
 have HB := zM (Below.refl w.heap.size w)
 have H := h
 unfold fe at H
 clear h
 by_cases c3 : a0_0 < a1_0
 · rw [if_pos c3] at H
   have c3b0 := ag c3
   clear c3
   obtain rfl := ao H
   go_enter Tryz.func109, Tryz.ntmps109
   go_wp2_with (first | ((with_reducible refine ap (N := 2) rfl ?_); refine zb (w := w) 2 #[.int .i64 a0_0, .int .i64 a0_1] 69 zB ?_; clear HB; intro gb160 w4 HB BK160 GW160; have GE160 := GW160) | ((with_reducible refine ap (N := 3) rfl ?_); refine ze 3 #[.int .i64 a1_0, .int .i64 a1_1] 69 ?_; intro gb161 hg w5 hbox hb; have BK161 := zM (hbox); have GW161 := zM ((by rw [hg]; exact (ai zB) : w.heap.size ≤ gb161)); have GE161 := zM ((by rw [hg]; exact (ai zB) : w.heap.size ≤ gb161)); replace HB := zM (ah zB hb); have NB160_161 := zM ((by rw [hg]; exact Nat.ne_of_lt (aA (g := gb160) (o := .cells #[.int .i64 a0_0, .int .i64 a0_1] 69 (0, 0)) (zK BK160.out)) : gb160 ≠ gb161)); have NB161_160 := zM ((by rw [hg]; exact Nat.ne_of_gt (aA (g := gb160) (o := .cells #[.int .i64 a0_0, .int .i64 a0_1] 69 (0, 0)) (zK BK160.out)) : gb161 ≠ gb160)); replace BK160 := zJ BK160 hb; clear hb hbox hg; have hnb6 := NB160_161.out; have hnc6 := NB161_160.out; have hcz7_0 := zy BK160 0; have hcz7_1 := zy BK160 1; have hfz7_0 := ae BK160.out 0; have hfz7_1 := ae BK160.out 1; have hcz8_0 := zy BK161 0; have hcz8_1 := zy BK161 1; have hfz8_0 := ae BK161.out 0; have hfz8_1 := ae BK161.out 1))
   go_ret
   exact ⟨by first | rfl | (simp [al, ak] <;> rfl) | (simp [*, al, ak] <;> rfl), zB⟩
 · rw [if_neg c3] at H
   have c3b0 : decide (a0_0 < a1_0) = false := ar c3
   clear c3
   by_cases c9 : a0_0 = a1_0
   · rw [if_pos c9] at H
     have c9b0 : (a0_0 == a1_0) = true := beq_iff_eq.mpr c9
     have c9b1 : (a0_0 != a1_0) = false := bne_eq_false_iff_eq.mpr c9
     clear c9
     obtain rfl := ao H
     go_enter Tryz.func109, Tryz.ntmps109
     go_wp2_with (first | ((with_reducible refine ap (N := 2) rfl ?_); refine zb (w := w) 2 #[.int .i64 a0_0, .int .i64 a0_1] 69 zB ?_; clear HB; intro gb160 w10 HB BK160 GW160; have GE160 := GW160) | ((with_reducible refine ap (N := 3) rfl ?_); refine ze 3 #[.int .i64 a1_0, .int .i64 a1_1] 69 ?_; intro gb161 hg w11 hbox hb; have BK161 := zM (hbox); have GW161 := zM ((by rw [hg]; exact (ai zB) : w.heap.size ≤ gb161)); have GE161 := zM ((by rw [hg]; exact (ai zB) : w.heap.size ≤ gb161)); replace HB := zM (ah zB hb); have NB160_161 := zM ((by rw [hg]; exact Nat.ne_of_lt (aA (g := gb160) (o := .cells #[.int .i64 a0_0, .int .i64 a0_1] 69 (0, 0)) (zK BK160.out)) : gb160 ≠ gb161)); have NB161_160 := zM ((by rw [hg]; exact Nat.ne_of_gt (aA (g := gb160) (o := .cells #[.int .i64 a0_0, .int .i64 a0_1] 69 (0, 0)) (zK BK160.out)) : gb161 ≠ gb160)); replace BK160 := zJ BK160 hb; clear hb hbox hg; have hnb12 := NB160_161.out; have hnc12 := NB161_160.out; have hcz13_0 := zy BK160 0; have hcz13_1 := zy BK160 1; have hfz13_0 := ae BK160.out 0; have hfz13_1 := ae BK160.out 1; have hcz14_0 := zy BK161 0; have hcz14_1 := zy BK161 1; have hfz14_0 := ae BK161.out 0; have hfz14_1 := ae BK161.out 1))
     go_ret
     exact ⟨by first | rfl | (simp [al, ak] <;> rfl) | (simp [*, al, ak] <;> rfl), zB⟩
   · rw [if_neg c9] at H
     have c9b0 : (a0_0 == a1_0) = false := beq_eq_false_iff_ne.mpr c9
     have c9b1 : (a0_0 != a1_0) = true := bne_iff_ne.mpr c9
     obtain rfl := ao H
     go_enter Tryz.func109, Tryz.ntmps109
     go_wp2_with (first | ((with_reducible refine ap (N := 2) rfl ?_); refine zb (w := w) 2 #[.int .i64 a0_0, .int .i64 a0_1] 69 zB ?_; clear HB; intro gb160 w15 HB BK160 GW160; have GE160 := GW160) | ((with_reducible refine ap (N := 3) rfl ?_); refine ze 3 #[.int .i64 a1_0, .int .i64 a1_1] 69 ?_; intro gb161 hg w16 hbox hb; have BK161 := zM (hbox); have GW161 := zM ((by rw [hg]; exact (ai zB) : w.heap.size ≤ gb161)); have GE161 := zM ((by rw [hg]; exact (ai zB) : w.heap.size ≤ gb161)); replace HB := zM (ah zB hb); have NB160_161 := zM ((by rw [hg]; exact Nat.ne_of_lt (aA (g := gb160) (o := .cells #[.int .i64 a0_0, .int .i64 a0_1] 69 (0, 0)) (zK BK160.out)) : gb160 ≠ gb161)); have NB161_160 := zM ((by rw [hg]; exact Nat.ne_of_gt (aA (g := gb160) (o := .cells #[.int .i64 a0_0, .int .i64 a0_1] 69 (0, 0)) (zK BK160.out)) : gb161 ≠ gb160)); replace BK160 := zJ BK160 hb; clear hb hbox hg; have hnb17 := NB160_161.out; have hnc17 := NB161_160.out; have hcz18_0 := zy BK160 0; have hcz18_1 := zy BK160 1; have hfz18_0 := ae BK160.out 0; have hfz18_1 := ae BK160.out 1; have hcz19_0 := zy BK161 0; have hcz19_1 := zy BK161 1; have hfz19_0 := ae BK161.out 0; have hfz19_1 := ae BK161.out 1))
     go_ret
     exact ⟨by first | rfl | (simp [al, ak] <;> rfl) | (simp [*, al, ak] <;> rfl), zB⟩
attribute [local go_sem] aY aU aV aN aW aQ aX aT
def dO : Nat → Int → List Int → Int → Int → Option (Int)
 | 0, _, _, _, _ => none
 | k + 1, x3, x6, x7, x8 => if x8 < x7 then (if 0 ≤ x8 then (if x8 < (x6.length : Int) then (if 0 ≤ (rd x6 x8) then (dO k (Go.bits .or .u64 x3 (cO .u64 1 (rd x6 x8))) x6 x7 (wrap64 (x8 + 1))) else (none)) else (none)) else (none)) else (some x3)
def fC (k : Nat) (l0 : List Int) : Option (Int) := dO k 0 l0 (l0.length : Int) 0
theorem jv (k : Nat) (A0 : Option Addr) (c0 : Nat) (l0 : List Int) (r : Int) (w : World) (hr0 : Kd.C (Kd.int .i64) w A0 l0.length l0) (hc0 : l0.length ≤ c0) (h : fC k l0 = some r) :
 Calls Tryz.prog 74 #[.slice A0 l0.length c0] w fun e w' => e = .returned (.int .u64 r) ∧ Drawn0 w w' := by
 have HR0 := Aside0.mk hr0
 have HC0 := Aside0.mk hc0
 clear hr0 hc0
 have H := h
 unfold fC at H
 clear h
 have H' := Aside0.mk H
 clear H
 go_enter Tryz.func74, Tryz.ntmps74
 go_wp2
 go_loopg [3, 8] k (fun kq v3 v8 w' => ∃ (x3_1 : Int) (x8_1 : Int), v3 = .int .u64 x3_1 ∧ v8 = .int .i64 x8_1 ∧ Aside0 (dO kq x3_1 l0 (l0.length : Int) x8_1 = some r) ∧ Aside0 (kq ≤ k) ∧ Drawn0 w w')
 case atStart => exact ⟨(0), (0), (by first | rfl | (simp; done) | (simp [*]; done)), (by first | rfl | (simp; done) | (simp [*]; done)), H', ⟨au _⟩, by repeat (first | exact Drawn0.refl _ | apply Drawn0.step)⟩
 case round =>
  clear H'
  obtain ⟨x3_1, x8_1, rfl, rfl, HA, HK1, ⟨m1, rfl⟩⟩ := hrel
  cases gk with
  | zero => exact absurd HA.out (by simp [dO])
  | succ k1 =>
   have H := HA.out
   clear HA
   simp only [dO] at H
   by_cases c2 : x8_1 < (l0.length : Int)
   · rw [if_pos c2] at H
     have c2b0 := ag c2
     clear c2
     by_cases c3 : 0 ≤ x8_1
     case neg => rw [if_neg c3] at H; simp at H
     rw [if_pos c3] at H
     have c3b0 := ag c3
     clear c3
     by_cases c4 : x8_1 < (l0.length : Int)
     case neg => rw [if_neg c4] at H; simp at H
     rw [if_pos c4] at H
     have c4b0 := ag c4
     clear c4
     by_cases c5 : 0 ≤ (rd l0 x8_1)
     case neg => rw [if_neg c5] at H; simp at H
     rw [if_pos c5] at H
     have c5b0 := eq_true c5
     have c5b1 : decide (0 ≤ (rd l0 x8_1)) = true := ag c5
     clear c5
     obtain ⟨ji6, hji6⟩ : ∃ j_ : Int, (cO .u64 1 (rd l0 x8_1)) = j_ := ⟨_, rfl⟩
     replace H : (dO k1 (Go.bits .or .u64 x3_1 (ji6)) l0 (l0.length : Int) (wrap64 (x8_1 + 1))) = some r := by first | (rw [hji6] at H; exact H) | (simp only [hji6] at H ⊢; exact H)
     have hji6_ : (IntKind.u64.wrap (1 * 2 ^ min (rd l0 x8_1).toNat 64)) = ji6 := hji6
     have hji6z : (rd l0 x8_1) ≤ 64 → (IntKind.u64.wrap (1 * 2 ^ (rd l0 x8_1).toNat)) = ji6 := iZ hji6
     have hji6u : (IntKind.u64.wrap (2 ^ min (rd l0 x8_1).toNat 64)) = ji6 := by have h_ := hji6_; rw [Int.one_mul] at h_; exact h_
     have hji6v : (rd l0 x8_1) ≤ 64 → (IntKind.u64.wrap (2 ^ (rd l0 x8_1).toNat)) = ji6 := fun hle_ => by have h_ := hji6z hle_; rw [Int.one_mul] at h_; exact h_
     have H' := Aside0.mk H
     clear H
     have p264 : 0 ≤ (x8_1 : Int) := ac zA
     have q264 : x8_1 < (l0.length : Int) := ac zA
     obtain ⟨ad264, e264, hx264_0⟩ := Kd.at_int HR0.out x8_1 p264 q264
     cases e264
     replace p264 := eq_true p264
     replace q264 := eq_true q264
     go_wp2
     go_roundg k1
     case measure => have := HK1.out; omega
     case rel => exact ⟨(Go.bits .or .u64 x3_1 (ji6)), (wrap64 (x8_1 + 1)), (by first | rfl | (simp; done) | (simp only [← hji6] <;> (first | rfl | simp)) | (simp [*]; done)), (by first | rfl | (simp; done) | (simp [*]; done)), H', ⟨by have := HK1.out; omega⟩, by repeat (first | exact Drawn0.refl _ | apply Drawn0.step)⟩
   · rw [if_neg c2] at H
     have c2b0 : decide (x8_1 < (l0.length : Int)) = false := ar c2
     clear c2
     obtain rfl := ao H
     go_wp2
     go_ret
     exact ⟨by first | rfl | (simp; done) | (simp [*]; done), by repeat (first | exact Drawn0.refl _ | apply Drawn0.step)⟩
def dY : Nat → List Int → Int → Int → Option (Bool)
 | 0, _, _, _ => none
 | k + 1, x0, x1, x5 => if x5 < (x0.length : Int) then (if 0 ≤ x5 then (if (rd x0 x5) = x1 then (some true) else (dY k x0 x1 (wrap64 (x5 + 1)))) else (none)) else (some false)
def f7 (k : Nat) (l0 : List Int) (a1 : Int) : Option (Bool) := dY k l0 a1 0
theorem kB (k : Nat) (A0 : Option Addr) (c0 : Nat) (l0 : List Int) (a1 : Int) (r : Bool) (w : World) (hr0 : Kd.C (Kd.int .i64) w A0 l0.length l0) (hc0 : l0.length ≤ c0) (h : f7 k l0 a1 = some r) :
 Calls Tryz.prog 95 #[.slice A0 l0.length c0, .int .i64 a1] w fun e w' => e = .returned (.bool r) ∧ Drawn0 w w' := by
 have HR0 := Aside0.mk hr0
 have HC0 := Aside0.mk hc0
 clear hr0 hc0
 have H := h
 unfold f7 at H
 clear h
 have H' := Aside0.mk H
 clear H
 go_enter Tryz.func95, Tryz.ntmps95
 go_wp2
 go_loopg [5] k (fun kq v5 w' => ∃ (x5_1 : Int), v5 = .int .i64 x5_1 ∧ Aside0 (dY kq l0 a1 x5_1 = some r) ∧ Aside0 (kq ≤ k) ∧ Drawn0 w w')
 case atStart => exact ⟨(0), (by first | rfl | (simp; done) | (simp [*]; done)), H', ⟨au _⟩, by repeat (first | exact Drawn0.refl _ | apply Drawn0.step)⟩
 case round =>
  clear H'
  try clear p2
  obtain ⟨x5_1, rfl, HA, HK1, ⟨m1, rfl⟩⟩ := hrel
  cases gk with
  | zero => exact absurd HA.out (by simp [dY])
  | succ k1 =>
   have H := HA.out
   clear HA
   simp only [dY] at H
   by_cases c3 : x5_1 < (l0.length : Int)
   · rw [if_pos c3] at H
     have c3b0 := ag c3
     clear c3
     by_cases c4 : 0 ≤ x5_1
     case neg => rw [if_neg c4] at H; simp at H
     rw [if_pos c4] at H
     have c4b0 := ag c4
     clear c4
     by_cases c5 : (rd l0 x5_1) = a1
     · rw [if_pos c5] at H
       have c5b0 : ((rd l0 x5_1) == a1) = true := beq_iff_eq.mpr c5
       have c5b1 : ((rd l0 x5_1) != a1) = false := bne_eq_false_iff_eq.mpr c5
       clear c5
       obtain rfl := ao H
       have p265 : 0 ≤ (x5_1 : Int) := ac zA
       have q265 : x5_1 < (l0.length : Int) := ac zA
       obtain ⟨ad265, e265, hx265_0⟩ := Kd.at_int HR0.out x5_1 p265 q265
       cases e265
       replace p265 := eq_true p265
       replace q265 := eq_true q265
       go_wp2
       go_ret
       exact ⟨by first | rfl | (simp; done) | (simp [*]; done), by repeat (first | exact Drawn0.refl _ | apply Drawn0.step)⟩
     · rw [if_neg c5] at H
       have c5b0 : ((rd l0 x5_1) == a1) = false := beq_eq_false_iff_ne.mpr c5
       have c5b1 : ((rd l0 x5_1) != a1) = true := bne_iff_ne.mpr c5
       have H' := Aside0.mk H
       clear H
       have p265 : 0 ≤ (x5_1 : Int) := ac zA
       have q265 : x5_1 < (l0.length : Int) := ac zA
       obtain ⟨ad265, e265, hx265_0⟩ := Kd.at_int HR0.out x5_1 p265 q265
       cases e265
       replace p265 := eq_true p265
       replace q265 := eq_true q265
       go_wp2
       go_roundg k1
       case measure => have := HK1.out; omega
       case rel => exact ⟨(wrap64 (x5_1 + 1)), (by first | rfl | (simp; done) | (simp [*]; done)), H', ⟨by have := HK1.out; omega⟩, by repeat (first | exact Drawn0.refl _ | apply Drawn0.step)⟩
   · rw [if_neg c3] at H
     have c3b0 : decide (x5_1 < (l0.length : Int)) = false := ar c3
     clear c3
     obtain rfl := ao H
     go_wp2
     go_ret
     exact ⟨by first | rfl | (simp; done) | (simp [*]; done), by repeat (first | exact Drawn0.refl _ | apply Drawn0.step)⟩
end Go.Proofs.YtadjbmcfgjmhkaaGreat.P
