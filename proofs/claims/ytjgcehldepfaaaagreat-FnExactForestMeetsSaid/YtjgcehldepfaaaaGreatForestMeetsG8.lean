import Derived.Test.YtjgcehldepfaaaaGreatForestMeetsG7
namespace Go.Proofs.YtjgcehldepfaaaaGreat.P
open Go.RowKit YtjgcehldepfaaaaGreatW.PrintWords YtjgcehldepfaaaaGreatW.PrintLast YtjgcehldepfaaaaGreatW.PrintMore
attribute [local go_sem] bl bh bi bd bj bf bk bg
set_option maxRecDepth 100000
set_option maxHeartbeats 8000000
set_option linter.unusedVariables false
set_option linter.unusedSimpArgs false
attribute [local go_sem high] tw
def hY (k : Nat) (a0_0 : Int) (l0_1 : List (S63)) : Option (Bool) := (eZ a0_0 0 8).bind fun t164 => (if t164 = true then ((iW k l0_1 a0_0).bind fun t165 => (some t165)) else (some false))
theorem lw (k : Nat) (a0_0 : Int) (A0_1 : Option Addr) (c0_1 : Nat) (l0_1 : List (S63)) (r : Bool) (w : World) (hr0_1 : Kd.C k63 w A0_1 l0_1.length l0_1) (hc0_1 : l0_1.length ≤ c0_1) (h : hY k a0_0 l0_1 = some r) :
 Calls Tryz.prog 41 #[.agg #[.int .i64 a0_0, .slice A0_1 l0_1.length c0_1]] w fun e w' => e = .returned (.bool r) ∧ Below w.heap.size w w' := by
 have hu29 := Tryz.underlying29
 have HR0_1 := Aside0.mk hr0_1
 have HC0_1 := Aside0.mk hc0_1
 clear hr0_1 hc0_1
 have HB := zM (Below.refl w.heap.size w)
 have H := h
 unfold hY at H
 clear h
 replace H := av H
 obtain ⟨t164, A20, H⟩ := H
 have A2 := Aside0.mk A20
 clear A20
 by_cases c3 : t164 = true
 · subst c3
   rw [if_pos rfl] at H
   replace H := av H
   obtain ⟨t165, A40, H⟩ := H
   have A4 := Aside0.mk A40
   clear A40
   obtain rfl := ap H
   go_enter Tryz.func41, Tryz.ntmps41
   go_wp2_with (first | ((with_reducible refine au (N := 1) rfl ?_); refine zb (w := w) 1 #[.int .i64 a0_0, .slice A0_1 l0_1.length c0_1] 29 zB ?_; clear HB; intro gb163 w5 HB BK163 GW163; have GE163 := GW163; have hcz6_0 := zy BK163 0; have hcz6_1 := zy BK163 1; have hfz6_0 := ae BK163.out 0; have hfz6_1 := ae BK163.out 1) | ((with_reducible refine ax (f := 62) rfl ?_); refine zc 5 Tryz.func62 #[.int .i64 a0_0, .int .i64 0, .int .i64 8] ?_; (with_reducible refine (bD a0_0 0 8 true _ A2.out).mono ?_); rintro e w' ⟨rfl, ⟨nd, rfl⟩⟩; refine ⟨_, rfl, ?_⟩) | (go_at_call 63; (with_reducible refine (oY k _ _ l0_1 a0_0 t165 _ ?side1 ?side2 A4.out).mono ?_); (case side1 => exact zC (Kd.C_below HR0_1.out zB)); (case side2 => exact HC0_1.out); rintro e w7 ⟨rfl, hb⟩; replace BK163 := zJ BK163 hb; replace HB := zM (ag zB hb); (try clear hb); (try clear hi)))
   go_ret
   exact ⟨by first | rfl | (simp [al, ak] <;> rfl) | (simp [*, al, ak] <;> rfl), zB⟩
 · replace c3 := Bool.eq_false_iff.mpr c3
   subst c3
   rw [if_neg (show ¬ (false = true) by decide)] at H
   obtain rfl := ap H
   go_enter Tryz.func41, Tryz.ntmps41
   go_wp2_with (first | ((with_reducible refine au (N := 1) rfl ?_); refine zb (w := w) 1 #[.int .i64 a0_0, .slice A0_1 l0_1.length c0_1] 29 zB ?_; clear HB; intro gb163 w8 HB BK163 GW163; have GE163 := GW163; have hcz9_0 := zy BK163 0; have hcz9_1 := zy BK163 1; have hfz9_0 := ae BK163.out 0; have hfz9_1 := ae BK163.out 1) | ((with_reducible refine ax (f := 62) rfl ?_); refine zc 5 Tryz.func62 #[.int .i64 a0_0, .int .i64 0, .int .i64 8] ?_; (with_reducible refine (bD a0_0 0 8 false _ A2.out).mono ?_); rintro e w' ⟨rfl, ⟨nd, rfl⟩⟩; refine ⟨_, rfl, ?_⟩))
   go_ret
   exact ⟨by first | rfl | (simp [al, ak] <;> rfl) | (simp [*, al, ak] <;> rfl), zB⟩
def dP : Nat → List Int → Int → Int → Int → Option (Bool)
 | 0, _, _, _, _ => none
 | k + 1, x0, x1, x2, x7 => if x7 < (x0.length : Int) then (if 0 ≤ x7 then ((eZ (rd x0 x7) x1 x2).bind fun t167 => (if t167 = true then (if x7 > 0 then (if 0 ≤ (wrap64 (x7 - 1)) then (if (wrap64 (x7 - 1)) < (x0.length : Int) then (if (rd x0 (wrap64 (x7 - 1))) ≥ (rd x0 x7) then (some false) else (dP k x0 x1 x2 (wrap64 (x7 + 1)))) else (none)) else (none)) else (dP k x0 x1 x2 (wrap64 (x7 + 1)))) else (some false))) else (none)) else (some true)
def iY (k : Nat) (l0 : List Int) (a1 : Int) (a2 : Int) : Option (Bool) := dP k l0 a1 a2 0
theorem o3 (k : Nat) (A0 : Option Addr) (c0 : Nat) (l0 : List Int) (a1 : Int) (a2 : Int) (r : Bool) (w : World) (hr0 : Kd.C (Kd.int .i64) w A0 l0.length l0) (hc0 : l0.length ≤ c0) (h : iY k l0 a1 a2 = some r) :
 Calls Tryz.prog 83 #[.slice A0 l0.length c0, .int .i64 a1, .int .i64 a2] w fun e w' => e = .returned (.bool r) ∧ Drawn0 w w' := by
 have HR0 := Aside0.mk hr0
 have HC0 := Aside0.mk hc0
 clear hr0 hc0
 have H := h
 unfold iY at H
 clear h
 have H' := Aside0.mk H
 clear H
 go_enter Tryz.func83, Tryz.ntmps83
 go_wp2
 repeat (go_quiet (fail); try go_wp2)
 go_loopg [7] k (fun kq v7 w' => ∃ (x7_1 : Int), v7 = .int .i64 x7_1 ∧ Aside0 (dP kq l0 a1 a2 x7_1 = some r) ∧ Aside0 (kq ≤ k) ∧ Drawn0 w w')
 case atStart => exact ⟨(0), (by first | rfl | (simp; done) | (simp [*]; done)), H', ⟨ar _⟩, by repeat (first | exact Drawn0.refl _ | apply Drawn0.step)⟩
 case round =>
  clear H'
  try clear p2
  obtain ⟨x7_1, rfl, HA, HK1, ⟨m1, rfl⟩⟩ := hrel
  cases gk with
  | zero => exact absurd HA.out (by simp [dP])
  | succ k1 =>
   have H := HA.out
   clear HA
   simp only [dP] at H
   by_cases c4 : x7_1 < (l0.length : Int)
   · rw [if_pos c4] at H
     have c4b0 := af c4
     clear c4
     by_cases c5 : 0 ≤ x7_1
     case neg => rw [if_neg c5] at H; simp at H
     rw [if_pos c5] at H
     have c5b0 := af c5
     clear c5
     replace H := av H
     obtain ⟨t167, A60, H⟩ := H
     have A6 := Aside0.mk A60
     clear A60
     by_cases c7 : t167 = true
     · subst c7
       rw [if_pos rfl] at H
       by_cases c8 : x7_1 > 0
       · rw [if_pos c8] at H
         have c8b0 : decide (0 < x7_1) = true := af c8
         clear c8
         obtain ⟨ji9, hji9⟩ : ∃ j_ : Int, (wrap64 (x7_1 - 1)) = j_ := ⟨_, rfl⟩
         replace H : (if 0 ≤ (ji9) then (if (ji9) < (l0.length : Int) then (if (rd l0 (ji9)) ≥ (rd l0 x7_1) then (some false) else (dP k1 l0 a1 a2 (wrap64 (x7_1 + 1)))) else (none)) else (none)) = some r := by first | (rw [hji9] at H; exact H) | (simp only [hji9] at H ⊢; exact H)
         (try rw [hji9] at A6)
         have hji9w : (IntKind.i64.wrap (x7_1 - 1)) = ji9 := (bW _).trans hji9
         by_cases c10 : 0 ≤ (ji9)
         case neg => rw [if_neg c10] at H; simp at H
         rw [if_pos c10] at H
         have c10b0 := af c10
         clear c10
         by_cases c11 : (ji9) < (l0.length : Int)
         case neg => rw [if_neg c11] at H; simp at H
         rw [if_pos c11] at H
         have c11b0 := af c11
         clear c11
         by_cases c12 : (rd l0 (ji9)) ≥ (rd l0 x7_1)
         · rw [if_pos c12] at H
           have c12b0 : decide ((rd l0 x7_1) ≤ (rd l0 (ji9))) = true := af c12
           clear c12
           obtain rfl := ap H
           have p166 : 0 ≤ (x7_1 : Int) := ac zA
           have q166 : x7_1 < (l0.length : Int) := ac zA
           obtain ⟨ad166, e166, hx166_0⟩ := Kd.at_int HR0.out x7_1 p166 q166
           cases e166
           replace p166 := eq_true p166
           replace q166 := eq_true q166
           go_wp2_with (first | (go_at_call 62; (with_reducible refine (bD (rd l0 x7_1) a1 a2 true _ A6.out).mono ?_); rintro e w' ⟨rfl, ⟨nd, rfl⟩⟩; (try exact zD); have p168 : 0 ≤ ((ji9) : Int) := ac zA; have q168 : (ji9) < (l0.length : Int) := ac zA; obtain ⟨ad168, e168, hx168_0⟩ := Kd.at_int HR0.out (ji9) p168 q168; obtain rfl : ad166 = ad168 := (by injection e168); replace p168 := eq_true p168; replace q168 := eq_true q168; have p169 : 0 ≤ (x7_1 : Int) := ac zA; have q169 : x7_1 < (l0.length : Int) := ac zA; obtain ⟨ad169, e169, hx169_0⟩ := Kd.at_int HR0.out x7_1 p169 q169; obtain rfl : ad166 = ad169 := (by injection e169); replace p169 := eq_true p169; replace q169 := eq_true q169))
           repeat (go_quiet (first | (go_at_call 62; (with_reducible refine (bD (rd l0 x7_1) a1 a2 true _ A6.out).mono ?_); rintro e w' ⟨rfl, ⟨nd, rfl⟩⟩; (try exact zD); have p168 : 0 ≤ ((ji9) : Int) := ac zA; have q168 : (ji9) < (l0.length : Int) := ac zA; obtain ⟨ad168, e168, hx168_0⟩ := Kd.at_int HR0.out (ji9) p168 q168; obtain rfl : ad166 = ad168 := (by injection e168); replace p168 := eq_true p168; replace q168 := eq_true q168; have p169 : 0 ≤ (x7_1 : Int) := ac zA; have q169 : x7_1 < (l0.length : Int) := ac zA; obtain ⟨ad169, e169, hx169_0⟩ := Kd.at_int HR0.out x7_1 p169 q169; obtain rfl : ad166 = ad169 := (by injection e169); replace p169 := eq_true p169; replace q169 := eq_true q169)); try go_wp2_with (first | (go_at_call 62; (with_reducible refine (bD (rd l0 x7_1) a1 a2 true _ A6.out).mono ?_); rintro e w' ⟨rfl, ⟨nd, rfl⟩⟩; (try exact zD); have p168 : 0 ≤ ((ji9) : Int) := ac zA; have q168 : (ji9) < (l0.length : Int) := ac zA; obtain ⟨ad168, e168, hx168_0⟩ := Kd.at_int HR0.out (ji9) p168 q168; obtain rfl : ad166 = ad168 := (by injection e168); replace p168 := eq_true p168; replace q168 := eq_true q168; have p169 : 0 ≤ (x7_1 : Int) := ac zA; have q169 : x7_1 < (l0.length : Int) := ac zA; obtain ⟨ad169, e169, hx169_0⟩ := Kd.at_int HR0.out x7_1 p169 q169; obtain rfl : ad166 = ad169 := (by injection e169); replace p169 := eq_true p169; replace q169 := eq_true q169)))
           go_ret
           exact ⟨by first | rfl | (simp; done) | (simp only [← hji9] <;> (first | rfl | simp)) | (simp [*]; done), by repeat (first | exact Drawn0.refl _ | apply Drawn0.step)⟩
         · rw [if_neg c12] at H
           have c12b0 : decide ((rd l0 x7_1) ≤ (rd l0 (ji9))) = false := ao c12
           clear c12
           have H' := Aside0.mk H
           clear H
           have p166 : 0 ≤ (x7_1 : Int) := ac zA
           have q166 : x7_1 < (l0.length : Int) := ac zA
           obtain ⟨ad166, e166, hx166_0⟩ := Kd.at_int HR0.out x7_1 p166 q166
           cases e166
           replace p166 := eq_true p166
           replace q166 := eq_true q166
           go_wp2_with (first | (go_at_call 62; (with_reducible refine (bD (rd l0 x7_1) a1 a2 true _ A6.out).mono ?_); rintro e w' ⟨rfl, ⟨nd, rfl⟩⟩; (try exact zD); have p168 : 0 ≤ ((ji9) : Int) := ac zA; have q168 : (ji9) < (l0.length : Int) := ac zA; obtain ⟨ad168, e168, hx168_0⟩ := Kd.at_int HR0.out (ji9) p168 q168; obtain rfl : ad166 = ad168 := (by injection e168); replace p168 := eq_true p168; replace q168 := eq_true q168; have p169 : 0 ≤ (x7_1 : Int) := ac zA; have q169 : x7_1 < (l0.length : Int) := ac zA; obtain ⟨ad169, e169, hx169_0⟩ := Kd.at_int HR0.out x7_1 p169 q169; obtain rfl : ad166 = ad169 := (by injection e169); replace p169 := eq_true p169; replace q169 := eq_true q169))
           repeat (go_quiet (first | (go_at_call 62; (with_reducible refine (bD (rd l0 x7_1) a1 a2 true _ A6.out).mono ?_); rintro e w' ⟨rfl, ⟨nd, rfl⟩⟩; (try exact zD); have p168 : 0 ≤ ((ji9) : Int) := ac zA; have q168 : (ji9) < (l0.length : Int) := ac zA; obtain ⟨ad168, e168, hx168_0⟩ := Kd.at_int HR0.out (ji9) p168 q168; obtain rfl : ad166 = ad168 := (by injection e168); replace p168 := eq_true p168; replace q168 := eq_true q168; have p169 : 0 ≤ (x7_1 : Int) := ac zA; have q169 : x7_1 < (l0.length : Int) := ac zA; obtain ⟨ad169, e169, hx169_0⟩ := Kd.at_int HR0.out x7_1 p169 q169; obtain rfl : ad166 = ad169 := (by injection e169); replace p169 := eq_true p169; replace q169 := eq_true q169)); try go_wp2_with (first | (go_at_call 62; (with_reducible refine (bD (rd l0 x7_1) a1 a2 true _ A6.out).mono ?_); rintro e w' ⟨rfl, ⟨nd, rfl⟩⟩; (try exact zD); have p168 : 0 ≤ ((ji9) : Int) := ac zA; have q168 : (ji9) < (l0.length : Int) := ac zA; obtain ⟨ad168, e168, hx168_0⟩ := Kd.at_int HR0.out (ji9) p168 q168; obtain rfl : ad166 = ad168 := (by injection e168); replace p168 := eq_true p168; replace q168 := eq_true q168; have p169 : 0 ≤ (x7_1 : Int) := ac zA; have q169 : x7_1 < (l0.length : Int) := ac zA; obtain ⟨ad169, e169, hx169_0⟩ := Kd.at_int HR0.out x7_1 p169 q169; obtain rfl : ad166 = ad169 := (by injection e169); replace p169 := eq_true p169; replace q169 := eq_true q169)))
           go_roundg k1
           case measure => have := HK1.out; omega
           case rel => exact ⟨(wrap64 (x7_1 + 1)), (by first | rfl | (simp; done) | (simp [*]; done)), H', ⟨by have := HK1.out; omega⟩, by repeat (first | exact Drawn0.refl _ | apply Drawn0.step)⟩
       · rw [if_neg c8] at H
         have c8b0 : decide (0 < x7_1) = false := ao c8
         clear c8
         have H' := Aside0.mk H
         clear H
         have p166 : 0 ≤ (x7_1 : Int) := ac zA
         have q166 : x7_1 < (l0.length : Int) := ac zA
         obtain ⟨ad166, e166, hx166_0⟩ := Kd.at_int HR0.out x7_1 p166 q166
         cases e166
         replace p166 := eq_true p166
         replace q166 := eq_true q166
         go_wp2_with (first | (go_at_call 62; (with_reducible refine (bD (rd l0 x7_1) a1 a2 true _ A6.out).mono ?_); rintro e w' ⟨rfl, ⟨nd, rfl⟩⟩; (try exact zD)))
         repeat (go_quiet (first | (go_at_call 62; (with_reducible refine (bD (rd l0 x7_1) a1 a2 true _ A6.out).mono ?_); rintro e w' ⟨rfl, ⟨nd, rfl⟩⟩; (try exact zD))); try go_wp2_with (first | (go_at_call 62; (with_reducible refine (bD (rd l0 x7_1) a1 a2 true _ A6.out).mono ?_); rintro e w' ⟨rfl, ⟨nd, rfl⟩⟩; (try exact zD))))
         go_roundg k1
         case measure => have := HK1.out; omega
         case rel => exact ⟨(wrap64 (x7_1 + 1)), (by first | rfl | (simp; done) | (simp [*]; done)), H', ⟨by have := HK1.out; omega⟩, by repeat (first | exact Drawn0.refl _ | apply Drawn0.step)⟩
     · replace c7 := Bool.eq_false_iff.mpr c7
       subst c7
       rw [if_neg (show ¬ (false = true) by decide)] at H
       obtain rfl := ap H
       have p166 : 0 ≤ (x7_1 : Int) := ac zA
       have q166 : x7_1 < (l0.length : Int) := ac zA
       obtain ⟨ad166, e166, hx166_0⟩ := Kd.at_int HR0.out x7_1 p166 q166
       cases e166
       replace p166 := eq_true p166
       replace q166 := eq_true q166
       go_wp2_with (first | (go_at_call 62; (with_reducible refine (bD (rd l0 x7_1) a1 a2 false _ A6.out).mono ?_); rintro e w' ⟨rfl, ⟨nd, rfl⟩⟩; (try exact zD)))
       repeat (go_quiet (first | (go_at_call 62; (with_reducible refine (bD (rd l0 x7_1) a1 a2 false _ A6.out).mono ?_); rintro e w' ⟨rfl, ⟨nd, rfl⟩⟩; (try exact zD))); try go_wp2_with (first | (go_at_call 62; (with_reducible refine (bD (rd l0 x7_1) a1 a2 false _ A6.out).mono ?_); rintro e w' ⟨rfl, ⟨nd, rfl⟩⟩; (try exact zD))))
       go_ret
       exact ⟨by first | rfl | (simp; done) | (simp [*]; done), by repeat (first | exact Drawn0.refl _ | apply Drawn0.step)⟩
   · rw [if_neg c4] at H
     have c4b0 : decide (x7_1 < (l0.length : Int)) = false := ao c4
     clear c4
     obtain rfl := ap H
     go_wp2
     repeat (go_quiet (fail); try go_wp2)
     go_ret
     exact ⟨by first | rfl | (simp; done) | (simp [*]; done), by repeat (first | exact Drawn0.refl _ | apply Drawn0.step)⟩
def cW : Nat → Int → Int → List Int → Int → Option (List Int)
 | 0, _, _, _, _ => none
 | k + 1, x0, x1, x5, x6 => if x6 < x0 then (if 0 ≤ x6 then (if (Go.bits .and .i64 (dn .i64 x1 x6) 1) = 1 then (if x5.length < 17592186044416 then (cW k x0 x1 (x5 ++ [x6]) (wrap64 (x6 + 1))) else (none)) else (cW k x0 x1 x5 (wrap64 (x6 + 1)))) else (none)) else (some x5)
def gp (k : Nat) (a0 : Int) (a1 : Int) : Option (List Int) := cW k a0 a1 (([] : List Int)) 0
theorem o0 (k : Nat) (a0 : Int) (a1 : Int) (r : List Int) (w : World) (h : gp k a0 a1 = some r) :
 Calls Tryz.prog 43 #[.int .i64 a0, .int .i64 a1] w fun e w' => ∃ v0_ : Value, e = .returned (v0_) ∧ Kd.R (Kd.int .i64) 3 w' w.heap.size (fun _ => True) v0_ r ∧ Below w.heap.size w w' := by
 have HB := zM (Below.refl w.heap.size w)
 have H := h
 unfold gp at H
 clear h
 obtain ⟨y170, hy170⟩ : ∃ y_ : List Int, y_ = (([] : List Int)) := ⟨_, rfl⟩
 replace H : (cW k a0 a1 y170 0) = some r := by first | (rw [hy170]; with_reducible exact H) | (have H2_ := (Option.bind_some _ _).symm.trans H; rw [hy170]; with_reducible exact H2_) | (have H2_ := (Option.bind_some _ _).symm.trans H; with_reducible exact H2_) | with_reducible exact H | (rw [hy170]; exact H) | exact H
 have Ny170 := Aside0.mk hy170
 clear hy170
 have H' := Aside0.mk H
 clear H
 go_enter Tryz.func43, Tryz.ntmps43
 go_wp2_with (first | ((with_reducible refine au (N := 7) rfl ?_); refine Kd.R_lit (Kd.int .i64) _ 3 ?hg (N := 7) ?hd (xs := ([] : List Int)) (inner := []) (ok := fun _ => True) (okp := fun _ => True) ?hr ?hp (fun _ hk => hk) trivial (Below.refl _ _) (ar _) (by simp) ?_; (case hd => rfl); (case hg => rfl); (case hr => first | (go_simp; done) | (go_simp; rfl)); (case hp => exact (Reps.none _ _)); intro v171 w3 ho4 hb hg_ hnew_; clear hg_ hnew_; (first | rw [← Ny170.out] at ho4 | (simp only [Int.reduceToNat] at ho4; rw [← Ny170.out] at ho4)); have HO172 := zM (Kd.R_lower ho4 (am zB)); replace HB := zM (ag zB hb); clear hb ho4))
 go_loopg [5, 6] k (fun kq v5 v6 w' => ∃ (x5_1 : List Int) (x6_1 : Int), v6 = .int .i64 x6_1 ∧ Aside0 (cW kq a0 a1 x5_1 x6_1 = some r) ∧ Aside0 (kq ≤ k) ∧ Aside0 (Kd.R (Kd.int .i64) 3 w' w.heap.size (fun _ => True) v5 x5_1) ∧ Aside0 (Below w.heap.size w w'))
 case atStart => exact ⟨(y170), (0), (by first | rfl | (simp; done) | (simp [*]; done)), H', ⟨ar _⟩, ⟨zR HO172.out⟩, ⟨zB⟩⟩
 case round =>
  clear H'
  try clear p2
  try clear c4
  obtain ⟨x5_1, x6_1, rfl, HA, HK1, HO_5, HB⟩ := hrel
  cases gk with
  | zero => exact absurd HA.out (by simp [cW])
  | succ k1 =>
   have H := HA.out
   clear HA
   simp only [cW] at H
   by_cases c5 : x6_1 < a0
   · rw [if_pos c5] at H
     have c5b0 := af c5
     clear c5
     by_cases c6 : 0 ≤ x6_1
     case neg => rw [if_neg c6] at H; simp at H
     rw [if_pos c6] at H
     have c6b0 := eq_true c6
     have c6b1 : decide (0 ≤ x6_1) = true := af c6
     clear c6
     obtain ⟨ji7, hji7⟩ : ∃ j_ : Int, (dn .i64 a1 x6_1) = j_ := ⟨_, rfl⟩
     replace H : (if (Go.bits .and .i64 (ji7) 1) = 1 then (if x5_1.length < 17592186044416 then (cW k1 a0 a1 (x5_1 ++ [x6_1]) (wrap64 (x6_1 + 1))) else (none)) else (cW k1 a0 a1 x5_1 (wrap64 (x6_1 + 1)))) = some r := by first | (rw [hji7] at H; exact H) | (simp only [hji7] at H ⊢; exact H)
     have hji7_ : (a1 / 2 ^ min x6_1.toNat 64) = ji7 := hji7
     have hji7z : x6_1 ≤ 64 → (a1 / 2 ^ x6_1.toNat) = ji7 := jW hji7
     by_cases c8 : (Go.bits .and .i64 (ji7) 1) = 1
     · rw [if_pos c8] at H
       have c8b0 : ((Go.bits .and .i64 (ji7) 1) == 1) = true := beq_iff_eq.mpr c8
       have c8b1 : ((Go.bits .and .i64 (ji7) 1) != 1) = false := bne_eq_false_iff_eq.mpr c8
       clear c8
       by_cases c9 : x5_1.length < 17592186044416
       case neg => rw [if_neg c9] at H; simp at H
       rw [if_pos c9] at H
       have LMc9 := Aside0.mk c9
       clear c9
       obtain ⟨y173, hy173⟩ : ∃ y_ : List Int, y_ = (x5_1 ++ [x6_1]) := ⟨_, rfl⟩
       replace H : (cW k1 a0 a1 y173 (wrap64 (x6_1 + 1))) = some r := by first | (rw [hy173]; with_reducible exact H) | (have H2_ := (Option.bind_some _ _).symm.trans H; rw [hy173]; with_reducible exact H2_) | (have H2_ := (Option.bind_some _ _).symm.trans H; with_reducible exact H2_) | with_reducible exact H | (rw [hy173]; exact H) | exact H
       have Ny173 := Aside0.mk hy173
       clear hy173
       have H' := Aside0.mk H
       clear H
       go_wp2_with (first | ((with_reducible refine cJ (b := .append) (xs := #[.tmp 18, .tmp 20]) rfl ?_); at_builtin; refine Kd.R_append (Kd.int .i64) (w0 := w) w.heap.size rfl (.tmp 18) (.tmp 20) 25 3 (.int .i64 0) 8 rfl Tryz.underlying25 bv rfl (by decide) (by omega) u5 x5_1 x6_1 [.int .i64 x6_1] (fun _ => True) (fun _ => False) rfl rfl ?aP (fun _ hk => hk.elim) ?aF ?aO ?aB ?aS ?aL ?_; (case aP => exact rfl); (case aB => exact zB); (case aF => exact (fun _ _ => trivial)); (case aO => exact (zR HO_5.out)); (case aS => exact (am zB)); (case aL => have := LMc9.out; omega); intro v174 w10 ho hb hg hat; rw [← Ny173.out] at ho; replace HB := zM (hb); have HO175 := zM (ho); clear HO_5; clear ho hb hg hat))
       go_roundg k1
       case measure => have := HK1.out; omega
       case rel => exact ⟨(y173), (wrap64 (x6_1 + 1)), (by first | rfl | (simp; done) | (simp [*]; done)), H', ⟨by have := HK1.out; omega⟩, ⟨zR HO175.out⟩, ⟨zB⟩⟩
     · rw [if_neg c8] at H
       have c8b0 : ((Go.bits .and .i64 (ji7) 1) == 1) = false := beq_eq_false_iff_ne.mpr c8
       have c8b1 : ((Go.bits .and .i64 (ji7) 1) != 1) = true := bne_iff_ne.mpr c8
       have H' := Aside0.mk H
       clear H
       go_wp2
       go_roundg k1
       case measure => have := HK1.out; omega
       case rel => exact ⟨(x5_1), (wrap64 (x6_1 + 1)), (by first | rfl | (simp; done) | (simp [*]; done)), H', ⟨by have := HK1.out; omega⟩, ⟨zR HO_5.out⟩, ⟨zB⟩⟩
   · rw [if_neg c5] at H
     have c5b0 : decide (x6_1 < a0) = false := ao c5
     clear c5
     obtain rfl := ap H
     go_wp2
     go_ret
     exact ⟨_, by first | rfl | (simp [al, ak] <;> rfl) | (simp [*, al, ak] <;> rfl), by (with_reducible repeat (first | apply Kd.R_alloc | apply Kd.R_drewN | apply Kd.R_drew)); exact HO_5.out, zB⟩
def eC : Nat → List (S63) → Int → Int → Int → Int → Option (Int)
 | 0, _, _, _, _, _ => none
 | k + 1, x0, x7, x8, x177000, x177001 => if x8 < x7 then (if 0 ≤ x8 then (if x8 < (x0.length : Int) then (if (x177000 == ((aa x0 x8).f0) && (x177001 == ((aa x0 x8).f1))) = true then (some x8) else (eC k x0 x7 (wrap64 (x8 + 1)) x177000 x177001)) else (none)) else (none)) else (some (-1))
def iZ (k : Nat) (l0 : List (S63)) (a1_0 : Int) (a1_1 : Int) : Option (Int) := eC k l0 (l0.length : Int) 0 a1_0 a1_1
theorem pm (k : Nat) (A0 : Option Addr) (c0 : Nat) (l0 : List (S63)) (a1_0 : Int) (a1_1 : Int) (r : Int) (w : World) (hr0 : Kd.C k63 w A0 l0.length l0) (hc0 : l0.length ≤ c0) (h : iZ k l0 a1_0 a1_1 = some r) :
 Calls Tryz.prog 92 #[.slice A0 l0.length c0, .agg #[.int .i64 a1_0, .int .i64 a1_1]] w fun e w' => e = .returned (.int .i64 r) ∧ Below w.heap.size w w' := by
 have hu63 := Tryz.underlying63
 have HR0 := Aside0.mk hr0
 have HC0 := Aside0.mk hc0
 clear hr0 hc0
 have HB := zM (Below.refl w.heap.size w)
 have H := h
 unfold iZ at H
 clear h
 have H' := Aside0.mk H
 clear H
 go_enter Tryz.func92, Tryz.ntmps92
 go_wp2_with (first | ((with_reducible refine au (N := 3) rfl ?_); refine zb (w := w) 3 #[.int .i64 a1_0, .int .i64 a1_1] 63 zB ?_; clear HB; intro gb176 w3 HB BK176 GW176; have GE176 := GW176))
 repeat (go_quiet (first | ((with_reducible refine au (N := 3) rfl ?_); refine zb (w := w) 3 #[.int .i64 a1_0, .int .i64 a1_1] 63 zB ?_; clear HB; intro gb176 w3 HB BK176 GW176; have GE176 := GW176)); try go_wp2_with (first | ((with_reducible refine au (N := 3) rfl ?_); refine zb (w := w) 3 #[.int .i64 a1_0, .int .i64 a1_1] 63 zB ?_; clear HB; intro gb176 w3 HB BK176 GW176; have GE176 := GW176)))
 go_loopg [8] k (fun kq v8 w' => ∃ (x8_1 : Int), v8 = .int .i64 x8_1 ∧ Aside0 (eC kq l0 (l0.length : Int) x8_1 a1_0 a1_1 = some r) ∧ Aside0 (kq ≤ k) ∧ Aside0 (w'.heap[gb176]? = some (.cells #[.int .i64 a1_0, .int .i64 a1_1] 63 (0, 0))) ∧ Aside0 (Below w.heap.size w w'))
 case atStart => exact ⟨(0), (by first | rfl | (simp; done) | (simp [*]; done)), H', ⟨ar _⟩, ⟨zK BK176.out⟩, ⟨zB⟩⟩
 case round =>
  clear H'
  try clear p2
  obtain ⟨x8_1, rfl, HA, HK1, BK176, HB⟩ := hrel
  cases gk with
  | zero => exact absurd HA.out (by simp [eC])
  | succ k1 =>
   have H := HA.out
   clear HA
   simp only [eC] at H
   by_cases c4 : x8_1 < (l0.length : Int)
   · rw [if_pos c4] at H
     have c4b0 := af c4
     clear c4
     by_cases c5 : 0 ≤ x8_1
     case neg => rw [if_neg c5] at H; simp at H
     rw [if_pos c5] at H
     have c5b0 := af c5
     clear c5
     by_cases c6 : x8_1 < (l0.length : Int)
     case neg => rw [if_neg c6] at H; simp at H
     rw [if_pos c6] at H
     have c6b0 := af c6
     clear c6
     by_cases c7 : (a1_0 == ((aa l0 x8_1).f0) && (a1_1 == ((aa l0 x8_1).f1))) = true
     · rw [if_pos c7] at H
       have c7b0 : (a1_0 == ((aa l0 x8_1).f0) && (a1_1 == ((aa l0 x8_1).f1))) = true := c7
       (try (have c7b1 : decide (a1_0 = ((aa l0 x8_1).f0) && (a1_1 == ((aa l0 x8_1).f1))) = true := by simpa using c7))
       (try (have c7b2 : (a1_0 == ((aa l0 x8_1).f0) && (a1_1 == ((aa l0 x8_1).f1))) = true := by simpa using c7))
       clear c7
       obtain rfl := ap H
       have hcz8_0 := zy BK176 0
       have hcz8_1 := zy BK176 1
       have hfz8_0 := ae BK176.out 0
       have hfz8_1 := ae BK176.out 1
       have p177 : 0 ≤ (x8_1 : Int) := ac zA
       have q177 : x8_1 < (l0.length : Int) := ac zA
       obtain ⟨ad177, e177, hx177_0, hx177_1⟩ := bp HR0.out x8_1 p177 q177
       cases e177
       (try replace hx177_0 := (HB.out.cell (aj w _ hx177_0)).trans hx177_0)
       (try replace hx177_1 := (HB.out.cell (aj w _ hx177_1)).trans hx177_1)
       replace p177 := eq_true p177
       replace q177 := eq_true q177
       go_wp2
       repeat (go_quiet (fail); try go_wp2)
       go_ret
       exact ⟨by first | rfl | (simp [al, ak] <;> rfl) | (simp [*, al, ak] <;> rfl), zB⟩
     · rw [if_neg c7] at H
       have c7b0 : (a1_0 == ((aa l0 x8_1).f0) && (a1_1 == ((aa l0 x8_1).f1))) = false := by simpa using c7
       (try (have c7b1 : decide (a1_0 = ((aa l0 x8_1).f0) && (a1_1 == ((aa l0 x8_1).f1))) = false := by simpa using c7))
       (try (have c7b2 : (a1_0 == ((aa l0 x8_1).f0) && (a1_1 == ((aa l0 x8_1).f1))) = false := by simpa using c7))
       (try (have c7b3 : ¬ (a1_0 = ((aa l0 x8_1).f0) && (a1_1 == ((aa l0 x8_1).f1))) := by simpa using c7))
       clear c7
       have H' := Aside0.mk H
       clear H
       have hcz9_0 := zy BK176 0
       have hcz9_1 := zy BK176 1
       have hfz9_0 := ae BK176.out 0
       have hfz9_1 := ae BK176.out 1
       have p177 : 0 ≤ (x8_1 : Int) := ac zA
       have q177 : x8_1 < (l0.length : Int) := ac zA
       obtain ⟨ad177, e177, hx177_0, hx177_1⟩ := bp HR0.out x8_1 p177 q177
       cases e177
       (try replace hx177_0 := (HB.out.cell (aj w _ hx177_0)).trans hx177_0)
       (try replace hx177_1 := (HB.out.cell (aj w _ hx177_1)).trans hx177_1)
       replace p177 := eq_true p177
       replace q177 := eq_true q177
       go_wp2
       repeat (go_quiet (fail); try go_wp2)
       go_roundg k1
       case measure => have := HK1.out; omega
       case rel => exact ⟨(wrap64 (x8_1 + 1)), (by first | rfl | (simp; done) | (simp [*]; done)), H', ⟨by have := HK1.out; omega⟩, ⟨zK BK176.out⟩, ⟨zB⟩⟩
   · rw [if_neg c4] at H
     have c4b0 : decide (x8_1 < (l0.length : Int)) = false := ao c4
     clear c4
     obtain rfl := ap H
     go_wp2
     repeat (go_quiet (fail); try go_wp2)
     go_ret
     exact ⟨by first | rfl | (simp [al, ak] <;> rfl) | (simp [*, al, ak] <;> rfl), zB⟩
def i3 (k : Nat) (l0 : List (S63)) (a1_0 : Int) (a1_1 : Int) : Option (Bool) := (iZ k l0 a1_0 a1_1).bind fun t179 => (some (decide (t179 ≥ 0)))
theorem pn (k : Nat) (A0 : Option Addr) (c0 : Nat) (l0 : List (S63)) (a1_0 : Int) (a1_1 : Int) (r : Bool) (w : World) (hr0 : Kd.C k63 w A0 l0.length l0) (hc0 : l0.length ≤ c0) (h : i3 k l0 a1_0 a1_1 = some r) :
 Calls Tryz.prog 76 #[.slice A0 l0.length c0, .agg #[.int .i64 a1_0, .int .i64 a1_1]] w fun e w' => e = .returned (.bool r) ∧ Below w.heap.size w w' := by
 have hu63 := Tryz.underlying63
 have HR0 := Aside0.mk hr0
 have HC0 := Aside0.mk hc0
 clear hr0 hc0
 have HB := zM (Below.refl w.heap.size w)
 have H := h
 unfold i3 at H
 clear h
 replace H := av H
 obtain ⟨t179, A30, H⟩ := H
 have A3 := Aside0.mk A30
 clear A30
 obtain rfl := ap H
 go_enter Tryz.func76, Tryz.ntmps76
 go_wp2_with (first | ((with_reducible refine au (N := 3) rfl ?_); refine zb (w := w) 3 #[.int .i64 a1_0, .int .i64 a1_1] 63 zB ?_; clear HB; intro gb178 w4 HB BK178 GW178; have GE178 := GW178; have hcz5_0 := zy BK178 0; have hcz5_1 := zy BK178 1; have hfz5_0 := ae BK178.out 0; have hfz5_1 := ae BK178.out 1) | ((with_reducible refine ax (f := 92) rfl ?_); refine zc 7 Tryz.func92 #[.slice A0 l0.length c0, .agg #[.int .i64 a1_0, .int .i64 a1_1]] ?_; (with_reducible refine (pm k _ _ l0 a1_0 a1_1 t179 _ ?side1 ?side2 A3.out).mono ?_); (case side1 => exact zC (Kd.C_below HR0.out HB.out)); (case side2 => exact HC0.out); rintro e w6 ⟨rfl, hb⟩; refine ⟨_, rfl, ?_⟩; replace BK178 := zJ BK178 hb; replace HB := zM (ag zB hb); (try clear hb); (try clear hi)))
 go_ret
 exact ⟨by first | rfl | (simp [al, ak] <;> rfl) | (simp [*, al, ak] <;> rfl), zB⟩
attribute [local go_sem] bl bh bi bd bj bf bk bg
set_option linter.unusedVariables false
set_option linter.unusedSimpArgs false
def ko (a0 : Int) (a1 : Int) : Option (Int × Int) := some (mn a0 a1, mx a0 a1)
theorem rF (a0 : Int) (a1 : Int) (r1 : Int) (r2 : Int) (w : World) (h : ko a0 a1 = some (r1, r2)) :
 Calls Tryz.prog 77 #[.int .i64 a0, .int .i64 a1] w fun e w' => e = .returned (.agg #[.int .i64 r1, .int .i64 r2]) ∧ Below w.heap.size w w' := by
 have hu63 := Tryz.underlying63
 have HB := zM (Below.refl w.heap.size w)
 have H := h
 unfold ko at H
 clear h
 obtain ⟨ji3, hji3⟩ : ∃ j_ : Int, (mn a0 a1) = j_ := ⟨_, rfl⟩
 replace H : (some (ji3, mx a0 a1)) = some (r1, r2) := by first | (rw [hji3] at H; exact H) | (simp only [hji3] at H ⊢; exact H)
 have hji3_ : (if a1 < a0 then a1 else a0) = ji3 := hji3
 obtain ⟨ji4, hji4⟩ : ∃ j_ : Int, (mx a0 a1) = j_ := ⟨_, rfl⟩
 replace H : (some (ji3, ji4)) = some (r1, r2) := by first | (rw [hji4] at H; exact H) | (simp only [hji4] at H ⊢; exact H)
 have hji4_ : (if a0 < a1 then a1 else a0) = ji4 := hji4
 simp only [Option.some.injEq, Prod.mk.injEq] at H
 obtain ⟨rfl, rfl⟩ := H
 go_enter Tryz.func77, Tryz.ntmps77
 go_wp2_with (first | ((with_reducible refine au (N := 4) rfl ?_); refine zb (w := w) 4 #[.int .i64 0, .int .i64 0] 63 zB ?_; clear HB; intro gb180 w5 HB BK180 GW180; have GE180 := GW180; have hcz6_0 := zy BK180 0; have hcz6_1 := zy BK180 1; have hfz6_0 := ae BK180.out 0; have hfz6_1 := ae BK180.out 1))
 refine bodyPost_ret (results_cell_row rfl _ _ gb180 63 #[.int .i64 ji3, .int .i64 ji4] (0, 0) _ rfl (by (with_reducible repeat (first | refine ay ?_ _ | refine aq ?_ | refine aw ?_ _)); refine aK (cs := #[.int .i64 ji3, .int .i64 0]) ?_ 1 _ rfl; (with_reducible repeat (first | refine ay ?_ _ | refine aq ?_ | refine aw ?_ _)); refine aK (cs := #[.int .i64 0, .int .i64 0]) ?_ 0 _ rfl; (with_reducible repeat (first | refine ay ?_ _ | refine aq ?_ | refine aw ?_ _)); exact BK180.out) Tryz.underlying63 rfl (by kernel_rfl)) rfl ?_
 exact ⟨by first | rfl | (simp [al, ak] <;> rfl) | (simp only [← hji3, ← hji4]; first | rfl | (simp [al, ak] <;> rfl)) | (simp [*, al, ak] <;> rfl), zB⟩
end Go.Proofs.YtjgcehldepfaaaaGreat.P
