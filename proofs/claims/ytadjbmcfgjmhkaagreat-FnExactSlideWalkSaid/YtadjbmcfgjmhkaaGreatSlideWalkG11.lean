import Derived.Test.YtadjbmcfgjmhkaaGreatSlideWalkG5
namespace Go.Proofs.YtadjbmcfgjmhkaaGreat.P
open Go.RowKit YtadjbmcfgjmhkaaGreatW.PrintWords YtadjbmcfgjmhkaaGreatW.PrintLast YtadjbmcfgjmhkaaGreatW.PrintMore
attribute [local go_sem] aX aT aU aM aV aN aW aQ
set_option maxRecDepth 100000
set_option maxHeartbeats 8000000
set_option linter.unusedVariables false
set_option linter.unusedSimpArgs false
def dQ : Nat → Int → List Int → Int → Int → Option (Int)
 | 0, _, _, _, _ => none
 | k + 1, x3, x6, x7, x8 => if x8 < x7 then (if 0 ≤ x8 then (if x8 < (x6.length : Int) then (if 0 ≤ (rd x6 x8) then (dQ k (Go.bits .or .u64 x3 (cP .u64 1 (rd x6 x8))) x6 x7 (wrap64 (x8 + 1))) else (none)) else (none)) else (none)) else (some x3)
def fE (k : Nat) (l0 : List Int) : Option (Int) := dQ k 0 l0 (l0.length : Int) 0
theorem jD (k : Nat) (A0 : Option Addr) (c0 : Nat) (l0 : List Int) (r : Int) (w : World) (hr0 : Kd.C (Kd.int .i64) w A0 l0.length l0) (hc0 : l0.length ≤ c0) (h : fE k l0 = some r) :
 Calls Tryz.prog 74 #[.slice A0 l0.length c0] w fun e w' => e = .returned (.int .u64 r) ∧ Drawn0 w w' := by
 have HR0 := Aside0.mk hr0
 have HC0 := Aside0.mk hc0
 clear hr0 hc0
 have H := h
 unfold fE at H
 clear h
 have H' := Aside0.mk H
 clear H
 go_enter Tryz.func74, Tryz.ntmps74
 go_wp2
 go_loopg [3, 8] k (fun kq v3 v8 w' => ∃ (x3_1 : Int) (x8_1 : Int), v3 = .int .u64 x3_1 ∧ v8 = .int .i64 x8_1 ∧ Aside0 (dQ kq x3_1 l0 (l0.length : Int) x8_1 = some r) ∧ Aside0 (kq ≤ k) ∧ Drawn0 w w')
 case atStart => exact ⟨(0), (0), (by first | rfl | (simp; done) | (simp [*]; done)), (by first | rfl | (simp; done) | (simp [*]; done)), H', ⟨au _⟩, by repeat (first | exact Drawn0.refl _ | apply Drawn0.step)⟩
 case round =>
  clear H'
  obtain ⟨x3_1, x8_1, rfl, rfl, HA, HK1, ⟨m1, rfl⟩⟩ := hrel
  cases gk with
  | zero => exact absurd HA.out (by simp [dQ])
  | succ k1 =>
   have H := HA.out
   clear HA
   simp only [dQ] at H
   by_cases c2 : x8_1 < (l0.length : Int)
   · rw [if_pos c2] at H
     have c2b0 := ag c2
     clear c2
     by_cases c3 : 0 ≤ x8_1
     case neg => rw [if_neg c3] at H; simp at H
     rw [if_pos c3] at H
     have c3b0 := ag c3
     clear c3
     by_cases c4 : x8_1 < (l0.length : Int)
     case neg => rw [if_neg c4] at H; simp at H
     rw [if_pos c4] at H
     have c4b0 := ag c4
     clear c4
     by_cases c5 : 0 ≤ (rd l0 x8_1)
     case neg => rw [if_neg c5] at H; simp at H
     rw [if_pos c5] at H
     have c5b0 := eq_true c5
     have c5b1 : decide (0 ≤ (rd l0 x8_1)) = true := ag c5
     clear c5
     obtain ⟨ji6, hji6⟩ : ∃ j_ : Int, (cP .u64 1 (rd l0 x8_1)) = j_ := ⟨_, rfl⟩
     replace H : (dQ k1 (Go.bits .or .u64 x3_1 (ji6)) l0 (l0.length : Int) (wrap64 (x8_1 + 1))) = some r := by first | (rw [hji6] at H; exact H) | (simp only [hji6] at H ⊢; exact H)
     have hji6_ : (IntKind.u64.wrap (1 * 2 ^ min (rd l0 x8_1).toNat 64)) = ji6 := hji6
     have hji6z : (rd l0 x8_1) ≤ 64 → (IntKind.u64.wrap (1 * 2 ^ (rd l0 x8_1).toNat)) = ji6 := ja hji6
     have hji6u : (IntKind.u64.wrap (2 ^ min (rd l0 x8_1).toNat 64)) = ji6 := by have h_ := hji6_; rw [Int.one_mul] at h_; exact h_
     have hji6v : (rd l0 x8_1) ≤ 64 → (IntKind.u64.wrap (2 ^ (rd l0 x8_1).toNat)) = ji6 := fun hle_ => by have h_ := hji6z hle_; rw [Int.one_mul] at h_; exact h_
     have H' := Aside0.mk H
     clear H
     have p264 : 0 ≤ (x8_1 : Int) := ac zA
     have q264 : x8_1 < (l0.length : Int) := ac zA
     obtain ⟨ad264, e264, hx264_0⟩ := Kd.at_int HR0.out x8_1 p264 q264
     cases e264
     replace p264 := eq_true p264
     replace q264 := eq_true q264
     go_wp2
     go_roundg k1
     case measure => have := HK1.out; omega
     case rel => exact ⟨(Go.bits .or .u64 x3_1 (ji6)), (wrap64 (x8_1 + 1)), (by first | rfl | (simp; done) | (simp only [← hji6] <;> (first | rfl | simp)) | (simp [*]; done)), (by first | rfl | (simp; done) | (simp [*]; done)), H', ⟨by have := HK1.out; omega⟩, by repeat (first | exact Drawn0.refl _ | apply Drawn0.step)⟩
   · rw [if_neg c2] at H
     have c2b0 : decide (x8_1 < (l0.length : Int)) = false := ar c2
     clear c2
     obtain rfl := ao H
     go_wp2
     go_ret
     exact ⟨by first | rfl | (simp; done) | (simp [*]; done), by repeat (first | exact Drawn0.refl _ | apply Drawn0.step)⟩
def d3 : Nat → List Int → Int → Int → Option (Bool)
 | 0, _, _, _ => none
 | k + 1, x0, x1, x5 => if x5 < (x0.length : Int) then (if 0 ≤ x5 then (if (rd x0 x5) = x1 then (some true) else (d3 k x0 x1 (wrap64 (x5 + 1)))) else (none)) else (some false)
def f9 (k : Nat) (l0 : List Int) (a1 : Int) : Option (Bool) := d3 k l0 a1 0
theorem kN (k : Nat) (A0 : Option Addr) (c0 : Nat) (l0 : List Int) (a1 : Int) (r : Bool) (w : World) (hr0 : Kd.C (Kd.int .i64) w A0 l0.length l0) (hc0 : l0.length ≤ c0) (h : f9 k l0 a1 = some r) :
 Calls Tryz.prog 95 #[.slice A0 l0.length c0, .int .i64 a1] w fun e w' => e = .returned (.bool r) ∧ Drawn0 w w' := by
 have HR0 := Aside0.mk hr0
 have HC0 := Aside0.mk hc0
 clear hr0 hc0
 have H := h
 unfold f9 at H
 clear h
 have H' := Aside0.mk H
 clear H
 go_enter Tryz.func95, Tryz.ntmps95
 go_wp2
 go_loopg [5] k (fun kq v5 w' => ∃ (x5_1 : Int), v5 = .int .i64 x5_1 ∧ Aside0 (d3 kq l0 a1 x5_1 = some r) ∧ Aside0 (kq ≤ k) ∧ Drawn0 w w')
 case atStart => exact ⟨(0), (by first | rfl | (simp; done) | (simp [*]; done)), H', ⟨au _⟩, by repeat (first | exact Drawn0.refl _ | apply Drawn0.step)⟩
 case round =>
  clear H'
  try clear p2
  obtain ⟨x5_1, rfl, HA, HK1, ⟨m1, rfl⟩⟩ := hrel
  cases gk with
  | zero => exact absurd HA.out (by simp [d3])
  | succ k1 =>
   have H := HA.out
   clear HA
   simp only [d3] at H
   by_cases c3 : x5_1 < (l0.length : Int)
   · rw [if_pos c3] at H
     have c3b0 := ag c3
     clear c3
     by_cases c4 : 0 ≤ x5_1
     case neg => rw [if_neg c4] at H; simp at H
     rw [if_pos c4] at H
     have c4b0 := ag c4
     clear c4
     by_cases c5 : (rd l0 x5_1) = a1
     · rw [if_pos c5] at H
       have c5b0 : ((rd l0 x5_1) == a1) = true := beq_iff_eq.mpr c5
       have c5b1 : ((rd l0 x5_1) != a1) = false := bne_eq_false_iff_eq.mpr c5
       clear c5
       obtain rfl := ao H
       have p265 : 0 ≤ (x5_1 : Int) := ac zA
       have q265 : x5_1 < (l0.length : Int) := ac zA
       obtain ⟨ad265, e265, hx265_0⟩ := Kd.at_int HR0.out x5_1 p265 q265
       cases e265
       replace p265 := eq_true p265
       replace q265 := eq_true q265
       go_wp2
       go_ret
       exact ⟨by first | rfl | (simp; done) | (simp [*]; done), by repeat (first | exact Drawn0.refl _ | apply Drawn0.step)⟩
     · rw [if_neg c5] at H
       have c5b0 : ((rd l0 x5_1) == a1) = false := beq_eq_false_iff_ne.mpr c5
       have c5b1 : ((rd l0 x5_1) != a1) = true := bne_iff_ne.mpr c5
       have H' := Aside0.mk H
       clear H
       have p265 : 0 ≤ (x5_1 : Int) := ac zA
       have q265 : x5_1 < (l0.length : Int) := ac zA
       obtain ⟨ad265, e265, hx265_0⟩ := Kd.at_int HR0.out x5_1 p265 q265
       cases e265
       replace p265 := eq_true p265
       replace q265 := eq_true q265
       go_wp2
       go_roundg k1
       case measure => have := HK1.out; omega
       case rel => exact ⟨(wrap64 (x5_1 + 1)), (by first | rfl | (simp; done) | (simp [*]; done)), H', ⟨by have := HK1.out; omega⟩, by repeat (first | exact Drawn0.refl _ | apply Drawn0.step)⟩
   · rw [if_neg c3] at H
     have c3b0 : decide (x5_1 < (l0.length : Int)) = false := ar c3
     clear c3
     obtain rfl := ao H
     go_wp2
     go_ret
     exact ⟨by first | rfl | (simp; done) | (simp [*]; done), by repeat (first | exact Drawn0.refl _ | apply Drawn0.step)⟩
attribute [local go_sem] aX aT aU aM aV aN aW aQ
set_option linter.unusedVariables false
set_option linter.unusedSimpArgs false
mutual
def cX : Nat → List (List Int) → Int → List Int → Int → Option (List Int)
 | 0, _, _, _, _ => none
 | k + 1, x0, x1, x5, x6 => if x6 < (x5.length : Int) then (if 0 ≤ x6 then (cX k x0 x1 (x5.set (x6 : Int).toNat (-1)) (wrap64 (x6 + 1))) else (none)) else (if 0 ≤ x1 then (if x1 < (x5.length : Int) then (cL k x0 (x5.set (x1 : Int).toNat 0) (([x1] : List Int)) 0) else (none)) else (none))
def cL : Nat → List (List Int) → List Int → List Int → Int → Option (List Int)
 | 0, _, _, _, _ => none
 | k + 1, x0, x5, x7, x8 => if x8 < (x7.length : Int) then (if 0 ≤ x8 then (if 0 ≤ (rd x7 x8) then (if (rd x7 x8) < (x0.length : Int) then (cK k x0 x5 x7 x8 (af x0 (rd x7 x8)) 0) else (none)) else (none)) else (none)) else (some x5)
def cK : Nat → List (List Int) → List Int → List Int → Int → List Int → Int → Option (List Int)
 | 0, _, _, _, _, _, _ => none
 | k + 1, x0, x5, x7, x8, x9, x10 => if x10 < (x9.length : Int) then (if 0 ≤ x10 then (if 0 ≤ (rd x9 x10) then (if (rd x9 x10) < (x5.length : Int) then (if (rd x5 (rd x9 x10)) < 0 then (if 0 ≤ x8 then (if x8 < (x7.length : Int) then (if 0 ≤ (rd x7 x8) then (if (rd x7 x8) < (x5.length : Int) then (if x7.length < 17592186044416 then (cK k x0 (x5.set ((rd x9 x10) : Int).toNat (wrap64 ((rd x5 (rd x7 x8)) + 1))) (x7 ++ [rd x9 x10]) x8 x9 (wrap64 (x10 + 1))) else (none)) else (none)) else (none)) else (none)) else (none)) else (cK k x0 x5 x7 x8 x9 (wrap64 (x10 + 1)))) else (none)) else (none)) else (none)) else (cL k x0 x5 x7 (wrap64 (x8 + 1)))
end
def fZ (k : Nat) (l0 : List (List Int)) (a1 : Int) : Option (List Int) := if 0 ≤ (l0.length : Int) then (if ((l0.length : Int) : Int).toNat ≤ 35184372088832 then (cX k l0 a1 (List.replicate ((l0.length : Int) : Int).toNat 0) 0) else (none)) else (none)
def spec_l2Spread.T16 : Bool × List (List Nat × List Nat) := (true, [([], []), ([], []), ([], []), ([1, 2], [1, 2]), ([3], [3]), ([], []), ([], []), ([], []), ([6, 7], [6, 7]), ([8], [8]), ([5, 9], [5, 9]), ([10], [10]), ([11], [11]), ([0, 4, 0, 1, 2, 3, 4, 5, 6, 7, 8, 9, 10, 11, 12], [0, 4]), ([13, 12, 0, 1, 2, 3, 4, 5, 6, 7, 8, 9, 10, 11, 12], [12, 13])])
def nT : List Nat := [0, 0, 0, 6, 14, 0, 0, 0, 192, 448, 992, 2016, 4064, 8191, 16383]
theorem nR : aG .any (bP Tryz.f71 16) = spec_l2Spread.T16 := by kernel_rfl
theorem nS : bC spec_l2Spread.T16.2 nT = true := by kernel_rfl
theorem fc (k : Nat) (A0 : Option Addr) (c0 : Nat) (l0 : List (List Int)) (a1 : Int) (r : List Int) (w : World) (hr0 : Kd.C (Kd.slice 3 (Kd.int .i64)) w A0 l0.length l0) (hc0 : l0.length ≤ c0) (h : fZ k l0 a1 = some r) :
 Calls Tryz.prog 71 #[.slice A0 l0.length c0, .int .i64 a1] w fun e w' => ∃ v0_ : Value, e = .returned (v0_) ∧ Kd.R (Kd.int .i64) 3 w' w.heap.size (fun _ => True) v0_ r ∧ Below w.heap.size w w' := by
 have HR0 := Aside0.mk hr0
 have HC0 := Aside0.mk hc0
 clear hr0 hc0
 have HB := zM (Below.refl w.heap.size w)
 have H := h
 unfold fZ at H
 clear h
 by_cases c3 : 0 ≤ (l0.length : Int)
 case neg => rw [if_neg c3] at H; simp at H
 rw [if_pos c3] at H
 have c3b0 := eq_true c3
 have c3b1 : decide (0 ≤ (l0.length : Int)) = true := ag c3
 clear c3
 by_cases c4 : ((l0.length : Int) : Int).toNat ≤ 35184372088832
 case neg => rw [if_neg c4] at H; simp at H
 rw [if_pos c4] at H
 have c4b0 := eq_true c4
 have c4b1 : decide (((l0.length : Int) : Int).toNat ≤ 35184372088832) = true := ag c4
 clear c4
 obtain ⟨y344, hy344⟩ : ∃ y_ : List Int, y_ = (List.replicate ((l0.length : Int) : Int).toNat 0) := ⟨_, rfl⟩
 replace H : (cX k l0 a1 y344 0) = some r := by first | (rw [hy344]; with_reducible exact H) | (have H2_ := (Option.bind_some _ _).symm.trans H; rw [hy344]; with_reducible exact H2_) | (have H2_ := (Option.bind_some _ _).symm.trans H; with_reducible exact H2_) | with_reducible exact H | (rw [hy344]; exact H) | exact H
 have Ny344 := Aside0.mk hy344
 clear hy344
 have H' := Aside0.mk H
 clear H
 go_enter Tryz.func71, Tryz.ntmps71
 go_wp2_with (first | ((with_reducible refine ap (N := 13) rfl ?_); refine Kd.R_make (Kd.int .i64) _ 3 rfl (N := 13) rfl 25 _ _ rfl (l0.length : Int) rfl rfl Tryz.underlying25 (.int .i64 0) 8 bq rfl (by decide) (by omega) 0 (ok := fun _ => True) (okp := fun _ => True) rfl (fun _ hk => hk) trivial (ac zA) (Nat.le_trans (Nat.mul_le_mul_right _ (ac zA : (l0.length : Int).toNat ≤ 35184372088832)) (by omega)) (Below.refl _ _) (au _) ?_; intro v345 w5 ho6 hb hg_ hnew_; clear hg_ hnew_; (first | rw [← Ny344.out] at ho6 | (simp only [Int.reduceToNat] at ho6; rw [← Ny344.out] at ho6)); have HO346 := zM (Kd.R_lower ho6 (ai zB)); replace HB := zM (ah zB hb); clear hb ho6))
 go_loopg [6] k (fun kq v6 w' => ∃ (x5_1 : List Int) (x6_1 : Int), v6 = .int .i64 x6_1 ∧ Aside0 (cX kq l0 a1 x5_1 x6_1 = some r) ∧ Aside0 (kq ≤ k) ∧ Aside0 (Kd.R (Kd.int .i64) 3 w' w.heap.size (fun _ => True) v345 x5_1) ∧ Aside0 (Below w.heap.size w w'))
 case atStart => exact ⟨(y344), (0), (by first | rfl | (simp; done) | (simp [*]; done)), H', ⟨au _⟩, ⟨zR HO346.out⟩, ⟨zB⟩⟩
 case round =>
  clear H'
  try clear p2
  try clear c3
  try clear c3b0
  try clear c3b1
  try clear c4
  try clear c4b0
  try clear c4b1
  obtain ⟨x5_1, x6_1, rfl, HA, HK1, HO_5, HB⟩ := hrel
  cases gk with
  | zero => exact absurd HA.out (by simp [cX])
  | succ k1 =>
   have H := HA.out
   clear HA
   simp only [cX] at H
   by_cases c7 : x6_1 < (x5_1.length : Int)
   · rw [if_pos c7] at H
     have c7b0 := ag c7
     clear c7
     by_cases c8 : 0 ≤ x6_1
     case neg => rw [if_neg c8] at H; simp at H
     rw [if_pos c8] at H
     have c8b0 := ag c8
     clear c8
     obtain ⟨y347, hy347⟩ : ∃ y_ : List Int, y_ = (x5_1.set (x6_1 : Int).toNat (-1)) := ⟨_, rfl⟩
     replace H : (cX k1 l0 a1 y347 (wrap64 (x6_1 + 1))) = some r := by first | (rw [hy347]; with_reducible exact H) | (have H2_ := (Option.bind_some _ _).symm.trans H; rw [hy347]; with_reducible exact H2_) | (have H2_ := (Option.bind_some _ _).symm.trans H; with_reducible exact H2_) | with_reducible exact H | (rw [hy347]; exact H) | exact H
     have Ny347 := Aside0.mk hy347
     clear hy347
     have H' := Aside0.mk H
     clear H
     obtain ⟨Ao10, co10, eo10⟩ := Kd.R_slice HO_5.out
     subst eo10
     have p9 : 0 ≤ (x6_1 : Int) := ac zA
     have q9 : (x6_1 : Int) < ((x5_1.length : Int) : Int) := ac zA
     obtain ⟨go9, co9, eo9, gb9, gl9, cl9, HG9⟩ := Kd.R_form HO_5.out (by omega)
     (first | cases eo9 | (injection eo9 with ea_ en_ ec_; (first | subst ea_ | (injection ea_ with ea_; subst ea_)); subst ec_; clear en_))
     have GB9 := Aside0.mk gb9
     have GG9 := Aside0.mk HG9
     clear gb9 gl9 HG9
     obtain ⟨hx9_0, hf9_0⟩ := Kd.R_celln 0 HO_5.out (x6_1 : Int) p9 q9
     replace p9 := eq_true p9
     replace q9 := eq_true q9
     have HP11 := Kd.R_putg HO_5.out (x6_1 : Int) (-1)
     go_wp2_with (first | ((with_reducible refine cG (t := 3) (p := 22) rfl ?_); refine cx (t := 3) (p := 22) (v := ?vo_w12) (w1 := (wr.setCell ⟨go9, (x6_1 : Int).toNat, none⟩ (.int .i64 (-1)))) ?hg ?ho ?hn ?hr ?_; (case ho => rfl); (case hg => rfl); (case hn => rfl); (case hr => first | (go_simp; done) | (go_simp; rfl)); intro w12 hw; have hg : wr.grownBy w12 (some go9) := (by rw [hw]; exact HP11.2); have hp_ : Kd.R (Kd.int .i64) 3 w12 w.heap.size (fun _ => True) (.slice (some ⟨go9, 0, none⟩) x5_1.length co10) y347 := (by rw [hw, Ny347.out]; exact HP11.1); clear HP11; replace HO_5 := zM (hp_); replace HB := zM ((by rw [hw]; exact bz (HB.out) GB9.out : Below w.heap.size w w12)); clear hg hw hp_))
     go_roundg k1
     case measure => have := HK1.out; omega
     case rel => exact ⟨(y347), (wrap64 (x6_1 + 1)), (by first | rfl | (simp; done) | (simp [*]; done)), H', ⟨by have := HK1.out; omega⟩, ⟨zR HO_5.out⟩, ⟨zB⟩⟩
   · rw [if_neg c7] at H
     have c7b0 : decide (x6_1 < (x5_1.length : Int)) = false := ar c7
     clear c7
     obtain ⟨y348, hy348⟩ : ∃ y_ : List Int, y_ = (([a1] : List Int)) := ⟨_, rfl⟩
     replace H : (if 0 ≤ a1 then (if a1 < (x5_1.length : Int) then (cL k1 l0 (x5_1.set (a1 : Int).toNat 0) y348 0) else (none)) else (none)) = some r := by first | (rw [hy348]; with_reducible exact H) | (have H2_ := (Option.bind_some _ _).symm.trans H; rw [hy348]; with_reducible exact H2_) | (have H2_ := (Option.bind_some _ _).symm.trans H; with_reducible exact H2_) | with_reducible exact H | (rw [hy348]; exact H) | exact H
     have Ny348 := Aside0.mk hy348
     clear hy348
     by_cases c13 : 0 ≤ a1
     case neg => rw [if_neg c13] at H; simp at H
     rw [if_pos c13] at H
     have c13b0 := ag c13
     clear c13
     by_cases c14 : a1 < (x5_1.length : Int)
     case neg => rw [if_neg c14] at H; simp at H
     rw [if_pos c14] at H
     have c14b0 := ag c14
     clear c14
     obtain ⟨y351, hy351⟩ : ∃ y_ : List Int, y_ = (x5_1.set (a1 : Int).toNat 0) := ⟨_, rfl⟩
     replace H : (cL k1 l0 y351 y348 0) = some r := by first | (rw [hy351]; with_reducible exact H) | (have H2_ := (Option.bind_some _ _).symm.trans H; rw [hy351]; with_reducible exact H2_) | (have H2_ := (Option.bind_some _ _).symm.trans H; with_reducible exact H2_) | with_reducible exact H | (rw [hy351]; exact H) | exact H
     have Ny351 := Aside0.mk hy351
     clear hy351
     have H' := Aside0.mk H
     clear H
     obtain ⟨Ao16, co16, eo16⟩ := Kd.R_slice HO_5.out
     subst eo16
     go_wp2_with (first | ((with_reducible refine ap (N := 24) rfl ?_); refine Kd.R_lit (Kd.int .i64) _ 3 ?hg (N := 24) ?hd (xs := ([a1] : List Int)) (inner := [.int .i64 a1]) (ok := fun _ => True) (okp := fun _ => True) ?hr ?hp (fun _ hk => hk) trivial (Below.refl _ _) (au _) (by simp) ?_; (case hd => rfl); (case hg => rfl); (case hr => first | (go_simp; done) | (go_simp; rfl)); (case hp => exact (Reps.one (show Kd.M (Kd.int .i64) _ _ _ a1 [.int .i64 a1] from rfl) (Reps.none _ _))); intro v349 w17 ho18 hb hg_ hnew_; clear hg_ hnew_; (first | rw [← Ny348.out] at ho18 | (simp only [Int.reduceToNat] at ho18; rw [← Ny348.out] at ho18)); have HO350 := zM (Kd.R_lower (Kd.R_new' ho18 (Kd.R_lt (zR HO_5.out))) (ai zB)); replace HO_5 := zM (Kd.R_elder' (zR HO_5.out) (Kd.R_base ho18) hb); replace HB := zM (ah zB hb); clear hb ho18; have p15 : 0 ≤ (a1 : Int) := ac zA; have q15 : (a1 : Int) < ((x5_1.length : Int) : Int) := ac zA; obtain ⟨go15, co15, eo15, gb15, gl15, cl15, HG15⟩ := Kd.R_form HO_5.out (by omega); (first | cases eo15 | (injection eo15 with ea_ en_ ec_; (first | subst ea_ | (injection ea_ with ea_; subst ea_)); subst ec_; clear en_)); have GB15 := Aside0.mk gb15; have GG15 := Aside0.mk HG15; clear gb15 gl15 HG15; obtain ⟨hx15_0, hf15_0⟩ := Kd.R_celln 0 HO_5.out (a1 : Int) p15 q15; replace p15 := eq_true p15; replace q15 := eq_true q15; have n_ := zM (Kd.R_mono (ok' := (fun k_ => some k_ ≠ (v349 : Value).ownBlock)) HO_5.out (fun k_ hk => hk.2)); clear HO_5; have HO_5 := n_; clear n_; obtain ⟨hy19_, hz19_⟩ := Kd.R_celln 0 HO_5.out (a1 : Int) (ac zA) (ac zA); have HP19 := Kd.R_putg HO_5.out (a1 : Int) 0) | ((with_reducible refine cG (t := 3) (p := 27) rfl ?_); refine cx (t := 3) (p := 27) (v := ?vo_w20) (w1 := (w17.setCell ⟨go15, (a1 : Int).toNat, none⟩ (.int .i64 0))) ?hg ?ho ?hn ?hr ?_; (case ho => rfl); (case hg => rfl); (case hn => rfl); (case hr => first | (go_simp; done) | (go_simp; rfl)); intro w20 hw; have hg : w17.grownBy w20 (some go15) := (by rw [hw]; exact HP19.2); have hp_ : Kd.R (Kd.int .i64) 3 w20 w.heap.size (fun k_ => some k_ ≠ (v349 : Value).ownBlock) (.slice (some ⟨go15, 0, none⟩) x5_1.length co16) y351 := (by rw [hw, Ny351.out]; exact HP19.1); clear HP19; replace HO_5 := zM (hp_); replace HO350 := zM (Kd.R_after (v := (.slice (some ⟨go15, 0, none⟩) x5_1.length co16)) (v1 := (.slice (some ⟨go15, 0, none⟩) x5_1.length co16)) (ok := (fun _ => True)) (zR HO350.out) hg (.inl rfl)); replace HB := zM ((by rw [hw]; exact bz (HB.out) GB15.out : Below w.heap.size w w20)); clear hg hw hp_))
     go_loopg [7, 8] k1 (fun kq v7 v8 w' => ∃ (x5_2 : List Int) (x7_2 : List Int) (x8_2 : Int), v8 = .int .i64 x8_2 ∧ Aside0 (cL kq l0 x5_2 x7_2 x8_2 = some r) ∧ Aside0 (kq ≤ k1) ∧ Aside0 (Kd.R (Kd.int .i64) 3 w' w.heap.size (fun k_ => some k_ ≠ (v7 : Value).ownBlock) (.slice (some ⟨go15, 0, none⟩) x5_1.length co16) x5_2) ∧ Aside0 (Kd.R (Kd.int .i64) 3 w' w.heap.size (fun k_ => some k_ ≠ ((.slice (some ⟨go15, 0, none⟩) x5_1.length co16) : Value).ownBlock) v7 x7_2) ∧ Aside0 (Below w.heap.size w w'))
     case atStart => exact ⟨(y351), (y348), (0), (by first | rfl | (simp; done) | (simp [*]; done)), H', ⟨au _⟩, ⟨zR HO_5.out⟩, ⟨by (with_reducible repeat (first | apply Kd.R_alloc | apply Kd.R_drewN | apply Kd.R_drew)); exact Kd.R_mono HO350.out (fun _ hk => hk.2)⟩, ⟨zB⟩⟩
     case round =>
      clear H'
      try clear c1
      try clear p1
      try clear q1
      try clear hx1
      try clear p2
      try clear c3
      try clear c3b0
      try clear c3b1
      try clear c4
      try clear c4b0
      try clear c4b1
      try clear p6
      try clear c7
      try clear c7b0
      try clear c8
      try clear c8b0
      try clear p9
      try clear q9
      try clear hx9
      try clear hf9
      try clear c13
      try clear c13b0
      try clear c14
      try clear c14b0
      try clear p15
      try clear q15
      try clear hx15
      try clear hf15
      try clear hx15_0
      try clear hx9_0
      try clear p15
      try clear p2
      try clear p9
      try clear q15
      try clear q9
      obtain ⟨x5_2, x7_2, x8_2, rfl, HA, HK2, HO_5, HO_7, HB⟩ := hrel
      have hl5_2 := (Kd.R_reads' HO_5.out).1
      rw [hl5_2] at HO_5
      (try simp only [hl5_2])
      (try simp only [hl5_2] at HO_7)
      cases gk with
      | zero => exact absurd HA.out (by simp [cL])
      | succ k2 =>
       have H := HA.out
       clear HA
       simp only [cL] at H
       by_cases c21 : x8_2 < (x7_2.length : Int)
       · rw [if_pos c21] at H
         have c21b0 := ag c21
         clear c21
         by_cases c22 : 0 ≤ x8_2
         case neg => rw [if_neg c22] at H; simp at H
         rw [if_pos c22] at H
         have c22b0 := ag c22
         clear c22
         by_cases c23 : 0 ≤ (rd x7_2 x8_2)
         case neg => rw [if_neg c23] at H; simp at H
         rw [if_pos c23] at H
         have c23b0 := ag c23
         clear c23
         by_cases c24 : (rd x7_2 x8_2) < (l0.length : Int)
         case neg => rw [if_neg c24] at H; simp at H
         rw [if_pos c24] at H
         have c24b0 := ag c24
         clear c24
         have H' := Aside0.mk H
         clear H
         obtain ⟨Ao25, co25, eo25⟩ := Kd.R_slice HO_7.out
         subst eo25
         have p352 : 0 ≤ (x8_2 : Int) := ac zA
         have q352 : x8_2 < (x7_2.length : Int) := ac zA
         obtain ⟨ad352, e352, hx352_0⟩ := Kd.at_int (Kd.R_reads' HO_7.out).2.2 x8_2 p352 q352
         cases e352
         replace p352 := eq_true p352
         replace q352 := eq_true q352
         have p353 : 0 ≤ ((rd x7_2 x8_2) : Int) := ac zA
         have q353 : (rd x7_2 x8_2) < (l0.length : Int) := ac zA
         obtain ⟨ad353, A353_0, c353_0, e353, hx353_0, hl353_0, hi353_0⟩ := bf HR0.out (rd x7_2 x8_2) p353 q353
         cases e353
         (try replace hx353_0 := (HB.out.cell (aj w _ hx353_0)).trans hx353_0)
         have HR353_0 := Aside0.mk hi353_0
         have HC353_0 := Aside0.mk hl353_0
         clear hi353_0 hl353_0
         replace p353 := eq_true p353
         replace q353 := eq_true q353
         go_wp2
         go_loopg [7, 10] k2 (fun kq v7 v10 w' => ∃ (x5_3 : List Int) (x7_3 : List Int) (x10_3 : Int), v10 = .int .i64 x10_3 ∧ Aside0 (cK kq l0 x5_3 x7_3 x8_2 (af l0 (rd x7_2 x8_2)) x10_3 = some r) ∧ Aside0 (kq ≤ k2) ∧ Aside0 (Kd.R (Kd.int .i64) 3 w' w.heap.size (fun k_ => some k_ ≠ (v7 : Value).ownBlock) (.slice (some ⟨go15, 0, none⟩) x5_2.length co16) x5_3) ∧ Aside0 (Kd.R (Kd.int .i64) 3 w' w.heap.size (fun k_ => some k_ ≠ ((.slice (some ⟨go15, 0, none⟩) x5_2.length co16) : Value).ownBlock) v7 x7_3) ∧ Aside0 (Below w.heap.size w w'))
         case atStart => exact ⟨(x5_2), (x7_2), (0), (by first | rfl | (simp; done) | (simp [*]; done)), H', ⟨au _⟩, ⟨by (try simp only [hl5_2]); (with_reducible repeat (first | apply Kd.R_alloc | apply Kd.R_drewN | apply Kd.R_drew)); exact HO_5.out⟩, ⟨by (try simp only [hl5_2]); (with_reducible repeat (first | apply Kd.R_alloc | apply Kd.R_drewN | apply Kd.R_drew)); exact HO_7.out⟩, ⟨zB⟩⟩
         case round =>
          clear H'
          try clear c1
          try clear p1
          try clear q1
          try clear hx1
          try clear c2
          try clear p2
          try clear c3
          try clear c3b0
          try clear c3b1
          try clear p3
          try clear q3
          try clear hx3
          try clear c4
          try clear c4b0
          try clear c4b1
          try clear p6
          try clear c7
          try clear c7b0
          try clear c8
          try clear c8b0
          try clear p9
          try clear q9
          try clear hx9
          try clear hf9
          try clear c13
          try clear c13b0
          try clear c14
          try clear c14b0
          try clear p15
          try clear q15
          try clear hx15
          try clear hf15
          try clear c21
          try clear c21b0
          try clear c22
          try clear c22b0
          try clear c23
          try clear c23b0
          try clear c24
          try clear c24b0
          try clear hx15_0
          try clear hx352_0
          try clear hx353_0
          try clear hx9_0
          try clear p1
          try clear p15
          try clear p2
          try clear p352
          try clear p353
          try clear p6
          try clear p9
          try clear q1
          try clear q15
          try clear q352
          try clear q353
          try clear q9
          obtain ⟨x5_3, x7_3, x10_3, rfl, HA, HK3, HO_5, HO_7, HB⟩ := hrel
          have hl5_3 := (Kd.R_reads' HO_5.out).1
          rw [hl5_3] at HO_5
          (try simp only [hl5_3])
          (try simp only [hl5_3] at HO_7)
          cases gk with
          | zero => exact absurd HA.out (by simp [cK])
          | succ k3 =>
           have H := HA.out
           clear HA
           simp only [cK] at H
           by_cases c26 : x10_3 < ((af l0 (rd x7_2 x8_2)).length : Int)
           · rw [if_pos c26] at H
             have c26b0 := ag c26
             clear c26
             by_cases c27 : 0 ≤ x10_3
             case neg => rw [if_neg c27] at H; simp at H
             rw [if_pos c27] at H
             have c27b0 := ag c27
             clear c27
             by_cases c28 : 0 ≤ (rd (af l0 (rd x7_2 x8_2)) x10_3)
             case neg => rw [if_neg c28] at H; simp at H
             rw [if_pos c28] at H
             have c28b0 := ag c28
             clear c28
             by_cases c29 : (rd (af l0 (rd x7_2 x8_2)) x10_3) < (x5_3.length : Int)
             case neg => rw [if_neg c29] at H; simp at H
             rw [if_pos c29] at H
             have c29b0 := ag c29
             clear c29
             by_cases c30 : (rd x5_3 (rd (af l0 (rd x7_2 x8_2)) x10_3)) < 0
             · rw [if_pos c30] at H
               have c30b0 := ag c30
               clear c30
               by_cases c31 : 0 ≤ x8_2
               case neg => rw [if_neg c31] at H; simp at H
               rw [if_pos c31] at H
               have c31b0 := ag c31
               clear c31
               by_cases c32 : x8_2 < (x7_3.length : Int)
               case neg => rw [if_neg c32] at H; simp at H
               rw [if_pos c32] at H
               have c32b0 := ag c32
               clear c32
               by_cases c33 : 0 ≤ (rd x7_3 x8_2)
               case neg => rw [if_neg c33] at H; simp at H
               rw [if_pos c33] at H
               have c33b0 := ag c33
               clear c33
               by_cases c34 : (rd x7_3 x8_2) < (x5_3.length : Int)
               case neg => rw [if_neg c34] at H; simp at H
               rw [if_pos c34] at H
               have c34b0 := ag c34
               clear c34
               obtain ⟨y359, hy359⟩ : ∃ y_ : List Int, y_ = (x5_3.set ((rd (af l0 (rd x7_2 x8_2)) x10_3) : Int).toNat (wrap64 ((rd x5_3 (rd x7_3 x8_2)) + 1))) := ⟨_, rfl⟩
               replace H : (if x7_3.length < 17592186044416 then (cK k3 l0 y359 (x7_3 ++ [rd (af l0 (rd x7_2 x8_2)) x10_3]) x8_2 (af l0 (rd x7_2 x8_2)) (wrap64 (x10_3 + 1))) else (none)) = some r := by first | (rw [hy359]; with_reducible exact H) | (have H2_ := (Option.bind_some _ _).symm.trans H; rw [hy359]; with_reducible exact H2_) | (have H2_ := (Option.bind_some _ _).symm.trans H; with_reducible exact H2_) | with_reducible exact H | (rw [hy359]; exact H) | exact H
               have Ny359 := Aside0.mk hy359
               clear hy359
               by_cases c36 : x7_3.length < 17592186044416
               case neg => rw [if_neg c36] at H; simp at H
               rw [if_pos c36] at H
               have LMc36 := Aside0.mk c36
               clear c36
               obtain ⟨y361, hy361⟩ : ∃ y_ : List Int, y_ = (x7_3 ++ [rd (af l0 (rd x7_2 x8_2)) x10_3]) := ⟨_, rfl⟩
               replace H : (cK k3 l0 y359 y361 x8_2 (af l0 (rd x7_2 x8_2)) (wrap64 (x10_3 + 1))) = some r := by first | (rw [hy361]; with_reducible exact H) | (have H2_ := (Option.bind_some _ _).symm.trans H; rw [hy361]; with_reducible exact H2_) | (have H2_ := (Option.bind_some _ _).symm.trans H; with_reducible exact H2_) | with_reducible exact H | (rw [hy361]; exact H) | exact H
               have Ny361 := Aside0.mk hy361
               clear hy361
               have H' := Aside0.mk H
               clear H
               have p354 : 0 ≤ (x10_3 : Int) := ac zA
               have q354 : x10_3 < ((af l0 (rd x7_2 x8_2)).length : Int) := ac zA
               obtain ⟨ad354, e354, hx354_0⟩ := Kd.at_int HR353_0.out x10_3 p354 q354
               cases e354
               (try replace hx354_0 := (HB.out.cell (aj w _ hx354_0)).trans hx354_0)
               replace p354 := eq_true p354
               replace q354 := eq_true q354
               have p355 : 0 ≤ ((rd (af l0 (rd x7_2 x8_2)) x10_3) : Int) := ac zA
               have q355 : (rd (af l0 (rd x7_2 x8_2)) x10_3) < (x5_3.length : Int) := ac zA
               obtain ⟨ad355, e355, hx355_0⟩ := Kd.at_int (Kd.R_reads' HO_5.out).2.2 (rd (af l0 (rd x7_2 x8_2)) x10_3) p355 q355
               obtain rfl : (⟨go15, 0, none⟩ : Addr) = ad355 := (by injection e355)
               (first | simp only [bI] at hx355_0 | simp only [ci] at hx355_0 | simp only [Addr.add, Nat.zero_add] at hx355_0 | skip)
               replace p355 := eq_true p355
               replace q355 := eq_true q355
               try go_wp2
               replace HO_5 := zM (Kd.R_drew HO_5.out)
               replace HO_7 := zM (Kd.R_drew HO_7.out)
               replace HB := zM (aC HB.out)
               have p356 : 0 ≤ (x10_3 : Int) := ac zA
               have q356 : x10_3 < ((af l0 (rd x7_2 x8_2)).length : Int) := ac zA
               obtain ⟨ad356, e356, hx356_0⟩ := Kd.at_int HR353_0.out x10_3 p356 q356
               have hw356_0 := hx356_0
               obtain rfl : ad354 = ad356 := (by injection e356)
               (try replace hx356_0 := (HB.out.cell (aj w _ hx356_0)).trans hx356_0)
               replace p356 := eq_true p356
               replace q356 := eq_true q356
               obtain ⟨Ao38, co38, eo38⟩ := Kd.R_slice HO_7.out
               (first | subst eo38 | (injection eo38 with f1_ f2_ f3_; have f4_ := f1_.symm; have f5_ := f3_.symm; clear f1_ f2_ f3_; subst f4_; subst f5_))
               have p357 : 0 ≤ (x8_2 : Int) := ac zA
               have q357 : x8_2 < (x7_3.length : Int) := ac zA
               obtain ⟨ad357, e357, hx357_0⟩ := Kd.at_int (Kd.R_reads' HO_7.out).2.2 x8_2 p357 q357
               cases e357
               replace p357 := eq_true p357
               replace q357 := eq_true q357
               have p358 : 0 ≤ ((rd x7_3 x8_2) : Int) := ac zA
               have q358 : (rd x7_3 x8_2) < (x5_3.length : Int) := ac zA
               obtain ⟨ad358, e358, hx358_0⟩ := Kd.at_int (Kd.R_reads' HO_5.out).2.2 (rd x7_3 x8_2) p358 q358
               obtain rfl : (⟨go15, 0, none⟩ : Addr) = ad358 := (by injection e358)
               (first | simp only [bI] at hx358_0 | simp only [ci] at hx358_0 | simp only [Addr.add, Nat.zero_add] at hx358_0 | skip)
               replace p358 := eq_true p358
               replace q358 := eq_true q358
               have p35 : 0 ≤ ((rd (af l0 (rd x7_2 x8_2)) x10_3) : Int) := ac zA
               have q35 : ((rd (af l0 (rd x7_2 x8_2)) x10_3) : Int) < ((x5_3.length : Int) : Int) := ac zA
               obtain ⟨hx35_0, hf35_0⟩ := Kd.R_celln 0 HO_5.out ((rd (af l0 (rd x7_2 x8_2)) x10_3) : Int) p35 q35
               replace p35 := eq_true p35
               replace q35 := eq_true q35
               have HP39 := Kd.R_putn HO_5.out ((rd (af l0 (rd x7_2 x8_2)) x10_3) : Int) (wrap64 ((rd x5_3 (rd x7_3 x8_2)) + 1))
               rw [← Ny359.out] at HP39
               have HQ39 := Aside0.mk HP39
               clear HP39
               refine fW (n := 15) (S := fun w' => w'.cell? (ad354.add (x10_3).toNat) = some (.int .i64 (rd (af l0 (rd x7_2 x8_2)) x10_3)) ∧ w'.cell? (ad357.add (x8_2).toNat) = some (.int .i64 (rd x7_3 x8_2)) ∧ w'.cell? ⟨go15, ((rd x7_3 x8_2)).toNat, none⟩ = some (.int .i64 (rd x5_3 (rd x7_3 x8_2)))) (ds := [14]) #[false, false, false, false, false, false, false, false, false, false, false, false, false, false, false] (by kernel_rfl) rfl rfl ⟨((HB.out.cell (aj w _ hw356_0)).trans hw356_0), hx357_0, hx358_0⟩ (fun hHeld => ?_); refine aH nR nS (fun HT_ HW_ => ?_)
               generalize wr.drew = w37 at HO_5 HO_7 HB HQ39 hf35_0 hx356_0 hx357_0 hx358_0 hx35_0 hHeld ⊢
               refine zp HT_ 0 55 ?_
               refine zp HT_ 1 56 ?_
               refine zp HT_ 2 57 ?_
               refine zp HT_ 3 58 ?_
               refine zp HT_ 5 60 ?_
               refine zp HT_ 6 61 ?_
               refine zp HT_ 7 62 ?_
               refine zp HT_ 8 63 ?_
               refine zt HT_ HW_ 4 59 hHeld ?_ (hy := by rintro w' ⟨s0, s1, s2⟩; go_simp; with_reducible rfl)
               refine zt HT_ HW_ 9 64 hHeld ?_ (hy := by rintro w' ⟨s0, s1, s2⟩; go_simp; with_reducible rfl)
               refine zp HT_ 10 65 ?_
               refine zt HT_ HW_ 11 66 hHeld ?_ (hy := by rintro w' ⟨s0, s1, s2⟩; go_simp; with_reducible rfl)
               refine zp HT_ 12 67 ?_
               refine zp HT_ 13 68 ?_
               refine gy (i := 14) (N := none) #[true, true, true, true, true, true, true, true, true, true, true, true, true, true, true] rfl rfl (bm HT_.out (by kernel_rfl)) (by decide) (fun K hK => ?_)
               refine i7 (w1 := ?_) (by rfl) rfl ?_ ?_
               rotate_left
               · go_simp
                 rfl
               refine hK.out _ _ ?_
               clear hK K
               refine zo HT_ ?_
               have p360 : 0 ≤ (x10_3 : Int) := ac zA
               have q360 : x10_3 < ((af l0 (rd x7_2 x8_2)).length : Int) := ac zA
               obtain ⟨ad360, e360, hx360_0⟩ := Kd.at_int HR353_0.out x10_3 p360 q360
               obtain rfl : ad354 = ad360 := (by injection e360)
               have hn360_0 : ad354.block ≠ go15 := Nat.ne_of_lt (Nat.lt_of_lt_of_le (by have := aj _ _ hx360_0; first | rwa [bT] at this | exact this) GB15.out)
               (try replace hx360_0 := (HB.out.cell (aj w _ hx360_0)).trans hx360_0)
               replace hx360_0 := (sL (p := ⟨go15, ((rd (af l0 (rd x7_2 x8_2)) x10_3) : Int).toNat, none⟩) (by first | (rw [bT]; exact hn360_0) | (show (Addr.add _ _).block ≠ _; rw [bT]; exact hn360_0) | exact hn360_0) (.int .i64 (wrap64 ((rd x5_3 (rd x7_3 x8_2)) + 1)))).trans hx360_0
               clear hn360_0
               replace p360 := eq_true p360
               replace q360 := eq_true q360
               try go_wp2_with (first | ((with_reducible refine br (b := .append) (xs := #[.tmp 69, .tmp 74]) rfl ?_); at_builtin; refine Kd.R_append (Kd.int .i64) (w0 := w) w.heap.size rfl (.tmp 69) (.tmp 74) 25 3 (.int .i64 0) 8 rfl Tryz.underlying25 bq rfl (by decide) (by omega) (.slice (some ad357) x7_3.length co38) x7_3 (rd (af l0 (rd x7_2 x8_2)) x10_3) [.int .i64 (rd (af l0 (rd x7_2 x8_2)) x10_3)] (fun k_ => some k_ ≠ (.slice (some ⟨go15, 0, none⟩) x5_3.length co16 : Value).ownBlock) (fun _ => False) rfl (by first | (go_simp; done) | (go_simp; rfl)) ?aP (fun _ hk => hk.elim) ?aF ?aO ?aB ?aS ?aL ?_; (case aP => exact rfl); (case aB => exact zB); (case aF => exact (fun k_ hk => Kd.fresh' (Kd.R_lt (zR HQ39.out)) k_ hk)); (case aO => exact (by (with_reducible repeat (first | apply Kd.R_alloc | apply Kd.R_drewN | apply Kd.R_drew)); exact Kd.R_mono (Kd.R_far (p := ⟨go15, ((rd (af l0 (rd x7_2 x8_2)) x10_3) : Int).toNat, none⟩) (Kd.R_mono HO_7.out (fun k_ hk => (⟨hk, fun e_ => hk (by rw [e_]; rfl)⟩ : _ ∧ k_ ≠ go15))) (fun _ hk => hk.2) (.int .i64 (wrap64 ((rd x5_3 (rd x7_3 x8_2)) + 1)))) (fun _ hk => hk.1))); (case aS => exact (ai zB)); (case aL => have := LMc36.out; omega); intro v362 w40 ho hb hg hat; rw [← Ny361.out] at ho; replace HO_5 := zM (Kd.R_after (ok := (fun _ => True)) (by (with_reducible repeat (first | apply Kd.R_alloc | apply Kd.R_drewN | apply Kd.R_drew)); exact Kd.R_mono HQ39.out (fun _ hk => ⟨trivial, hk⟩)) hg hat); replace HB := zM (hb); have HO363 := zM (ho); clear HO_7; clear ho hb hg hat))
               (try simp only [← hl5_3])
               go_roundg k3
               case measure => have := HK1.out; have := HK2.out; have := HK3.out; omega
               case rel => exact ⟨(y359), (y361), (wrap64 (x10_3 + 1)), (by first | rfl | (simp; done) | (simp [*]; done)), H', ⟨by have := HK1.out; have := HK2.out; have := HK3.out; omega⟩, ⟨by (try simp only [hl5_2]); (try simp only [hl5_3]); (with_reducible repeat (first | apply Kd.R_alloc | apply Kd.R_drewN | apply Kd.R_drew)); exact Kd.R_mono HO_5.out (fun _ hk => hk.2)⟩, ⟨by (try simp only [hl5_2]); (try simp only [hl5_3]); (with_reducible repeat (first | apply Kd.R_alloc | apply Kd.R_drewN | apply Kd.R_drew)); exact HO363.out⟩, ⟨zB⟩⟩
             · rw [if_neg c30] at H
               have c30b0 : decide ((rd x5_3 (rd (af l0 (rd x7_2 x8_2)) x10_3)) < 0) = false := ar c30
               clear c30
               have H' := Aside0.mk H
               clear H
               have p354 : 0 ≤ (x10_3 : Int) := ac zA
               have q354 : x10_3 < ((af l0 (rd x7_2 x8_2)).length : Int) := ac zA
               obtain ⟨ad354, e354, hx354_0⟩ := Kd.at_int HR353_0.out x10_3 p354 q354
               cases e354
               (try replace hx354_0 := (HB.out.cell (aj w _ hx354_0)).trans hx354_0)
               replace p354 := eq_true p354
               replace q354 := eq_true q354
               have p355 : 0 ≤ ((rd (af l0 (rd x7_2 x8_2)) x10_3) : Int) := ac zA
               have q355 : (rd (af l0 (rd x7_2 x8_2)) x10_3) < (x5_3.length : Int) := ac zA
               obtain ⟨ad355, e355, hx355_0⟩ := Kd.at_int (Kd.R_reads' HO_5.out).2.2 (rd (af l0 (rd x7_2 x8_2)) x10_3) p355 q355
               obtain rfl : (⟨go15, 0, none⟩ : Addr) = ad355 := (by injection e355)
               (first | simp only [bI] at hx355_0 | simp only [ci] at hx355_0 | simp only [Addr.add, Nat.zero_add] at hx355_0 | skip)
               replace p355 := eq_true p355
               replace q355 := eq_true q355
               go_wp2
               (try simp only [← hl5_3])
               go_roundg k3
               case measure => have := HK1.out; have := HK2.out; have := HK3.out; omega
               case rel => exact ⟨(x5_3), (x7_3), (wrap64 (x10_3 + 1)), (by first | rfl | (simp; done) | (simp [*]; done)), H', ⟨by have := HK1.out; have := HK2.out; have := HK3.out; omega⟩, ⟨by (try simp only [hl5_2]); (try simp only [hl5_3]); (with_reducible repeat (first | apply Kd.R_alloc | apply Kd.R_drewN | apply Kd.R_drew)); exact HO_5.out⟩, ⟨by (try simp only [hl5_2]); (try simp only [hl5_3]); (with_reducible repeat (first | apply Kd.R_alloc | apply Kd.R_drewN | apply Kd.R_drew)); exact HO_7.out⟩, ⟨zB⟩⟩
           · rw [if_neg c26] at H
             have c26b0 : decide (x10_3 < ((af l0 (rd x7_2 x8_2)).length : Int)) = false := ar c26
             clear c26
             have H' := Aside0.mk H
             clear H
             go_wp2
             (try simp only [← hl5_2, ← hl5_3])
             go_roundg k3
             case measure => have := HK1.out; have := HK2.out; have := HK3.out; omega
             case rel => exact ⟨(x5_3), (x7_3), (wrap64 (x8_2 + 1)), (by first | rfl | (simp; done) | (simp [*]; done)), H', ⟨by have := HK1.out; have := HK2.out; have := HK3.out; omega⟩, ⟨by (try simp only [hl5_2]); (try simp only [hl5_3]); (with_reducible repeat (first | apply Kd.R_alloc | apply Kd.R_drewN | apply Kd.R_drew)); exact HO_5.out⟩, ⟨by (try simp only [hl5_2]); (try simp only [hl5_3]); (with_reducible repeat (first | apply Kd.R_alloc | apply Kd.R_drewN | apply Kd.R_drew)); exact HO_7.out⟩, ⟨zB⟩⟩
       · rw [if_neg c21] at H
         have c21b0 : decide (x8_2 < (x7_2.length : Int)) = false := ar c21
         clear c21
         obtain rfl := ao H
         obtain ⟨Ao41, co41, eo41⟩ := Kd.R_slice HO_7.out
         subst eo41
         go_wp2
         go_ret
         exact ⟨_, by first | rfl | (simp [al, ak] <;> rfl) | (simp [*, al, ak] <;> rfl), by (with_reducible repeat (first | apply Kd.R_alloc | apply Kd.R_drewN | apply Kd.R_drew)); exact Kd.R_mono HO_5.out (fun _ hk => trivial), zB⟩
end Go.Proofs.YtadjbmcfgjmhkaaGreat.P
