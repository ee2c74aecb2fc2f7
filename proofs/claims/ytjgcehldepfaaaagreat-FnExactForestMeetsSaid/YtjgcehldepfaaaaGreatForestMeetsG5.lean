import Derived.Test.YtjgcehldepfaaaaGreatForestMeetsG3
import Derived.Test.YtjgcehldepfaaaaGreatProg
import Derived.ChangeKeysEq
import Derived.Laws.StructEq
import Derived.Handy
namespace Go.Proofs.YtjgcehldepfaaaaGreat.P
open Go.RowKit YtjgcehldepfaaaaGreatW.PrintWords YtjgcehldepfaaaaGreatW.PrintLast YtjgcehldepfaaaaGreatW.PrintMore
attribute [local go_sem] bl bh bi bd bj bf bk bg
set_option maxRecDepth 100000
set_option maxHeartbeats 8000000
set_option linter.unusedVariables false
set_option linter.unusedSimpArgs false
def nx : Option Int → Value
 | none => .nilIface
 | some c => .iface 0 (.int .i64 c)
theorem al : nx none = .nilIface := rfl
theorem ak (c : Int) : nx (some c) = .iface 0 (.int .i64 c) := rfl
theorem bv : (Tryz.prog.info? 3).map (fun i => (i.zero, i.size, i.bytes)) = some (some (.int .i64 0), 1, 8) := by kernel_rfl
theorem m4 : (Tryz.prog.info? 4).map (fun i => (i.zero, i.size, i.bytes)) = some (some (.bool false), 1, 1) := by kernel_rfl
theorem iu : (Tryz.prog.info? 25).map (fun i => (i.zero, i.size, i.bytes)) = some (some (.slice none 0 0), 1, 24) := by kernel_rfl
theorem m0 : (Tryz.prog.info? 63).map (fun i => (i.zero, i.size, i.bytes)) = some (some (.agg #[(.int .i64 0), (.int .i64 0)]), 2, 16) := by kernel_rfl
structure S63 where
 f0 : Int
 f1 : Int
def dJ : S63 := ⟨(0 : Int), (0 : Int)⟩
def k63 : Kd S63 := Kd.iso (Kd.pair (Kd.int .i64) (Kd.int .i64)) (fun x : S63 => (x.f0, x.f1))
theorem rp {w : World} {x : S63} {cs : List Value} (h : k63.K w x cs) : cs = [.int .i64 x.f0, .int .i64 x.f1] := by
 obtain ⟨_, _, rfl, rfl, rfl⟩ := h
 exact rfl
theorem mY {w : World} {base : Nat} {ok : Nat → Prop} {x : S63} {cs : List Value} (h : k63.M w base ok x cs) : cs = [.int .i64 x.f0, .int .i64 x.f1] := by
 obtain ⟨_, _, rfl, rfl, rfl⟩ := h
 exact rfl
theorem rq (w : World) (x : S63)  : k63.K w x [.int .i64 x.f0, .int .i64 x.f1] := ⟨[.int .i64 x.f0], [.int .i64 x.f1], rfl, rfl, rfl⟩
theorem kj (w : World) (base : Nat) (ok : Nat → Prop) (x : S63)  : k63.M w base ok x [.int .i64 x.f0, .int .i64 x.f1] := ⟨[.int .i64 x.f0], [.int .i64 x.f1], rfl, rfl, rfl⟩
def aa (xs : List S63) (i : Int) : S63 := xs.getD i.toNat dJ
theorem bp {w : World} {A : Option Addr} {n : Nat} {xs : List S63} (h : Kd.C k63 w A n xs) (i : Int) (h0 : 0 ≤ i) (h1 : i < n) : ∃ ad , A = some ad ∧ w.cell? (ad.add (i.toNat * 2)) = some (.int .i64 (aa xs i).f0) ∧ w.cell? ⟨(ad.add (i.toNat * 2)).block, (ad.add (i.toNat * 2)).off + 1, none⟩ = some (.int .i64 (aa xs i).f1) := by
 obtain ⟨ad, c, e, _, hK, hc0⟩ := Kd.C_get h dJ i h0 h1
 have hc : ∀ j u, c[j]? = some u → w.cell? (ad.add (i.toNat * 2 + j)) = some u := hc0
 obtain rfl := rp hK
 exact ⟨ad, e, hc 0 _ rfl, by rw [← uu _ _ 1 (by omega)]; exact hc 1 _ rfl⟩
def ai (xs : List (List Int)) (i : Int) : (List Int) := xs.getD i.toNat ([] : List Int)
theorem ee {w : World} {A : Option Addr} {n : Nat} {xs : List (List Int)} (h : Kd.C (Kd.slice 3 (Kd.int .i64)) w A n xs) (i : Int) (h0 : 0 ≤ i) (h1 : i < n) : ∃ ad A0 c0, A = some ad ∧ w.cell? (ad.add i.toNat) = some (.slice A0 (ai xs i).length c0) ∧ (ai xs i).length ≤ c0 ∧ (Kd.int .i64).C w A0 (ai xs i).length (ai xs i) := by
 obtain ⟨ad, c, e, _, hK, hc0⟩ := Kd.C_get h ([] : List Int) i h0 h1
 have hc : ∀ j u, c[j]? = some u → w.cell? (ad.add (i.toNat * 1 + j)) = some u := hc0
 obtain ⟨A0, c0, rfl, l0, g0⟩ := hK
 exact ⟨ad, A0, c0, e, by have hq := hc 0 _ rfl; rwa [Nat.mul_one, Nat.add_zero] at hq, l0, g0⟩
def ke (a0_0 : Int) (a0_1 : Int) : Option (Int × Int) := some (a0_0, a0_1)
set_option maxHeartbeats 1000000 in
theorem q5 (a0_0 : Int) (a0_1 : Int) (r1 : Int) (r2 : Int) (w : World) (h : ke a0_0 a0_1 = some (r1, r2)) :
  Calls Tryz.prog 45 #[.agg #[.int .i64 a0_0, .int .i64 a0_1]] w fun e w' => e = .returned (.agg #[.int .i64 r1, .int .i64 r2]) ∧ Below w.heap.size w w' := by
 unfold ke at h
 simp only [Option.some.injEq, Prod.mk.injEq] at h
 obtain ⟨rfl, rfl⟩ := h
 go_enter Tryz.func45, Tryz.ntmps45
 go_wp2
 go_rounds 3
 exact bodyPost_ret (v := .agg #[.int .i64 a0_0, .int .i64 a0_1]) (by simp [results, Tryz.results45, go_sem]) rfl ⟨rfl, by repeat (first | exact Below.refl _ _ | apply bC | apply cE | apply aD)⟩
def ji (a0_0 : Int) (a0_1 : Int) (a1_0 : Int) (a1_1 : Int) : Option Bool := some (a0_0 == a1_0 && a0_1 == a1_1)
set_option maxHeartbeats 1000000 in
theorem mT (a0_0 : Int) (a0_1 : Int) (a1_0 : Int) (a1_1 : Int) (r : Bool) (w : World) (h : ji a0_0 a0_1 a1_0 a1_1 = some r) :
   Calls Tryz.prog 52 #[.agg #[.int .i64 a0_0, .int .i64 a0_1], .agg #[.int .i64 a1_0, .int .i64 a1_1]] w fun e w' => e = .returned (.bool r) ∧ Below w.heap.size w w' := by
 unfold ji at h
 obtain rfl := ap h
 clear h
 by_cases h0 : a0_0 = a1_0
 · have h0b : (a0_0 != a1_0) = false := bne_eq_false_iff_eq.mpr h0
   have h0c : (a0_0 == a1_0) = true := beq_iff_eq.mpr h0
   clear h0
   by_cases h1 : a0_1 = a1_1
   · have h1b : (a0_1 != a1_1) = false := bne_eq_false_iff_eq.mpr h1
     have h1c : (a0_1 == a1_1) = true := beq_iff_eq.mpr h1
     clear h1
     go_enter Tryz.func52, Tryz.ntmps52
     go_wp2
     refine wp_loop_rounds 3 ?_
     rw [rounds_succ]; go_wp2; go_quiet (fail); go_wp2
     rw [rounds_succ]; go_wp2; go_quiet (fail); go_wp2
     rw [rounds_succ]; go_wp2
     go_ret
     exact ⟨by simp [*], by repeat (first | exact Below.refl _ _ | apply bC | apply cE | apply aD)⟩
   · have h1b : (a0_1 != a1_1) = true := bne_iff_ne.mpr h1
     have h1c : (a0_1 == a1_1) = false := beq_eq_false_iff_ne.mpr h1
     clear h1
     go_enter Tryz.func52, Tryz.ntmps52
     go_wp2
     refine wp_loop_rounds 3 ?_
     rw [rounds_succ]; go_wp2; go_quiet (fail); go_wp2
     rw [rounds_succ]; go_wp2; go_quiet (fail); go_wp2
     go_ret
     exact ⟨by simp [*], by repeat (first | exact Below.refl _ _ | apply bC | apply cE | apply aD)⟩
 · have h0b : (a0_0 != a1_0) = true := bne_iff_ne.mpr h0
   have h0c : (a0_0 == a1_0) = false := beq_eq_false_iff_ne.mpr h0
   clear h0
   go_enter Tryz.func52, Tryz.ntmps52
   go_wp2
   refine wp_loop_rounds 3 ?_
   rw [rounds_succ]; go_wp2; go_quiet (fail); go_wp2
   go_ret
   exact ⟨by simp [*], by repeat (first | exact Below.refl _ _ | apply bC | apply cE | apply aD)⟩
attribute [local go_sem] bl bh bi bd bj bf bk bg
set_option linter.unusedVariables false
set_option linter.unusedSimpArgs false
def jh (l0 : List (S63)) (a1 : Int) : Option (Int) := if (wrap64 (a1 - (l0.length : Int))) < 0 then (some (-1)) else (some (wrap64 (a1 - (l0.length : Int))))
theorem mN (A0 : Option Addr) (c0 : Nat) (l0 : List (S63)) (a1 : Int) (r : Int) (w : World) (hr0 : Kd.C k63 w A0 l0.length l0) (hc0 : l0.length ≤ c0) (h : jh l0 a1 = some r) :
 Calls Tryz.prog 17 #[.slice A0 l0.length c0, .int .i64 a1] w fun e w' => e = .returned (.int .i64 r) ∧ Drawn0 w w' := by
 have HR0 := Aside0.mk hr0
 have HC0 := Aside0.mk hc0
 clear hr0 hc0
 have H := h
 unfold jh at H
 clear h
 by_cases c3 : (wrap64 (a1 - (l0.length : Int))) < 0
 · rw [if_pos c3] at H
   have c3b0 := af c3
   clear c3
   obtain rfl := ap H
   go_enter Tryz.func17, Tryz.ntmps17
   go_wp2
   go_ret
   exact ⟨by first | rfl | (simp; done) | (simp [*]; done), by repeat (first | exact Drawn0.refl _ | apply Drawn0.step)⟩
 · rw [if_neg c3] at H
   have c3b0 : decide ((wrap64 (a1 - (l0.length : Int))) < 0) = false := ao c3
   clear c3
   obtain rfl := ap H
   go_enter Tryz.func17, Tryz.ntmps17
   go_wp2
   go_ret
   exact ⟨by first | rfl | (simp; done) | (simp [*]; done), by repeat (first | exact Drawn0.refl _ | apply Drawn0.step)⟩
def gH (a0_0 : Int) (l0_1 : List (S63)) (a1 : Int) : Option (Int) := (jh l0_1 a1).bind fun t102 => (if t102 < 0 then (some (-1)) else (some t102))
theorem mO (a0_0 : Int) (A0_1 : Option Addr) (c0_1 : Nat) (l0_1 : List (S63)) (a1 : Int) (r : Int) (w : World) (hr0_1 : Kd.C k63 w A0_1 l0_1.length l0_1) (hc0_1 : l0_1.length ≤ c0_1) (h : gH a0_0 l0_1 a1 = some r) :
 Calls Tryz.prog 5 #[.agg #[.int .i64 a0_0, .slice A0_1 l0_1.length c0_1], .int .i64 a1] w fun e w' => e = .returned (.int .i64 r) ∧ Below w.heap.size w w' := by
 have hu24 := Tryz.underlying24
 have HR0_1 := Aside0.mk hr0_1
 have HC0_1 := Aside0.mk hc0_1
 clear hr0_1 hc0_1
 have HB := zM (Below.refl w.heap.size w)
 have H := h
 unfold gH at H
 clear h
 replace H := av H
 obtain ⟨t102, A30, H⟩ := H
 have A3 := Aside0.mk A30
 clear A30
 by_cases c4 : t102 < 0
 · rw [if_pos c4] at H
   have c4b0 := af c4
   clear c4
   obtain rfl := ap H
   go_enter Tryz.func5, Tryz.ntmps5
   go_wp2_with (first | ((with_reducible refine au (N := 2) rfl ?_); refine zb (w := w) 2 #[.int .i64 a0_0, .slice A0_1 l0_1.length c0_1] 24 zB ?_; clear HB; intro gb101 w5 HB BK101 GW101; have GE101 := GW101; have hcz6_0 := zy BK101 0; have hcz6_1 := zy BK101 1; have hfz6_0 := ae BK101.out 0; have hfz6_1 := ae BK101.out 1) | ((with_reducible refine ax (f := 17) rfl ?_); refine zc 8 Tryz.func17 #[.slice A0_1 l0_1.length c0_1, .int .i64 a1] ?_; (with_reducible refine (mN _ _ l0_1 a1 t102 _ ?side1 ?side2 A3.out).mono ?_); (case side1 => exact zC (Kd.C_below HR0_1.out HB.out)); (case side2 => exact HC0_1.out); rintro e w' ⟨rfl, ⟨nd, rfl⟩⟩; refine ⟨_, rfl, ?_⟩))
   go_ret
   exact ⟨by first | rfl | (simp [al, ak] <;> rfl) | (simp [*, al, ak] <;> rfl), zB⟩
 · rw [if_neg c4] at H
   have c4b0 : decide (t102 < 0) = false := ao c4
   clear c4
   obtain rfl := ap H
   go_enter Tryz.func5, Tryz.ntmps5
   go_wp2_with (first | ((with_reducible refine au (N := 2) rfl ?_); refine zb (w := w) 2 #[.int .i64 a0_0, .slice A0_1 l0_1.length c0_1] 24 zB ?_; clear HB; intro gb101 w7 HB BK101 GW101; have GE101 := GW101; have hcz8_0 := zy BK101 0; have hcz8_1 := zy BK101 1; have hfz8_0 := ae BK101.out 0; have hfz8_1 := ae BK101.out 1) | ((with_reducible refine ax (f := 17) rfl ?_); refine zc 8 Tryz.func17 #[.slice A0_1 l0_1.length c0_1, .int .i64 a1] ?_; (with_reducible refine (mN _ _ l0_1 a1 t102 _ ?side1 ?side2 A3.out).mono ?_); (case side1 => exact zC (Kd.C_below HR0_1.out HB.out)); (case side2 => exact HC0_1.out); rintro e w' ⟨rfl, ⟨nd, rfl⟩⟩; refine ⟨_, rfl, ?_⟩))
   go_ret
   exact ⟨by first | rfl | (simp [al, ak] <;> rfl) | (simp [*, al, ak] <;> rfl), zB⟩
def dW : Nat → List (S63) → List (S63) → Int → Option ((List (S63)))
 | 0, _, _, _ => none
 | k + 1, x0, x3, x4 => if x4 < (x0.length : Int) then (if 0 ≤ x4 then ((ke ((aa x0 x4).f0) ((aa x0 x4).f1)).bind fun bt107 => (if x4 < (x3.length : Int) then (dW k x0 (x3.set (x4 : Int).toNat (⟨bt107.1, bt107.2⟩ : S63)) (wrap64 (x4 + 1))) else (none))) else (none)) else (some x3)
def il (k : Nat) (l0 : List (S63)) : Option ((List (S63))) := if 0 ≤ (l0.length : Int) then (if ((l0.length : Int) : Int).toNat ≤ 17592186044416 then (dW k l0 (List.replicate ((l0.length : Int) : Int).toNat dJ) 0) else (none)) else (none)
theorem qZ (k : Nat) (A0 : Option Addr) (c0 : Nat) (l0 : List (S63)) (r : List (S63)) (w : World) (hr0 : Kd.C k63 w A0 l0.length l0) (hc0 : l0.length ≤ c0) (h : il k l0 = some r) :
 Calls Tryz.prog 21 #[.slice A0 l0.length c0] w fun e w' => ∃ v0_ : Value, e = .returned (v0_) ∧ Kd.R k63 63 w' w.heap.size (fun _ => True) v0_ r ∧ Below w.heap.size w w' := by
 have hu63 := Tryz.underlying63
 have HR0 := Aside0.mk hr0
 have HC0 := Aside0.mk hc0
 clear hr0 hc0
 have HB := zM (Below.refl w.heap.size w)
 have H := h
 unfold il at H
 clear h
 by_cases c2 : 0 ≤ (l0.length : Int)
 case neg => rw [if_neg c2] at H; simp at H
 rw [if_pos c2] at H
 have c2b0 := eq_true c2
 have c2b1 : decide (0 ≤ (l0.length : Int)) = true := af c2
 clear c2
 by_cases c3 : ((l0.length : Int) : Int).toNat ≤ 17592186044416
 case neg => rw [if_neg c3] at H; simp at H
 rw [if_pos c3] at H
 have c3b0 := eq_true c3
 have c3b1 : decide (((l0.length : Int) : Int).toNat ≤ 17592186044416) = true := af c3
 clear c3
 obtain ⟨y103, hy103⟩ : ∃ y_ : List (S63), y_ = (List.replicate ((l0.length : Int) : Int).toNat dJ) := ⟨_, rfl⟩
 replace H : (dW k l0 y103 0) = some r := by first | (rw [hy103]; with_reducible exact H) | (have H2_ := (Option.bind_some _ _).symm.trans H; rw [hy103]; with_reducible exact H2_) | (have H2_ := (Option.bind_some _ _).symm.trans H; with_reducible exact H2_) | with_reducible exact H | (rw [hy103]; exact H) | exact H
 have Ny103 := Aside0.mk hy103
 clear hy103
 have H' := Aside0.mk H
 clear H
 go_enter Tryz.func21, Tryz.ntmps21
 go_wp2_with (first | ((with_reducible refine au (N := 7) rfl ?_); refine Kd.R_make k63 _ 63 rfl (N := 7) rfl 22 _ _ rfl (l0.length : Int) rfl rfl Tryz.underlying22 (.agg #[(.int .i64 0), (.int .i64 0)]) 16 m0 rfl (by decide) (by omega) dJ (ok := fun _ => True) (okp := fun _ => True) (kj _ _ _ dJ ) (fun _ hk => hk) trivial (ac zA) (Nat.le_trans (Nat.mul_le_mul_right _ (ac zA : (l0.length : Int).toNat ≤ 17592186044416)) (by omega)) (Below.refl _ _) (ar _) ?_; intro v104 w4 ho5 hb hg_ hnew_; clear hg_ hnew_; (first | rw [← Ny103.out] at ho5 | (simp only [Int.reduceToNat] at ho5; rw [← Ny103.out] at ho5)); have HO105 := zM (Kd.R_lower ho5 (am zB)); replace HB := zM (ag zB hb); clear hb ho5))
 go_loopg [4] k (fun kq v4 w' => ∃ (x3_1 : List (S63)) (x4_1 : Int), v4 = .int .i64 x4_1 ∧ Aside0 (dW kq l0 x3_1 x4_1 = some r) ∧ Aside0 (kq ≤ k) ∧ Aside0 (Kd.R k63 63 w' w.heap.size (fun _ => True) v104 x3_1) ∧ Aside0 (Below w.heap.size w w'))
 case atStart => exact ⟨(y103), (0), (by first | rfl | (simp; done) | (simp [*]; done)), H', ⟨ar _⟩, ⟨zR HO105.out⟩, ⟨zB⟩⟩
 case round =>
  clear H'
  try clear c2
  try clear c2b0
  try clear c2b1
  try clear p2
  try clear c3
  try clear c3b0
  try clear c3b1
  obtain ⟨x3_1, x4_1, rfl, HA, HK1, HO_3, HB⟩ := hrel
  cases gk with
  | zero => exact absurd HA.out (by simp [dW])
  | succ k1 =>
   have H := HA.out
   clear HA
   simp only [dW] at H
   by_cases c6 : x4_1 < (l0.length : Int)
   · rw [if_pos c6] at H
     have c6b0 := af c6
     clear c6
     by_cases c7 : 0 ≤ x4_1
     case neg => rw [if_neg c7] at H; simp at H
     rw [if_pos c7] at H
     have c7b0 := af c7
     clear c7
     replace H := av H
     obtain ⟨⟨t107, t108⟩, A80, H⟩ := H
     try dsimp only at H
     have A8 := Aside0.mk A80
     clear A80
     by_cases c9 : x4_1 < (x3_1.length : Int)
     case neg => rw [if_neg c9] at H; simp at H
     rw [if_pos c9] at H
     have c9b0 := af c9
     clear c9
     obtain ⟨y109, hy109⟩ : ∃ y_ : List (S63), y_ = (x3_1.set (x4_1 : Int).toNat (⟨t107, t108⟩ : S63)) := ⟨_, rfl⟩
     replace H : (dW k1 l0 y109 (wrap64 (x4_1 + 1))) = some r := by first | (rw [hy109]; with_reducible exact H) | (have H2_ := (Option.bind_some _ _).symm.trans H; rw [hy109]; with_reducible exact H2_) | (have H2_ := (Option.bind_some _ _).symm.trans H; with_reducible exact H2_) | with_reducible exact H | (rw [hy109]; exact H) | exact H
     have Ny109 := Aside0.mk hy109
     clear hy109
     have H' := Aside0.mk H
     clear H
     have p106 : 0 ≤ (x4_1 : Int) := ac zA
     have q106 : x4_1 < (l0.length : Int) := ac zA
     obtain ⟨ad106, e106, hx106_0, hx106_1⟩ := bp HR0.out x4_1 p106 q106
     cases e106
     (try replace hx106_0 := (HB.out.cell (aj w _ hx106_0)).trans hx106_0)
     (try replace hx106_1 := (HB.out.cell (aj w _ hx106_1)).trans hx106_1)
     replace p106 := eq_true p106
     replace q106 := eq_true q106
     go_wp2_with (first | ((with_reducible refine ax (f := 45) rfl ?_); refine zc 20 Tryz.func45 #[.agg #[.int .i64 ((aa l0 x4_1).f0), .int .i64 ((aa l0 x4_1).f1)]] ?_; (with_reducible refine (q5 ((aa l0 x4_1).f0) ((aa l0 x4_1).f1) t107 t108 _ A8.out).mono ?_); rintro e w11 ⟨rfl, hb⟩; refine ⟨_, rfl, ?_⟩; replace HO_3 := zM (Kd.R_below (zR HO_3.out) hb); replace HB := zM (ag zB hb); (try clear hb); have p10 : 0 ≤ (x4_1 : Int) := ac zA; have q10 : (x4_1 : Int) < ((x3_1.length : Int) : Int) := ac zA; obtain ⟨go10, co10, eo10, gb10, gl10, cl10, HG10⟩ := Kd.R_form HO_3.out (by omega); (first | cases eo10 | (injection eo10 with ea_ en_ ec_; (first | subst ea_ | (injection ea_ with ea_; subst ea_)); subst ec_; clear en_)); have GB10 := Aside0.mk gb10; have GG10 := Aside0.mk HG10; clear gb10 gl10 HG10; obtain ⟨ce10, hcl10, hM10, hcc10, hfr10⟩ := Kd.R_elem HO_3.out dJ (x4_1 : Int) p10 q10; obtain rfl := mY hM10; have hx10_0 : w11.cell? ⟨go10, (x4_1 : Int).toNat * 2, none⟩ = some (.int .i64 ((aa x3_1 x4_1).f0)) := hcc10 0 _ rfl; have hx10_1 : w11.cell? ⟨go10, (x4_1 : Int).toNat * 2 + 1, none⟩ = some (.int .i64 ((aa x3_1 x4_1).f1)) := hcc10 1 _ rfl; have hf10_0 : w11.frozen? ⟨go10, (x4_1 : Int).toNat * 2, none⟩ = false := hfr10 0; have hf10_1 : w11.frozen? ⟨go10, (x4_1 : Int).toNat * 2 + 1, none⟩ = false := hfr10 1; clear hcl10 hcc10 hfr10; (try clear hM10); replace p10 := eq_true p10; replace q10 := eq_true q10; have HX12 := zM (show Kd.R k63 63 w11 w.heap.size (fun _ => True) (.slice (some ⟨go10, 0, none⟩) x3_1.length co10) x3_1 from (zR HO_3.out)); obtain ⟨ce12, hcl12, hM12, hcc12, hfr12⟩ := Kd.R_elem HX12.out dJ (x4_1 : Int) (ac zA) (by have h_ : (x4_1 : Int) < ((x3_1.length : Int) : Int) := ac zA; first | exact h_ | (have e_ := (Kd.R_reads' HO_3.out).1; omega) | simpa using h_); obtain rfl := mY hM12; have HP12 := Kd.R_seg HX12.out (x4_1 : Int) (ac zA) (by have h_ : (x4_1 : Int) < ((x3_1.length : Int) : Int) := ac zA; first | exact h_ | (have e_ := (Kd.R_reads' HO_3.out).1; omega) | simpa using h_) (seg := [.int .i64 t107, .int .i64 t108]) (j := 0) hcl12 hcc12 (show 2 ≤ 2 from by decide) (x' := (⟨t107, t108⟩ : S63)) (kj _ _ _ (⟨t107, t108⟩ : S63) ) (fun _ hk => hk); have hx12_0 := hcc12 0 _ rfl; (try simp only [show (k63).sz = 2 from rfl, Nat.mul_one, Nat.add_zero] at hx12_0); have hf12_0 := hfr12 0; (try simp only [show (k63).sz = 2 from rfl, Nat.mul_one, Nat.add_zero] at hf12_0); have hx12_1 := hcc12 1 _ rfl; (try simp only [show (k63).sz = 2 from rfl, Nat.mul_one, Nat.add_zero] at hx12_1); have hf12_1 := hfr12 1; (try simp only [show (k63).sz = 2 from rfl, Nat.mul_one, Nat.add_zero] at hf12_1); clear hcl12 hcc12 hfr12; (try clear hM12)) | ((with_reducible refine fR (t := 63) (p := 21) rfl ?_); refine fz (t := 63) (p := 21) (v := ?vo_w13) (w1 := ((w11.setCell ⟨go10, (x4_1 : Int).toNat * 2, none⟩ (.int .i64 t107)).setCell ⟨go10, (x4_1 : Int).toNat * 2 + 1, none⟩ (.int .i64 t108))) ?hg ?ho ?hn ?hr ?_; (case ho => rfl); (case hg => rfl); (case hn => rfl); (case hr => first | (go_simp; done) | (go_simp; rfl)); intro w13 hw; have hg : w11.grownBy w13 (some go10) := (by rw [hw]; exact HP12.2); have hp_ : Kd.R k63 63 w13 w.heap.size (fun _ => True) (.slice (some ⟨go10, 0, none⟩) x3_1.length co10) y109 := (by rw [hw, Ny109.out]; exact HP12.1); clear HP12; replace HO_3 := zM (hp_); replace HB := zM ((by rw [hw]; exact bJ (bJ (HB.out) GB10.out) GB10.out : Below w.heap.size w w13)); clear hg hw hp_))
     go_roundg k1
     case measure => have := HK1.out; omega
     case rel => exact ⟨(y109), (wrap64 (x4_1 + 1)), (by first | rfl | (simp; done) | (simp [*]; done)), H', ⟨by have := HK1.out; omega⟩, ⟨zR HO_3.out⟩, ⟨zB⟩⟩
   · rw [if_neg c6] at H
     have c6b0 : decide (x4_1 < (l0.length : Int)) = false := ao c6
     clear c6
     obtain rfl := ap H
     go_wp2
     go_ret
     exact ⟨_, by first | rfl | (simp [al, ak] <;> rfl) | (simp [*, al, ak] <;> rfl), by (with_reducible repeat (first | apply Kd.R_alloc | apply Kd.R_drewN | apply Kd.R_drew)); exact HO_3.out, zB⟩
def im (k : Nat) (a0_0 : Int) (l0_1 : List (S63)) : Option (Int × (List (S63))) := (il k l0_1).bind fun t113 => (some (a0_0, t113))
theorem kg (k : Nat) (a0_0 : Int) (A0_1 : Option Addr) (c0_1 : Nat) (l0_1 : List (S63)) (r1 : Int) (r2 : List (S63)) (w : World) (hr0_1 : Kd.C k63 w A0_1 l0_1.length l0_1) (hc0_1 : l0_1.length ≤ c0_1) (h : im k a0_0 l0_1 = some (r1, r2)) :
 Calls Tryz.prog 7 #[.agg #[.int .i64 a0_0, .slice A0_1 l0_1.length c0_1]] w fun e w' => ∃ v1_ : Value, e = .returned (.agg #[.int .i64 r1, v1_]) ∧ Kd.R k63 63 w' w.heap.size (fun _ => True) v1_ r2 ∧ Below w.heap.size w w' := by
 have hu24 := Tryz.underlying24
 have hu29 := Tryz.underlying29
 have HR0_1 := Aside0.mk hr0_1
 have HC0_1 := Aside0.mk hc0_1
 clear hr0_1 hc0_1
 have HB := zM (Below.refl w.heap.size w)
 have H := h
 unfold im at H
 clear h
 replace H := av H
 obtain ⟨t113, A20, H⟩ := H
 try dsimp only at H
 have A2 := Aside0.mk A20
 clear A20
 simp only [Option.some.injEq, Prod.mk.injEq] at H
 obtain ⟨rfl, rfl⟩ := H
 go_enter Tryz.func7, Tryz.ntmps7
 go_wp2_with (first | ((with_reducible refine au (N := 1) rfl ?_); refine zb (w := w) 1 #[.int .i64 a0_0, .slice A0_1 l0_1.length c0_1] 24 zB ?_; clear HB; intro gb110 w3 HB BK110 GW110; have GE110 := GW110) | ((with_reducible refine au (N := 2) rfl ?_); refine ze 2 #[.int .i64 0, .slice none 0 0] 29 ?_; intro gb111 hg w4 hbox hb; have BK111 := zM (hbox); have GW111 := zM ((by rw [hg]; exact (am zB) : w.heap.size ≤ gb111)); have GE111 := zM ((by rw [hg]; exact (am zB) : w.heap.size ≤ gb111)); replace HB := zM (ag zB hb); have NB110_111 := zM ((by rw [hg]; exact Nat.ne_of_lt (aH (g := gb110) (o := .cells #[.int .i64 a0_0, .slice A0_1 l0_1.length c0_1] 24 (0, 0)) (zK BK110.out)) : gb110 ≠ gb111)); have NB111_110 := zM ((by rw [hg]; exact Nat.ne_of_gt (aH (g := gb110) (o := .cells #[.int .i64 a0_0, .slice A0_1 l0_1.length c0_1] 24 (0, 0)) (zK BK110.out)) : gb111 ≠ gb110)); replace BK110 := zJ BK110 hb; clear hb hbox hg) | ((with_reducible refine au (N := 3) rfl ?_); refine ze 3 #[.int .i64 0, .slice none 0 0] 29 ?_; intro gb112 hg w5 hbox hb; have BK112 := zM (hbox); have GW112 := zM ((by rw [hg]; exact (am zB) : w.heap.size ≤ gb112)); have GE112 := zM ((by rw [hg]; exact (am zB) : w.heap.size ≤ gb112)); replace HB := zM (ag zB hb); have NB110_112 := zM ((by rw [hg]; exact Nat.ne_of_lt (aH (g := gb110) (o := .cells #[.int .i64 a0_0, .slice A0_1 l0_1.length c0_1] 24 (0, 0)) (zK BK110.out)) : gb110 ≠ gb112)); have NB112_110 := zM ((by rw [hg]; exact Nat.ne_of_gt (aH (g := gb110) (o := .cells #[.int .i64 a0_0, .slice A0_1 l0_1.length c0_1] 24 (0, 0)) (zK BK110.out)) : gb112 ≠ gb110)); replace BK110 := zJ BK110 hb; have NB111_112 := zM ((by rw [hg]; exact Nat.ne_of_lt (aH (g := gb111) (o := .cells #[.int .i64 0, .slice none 0 0] 29 (0, 0)) (zK BK111.out)) : gb111 ≠ gb112)); have NB112_111 := zM ((by rw [hg]; exact Nat.ne_of_gt (aH (g := gb111) (o := .cells #[.int .i64 0, .slice none 0 0] 29 (0, 0)) (zK BK111.out)) : gb112 ≠ gb111)); replace BK111 := zJ BK111 hb; clear hb hbox hg; have hnb6 := NB110_111.out; have hnc6 := NB111_110.out; have hnb7 := NB110_112.out; have hnc7 := NB112_110.out; have hcz8_0 := zy BK110 0; have hcz8_1 := zy BK110 1; have hfz8_0 := ae BK110.out 0; have hfz8_1 := ae BK110.out 1; have hnb9 := NB112_111.out; have hnc9 := NB111_112.out; have hcz10_0 := zy BK112 0; have hcz10_1 := zy BK112 1; have hfz10_0 := ae BK112.out 0; have hfz10_1 := ae BK112.out 1) | ((with_reducible refine ax (f := 21) rfl ?_); refine zc 9 Tryz.func21 #[.slice A0_1 l0_1.length c0_1] ?_; (with_reducible refine (qZ k _ _ l0_1 t113 _ ?side1 ?side2 A2.out).mono ?_); (case side1 => exact Kd.C_below HR0_1.out zB); (case side2 => exact HC0_1.out); rintro e w11 ⟨v114, rfl, ho0, hb⟩; refine ⟨_, rfl, ?_⟩; have HO115 := zM (Kd.R_lower ho0 (am zB)); replace BK110 := zM (bw (g := gb110) (o := .cells #[.int .i64 a0_0, .slice A0_1 l0_1.length c0_1] 24 (0, 0)) (by (with_reducible repeat (first | refine ay ?_ _ | refine aq ?_ | refine aw ?_ _)); refine bG ?_ NB110_112.out _; (with_reducible repeat (first | refine ay ?_ _ | refine aq ?_ | refine aw ?_ _)); exact BK110.out) hb); replace BK111 := zM (bw (g := gb111) (o := .cells #[.int .i64 0, .slice none 0 0] 29 (0, 0)) (by (with_reducible repeat (first | refine ay ?_ _ | refine aq ?_ | refine aw ?_ _)); refine bG ?_ NB111_112.out _; (with_reducible repeat (first | refine ay ?_ _ | refine aq ?_ | refine aw ?_ _)); exact BK111.out) hb); replace BK112 := zM (bw (g := gb112) (o := .cells #[.int .i64 a0_0, .slice none 0 0] 29 (0, 0)) (by (with_reducible repeat (first | refine ay ?_ _ | refine aq ?_ | refine aw ?_ _)); refine aK (cs := #[.int .i64 0, .slice none 0 0]) ?_ 0 _ rfl; (with_reducible repeat (first | refine ay ?_ _ | refine aq ?_ | refine aw ?_ _)); exact BK112.out) hb); replace HB := zM (ag zB hb); (try clear hb); (try clear ho0); obtain ⟨Ao12, co12, eo12⟩ := Kd.R_slice HO115.out; subst eo12; have hcz13_0 := zy BK112 0; have hcz13_1 := zy BK112 1; have hfz13_0 := ae BK112.out 0; have hfz13_1 := ae BK112.out 1; have hcz14_0 := zy BK111 0; have hcz14_1 := zy BK111 1; have hfz14_0 := ae BK111.out 0; have hfz14_1 := ae BK111.out 1))
 refine bodyPost_ret (results_cell_row rfl _ _ gb111 29 #[.int .i64 a0_0, .slice Ao12 t113.length co12] (0, 0) _ rfl (by (with_reducible repeat (first | refine ay ?_ _ | refine aq ?_ | refine aw ?_ _)); refine aK (cs := #[.int .i64 a0_0, .slice none 0 0]) ?_ 1 _ rfl; (with_reducible repeat (first | refine ay ?_ _ | refine aq ?_ | refine aw ?_ _)); refine aK (cs := #[.int .i64 0, .slice none 0 0]) ?_ 0 _ rfl; (with_reducible repeat (first | refine ay ?_ _ | refine aq ?_ | refine aw ?_ _)); refine bG ?_ NB111_112.out _; (with_reducible repeat (first | refine ay ?_ _ | refine aq ?_ | refine aw ?_ _)); exact BK111.out) Tryz.underlying29 rfl (by kernel_rfl)) rfl ?_
 exact ⟨_, by first | rfl | (simp [al, ak] <;> rfl) | (simp [*, al, ak] <;> rfl), by (with_reducible repeat (first | apply Kd.R_alloc | apply Kd.R_drewN | apply Kd.R_drew)); exact Kd.R_mono (Kd.R_far (p := ⟨gb111, 1, none⟩) (Kd.R_far (p := ⟨gb111, 0, none⟩) (Kd.R_far (p := ⟨gb112, 1, none⟩) (Kd.R_types (Kd.R_types HO115.out BK112.out (by decide)) BK111.out (by decide)) (fun _ hk => hk.1.2) (.slice Ao12 t113.length co12)) (fun _ hk => hk.2) (.int .i64 a0_0)) (fun _ hk => hk.2) (.slice Ao12 t113.length co12)) (fun _ hk => trivial), zB⟩
def dV : Nat → List Int → List Int → Int → Option (List Int)
 | 0, _, _, _ => none
 | k + 1, x0, x3, x4 => if x4 < (x0.length : Int) then (if 0 ≤ x4 then (if x4 < (x3.length : Int) then (dV k x0 (x3.set (x4 : Int).toNat (rd x0 x4)) (wrap64 (x4 + 1))) else (none)) else (none)) else (some x3)
def gF (k : Nat) (l0 : List Int) : Option (List Int) := if 0 ≤ (l0.length : Int) then (if ((l0.length : Int) : Int).toNat ≤ 35184372088832 then (dV k l0 (List.replicate ((l0.length : Int) : Int).toNat 0) 0) else (none)) else (none)
theorem gG (k : Nat) (A0 : Option Addr) (c0 : Nat) (l0 : List Int) (r : List Int) (w : World) (hr0 : Kd.C (Kd.int .i64) w A0 l0.length l0) (hc0 : l0.length ≤ c0) (h : gF k l0 = some r) :
 Calls Tryz.prog 8 #[.slice A0 l0.length c0] w fun e w' => ∃ v0_ : Value, e = .returned (v0_) ∧ Kd.R (Kd.int .i64) 3 w' w.heap.size (fun _ => True) v0_ r ∧ Below w.heap.size w w' := by
 have HR0 := Aside0.mk hr0
 have HC0 := Aside0.mk hc0
 clear hr0 hc0
 have HB := zM (Below.refl w.heap.size w)
 have H := h
 unfold gF at H
 clear h
 by_cases c2 : 0 ≤ (l0.length : Int)
 case neg => rw [if_neg c2] at H; simp at H
 rw [if_pos c2] at H
 have c2b0 := eq_true c2
 have c2b1 : decide (0 ≤ (l0.length : Int)) = true := af c2
 clear c2
 by_cases c3 : ((l0.length : Int) : Int).toNat ≤ 35184372088832
 case neg => rw [if_neg c3] at H; simp at H
 rw [if_pos c3] at H
 have c3b0 := eq_true c3
 have c3b1 : decide (((l0.length : Int) : Int).toNat ≤ 35184372088832) = true := af c3
 clear c3
 obtain ⟨y116, hy116⟩ : ∃ y_ : List Int, y_ = (List.replicate ((l0.length : Int) : Int).toNat 0) := ⟨_, rfl⟩
 replace H : (dV k l0 y116 0) = some r := by first | (rw [hy116]; with_reducible exact H) | (have H2_ := (Option.bind_some _ _).symm.trans H; rw [hy116]; with_reducible exact H2_) | (have H2_ := (Option.bind_some _ _).symm.trans H; with_reducible exact H2_) | with_reducible exact H | (rw [hy116]; exact H) | exact H
 have Ny116 := Aside0.mk hy116
 clear hy116
 have H' := Aside0.mk H
 clear H
 go_enter Tryz.func8, Tryz.ntmps8
 go_wp2_with (first | ((with_reducible refine au (N := 7) rfl ?_); refine Kd.R_make (Kd.int .i64) _ 3 rfl (N := 7) rfl 25 _ _ rfl (l0.length : Int) rfl rfl Tryz.underlying25 (.int .i64 0) 8 bv rfl (by decide) (by omega) 0 (ok := fun _ => True) (okp := fun _ => True) rfl (fun _ hk => hk) trivial (ac zA) (Nat.le_trans (Nat.mul_le_mul_right _ (ac zA : (l0.length : Int).toNat ≤ 35184372088832)) (by omega)) (Below.refl _ _) (ar _) ?_; intro v117 w4 ho5 hb hg_ hnew_; clear hg_ hnew_; (first | rw [← Ny116.out] at ho5 | (simp only [Int.reduceToNat] at ho5; rw [← Ny116.out] at ho5)); have HO118 := zM (Kd.R_lower ho5 (am zB)); replace HB := zM (ag zB hb); clear hb ho5))
 go_loopg [4] k (fun kq v4 w' => ∃ (x3_1 : List Int) (x4_1 : Int), v4 = .int .i64 x4_1 ∧ Aside0 (dV kq l0 x3_1 x4_1 = some r) ∧ Aside0 (kq ≤ k) ∧ Aside0 (Kd.R (Kd.int .i64) 3 w' w.heap.size (fun _ => True) v117 x3_1) ∧ Aside0 (Below w.heap.size w w'))
 case atStart => exact ⟨(y116), (0), (by first | rfl | (simp; done) | (simp [*]; done)), H', ⟨ar _⟩, ⟨zR HO118.out⟩, ⟨zB⟩⟩
 case round =>
  clear H'
  try clear c2
  try clear c2b0
  try clear c2b1
  try clear p2
  try clear c3
  try clear c3b0
  try clear c3b1
  obtain ⟨x3_1, x4_1, rfl, HA, HK1, HO_3, HB⟩ := hrel
  cases gk with
  | zero => exact absurd HA.out (by simp [dV])
  | succ k1 =>
   have H := HA.out
   clear HA
   simp only [dV] at H
   by_cases c6 : x4_1 < (l0.length : Int)
   · rw [if_pos c6] at H
     have c6b0 := af c6
     clear c6
     by_cases c7 : 0 ≤ x4_1
     case neg => rw [if_neg c7] at H; simp at H
     rw [if_pos c7] at H
     have c7b0 := af c7
     clear c7
     by_cases c8 : x4_1 < (x3_1.length : Int)
     case neg => rw [if_neg c8] at H; simp at H
     rw [if_pos c8] at H
     have c8b0 := af c8
     clear c8
     obtain ⟨y120, hy120⟩ : ∃ y_ : List Int, y_ = (x3_1.set (x4_1 : Int).toNat (rd l0 x4_1)) := ⟨_, rfl⟩
     replace H : (dV k1 l0 y120 (wrap64 (x4_1 + 1))) = some r := by first | (rw [hy120]; with_reducible exact H) | (have H2_ := (Option.bind_some _ _).symm.trans H; rw [hy120]; with_reducible exact H2_) | (have H2_ := (Option.bind_some _ _).symm.trans H; with_reducible exact H2_) | with_reducible exact H | (rw [hy120]; exact H) | exact H
     have Ny120 := Aside0.mk hy120
     clear hy120
     have H' := Aside0.mk H
     clear H
     have p119 : 0 ≤ (x4_1 : Int) := ac zA
     have q119 : x4_1 < (l0.length : Int) := ac zA
     obtain ⟨ad119, e119, hx119_0⟩ := Kd.at_int HR0.out x4_1 p119 q119
     cases e119
     (try replace hx119_0 := (HB.out.cell (aj w _ hx119_0)).trans hx119_0)
     replace p119 := eq_true p119
     replace q119 := eq_true q119
     have p9 : 0 ≤ (x4_1 : Int) := ac zA
     have q9 : (x4_1 : Int) < ((x3_1.length : Int) : Int) := ac zA
     obtain ⟨go9, co9, eo9, gb9, gl9, cl9, HG9⟩ := Kd.R_form HO_3.out (by omega)
     (first | cases eo9 | (injection eo9 with ea_ en_ ec_; (first | subst ea_ | (injection ea_ with ea_; subst ea_)); subst ec_; clear en_))
     have GB9 := Aside0.mk gb9
     have GG9 := Aside0.mk HG9
     clear gb9 gl9 HG9
     obtain ⟨hx9_0, hf9_0⟩ := Kd.R_celln 0 HO_3.out (x4_1 : Int) p9 q9
     replace p9 := eq_true p9
     replace q9 := eq_true q9
     have HP10 := Kd.R_putg HO_3.out (x4_1 : Int) (rd l0 x4_1)
     go_wp2_with (first | ((with_reducible refine fR (t := 3) (p := 20) rfl ?_); refine fz (t := 3) (p := 20) (v := ?vo_w11) (w1 := (wr.setCell ⟨go9, (x4_1 : Int).toNat, none⟩ (.int .i64 (rd l0 x4_1)))) ?hg ?ho ?hn ?hr ?_; (case ho => rfl); (case hg => rfl); (case hn => rfl); (case hr => first | (go_simp; done) | (go_simp; rfl)); intro w11 hw; have hg : wr.grownBy w11 (some go9) := (by rw [hw]; exact HP10.2); have hp_ : Kd.R (Kd.int .i64) 3 w11 w.heap.size (fun _ => True) (.slice (some ⟨go9, 0, none⟩) x3_1.length co9) y120 := (by rw [hw, Ny120.out]; exact HP10.1); clear HP10; replace HO_3 := zM (hp_); replace HB := zM ((by rw [hw]; exact bJ (HB.out) GB9.out : Below w.heap.size w w11)); clear hg hw hp_))
     go_roundg k1
     case measure => have := HK1.out; omega
     case rel => exact ⟨(y120), (wrap64 (x4_1 + 1)), (by first | rfl | (simp; done) | (simp [*]; done)), H', ⟨by have := HK1.out; omega⟩, ⟨zR HO_3.out⟩, ⟨zB⟩⟩
   · rw [if_neg c6] at H
     have c6b0 : decide (x4_1 < (l0.length : Int)) = false := ao c6
     clear c6
     obtain rfl := ap H
     go_wp2
     go_ret
     exact ⟨_, by first | rfl | (simp [al, ak] <;> rfl) | (simp [*, al, ak] <;> rfl), by (with_reducible repeat (first | apply Kd.R_alloc | apply Kd.R_drewN | apply Kd.R_drew)); exact HO_3.out, zB⟩
def fk : Nat → List (S63) → List (S63) → Int → Option (Bool)
 | 0, _, _, _ => none
 | k + 1, x0, x1, x5 => if x5 < (x0.length : Int) then (if 0 ≤ x5 then (if x5 < (x1.length : Int) then ((ji ((aa x0 x5).f0) ((aa x0 x5).f1) ((aa x1 x5).f0) ((aa x1 x5).f1)).bind fun t123 => (if t123 = true then (fk k x0 x1 (wrap64 (x5 + 1))) else (some false))) else (none)) else (none)) else (some true)
def ip (k : Nat) (l0 : List (S63)) (l1 : List (S63)) : Option (Bool) := if (l0.length : Int) = (l1.length : Int) then (fk k l0 l1 0) else (some false)
def laws_eqIntA2S.T6 : Bool × List (List Nat × List Nat) := (true, [([], []), ([], []), ([0, 1], [0, 1]), ([2], [2]), ([], []), ([], []), ([4, 5], [4, 5]), ([6], [6]), ([3, 7], [3, 7]), ([8], [8])])
def q7 : List Nat := [0, 0, 3, 7, 0, 0, 48, 112, 255, 511]
theorem mQ : aQ .any (ct Tryz.f25 6) = laws_eqIntA2S.T6 := by kernel_rfl
theorem mS : bK laws_eqIntA2S.T6.2 q7 = true := by kernel_rfl
theorem mR (k : Nat) (A0 : Option Addr) (c0 : Nat) (l0 : List (S63)) (A1 : Option Addr) (c1 : Nat) (l1 : List (S63)) (r : Bool) (w : World) (hr0 : Kd.C k63 w A0 l0.length l0) (hc0 : l0.length ≤ c0) (hr1 : Kd.C k63 w A1 l1.length l1) (hc1 : l1.length ≤ c1) (h : ip k l0 l1 = some r) :
 Calls Tryz.prog 25 #[.slice A0 l0.length c0, .slice A1 l1.length c1] w fun e w' => e = .returned (.bool r) ∧ Below w.heap.size w w' := by
 have hu63 := Tryz.underlying63
 have HR0 := Aside0.mk hr0
 have HC0 := Aside0.mk hc0
 clear hr0 hc0
 have HR1 := Aside0.mk hr1
 have HC1 := Aside0.mk hc1
 clear hr1 hc1
 have HB := zM (Below.refl w.heap.size w)
 have H := h
 unfold ip at H
 clear h
 by_cases c3 : (l0.length : Int) = (l1.length : Int)
 · rw [if_pos c3] at H
   have c3b0 : ((l0.length : Int) == (l1.length : Int)) = true := beq_iff_eq.mpr c3
   have c3b1 : ((l0.length : Int) != (l1.length : Int)) = false := bne_eq_false_iff_eq.mpr c3
   have c3b2 : (l0.length == l1.length) = true := by first | simpa using c3 | (simp at c3 ⊢; omega)
   clear c3
   have H' := Aside0.mk H
   clear H
   go_enter Tryz.func25, Tryz.ntmps25
   go_wp2
   go_loopg [5] k (fun kq v5 w' => ∃ (x5_1 : Int), v5 = .int .i64 x5_1 ∧ Aside0 (fk kq l0 l1 x5_1 = some r) ∧ Aside0 (kq ≤ k) ∧ Aside0 (Below w.heap.size w w'))
   case atStart => exact ⟨(0), (by first | rfl | (simp; done) | (simp [*]; done)), H', ⟨ar _⟩, ⟨zB⟩⟩
   case round =>
    clear H'
    try clear c1
    try clear c2
    try clear p2
    try clear c3
    try clear c3b0
    try clear c3b1
    try clear c3b2
    obtain ⟨x5_1, rfl, HA, HK1, HB⟩ := hrel
    cases gk with
    | zero => exact absurd HA.out (by simp [fk])
    | succ k1 =>
     have H := HA.out
     clear HA
     simp only [fk] at H
     by_cases c4 : x5_1 < (l0.length : Int)
     · rw [if_pos c4] at H
       have c4b0 := af c4
       clear c4
       by_cases c5 : 0 ≤ x5_1
       case neg => rw [if_neg c5] at H; simp at H
       rw [if_pos c5] at H
       have c5b0 := af c5
       clear c5
       by_cases c6 : x5_1 < (l1.length : Int)
       case neg => rw [if_neg c6] at H; simp at H
       rw [if_pos c6] at H
       have c6b0 := af c6
       clear c6
       replace H := av H
       obtain ⟨t123, A70, H⟩ := H
       have A7 := Aside0.mk A70
       clear A70
       by_cases c8 : t123 = true
       · subst c8
         rw [if_pos rfl] at H
         have H' := Aside0.mk H
         clear H
         try go_wp2
         replace HB := zM (aD HB.out)
         have p121 : 0 ≤ (x5_1 : Int) := ac zA
         have q121 : x5_1 < (l0.length : Int) := ac zA
         obtain ⟨ad121, e121, hx121_0, hx121_1⟩ := bp HR0.out x5_1 p121 q121
         have hw121_1 := hx121_1
         have hw121_0 := hx121_0
         cases e121
         (try replace hx121_0 := (HB.out.cell (aj w _ hx121_0)).trans hx121_0)
         (try replace hx121_1 := (HB.out.cell (aj w _ hx121_1)).trans hx121_1)
         replace p121 := eq_true p121
         replace q121 := eq_true q121
         have p122 : 0 ≤ (x5_1 : Int) := ac zA
         have q122 : x5_1 < (l1.length : Int) := ac zA
         obtain ⟨ad122, e122, hx122_0, hx122_1⟩ := bp HR1.out x5_1 p122 q122
         have hw122_1 := hx122_1
         have hw122_0 := hx122_0
         cases e122
         (try replace hx122_0 := (HB.out.cell (aj w _ hx122_0)).trans hx122_0)
         (try replace hx122_1 := (HB.out.cell (aj w _ hx122_1)).trans hx122_1)
         replace p122 := eq_true p122
         replace q122 := eq_true q122
         refine zs (n := 10) (fun w' => w'.cell? (ad121.add ((x5_1).toNat * 2)) = some (.int .i64 ((aa l0 x5_1).f0)) ∧ w'.cell? ⟨(ad121.add ((x5_1).toNat * 2)).block, (ad121.add ((x5_1).toNat * 2)).off + 1, none⟩ = some (.int .i64 ((aa l0 x5_1).f1)) ∧ w'.cell? (ad122.add ((x5_1).toNat * 2)) = some (.int .i64 ((aa l1 x5_1).f0)) ∧ w'.cell? ⟨(ad122.add ((x5_1).toNat * 2)).block, (ad122.add ((x5_1).toNat * 2)).off + 1, none⟩ = some (.int .i64 ((aa l1 x5_1).f1))) ⟨((HB.out.cell (aj w _ hw121_0)).trans hw121_0), ((HB.out.cell (aj w _ hw121_1)).trans hw121_1), ((HB.out.cell (aj w _ hw122_0)).trans hw122_0), ((HB.out.cell (aj w _ hw122_1)).trans hw122_1)⟩ (fun hHeld => ?_); refine aX mQ mS (fun HT_ HW_ => ?_)
         generalize wr.drew = w9 at HB hx121_0 hx121_1 hx122_0 hx122_1 hHeld ⊢
         refine zp HT_ 0 17 ?_
         refine zp HT_ 1 18 ?_
         refine zp HT_ 2 19 ?_
         refine zp HT_ 4 21 ?_
         refine zp HT_ 5 22 ?_
         refine zp HT_ 6 23 ?_
         refine zt HT_ HW_ 3 20 hHeld ?_ (hy := by rintro w' ⟨s0, s1, s2, s3⟩; go_simp; with_reducible rfl)
         refine zt HT_ HW_ 7 24 hHeld ?_ (hy := by rintro w' ⟨s0, s1, s2, s3⟩; go_simp; with_reducible rfl)
         refine zg HT_ 8 25 Tryz.func52 #[.agg #[.int .i64 ((aa l0 x5_1).f0), .int .i64 ((aa l0 x5_1).f1)], .agg #[.int .i64 ((aa l1 x5_1).f0), .int .i64 ((aa l1 x5_1).f1)]] (fun K hK => ?_)
         with_reducible refine (mT ((aa l0 x5_1).f0) ((aa l0 x5_1).f1) ((aa l1 x5_1).f0) ((aa l1 x5_1).f1) true _ A7.out).mono ?_
         rintro e w10 ⟨rfl, hb⟩
         refine ⟨_, rfl, ?_⟩
         replace HB := zM (ag zB hb)
         (try clear hb)
         refine hK.out _ _ ⟨((HB.out.cell (aj w _ hw121_0)).trans hw121_0), ((HB.out.cell (aj w _ hw121_1)).trans hw121_1), ((HB.out.cell (aj w _ hw122_0)).trans hw122_0), ((HB.out.cell (aj w _ hw122_1)).trans hw122_1)⟩ (fun hHeld => ?_)
         clear hK K
         refine zn 25 ?_
         refine zp HT_ 9 26 ?_
         refine zo HT_ ?_
         try go_wp2
         go_roundg k1
         case measure => have := HK1.out; omega
         case rel => exact ⟨(wrap64 (x5_1 + 1)), (by first | rfl | (simp; done) | (simp [*]; done)), H', ⟨by have := HK1.out; omega⟩, ⟨zB⟩⟩
       · replace c8 := Bool.eq_false_iff.mpr c8
         subst c8
         rw [if_neg (show ¬ (false = true) by decide)] at H
         obtain rfl := ap H
         try go_wp2
         replace HB := zM (aD HB.out)
         have p121 : 0 ≤ (x5_1 : Int) := ac zA
         have q121 : x5_1 < (l0.length : Int) := ac zA
         obtain ⟨ad121, e121, hx121_0, hx121_1⟩ := bp HR0.out x5_1 p121 q121
         have hw121_1 := hx121_1
         have hw121_0 := hx121_0
         cases e121
         (try replace hx121_0 := (HB.out.cell (aj w _ hx121_0)).trans hx121_0)
         (try replace hx121_1 := (HB.out.cell (aj w _ hx121_1)).trans hx121_1)
         replace p121 := eq_true p121
         replace q121 := eq_true q121
         have p122 : 0 ≤ (x5_1 : Int) := ac zA
         have q122 : x5_1 < (l1.length : Int) := ac zA
         obtain ⟨ad122, e122, hx122_0, hx122_1⟩ := bp HR1.out x5_1 p122 q122
         have hw122_1 := hx122_1
         have hw122_0 := hx122_0
         cases e122
         (try replace hx122_0 := (HB.out.cell (aj w _ hx122_0)).trans hx122_0)
         (try replace hx122_1 := (HB.out.cell (aj w _ hx122_1)).trans hx122_1)
         replace p122 := eq_true p122
         replace q122 := eq_true q122
         refine zs (n := 10) (fun w' => w'.cell? (ad121.add ((x5_1).toNat * 2)) = some (.int .i64 ((aa l0 x5_1).f0)) ∧ w'.cell? ⟨(ad121.add ((x5_1).toNat * 2)).block, (ad121.add ((x5_1).toNat * 2)).off + 1, none⟩ = some (.int .i64 ((aa l0 x5_1).f1)) ∧ w'.cell? (ad122.add ((x5_1).toNat * 2)) = some (.int .i64 ((aa l1 x5_1).f0)) ∧ w'.cell? ⟨(ad122.add ((x5_1).toNat * 2)).block, (ad122.add ((x5_1).toNat * 2)).off + 1, none⟩ = some (.int .i64 ((aa l1 x5_1).f1))) ⟨((HB.out.cell (aj w _ hw121_0)).trans hw121_0), ((HB.out.cell (aj w _ hw121_1)).trans hw121_1), ((HB.out.cell (aj w _ hw122_0)).trans hw122_0), ((HB.out.cell (aj w _ hw122_1)).trans hw122_1)⟩ (fun hHeld => ?_); refine aX mQ mS (fun HT_ HW_ => ?_)
         generalize wr.drew = w11 at HB hx121_0 hx121_1 hx122_0 hx122_1 hHeld ⊢
         refine zp HT_ 0 17 ?_
         refine zp HT_ 1 18 ?_
         refine zp HT_ 2 19 ?_
         refine zp HT_ 4 21 ?_
         refine zp HT_ 5 22 ?_
         refine zp HT_ 6 23 ?_
         refine zt HT_ HW_ 3 20 hHeld ?_ (hy := by rintro w' ⟨s0, s1, s2, s3⟩; go_simp; with_reducible rfl)
         refine zt HT_ HW_ 7 24 hHeld ?_ (hy := by rintro w' ⟨s0, s1, s2, s3⟩; go_simp; with_reducible rfl)
         refine zg HT_ 8 25 Tryz.func52 #[.agg #[.int .i64 ((aa l0 x5_1).f0), .int .i64 ((aa l0 x5_1).f1)], .agg #[.int .i64 ((aa l1 x5_1).f0), .int .i64 ((aa l1 x5_1).f1)]] (fun K hK => ?_)
         with_reducible refine (mT ((aa l0 x5_1).f0) ((aa l0 x5_1).f1) ((aa l1 x5_1).f0) ((aa l1 x5_1).f1) false _ A7.out).mono ?_
         rintro e w12 ⟨rfl, hb⟩
         refine ⟨_, rfl, ?_⟩
         replace HB := zM (ag zB hb)
         (try clear hb)
         refine hK.out _ _ ⟨((HB.out.cell (aj w _ hw121_0)).trans hw121_0), ((HB.out.cell (aj w _ hw121_1)).trans hw121_1), ((HB.out.cell (aj w _ hw122_0)).trans hw122_0), ((HB.out.cell (aj w _ hw122_1)).trans hw122_1)⟩ (fun hHeld => ?_)
         clear hK K
         refine zn 25 ?_
         refine zp HT_ 9 26 ?_
         refine zo HT_ ?_
         try go_wp2
         go_ret
         exact ⟨by first | rfl | (simp [al, ak] <;> rfl) | (simp [*, al, ak] <;> rfl), zB⟩
     · rw [if_neg c4] at H
       have c4b0 : decide (x5_1 < (l0.length : Int)) = false := ao c4
       clear c4
       obtain rfl := ap H
       go_wp2
       go_ret
       exact ⟨by first | rfl | (simp [al, ak] <;> rfl) | (simp [*, al, ak] <;> rfl), zB⟩
 · rw [if_neg c3] at H
   have c3b0 : ((l0.length : Int) == (l1.length : Int)) = false := beq_eq_false_iff_ne.mpr c3
   have c3b1 : ((l0.length : Int) != (l1.length : Int)) = true := bne_iff_ne.mpr c3
   have c3b2 : (l0.length == l1.length) = false := by first | simpa using c3 | (simp at c3 ⊢; omega)
   obtain rfl := ap H
   go_enter Tryz.func25, Tryz.ntmps25
   go_wp2
   go_ret
   exact ⟨by first | rfl | (simp [al, ak] <;> rfl) | (simp [*, al, ak] <;> rfl), zB⟩
def iq (k : Nat) (a0_0 : Int) (l0_1 : List (S63)) (a1_0 : Int) (l1_1 : List (S63)) : Option (Bool) := if a0_0 = a1_0 then ((ip k l0_1 l1_1).bind fun t126 => (if t126 = true then (some true) else (some false))) else (some false)
theorem q8 (k : Nat) (a0_0 : Int) (A0_1 : Option Addr) (c0_1 : Nat) (l0_1 : List (S63)) (a1_0 : Int) (A1_1 : Option Addr) (c1_1 : Nat) (l1_1 : List (S63)) (r : Bool) (w : World) (hr0_1 : Kd.C k63 w A0_1 l0_1.length l0_1) (hc0_1 : l0_1.length ≤ c0_1) (hr1_1 : Kd.C k63 w A1_1 l1_1.length l1_1) (hc1_1 : l1_1.length ≤ c1_1) (h : iq k a0_0 l0_1 a1_0 l1_1 = some r) :
 Calls Tryz.prog 11 #[.agg #[.int .i64 a0_0, .slice A0_1 l0_1.length c0_1], .agg #[.int .i64 a1_0, .slice A1_1 l1_1.length c1_1]] w fun e w' => e = .returned (.bool r) ∧ Below w.heap.size w w' := by
 have hu29 := Tryz.underlying29
 have HR0_1 := Aside0.mk hr0_1
 have HC0_1 := Aside0.mk hc0_1
 clear hr0_1 hc0_1
 have HR1_1 := Aside0.mk hr1_1
 have HC1_1 := Aside0.mk hc1_1
 clear hr1_1 hc1_1
 have HB := zM (Below.refl w.heap.size w)
 have H := h
 unfold iq at H
 clear h
 by_cases c3 : a0_0 = a1_0
 · rw [if_pos c3] at H
   have c3b0 : (a0_0 == a1_0) = true := beq_iff_eq.mpr c3
   have c3b1 : (a0_0 != a1_0) = false := bne_eq_false_iff_eq.mpr c3
   clear c3
   replace H := av H
   obtain ⟨t126, A40, H⟩ := H
   have A4 := Aside0.mk A40
   clear A40
   by_cases c5 : t126 = true
   · subst c5
     rw [if_pos rfl] at H
     obtain rfl := ap H
     go_enter Tryz.func11, Tryz.ntmps11
     go_wp2_with (first | ((with_reducible refine au (N := 2) rfl ?_); refine zb (w := w) 2 #[.int .i64 a0_0, .slice A0_1 l0_1.length c0_1] 29 zB ?_; clear HB; intro gb124 w6 HB BK124 GW124; have GE124 := GW124) | ((with_reducible refine au (N := 3) rfl ?_); refine ze 3 #[.int .i64 a1_0, .slice A1_1 l1_1.length c1_1] 29 ?_; intro gb125 hg w7 hbox hb; have BK125 := zM (hbox); have GW125 := zM ((by rw [hg]; exact (am zB) : w.heap.size ≤ gb125)); have GE125 := zM ((by rw [hg]; exact (am zB) : w.heap.size ≤ gb125)); replace HB := zM (ag zB hb); have NB124_125 := zM ((by rw [hg]; exact Nat.ne_of_lt (aH (g := gb124) (o := .cells #[.int .i64 a0_0, .slice A0_1 l0_1.length c0_1] 29 (0, 0)) (zK BK124.out)) : gb124 ≠ gb125)); have NB125_124 := zM ((by rw [hg]; exact Nat.ne_of_gt (aH (g := gb124) (o := .cells #[.int .i64 a0_0, .slice A0_1 l0_1.length c0_1] 29 (0, 0)) (zK BK124.out)) : gb125 ≠ gb124)); replace BK124 := zJ BK124 hb; clear hb hbox hg; have hnb8 := NB124_125.out; have hnc8 := NB125_124.out; have hcz9_0 := zy BK124 0; have hcz9_1 := zy BK124 1; have hfz9_0 := ae BK124.out 0; have hfz9_1 := ae BK124.out 1; have hcz10_0 := zy BK125 0; have hcz10_1 := zy BK125 1; have hfz10_0 := ae BK125.out 0; have hfz10_1 := ae BK125.out 1) | ((with_reducible refine ax (f := 25) rfl ?_); refine zc 14 Tryz.func25 #[.slice A0_1 l0_1.length c0_1, .slice A1_1 l1_1.length c1_1] ?_; (with_reducible refine (mR k _ _ l0_1 _ _ l1_1 true _ ?side1 ?side2 ?side3 ?side4 A4.out).mono ?_); (case side1 => exact zC (Kd.C_below HR0_1.out HB.out)); (case side2 => exact HC0_1.out); (case side3 => exact zC (Kd.C_below HR1_1.out HB.out)); (case side4 => exact HC1_1.out); rintro e w11 ⟨rfl, hb⟩; refine ⟨_, rfl, ?_⟩; replace BK124 := zJ BK124 hb; replace BK125 := zJ BK125 hb; replace HB := zM (ag zB hb); (try clear hb); (try clear hi)))
     go_ret
     exact ⟨by first | rfl | (simp [al, ak] <;> rfl) | (simp [*, al, ak] <;> rfl), zB⟩
   · replace c5 := Bool.eq_false_iff.mpr c5
     subst c5
     rw [if_neg (show ¬ (false = true) by decide)] at H
     obtain rfl := ap H
     go_enter Tryz.func11, Tryz.ntmps11
     go_wp2_with (first | ((with_reducible refine au (N := 2) rfl ?_); refine zb (w := w) 2 #[.int .i64 a0_0, .slice A0_1 l0_1.length c0_1] 29 zB ?_; clear HB; intro gb124 w12 HB BK124 GW124; have GE124 := GW124) | ((with_reducible refine au (N := 3) rfl ?_); refine ze 3 #[.int .i64 a1_0, .slice A1_1 l1_1.length c1_1] 29 ?_; intro gb125 hg w13 hbox hb; have BK125 := zM (hbox); have GW125 := zM ((by rw [hg]; exact (am zB) : w.heap.size ≤ gb125)); have GE125 := zM ((by rw [hg]; exact (am zB) : w.heap.size ≤ gb125)); replace HB := zM (ag zB hb); have NB124_125 := zM ((by rw [hg]; exact Nat.ne_of_lt (aH (g := gb124) (o := .cells #[.int .i64 a0_0, .slice A0_1 l0_1.length c0_1] 29 (0, 0)) (zK BK124.out)) : gb124 ≠ gb125)); have NB125_124 := zM ((by rw [hg]; exact Nat.ne_of_gt (aH (g := gb124) (o := .cells #[.int .i64 a0_0, .slice A0_1 l0_1.length c0_1] 29 (0, 0)) (zK BK124.out)) : gb125 ≠ gb124)); replace BK124 := zJ BK124 hb; clear hb hbox hg; have hnb14 := NB124_125.out; have hnc14 := NB125_124.out; have hcz15_0 := zy BK124 0; have hcz15_1 := zy BK124 1; have hfz15_0 := ae BK124.out 0; have hfz15_1 := ae BK124.out 1; have hcz16_0 := zy BK125 0; have hcz16_1 := zy BK125 1; have hfz16_0 := ae BK125.out 0; have hfz16_1 := ae BK125.out 1) | ((with_reducible refine ax (f := 25) rfl ?_); refine zc 14 Tryz.func25 #[.slice A0_1 l0_1.length c0_1, .slice A1_1 l1_1.length c1_1] ?_; (with_reducible refine (mR k _ _ l0_1 _ _ l1_1 false _ ?side1 ?side2 ?side3 ?side4 A4.out).mono ?_); (case side1 => exact zC (Kd.C_below HR0_1.out HB.out)); (case side2 => exact HC0_1.out); (case side3 => exact zC (Kd.C_below HR1_1.out HB.out)); (case side4 => exact HC1_1.out); rintro e w17 ⟨rfl, hb⟩; refine ⟨_, rfl, ?_⟩; replace BK124 := zJ BK124 hb; replace BK125 := zJ BK125 hb; replace HB := zM (ag zB hb); (try clear hb); (try clear hi)))
     go_ret
     exact ⟨by first | rfl | (simp [al, ak] <;> rfl) | (simp [*, al, ak] <;> rfl), zB⟩
 · rw [if_neg c3] at H
   have c3b0 : (a0_0 == a1_0) = false := beq_eq_false_iff_ne.mpr c3
   have c3b1 : (a0_0 != a1_0) = true := bne_iff_ne.mpr c3
   obtain rfl := ap H
   go_enter Tryz.func11, Tryz.ntmps11
   go_wp2_with (first | ((with_reducible refine au (N := 2) rfl ?_); refine zb (w := w) 2 #[.int .i64 a0_0, .slice A0_1 l0_1.length c0_1] 29 zB ?_; clear HB; intro gb124 w18 HB BK124 GW124; have GE124 := GW124) | ((with_reducible refine au (N := 3) rfl ?_); refine ze 3 #[.int .i64 a1_0, .slice A1_1 l1_1.length c1_1] 29 ?_; intro gb125 hg w19 hbox hb; have BK125 := zM (hbox); have GW125 := zM ((by rw [hg]; exact (am zB) : w.heap.size ≤ gb125)); have GE125 := zM ((by rw [hg]; exact (am zB) : w.heap.size ≤ gb125)); replace HB := zM (ag zB hb); have NB124_125 := zM ((by rw [hg]; exact Nat.ne_of_lt (aH (g := gb124) (o := .cells #[.int .i64 a0_0, .slice A0_1 l0_1.length c0_1] 29 (0, 0)) (zK BK124.out)) : gb124 ≠ gb125)); have NB125_124 := zM ((by rw [hg]; exact Nat.ne_of_gt (aH (g := gb124) (o := .cells #[.int .i64 a0_0, .slice A0_1 l0_1.length c0_1] 29 (0, 0)) (zK BK124.out)) : gb125 ≠ gb124)); replace BK124 := zJ BK124 hb; clear hb hbox hg; have hnb20 := NB124_125.out; have hnc20 := NB125_124.out; have hcz21_0 := zy BK124 0; have hcz21_1 := zy BK124 1; have hfz21_0 := ae BK124.out 0; have hfz21_1 := ae BK124.out 1; have hcz22_0 := zy BK125 0; have hcz22_1 := zy BK125 1; have hfz22_0 := ae BK125.out 0; have hfz22_1 := ae BK125.out 1))
   go_ret
   exact ⟨by first | rfl | (simp [al, ak] <;> rfl) | (simp [*, al, ak] <;> rfl), zB⟩
attribute [local go_sem] bl bh bi bd bj bf bk bg
set_option linter.unusedVariables false
set_option linter.unusedSimpArgs false
theorem ny {d : Nat} {e c : Nat} {xs ys : Array Value} {i : Nat} {is : List Nat} {a b : Value} {r s : Bool} {w : World} (ha : (part e xs (i * c)).run Tryz.prog w = .ok a w) (hb : (part e ys (i * c)).run Tryz.prog w = .ok b w) (he : (Op.equalIn d e a b).run Tryz.prog w = .ok r w) (hr : (Op.eqItems d e c xs ys is).run Tryz.prog w = .ok s w) : (Op.eqItems d e c xs ys (i :: is)).run Tryz.prog w = .ok (r && s) w := by
 rw [Op.eqItems]
 simp only [Sem.run_bind, ha, hb, he, Result.andThen_ok]
 cases r
 · simp
 · simpa using hr
theorem tq {d : Nat} {e c : Nat} {xs ys : Array Value} {i : Nat} {a b : Value} {r : Bool} {w : World} (ha : (part e xs (i * c)).run Tryz.prog w = .ok a w) (hb : (part e ys (i * c)).run Tryz.prog w = .ok b w) (he : (Op.equalIn d e a b).run Tryz.prog w = .ok r w) : (Op.eqItems d e c xs ys [i]).run Tryz.prog w = .ok r w := by
 have h := ny (is := []) (s := true) ha hb he (by simp [Op.eqItems])
 rwa [Bool.and_true] at h
theorem tw (d : Nat) (w : World) (x0 x1 y0 y1 : Int) :
 (Op.equalIn (d + 2) 63 (.agg #[.int .i64 x0, .int .i64 x1]) (.agg #[.int .i64 y0, .int .i64 y1])).run Tryz.prog w = .ok (x0 == y0 && (x1 == y1)) w := by
 obtain ⟨i_, hi_⟩ := Option.isSome_iff_exists.1 (by kernel_rfl : (Tryz.prog.info? 3).isSome = true)
 rw [show d + 2 = (d + 1) + 1 from rfl, run_equalIn_array w (d + 1) _ _ Tryz.underlying63 hi_, show Tryz.prog.cellsOf 3 = 1 from by kernel_rfl, show List.range 2 = [0, 1] from rfl]
 refine ny (by go_simp; rfl) (by go_simp; rfl) (by go_simp) ?_
 exact tq (by go_simp; rfl) (by go_simp; rfl) (by go_simp)
attribute [local go_sem] bl bh bi bd bj bf bk bg
set_option linter.unusedVariables false
set_option linter.unusedSimpArgs false
def d3 (a0 : Int) (a1 : Int) (a2 : Int) : Option (Bool) := if a0 ≥ a1 then (some (decide (a0 ≤ a2))) else (some false)
theorem eG (a0 : Int) (a1 : Int) (a2 : Int) (r : Bool) (w : World) (h : d3 a0 a1 a2 = some r) :
 Calls Tryz.prog 66 #[.int .i64 a0, .int .i64 a1, .int .i64 a2] w fun e w' => e = .returned (.bool r) ∧ Drawn0 w w' := by
 have H := h
 unfold d3 at H
 clear h
 by_cases c4 : a0 ≥ a1
 · rw [if_pos c4] at H
   have c4b0 : decide (a1 ≤ a0) = true := af c4
   clear c4
   obtain rfl := ap H
   go_enter Tryz.func66, Tryz.ntmps66
   go_wp2
   go_ret
   exact ⟨by first | rfl | (simp; done) | (simp [*]; done), by repeat (first | exact Drawn0.refl _ | apply Drawn0.step)⟩
 · rw [if_neg c4] at H
   have c4b0 : decide (a1 ≤ a0) = false := ao c4
   clear c4
   obtain rfl := ap H
   go_enter Tryz.func66, Tryz.ntmps66
   go_wp2
   go_ret
   exact ⟨by first | rfl | (simp; done) | (simp [*]; done), by repeat (first | exact Drawn0.refl _ | apply Drawn0.step)⟩
attribute [local go_sem] bl bh bi bd bj bf bk bg
set_option linter.unusedVariables false
set_option linter.unusedSimpArgs false
def iH (a0 : Int) : Option (Bool) := some (a0 != a0)
theorem du (a0 : Int) (r : Bool) (w : World) (h : iH a0 = some r) :
 Calls Tryz.prog 109 #[.int .i64 a0] w fun e w' => e = .returned (.bool r) ∧ Drawn0 w w' := by
 have H := h
 unfold iH at H
 clear h
 obtain rfl := ap H
 go_enter Tryz.func109, Tryz.ntmps109
 go_wp2
 go_ret
 exact ⟨by first | rfl | (simp; done) | (simp [*]; done), by repeat (first | exact Drawn0.refl _ | apply Drawn0.step)⟩
end Go.Proofs.YtjgcehldepfaaaaGreat.P
