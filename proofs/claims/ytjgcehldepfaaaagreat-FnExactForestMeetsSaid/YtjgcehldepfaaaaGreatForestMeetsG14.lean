import Derived.Test.YtjgcehldepfaaaaGreatForestMeetsG13
namespace Go.Proofs.YtjgcehldepfaaaaGreat.P
open Go.RowKit YtjgcehldepfaaaaGreatW.PrintWords YtjgcehldepfaaaaGreatW.PrintLast YtjgcehldepfaaaaGreatW.PrintMore
attribute [local go_sem] bl bh bi bd bj bf bk bg
set_option maxRecDepth 100000
set_option maxHeartbeats 8000000
set_option linter.unusedVariables false
set_option linter.unusedSimpArgs false
def hG (k : Nat) (a0_0 : Int) (l0_1 : List (S63)) (l1 : List Int) (l2 : List Int) : Option (Bool) := (iV k a0_0 l0_1 l1).bind fun t523 => (if t523 = true then ((f8 k a0_0 l0_1 l2).bind fun t524 => (some t524)) else (some false))
theorem jQ (k : Nat) (a0_0 : Int) (A0_1 : Option Addr) (c0_1 : Nat) (l0_1 : List (S63)) (A1 : Option Addr) (c1 : Nat) (l1 : List Int) (A2 : Option Addr) (c2 : Nat) (l2 : List Int) (r : Bool) (w : World) (hr0_1 : Kd.C k63 w A0_1 l0_1.length l0_1) (hc0_1 : l0_1.length ≤ c0_1) (hr1 : Kd.C (Kd.int .i64) w A1 l1.length l1) (hc1 : l1.length ≤ c1) (hr2 : Kd.C (Kd.int .i64) w A2 l2.length l2) (hc2 : l2.length ≤ c2) (h : hG k a0_0 l0_1 l1 l2 = some r) :
 Calls Tryz.prog 27 #[.agg #[.int .i64 a0_0, .slice A0_1 l0_1.length c0_1], .slice A1 l1.length c1, .slice A2 l2.length c2] w fun e w' => e = .returned (.bool r) ∧ Below w.heap.size w w' := by
 have hu29 := Tryz.underlying29
 have HR0_1 := Aside0.mk hr0_1
 have HC0_1 := Aside0.mk hc0_1
 clear hr0_1 hc0_1
 have HR1 := Aside0.mk hr1
 have HC1 := Aside0.mk hc1
 clear hr1 hc1
 have HR2 := Aside0.mk hr2
 have HC2 := Aside0.mk hc2
 clear hr2 hc2
 have HB := zM (Below.refl w.heap.size w)
 have H := h
 unfold hG at H
 clear h
 replace H := av H
 obtain ⟨t523, A40, H⟩ := H
 have A4 := Aside0.mk A40
 clear A40
 by_cases c5 : t523 = true
 · subst c5
   rw [if_pos rfl] at H
   replace H := av H
   obtain ⟨t524, A60, H⟩ := H
   have A6 := Aside0.mk A60
   clear A60
   obtain rfl := ap H
   go_enter Tryz.func27, Tryz.ntmps27
   go_wp2_with (first | ((with_reducible refine au (N := 3) rfl ?_); refine zb (w := w) 3 #[.int .i64 a0_0, .slice A0_1 l0_1.length c0_1] 29 zB ?_; clear HB; intro gb522 w7 HB BK522 GW522; have GE522 := GW522; have hcz8_0 := zy BK522 0; have hcz8_1 := zy BK522 1; have hfz8_0 := ae BK522.out 0; have hfz8_1 := ae BK522.out 1) | ((with_reducible refine ax (f := 18) rfl ?_); refine zc 9 Tryz.func18 #[.agg #[.int .i64 a0_0, .slice A0_1 l0_1.length c0_1], .slice A1 l1.length c1] ?_; (with_reducible refine (lh k a0_0 _ _ l0_1 _ _ l1 true _ ?side1 ?side2 ?side3 ?side4 A4.out).mono ?_); (case side1 => exact zC (Kd.C_below HR0_1.out HB.out)); (case side2 => exact HC0_1.out); (case side3 => exact zC (Kd.C_below HR1.out HB.out)); (case side4 => exact HC1.out); rintro e w9 ⟨rfl, hb⟩; refine ⟨_, rfl, ?_⟩; replace BK522 := zJ BK522 hb; replace HB := zM (ag zB hb); (try clear hb); have hcz10_0 := zy BK522 0; have hcz10_1 := zy BK522 1; have hfz10_0 := ae BK522.out 0; have hfz10_1 := ae BK522.out 1) | (go_at_call 42; (with_reducible refine (lm k a0_0 _ _ l0_1 _ _ l2 t524 _ ?side1 ?side2 ?side3 ?side4 A6.out).mono ?_); (case side1 => exact zC (Kd.C_below HR0_1.out HB.out)); (case side2 => exact HC0_1.out); (case side3 => exact zC (Kd.C_below HR2.out HB.out)); (case side4 => exact HC2.out); rintro e w11 ⟨rfl, hb⟩; replace BK522 := zJ BK522 hb; replace HB := zM (ag zB hb); (try clear hb); (try clear hi)))
   go_ret
   exact ⟨by first | rfl | (simp [al, ak] <;> rfl) | (simp [*, al, ak] <;> rfl), zB⟩
 · replace c5 := Bool.eq_false_iff.mpr c5
   subst c5
   rw [if_neg (show ¬ (false = true) by decide)] at H
   obtain rfl := ap H
   go_enter Tryz.func27, Tryz.ntmps27
   go_wp2_with (first | ((with_reducible refine au (N := 3) rfl ?_); refine zb (w := w) 3 #[.int .i64 a0_0, .slice A0_1 l0_1.length c0_1] 29 zB ?_; clear HB; intro gb522 w12 HB BK522 GW522; have GE522 := GW522; have hcz13_0 := zy BK522 0; have hcz13_1 := zy BK522 1; have hfz13_0 := ae BK522.out 0; have hfz13_1 := ae BK522.out 1) | ((with_reducible refine ax (f := 18) rfl ?_); refine zc 9 Tryz.func18 #[.agg #[.int .i64 a0_0, .slice A0_1 l0_1.length c0_1], .slice A1 l1.length c1] ?_; (with_reducible refine (lh k a0_0 _ _ l0_1 _ _ l1 false _ ?side1 ?side2 ?side3 ?side4 A4.out).mono ?_); (case side1 => exact zC (Kd.C_below HR0_1.out HB.out)); (case side2 => exact HC0_1.out); (case side3 => exact zC (Kd.C_below HR1.out HB.out)); (case side4 => exact HC1.out); rintro e w14 ⟨rfl, hb⟩; refine ⟨_, rfl, ?_⟩; replace BK522 := zJ BK522 hb; replace HB := zM (ag zB hb); (try clear hb); (try clear hi)))
   go_ret
   exact ⟨by first | rfl | (simp [al, ak] <;> rfl) | (simp [*, al, ak] <;> rfl), zB⟩
def dy : Nat → List Int → List Int → List Int → Int → Option (List Int)
 | 0, _, _, _, _ => none
 | k + 1, x0, x1, x5, x6 => if x6 < (x0.length : Int) then (if 0 ≤ x6 then ((ew k x1 (rd x0 x6)).bind fun t529 => (if t529 = true then (dy k x0 x1 x5 (wrap64 (x6 + 1))) else (if x5.length < 17592186044416 then (dy k x0 x1 (x5 ++ [rd x0 x6]) (wrap64 (x6 + 1))) else (none)))) else (none)) else (some x5)
def f5 (k : Nat) (l0 : List Int) (l1 : List Int) : Option (List Int) := dy k l0 l1 (([] : List Int)) 0
theorem lg (k : Nat) (A0 : Option Addr) (c0 : Nat) (l0 : List Int) (A1 : Option Addr) (c1 : Nat) (l1 : List Int) (r : List Int) (w : World) (hr0 : Kd.C (Kd.int .i64) w A0 l0.length l0) (hc0 : l0.length ≤ c0) (hr1 : Kd.C (Kd.int .i64) w A1 l1.length l1) (hc1 : l1.length ≤ c1) (h : f5 k l0 l1 = some r) :
 Calls Tryz.prog 57 #[.slice A0 l0.length c0, .slice A1 l1.length c1] w fun e w' => ∃ v0_ : Value, e = .returned (v0_) ∧ Kd.R (Kd.int .i64) 3 w' w.heap.size (fun _ => True) v0_ r ∧ Below w.heap.size w w' := by
 have HR0 := Aside0.mk hr0
 have HC0 := Aside0.mk hc0
 clear hr0 hc0
 have HR1 := Aside0.mk hr1
 have HC1 := Aside0.mk hc1
 clear hr1 hc1
 have HB := zM (Below.refl w.heap.size w)
 have H := h
 unfold f5 at H
 clear h
 obtain ⟨y525, hy525⟩ : ∃ y_ : List Int, y_ = (([] : List Int)) := ⟨_, rfl⟩
 replace H : (dy k l0 l1 y525 0) = some r := by first | (rw [hy525]; with_reducible exact H) | (have H2_ := (Option.bind_some _ _).symm.trans H; rw [hy525]; with_reducible exact H2_) | (have H2_ := (Option.bind_some _ _).symm.trans H; with_reducible exact H2_) | with_reducible exact H | (rw [hy525]; exact H) | exact H
 have Ny525 := Aside0.mk hy525
 clear hy525
 have H' := Aside0.mk H
 clear H
 go_enter Tryz.func57, Tryz.ntmps57
 go_wp2_with (first | ((with_reducible refine au (N := 7) rfl ?_); refine Kd.R_lit (Kd.int .i64) _ 3 ?hg (N := 7) ?hd (xs := ([] : List Int)) (inner := []) (ok := fun _ => True) (okp := fun _ => True) ?hr ?hp (fun _ hk => hk) trivial (Below.refl _ _) (ar _) (by simp) ?_; (case hd => rfl); (case hg => rfl); (case hr => first | (go_simp; done) | (go_simp; rfl)); (case hp => exact (Reps.none _ _)); intro v526 w3 ho4 hb hg_ hnew_; clear hg_ hnew_; (first | rw [← Ny525.out] at ho4 | (simp only [Int.reduceToNat] at ho4; rw [← Ny525.out] at ho4)); have HO527 := zM (Kd.R_lower ho4 (am zB)); replace HB := zM (ag zB hb); clear hb ho4))
 go_loopg [5, 6] k (fun kq v5 v6 w' => ∃ (x5_1 : List Int) (x6_1 : Int), v6 = .int .i64 x6_1 ∧ Aside0 (dy kq l0 l1 x5_1 x6_1 = some r) ∧ Aside0 (kq ≤ k) ∧ Aside0 (Kd.R (Kd.int .i64) 3 w' w.heap.size (fun _ => True) v5 x5_1) ∧ Aside0 (Below w.heap.size w w'))
 case atStart => exact ⟨(y525), (0), (by first | rfl | (simp; done) | (simp [*]; done)), H', ⟨ar _⟩, ⟨zR HO527.out⟩, ⟨zB⟩⟩
 case round =>
  clear H'
  try clear c1
  try clear p2
  obtain ⟨x5_1, x6_1, rfl, HA, HK1, HO_5, HB⟩ := hrel
  cases gk with
  | zero => exact absurd HA.out (by simp [dy])
  | succ k1 =>
   have H := HA.out
   clear HA
   simp only [dy] at H
   by_cases c5 : x6_1 < (l0.length : Int)
   · rw [if_pos c5] at H
     have c5b0 := af c5
     clear c5
     by_cases c6 : 0 ≤ x6_1
     case neg => rw [if_neg c6] at H; simp at H
     rw [if_pos c6] at H
     have c6b0 := af c6
     clear c6
     replace H := av H
     obtain ⟨t529, A70, H⟩ := H
     have A7 := Aside0.mk A70
     clear A70
     by_cases c8 : t529 = true
     · subst c8
       rw [if_pos rfl] at H
       have H' := Aside0.mk H
       clear H
       have p528 : 0 ≤ (x6_1 : Int) := ac zA
       have q528 : x6_1 < (l0.length : Int) := ac zA
       obtain ⟨ad528, e528, hx528_0⟩ := Kd.at_int HR0.out x6_1 p528 q528
       cases e528
       (try replace hx528_0 := (HB.out.cell (aj w _ hx528_0)).trans hx528_0)
       replace p528 := eq_true p528
       replace q528 := eq_true q528
       go_wp2_with (first | ((with_reducible refine ax (f := 53) rfl ?_); refine zc 19 Tryz.func53 #[.slice A1 l1.length c1, .int .i64 (rd l0 x6_1)] ?_; (with_reducible refine (dQ k1 _ _ l1 (rd l0 x6_1) true _ ?side1 ?side2 A7.out).mono ?_); (case side1 => exact zC (Kd.C_below HR1.out HB.out)); (case side2 => exact HC1.out); rintro e w' ⟨rfl, ⟨nd, rfl⟩⟩; refine ⟨_, rfl, ?_⟩))
       go_roundg k1
       case measure => have := HK1.out; omega
       case rel => exact ⟨(x5_1), (wrap64 (x6_1 + 1)), (by first | rfl | (simp; done) | (simp [*]; done)), H', ⟨by have := HK1.out; omega⟩, ⟨zR HO_5.out⟩, ⟨zB⟩⟩
     · replace c8 := Bool.eq_false_iff.mpr c8
       subst c8
       rw [if_neg (show ¬ (false = true) by decide)] at H
       by_cases c9 : x5_1.length < 17592186044416
       case neg => rw [if_neg c9] at H; simp at H
       rw [if_pos c9] at H
       have LMc9 := Aside0.mk c9
       clear c9
       obtain ⟨y531, hy531⟩ : ∃ y_ : List Int, y_ = (x5_1 ++ [rd l0 x6_1]) := ⟨_, rfl⟩
       replace H : (dy k1 l0 l1 y531 (wrap64 (x6_1 + 1))) = some r := by first | (rw [hy531]; with_reducible exact H) | (have H2_ := (Option.bind_some _ _).symm.trans H; rw [hy531]; with_reducible exact H2_) | (have H2_ := (Option.bind_some _ _).symm.trans H; with_reducible exact H2_) | with_reducible exact H | (rw [hy531]; exact H) | exact H
       have Ny531 := Aside0.mk hy531
       clear hy531
       have H' := Aside0.mk H
       clear H
       have p528 : 0 ≤ (x6_1 : Int) := ac zA
       have q528 : x6_1 < (l0.length : Int) := ac zA
       obtain ⟨ad528, e528, hx528_0⟩ := Kd.at_int HR0.out x6_1 p528 q528
       cases e528
       (try replace hx528_0 := (HB.out.cell (aj w _ hx528_0)).trans hx528_0)
       replace p528 := eq_true p528
       replace q528 := eq_true q528
       go_wp2_with (first | ((with_reducible refine ax (f := 53) rfl ?_); refine zc 19 Tryz.func53 #[.slice A1 l1.length c1, .int .i64 (rd l0 x6_1)] ?_; (with_reducible refine (dQ k1 _ _ l1 (rd l0 x6_1) false _ ?side1 ?side2 A7.out).mono ?_); (case side1 => exact zC (Kd.C_below HR1.out HB.out)); (case side2 => exact HC1.out); rintro e w' ⟨rfl, ⟨nd, rfl⟩⟩; refine ⟨_, rfl, ?_⟩; have p530 : 0 ≤ (x6_1 : Int) := ac zA; have q530 : x6_1 < (l0.length : Int) := ac zA; obtain ⟨ad530, e530, hx530_0⟩ := Kd.at_int HR0.out x6_1 p530 q530; obtain rfl : ad528 = ad530 := (by injection e530); (try replace hx530_0 := (HB.out.cell (aj w _ hx530_0)).trans hx530_0); replace p530 := eq_true p530; replace q530 := eq_true q530) | ((with_reducible refine cJ (b := .append) (xs := #[.tmp 21, .tmp 26]) rfl ?_); at_builtin; refine Kd.R_append (Kd.int .i64) (w0 := w) w.heap.size rfl (.tmp 21) (.tmp 26) 25 3 (.int .i64 0) 8 rfl Tryz.underlying25 bv rfl (by decide) (by omega) u5 x5_1 (rd l0 x6_1) [.int .i64 (rd l0 x6_1)] (fun _ => True) (fun _ => False) rfl rfl ?aP (fun _ hk => hk.elim) ?aF ?aO ?aB ?aS ?aL ?_; (case aP => exact rfl); (case aB => exact zB); (case aF => exact (fun _ _ => trivial)); (case aO => exact (zR HO_5.out)); (case aS => exact (am zB)); (case aL => have := LMc9.out; omega); intro v532 w10 ho hb hg hat; rw [← Ny531.out] at ho; replace HB := zM (hb); have HO533 := zM (ho); clear HO_5; clear ho hb hg hat))
       go_roundg k1
       case measure => have := HK1.out; omega
       case rel => exact ⟨(y531), (wrap64 (x6_1 + 1)), (by first | rfl | (simp; done) | (simp [*]; done)), H', ⟨by have := HK1.out; omega⟩, ⟨zR HO533.out⟩, ⟨zB⟩⟩
   · rw [if_neg c5] at H
     have c5b0 : decide (x6_1 < (l0.length : Int)) = false := ao c5
     clear c5
     obtain rfl := ap H
     go_wp2
     go_ret
     exact ⟨_, by first | rfl | (simp [al, ak] <;> rfl) | (simp [*, al, ak] <;> rfl), by (with_reducible repeat (first | apply Kd.R_alloc | apply Kd.R_drewN | apply Kd.R_drew)); exact HO_5.out, zB⟩
def fA (k : Nat) (l0 : List Int) (l1 : List Int) : Option (List Int) := (f5 k l0 l1).bind fun t534 => ((f5 k l0 t534).bind fun t537 => (some t537))
theorem f9 (k : Nat) (A0 : Option Addr) (c0 : Nat) (l0 : List Int) (A1 : Option Addr) (c1 : Nat) (l1 : List Int) (r : List Int) (w : World) (hr0 : Kd.C (Kd.int .i64) w A0 l0.length l0) (hc0 : l0.length ≤ c0) (hr1 : Kd.C (Kd.int .i64) w A1 l1.length l1) (hc1 : l1.length ≤ c1) (h : fA k l0 l1 = some r) :
 Calls Tryz.prog 31 #[.slice A0 l0.length c0, .slice A1 l1.length c1] w fun e w' => ∃ v0_ : Value, e = .returned (v0_) ∧ Kd.R (Kd.int .i64) 3 w' w.heap.size (fun _ => True) v0_ r ∧ Below w.heap.size w w' := by
 have HR0 := Aside0.mk hr0
 have HC0 := Aside0.mk hc0
 clear hr0 hc0
 have HR1 := Aside0.mk hr1
 have HC1 := Aside0.mk hc1
 clear hr1 hc1
 have HB := zM (Below.refl w.heap.size w)
 have H := h
 unfold fA at H
 clear h
 replace H := av H
 obtain ⟨t534, A30, H⟩ := H
 have A3 := Aside0.mk A30
 clear A30
 replace H := av H
 obtain ⟨t537, A40, H⟩ := H
 have A4 := Aside0.mk A40
 clear A40
 obtain rfl := ap H
 go_enter Tryz.func31, Tryz.ntmps31
 go_wp2_with (first | ((with_reducible refine ax (f := 57) rfl ?_); refine zc 8 Tryz.func57 #[.slice A0 l0.length c0, .slice A1 l1.length c1] ?_; (with_reducible refine (lg k _ _ l0 _ _ l1 t534 _ ?side1 ?side2 ?side3 ?side4 A3.out).mono ?_); (case side1 => exact zC HR0.out); (case side2 => exact HC0.out); (case side3 => exact zC HR1.out); (case side4 => exact HC1.out); rintro e w5 ⟨v535, rfl, ho0, hb⟩; refine ⟨_, rfl, ?_⟩; have HO536 := zM (Kd.R_lower ho0 (am zB)); replace HB := zM (ag zB hb); (try clear hb); (try clear ho0); obtain ⟨Ao6, co6, eo6⟩ := Kd.R_slice HO536.out; subst eo6) | ((with_reducible refine ax (f := 57) rfl ?_); refine zc 9 Tryz.func57 #[.slice A0 l0.length c0, .slice Ao6 t534.length co6] ?_; (with_reducible refine (lg k _ _ l0 _ _ t534 t537 _ ?side1 ?side2 ?side3 ?side4 A4.out).mono ?_); (case side1 => exact zC (Kd.C_below HR0.out HB.out)); (case side2 => exact HC0.out); (case side3 => exact zC (Kd.R_reads' HO536.out).2.2); (case side4 => exact (Kd.R_reads' HO536.out).2.1); rintro e w7 ⟨v538, rfl, ho0, hb⟩; refine ⟨_, rfl, ?_⟩; have HO539 := zM (Kd.R_lower (Kd.R_new' ho0 (Kd.R_lt (zR HO536.out))) (am zB)); replace HO536 := zM (Kd.R_elder' (zR HO536.out) (Kd.R_base ho0) hb); replace HB := zM (ag zB hb); (try clear hb); (try clear ho0)))
 go_ret
 exact ⟨_, by first | rfl | (simp [al, ak] <;> rfl) | (simp [*, al, ak] <;> rfl), by (with_reducible repeat (first | apply Kd.R_alloc | apply Kd.R_drewN | apply Kd.R_drew)); exact Kd.R_mono HO539.out (fun _ hk => trivial), zB⟩
def dj : Nat → List Int → List Int → Int → Int → List (S63) → Option (List Int)
 | 0, _, _, _, _, _ => none
 | k + 1, x1, x5, x6, x541000, x541001 => if x6 < x541000 then ((ew k x1 x6).bind fun t544 => (if t544 = true then (dj k x1 x5 (wrap64 (x6 + 1)) x541000 x541001) else ((fE k x541000 x541001 x6).bind fun t545 => ((fA k t545 x1).bind fun t548 => (if (t548.length : Int) = 0 then (if x5.length < 17592186044416 then (dj k x1 (x5 ++ [x6]) (wrap64 (x6 + 1)) x541000 x541001) else (none)) else (dj k x1 x5 (wrap64 (x6 + 1)) x541000 x541001)))))) else (some x5)
def g9 (k : Nat) (a0_0 : Int) (l0_1 : List (S63)) (l1 : List Int) : Option (List Int) := dj k l1 (([] : List Int)) 0 a0_0 l0_1
theorem oN (k : Nat) (a0_0 : Int) (A0_1 : Option Addr) (c0_1 : Nat) (l0_1 : List (S63)) (A1 : Option Addr) (c1 : Nat) (l1 : List Int) (r : List Int) (w : World) (hr0_1 : Kd.C k63 w A0_1 l0_1.length l0_1) (hc0_1 : l0_1.length ≤ c0_1) (hr1 : Kd.C (Kd.int .i64) w A1 l1.length l1) (hc1 : l1.length ≤ c1) (h : g9 k a0_0 l0_1 l1 = some r) :
 Calls Tryz.prog 30 #[.agg #[.int .i64 a0_0, .slice A0_1 l0_1.length c0_1], .slice A1 l1.length c1] w fun e w' => ∃ v0_ : Value, e = .returned (v0_) ∧ Kd.R (Kd.int .i64) 3 w' w.heap.size (fun _ => True) v0_ r ∧ Below w.heap.size w w' := by
 have hu29 := Tryz.underlying29
 have HR0_1 := Aside0.mk hr0_1
 have HC0_1 := Aside0.mk hc0_1
 clear hr0_1 hc0_1
 have HR1 := Aside0.mk hr1
 have HC1 := Aside0.mk hc1
 clear hr1 hc1
 have HB := zM (Below.refl w.heap.size w)
 have H := h
 unfold g9 at H
 clear h
 obtain ⟨y541, hy541⟩ : ∃ y_ : List Int, y_ = (([] : List Int)) := ⟨_, rfl⟩
 replace H : (dj k l1 y541 0 a0_0 l0_1) = some r := by first | (rw [hy541]; with_reducible exact H) | (have H2_ := (Option.bind_some _ _).symm.trans H; rw [hy541]; with_reducible exact H2_) | (have H2_ := (Option.bind_some _ _).symm.trans H; with_reducible exact H2_) | with_reducible exact H | (rw [hy541]; exact H) | exact H
 have Ny541 := Aside0.mk hy541
 clear hy541
 have H' := Aside0.mk H
 clear H
 go_enter Tryz.func30, Tryz.ntmps30
 go_wp2_with (first | ((with_reducible refine au (N := 2) rfl ?_); (try (refine jx (by rfl) ?_; dsimp only)); refine zb (w := w) 2 #[.int .i64 a0_0, .slice A0_1 l0_1.length c0_1] 29 zB ?_; clear HB; intro gb540 w3 HB BK540 GW540; have GE540 := GW540) | ((with_reducible refine au (N := 7) rfl ?_); (try (refine jx (by rfl) ?_; dsimp only)); refine Kd.R_lit (Kd.int .i64) _ 3 ?hg (N := 7) ?hd (xs := ([] : List Int)) (inner := []) (ok := fun _ => True) (okp := fun _ => True) ?hr ?hp (fun _ hk => hk) trivial (Below.refl _ _) (ar _) (by simp) ?_; (case hd => rfl); (case hg => rfl); (case hr => first | (go_simp; done) | (go_simp; rfl)); (case hp => exact (Reps.none _ _)); intro v542 w4 ho5 hb hg_ hnew_; clear hg_ hnew_; (first | rw [← Ny541.out] at ho5 | (simp only [Int.reduceToNat] at ho5; rw [← Ny541.out] at ho5)); have HO543 := zM (Kd.R_lower ho5 (am zB)); replace BK540 := zJ BK540 hb; replace HB := zM (ag zB hb); clear hb ho5))
 go_loopg [5, 6] k (fun kq v5 v6 w' => ∃ (x5_1 : List Int) (x6_1 : Int), v6 = .int .i64 x6_1 ∧ Aside0 (dj kq l1 x5_1 x6_1 a0_0 l0_1 = some r) ∧ Aside0 (kq ≤ k) ∧ Aside0 (Kd.R (Kd.int .i64) 3 w' w.heap.size (fun _ => True) v5 x5_1) ∧ Aside0 (w'.heap[gb540]? = some (.cells #[.int .i64 a0_0, (.slice A0_1 l0_1.length c0_1)] 29 (0, 0))) ∧ Aside0 (Below w.heap.size w w'))
 case atStart => exact ⟨(y541), (0), (by first | rfl | (simp; done) | (simp [*]; done)), H', ⟨ar _⟩, ⟨zR HO543.out⟩, ⟨zK BK540.out⟩, ⟨zB⟩⟩
 case round =>
  clear H'
  try clear c1
  try clear p2
  try clear c3
  obtain ⟨x5_1, x6_1, rfl, HA, HK1, HO_5, BK540, HB⟩ := hrel
  cases gk with
  | zero => exact absurd HA.out (by simp [dj])
  | succ k1 =>
   have H := HA.out
   clear HA
   simp only [dj] at H
   by_cases c6 : x6_1 < a0_0
   · rw [if_pos c6] at H
     have c6b0 := af c6
     clear c6
     replace H := av H
     obtain ⟨t544, A70, H⟩ := H
     have A7 := Aside0.mk A70
     clear A70
     by_cases c8 : t544 = true
     · subst c8
       rw [if_pos rfl] at H
       have H' := Aside0.mk H
       clear H
       have hcz9_0 := zy BK540 0
       have hcz9_1 := zy BK540 1
       have hfz9_0 := ae BK540.out 0
       have hfz9_1 := ae BK540.out 1
       go_wp2_with (first | ((with_reducible refine ax (f := 53) rfl ?_); refine zc 16 Tryz.func53 #[.slice A1 l1.length c1, .int .i64 x6_1] ?_; (with_reducible refine (dQ k1 _ _ l1 x6_1 true _ ?side1 ?side2 A7.out).mono ?_); (case side1 => exact zC (Kd.C_below HR1.out HB.out)); (case side2 => exact HC1.out); rintro e w' ⟨rfl, ⟨nd, rfl⟩⟩; refine ⟨_, rfl, ?_⟩))
       go_roundg k1
       case measure => have := HK1.out; omega
       case rel => exact ⟨(x5_1), (wrap64 (x6_1 + 1)), (by first | rfl | (simp; done) | (simp [*]; done)), H', ⟨by have := HK1.out; omega⟩, ⟨zR HO_5.out⟩, ⟨zK BK540.out⟩, ⟨zB⟩⟩
     · replace c8 := Bool.eq_false_iff.mpr c8
       subst c8
       rw [if_neg (show ¬ (false = true) by decide)] at H
       replace H := av H
       obtain ⟨t545, A100, H⟩ := H
       have A10 := Aside0.mk A100
       clear A100
       replace H := av H
       obtain ⟨t548, A110, H⟩ := H
       have A11 := Aside0.mk A110
       clear A110
       by_cases c12 : (t548.length : Int) = 0
       · rw [if_pos c12] at H
         have c12b0 : ((t548.length : Int) == 0) = true := beq_iff_eq.mpr c12
         have c12b1 : ((t548.length : Int) != 0) = false := bne_eq_false_iff_eq.mpr c12
         clear c12
         by_cases c13 : x5_1.length < 17592186044416
         case neg => rw [if_neg c13] at H; simp at H
         rw [if_pos c13] at H
         have LMc13 := Aside0.mk c13
         clear c13
         obtain ⟨y551, hy551⟩ : ∃ y_ : List Int, y_ = (x5_1 ++ [x6_1]) := ⟨_, rfl⟩
         replace H : (dj k1 l1 y551 (wrap64 (x6_1 + 1)) a0_0 l0_1) = some r := by first | (rw [hy551]; with_reducible exact H) | (have H2_ := (Option.bind_some _ _).symm.trans H; rw [hy551]; with_reducible exact H2_) | (have H2_ := (Option.bind_some _ _).symm.trans H; with_reducible exact H2_) | with_reducible exact H | (rw [hy551]; exact H) | exact H
         have Ny551 := Aside0.mk hy551
         clear hy551
         have H' := Aside0.mk H
         clear H
         have hcz14_0 := zy BK540 0
         have hcz14_1 := zy BK540 1
         have hfz14_0 := ae BK540.out 0
         have hfz14_1 := ae BK540.out 1
         go_wp2_with (first | ((with_reducible refine ax (f := 53) rfl ?_); refine zc 16 Tryz.func53 #[.slice A1 l1.length c1, .int .i64 x6_1] ?_; (with_reducible refine (dQ k1 _ _ l1 x6_1 false _ ?side1 ?side2 A7.out).mono ?_); (case side1 => exact zC (Kd.C_below HR1.out HB.out)); (case side2 => exact HC1.out); rintro e w' ⟨rfl, ⟨nd, rfl⟩⟩; refine ⟨_, rfl, ?_⟩) | (go_at_call 56; (with_reducible refine (iX k1 a0_0 _ _ l0_1 x6_1 t545 _ ?side1 ?side2 A10.out).mono ?_); (case side1 => exact zC (Kd.C_below HR0_1.out zB)); (case side2 => exact HC0_1.out); rintro e w15 ⟨v546, rfl, ho0, hb⟩; have HO547 := zM (Kd.R_lower (Kd.R_new' ho0 (Kd.R_lt (zR HO_5.out))) (am zB)); replace HO_5 := zM (Kd.R_elder' (zR HO_5.out) (Kd.R_base ho0) hb); replace BK540 := zJ BK540 hb; replace HB := zM (ag zB hb); (try clear hb); (try clear ho0); obtain ⟨Ao16, co16, eo16⟩ := Kd.R_slice HO547.out; subst eo16) | (go_at_call 31; (with_reducible refine (f9 k1 _ _ t545 _ _ l1 t548 _ ?side1 ?side2 ?side3 ?side4 A11.out).mono ?_); (case side1 => exact zC (Kd.R_reads' HO547.out).2.2); (case side2 => exact (Kd.R_reads' HO547.out).2.1); (case side3 => exact zC (Kd.C_below HR1.out HB.out)); (case side4 => exact HC1.out); rintro e w17 ⟨v549, rfl, ho0, hb⟩; have HO550 := zM (Kd.R_lower (Kd.R_new' (Kd.R_new' ho0 (Kd.R_lt (zR HO_5.out))) (Kd.R_lt (zR HO547.out))) (am zB)); replace HO_5 := zM (Kd.R_elder' (zR HO_5.out) (Kd.R_base ho0) hb); replace HO547 := zM (Kd.R_elder' (zR HO547.out) (Kd.R_base ho0) hb); replace BK540 := zJ BK540 hb; replace HB := zM (ag zB hb); (try clear hb); (try clear ho0); obtain ⟨Ao18, co18, eo18⟩ := Kd.R_slice HO550.out; subst eo18) | ((with_reducible refine cJ (b := .append) (xs := #[.tmp 27, .tmp 29]) rfl ?_); (try (refine jx (by rfl) ?_; dsimp only)); at_builtin; refine Kd.R_append (Kd.int .i64) (w0 := w) w.heap.size rfl (.tmp 27) (.tmp 29) 25 3 (.int .i64 0) 8 rfl Tryz.underlying25 bv rfl (by decide) (by omega) u5 x5_1 x6_1 [.int .i64 x6_1] (fun k_ => some k_ ≠ (.slice Ao16 t545.length co16 : Value).ownBlock ∧ some k_ ≠ (.slice Ao18 t548.length co18 : Value).ownBlock) (fun _ => False) rfl rfl ?aP (fun _ hk => hk.elim) ?aF ?aO ?aB ?aS ?aL ?_; (case aP => exact rfl); (case aB => exact zB); (case aF => exact (fun k_ hk => ⟨Kd.fresh' (Kd.R_lt (zR HO547.out)) k_ hk, Kd.fresh' (Kd.R_lt (zR HO550.out)) k_ hk⟩)); (case aO => exact (by (with_reducible repeat (first | apply Kd.R_alloc | apply Kd.R_drewN | apply Kd.R_drew)); exact Kd.R_mono HO_5.out (fun _ hk => ⟨hk.1.2, hk.2⟩))); (case aS => exact (am zB)); (case aL => have := LMc13.out; omega); intro v552 w19 ho hb hg hat; rw [← Ny551.out] at ho; replace BK540 := zM (cU (g := gb540) (o := .cells #[.int .i64 a0_0, .slice A0_1 l0_1.length c0_1] 29 (0, 0)) (zK BK540.out) hg (Kd.R_ne HO_5.out BK540.out (by decide))); replace HO547 := zM (Kd.R_after (ok := (fun k_ => some k_ ≠ (.slice Ao18 t548.length co18 : Value).ownBlock)) (by (with_reducible repeat (first | apply Kd.R_alloc | apply Kd.R_drewN | apply Kd.R_drew)); exact Kd.R_mono HO547.out (fun _ hk => ⟨hk.2, hk.1.2⟩)) hg hat); replace HO550 := zM (Kd.R_after (ok := (fun k_ => some k_ ≠ (.slice Ao16 t545.length co16 : Value).ownBlock)) (by (with_reducible repeat (first | apply Kd.R_alloc | apply Kd.R_drewN | apply Kd.R_drew)); exact Kd.R_mono HO550.out (fun _ hk => ⟨hk.2, hk.1.2⟩)) hg hat); replace HB := zM (hb); have HO553 := zM (ho); clear HO_5; clear ho hb hg hat))
         go_roundg k1
         case measure => have := HK1.out; omega
         case rel => exact ⟨(y551), (wrap64 (x6_1 + 1)), (by first | rfl | (simp; done) | (simp [*]; done)), H', ⟨by have := HK1.out; omega⟩, ⟨by (with_reducible repeat (first | apply Kd.R_alloc | apply Kd.R_drewN | apply Kd.R_drew)); exact Kd.R_mono HO553.out (fun _ hk => trivial)⟩, ⟨zK BK540.out⟩, ⟨zB⟩⟩
       · rw [if_neg c12] at H
         have c12b0 : ((t548.length : Int) == 0) = false := beq_eq_false_iff_ne.mpr c12
         have c12b1 : ((t548.length : Int) != 0) = true := bne_iff_ne.mpr c12
         have c12b2 : ¬ (t548 = []) := fun h_ => c12 (by rw [h_]; rfl)
         have H' := Aside0.mk H
         clear H
         have hcz20_0 := zy BK540 0
         have hcz20_1 := zy BK540 1
         have hfz20_0 := ae BK540.out 0
         have hfz20_1 := ae BK540.out 1
         go_wp2_with (first | ((with_reducible refine ax (f := 53) rfl ?_); refine zc 16 Tryz.func53 #[.slice A1 l1.length c1, .int .i64 x6_1] ?_; (with_reducible refine (dQ k1 _ _ l1 x6_1 false _ ?side1 ?side2 A7.out).mono ?_); (case side1 => exact zC (Kd.C_below HR1.out HB.out)); (case side2 => exact HC1.out); rintro e w' ⟨rfl, ⟨nd, rfl⟩⟩; refine ⟨_, rfl, ?_⟩) | (go_at_call 56; (with_reducible refine (iX k1 a0_0 _ _ l0_1 x6_1 t545 _ ?side1 ?side2 A10.out).mono ?_); (case side1 => exact zC (Kd.C_below HR0_1.out zB)); (case side2 => exact HC0_1.out); rintro e w21 ⟨v546, rfl, ho0, hb⟩; have HO547 := zM (Kd.R_lower (Kd.R_new' ho0 (Kd.R_lt (zR HO_5.out))) (am zB)); replace HO_5 := zM (Kd.R_elder' (zR HO_5.out) (Kd.R_base ho0) hb); replace BK540 := zJ BK540 hb; replace HB := zM (ag zB hb); (try clear hb); (try clear ho0); obtain ⟨Ao22, co22, eo22⟩ := Kd.R_slice HO547.out; subst eo22) | (go_at_call 31; (with_reducible refine (f9 k1 _ _ t545 _ _ l1 t548 _ ?side1 ?side2 ?side3 ?side4 A11.out).mono ?_); (case side1 => exact zC (Kd.R_reads' HO547.out).2.2); (case side2 => exact (Kd.R_reads' HO547.out).2.1); (case side3 => exact zC (Kd.C_below HR1.out HB.out)); (case side4 => exact HC1.out); rintro e w23 ⟨v549, rfl, ho0, hb⟩; have HO550 := zM (Kd.R_lower (Kd.R_new' (Kd.R_new' ho0 (Kd.R_lt (zR HO_5.out))) (Kd.R_lt (zR HO547.out))) (am zB)); replace HO_5 := zM (Kd.R_elder' (zR HO_5.out) (Kd.R_base ho0) hb); replace HO547 := zM (Kd.R_elder' (zR HO547.out) (Kd.R_base ho0) hb); replace BK540 := zJ BK540 hb; replace HB := zM (ag zB hb); (try clear hb); (try clear ho0); obtain ⟨Ao24, co24, eo24⟩ := Kd.R_slice HO550.out; subst eo24))
         go_roundg k1
         case measure => have := HK1.out; omega
         case rel => exact ⟨(x5_1), (wrap64 (x6_1 + 1)), (by first | rfl | (simp; done) | (simp [*]; done)), H', ⟨by have := HK1.out; omega⟩, ⟨by (with_reducible repeat (first | apply Kd.R_alloc | apply Kd.R_drewN | apply Kd.R_drew)); exact Kd.R_mono HO_5.out (fun _ hk => trivial)⟩, ⟨zK BK540.out⟩, ⟨zB⟩⟩
   · rw [if_neg c6] at H
     have c6b0 : decide (x6_1 < a0_0) = false := ao c6
     clear c6
     obtain rfl := ap H
     have hcz25_0 := zy BK540 0
     have hcz25_1 := zy BK540 1
     have hfz25_0 := ae BK540.out 0
     have hfz25_1 := ae BK540.out 1
     go_wp2
     go_ret
     exact ⟨_, by first | rfl | (simp [al, ak] <;> rfl) | (simp [*, al, ak] <;> rfl), by (with_reducible repeat (first | apply Kd.R_alloc | apply Kd.R_drewN | apply Kd.R_drew)); exact HO_5.out, zB⟩
end Go.Proofs.YtjgcehldepfaaaaGreat.P
