-- Written by a program of this session (the kit's print, turned: wip/print/patch.py) out of the translation. Not trusted: Lean checks it.
import Derived.Test.YtjgcehldepfaaaaGreatForestLockedG5
import Derived.Test.YtjgcehldepfaaaaGreatForestLockedG8
namespace Go.Proofs.YtjgcehldepfaaaaGreat.P
open Go.RowKit YtjgcehldepfaaaaGreatW.PrintWords Go.Proofs.YtjgcehldepfaaaaGreatW.PrintLast Go.Proofs.YtjgcehldepfaaaaGreatW.PrintMore
attribute [local go_sem] bk bg bh bc bi bd bj bf   -- for this text's walks alone
set_option linter.unusedVariables false
set_option linter.unusedSimpArgs false

/-! ### impl_Graph_has: function 58 -/
def fb (k : Nat) (a0_0 : Int) (l0_1 : List (S63)) (a1 : Int) (a2 : Int) : Option (Bool) := (jC a1 a2).bind fun bt182 => ((gp k l0_1 bt182.1 bt182.2).bind fun t184 => (some t184))
set_option maxHeartbeats 8000000 in
set_option maxRecDepth 100000 in
theorem jI (k : Nat) (a0_0 : Int) (A0_1 : Option Addr) (c0_1 : Nat) (l0_1 : List (S63)) (a1 : Int) (a2 : Int) (r : Bool) (w : World) (hr0_1 : Kd.C k63 w A0_1 l0_1.length l0_1) (hc0_1 : l0_1.length ≤ c0_1) (h : fb k a0_0 l0_1 a1 a2 = some r) :
 Calls Tryz.prog 58 #[.agg #[.int .i64 a0_0, .slice A0_1 l0_1.length c0_1], .int .i64 a1, .int .i64 a2] w fun e w' => e = .returned (.bool r) ∧ Below w.heap.size w w' := by
 have hu29 := Tryz.underlying29
 have HR0_1 := Aside0.mk hr0_1
 have HC0_1 := Aside0.mk hc0_1
 clear hr0_1 hc0_1
 have HB := zM (Below.refl w.heap.size w)
 have H : ((jC a1 a2).bind fun bt182 => ((gp k l0_1 bt182.1 bt182.2).bind fun t184 => (some t184))) = some r := h
 clear h
 replace H := aw H
 obtain ⟨⟨t182, t183⟩, A40, H⟩ := H
 replace H : ((gp k l0_1 t182 t183).bind fun t184 => (some t184)) = some r := H
 have A4 := Aside0.mk A40
 clear A40
 replace H := aw H
 obtain ⟨t184, A50, H⟩ := H
 have A5 := Aside0.mk A50
 clear A50
 obtain rfl := aq H
 go_enter Tryz.func58, Tryz.ntmps58
 try go_wp2_with (first | ((with_reducible refine ar (N := 3) rfl ?_); refine zb (w := w) 3 #[.int .i64 a0_0, .slice A0_1 l0_1.length c0_1] 29 zB ?_; clear HB; intro gb181 w6 HB BK181 GW181; have GE181 := GW181))
 replace BK181 := zM (ap BK181.out)
 replace HB := zM (aD HB.out)
 refine zs (n := 7) (fun w' => w'.cell? ⟨gb181, 0, none⟩ = some (.int .i64 a0_0) ∧ w'.cell? ⟨gb181, 1, none⟩ = some (.slice A0_1 l0_1.length c0_1)) ⟨(ah BK181.out 0).trans rfl, (ah BK181.out 1).trans rfl⟩ (fun hHeld => ?_)
 generalize w6.drew = w7 at BK181 HB hHeld ⊢
 refine zq 0 7 ?_
 refine zq 2 9 ?_
 refine zq 3 10 ?_
 refine zl 1 8 hHeld ?_ (hy := by rintro w' ⟨s0, s1⟩; go_simp; with_reducible rfl)
 refine zh 4 11 Tryz.func77 #[.int .i64 a1, .int .i64 a2] (fun K hK => ?_)
 with_reducible refine (qq a1 a2 t182 t183 _ A4.out).mono ?_
 rintro e w8 ⟨rfl, hb⟩
 refine ⟨_, rfl, ?_⟩
 replace BK181 := zM (am (g := gb181) (o := .cells #[.int .i64 a0_0, .slice A0_1 l0_1.length c0_1] 29 (0, 0)) (zK BK181.out) hb)
 replace HB := zM (ag zB hb)
 (try clear hb)
 (try clear hb2)
 (try clear hk)
 (try clear hi)
 refine hK.out _ _ ⟨(ah BK181.out 0).trans rfl, (ah BK181.out 1).trans rfl⟩ (fun hHeld => ?_)
 clear hK K
 refine zn 11 ?_
 refine zh 5 12 Tryz.func76 #[.slice A0_1 l0_1.length c0_1, .agg #[.int .i64 t182, .int .i64 t183]] (fun K hK => ?_)
 with_reducible refine (n5 k _ _ l0_1 t182 t183 t184 _ ?side1 ?side2 A5.out).mono ?_
 (case side1 => exact zC (Kd.C_below HR0_1.out HB.out))
 (case side2 => exact HC0_1.out)
 rintro e w9 ⟨rfl, hb⟩
 refine ⟨_, rfl, ?_⟩
 replace BK181 := zM (am (g := gb181) (o := .cells #[.int .i64 a0_0, .slice A0_1 l0_1.length c0_1] 29 (0, 0)) (zK BK181.out) hb)
 replace HB := zM (ag zB hb)
 (try clear hb)
 (try clear hb2)
 (try clear hk)
 (try clear hi)
 refine hK.out _ _ ⟨(ah BK181.out 0).trans rfl, (ah BK181.out 1).trans rfl⟩ (fun hHeld => ?_)
 clear hK K
 refine zn 12 ?_
 refine zq 6 6 ?_
 refine zx ?_
 try go_wp2
 go_ret
 exact ⟨by first | rfl | (simp [aj, ai] <;> rfl) | (simp [*, aj, ai] <;> rfl), zB⟩

/-! ### impl_Graph_neighbors: function 34 -/
def cJ : Nat → Int → List Int → Int → Int → Int → List (S63) → Option (List Int)
 | 0, _, _, _, _, _, _ => none
 | k + 1, x1, x5, x9, x10, x186000, x186001 => if x10 < x9 then (if x10 = x1 then (cJ k x1 x5 x9 (wrap64 (x10 + 1)) x186000 x186001) else ((fb k x186000 x186001 x1 x10).bind fun t189 => (if t189 = true then (if x5.length < 17592186044416 then (cJ k x1 (x5 ++ [x10]) x9 (wrap64 (x10 + 1)) x186000 x186001) else (none)) else (cJ k x1 x5 x9 (wrap64 (x10 + 1)) x186000 x186001)))) else (some x5)
def iO (k : Nat) (a0_0 : Int) (l0_1 : List (S63)) (a1 : Int) : Option (List Int) := cJ k a1 (([] : List Int)) a0_0 0 a0_0 l0_1
set_option maxHeartbeats 8000000 in
set_option maxRecDepth 100000 in
theorem qM (k : Nat) (a0_0 : Int) (A0_1 : Option Addr) (c0_1 : Nat) (l0_1 : List (S63)) (a1 : Int) (r : List Int) (w : World) (hr0_1 : Kd.C k63 w A0_1 l0_1.length l0_1) (hc0_1 : l0_1.length ≤ c0_1) (h : iO k a0_0 l0_1 a1 = some r) :
 Calls Tryz.prog 34 #[.agg #[.int .i64 a0_0, .slice A0_1 l0_1.length c0_1], .int .i64 a1] w fun e w' => ∃ v0_ : Value, e = .returned (v0_) ∧ Kd.R (Kd.int .i64) 3 w' w.heap.size (fun _ => True) v0_ r ∧ Below w.heap.size w w' := by
 have hu29 := Tryz.underlying29
 have HR0_1 := Aside0.mk hr0_1
 have HC0_1 := Aside0.mk hc0_1
 clear hr0_1 hc0_1
 have HB := zM (Below.refl w.heap.size w)
 have H : (cJ k a1 (([] : List Int)) a0_0 0 a0_0 l0_1) = some r := h
 clear h
 obtain ⟨y186, hy186⟩ : ∃ y_ : List Int, y_ = (([] : List Int)) := ⟨_, rfl⟩
 replace H : (cJ k a1 y186 a0_0 0 a0_0 l0_1) = some r := by first | (rw [hy186]; with_reducible exact H) | (have H2_ := (Option.bind_some _ _).symm.trans H; rw [hy186]; with_reducible exact H2_) | (have H2_ := (Option.bind_some _ _).symm.trans H; with_reducible exact H2_) | with_reducible exact H | (rw [hy186]; exact H) | exact H
 have Ny186 := Aside0.mk hy186
 clear hy186
 have H' := Aside0.mk H
 clear H
 go_enter Tryz.func34, Tryz.ntmps34
 go_wp2_with (first | ((with_reducible refine ar (N := 2) rfl ?_); refine zb (w := w) 2 #[.int .i64 a0_0, .slice A0_1 l0_1.length c0_1] 29 zB ?_; clear HB; intro gb185 w3 HB BK185 GW185; have GE185 := GW185) | ((with_reducible refine ar (N := 7) rfl ?_); refine Kd.R_lit (Kd.int .i64) _ 3 ?hg (N := 7) ?hd (xs := ([] : List Int)) (inner := []) (ok := fun _ => True) (okp := fun _ => True) ?hr ?hp (fun _ hk => hk) trivial (Below.refl _ _) (av _) (by simp) ?_; (case hd => rfl); (case hg => rfl); (case hr => first | (go_simp; done) | (go_simp; rfl)); (case hp => exact (Reps.none _ _)); intro v187 w4 ho5 hb hg_ hnew_; clear hg_ hnew_; (first | rw [← Ny186.out] at ho5 | (simp only [Int.reduceToNat] at ho5; rw [← Ny186.out] at ho5)); have HO188 := zM (Kd.R_lower ho5 (ao zB)); replace BK185 := zM (am (g := gb185) (o := .cells #[.int .i64 a0_0, .slice A0_1 l0_1.length c0_1] 29 (0, 0)) (zK BK185.out) hb); replace HB := zM (ag zB hb); clear hb ho5; have hcz6_0 := zy BK185 0; have hcz6_1 := zy BK185 1; have hfz6_0 := ae BK185.out 0; have hfz6_1 := ae BK185.out 1))
 go_loopg [5, 10] k (fun kq v5 v10 w' => ∃ (x5_1 : List Int) (x10_1 : Int), v10 = .int .i64 x10_1 ∧ Aside0 (cJ kq a1 x5_1 a0_0 x10_1 a0_0 l0_1 = some r) ∧ Aside0 (kq ≤ k) ∧ Aside0 (Kd.R (Kd.int .i64) 3 w' w.heap.size (fun _ => True) v5 x5_1) ∧ Aside0 (w'.heap[gb185]? = some (.cells #[.int .i64 a0_0, (.slice A0_1 l0_1.length c0_1)] 29 (0, 0))) ∧ Aside0 (Below w.heap.size w w'))
 case atStart => exact ⟨(y186), (0), (by first | rfl | (simp; done) | (simp [*]; done)), H', ⟨av _⟩, ⟨zR HO188.out⟩, ⟨zK BK185.out⟩, ⟨zB⟩⟩
 case round =>
  clear H'
  try clear p2
  try clear c3
  try clear hcz6_0
  try clear hcz6_1
  try clear hfz6_0
  try clear hfz6_1
  obtain ⟨x5_1, x10_1, rfl, HA, HK1, HO_5, BK185, HB⟩ := hrel
  cases gk with
  | zero => exact absurd HA.out (by simp [cJ])
  | succ k1 =>
   have H := HA.out
   clear HA
   simp only [cJ] at H
   by_cases c7 : x10_1 < a0_0
   · rw [if_pos c7] at H
     have c7b0 := af c7
     clear c7
     by_cases c8 : x10_1 = a1
     · rw [if_pos c8] at H
       have c8b0 : (x10_1 == a1) = true := beq_iff_eq.mpr c8
       have c8b1 : (x10_1 != a1) = false := bne_eq_false_iff_eq.mpr c8
       clear c8
       have H' := Aside0.mk H
       clear H
       go_wp2
       go_roundg k1
       case measure => have := HK1.out; omega
       case rel => exact ⟨(x5_1), (wrap64 (x10_1 + 1)), (by first | rfl | (simp; done) | (simp [*]; done)), H', ⟨by have := HK1.out; omega⟩, ⟨zR HO_5.out⟩, ⟨zK BK185.out⟩, ⟨zB⟩⟩
     · rw [if_neg c8] at H
       have c8b0 : (x10_1 == a1) = false := beq_eq_false_iff_ne.mpr c8
       have c8b1 : (x10_1 != a1) = true := bne_iff_ne.mpr c8
       replace H := aw H
       obtain ⟨t189, A90, H⟩ := H
       have A9 := Aside0.mk A90
       clear A90
       by_cases c10 : t189 = true
       · subst c10
         rw [if_pos rfl] at H
         by_cases c11 : x5_1.length < 17592186044416
         · rw [if_pos c11] at H
           have LMc11 := Aside0.mk c11
           clear c11
           obtain ⟨y190, hy190⟩ : ∃ y_ : List Int, y_ = (x5_1 ++ [x10_1]) := ⟨_, rfl⟩
           replace H : (cJ k1 a1 y190 a0_0 (wrap64 (x10_1 + 1)) a0_0 l0_1) = some r := by first | (rw [hy190]; with_reducible exact H) | (have H2_ := (Option.bind_some _ _).symm.trans H; rw [hy190]; with_reducible exact H2_) | (have H2_ := (Option.bind_some _ _).symm.trans H; with_reducible exact H2_) | with_reducible exact H | (rw [hy190]; exact H) | exact H
           have Ny190 := Aside0.mk hy190
           clear hy190
           have H' := Aside0.mk H
           clear H
           have hcz12_0 := zy BK185 0
           have hcz12_1 := zy BK185 1
           have hfz12_0 := ae BK185.out 0
           have hfz12_1 := ae BK185.out 1
           go_wp2_with (first | (go_at_call 58; (with_reducible refine (jI k1 a0_0 _ _ l0_1 a1 x10_1 true _ ?side1 ?side2 A9.out).mono ?_); (case side1 => exact zC (Kd.C_below HR0_1.out HB.out)); (case side2 => exact HC0_1.out); rintro e w13 ⟨rfl, hb⟩; replace HO_5 := zM (Kd.R_below (zR HO_5.out) hb); replace BK185 := zM (am (g := gb185) (o := .cells #[.int .i64 a0_0, .slice A0_1 l0_1.length c0_1] 29 (0, 0)) (zK BK185.out) hb); replace HB := zM (ag zB hb); (try clear hb); (try clear hb2); (try clear hk); (try clear hi)) | ((with_reducible refine db (b := .append) (xs := #[.tmp 22, .tmp 24]) rfl ?_); at_builtin; refine Kd.R_append (Kd.int .i64) (w0 := w) w.heap.size rfl (.tmp 22) (.tmp 24) 25 3 (.int .i64 0) 8 rfl Tryz.underlying25 bw rfl (by decide) (by omega) u5 x5_1 x10_1 [.int .i64 x10_1] (fun _ => True) (fun _ => False) rfl rfl ?aP (fun _ hk => hk.elim) ?aF ?aO ?aB ?aS ?aL ?_; (case aP => exact rfl); (case aB => exact zB); (case aF => exact (fun _ _ => trivial)); (case aO => exact (zR HO_5.out)); (case aS => exact (ao zB)); (case aL => have := LMc11.out; omega); intro v191 w14 ho hb hg hat; rw [← Ny190.out] at ho; replace BK185 := zM (dd (g := gb185) (o := .cells #[.int .i64 a0_0, .slice A0_1 l0_1.length c0_1] 29 (0, 0)) (zK BK185.out) hg (Kd.R_ne HO_5.out BK185.out (by decide))); replace HB := zM (hb); have HO192 := zM (ho); clear HO_5; clear ho hb hg hat))
           go_roundg k1
           case measure => have := HK1.out; omega
           case rel => exact ⟨(y190), (wrap64 (x10_1 + 1)), (by first | rfl | (simp; done) | (simp [*]; done)), H', ⟨by have := HK1.out; omega⟩, ⟨zR HO192.out⟩, ⟨zK BK185.out⟩, ⟨zB⟩⟩
         · rw [if_neg c11] at H
           exact absurd H (by simp)
       · replace c10 := Bool.eq_false_iff.mpr c10
         subst c10
         have H1 : (cJ k1 a1 x5_1 a0_0 (wrap64 (x10_1 + 1)) a0_0 l0_1) = some r := by rw [if_neg (show ¬ (false = true) by decide)] at H; exact H
         clear H
         have H := H1
         clear H1
         have H' := Aside0.mk H
         clear H
         have hcz15_0 := zy BK185 0
         have hcz15_1 := zy BK185 1
         have hfz15_0 := ae BK185.out 0
         have hfz15_1 := ae BK185.out 1
         go_wp2_with (first | (go_at_call 58; (with_reducible refine (jI k1 a0_0 _ _ l0_1 a1 x10_1 false _ ?side1 ?side2 A9.out).mono ?_); (case side1 => exact zC (Kd.C_below HR0_1.out HB.out)); (case side2 => exact HC0_1.out); rintro e w16 ⟨rfl, hb⟩; replace HO_5 := zM (Kd.R_below (zR HO_5.out) hb); replace BK185 := zM (am (g := gb185) (o := .cells #[.int .i64 a0_0, .slice A0_1 l0_1.length c0_1] 29 (0, 0)) (zK BK185.out) hb); replace HB := zM (ag zB hb); (try clear hb); (try clear hb2); (try clear hk); (try clear hi)))
         go_roundg k1
         case measure => have := HK1.out; omega
         case rel => exact ⟨(x5_1), (wrap64 (x10_1 + 1)), (by first | rfl | (simp; done) | (simp [*]; done)), H', ⟨by have := HK1.out; omega⟩, ⟨zR HO_5.out⟩, ⟨zK BK185.out⟩, ⟨zB⟩⟩
   · rw [if_neg c7] at H
     have c7b0 : decide (x10_1 < a0_0) = false := au c7
     clear c7
     obtain rfl := aq H
     go_wp2
     go_ret
     exact ⟨_, by first | rfl | (simp [aj, ai] <;> rfl) | (simp [*, aj, ai] <;> rfl), by (with_reducible repeat (first | apply Kd.R_alloc | apply Kd.R_drewN | apply Kd.R_drew)); exact HO_5.out, zB⟩

/-! ### spec_l2Near: function 64 -/
def df : Nat → Int → Int → Int → Int → List (S63) → Option (Bool)
 | 0, _, _, _, _, _ => none
 | k + 1, x1, x2, x7, x194000, x194001 => if x7 < (x194001.length : Int) then (if 0 ≤ x7 then (if ((aa x194001 x7).f0) = x1 then (if ((aa x194001 x7).f1) = x2 then (some true) else (if ((aa x194001 x7).f0) = x2 then (if ((aa x194001 x7).f1) = x1 then (some true) else (df k x1 x2 (wrap64 (x7 + 1)) x194000 x194001)) else (df k x1 x2 (wrap64 (x7 + 1)) x194000 x194001))) else (if ((aa x194001 x7).f0) = x2 then (if ((aa x194001 x7).f1) = x1 then (some true) else (df k x1 x2 (wrap64 (x7 + 1)) x194000 x194001)) else (df k x1 x2 (wrap64 (x7 + 1)) x194000 x194001))) else (none)) else (some false)
def gi (k : Nat) (a0_0 : Int) (l0_1 : List (S63)) (a1 : Int) (a2 : Int) : Option (Bool) := df k a1 a2 0 a0_0 l0_1
set_option maxHeartbeats 8000000 in
set_option maxRecDepth 100000 in
theorem fx (k : Nat) (a0_0 : Int) (A0_1 : Option Addr) (c0_1 : Nat) (l0_1 : List (S63)) (a1 : Int) (a2 : Int) (r : Bool) (w : World) (hr0_1 : Kd.C k63 w A0_1 l0_1.length l0_1) (hc0_1 : l0_1.length ≤ c0_1) (h : gi k a0_0 l0_1 a1 a2 = some r) :
 Calls Tryz.prog 64 #[.agg #[.int .i64 a0_0, .slice A0_1 l0_1.length c0_1], .int .i64 a1, .int .i64 a2] w fun e w' => e = .returned (.bool r) ∧ Below w.heap.size w w' := by
 have hu29 := Tryz.underlying29
 have hu63 := Tryz.underlying63
 have HR0_1 := Aside0.mk hr0_1
 have HC0_1 := Aside0.mk hc0_1
 clear hr0_1 hc0_1
 have HB := zM (Below.refl w.heap.size w)
 have H : (df k a1 a2 0 a0_0 l0_1) = some r := h
 clear h
 have H' := Aside0.mk H
 clear H
 go_enter Tryz.func64, Tryz.ntmps64
 go_wp2_with (first | ((with_reducible refine ar (N := 3) rfl ?_); refine zb (w := w) 3 #[.int .i64 a0_0, .slice A0_1 l0_1.length c0_1] 29 zB ?_; clear HB; intro gb193 w4 HB BK193 GW193; have GE193 := GW193))
 go_loopg [7] k (fun kq v7 w' => ∃ (x7_1 : Int), v7 = .int .i64 x7_1 ∧ Aside0 (df kq a1 a2 x7_1 a0_0 l0_1 = some r) ∧ Aside0 (kq ≤ k) ∧ Aside0 (w'.heap[gb193]? = some (.cells #[.int .i64 a0_0, (.slice A0_1 l0_1.length c0_1)] 29 (0, 0))) ∧ Aside0 (Below w.heap.size w w'))
 case atStart => exact ⟨(0), (by first | rfl | (simp; done) | (simp [*]; done)), H', ⟨av _⟩, ⟨zK BK193.out⟩, ⟨zB⟩⟩
 case round =>
  clear H'
  try clear p2
  obtain ⟨x7_1, rfl, HA, HK1, BK193, HB⟩ := hrel
  cases gk with
  | zero => exact absurd HA.out (by simp [df])
  | succ k1 =>
   have H := HA.out
   clear HA
   simp only [df] at H
   by_cases c5 : x7_1 < (l0_1.length : Int)
   · rw [if_pos c5] at H
     have c5b0 := af c5
     clear c5
     by_cases c6 : 0 ≤ x7_1
     · rw [if_pos c6] at H
       have c6b0 := af c6
       clear c6
       by_cases c7 : ((aa l0_1 x7_1).f0) = a1
       · rw [if_pos c7] at H
         have c7b0 : (((aa l0_1 x7_1).f0) == a1) = true := beq_iff_eq.mpr c7
         have c7b1 : (((aa l0_1 x7_1).f0) != a1) = false := bne_eq_false_iff_eq.mpr c7
         clear c7
         by_cases c8 : ((aa l0_1 x7_1).f1) = a2
         · rw [if_pos c8] at H
           have c8b0 : (((aa l0_1 x7_1).f1) == a2) = true := beq_iff_eq.mpr c8
           have c8b1 : (((aa l0_1 x7_1).f1) != a2) = false := bne_eq_false_iff_eq.mpr c8
           clear c8
           obtain rfl := aq H
           have hcz9_0 := zy BK193 0
           have hcz9_1 := zy BK193 1
           have hfz9_0 := ae BK193.out 0
           have hfz9_1 := ae BK193.out 1
           have p194 : 0 ≤ (x7_1 : Int) := ac zA
           have q194 : x7_1 < (l0_1.length : Int) := ac zA
           obtain ⟨ad194, e194, hx194_0, hx194_1⟩ := bl HR0_1.out x7_1 p194 q194
           cases e194
           (try replace hx194_0 := (HB.out.cell (ak w _ hx194_0)).trans hx194_0)
           (try replace hx194_1 := (HB.out.cell (ak w _ hx194_1)).trans hx194_1)
           replace p194 := eq_true p194
           replace q194 := eq_true q194
           go_wp2_with (first | ((with_reducible refine ar (N := 8) rfl ?_); refine ze 8 #[.int .i64 0, .int .i64 0] 63 ?_; intro gb195 hg w10 hbox hb; have BK195 := zM (hbox); have GW195 := zM ((by rw [hg]; exact (ao zB) : w.heap.size ≤ gb195)); have GE195 := zM ((by rw [hg]; exact (ao zB) : w.heap.size ≤ gb195)); replace HB := zM (ag zB hb); have NB193_195 := zM ((by rw [hg]; exact Nat.ne_of_lt (aE (g := gb193) (o := .cells #[.int .i64 a0_0, .slice (some ad194) l0_1.length c0_1] 29 (0, 0)) (zK BK193.out)) : gb193 ≠ gb195)); have NB195_193 := zM ((by rw [hg]; exact Nat.ne_of_gt (aE (g := gb193) (o := .cells #[.int .i64 a0_0, .slice (some ad194) l0_1.length c0_1] 29 (0, 0)) (zK BK193.out)) : gb195 ≠ gb193)); replace BK193 := zM (am (g := gb193) (o := .cells #[.int .i64 a0_0, .slice (some ad194) l0_1.length c0_1] 29 (0, 0)) (zK BK193.out) hb); clear hb hbox hg; have hnb11 := NB195_193.out; have hnc11 := NB193_195.out; have hcz12_0 := zy BK195 0; have hcz12_1 := zy BK195 1; have hfz12_0 := ae BK195.out 0; have hfz12_1 := ae BK195.out 1))
           go_ret
           exact ⟨by first | rfl | (simp [aj, ai] <;> rfl) | (simp [*, aj, ai] <;> rfl), zB⟩
         · rw [if_neg c8] at H
           have c8b0 : (((aa l0_1 x7_1).f1) == a2) = false := beq_eq_false_iff_ne.mpr c8
           have c8b1 : (((aa l0_1 x7_1).f1) != a2) = true := bne_iff_ne.mpr c8
           by_cases c13 : ((aa l0_1 x7_1).f0) = a2
           · rw [if_pos c13] at H
             have c13b0 : (((aa l0_1 x7_1).f0) == a2) = true := beq_iff_eq.mpr c13
             have c13b1 : (((aa l0_1 x7_1).f0) != a2) = false := bne_eq_false_iff_eq.mpr c13
             clear c13
             by_cases c14 : ((aa l0_1 x7_1).f1) = a1
             · rw [if_pos c14] at H
               have c14b0 : (((aa l0_1 x7_1).f1) == a1) = true := beq_iff_eq.mpr c14
               have c14b1 : (((aa l0_1 x7_1).f1) != a1) = false := bne_eq_false_iff_eq.mpr c14
               clear c14
               obtain rfl := aq H
               have hcz15_0 := zy BK193 0
               have hcz15_1 := zy BK193 1
               have hfz15_0 := ae BK193.out 0
               have hfz15_1 := ae BK193.out 1
               have p194 : 0 ≤ (x7_1 : Int) := ac zA
               have q194 : x7_1 < (l0_1.length : Int) := ac zA
               obtain ⟨ad194, e194, hx194_0, hx194_1⟩ := bl HR0_1.out x7_1 p194 q194
               cases e194
               (try replace hx194_0 := (HB.out.cell (ak w _ hx194_0)).trans hx194_0)
               (try replace hx194_1 := (HB.out.cell (ak w _ hx194_1)).trans hx194_1)
               replace p194 := eq_true p194
               replace q194 := eq_true q194
               go_wp2_with (first | ((with_reducible refine ar (N := 8) rfl ?_); refine ze 8 #[.int .i64 0, .int .i64 0] 63 ?_; intro gb195 hg w16 hbox hb; have BK195 := zM (hbox); have GW195 := zM ((by rw [hg]; exact (ao zB) : w.heap.size ≤ gb195)); have GE195 := zM ((by rw [hg]; exact (ao zB) : w.heap.size ≤ gb195)); replace HB := zM (ag zB hb); have NB193_195 := zM ((by rw [hg]; exact Nat.ne_of_lt (aE (g := gb193) (o := .cells #[.int .i64 a0_0, .slice (some ad194) l0_1.length c0_1] 29 (0, 0)) (zK BK193.out)) : gb193 ≠ gb195)); have NB195_193 := zM ((by rw [hg]; exact Nat.ne_of_gt (aE (g := gb193) (o := .cells #[.int .i64 a0_0, .slice (some ad194) l0_1.length c0_1] 29 (0, 0)) (zK BK193.out)) : gb195 ≠ gb193)); replace BK193 := zM (am (g := gb193) (o := .cells #[.int .i64 a0_0, .slice (some ad194) l0_1.length c0_1] 29 (0, 0)) (zK BK193.out) hb); clear hb hbox hg; have hnb17 := NB195_193.out; have hnc17 := NB193_195.out; have hcz18_0 := zy BK195 0; have hcz18_1 := zy BK195 1; have hfz18_0 := ae BK195.out 0; have hfz18_1 := ae BK195.out 1))
               go_ret
               exact ⟨by first | rfl | (simp [aj, ai] <;> rfl) | (simp [*, aj, ai] <;> rfl), zB⟩
             · rw [if_neg c14] at H
               have c14b0 : (((aa l0_1 x7_1).f1) == a1) = false := beq_eq_false_iff_ne.mpr c14
               have c14b1 : (((aa l0_1 x7_1).f1) != a1) = true := bne_iff_ne.mpr c14
               have H' := Aside0.mk H
               clear H
               have hcz19_0 := zy BK193 0
               have hcz19_1 := zy BK193 1
               have hfz19_0 := ae BK193.out 0
               have hfz19_1 := ae BK193.out 1
               have p194 : 0 ≤ (x7_1 : Int) := ac zA
               have q194 : x7_1 < (l0_1.length : Int) := ac zA
               obtain ⟨ad194, e194, hx194_0, hx194_1⟩ := bl HR0_1.out x7_1 p194 q194
               cases e194
               (try replace hx194_0 := (HB.out.cell (ak w _ hx194_0)).trans hx194_0)
               (try replace hx194_1 := (HB.out.cell (ak w _ hx194_1)).trans hx194_1)
               replace p194 := eq_true p194
               replace q194 := eq_true q194
               go_wp2_with (first | ((with_reducible refine ar (N := 8) rfl ?_); refine ze 8 #[.int .i64 0, .int .i64 0] 63 ?_; intro gb195 hg w20 hbox hb; have BK195 := zM (hbox); have GW195 := zM ((by rw [hg]; exact (ao zB) : w.heap.size ≤ gb195)); have GE195 := zM ((by rw [hg]; exact (ao zB) : w.heap.size ≤ gb195)); replace HB := zM (ag zB hb); have NB193_195 := zM ((by rw [hg]; exact Nat.ne_of_lt (aE (g := gb193) (o := .cells #[.int .i64 a0_0, .slice (some ad194) l0_1.length c0_1] 29 (0, 0)) (zK BK193.out)) : gb193 ≠ gb195)); have NB195_193 := zM ((by rw [hg]; exact Nat.ne_of_gt (aE (g := gb193) (o := .cells #[.int .i64 a0_0, .slice (some ad194) l0_1.length c0_1] 29 (0, 0)) (zK BK193.out)) : gb195 ≠ gb193)); replace BK193 := zM (am (g := gb193) (o := .cells #[.int .i64 a0_0, .slice (some ad194) l0_1.length c0_1] 29 (0, 0)) (zK BK193.out) hb); clear hb hbox hg; have hnb21 := NB195_193.out; have hnc21 := NB193_195.out; have hcz22_0 := zy BK195 0; have hcz22_1 := zy BK195 1; have hfz22_0 := ae BK195.out 0; have hfz22_1 := ae BK195.out 1))
               go_roundg k1
               case measure => have := HK1.out; omega
               case rel => exact ⟨(wrap64 (x7_1 + 1)), (by first | rfl | (simp; done) | (simp [*]; done)), H', ⟨by have := HK1.out; omega⟩, ⟨by (with_reducible repeat (first | refine ay ?_ _ | refine ap ?_ | refine ax ?_ _)); refine bH ?_ NB193_195.out _; (with_reducible repeat (first | refine ay ?_ _ | refine ap ?_ | refine ax ?_ _)); refine bH ?_ NB193_195.out _; (with_reducible repeat (first | refine ay ?_ _ | refine ap ?_ | refine ax ?_ _)); exact BK193.out⟩, ⟨zB⟩⟩
           · rw [if_neg c13] at H
             have c13b0 : (((aa l0_1 x7_1).f0) == a2) = false := beq_eq_false_iff_ne.mpr c13
             have c13b1 : (((aa l0_1 x7_1).f0) != a2) = true := bne_iff_ne.mpr c13
             have H' := Aside0.mk H
             clear H
             have hcz23_0 := zy BK193 0
             have hcz23_1 := zy BK193 1
             have hfz23_0 := ae BK193.out 0
             have hfz23_1 := ae BK193.out 1
             have p194 : 0 ≤ (x7_1 : Int) := ac zA
             have q194 : x7_1 < (l0_1.length : Int) := ac zA
             obtain ⟨ad194, e194, hx194_0, hx194_1⟩ := bl HR0_1.out x7_1 p194 q194
             cases e194
             (try replace hx194_0 := (HB.out.cell (ak w _ hx194_0)).trans hx194_0)
             (try replace hx194_1 := (HB.out.cell (ak w _ hx194_1)).trans hx194_1)
             replace p194 := eq_true p194
             replace q194 := eq_true q194
             go_wp2_with (first | ((with_reducible refine ar (N := 8) rfl ?_); refine ze 8 #[.int .i64 0, .int .i64 0] 63 ?_; intro gb195 hg w24 hbox hb; have BK195 := zM (hbox); have GW195 := zM ((by rw [hg]; exact (ao zB) : w.heap.size ≤ gb195)); have GE195 := zM ((by rw [hg]; exact (ao zB) : w.heap.size ≤ gb195)); replace HB := zM (ag zB hb); have NB193_195 := zM ((by rw [hg]; exact Nat.ne_of_lt (aE (g := gb193) (o := .cells #[.int .i64 a0_0, .slice (some ad194) l0_1.length c0_1] 29 (0, 0)) (zK BK193.out)) : gb193 ≠ gb195)); have NB195_193 := zM ((by rw [hg]; exact Nat.ne_of_gt (aE (g := gb193) (o := .cells #[.int .i64 a0_0, .slice (some ad194) l0_1.length c0_1] 29 (0, 0)) (zK BK193.out)) : gb195 ≠ gb193)); replace BK193 := zM (am (g := gb193) (o := .cells #[.int .i64 a0_0, .slice (some ad194) l0_1.length c0_1] 29 (0, 0)) (zK BK193.out) hb); clear hb hbox hg; have hnb25 := NB195_193.out; have hnc25 := NB193_195.out; have hcz26_0 := zy BK195 0; have hcz26_1 := zy BK195 1; have hfz26_0 := ae BK195.out 0; have hfz26_1 := ae BK195.out 1))
             go_roundg k1
             case measure => have := HK1.out; omega
             case rel => exact ⟨(wrap64 (x7_1 + 1)), (by first | rfl | (simp; done) | (simp [*]; done)), H', ⟨by have := HK1.out; omega⟩, ⟨by (with_reducible repeat (first | refine ay ?_ _ | refine ap ?_ | refine ax ?_ _)); refine bH ?_ NB193_195.out _; (with_reducible repeat (first | refine ay ?_ _ | refine ap ?_ | refine ax ?_ _)); refine bH ?_ NB193_195.out _; (with_reducible repeat (first | refine ay ?_ _ | refine ap ?_ | refine ax ?_ _)); exact BK193.out⟩, ⟨zB⟩⟩
       · rw [if_neg c7] at H
         have c7b0 : (((aa l0_1 x7_1).f0) == a1) = false := beq_eq_false_iff_ne.mpr c7
         have c7b1 : (((aa l0_1 x7_1).f0) != a1) = true := bne_iff_ne.mpr c7
         by_cases c27 : ((aa l0_1 x7_1).f0) = a2
         · rw [if_pos c27] at H
           have c27b0 : (((aa l0_1 x7_1).f0) == a2) = true := beq_iff_eq.mpr c27
           have c27b1 : (((aa l0_1 x7_1).f0) != a2) = false := bne_eq_false_iff_eq.mpr c27
           clear c27
           by_cases c28 : ((aa l0_1 x7_1).f1) = a1
           · rw [if_pos c28] at H
             have c28b0 : (((aa l0_1 x7_1).f1) == a1) = true := beq_iff_eq.mpr c28
             have c28b1 : (((aa l0_1 x7_1).f1) != a1) = false := bne_eq_false_iff_eq.mpr c28
             clear c28
             obtain rfl := aq H
             have hcz29_0 := zy BK193 0
             have hcz29_1 := zy BK193 1
             have hfz29_0 := ae BK193.out 0
             have hfz29_1 := ae BK193.out 1
             have p194 : 0 ≤ (x7_1 : Int) := ac zA
             have q194 : x7_1 < (l0_1.length : Int) := ac zA
             obtain ⟨ad194, e194, hx194_0, hx194_1⟩ := bl HR0_1.out x7_1 p194 q194
             cases e194
             (try replace hx194_0 := (HB.out.cell (ak w _ hx194_0)).trans hx194_0)
             (try replace hx194_1 := (HB.out.cell (ak w _ hx194_1)).trans hx194_1)
             replace p194 := eq_true p194
             replace q194 := eq_true q194
             go_wp2_with (first | ((with_reducible refine ar (N := 8) rfl ?_); refine ze 8 #[.int .i64 0, .int .i64 0] 63 ?_; intro gb195 hg w30 hbox hb; have BK195 := zM (hbox); have GW195 := zM ((by rw [hg]; exact (ao zB) : w.heap.size ≤ gb195)); have GE195 := zM ((by rw [hg]; exact (ao zB) : w.heap.size ≤ gb195)); replace HB := zM (ag zB hb); have NB193_195 := zM ((by rw [hg]; exact Nat.ne_of_lt (aE (g := gb193) (o := .cells #[.int .i64 a0_0, .slice (some ad194) l0_1.length c0_1] 29 (0, 0)) (zK BK193.out)) : gb193 ≠ gb195)); have NB195_193 := zM ((by rw [hg]; exact Nat.ne_of_gt (aE (g := gb193) (o := .cells #[.int .i64 a0_0, .slice (some ad194) l0_1.length c0_1] 29 (0, 0)) (zK BK193.out)) : gb195 ≠ gb193)); replace BK193 := zM (am (g := gb193) (o := .cells #[.int .i64 a0_0, .slice (some ad194) l0_1.length c0_1] 29 (0, 0)) (zK BK193.out) hb); clear hb hbox hg; have hnb31 := NB195_193.out; have hnc31 := NB193_195.out; have hcz32_0 := zy BK195 0; have hcz32_1 := zy BK195 1; have hfz32_0 := ae BK195.out 0; have hfz32_1 := ae BK195.out 1))
             go_ret
             exact ⟨by first | rfl | (simp [aj, ai] <;> rfl) | (simp [*, aj, ai] <;> rfl), zB⟩
           · rw [if_neg c28] at H
             have c28b0 : (((aa l0_1 x7_1).f1) == a1) = false := beq_eq_false_iff_ne.mpr c28
             have c28b1 : (((aa l0_1 x7_1).f1) != a1) = true := bne_iff_ne.mpr c28
             have H' := Aside0.mk H
             clear H
             have hcz33_0 := zy BK193 0
             have hcz33_1 := zy BK193 1
             have hfz33_0 := ae BK193.out 0
             have hfz33_1 := ae BK193.out 1
             have p194 : 0 ≤ (x7_1 : Int) := ac zA
             have q194 : x7_1 < (l0_1.length : Int) := ac zA
             obtain ⟨ad194, e194, hx194_0, hx194_1⟩ := bl HR0_1.out x7_1 p194 q194
             cases e194
             (try replace hx194_0 := (HB.out.cell (ak w _ hx194_0)).trans hx194_0)
             (try replace hx194_1 := (HB.out.cell (ak w _ hx194_1)).trans hx194_1)
             replace p194 := eq_true p194
             replace q194 := eq_true q194
             go_wp2_with (first | ((with_reducible refine ar (N := 8) rfl ?_); refine ze 8 #[.int .i64 0, .int .i64 0] 63 ?_; intro gb195 hg w34 hbox hb; have BK195 := zM (hbox); have GW195 := zM ((by rw [hg]; exact (ao zB) : w.heap.size ≤ gb195)); have GE195 := zM ((by rw [hg]; exact (ao zB) : w.heap.size ≤ gb195)); replace HB := zM (ag zB hb); have NB193_195 := zM ((by rw [hg]; exact Nat.ne_of_lt (aE (g := gb193) (o := .cells #[.int .i64 a0_0, .slice (some ad194) l0_1.length c0_1] 29 (0, 0)) (zK BK193.out)) : gb193 ≠ gb195)); have NB195_193 := zM ((by rw [hg]; exact Nat.ne_of_gt (aE (g := gb193) (o := .cells #[.int .i64 a0_0, .slice (some ad194) l0_1.length c0_1] 29 (0, 0)) (zK BK193.out)) : gb195 ≠ gb193)); replace BK193 := zM (am (g := gb193) (o := .cells #[.int .i64 a0_0, .slice (some ad194) l0_1.length c0_1] 29 (0, 0)) (zK BK193.out) hb); clear hb hbox hg; have hnb35 := NB195_193.out; have hnc35 := NB193_195.out; have hcz36_0 := zy BK195 0; have hcz36_1 := zy BK195 1; have hfz36_0 := ae BK195.out 0; have hfz36_1 := ae BK195.out 1))
             go_roundg k1
             case measure => have := HK1.out; omega
             case rel => exact ⟨(wrap64 (x7_1 + 1)), (by first | rfl | (simp; done) | (simp [*]; done)), H', ⟨by have := HK1.out; omega⟩, ⟨by (with_reducible repeat (first | refine ay ?_ _ | refine ap ?_ | refine ax ?_ _)); refine bH ?_ NB193_195.out _; (with_reducible repeat (first | refine ay ?_ _ | refine ap ?_ | refine ax ?_ _)); refine bH ?_ NB193_195.out _; (with_reducible repeat (first | refine ay ?_ _ | refine ap ?_ | refine ax ?_ _)); exact BK193.out⟩, ⟨zB⟩⟩
         · rw [if_neg c27] at H
           have c27b0 : (((aa l0_1 x7_1).f0) == a2) = false := beq_eq_false_iff_ne.mpr c27
           have c27b1 : (((aa l0_1 x7_1).f0) != a2) = true := bne_iff_ne.mpr c27
           have H' := Aside0.mk H
           clear H
           have hcz37_0 := zy BK193 0
           have hcz37_1 := zy BK193 1
           have hfz37_0 := ae BK193.out 0
           have hfz37_1 := ae BK193.out 1
           have p194 : 0 ≤ (x7_1 : Int) := ac zA
           have q194 : x7_1 < (l0_1.length : Int) := ac zA
           obtain ⟨ad194, e194, hx194_0, hx194_1⟩ := bl HR0_1.out x7_1 p194 q194
           cases e194
           (try replace hx194_0 := (HB.out.cell (ak w _ hx194_0)).trans hx194_0)
           (try replace hx194_1 := (HB.out.cell (ak w _ hx194_1)).trans hx194_1)
           replace p194 := eq_true p194
           replace q194 := eq_true q194
           go_wp2_with (first | ((with_reducible refine ar (N := 8) rfl ?_); refine ze 8 #[.int .i64 0, .int .i64 0] 63 ?_; intro gb195 hg w38 hbox hb; have BK195 := zM (hbox); have GW195 := zM ((by rw [hg]; exact (ao zB) : w.heap.size ≤ gb195)); have GE195 := zM ((by rw [hg]; exact (ao zB) : w.heap.size ≤ gb195)); replace HB := zM (ag zB hb); have NB193_195 := zM ((by rw [hg]; exact Nat.ne_of_lt (aE (g := gb193) (o := .cells #[.int .i64 a0_0, .slice (some ad194) l0_1.length c0_1] 29 (0, 0)) (zK BK193.out)) : gb193 ≠ gb195)); have NB195_193 := zM ((by rw [hg]; exact Nat.ne_of_gt (aE (g := gb193) (o := .cells #[.int .i64 a0_0, .slice (some ad194) l0_1.length c0_1] 29 (0, 0)) (zK BK193.out)) : gb195 ≠ gb193)); replace BK193 := zM (am (g := gb193) (o := .cells #[.int .i64 a0_0, .slice (some ad194) l0_1.length c0_1] 29 (0, 0)) (zK BK193.out) hb); clear hb hbox hg; have hnb39 := NB195_193.out; have hnc39 := NB193_195.out; have hcz40_0 := zy BK195 0; have hcz40_1 := zy BK195 1; have hfz40_0 := ae BK195.out 0; have hfz40_1 := ae BK195.out 1))
           go_roundg k1
           case measure => have := HK1.out; omega
           case rel => exact ⟨(wrap64 (x7_1 + 1)), (by first | rfl | (simp; done) | (simp [*]; done)), H', ⟨by have := HK1.out; omega⟩, ⟨by (with_reducible repeat (first | refine ay ?_ _ | refine ap ?_ | refine ax ?_ _)); refine bH ?_ NB193_195.out _; (with_reducible repeat (first | refine ay ?_ _ | refine ap ?_ | refine ax ?_ _)); refine bH ?_ NB193_195.out _; (with_reducible repeat (first | refine ay ?_ _ | refine ap ?_ | refine ax ?_ _)); exact BK193.out⟩, ⟨zB⟩⟩
     · rw [if_neg c6] at H
       exact absurd H (by simp)
   · rw [if_neg c5] at H
     have c5b0 : decide (x7_1 < (l0_1.length : Int)) = false := au c5
     clear c5
     obtain rfl := aq H
     have hcz41_0 := zy BK193 0
     have hcz41_1 := zy BK193 1
     have hfz41_0 := ae BK193.out 0
     have hfz41_1 := ae BK193.out 1
     go_wp2
     go_ret
     exact ⟨by first | rfl | (simp [aj, ai] <;> rfl) | (simp [*, aj, ai] <;> rfl), zB⟩

/-! ### spec_l2Set: function 65 -/
def hX (k : Nat) (a0_0 : Int) (l0_1 : List (S63)) (l1 : List Int) : Option (Bool) := (hZ k l1 0 (wrap64 (a0_0 - 1))).bind fun t197 => (some t197)
set_option maxHeartbeats 8000000 in
set_option maxRecDepth 100000 in
theorem nC (k : Nat) (a0_0 : Int) (A0_1 : Option Addr) (c0_1 : Nat) (l0_1 : List (S63)) (A1 : Option Addr) (c1 : Nat) (l1 : List Int) (r : Bool) (w : World) (hr0_1 : Kd.C k63 w A0_1 l0_1.length l0_1) (hc0_1 : l0_1.length ≤ c0_1) (hr1 : Kd.C (Kd.int .i64) w A1 l1.length l1) (hc1 : l1.length ≤ c1) (h : hX k a0_0 l0_1 l1 = some r) :
 Calls Tryz.prog 65 #[.agg #[.int .i64 a0_0, .slice A0_1 l0_1.length c0_1], .slice A1 l1.length c1] w fun e w' => e = .returned (.bool r) ∧ Below w.heap.size w w' := by
 have hu29 := Tryz.underlying29
 have HR0_1 := Aside0.mk hr0_1
 have HC0_1 := Aside0.mk hc0_1
 clear hr0_1 hc0_1
 have HR1 := Aside0.mk hr1
 have HC1 := Aside0.mk hc1
 clear hr1 hc1
 have HB := zM (Below.refl w.heap.size w)
 have H : ((hZ k l1 0 (wrap64 (a0_0 - 1))).bind fun t197 => (some t197)) = some r := h
 clear h
 replace H := aw H
 obtain ⟨t197, A30, H⟩ := H
 have A3 := Aside0.mk A30
 clear A30
 obtain rfl := aq H
 go_enter Tryz.func65, Tryz.ntmps65
 go_wp2_with (first | ((with_reducible refine ar (N := 2) rfl ?_); refine zb (w := w) 2 #[.int .i64 a0_0, .slice A0_1 l0_1.length c0_1] 29 zB ?_; clear HB; intro gb196 w4 HB BK196 GW196; have GE196 := GW196; have hcz5_0 := zy BK196 0; have hcz5_1 := zy BK196 1; have hfz5_0 := ae BK196.out 0; have hfz5_1 := ae BK196.out 1) | ((with_reducible refine az (f := 83) rfl ?_); refine zc 9 Tryz.func83 #[.slice A1 l1.length c1, .int .i64 0, .int .i64 (wrap64 (a0_0 - 1))] ?_; (with_reducible refine (nM k _ _ l1 0 (wrap64 (a0_0 - 1)) t197 _ ?side1 ?side2 A3.out).mono ?_); (case side1 => exact zC (Kd.C_below HR1.out HB.out)); (case side2 => exact HC1.out); rintro e w' ⟨rfl, ⟨nd, rfl⟩⟩; refine ⟨_, rfl, ?_⟩))
 go_ret
 exact ⟨by first | rfl | (simp [aj, ai] <;> rfl) | (simp [*, aj, ai] <;> rfl), zB⟩

end Go.Proofs.YtjgcehldepfaaaaGreat.P
namespace Go.Proofs.YtjgcehldepfaaaaGreat.P
open Go.RowKit YtjgcehldepfaaaaGreatW.PrintWords Go.Proofs.YtjgcehldepfaaaaGreatW.PrintLast Go.Proofs.YtjgcehldepfaaaaGreatW.PrintMore
attribute [local go_sem] bk bg bh bc bi bd bj bf   -- for this text's walks alone
set_option linter.unusedVariables false
set_option linter.unusedSimpArgs false

/-! ### spec_l3Free: function 42 -/
mutual
def dH : Nat → List Int → Int → Int → List (S63) → Option (Bool)
 | 0, _, _, _, _ => none
 | k + 1, x1, x5, x199000, x199001 => if x5 < (x1.length : Int) then (dW k x1 x5 0 x199000 x199001) else ((hX k x199000 x199001 x1).bind fun t199 => (some t199))
def dW : Nat → List Int → Int → Int → Int → List (S63) → Option (Bool)
 | 0, _, _, _, _, _ => none
 | k + 1, x1, x5, x6, x199000, x199001 => if x6 < x5 then (if 0 ≤ x6 then (if x6 < (x1.length : Int) then (if 0 ≤ x5 then (if x5 < (x1.length : Int) then ((gi k x199000 x199001 (rd x1 x6) (rd x1 x5)).bind fun t202 => (if t202 = true then (some false) else (dW k x1 x5 (wrap64 (x6 + 1)) x199000 x199001))) else (none)) else (none)) else (none)) else (none)) else (dH k x1 (wrap64 (x5 + 1)) x199000 x199001)
end
def ga (k : Nat) (a0_0 : Int) (l0_1 : List (S63)) (l1 : List Int) : Option (Bool) := dH k l1 0 a0_0 l0_1
def spec_l3Free.T7 : Bool × List (List Nat × List Nat) := (true, [([], []), ([], []), ([], []), ([1, 2], [1, 2]), ([3], [3]), ([], []), ([], []), ([5, 6], [5, 6]), ([7], [7]), ([0, 4, 8], [0, 4, 8])])
def ny : List Nat := [0, 0, 0, 6, 14, 0, 0, 96, 224, 511]
theorem ks : aQ .any (cq Tryz.f42 7) = spec_l3Free.T7 := by kernel_rfl
theorem kt : bG spec_l3Free.T7.2 ny = true := by kernel_rfl
set_option maxHeartbeats 8000000 in
set_option maxRecDepth 100000 in
theorem nx (k : Nat) (a0_0 : Int) (A0_1 : Option Addr) (c0_1 : Nat) (l0_1 : List (S63)) (A1 : Option Addr) (c1 : Nat) (l1 : List Int) (r : Bool) (w : World) (hr0_1 : Kd.C k63 w A0_1 l0_1.length l0_1) (hc0_1 : l0_1.length ≤ c0_1) (hr1 : Kd.C (Kd.int .i64) w A1 l1.length l1) (hc1 : l1.length ≤ c1) (h : ga k a0_0 l0_1 l1 = some r) :
 Calls Tryz.prog 42 #[.agg #[.int .i64 a0_0, .slice A0_1 l0_1.length c0_1], .slice A1 l1.length c1] w fun e w' => e = .returned (.bool r) ∧ Below w.heap.size w w' := by
 have hu29 := Tryz.underlying29
 have HR0_1 := Aside0.mk hr0_1
 have HC0_1 := Aside0.mk hc0_1
 clear hr0_1 hc0_1
 have HR1 := Aside0.mk hr1
 have HC1 := Aside0.mk hc1
 clear hr1 hc1
 have HB := zM (Below.refl w.heap.size w)
 have H : (dH k l1 0 a0_0 l0_1) = some r := h
 clear h
 have H' := Aside0.mk H
 clear H
 go_enter Tryz.func42, Tryz.ntmps42
 go_wp2_with (first | ((with_reducible refine ar (N := 2) rfl ?_); refine zb (w := w) 2 #[.int .i64 a0_0, .slice A0_1 l0_1.length c0_1] 29 zB ?_; clear HB; intro gb198 w3 HB BK198 GW198; have GE198 := GW198))
 go_loopg [5] k (fun kq v5 w' => ∃ (x5_1 : Int), v5 = .int .i64 x5_1 ∧ Aside0 (dH kq l1 x5_1 a0_0 l0_1 = some r) ∧ Aside0 (kq ≤ k) ∧ Aside0 (w'.heap[gb198]? = some (.cells #[.int .i64 a0_0, (.slice A0_1 l0_1.length c0_1)] 29 (0, 0))) ∧ Aside0 (Below w.heap.size w w'))
 case atStart => exact ⟨(0), (by first | rfl | (simp; done) | (simp [*]; done)), H', ⟨av _⟩, ⟨zK BK198.out⟩, ⟨zB⟩⟩
 case round =>
  clear H'
  try clear c1
  try clear p2
  obtain ⟨x5_1, rfl, HA, HK1, BK198, HB⟩ := hrel
  cases gk with
  | zero => exact absurd HA.out (by simp [dH])
  | succ k1 =>
   have H := HA.out
   clear HA
   simp only [dH] at H
   by_cases c4 : x5_1 < (l1.length : Int)
   · rw [if_pos c4] at H
     have c4b0 := af c4
     clear c4
     have H' := Aside0.mk H
     clear H
     go_wp2
     go_loopg [6] k1 (fun kq v6 w' => ∃ (x6_2 : Int), v6 = .int .i64 x6_2 ∧ Aside0 (dW kq l1 x5_1 x6_2 a0_0 l0_1 = some r) ∧ Aside0 (kq ≤ k1) ∧ Aside0 (w'.heap[gb198]? = some (.cells #[.int .i64 a0_0, (.slice A0_1 l0_1.length c0_1)] 29 (0, 0))) ∧ Aside0 (Below w.heap.size w w'))
     case atStart => exact ⟨(0), (by first | rfl | (simp; done) | (simp [*]; done)), H', ⟨av _⟩, ⟨zK BK198.out⟩, ⟨zB⟩⟩
     case round =>
      clear H'
      try clear c1
      try clear p2
      try clear c4
      try clear c4b0
      try clear p2
      obtain ⟨x6_2, rfl, HA, HK2, BK198, HB⟩ := hrel
      cases gk with
      | zero => exact absurd HA.out (by simp [dW])
      | succ k2 =>
       have H := HA.out
       clear HA
       simp only [dW] at H
       by_cases c5 : x6_2 < x5_1
       · rw [if_pos c5] at H
         have c5b0 := af c5
         clear c5
         by_cases c6 : 0 ≤ x6_2
         · rw [if_pos c6] at H
           have c6b0 := af c6
           clear c6
           by_cases c7 : x6_2 < (l1.length : Int)
           · rw [if_pos c7] at H
             have c7b0 := af c7
             clear c7
             by_cases c8 : 0 ≤ x5_1
             · rw [if_pos c8] at H
               have c8b0 := af c8
               clear c8
               by_cases c9 : x5_1 < (l1.length : Int)
               · rw [if_pos c9] at H
                 have c9b0 := af c9
                 clear c9
                 replace H := aw H
                 obtain ⟨t202, A100, H⟩ := H
                 have A10 := Aside0.mk A100
                 clear A100
                 by_cases c11 : t202 = true
                 · subst c11
                   rw [if_pos rfl] at H
                   obtain rfl := aq H
                   try go_wp2
                   replace BK198 := zM (ap BK198.out)
                   replace HB := zM (aD HB.out)
                   have p200 : 0 ≤ (x6_2 : Int) := ac zA
                   have q200 : x6_2 < (l1.length : Int) := ac zA
                   obtain ⟨ad200, e200, hx200_0⟩ := Kd.at_int HR1.out x6_2 p200 q200
                   have hw200_0 := hx200_0
                   cases e200
                   (try replace hx200_0 := (HB.out.cell (ak w _ hx200_0)).trans hx200_0)
                   replace p200 := eq_true p200
                   replace q200 := eq_true q200
                   have p201 : 0 ≤ (x5_1 : Int) := ac zA
                   have q201 : x5_1 < (l1.length : Int) := ac zA
                   obtain ⟨ad201, e201, hx201_0⟩ := Kd.at_int HR1.out x5_1 p201 q201
                   have hw201_0 := hx201_0
                   obtain rfl : ad200 = ad201 := (by injection e201)
                   (try replace hx201_0 := (HB.out.cell (ak w _ hx201_0)).trans hx201_0)
                   replace p201 := eq_true p201
                   replace q201 := eq_true q201
                   refine zs (n := 10) (fun w' => w'.cell? ⟨gb198, 0, none⟩ = some (.int .i64 a0_0) ∧ w'.cell? ⟨gb198, 1, none⟩ = some (.slice A0_1 l0_1.length c0_1) ∧ w'.cell? (ad200.add (x6_2).toNat) = some (.int .i64 (rd l1 x6_2)) ∧ w'.cell? (ad200.add (x5_1).toNat) = some (.int .i64 (rd l1 x5_1))) ⟨(ah BK198.out 0).trans rfl, (ah BK198.out 1).trans rfl, ((HB.out.cell (ak w _ hw200_0)).trans hw200_0), ((HB.out.cell (ak w _ hw201_0)).trans hw201_0)⟩ (fun hHeld => ?_); refine aZ ks kt (fun HT_ HW_ => ?_)
                   generalize wr.drew = w12 at BK198 HB hx200_0 hx201_0 hHeld ⊢
                   refine zp HT_ 1 19 ?_
                   refine zp HT_ 2 20 ?_
                   refine zp HT_ 3 21 ?_
                   refine zp HT_ 5 23 ?_
                   refine zp HT_ 6 24 ?_
                   refine zp HT_ 7 25 ?_
                   refine zt HT_ HW_ 0 18 hHeld ?_ (hy := by rintro w' ⟨s0, s1, s2, s3⟩; go_simp; with_reducible rfl)
                   refine zt HT_ HW_ 4 22 hHeld ?_ (hy := by rintro w' ⟨s0, s1, s2, s3⟩; go_simp; with_reducible rfl)
                   refine zt HT_ HW_ 8 26 hHeld ?_ (hy := by rintro w' ⟨s0, s1, s2, s3⟩; go_simp; with_reducible rfl)
                   refine zg HT_ 9 27 Tryz.func64 #[.agg #[.int .i64 a0_0, .slice A0_1 l0_1.length c0_1], .int .i64 (rd l1 x6_2), .int .i64 (rd l1 x5_1)] (fun K hK => ?_)
                   with_reducible refine (fx k2 a0_0 _ _ l0_1 (rd l1 x6_2) (rd l1 x5_1) true _ ?side1 ?side2 A10.out).mono ?_
                   (case side1 => exact zC (Kd.C_below HR0_1.out HB.out))
                   (case side2 => exact HC0_1.out)
                   rintro e w13 ⟨rfl, hb⟩
                   refine ⟨_, rfl, ?_⟩
                   replace BK198 := zM (am (g := gb198) (o := .cells #[.int .i64 a0_0, .slice A0_1 l0_1.length c0_1] 29 (0, 0)) (zK BK198.out) hb)
                   replace HB := zM (ag zB hb)
                   (try clear hb)
                   (try clear hb2)
                   (try clear hk)
                   (try clear hi)
                   refine hK.out _ _ ⟨(ah BK198.out 0).trans rfl, (ah BK198.out 1).trans rfl, ((HB.out.cell (ak w _ hw200_0)).trans hw200_0), ((HB.out.cell (ak w _ hw201_0)).trans hw201_0)⟩ (fun hHeld => ?_)
                   clear hK K
                   refine zn 27 ?_
                   refine zo HT_ ?_
                   try go_wp2
                   go_ret
                   exact ⟨by first | rfl | (simp [aj, ai] <;> rfl) | (simp [*, aj, ai] <;> rfl), zB⟩
                 · replace c11 := Bool.eq_false_iff.mpr c11
                   subst c11
                   have H1 : (dW k2 l1 x5_1 (wrap64 (x6_2 + 1)) a0_0 l0_1) = some r := by rw [if_neg (show ¬ (false = true) by decide)] at H; exact H
                   clear H
                   have H := H1
                   clear H1
                   have H' := Aside0.mk H
                   clear H
                   try go_wp2
                   replace BK198 := zM (ap BK198.out)
                   replace HB := zM (aD HB.out)
                   have p200 : 0 ≤ (x6_2 : Int) := ac zA
                   have q200 : x6_2 < (l1.length : Int) := ac zA
                   obtain ⟨ad200, e200, hx200_0⟩ := Kd.at_int HR1.out x6_2 p200 q200
                   have hw200_0 := hx200_0
                   cases e200
                   (try replace hx200_0 := (HB.out.cell (ak w _ hx200_0)).trans hx200_0)
                   replace p200 := eq_true p200
                   replace q200 := eq_true q200
                   have p201 : 0 ≤ (x5_1 : Int) := ac zA
                   have q201 : x5_1 < (l1.length : Int) := ac zA
                   obtain ⟨ad201, e201, hx201_0⟩ := Kd.at_int HR1.out x5_1 p201 q201
                   have hw201_0 := hx201_0
                   obtain rfl : ad200 = ad201 := (by injection e201)
                   (try replace hx201_0 := (HB.out.cell (ak w _ hx201_0)).trans hx201_0)
                   replace p201 := eq_true p201
                   replace q201 := eq_true q201
                   refine zs (n := 10) (fun w' => w'.cell? ⟨gb198, 0, none⟩ = some (.int .i64 a0_0) ∧ w'.cell? ⟨gb198, 1, none⟩ = some (.slice A0_1 l0_1.length c0_1) ∧ w'.cell? (ad200.add (x6_2).toNat) = some (.int .i64 (rd l1 x6_2)) ∧ w'.cell? (ad200.add (x5_1).toNat) = some (.int .i64 (rd l1 x5_1))) ⟨(ah BK198.out 0).trans rfl, (ah BK198.out 1).trans rfl, ((HB.out.cell (ak w _ hw200_0)).trans hw200_0), ((HB.out.cell (ak w _ hw201_0)).trans hw201_0)⟩ (fun hHeld => ?_); refine aZ ks kt (fun HT_ HW_ => ?_)
                   generalize wr.drew = w14 at BK198 HB hx200_0 hx201_0 hHeld ⊢
                   refine zp HT_ 1 19 ?_
                   refine zp HT_ 2 20 ?_
                   refine zp HT_ 3 21 ?_
                   refine zp HT_ 5 23 ?_
                   refine zp HT_ 6 24 ?_
                   refine zp HT_ 7 25 ?_
                   refine zt HT_ HW_ 0 18 hHeld ?_ (hy := by rintro w' ⟨s0, s1, s2, s3⟩; go_simp; with_reducible rfl)
                   refine zt HT_ HW_ 4 22 hHeld ?_ (hy := by rintro w' ⟨s0, s1, s2, s3⟩; go_simp; with_reducible rfl)
                   refine zt HT_ HW_ 8 26 hHeld ?_ (hy := by rintro w' ⟨s0, s1, s2, s3⟩; go_simp; with_reducible rfl)
                   refine zg HT_ 9 27 Tryz.func64 #[.agg #[.int .i64 a0_0, .slice A0_1 l0_1.length c0_1], .int .i64 (rd l1 x6_2), .int .i64 (rd l1 x5_1)] (fun K hK => ?_)
                   with_reducible refine (fx k2 a0_0 _ _ l0_1 (rd l1 x6_2) (rd l1 x5_1) false _ ?side1 ?side2 A10.out).mono ?_
                   (case side1 => exact zC (Kd.C_below HR0_1.out HB.out))
                   (case side2 => exact HC0_1.out)
                   rintro e w15 ⟨rfl, hb⟩
                   refine ⟨_, rfl, ?_⟩
                   replace BK198 := zM (am (g := gb198) (o := .cells #[.int .i64 a0_0, .slice A0_1 l0_1.length c0_1] 29 (0, 0)) (zK BK198.out) hb)
                   replace HB := zM (ag zB hb)
                   (try clear hb)
                   (try clear hb2)
                   (try clear hk)
                   (try clear hi)
                   refine hK.out _ _ ⟨(ah BK198.out 0).trans rfl, (ah BK198.out 1).trans rfl, ((HB.out.cell (ak w _ hw200_0)).trans hw200_0), ((HB.out.cell (ak w _ hw201_0)).trans hw201_0)⟩ (fun hHeld => ?_)
                   clear hK K
                   refine zn 27 ?_
                   refine zo HT_ ?_
                   try go_wp2
                   go_roundg k2
                   case measure => have := HK1.out; have := HK2.out; omega
                   case rel => exact ⟨(wrap64 (x6_2 + 1)), (by first | rfl | (simp; done) | (simp [*]; done)), H', ⟨by have := HK1.out; have := HK2.out; omega⟩, ⟨zK BK198.out⟩, ⟨zB⟩⟩
               · rw [if_neg c9] at H
                 exact absurd H (by simp)
             · rw [if_neg c8] at H
               exact absurd H (by simp)
           · rw [if_neg c7] at H
             exact absurd H (by simp)
         · rw [if_neg c6] at H
           exact absurd H (by simp)
       · rw [if_neg c5] at H
         have c5b0 : decide (x6_2 < x5_1) = false := au c5
         clear c5
         have H' := Aside0.mk H
         clear H
         go_wp2
         go_roundg k2
         case measure => have := HK1.out; have := HK2.out; omega
         case rel => exact ⟨(wrap64 (x5_1 + 1)), (by first | rfl | (simp; done) | (simp [*]; done)), H', ⟨by have := HK1.out; have := HK2.out; omega⟩, ⟨zK BK198.out⟩, ⟨zB⟩⟩
   · rw [if_neg c4] at H
     have c4b0 : decide (x5_1 < (l1.length : Int)) = false := au c4
     clear c4
     replace H := aw H
     obtain ⟨t199, A160, H⟩ := H
     have A16 := Aside0.mk A160
     clear A160
     obtain rfl := aq H
     have hcz17_0 := zy BK198 0
     have hcz17_1 := zy BK198 1
     have hfz17_0 := ae BK198.out 0
     have hfz17_1 := ae BK198.out 1
     go_wp2_with (first | ((with_reducible refine az (f := 65) rfl ?_); refine zc 30 Tryz.func65 #[.agg #[.int .i64 a0_0, .slice A0_1 l0_1.length c0_1], .slice A1 l1.length c1] ?_; (with_reducible refine (nC k1 a0_0 _ _ l0_1 _ _ l1 t199 _ ?side1 ?side2 ?side3 ?side4 A16.out).mono ?_); (case side1 => exact zC (Kd.C_below HR0_1.out HB.out)); (case side2 => exact HC0_1.out); (case side3 => exact zC (Kd.C_below HR1.out HB.out)); (case side4 => exact HC1.out); rintro e w18 ⟨rfl, hb⟩; refine ⟨_, rfl, ?_⟩; replace BK198 := zM (am (g := gb198) (o := .cells #[.int .i64 a0_0, .slice A0_1 l0_1.length c0_1] 29 (0, 0)) (zK BK198.out) hb); replace HB := zM (ag zB hb); (try clear hb); (try clear hb2); (try clear hk); (try clear hi)))
     go_ret
     exact ⟨by first | rfl | (simp [aj, ai] <;> rfl) | (simp [*, aj, ai] <;> rfl), zB⟩

/-! ### impl_bagOf: function 32 -/
def dR : Nat → Int → List Int → Int → Int → Option (Int)
 | 0, _, _, _, _ => none
 | k + 1, x3, x6, x7, x8 => if x8 < x7 then (if 0 ≤ x8 then (if x8 < (x6.length : Int) then (if 0 ≤ (rd x6 x8) then (dR k (Go.bits .or .u64 x3 (cA .u64 1 (rd x6 x8))) x6 x7 (wrap64 (x8 + 1))) else (none)) else (none)) else (none)) else (some x3)
def cI (k : Nat) (l0 : List Int) : Option (Int) := dR k 0 l0 (l0.length : Int) 0
set_option maxHeartbeats 8000000 in
set_option maxRecDepth 100000 in
theorem gM (k : Nat) (A0 : Option Addr) (c0 : Nat) (l0 : List Int) (r : Int) (w : World) (hr0 : Kd.C (Kd.int .i64) w A0 l0.length l0) (hc0 : l0.length ≤ c0) (h : cI k l0 = some r) :
 Calls Tryz.prog 32 #[.slice A0 l0.length c0] w fun e w' => e = .returned (.int .u64 r) ∧ Drawn0 w w' := by
 have HR0 := Aside0.mk hr0
 have HC0 := Aside0.mk hc0
 clear hr0 hc0
 have H : (dR k 0 l0 (l0.length : Int) 0) = some r := h
 clear h
 have H' := Aside0.mk H
 clear H
 go_enter Tryz.func32, Tryz.ntmps32
 go_wp2
 go_loopg [3, 8] k (fun kq v3 v8 w' => ∃ (x3_1 : Int) (x8_1 : Int), v3 = .int .u64 x3_1 ∧ v8 = .int .i64 x8_1 ∧ Aside0 (dR kq x3_1 l0 (l0.length : Int) x8_1 = some r) ∧ Aside0 (kq ≤ k) ∧ Drawn0 w w')
 case atStart => exact ⟨(0), (0), (by first | rfl | (simp; done) | (simp [*]; done)), (by first | rfl | (simp; done) | (simp [*]; done)), H', ⟨av _⟩, by repeat (first | exact Drawn0.refl _ | apply Drawn0.step)⟩
 case round =>
  clear H'
  obtain ⟨x3_1, x8_1, rfl, rfl, HA, HK1, ⟨m1, rfl⟩⟩ := hrel
  cases gk with
  | zero => exact absurd HA.out (by simp [dR])
  | succ k1 =>
   have H := HA.out
   clear HA
   simp only [dR] at H
   by_cases c2 : x8_1 < (l0.length : Int)
   · rw [if_pos c2] at H
     have c2b0 := af c2
     clear c2
     by_cases c3 : 0 ≤ x8_1
     · rw [if_pos c3] at H
       have c3b0 := af c3
       clear c3
       by_cases c4 : x8_1 < (l0.length : Int)
       · rw [if_pos c4] at H
         have c4b0 := af c4
         clear c4
         by_cases c5 : 0 ≤ (rd l0 x8_1)
         · rw [if_pos c5] at H
           have c5b0 := eq_true c5
           have c5b1 : decide (0 ≤ (rd l0 x8_1)) = true := af c5
           clear c5
           obtain ⟨ji6, hji6⟩ : ∃ j_ : Int, (cA .u64 1 (rd l0 x8_1)) = j_ := ⟨_, rfl⟩
           replace H : (dR k1 (Go.bits .or .u64 x3_1 (ji6)) l0 (l0.length : Int) (wrap64 (x8_1 + 1))) = some r := by first | (rw [hji6] at H; exact H) | (simp only [hji6] at H ⊢; exact H)
           have hji6_ : (IntKind.u64.wrap (1 * 2 ^ min (rd l0 x8_1).toNat 64)) = ji6 := hji6
           have hji6z : (rd l0 x8_1) ≤ 64 → (IntKind.u64.wrap (1 * 2 ^ (rd l0 x8_1).toNat)) = ji6 := jk hji6
           have hji6u : (IntKind.u64.wrap (2 ^ min (rd l0 x8_1).toNat 64)) = ji6 := by have h_ := hji6_; rw [Int.one_mul] at h_; exact h_
           have hji6v : (rd l0 x8_1) ≤ 64 → (IntKind.u64.wrap (2 ^ (rd l0 x8_1).toNat)) = ji6 := fun hle_ => by have h_ := hji6z hle_; rw [Int.one_mul] at h_; exact h_
           have H' := Aside0.mk H
           clear H
           have p203 : 0 ≤ (x8_1 : Int) := ac zA
           have q203 : x8_1 < (l0.length : Int) := ac zA
           obtain ⟨ad203, e203, hx203_0⟩ := Kd.at_int HR0.out x8_1 p203 q203
           cases e203
           replace p203 := eq_true p203
           replace q203 := eq_true q203
           go_wp2
           go_roundg k1
           case measure => have := HK1.out; omega
           case rel => exact ⟨(Go.bits .or .u64 x3_1 (ji6)), (wrap64 (x8_1 + 1)), (by first | rfl | (simp; done) | (simp only [← hji6] <;> (first | rfl | simp)) | (simp [*]; done)), (by first | rfl | (simp; done) | (simp [*]; done)), H', ⟨by have := HK1.out; omega⟩, by repeat (first | exact Drawn0.refl _ | apply Drawn0.step)⟩
         · rw [if_neg c5] at H
           exact absurd H (by simp)
       · rw [if_neg c4] at H
         exact absurd H (by simp)
     · rw [if_neg c3] at H
       exact absurd H (by simp)
   · rw [if_neg c2] at H
     have c2b0 : decide (x8_1 < (l0.length : Int)) = false := au c2
     clear c2
     obtain rfl := aq H
     go_wp2
     go_ret
     exact ⟨by first | rfl | (simp; done) | (simp [*]; done), by repeat (first | exact Drawn0.refl _ | apply Drawn0.step)⟩

/-! ### spec_l1Has: function 53 -/
def dY : Nat → List Int → Int → Int → Option (Bool)
 | 0, _, _, _ => none
 | k + 1, x0, x1, x5 => if x5 < (x0.length : Int) then (if 0 ≤ x5 then (if (rd x0 x5) = x1 then (some true) else (dY k x0 x1 (wrap64 (x5 + 1)))) else (none)) else (some false)
def eL (k : Nat) (l0 : List Int) (a1 : Int) : Option (Bool) := dY k l0 a1 0
set_option maxHeartbeats 8000000 in
set_option maxRecDepth 100000 in
theorem gn (k : Nat) (A0 : Option Addr) (c0 : Nat) (l0 : List Int) (a1 : Int) (r : Bool) (w : World) (hr0 : Kd.C (Kd.int .i64) w A0 l0.length l0) (hc0 : l0.length ≤ c0) (h : eL k l0 a1 = some r) :
 Calls Tryz.prog 53 #[.slice A0 l0.length c0, .int .i64 a1] w fun e w' => e = .returned (.bool r) ∧ Drawn0 w w' := by
 have HR0 := Aside0.mk hr0
 have HC0 := Aside0.mk hc0
 clear hr0 hc0
 have H : (dY k l0 a1 0) = some r := h
 clear h
 have H' := Aside0.mk H
 clear H
 go_enter Tryz.func53, Tryz.ntmps53
 go_wp2
 go_loopg [5] k (fun kq v5 w' => ∃ (x5_1 : Int), v5 = .int .i64 x5_1 ∧ Aside0 (dY kq l0 a1 x5_1 = some r) ∧ Aside0 (kq ≤ k) ∧ Drawn0 w w')
 case atStart => exact ⟨(0), (by first | rfl | (simp; done) | (simp [*]; done)), H', ⟨av _⟩, by repeat (first | exact Drawn0.refl _ | apply Drawn0.step)⟩
 case round =>
  clear H'
  try clear p2
  obtain ⟨x5_1, rfl, HA, HK1, ⟨m1, rfl⟩⟩ := hrel
  cases gk with
  | zero => exact absurd HA.out (by simp [dY])
  | succ k1 =>
   have H := HA.out
   clear HA
   simp only [dY] at H
   by_cases c3 : x5_1 < (l0.length : Int)
   · rw [if_pos c3] at H
     have c3b0 := af c3
     clear c3
     by_cases c4 : 0 ≤ x5_1
     · rw [if_pos c4] at H
       have c4b0 := af c4
       clear c4
       by_cases c5 : (rd l0 x5_1) = a1
       · rw [if_pos c5] at H
         have c5b0 : ((rd l0 x5_1) == a1) = true := beq_iff_eq.mpr c5
         have c5b1 : ((rd l0 x5_1) != a1) = false := bne_eq_false_iff_eq.mpr c5
         clear c5
         obtain rfl := aq H
         have p206 : 0 ≤ (x5_1 : Int) := ac zA
         have q206 : x5_1 < (l0.length : Int) := ac zA
         obtain ⟨ad206, e206, hx206_0⟩ := Kd.at_int HR0.out x5_1 p206 q206
         cases e206
         replace p206 := eq_true p206
         replace q206 := eq_true q206
         go_wp2
         go_ret
         exact ⟨by first | rfl | (simp; done) | (simp [*]; done), by repeat (first | exact Drawn0.refl _ | apply Drawn0.step)⟩
       · rw [if_neg c5] at H
         have c5b0 : ((rd l0 x5_1) == a1) = false := beq_eq_false_iff_ne.mpr c5
         have c5b1 : ((rd l0 x5_1) != a1) = true := bne_iff_ne.mpr c5
         have H' := Aside0.mk H
         clear H
         have p206 : 0 ≤ (x5_1 : Int) := ac zA
         have q206 : x5_1 < (l0.length : Int) := ac zA
         obtain ⟨ad206, e206, hx206_0⟩ := Kd.at_int HR0.out x5_1 p206 q206
         cases e206
         replace p206 := eq_true p206
         replace q206 := eq_true q206
         go_wp2
         go_roundg k1
         case measure => have := HK1.out; omega
         case rel => exact ⟨(wrap64 (x5_1 + 1)), (by first | rfl | (simp; done) | (simp [*]; done)), H', ⟨by have := HK1.out; omega⟩, by repeat (first | exact Drawn0.refl _ | apply Drawn0.step)⟩
     · rw [if_neg c4] at H
       exact absurd H (by simp)
   · rw [if_neg c3] at H
     have c3b0 : decide (x5_1 < (l0.length : Int)) = false := au c3
     clear c3
     obtain rfl := aq H
     go_wp2
     go_ret
     exact ⟨by first | rfl | (simp; done) | (simp [*]; done), by repeat (first | exact Drawn0.refl _ | apply Drawn0.step)⟩

end Go.Proofs.YtjgcehldepfaaaaGreat.P
namespace Go.Proofs.YtjgcehldepfaaaaGreat.P
open Go.RowKit YtjgcehldepfaaaaGreatW.PrintWords Go.Proofs.YtjgcehldepfaaaaGreatW.PrintLast Go.Proofs.YtjgcehldepfaaaaGreatW.PrintMore
attribute [local go_sem] bk bg bh bc bi bd bj bf   -- for this text's walks alone
set_option linter.unusedVariables false
set_option linter.unusedSimpArgs false

/-! ### spec_l3Good: function 18 -/
def f9 (k : Nat) (a0_0 : Int) (l0_1 : List (S63)) (l1 : List Int) : Option (Bool) := (gj k a0_0 l0_1).bind fun t282 => (if t282 = true then ((ga k a0_0 l0_1 l1).bind fun t283 => (some t283)) else (some false))
set_option maxHeartbeats 8000000 in
set_option maxRecDepth 100000 in
theorem jf (k : Nat) (a0_0 : Int) (A0_1 : Option Addr) (c0_1 : Nat) (l0_1 : List (S63)) (A1 : Option Addr) (c1 : Nat) (l1 : List Int) (r : Bool) (w : World) (hr0_1 : Kd.C k63 w A0_1 l0_1.length l0_1) (hc0_1 : l0_1.length ≤ c0_1) (hr1 : Kd.C (Kd.int .i64) w A1 l1.length l1) (hc1 : l1.length ≤ c1) (h : f9 k a0_0 l0_1 l1 = some r) :
 Calls Tryz.prog 18 #[.agg #[.int .i64 a0_0, .slice A0_1 l0_1.length c0_1], .slice A1 l1.length c1] w fun e w' => e = .returned (.bool r) ∧ Below w.heap.size w w' := by
 have hu29 := Tryz.underlying29
 have HR0_1 := Aside0.mk hr0_1
 have HC0_1 := Aside0.mk hc0_1
 clear hr0_1 hc0_1
 have HR1 := Aside0.mk hr1
 have HC1 := Aside0.mk hc1
 clear hr1 hc1
 have HB := zM (Below.refl w.heap.size w)
 have H : ((gj k a0_0 l0_1).bind fun t282 => (if t282 = true then ((ga k a0_0 l0_1 l1).bind fun t283 => (some t283)) else (some false))) = some r := h
 clear h
 replace H := aw H
 obtain ⟨t282, A30, H⟩ := H
 have A3 := Aside0.mk A30
 clear A30
 by_cases c4 : t282 = true
 · subst c4
   rw [if_pos rfl] at H
   replace H := aw H
   obtain ⟨t283, A50, H⟩ := H
   have A5 := Aside0.mk A50
   clear A50
   obtain rfl := aq H
   go_enter Tryz.func18, Tryz.ntmps18
   go_wp2_with (first | ((with_reducible refine ar (N := 2) rfl ?_); refine zb (w := w) 2 #[.int .i64 a0_0, .slice A0_1 l0_1.length c0_1] 29 zB ?_; clear HB; intro gb281 w6 HB BK281 GW281; have GE281 := GW281; have hcz7_0 := zy BK281 0; have hcz7_1 := zy BK281 1; have hfz7_0 := ae BK281.out 0; have hfz7_1 := ae BK281.out 1) | ((with_reducible refine az (f := 41) rfl ?_); refine zc 6 Tryz.func41 #[.agg #[.int .i64 a0_0, .slice A0_1 l0_1.length c0_1]] ?_; (with_reducible refine (kz k a0_0 _ _ l0_1 true _ ?side1 ?side2 A3.out).mono ?_); (case side1 => exact zC (Kd.C_below HR0_1.out HB.out)); (case side2 => exact HC0_1.out); rintro e w8 ⟨rfl, hb⟩; refine ⟨_, rfl, ?_⟩; replace BK281 := zM (am (g := gb281) (o := .cells #[.int .i64 a0_0, .slice A0_1 l0_1.length c0_1] 29 (0, 0)) (zK BK281.out) hb); replace HB := zM (ag zB hb); (try clear hb); (try clear hb2); (try clear hk); (try clear hi); have hcz9_0 := zy BK281 0; have hcz9_1 := zy BK281 1; have hfz9_0 := ae BK281.out 0; have hfz9_1 := ae BK281.out 1) | (go_at_call 42; (with_reducible refine (nx k a0_0 _ _ l0_1 _ _ l1 t283 _ ?side1 ?side2 ?side3 ?side4 A5.out).mono ?_); (case side1 => exact zC (Kd.C_below HR0_1.out HB.out)); (case side2 => exact HC0_1.out); (case side3 => exact zC (Kd.C_below HR1.out HB.out)); (case side4 => exact HC1.out); rintro e w10 ⟨rfl, hb⟩; replace BK281 := zM (am (g := gb281) (o := .cells #[.int .i64 a0_0, .slice A0_1 l0_1.length c0_1] 29 (0, 0)) (zK BK281.out) hb); replace HB := zM (ag zB hb); (try clear hb); (try clear hb2); (try clear hk); (try clear hi)))
   go_ret
   exact ⟨by first | rfl | (simp [aj, ai] <;> rfl) | (simp [*, aj, ai] <;> rfl), zB⟩
 · replace c4 := Bool.eq_false_iff.mpr c4
   subst c4
   have H1 : (some false) = some r := by rw [if_neg (show ¬ (false = true) by decide)] at H; exact H
   clear H
   have H := H1
   clear H1
   obtain rfl := aq H
   go_enter Tryz.func18, Tryz.ntmps18
   go_wp2_with (first | ((with_reducible refine ar (N := 2) rfl ?_); refine zb (w := w) 2 #[.int .i64 a0_0, .slice A0_1 l0_1.length c0_1] 29 zB ?_; clear HB; intro gb281 w11 HB BK281 GW281; have GE281 := GW281; have hcz12_0 := zy BK281 0; have hcz12_1 := zy BK281 1; have hfz12_0 := ae BK281.out 0; have hfz12_1 := ae BK281.out 1) | ((with_reducible refine az (f := 41) rfl ?_); refine zc 6 Tryz.func41 #[.agg #[.int .i64 a0_0, .slice A0_1 l0_1.length c0_1]] ?_; (with_reducible refine (kz k a0_0 _ _ l0_1 false _ ?side1 ?side2 A3.out).mono ?_); (case side1 => exact zC (Kd.C_below HR0_1.out HB.out)); (case side2 => exact HC0_1.out); rintro e w13 ⟨rfl, hb⟩; refine ⟨_, rfl, ?_⟩; replace BK281 := zM (am (g := gb281) (o := .cells #[.int .i64 a0_0, .slice A0_1 l0_1.length c0_1] 29 (0, 0)) (zK BK281.out) hb); replace HB := zM (ag zB hb); (try clear hb); (try clear hb2); (try clear hk); (try clear hi)))
   go_ret
   exact ⟨by first | rfl | (simp [aj, ai] <;> rfl) | (simp [*, aj, ai] <;> rfl), zB⟩

end Go.Proofs.YtjgcehldepfaaaaGreat.P
