import Derived.Test.YtjgcehldepfaaaaGreatForestMeetsG8
namespace Go.Proofs.YtjgcehldepfaaaaGreat.P
open Go.RowKit YtjgcehldepfaaaaGreatW.PrintWords YtjgcehldepfaaaaGreatW.PrintLast YtjgcehldepfaaaaGreatW.PrintMore
attribute [local go_sem] bl bh bi bd bj bf bk bg
set_option maxRecDepth 100000
set_option maxHeartbeats 8000000
set_option linter.unusedVariables false
set_option linter.unusedSimpArgs false
def gR (k : Nat) (a0_0 : Int) (l0_1 : List (S63)) (a1 : Int) (a2 : Int) : Option (Bool) := (ko a1 a2).bind fun bt182 => ((i3 k l0_1 bt182.1 bt182.2).bind fun t184 => (some t184))
theorem kv (k : Nat) (a0_0 : Int) (A0_1 : Option Addr) (c0_1 : Nat) (l0_1 : List (S63)) (a1 : Int) (a2 : Int) (r : Bool) (w : World) (hr0_1 : Kd.C k63 w A0_1 l0_1.length l0_1) (hc0_1 : l0_1.length ≤ c0_1) (h : gR k a0_0 l0_1 a1 a2 = some r) :
 Calls Tryz.prog 58 #[.agg #[.int .i64 a0_0, .slice A0_1 l0_1.length c0_1], .int .i64 a1, .int .i64 a2] w fun e w' => e = .returned (.bool r) ∧ Below w.heap.size w w' := by
 have hu29 := Tryz.underlying29
 have HR0_1 := Aside0.mk hr0_1
 have HC0_1 := Aside0.mk hc0_1
 clear hr0_1 hc0_1
 have HB := zM (Below.refl w.heap.size w)
 have H := h
 unfold gR at H
 clear h
 replace H := av H
 obtain ⟨⟨t182, t183⟩, A40, H⟩ := H
 try dsimp only at H
 have A4 := Aside0.mk A40
 clear A40
 replace H := av H
 obtain ⟨t184, A50, H⟩ := H
 have A5 := Aside0.mk A50
 clear A50
 obtain rfl := ap H
 go_enter Tryz.func58, Tryz.ntmps58
 try go_wp2_with (first | ((with_reducible refine au (N := 3) rfl ?_); refine zb (w := w) 3 #[.int .i64 a0_0, .slice A0_1 l0_1.length c0_1] 29 zB ?_; clear HB; intro gb181 w6 HB BK181 GW181; have GE181 := GW181))
 replace BK181 := zM (aq BK181.out)
 replace HB := zM (aD HB.out)
 refine zs (n := 7) (fun w' => w'.cell? ⟨gb181, 0, none⟩ = some (.int .i64 a0_0) ∧ w'.cell? ⟨gb181, 1, none⟩ = some (.slice A0_1 l0_1.length c0_1)) ⟨(ah BK181.out 0).trans rfl, (ah BK181.out 1).trans rfl⟩ (fun hHeld => ?_)
 generalize w6.drew = w7 at BK181 HB hHeld ⊢
 refine zq 0 7 ?_
 refine zq 2 9 ?_
 refine zq 3 10 ?_
 refine zl 1 8 hHeld ?_ (hy := by rintro w' ⟨s0, s1⟩; go_simp; with_reducible rfl)
 refine zh 4 11 Tryz.func77 #[.int .i64 a1, .int .i64 a2] (fun K hK => ?_)
 with_reducible refine (rF a1 a2 t182 t183 _ A4.out).mono ?_
 rintro e w8 ⟨rfl, hb⟩
 refine ⟨_, rfl, ?_⟩
 replace BK181 := zJ BK181 hb
 replace HB := zM (ag zB hb)
 (try clear hb)
 refine hK.out _ _ ⟨(ah BK181.out 0).trans rfl, (ah BK181.out 1).trans rfl⟩ (fun hHeld => ?_)
 clear hK K
 refine zn 11 ?_
 refine zh 5 12 Tryz.func76 #[.slice A0_1 l0_1.length c0_1, .agg #[.int .i64 t182, .int .i64 t183]] (fun K hK => ?_)
 with_reducible refine (pn k _ _ l0_1 t182 t183 t184 _ ?side1 ?side2 A5.out).mono ?_
 (case side1 => exact zC (Kd.C_below HR0_1.out HB.out))
 (case side2 => exact HC0_1.out)
 rintro e w9 ⟨rfl, hb⟩
 refine ⟨_, rfl, ?_⟩
 replace BK181 := zJ BK181 hb
 replace HB := zM (ag zB hb)
 (try clear hb)
 refine hK.out _ _ ⟨(ah BK181.out 0).trans rfl, (ah BK181.out 1).trans rfl⟩ (fun hHeld => ?_)
 clear hK K
 refine zn 12 ?_
 refine zq 6 6 ?_
 refine zx ?_
 try go_wp2
 go_ret
 exact ⟨by first | rfl | (simp [al, ak] <;> rfl) | (simp [*, al, ak] <;> rfl), zB⟩
def dr : Nat → Int → List Int → Int → Int → Int → List (S63) → Option (List Int)
 | 0, _, _, _, _, _, _ => none
 | k + 1, x1, x5, x9, x10, x186000, x186001 => if x10 < x9 then (if x10 = x1 then (dr k x1 x5 x9 (wrap64 (x10 + 1)) x186000 x186001) else ((gR k x186000 x186001 x1 x10).bind fun t189 => (if t189 = true then (if x5.length < 17592186044416 then (dr k x1 (x5 ++ [x10]) x9 (wrap64 (x10 + 1)) x186000 x186001) else (none)) else (dr k x1 x5 x9 (wrap64 (x10 + 1)) x186000 x186001)))) else (some x5)
def gP (k : Nat) (a0_0 : Int) (l0_1 : List (S63)) (a1 : Int) : Option (List Int) := dr k a1 (([] : List Int)) a0_0 0 a0_0 l0_1
theorem nf (k : Nat) (a0_0 : Int) (A0_1 : Option Addr) (c0_1 : Nat) (l0_1 : List (S63)) (a1 : Int) (r : List Int) (w : World) (hr0_1 : Kd.C k63 w A0_1 l0_1.length l0_1) (hc0_1 : l0_1.length ≤ c0_1) (h : gP k a0_0 l0_1 a1 = some r) :
 Calls Tryz.prog 34 #[.agg #[.int .i64 a0_0, .slice A0_1 l0_1.length c0_1], .int .i64 a1] w fun e w' => ∃ v0_ : Value, e = .returned (v0_) ∧ Kd.R (Kd.int .i64) 3 w' w.heap.size (fun _ => True) v0_ r ∧ Below w.heap.size w w' := by
 have hu29 := Tryz.underlying29
 have HR0_1 := Aside0.mk hr0_1
 have HC0_1 := Aside0.mk hc0_1
 clear hr0_1 hc0_1
 have HB := zM (Below.refl w.heap.size w)
 have H := h
 unfold gP at H
 clear h
 obtain ⟨y186, hy186⟩ : ∃ y_ : List Int, y_ = (([] : List Int)) := ⟨_, rfl⟩
 replace H : (dr k a1 y186 a0_0 0 a0_0 l0_1) = some r := by first | (rw [hy186]; with_reducible exact H) | (have H2_ := (Option.bind_some _ _).symm.trans H; rw [hy186]; with_reducible exact H2_) | (have H2_ := (Option.bind_some _ _).symm.trans H; with_reducible exact H2_) | with_reducible exact H | (rw [hy186]; exact H) | exact H
 have Ny186 := Aside0.mk hy186
 clear hy186
 have H' := Aside0.mk H
 clear H
 go_enter Tryz.func34, Tryz.ntmps34
 go_wp2_with (first | ((with_reducible refine au (N := 2) rfl ?_); refine zb (w := w) 2 #[.int .i64 a0_0, .slice A0_1 l0_1.length c0_1] 29 zB ?_; clear HB; intro gb185 w3 HB BK185 GW185; have GE185 := GW185) | ((with_reducible refine au (N := 7) rfl ?_); refine Kd.R_lit (Kd.int .i64) _ 3 ?hg (N := 7) ?hd (xs := ([] : List Int)) (inner := []) (ok := fun _ => True) (okp := fun _ => True) ?hr ?hp (fun _ hk => hk) trivial (Below.refl _ _) (ar _) (by simp) ?_; (case hd => rfl); (case hg => rfl); (case hr => first | (go_simp; done) | (go_simp; rfl)); (case hp => exact (Reps.none _ _)); intro v187 w4 ho5 hb hg_ hnew_; clear hg_ hnew_; (first | rw [← Ny186.out] at ho5 | (simp only [Int.reduceToNat] at ho5; rw [← Ny186.out] at ho5)); have HO188 := zM (Kd.R_lower ho5 (am zB)); replace BK185 := zJ BK185 hb; replace HB := zM (ag zB hb); clear hb ho5; have hcz6_0 := zy BK185 0; have hcz6_1 := zy BK185 1; have hfz6_0 := ae BK185.out 0; have hfz6_1 := ae BK185.out 1))
 go_loopg [5, 10] k (fun kq v5 v10 w' => ∃ (x5_1 : List Int) (x10_1 : Int), v10 = .int .i64 x10_1 ∧ Aside0 (dr kq a1 x5_1 a0_0 x10_1 a0_0 l0_1 = some r) ∧ Aside0 (kq ≤ k) ∧ Aside0 (Kd.R (Kd.int .i64) 3 w' w.heap.size (fun _ => True) v5 x5_1) ∧ Aside0 (w'.heap[gb185]? = some (.cells #[.int .i64 a0_0, (.slice A0_1 l0_1.length c0_1)] 29 (0, 0))) ∧ Aside0 (Below w.heap.size w w'))
 case atStart => exact ⟨(y186), (0), (by first | rfl | (simp; done) | (simp [*]; done)), H', ⟨ar _⟩, ⟨zR HO188.out⟩, ⟨zK BK185.out⟩, ⟨zB⟩⟩
 case round =>
  clear H'
  try clear p2
  try clear c3
  try clear hcz6_0
  try clear hcz6_1
  try clear hfz6_0
  try clear hfz6_1
  obtain ⟨x5_1, x10_1, rfl, HA, HK1, HO_5, BK185, HB⟩ := hrel
  cases gk with
  | zero => exact absurd HA.out (by simp [dr])
  | succ k1 =>
   have H := HA.out
   clear HA
   simp only [dr] at H
   by_cases c7 : x10_1 < a0_0
   · rw [if_pos c7] at H
     have c7b0 := af c7
     clear c7
     by_cases c8 : x10_1 = a1
     · rw [if_pos c8] at H
       have c8b0 : (x10_1 == a1) = true := beq_iff_eq.mpr c8
       have c8b1 : (x10_1 != a1) = false := bne_eq_false_iff_eq.mpr c8
       clear c8
       have H' := Aside0.mk H
       clear H
       go_wp2
       go_roundg k1
       case measure => have := HK1.out; omega
       case rel => exact ⟨(x5_1), (wrap64 (x10_1 + 1)), (by first | rfl | (simp; done) | (simp [*]; done)), H', ⟨by have := HK1.out; omega⟩, ⟨zR HO_5.out⟩, ⟨zK BK185.out⟩, ⟨zB⟩⟩
     · rw [if_neg c8] at H
       have c8b0 : (x10_1 == a1) = false := beq_eq_false_iff_ne.mpr c8
       have c8b1 : (x10_1 != a1) = true := bne_iff_ne.mpr c8
       replace H := av H
       obtain ⟨t189, A90, H⟩ := H
       have A9 := Aside0.mk A90
       clear A90
       by_cases c10 : t189 = true
       · subst c10
         rw [if_pos rfl] at H
         by_cases c11 : x5_1.length < 17592186044416
         case neg => rw [if_neg c11] at H; simp at H
         rw [if_pos c11] at H
         have LMc11 := Aside0.mk c11
         clear c11
         obtain ⟨y190, hy190⟩ : ∃ y_ : List Int, y_ = (x5_1 ++ [x10_1]) := ⟨_, rfl⟩
         replace H : (dr k1 a1 y190 a0_0 (wrap64 (x10_1 + 1)) a0_0 l0_1) = some r := by first | (rw [hy190]; with_reducible exact H) | (have H2_ := (Option.bind_some _ _).symm.trans H; rw [hy190]; with_reducible exact H2_) | (have H2_ := (Option.bind_some _ _).symm.trans H; with_reducible exact H2_) | with_reducible exact H | (rw [hy190]; exact H) | exact H
         have Ny190 := Aside0.mk hy190
         clear hy190
         have H' := Aside0.mk H
         clear H
         have hcz12_0 := zy BK185 0
         have hcz12_1 := zy BK185 1
         have hfz12_0 := ae BK185.out 0
         have hfz12_1 := ae BK185.out 1
         go_wp2_with (first | (go_at_call 58; (with_reducible refine (kv k1 a0_0 _ _ l0_1 a1 x10_1 true _ ?side1 ?side2 A9.out).mono ?_); (case side1 => exact zC (Kd.C_below HR0_1.out HB.out)); (case side2 => exact HC0_1.out); rintro e w13 ⟨rfl, hb⟩; replace HO_5 := zM (Kd.R_below (zR HO_5.out) hb); replace BK185 := zJ BK185 hb; replace HB := zM (ag zB hb); (try clear hb); (try clear hi)) | ((with_reducible refine cJ (b := .append) (xs := #[.tmp 22, .tmp 24]) rfl ?_); at_builtin; refine Kd.R_append (Kd.int .i64) (w0 := w) w.heap.size rfl (.tmp 22) (.tmp 24) 25 3 (.int .i64 0) 8 rfl Tryz.underlying25 bv rfl (by decide) (by omega) u5 x5_1 x10_1 [.int .i64 x10_1] (fun _ => True) (fun _ => False) rfl rfl ?aP (fun _ hk => hk.elim) ?aF ?aO ?aB ?aS ?aL ?_; (case aP => exact rfl); (case aB => exact zB); (case aF => exact (fun _ _ => trivial)); (case aO => exact (zR HO_5.out)); (case aS => exact (am zB)); (case aL => have := LMc11.out; omega); intro v191 w14 ho hb hg hat; rw [← Ny190.out] at ho; replace BK185 := zM (cU (g := gb185) (o := .cells #[.int .i64 a0_0, .slice A0_1 l0_1.length c0_1] 29 (0, 0)) (zK BK185.out) hg (Kd.R_ne HO_5.out BK185.out (by decide))); replace HB := zM (hb); have HO192 := zM (ho); clear HO_5; clear ho hb hg hat))
         go_roundg k1
         case measure => have := HK1.out; omega
         case rel => exact ⟨(y190), (wrap64 (x10_1 + 1)), (by first | rfl | (simp; done) | (simp [*]; done)), H', ⟨by have := HK1.out; omega⟩, ⟨zR HO192.out⟩, ⟨zK BK185.out⟩, ⟨zB⟩⟩
       · replace c10 := Bool.eq_false_iff.mpr c10
         subst c10
         rw [if_neg (show ¬ (false = true) by decide)] at H
         have H' := Aside0.mk H
         clear H
         have hcz15_0 := zy BK185 0
         have hcz15_1 := zy BK185 1
         have hfz15_0 := ae BK185.out 0
         have hfz15_1 := ae BK185.out 1
         go_wp2_with (first | (go_at_call 58; (with_reducible refine (kv k1 a0_0 _ _ l0_1 a1 x10_1 false _ ?side1 ?side2 A9.out).mono ?_); (case side1 => exact zC (Kd.C_below HR0_1.out HB.out)); (case side2 => exact HC0_1.out); rintro e w16 ⟨rfl, hb⟩; replace HO_5 := zM (Kd.R_below (zR HO_5.out) hb); replace BK185 := zJ BK185 hb; replace HB := zM (ag zB hb); (try clear hb); (try clear hi)))
         go_roundg k1
         case measure => have := HK1.out; omega
         case rel => exact ⟨(x5_1), (wrap64 (x10_1 + 1)), (by first | rfl | (simp; done) | (simp [*]; done)), H', ⟨by have := HK1.out; omega⟩, ⟨zR HO_5.out⟩, ⟨zK BK185.out⟩, ⟨zB⟩⟩
   · rw [if_neg c7] at H
     have c7b0 : decide (x10_1 < a0_0) = false := ao c7
     clear c7
     obtain rfl := ap H
     go_wp2
     go_ret
     exact ⟨_, by first | rfl | (simp [al, ak] <;> rfl) | (simp [*, al, ak] <;> rfl), by (with_reducible repeat (first | apply Kd.R_alloc | apply Kd.R_drewN | apply Kd.R_drew)); exact HO_5.out, zB⟩
def dC : Nat → Int → Int → Int → Int → List (S63) → Option (Bool)
 | 0, _, _, _, _, _ => none
 | k + 1, x1, x2, x7, x194000, x194001 => if x7 < (x194001.length : Int) then (if 0 ≤ x7 then (if ((aa x194001 x7).f0) = x1 then (if ((aa x194001 x7).f1) = x2 then (some true) else (if ((aa x194001 x7).f0) = x2 then (if ((aa x194001 x7).f1) = x1 then (some true) else (dC k x1 x2 (wrap64 (x7 + 1)) x194000 x194001)) else (dC k x1 x2 (wrap64 (x7 + 1)) x194000 x194001))) else (if ((aa x194001 x7).f0) = x2 then (if ((aa x194001 x7).f1) = x1 then (some true) else (dC k x1 x2 (wrap64 (x7 + 1)) x194000 x194001)) else (dC k x1 x2 (wrap64 (x7 + 1)) x194000 x194001))) else (none)) else (some false)
def gj (k : Nat) (a0_0 : Int) (l0_1 : List (S63)) (a1 : Int) (a2 : Int) : Option (Bool) := dC k a1 a2 0 a0_0 l0_1
theorem gm (k : Nat) (a0_0 : Int) (A0_1 : Option Addr) (c0_1 : Nat) (l0_1 : List (S63)) (a1 : Int) (a2 : Int) (r : Bool) (w : World) (hr0_1 : Kd.C k63 w A0_1 l0_1.length l0_1) (hc0_1 : l0_1.length ≤ c0_1) (h : gj k a0_0 l0_1 a1 a2 = some r) :
 Calls Tryz.prog 64 #[.agg #[.int .i64 a0_0, .slice A0_1 l0_1.length c0_1], .int .i64 a1, .int .i64 a2] w fun e w' => e = .returned (.bool r) ∧ Below w.heap.size w w' := by
 have hu29 := Tryz.underlying29
 have hu63 := Tryz.underlying63
 have HR0_1 := Aside0.mk hr0_1
 have HC0_1 := Aside0.mk hc0_1
 clear hr0_1 hc0_1
 have HB := zM (Below.refl w.heap.size w)
 have H := h
 unfold gj at H
 clear h
 have H' := Aside0.mk H
 clear H
 go_enter Tryz.func64, Tryz.ntmps64
 go_wp2_with (first | ((with_reducible refine au (N := 3) rfl ?_); refine zb (w := w) 3 #[.int .i64 a0_0, .slice A0_1 l0_1.length c0_1] 29 zB ?_; clear HB; intro gb193 w4 HB BK193 GW193; have GE193 := GW193))
 go_loopg [7] k (fun kq v7 w' => ∃ (x7_1 : Int), v7 = .int .i64 x7_1 ∧ Aside0 (dC kq a1 a2 x7_1 a0_0 l0_1 = some r) ∧ Aside0 (kq ≤ k) ∧ Aside0 (w'.heap[gb193]? = some (.cells #[.int .i64 a0_0, (.slice A0_1 l0_1.length c0_1)] 29 (0, 0))) ∧ Aside0 (Below w.heap.size w w'))
 case atStart => exact ⟨(0), (by first | rfl | (simp; done) | (simp [*]; done)), H', ⟨ar _⟩, ⟨zK BK193.out⟩, ⟨zB⟩⟩
 case round =>
  clear H'
  try clear p2
  obtain ⟨x7_1, rfl, HA, HK1, BK193, HB⟩ := hrel
  cases gk with
  | zero => exact absurd HA.out (by simp [dC])
  | succ k1 =>
   have H := HA.out
   clear HA
   simp only [dC] at H
   by_cases c5 : x7_1 < (l0_1.length : Int)
   · rw [if_pos c5] at H
     have c5b0 := af c5
     clear c5
     by_cases c6 : 0 ≤ x7_1
     case neg => rw [if_neg c6] at H; simp at H
     rw [if_pos c6] at H
     have c6b0 := af c6
     clear c6
     by_cases c7 : ((aa l0_1 x7_1).f0) = a1
     · rw [if_pos c7] at H
       have c7b0 : (((aa l0_1 x7_1).f0) == a1) = true := beq_iff_eq.mpr c7
       have c7b1 : (((aa l0_1 x7_1).f0) != a1) = false := bne_eq_false_iff_eq.mpr c7
       clear c7
       by_cases c8 : ((aa l0_1 x7_1).f1) = a2
       · rw [if_pos c8] at H
         have c8b0 : (((aa l0_1 x7_1).f1) == a2) = true := beq_iff_eq.mpr c8
         have c8b1 : (((aa l0_1 x7_1).f1) != a2) = false := bne_eq_false_iff_eq.mpr c8
         clear c8
         obtain rfl := ap H
         have hcz9_0 := zy BK193 0
         have hcz9_1 := zy BK193 1
         have hfz9_0 := ae BK193.out 0
         have hfz9_1 := ae BK193.out 1
         have p194 : 0 ≤ (x7_1 : Int) := ac zA
         have q194 : x7_1 < (l0_1.length : Int) := ac zA
         obtain ⟨ad194, e194, hx194_0, hx194_1⟩ := bp HR0_1.out x7_1 p194 q194
         cases e194
         (try replace hx194_0 := (HB.out.cell (aj w _ hx194_0)).trans hx194_0)
         (try replace hx194_1 := (HB.out.cell (aj w _ hx194_1)).trans hx194_1)
         replace p194 := eq_true p194
         replace q194 := eq_true q194
         go_wp2_with (first | ((with_reducible refine au (N := 8) rfl ?_); refine ze 8 #[.int .i64 0, .int .i64 0] 63 ?_; intro gb195 hg w10 hbox hb; have BK195 := zM (hbox); have GW195 := zM ((by rw [hg]; exact (am zB) : w.heap.size ≤ gb195)); have GE195 := zM ((by rw [hg]; exact (am zB) : w.heap.size ≤ gb195)); replace HB := zM (ag zB hb); have NB193_195 := zM ((by rw [hg]; exact Nat.ne_of_lt (aH (g := gb193) (o := .cells #[.int .i64 a0_0, .slice (some ad194) l0_1.length c0_1] 29 (0, 0)) (zK BK193.out)) : gb193 ≠ gb195)); have NB195_193 := zM ((by rw [hg]; exact Nat.ne_of_gt (aH (g := gb193) (o := .cells #[.int .i64 a0_0, .slice (some ad194) l0_1.length c0_1] 29 (0, 0)) (zK BK193.out)) : gb195 ≠ gb193)); replace BK193 := zJ BK193 hb; clear hb hbox hg; have hnb11 := NB195_193.out; have hnc11 := NB193_195.out; have hcz12_0 := zy BK195 0; have hcz12_1 := zy BK195 1; have hfz12_0 := ae BK195.out 0; have hfz12_1 := ae BK195.out 1))
         go_ret
         exact ⟨by first | rfl | (simp [al, ak] <;> rfl) | (simp [*, al, ak] <;> rfl), zB⟩
       · rw [if_neg c8] at H
         have c8b0 : (((aa l0_1 x7_1).f1) == a2) = false := beq_eq_false_iff_ne.mpr c8
         have c8b1 : (((aa l0_1 x7_1).f1) != a2) = true := bne_iff_ne.mpr c8
         by_cases c13 : ((aa l0_1 x7_1).f0) = a2
         · rw [if_pos c13] at H
           have c13b0 : (((aa l0_1 x7_1).f0) == a2) = true := beq_iff_eq.mpr c13
           have c13b1 : (((aa l0_1 x7_1).f0) != a2) = false := bne_eq_false_iff_eq.mpr c13
           clear c13
           by_cases c14 : ((aa l0_1 x7_1).f1) = a1
           · rw [if_pos c14] at H
             have c14b0 : (((aa l0_1 x7_1).f1) == a1) = true := beq_iff_eq.mpr c14
             have c14b1 : (((aa l0_1 x7_1).f1) != a1) = false := bne_eq_false_iff_eq.mpr c14
             clear c14
             obtain rfl := ap H
             have hcz15_0 := zy BK193 0
             have hcz15_1 := zy BK193 1
             have hfz15_0 := ae BK193.out 0
             have hfz15_1 := ae BK193.out 1
             have p194 : 0 ≤ (x7_1 : Int) := ac zA
             have q194 : x7_1 < (l0_1.length : Int) := ac zA
             obtain ⟨ad194, e194, hx194_0, hx194_1⟩ := bp HR0_1.out x7_1 p194 q194
             cases e194
             (try replace hx194_0 := (HB.out.cell (aj w _ hx194_0)).trans hx194_0)
             (try replace hx194_1 := (HB.out.cell (aj w _ hx194_1)).trans hx194_1)
             replace p194 := eq_true p194
             replace q194 := eq_true q194
             go_wp2_with (first | ((with_reducible refine au (N := 8) rfl ?_); refine ze 8 #[.int .i64 0, .int .i64 0] 63 ?_; intro gb195 hg w16 hbox hb; have BK195 := zM (hbox); have GW195 := zM ((by rw [hg]; exact (am zB) : w.heap.size ≤ gb195)); have GE195 := zM ((by rw [hg]; exact (am zB) : w.heap.size ≤ gb195)); replace HB := zM (ag zB hb); have NB193_195 := zM ((by rw [hg]; exact Nat.ne_of_lt (aH (g := gb193) (o := .cells #[.int .i64 a0_0, .slice (some ad194) l0_1.length c0_1] 29 (0, 0)) (zK BK193.out)) : gb193 ≠ gb195)); have NB195_193 := zM ((by rw [hg]; exact Nat.ne_of_gt (aH (g := gb193) (o := .cells #[.int .i64 a0_0, .slice (some ad194) l0_1.length c0_1] 29 (0, 0)) (zK BK193.out)) : gb195 ≠ gb193)); replace BK193 := zJ BK193 hb; clear hb hbox hg; have hnb17 := NB195_193.out; have hnc17 := NB193_195.out; have hcz18_0 := zy BK195 0; have hcz18_1 := zy BK195 1; have hfz18_0 := ae BK195.out 0; have hfz18_1 := ae BK195.out 1))
             go_ret
             exact ⟨by first | rfl | (simp [al, ak] <;> rfl) | (simp [*, al, ak] <;> rfl), zB⟩
           · rw [if_neg c14] at H
             have c14b0 : (((aa l0_1 x7_1).f1) == a1) = false := beq_eq_false_iff_ne.mpr c14
             have c14b1 : (((aa l0_1 x7_1).f1) != a1) = true := bne_iff_ne.mpr c14
             have H' := Aside0.mk H
             clear H
             have hcz19_0 := zy BK193 0
             have hcz19_1 := zy BK193 1
             have hfz19_0 := ae BK193.out 0
             have hfz19_1 := ae BK193.out 1
             have p194 : 0 ≤ (x7_1 : Int) := ac zA
             have q194 : x7_1 < (l0_1.length : Int) := ac zA
             obtain ⟨ad194, e194, hx194_0, hx194_1⟩ := bp HR0_1.out x7_1 p194 q194
             cases e194
             (try replace hx194_0 := (HB.out.cell (aj w _ hx194_0)).trans hx194_0)
             (try replace hx194_1 := (HB.out.cell (aj w _ hx194_1)).trans hx194_1)
             replace p194 := eq_true p194
             replace q194 := eq_true q194
             go_wp2_with (first | ((with_reducible refine au (N := 8) rfl ?_); refine ze 8 #[.int .i64 0, .int .i64 0] 63 ?_; intro gb195 hg w20 hbox hb; have BK195 := zM (hbox); have GW195 := zM ((by rw [hg]; exact (am zB) : w.heap.size ≤ gb195)); have GE195 := zM ((by rw [hg]; exact (am zB) : w.heap.size ≤ gb195)); replace HB := zM (ag zB hb); have NB193_195 := zM ((by rw [hg]; exact Nat.ne_of_lt (aH (g := gb193) (o := .cells #[.int .i64 a0_0, .slice (some ad194) l0_1.length c0_1] 29 (0, 0)) (zK BK193.out)) : gb193 ≠ gb195)); have NB195_193 := zM ((by rw [hg]; exact Nat.ne_of_gt (aH (g := gb193) (o := .cells #[.int .i64 a0_0, .slice (some ad194) l0_1.length c0_1] 29 (0, 0)) (zK BK193.out)) : gb195 ≠ gb193)); replace BK193 := zJ BK193 hb; clear hb hbox hg; have hnb21 := NB195_193.out; have hnc21 := NB193_195.out; have hcz22_0 := zy BK195 0; have hcz22_1 := zy BK195 1; have hfz22_0 := ae BK195.out 0; have hfz22_1 := ae BK195.out 1))
             go_roundg k1
             case measure => have := HK1.out; omega
             case rel => exact ⟨(wrap64 (x7_1 + 1)), (by first | rfl | (simp; done) | (simp [*]; done)), H', ⟨by have := HK1.out; omega⟩, ⟨by (with_reducible repeat (first | refine ay ?_ _ | refine aq ?_ | refine aw ?_ _)); refine bG ?_ NB193_195.out _; (with_reducible repeat (first | refine ay ?_ _ | refine aq ?_ | refine aw ?_ _)); refine bG ?_ NB193_195.out _; (with_reducible repeat (first | refine ay ?_ _ | refine aq ?_ | refine aw ?_ _)); exact BK193.out⟩, ⟨zB⟩⟩
         · rw [if_neg c13] at H
           have c13b0 : (((aa l0_1 x7_1).f0) == a2) = false := beq_eq_false_iff_ne.mpr c13
           have c13b1 : (((aa l0_1 x7_1).f0) != a2) = true := bne_iff_ne.mpr c13
           have H' := Aside0.mk H
           clear H
           have hcz23_0 := zy BK193 0
           have hcz23_1 := zy BK193 1
           have hfz23_0 := ae BK193.out 0
           have hfz23_1 := ae BK193.out 1
           have p194 : 0 ≤ (x7_1 : Int) := ac zA
           have q194 : x7_1 < (l0_1.length : Int) := ac zA
           obtain ⟨ad194, e194, hx194_0, hx194_1⟩ := bp HR0_1.out x7_1 p194 q194
           cases e194
           (try replace hx194_0 := (HB.out.cell (aj w _ hx194_0)).trans hx194_0)
           (try replace hx194_1 := (HB.out.cell (aj w _ hx194_1)).trans hx194_1)
           replace p194 := eq_true p194
           replace q194 := eq_true q194
           go_wp2_with (first | ((with_reducible refine au (N := 8) rfl ?_); refine ze 8 #[.int .i64 0, .int .i64 0] 63 ?_; intro gb195 hg w24 hbox hb; have BK195 := zM (hbox); have GW195 := zM ((by rw [hg]; exact (am zB) : w.heap.size ≤ gb195)); have GE195 := zM ((by rw [hg]; exact (am zB) : w.heap.size ≤ gb195)); replace HB := zM (ag zB hb); have NB193_195 := zM ((by rw [hg]; exact Nat.ne_of_lt (aH (g := gb193) (o := .cells #[.int .i64 a0_0, .slice (some ad194) l0_1.length c0_1] 29 (0, 0)) (zK BK193.out)) : gb193 ≠ gb195)); have NB195_193 := zM ((by rw [hg]; exact Nat.ne_of_gt (aH (g := gb193) (o := .cells #[.int .i64 a0_0, .slice (some ad194) l0_1.length c0_1] 29 (0, 0)) (zK BK193.out)) : gb195 ≠ gb193)); replace BK193 := zJ BK193 hb; clear hb hbox hg; have hnb25 := NB195_193.out; have hnc25 := NB193_195.out; have hcz26_0 := zy BK195 0; have hcz26_1 := zy BK195 1; have hfz26_0 := ae BK195.out 0; have hfz26_1 := ae BK195.out 1))
           go_roundg k1
           case measure => have := HK1.out; omega
           case rel => exact ⟨(wrap64 (x7_1 + 1)), (by first | rfl | (simp; done) | (simp [*]; done)), H', ⟨by have := HK1.out; omega⟩, ⟨by (with_reducible repeat (first | refine ay ?_ _ | refine aq ?_ | refine aw ?_ _)); refine bG ?_ NB193_195.out _; (with_reducible repeat (first | refine ay ?_ _ | refine aq ?_ | refine aw ?_ _)); refine bG ?_ NB193_195.out _; (with_reducible repeat (first | refine ay ?_ _ | refine aq ?_ | refine aw ?_ _)); exact BK193.out⟩, ⟨zB⟩⟩
     · rw [if_neg c7] at H
       have c7b0 : (((aa l0_1 x7_1).f0) == a1) = false := beq_eq_false_iff_ne.mpr c7
       have c7b1 : (((aa l0_1 x7_1).f0) != a1) = true := bne_iff_ne.mpr c7
       by_cases c27 : ((aa l0_1 x7_1).f0) = a2
       · rw [if_pos c27] at H
         have c27b0 : (((aa l0_1 x7_1).f0) == a2) = true := beq_iff_eq.mpr c27
         have c27b1 : (((aa l0_1 x7_1).f0) != a2) = false := bne_eq_false_iff_eq.mpr c27
         clear c27
         by_cases c28 : ((aa l0_1 x7_1).f1) = a1
         · rw [if_pos c28] at H
           have c28b0 : (((aa l0_1 x7_1).f1) == a1) = true := beq_iff_eq.mpr c28
           have c28b1 : (((aa l0_1 x7_1).f1) != a1) = false := bne_eq_false_iff_eq.mpr c28
           clear c28
           obtain rfl := ap H
           have hcz29_0 := zy BK193 0
           have hcz29_1 := zy BK193 1
           have hfz29_0 := ae BK193.out 0
           have hfz29_1 := ae BK193.out 1
           have p194 : 0 ≤ (x7_1 : Int) := ac zA
           have q194 : x7_1 < (l0_1.length : Int) := ac zA
           obtain ⟨ad194, e194, hx194_0, hx194_1⟩ := bp HR0_1.out x7_1 p194 q194
           cases e194
           (try replace hx194_0 := (HB.out.cell (aj w _ hx194_0)).trans hx194_0)
           (try replace hx194_1 := (HB.out.cell (aj w _ hx194_1)).trans hx194_1)
           replace p194 := eq_true p194
           replace q194 := eq_true q194
           go_wp2_with (first | ((with_reducible refine au (N := 8) rfl ?_); refine ze 8 #[.int .i64 0, .int .i64 0] 63 ?_; intro gb195 hg w30 hbox hb; have BK195 := zM (hbox); have GW195 := zM ((by rw [hg]; exact (am zB) : w.heap.size ≤ gb195)); have GE195 := zM ((by rw [hg]; exact (am zB) : w.heap.size ≤ gb195)); replace HB := zM (ag zB hb); have NB193_195 := zM ((by rw [hg]; exact Nat.ne_of_lt (aH (g := gb193) (o := .cells #[.int .i64 a0_0, .slice (some ad194) l0_1.length c0_1] 29 (0, 0)) (zK BK193.out)) : gb193 ≠ gb195)); have NB195_193 := zM ((by rw [hg]; exact Nat.ne_of_gt (aH (g := gb193) (o := .cells #[.int .i64 a0_0, .slice (some ad194) l0_1.length c0_1] 29 (0, 0)) (zK BK193.out)) : gb195 ≠ gb193)); replace BK193 := zJ BK193 hb; clear hb hbox hg; have hnb31 := NB195_193.out; have hnc31 := NB193_195.out; have hcz32_0 := zy BK195 0; have hcz32_1 := zy BK195 1; have hfz32_0 := ae BK195.out 0; have hfz32_1 := ae BK195.out 1))
           go_ret
           exact ⟨by first | rfl | (simp [al, ak] <;> rfl) | (simp [*, al, ak] <;> rfl), zB⟩
         · rw [if_neg c28] at H
           have c28b0 : (((aa l0_1 x7_1).f1) == a1) = false := beq_eq_false_iff_ne.mpr c28
           have c28b1 : (((aa l0_1 x7_1).f1) != a1) = true := bne_iff_ne.mpr c28
           have H' := Aside0.mk H
           clear H
           have hcz33_0 := zy BK193 0
           have hcz33_1 := zy BK193 1
           have hfz33_0 := ae BK193.out 0
           have hfz33_1 := ae BK193.out 1
           have p194 : 0 ≤ (x7_1 : Int) := ac zA
           have q194 : x7_1 < (l0_1.length : Int) := ac zA
           obtain ⟨ad194, e194, hx194_0, hx194_1⟩ := bp HR0_1.out x7_1 p194 q194
           cases e194
           (try replace hx194_0 := (HB.out.cell (aj w _ hx194_0)).trans hx194_0)
           (try replace hx194_1 := (HB.out.cell (aj w _ hx194_1)).trans hx194_1)
           replace p194 := eq_true p194
           replace q194 := eq_true q194
           go_wp2_with (first | ((with_reducible refine au (N := 8) rfl ?_); refine ze 8 #[.int .i64 0, .int .i64 0] 63 ?_; intro gb195 hg w34 hbox hb; have BK195 := zM (hbox); have GW195 := zM ((by rw [hg]; exact (am zB) : w.heap.size ≤ gb195)); have GE195 := zM ((by rw [hg]; exact (am zB) : w.heap.size ≤ gb195)); replace HB := zM (ag zB hb); have NB193_195 := zM ((by rw [hg]; exact Nat.ne_of_lt (aH (g := gb193) (o := .cells #[.int .i64 a0_0, .slice (some ad194) l0_1.length c0_1] 29 (0, 0)) (zK BK193.out)) : gb193 ≠ gb195)); have NB195_193 := zM ((by rw [hg]; exact Nat.ne_of_gt (aH (g := gb193) (o := .cells #[.int .i64 a0_0, .slice (some ad194) l0_1.length c0_1] 29 (0, 0)) (zK BK193.out)) : gb195 ≠ gb193)); replace BK193 := zJ BK193 hb; clear hb hbox hg; have hnb35 := NB195_193.out; have hnc35 := NB193_195.out; have hcz36_0 := zy BK195 0; have hcz36_1 := zy BK195 1; have hfz36_0 := ae BK195.out 0; have hfz36_1 := ae BK195.out 1))
           go_roundg k1
           case measure => have := HK1.out; omega
           case rel => exact ⟨(wrap64 (x7_1 + 1)), (by first | rfl | (simp; done) | (simp [*]; done)), H', ⟨by have := HK1.out; omega⟩, ⟨by (with_reducible repeat (first | refine ay ?_ _ | refine aq ?_ | refine aw ?_ _)); refine bG ?_ NB193_195.out _; (with_reducible repeat (first | refine ay ?_ _ | refine aq ?_ | refine aw ?_ _)); refine bG ?_ NB193_195.out _; (with_reducible repeat (first | refine ay ?_ _ | refine aq ?_ | refine aw ?_ _)); exact BK193.out⟩, ⟨zB⟩⟩
       · rw [if_neg c27] at H
         have c27b0 : (((aa l0_1 x7_1).f0) == a2) = false := beq_eq_false_iff_ne.mpr c27
         have c27b1 : (((aa l0_1 x7_1).f0) != a2) = true := bne_iff_ne.mpr c27
         have H' := Aside0.mk H
         clear H
         have hcz37_0 := zy BK193 0
         have hcz37_1 := zy BK193 1
         have hfz37_0 := ae BK193.out 0
         have hfz37_1 := ae BK193.out 1
         have p194 : 0 ≤ (x7_1 : Int) := ac zA
         have q194 : x7_1 < (l0_1.length : Int) := ac zA
         obtain ⟨ad194, e194, hx194_0, hx194_1⟩ := bp HR0_1.out x7_1 p194 q194
         cases e194
         (try replace hx194_0 := (HB.out.cell (aj w _ hx194_0)).trans hx194_0)
         (try replace hx194_1 := (HB.out.cell (aj w _ hx194_1)).trans hx194_1)
         replace p194 := eq_true p194
         replace q194 := eq_true q194
         go_wp2_with (first | ((with_reducible refine au (N := 8) rfl ?_); refine ze 8 #[.int .i64 0, .int .i64 0] 63 ?_; intro gb195 hg w38 hbox hb; have BK195 := zM (hbox); have GW195 := zM ((by rw [hg]; exact (am zB) : w.heap.size ≤ gb195)); have GE195 := zM ((by rw [hg]; exact (am zB) : w.heap.size ≤ gb195)); replace HB := zM (ag zB hb); have NB193_195 := zM ((by rw [hg]; exact Nat.ne_of_lt (aH (g := gb193) (o := .cells #[.int .i64 a0_0, .slice (some ad194) l0_1.length c0_1] 29 (0, 0)) (zK BK193.out)) : gb193 ≠ gb195)); have NB195_193 := zM ((by rw [hg]; exact Nat.ne_of_gt (aH (g := gb193) (o := .cells #[.int .i64 a0_0, .slice (some ad194) l0_1.length c0_1] 29 (0, 0)) (zK BK193.out)) : gb195 ≠ gb193)); replace BK193 := zJ BK193 hb; clear hb hbox hg; have hnb39 := NB195_193.out; have hnc39 := NB193_195.out; have hcz40_0 := zy BK195 0; have hcz40_1 := zy BK195 1; have hfz40_0 := ae BK195.out 0; have hfz40_1 := ae BK195.out 1))
         go_roundg k1
         case measure => have := HK1.out; omega
         case rel => exact ⟨(wrap64 (x7_1 + 1)), (by first | rfl | (simp; done) | (simp [*]; done)), H', ⟨by have := HK1.out; omega⟩, ⟨by (with_reducible repeat (first | refine ay ?_ _ | refine aq ?_ | refine aw ?_ _)); refine bG ?_ NB193_195.out _; (with_reducible repeat (first | refine ay ?_ _ | refine aq ?_ | refine aw ?_ _)); refine bG ?_ NB193_195.out _; (with_reducible repeat (first | refine ay ?_ _ | refine aq ?_ | refine aw ?_ _)); exact BK193.out⟩, ⟨zB⟩⟩
   · rw [if_neg c5] at H
     have c5b0 : decide (x7_1 < (l0_1.length : Int)) = false := ao c5
     clear c5
     obtain rfl := ap H
     have hcz41_0 := zy BK193 0
     have hcz41_1 := zy BK193 1
     have hfz41_0 := ae BK193.out 0
     have hfz41_1 := ae BK193.out 1
     go_wp2
     go_ret
     exact ⟨by first | rfl | (simp [al, ak] <;> rfl) | (simp [*, al, ak] <;> rfl), zB⟩
def hJ (k : Nat) (a0_0 : Int) (l0_1 : List (S63)) (l1 : List Int) : Option (Bool) := (iY k l1 0 (wrap64 (a0_0 - 1))).bind fun t197 => (some t197)
theorem oS (k : Nat) (a0_0 : Int) (A0_1 : Option Addr) (c0_1 : Nat) (l0_1 : List (S63)) (A1 : Option Addr) (c1 : Nat) (l1 : List Int) (r : Bool) (w : World) (hr0_1 : Kd.C k63 w A0_1 l0_1.length l0_1) (hc0_1 : l0_1.length ≤ c0_1) (hr1 : Kd.C (Kd.int .i64) w A1 l1.length l1) (hc1 : l1.length ≤ c1) (h : hJ k a0_0 l0_1 l1 = some r) :
 Calls Tryz.prog 65 #[.agg #[.int .i64 a0_0, .slice A0_1 l0_1.length c0_1], .slice A1 l1.length c1] w fun e w' => e = .returned (.bool r) ∧ Below w.heap.size w w' := by
 have hu29 := Tryz.underlying29
 have HR0_1 := Aside0.mk hr0_1
 have HC0_1 := Aside0.mk hc0_1
 clear hr0_1 hc0_1
 have HR1 := Aside0.mk hr1
 have HC1 := Aside0.mk hc1
 clear hr1 hc1
 have HB := zM (Below.refl w.heap.size w)
 have H := h
 unfold hJ at H
 clear h
 replace H := av H
 obtain ⟨t197, A30, H⟩ := H
 have A3 := Aside0.mk A30
 clear A30
 obtain rfl := ap H
 go_enter Tryz.func65, Tryz.ntmps65
 go_wp2_with (first | ((with_reducible refine au (N := 2) rfl ?_); refine zb (w := w) 2 #[.int .i64 a0_0, .slice A0_1 l0_1.length c0_1] 29 zB ?_; clear HB; intro gb196 w4 HB BK196 GW196; have GE196 := GW196; have hcz5_0 := zy BK196 0; have hcz5_1 := zy BK196 1; have hfz5_0 := ae BK196.out 0; have hfz5_1 := ae BK196.out 1) | ((with_reducible refine ax (f := 83) rfl ?_); refine zc 9 Tryz.func83 #[.slice A1 l1.length c1, .int .i64 0, .int .i64 (wrap64 (a0_0 - 1))] ?_; (with_reducible refine (o3 k _ _ l1 0 (wrap64 (a0_0 - 1)) t197 _ ?side1 ?side2 A3.out).mono ?_); (case side1 => exact zC (Kd.C_below HR1.out HB.out)); (case side2 => exact HC1.out); rintro e w' ⟨rfl, ⟨nd, rfl⟩⟩; refine ⟨_, rfl, ?_⟩))
 go_ret
 exact ⟨by first | rfl | (simp [al, ak] <;> rfl) | (simp [*, al, ak] <;> rfl), zB⟩
end Go.Proofs.YtjgcehldepfaaaaGreat.P
