import Derived.Test.YtjgcehldepfaaaaGreatForestMeetsG12
namespace Go.Proofs.YtjgcehldepfaaaaGreat.P
open Go.RowKit YtjgcehldepfaaaaGreatW.PrintWords YtjgcehldepfaaaaGreatW.PrintLast YtjgcehldepfaaaaGreatW.PrintMore
attribute [local go_sem] bl bh bi bd bj bf bk bg
set_option maxRecDepth 100000
set_option maxHeartbeats 8000000
set_option linter.unusedVariables false
set_option linter.unusedSimpArgs false
def iV (k : Nat) (a0_0 : Int) (l0_1 : List (S63)) (l1 : List Int) : Option (Bool) := (hY k a0_0 l0_1).bind fun t282 => (if t282 = true then ((f8 k a0_0 l0_1 l1).bind fun t283 => (some t283)) else (some false))
theorem lh (k : Nat) (a0_0 : Int) (A0_1 : Option Addr) (c0_1 : Nat) (l0_1 : List (S63)) (A1 : Option Addr) (c1 : Nat) (l1 : List Int) (r : Bool) (w : World) (hr0_1 : Kd.C k63 w A0_1 l0_1.length l0_1) (hc0_1 : l0_1.length ≤ c0_1) (hr1 : Kd.C (Kd.int .i64) w A1 l1.length l1) (hc1 : l1.length ≤ c1) (h : iV k a0_0 l0_1 l1 = some r) :
 Calls Tryz.prog 18 #[.agg #[.int .i64 a0_0, .slice A0_1 l0_1.length c0_1], .slice A1 l1.length c1] w fun e w' => e = .returned (.bool r) ∧ Below w.heap.size w w' := by
 have hu29 := Tryz.underlying29
 have HR0_1 := Aside0.mk hr0_1
 have HC0_1 := Aside0.mk hc0_1
 clear hr0_1 hc0_1
 have HR1 := Aside0.mk hr1
 have HC1 := Aside0.mk hc1
 clear hr1 hc1
 have HB := zM (Below.refl w.heap.size w)
 have H := h
 unfold iV at H
 clear h
 replace H := av H
 obtain ⟨t282, A30, H⟩ := H
 have A3 := Aside0.mk A30
 clear A30
 by_cases c4 : t282 = true
 · subst c4
   rw [if_pos rfl] at H
   replace H := av H
   obtain ⟨t283, A50, H⟩ := H
   have A5 := Aside0.mk A50
   clear A50
   obtain rfl := ap H
   go_enter Tryz.func18, Tryz.ntmps18
   go_wp2_with (first | ((with_reducible refine au (N := 2) rfl ?_); refine zb (w := w) 2 #[.int .i64 a0_0, .slice A0_1 l0_1.length c0_1] 29 zB ?_; clear HB; intro gb281 w6 HB BK281 GW281; have GE281 := GW281; have hcz7_0 := zy BK281 0; have hcz7_1 := zy BK281 1; have hfz7_0 := ae BK281.out 0; have hfz7_1 := ae BK281.out 1) | ((with_reducible refine ax (f := 41) rfl ?_); refine zc 6 Tryz.func41 #[.agg #[.int .i64 a0_0, .slice A0_1 l0_1.length c0_1]] ?_; (with_reducible refine (lw k a0_0 _ _ l0_1 true _ ?side1 ?side2 A3.out).mono ?_); (case side1 => exact zC (Kd.C_below HR0_1.out HB.out)); (case side2 => exact HC0_1.out); rintro e w8 ⟨rfl, hb⟩; refine ⟨_, rfl, ?_⟩; replace BK281 := zJ BK281 hb; replace HB := zM (ag zB hb); (try clear hb); have hcz9_0 := zy BK281 0; have hcz9_1 := zy BK281 1; have hfz9_0 := ae BK281.out 0; have hfz9_1 := ae BK281.out 1) | (go_at_call 42; (with_reducible refine (lm k a0_0 _ _ l0_1 _ _ l1 t283 _ ?side1 ?side2 ?side3 ?side4 A5.out).mono ?_); (case side1 => exact zC (Kd.C_below HR0_1.out HB.out)); (case side2 => exact HC0_1.out); (case side3 => exact zC (Kd.C_below HR1.out HB.out)); (case side4 => exact HC1.out); rintro e w10 ⟨rfl, hb⟩; replace BK281 := zJ BK281 hb; replace HB := zM (ag zB hb); (try clear hb); (try clear hi)))
   go_ret
   exact ⟨by first | rfl | (simp [al, ak] <;> rfl) | (simp [*, al, ak] <;> rfl), zB⟩
 · replace c4 := Bool.eq_false_iff.mpr c4
   subst c4
   rw [if_neg (show ¬ (false = true) by decide)] at H
   obtain rfl := ap H
   go_enter Tryz.func18, Tryz.ntmps18
   go_wp2_with (first | ((with_reducible refine au (N := 2) rfl ?_); refine zb (w := w) 2 #[.int .i64 a0_0, .slice A0_1 l0_1.length c0_1] 29 zB ?_; clear HB; intro gb281 w11 HB BK281 GW281; have GE281 := GW281; have hcz12_0 := zy BK281 0; have hcz12_1 := zy BK281 1; have hfz12_0 := ae BK281.out 0; have hfz12_1 := ae BK281.out 1) | ((with_reducible refine ax (f := 41) rfl ?_); refine zc 6 Tryz.func41 #[.agg #[.int .i64 a0_0, .slice A0_1 l0_1.length c0_1]] ?_; (with_reducible refine (lw k a0_0 _ _ l0_1 false _ ?side1 ?side2 A3.out).mono ?_); (case side1 => exact zC (Kd.C_below HR0_1.out HB.out)); (case side2 => exact HC0_1.out); rintro e w13 ⟨rfl, hb⟩; refine ⟨_, rfl, ?_⟩; replace BK281 := zJ BK281 hb; replace HB := zM (ag zB hb); (try clear hb); (try clear hi)))
   go_ret
   exact ⟨by first | rfl | (simp [al, ak] <;> rfl) | (simp [*, al, ak] <;> rfl), zB⟩
attribute [local go_sem] bl bh bi bd bj bf bk bg
set_option linter.unusedVariables false
set_option linter.unusedSimpArgs false
mutual
def di : Nat → List Int → Int → Int → List Int → Int → Int → List (S63) → Option (Bool)
 | 0, _, _, _, _, _, _, _ => none
 | k + 1, x1, x2, x3, x9, x10, x369000, x369001 => if x10 < (x9.length : Int) then (if 0 ≤ x10 then (if (rd x9 x10) = x3 then (di k x1 x2 x3 x9 (wrap64 (x10 + 1)) x369000 x369001) else ((fE k x369000 x369001 (rd x9 x10)).bind fun t374 => (cC k x1 x2 x3 x9 x10 false t374 0 x369000 x369001))) else (none)) else (some true)
def cC : Nat → List Int → Int → Int → List Int → Int → Bool → List Int → Int → Int → List (S63) → Option (Bool)
 | 0, _, _, _, _, _, _, _, _, _, _ => none
 | k + 1, x1, x2, x3, x9, x10, x11, x12, x13, x369000, x369001 => if x13 < (x12.length : Int) then (if x11 = true then (cC k x1 x2 x3 x9 x10 true x12 (wrap64 (x13 + 1)) x369000 x369001) else (if 0 ≤ x13 then (if (rd x12 x13) = x2 then (cC k x1 x2 x3 x9 x10 false x12 (wrap64 (x13 + 1)) x369000 x369001) else ((ew k x1 (rd x12 x13)).bind fun t379 => (if t379 = true then (if 0 ≤ x10 then (if x10 < (x9.length : Int) then ((dx k x369000 x369001 x1 (rd x12 x13) (rd x9 x10)).bind fun t382 => (cC k x1 x2 x3 x9 x10 t382 x12 (wrap64 (x13 + 1)) x369000 x369001)) else (none)) else (none)) else (cC k x1 x2 x3 x9 x10 false x12 (wrap64 (x13 + 1)) x369000 x369001)))) else (none))) else (if x11 = true then (di k x1 x2 x3 x9 (wrap64 (x10 + 1)) x369000 x369001) else (some false))
def dx : Nat → Int → List (S63) → List Int → Int → Int → Option (Bool)
 | 0, _, _, _, _, _ => none
 | k + 1, a0_0, l0_1, l1, a2, a3 => (fE k a0_0 l0_1 a2).bind fun t369 => (di k l1 a2 a3 t369 0 a0_0 l0_1)
end
def spec_l3Stiff.T11 : Bool × List (List Nat × List Nat) := (true, [([], []), ([0], [0]), ([1], [1]), ([1], [1]), ([2, 3, 1], [1, 2, 3]), ([4, 1], [1, 4]), ([1], [1]), ([5, 6, 1], [1, 5, 6]), ([7, 1, 1], [1, 7]), ([8], [8]), ([8], [8]), ([8], [8]), ([10, 11, 8], [8, 10, 11]), ([12, 8], [8, 12]), ([9, 13, 8, 8], [8, 9, 13]), ([8, 14, 1], [1, 8, 14]), ([15, 14, 1], [1, 15]), ([16], [16]), ([16], [16]), ([16], [16]), ([16], [16]), ([19, 20, 16], [16, 19, 20]), ([21, 16], [16, 21]), ([16], [16]), ([16], [16]), ([23, 24, 16], [16, 23, 24]), ([25, 16], [16, 25]), ([17, 18, 22, 26, 16, 16], [16, 17, 18, 22, 26]), ([16, 27, 1], [1, 16, 27]), ([1, 28], [1, 28]), ([29, 27, 0, 1, 2, 3, 4, 5, 6, 7, 8, 9, 10, 11, 12, 13, 14, 15, 16, 17, 18, 19, 20, 21, 22, 23, 24, 25, 26, 27, 28, 29], [0, 29])])
def oM : List Nat := [0, 1, 3, 3, 15, 31, 3, 127, 255, 511, 511, 511, 3583, 7679, 16383, 32767, 65535, 131071, 131071, 131071, 131071, 1703935, 3801087, 131071, 131071, 25296895, 58851327, 134217727, 268435455, 536870911, 1073741823]
theorem iS : aQ .any (ct Tryz.f44 11) = spec_l3Stiff.T11 := by kernel_rfl
theorem iT : bK spec_l3Stiff.T11.2 oM = true := by kernel_rfl
theorem lf (k : Nat) : ∀ (a0_0 : Int) (A0_1 : Option Addr) (c0_1 : Nat) (l0_1 : List (S63)) (A1 : Option Addr) (c1 : Nat) (l1 : List Int) (a2 : Int) (a3 : Int) (r : Bool) (w : World) (hr0_1 : Kd.C k63 w A0_1 l0_1.length l0_1) (hc0_1 : l0_1.length ≤ c0_1) (hr1 : Kd.C (Kd.int .i64) w A1 l1.length l1) (hc1 : l1.length ≤ c1) (h : dx k a0_0 l0_1 l1 a2 a3 = some r),
 Calls Tryz.prog 44 #[.agg #[.int .i64 a0_0, .slice A0_1 l0_1.length c0_1], .slice A1 l1.length c1, .int .i64 a2, .int .i64 a3] w fun e w' => e = .returned (.bool r) ∧ Below w.heap.size w w' := by
 induction k using Nat.strongRecOn with
 | _ k ih =>
 intro a0_0 A0_1 c0_1 l0_1 A1 c1 l1 a2 a3 r w hr0_1 hc0_1 hr1 hc1 h
 cases k with
 | zero => exact absurd h (by simp [dx])
 | succ k =>
 simp only [dx] at h
 have hu29 := Tryz.underlying29
 have HR0_1 := Aside0.mk hr0_1
 have HC0_1 := Aside0.mk hc0_1
 clear hr0_1 hc0_1
 have HR1 := Aside0.mk hr1
 have HC1 := Aside0.mk hc1
 clear hr1 hc1
 have HB := zM (Below.refl w.heap.size w)
 have H := h
 unfold dx at H
 clear h
 replace H := av H
 obtain ⟨t369, A50, H⟩ := H
 have A5 := Aside0.mk A50
 clear A50
 have H' := Aside0.mk H
 clear H
 go_enter Tryz.func44, Tryz.ntmps44
 go_wp2_with (first | ((with_reducible refine au (N := 4) rfl ?_); refine zb (w := w) 4 #[.int .i64 a0_0, .slice A0_1 l0_1.length c0_1] 29 zB ?_; clear HB; intro gb368 w6 HB BK368 GW368; have GE368 := GW368; have hcz7_0 := zy BK368 0; have hcz7_1 := zy BK368 1; have hfz7_0 := ae BK368.out 0; have hfz7_1 := ae BK368.out 1) | ((with_reducible refine ax (f := 56) rfl ?_); refine zc 16 Tryz.func56 #[.agg #[.int .i64 a0_0, .slice A0_1 l0_1.length c0_1], .int .i64 a2] ?_; (with_reducible refine (iX k a0_0 _ _ l0_1 a2 t369 _ ?side1 ?side2 A5.out).mono ?_); (case side1 => exact zC (Kd.C_below HR0_1.out HB.out)); (case side2 => exact HC0_1.out); rintro e w8 ⟨v370, rfl, ho0, hb⟩; refine ⟨_, rfl, ?_⟩; have HO371 := zM (Kd.R_lower ho0 (am zB)); replace BK368 := zJ BK368 hb; replace HB := zM (ag zB hb); (try clear hb); (try clear ho0)))
 go_loopg [10] k (fun kq v10 w' => ∃ (x10_1 : Int), v10 = .int .i64 x10_1 ∧ Aside0 (di kq l1 a2 a3 t369 x10_1 a0_0 l0_1 = some r) ∧ Aside0 (kq ≤ k) ∧ Aside0 (Kd.R (Kd.int .i64) 3 w' w.heap.size (fun _ => True) v370 t369) ∧ Aside0 (w'.heap[gb368]? = some (.cells #[.int .i64 a0_0, (.slice A0_1 l0_1.length c0_1)] 29 (0, 0))) ∧ Aside0 (Below w.heap.size w w'))
 case atStart => exact ⟨(0), (by first | rfl | (simp; done) | (simp [*]; done)), H', ⟨ar _⟩, ⟨zR HO371.out⟩, ⟨zK BK368.out⟩, ⟨zB⟩⟩
 case round =>
  clear H'
  try clear c1
  try clear p2
  try clear c4
  try clear c5
  try clear hcz7_0
  try clear hcz7_1
  try clear hfz7_0
  try clear hfz7_1
  obtain ⟨x10_1, rfl, HA, HK1, HO_9, BK368, HB⟩ := hrel
  cases gk with
  | zero => exact absurd HA.out (by simp [di])
  | succ k1 =>
   have H := HA.out
   clear HA
   simp only [di] at H
   by_cases c9 : x10_1 < (t369.length : Int)
   · rw [if_pos c9] at H
     have c9b0 := af c9
     clear c9
     by_cases c10 : 0 ≤ x10_1
     case neg => rw [if_neg c10] at H; simp at H
     rw [if_pos c10] at H
     have c10b0 := af c10
     clear c10
     by_cases c11 : (rd t369 x10_1) = a3
     · rw [if_pos c11] at H
       have c11b0 : ((rd t369 x10_1) == a3) = true := beq_iff_eq.mpr c11
       have c11b1 : ((rd t369 x10_1) != a3) = false := bne_eq_false_iff_eq.mpr c11
       clear c11
       have H' := Aside0.mk H
       clear H
       obtain ⟨Ao12, co12, eo12⟩ := Kd.R_slice HO_9.out
       subst eo12
       have p372 : 0 ≤ (x10_1 : Int) := ac zA
       have q372 : x10_1 < (t369.length : Int) := ac zA
       obtain ⟨ad372, e372, hx372_0⟩ := Kd.at_int (Kd.R_reads' HO_9.out).2.2 x10_1 p372 q372
       cases e372
       replace p372 := eq_true p372
       replace q372 := eq_true q372
       go_wp2
       go_roundg k1
       case measure => have := HK1.out; omega
       case rel => exact ⟨(wrap64 (x10_1 + 1)), (by first | rfl | (simp; done) | (simp [*]; done)), H', ⟨by have := HK1.out; omega⟩, ⟨zR HO_9.out⟩, ⟨zK BK368.out⟩, ⟨zB⟩⟩
     · rw [if_neg c11] at H
       have c11b0 : ((rd t369 x10_1) == a3) = false := beq_eq_false_iff_ne.mpr c11
       have c11b1 : ((rd t369 x10_1) != a3) = true := bne_iff_ne.mpr c11
       replace H := av H
       obtain ⟨t374, A130, H⟩ := H
       have A13 := Aside0.mk A130
       clear A130
       have H' := Aside0.mk H
       clear H
       obtain ⟨Ao14, co14, eo14⟩ := Kd.R_slice HO_9.out
       subst eo14
       have p372 : 0 ≤ (x10_1 : Int) := ac zA
       have q372 : x10_1 < (t369.length : Int) := ac zA
       obtain ⟨ad372, e372, hx372_0⟩ := Kd.at_int (Kd.R_reads' HO_9.out).2.2 x10_1 p372 q372
       cases e372
       replace p372 := eq_true p372
       replace q372 := eq_true q372
       try go_wp2
       replace HO_9 := zM (Kd.R_drew HO_9.out)
       replace BK368 := zM (aq BK368.out)
       replace HB := zM (aD HB.out)
       have p373 : 0 ≤ (x10_1 : Int) := ac zA
       have q373 : x10_1 < (t369.length : Int) := ac zA
       obtain ⟨ad373, e373, hx373_0⟩ := Kd.at_int (Kd.R_reads' HO_9.out).2.2 x10_1 p373 q373
       obtain rfl : ad372 = ad373 := (by injection e373)
       replace p373 := eq_true p373
       replace q373 := eq_true q373
       refine zs (n := 7) (fun w' => w'.cell? ⟨gb368, 0, none⟩ = some (.int .i64 a0_0) ∧ w'.cell? ⟨gb368, 1, none⟩ = some (.slice A0_1 l0_1.length c0_1) ∧ w'.cell? (ad372.add (x10_1).toNat) = some (.int .i64 (rd t369 x10_1))) ⟨(ah BK368.out 0).trans rfl, (ah BK368.out 1).trans rfl, hx373_0⟩ (fun hHeld => ?_)
       generalize wr.drew = w15 at HO_9 BK368 HB hx373_0 hHeld ⊢
       refine zq 1 30 ?_
       refine zq 2 31 ?_
       refine zq 3 32 ?_
       refine zl 0 29 hHeld ?_ (hy := by rintro w' ⟨s0, s1, s2⟩; go_simp; with_reducible rfl)
       refine zl 4 33 hHeld ?_ (hy := by rintro w' ⟨s0, s1, s2⟩; go_simp; with_reducible rfl)
       refine zh 5 34 Tryz.func56 #[.agg #[.int .i64 a0_0, .slice A0_1 l0_1.length c0_1], .int .i64 (rd t369 x10_1)] (fun K hK => ?_)
       with_reducible refine (iX k1 a0_0 _ _ l0_1 (rd t369 x10_1) t374 _ ?side1 ?side2 A13.out).mono ?_
       (case side1 => exact zC (Kd.C_below HR0_1.out HB.out))
       (case side2 => exact HC0_1.out)
       rintro e w16 ⟨v375, rfl, ho0, hb⟩
       have HS2_ := (hb.cell (aj _ _ (hHeld.2.2))).trans (hHeld.2.2)
       refine ⟨_, rfl, ?_⟩
       have HO376 := zM (Kd.R_lower (Kd.R_new' ho0 (Kd.R_lt (zR HO_9.out))) (am zB))
       replace HO_9 := zM (Kd.R_elder' (zR HO_9.out) (Kd.R_base ho0) hb)
       replace BK368 := zJ BK368 hb
       replace HB := zM (ag zB hb)
       (try clear hb)
       (try clear ho0)
       refine hK.out _ _ ⟨(ah BK368.out 0).trans rfl, (ah BK368.out 1).trans rfl, HS2_⟩ (fun hHeld => ?_)
       clear hK K
       refine zn 34 ?_
       refine zq 6 12 ?_
       refine zx ?_
       try go_wp2
       go_loopg [11, 13] k1 (fun kq v11 v13 w' => ∃ (x11_2 : Bool) (x13_2 : Int), v11 = .bool x11_2 ∧ v13 = .int .i64 x13_2 ∧ Aside0 (cC kq l1 a2 a3 t369 x10_1 x11_2 t374 x13_2 a0_0 l0_1 = some r) ∧ Aside0 (kq ≤ k1) ∧ Aside0 (Kd.R (Kd.int .i64) 3 w' w.heap.size (fun k_ => some k_ ≠ (v375 : Value).ownBlock) (.slice (some ad372) t369.length co14) t369) ∧ Aside0 (Kd.R (Kd.int .i64) 3 w' w.heap.size (fun k_ => some k_ ≠ ((.slice (some ad372) t369.length co14) : Value).ownBlock) v375 t374) ∧ Aside0 (w'.heap[gb368]? = some (.cells #[.int .i64 a0_0, (.slice A0_1 l0_1.length c0_1)] 29 (0, 0))) ∧ Aside0 (Below w.heap.size w w'))
       case atStart => exact ⟨(false), (0), (by first | rfl | (simp; done) | (simp [*]; done)), (by first | rfl | (simp; done) | (simp [*]; done)), H', ⟨ar _⟩, ⟨by (with_reducible repeat (first | apply Kd.R_alloc | apply Kd.R_drewN | apply Kd.R_drew)); exact Kd.R_mono HO_9.out (fun _ hk => hk.2)⟩, ⟨by (with_reducible repeat (first | apply Kd.R_alloc | apply Kd.R_drewN | apply Kd.R_drew)); exact Kd.R_mono HO376.out (fun _ hk => hk.2)⟩, ⟨zK BK368.out⟩, ⟨zB⟩⟩
       case round =>
        clear H'
        try clear c1
        try clear p2
        try clear p3
        try clear q3
        try clear hx3
        try clear c4
        try clear c5
        try clear p6
        try clear c9
        try clear c9b0
        try clear c10
        try clear c10b0
        try clear c11
        try clear c11b0
        try clear c11b1
        try clear hcz7_0
        try clear hcz7_1
        try clear hfz7_0
        try clear hfz7_1
        try clear hx372_0
        try clear hx373_0
        try clear p2
        try clear p372
        try clear p373
        try clear q372
        try clear q373
        obtain ⟨x11_2, x13_2, rfl, rfl, HA, HK2, HO_9, HO_12, BK368, HB⟩ := hrel
        cases gk with
        | zero => exact absurd HA.out (by simp [cC])
        | succ k2 =>
         have H := HA.out
         clear HA
         simp only [cC] at H
         by_cases c17 : x13_2 < (t374.length : Int)
         · rw [if_pos c17] at H
           have c17b0 := af c17
           clear c17
           by_cases c18 : x11_2 = true
           · subst c18
             rw [if_pos rfl] at H
             have H' := Aside0.mk H
             clear H
             obtain ⟨Ao19, co19, eo19⟩ := Kd.R_slice HO_12.out
             subst eo19
             try go_wp2
             replace HO_9 := zM (Kd.R_drew HO_9.out)
             replace HO_12 := zM (Kd.R_drew HO_12.out)
             replace BK368 := zM (aq BK368.out)
             replace HB := zM (aD HB.out)
             refine zs (n := 31) (fun w' => True) trivial (fun hHeld => ?_); refine aX iS iT (fun HT_ HW_ => ?_)
             generalize wr.drew = w20 at HO_9 HO_12 BK368 HB hHeld ⊢
             refine zp HT_ 0 41 ?_
             refine zp HT_ 1 42 ?_
             refine zu HT_ 2 43 ?_
             refine zu HT_ 3 44 ?_
             refine zu HT_ 4 45 ?_
             refine zu HT_ 5 46 ?_
             refine zu HT_ 6 47 ?_
             refine zu HT_ 7 48 ?_
             refine zu HT_ 8 49 ?_
             refine zu HT_ 9 50 ?_
             refine zu HT_ 10 51 ?_
             refine zu HT_ 11 52 ?_
             refine zu HT_ 12 53 ?_
             refine zu HT_ 13 54 ?_
             refine zu HT_ 14 55 ?_
             refine zu HT_ 15 56 ?_
             refine zu HT_ 16 57 ?_
             refine zu HT_ 17 58 ?_
             refine zu HT_ 18 59 ?_
             refine zu HT_ 19 60 ?_
             refine zu HT_ 20 61 ?_
             refine zu HT_ 21 62 ?_
             refine zu HT_ 22 63 ?_
             refine zu HT_ 23 64 ?_
             refine zu HT_ 24 65 ?_
             refine zu HT_ 25 66 ?_
             refine zu HT_ 26 67 ?_
             refine zu HT_ 27 68 ?_
             refine zu HT_ 28 69 ?_
             refine zp HT_ 29 70 ?_
             refine zp HT_ 30 11 ?_
             refine zo HT_ ?_
             try go_wp2
             go_roundg k2
             case measure => have := HK1.out; have := HK2.out; omega
             case rel => exact ⟨(true), (wrap64 (x13_2 + 1)), (by first | rfl | (simp; done) | (simp [*]; done)), (by first | rfl | (simp; done) | (simp [*]; done)), H', ⟨by have := HK1.out; have := HK2.out; omega⟩, ⟨zR HO_9.out⟩, ⟨zR HO_12.out⟩, ⟨zK BK368.out⟩, ⟨zB⟩⟩
           · replace c18 := Bool.eq_false_iff.mpr c18
             subst c18
             rw [if_neg (show ¬ (false = true) by decide)] at H
             by_cases c21 : 0 ≤ x13_2
             case neg => rw [if_neg c21] at H; simp at H
             rw [if_pos c21] at H
             have c21b0 := af c21
             clear c21
             by_cases c22 : (rd t374 x13_2) = a2
             · rw [if_pos c22] at H
               have c22b0 : ((rd t374 x13_2) == a2) = true := beq_iff_eq.mpr c22
               have c22b1 : ((rd t374 x13_2) != a2) = false := bne_eq_false_iff_eq.mpr c22
               clear c22
               have H' := Aside0.mk H
               clear H
               obtain ⟨Ao23, co23, eo23⟩ := Kd.R_slice HO_12.out
               subst eo23
               try go_wp2
               replace HO_9 := zM (Kd.R_drew HO_9.out)
               replace HO_12 := zM (Kd.R_drew HO_12.out)
               replace BK368 := zM (aq BK368.out)
               replace HB := zM (aD HB.out)
               have p377 : 0 ≤ (x13_2 : Int) := ac zA
               have q377 : x13_2 < (t374.length : Int) := ac zA
               obtain ⟨ad377, e377, hx377_0⟩ := Kd.at_int (Kd.R_reads' HO_12.out).2.2 x13_2 p377 q377
               cases e377
               replace p377 := eq_true p377
               replace q377 := eq_true q377
               refine zs (n := 31) (fun w' => w'.cell? (ad377.add (x13_2).toNat) = some (.int .i64 (rd t374 x13_2))) (hx377_0) (fun hHeld => ?_); refine aX iS iT (fun HT_ HW_ => ?_)
               generalize wr.drew = w24 at HO_9 HO_12 BK368 HB hx377_0 hHeld ⊢
               refine zp HT_ 0 41 ?_
               refine zp HT_ 1 42 ?_
               refine zp HT_ 2 43 ?_
               refine zp HT_ 3 44 ?_
               refine zp HT_ 4 45 ?_
               refine zp HT_ 6 47 ?_
               refine take_ (i := 5) (N := some 46) (v := ?_) (a' := ?_) #[true, true, true, true, true, true, true, false, false, false, false, false, false, false, false, false, false, false, false, false, false, false, false, false, false, false, false, false, false, false, false] rfl rfl (ld HT_.out HW_.out (by kernel_rfl)) (fun _ _ _ h => h) (Or.inl ⟨by rfl, ?_⟩) hHeld ?_ ?_
               rotate_left
               · intro w' s0
                 go_simp
                 with_reducible rfl
               rotate_left
               · simp only [Act.put, List.setIfInBounds_toArray, List.set_cons_zero, List.set_cons_succ, bW, dt]
                 rfl
               refine zp HT_ 7 48 ?_
               refine zp HT_ 8 49 ?_
               refine zu HT_ 9 50 ?_
               refine zu HT_ 10 51 ?_
               refine zu HT_ 11 52 ?_
               refine zu HT_ 12 53 ?_
               refine zu HT_ 13 54 ?_
               refine zu HT_ 14 55 ?_
               refine zp HT_ 15 56 ?_
               refine zp HT_ 16 57 ?_
               refine zu HT_ 17 58 ?_
               refine zu HT_ 18 59 ?_
               refine zu HT_ 19 60 ?_
               refine zu HT_ 20 61 ?_
               refine zu HT_ 21 62 ?_
               refine zu HT_ 22 63 ?_
               refine zu HT_ 23 64 ?_
               refine zu HT_ 24 65 ?_
               refine zu HT_ 25 66 ?_
               refine zu HT_ 26 67 ?_
               refine zu HT_ 27 68 ?_
               refine zp HT_ 28 69 ?_
               refine zp HT_ 29 70 ?_
               refine zp HT_ 30 11 ?_
               refine zo HT_ ?_
               try go_wp2
               go_roundg k2
               case measure => have := HK1.out; have := HK2.out; omega
               case rel => exact ⟨(false), (wrap64 (x13_2 + 1)), (by first | rfl | (simp; done) | (simp [*]; done)), (by first | rfl | (simp; done) | (simp [*]; done)), H', ⟨by have := HK1.out; have := HK2.out; omega⟩, ⟨zR HO_9.out⟩, ⟨zR HO_12.out⟩, ⟨zK BK368.out⟩, ⟨zB⟩⟩
             · rw [if_neg c22] at H
               have c22b0 : ((rd t374 x13_2) == a2) = false := beq_eq_false_iff_ne.mpr c22
               have c22b1 : ((rd t374 x13_2) != a2) = true := bne_iff_ne.mpr c22
               replace H := av H
               obtain ⟨t379, A250, H⟩ := H
               have A25 := Aside0.mk A250
               clear A250
               by_cases c26 : t379 = true
               · subst c26
                 rw [if_pos rfl] at H
                 by_cases c27 : 0 ≤ x10_1
                 case neg => rw [if_neg c27] at H; simp at H
                 rw [if_pos c27] at H
                 have c27b0 := af c27
                 clear c27
                 by_cases c28 : x10_1 < (t369.length : Int)
                 case neg => rw [if_neg c28] at H; simp at H
                 rw [if_pos c28] at H
                 have c28b0 := af c28
                 clear c28
                 replace H := av H
                 obtain ⟨t382, A290, H⟩ := H
                 have A29 := Aside0.mk A290
                 clear A290
                 have H' := Aside0.mk H
                 clear H
                 obtain ⟨Ao30, co30, eo30⟩ := Kd.R_slice HO_12.out
                 subst eo30
                 try go_wp2
                 replace HO_9 := zM (Kd.R_drew HO_9.out)
                 replace HO_12 := zM (Kd.R_drew HO_12.out)
                 replace BK368 := zM (aq BK368.out)
                 replace HB := zM (aD HB.out)
                 have p377 : 0 ≤ (x13_2 : Int) := ac zA
                 have q377 : x13_2 < (t374.length : Int) := ac zA
                 obtain ⟨ad377, e377, hx377_0⟩ := Kd.at_int (Kd.R_reads' HO_12.out).2.2 x13_2 p377 q377
                 cases e377
                 replace p377 := eq_true p377
                 replace q377 := eq_true q377
                 have p378 : 0 ≤ (x13_2 : Int) := ac zA
                 have q378 : x13_2 < (t374.length : Int) := ac zA
                 obtain ⟨ad378, e378, hx378_0⟩ := Kd.at_int (Kd.R_reads' HO_12.out).2.2 x13_2 p378 q378
                 obtain rfl : ad377 = ad378 := (by injection e378)
                 replace p378 := eq_true p378
                 replace q378 := eq_true q378
                 have p380 : 0 ≤ (x13_2 : Int) := ac zA
                 have q380 : x13_2 < (t374.length : Int) := ac zA
                 obtain ⟨ad380, e380, hx380_0⟩ := Kd.at_int (Kd.R_reads' HO_12.out).2.2 x13_2 p380 q380
                 obtain rfl : ad377 = ad380 := (by injection e380)
                 replace p380 := eq_true p380
                 replace q380 := eq_true q380
                 have p381 : 0 ≤ (x10_1 : Int) := ac zA
                 have q381 : x10_1 < (t369.length : Int) := ac zA
                 obtain ⟨ad381, e381, hx381_0⟩ := Kd.at_int (Kd.R_reads' HO_9.out).2.2 x10_1 p381 q381
                 obtain rfl : ad372 = ad381 := (by injection e381)
                 replace p381 := eq_true p381
                 replace q381 := eq_true q381
                 refine zs (n := 31) (fun w' => w'.cell? ⟨gb368, 0, none⟩ = some (.int .i64 a0_0) ∧ w'.cell? ⟨gb368, 1, none⟩ = some (.slice A0_1 l0_1.length c0_1) ∧ w'.cell? (ad377.add (x13_2).toNat) = some (.int .i64 (rd t374 x13_2)) ∧ w'.cell? (ad377.add (x13_2).toNat) = some (.int .i64 (rd t374 x13_2)) ∧ w'.cell? (ad377.add (x13_2).toNat) = some (.int .i64 (rd t374 x13_2)) ∧ w'.cell? (ad372.add (x10_1).toNat) = some (.int .i64 (rd t369 x10_1))) ⟨(ah BK368.out 0).trans rfl, (ah BK368.out 1).trans rfl, hx377_0, hx378_0, hx380_0, hx381_0⟩ (fun hHeld => ?_); refine aX iS iT (fun HT_ HW_ => ?_)
                 generalize wr.drew = w31 at HO_9 HO_12 BK368 HB hx377_0 hx378_0 hx380_0 hx381_0 hHeld ⊢
                 refine zp HT_ 0 41 ?_
                 refine zp HT_ 1 42 ?_
                 refine zp HT_ 2 43 ?_
                 refine zp HT_ 3 44 ?_
                 refine zp HT_ 4 45 ?_
                 refine zp HT_ 6 47 ?_
                 refine zt HT_ HW_ 5 46 hHeld ?_ (hy := by rintro w' ⟨s0, s1, s2, s3, s4, s5⟩; go_simp; with_reducible rfl)
                 refine zp HT_ 7 48 ?_
                 refine zp HT_ 8 49 ?_
                 refine zp HT_ 9 50 ?_
                 refine zp HT_ 10 51 ?_
                 refine zp HT_ 11 52 ?_
                 refine zp HT_ 12 53 ?_
                 refine zt HT_ HW_ 13 54 hHeld ?_ (hy := by rintro w' ⟨s0, s1, s2, s3, s4, s5⟩; go_simp; with_reducible rfl)
                 refine zg HT_ 14 55 Tryz.func53 #[.slice A1 l1.length c1, .int .i64 (rd t374 x13_2)] (fun K hK => ?_)
                 with_reducible refine (dQ k2 _ _ l1 (rd t374 x13_2) true _ ?side1 ?side2 A25.out).mono ?_
                 (case side1 => exact zC (Kd.C_below HR1.out HB.out))
                 (case side2 => exact HC1.out)
                 rintro e w' ⟨rfl, ⟨nd, rfl⟩⟩
                 refine ⟨_, rfl, ?_⟩
                 refine hK.out _ _ ⟨(ah BK368.out 0).trans rfl, (ah BK368.out 1).trans rfl, hHeld.2.2.1, hHeld.2.2.2.1, hHeld.2.2.2.2.1, hHeld.2.2.2.2.2⟩ (fun hHeld => ?_)
                 clear hK K
                 refine zn 55 ?_
                 refine zp HT_ 15 56 ?_
                 refine zp HT_ 16 57 ?_
                 refine zp HT_ 18 59 ?_
                 refine zp HT_ 19 60 ?_
                 refine zp HT_ 20 61 ?_
                 refine zp HT_ 21 62 ?_
                 refine zp HT_ 23 64 ?_
                 refine zp HT_ 24 65 ?_
                 refine zp HT_ 25 66 ?_
                 refine zt HT_ HW_ 17 58 hHeld ?_ (hy := by rintro w' ⟨s0, s1, s2, s3, s4, s5⟩; go_simp; with_reducible rfl)
                 refine zt HT_ HW_ 22 63 hHeld ?_ (hy := by rintro w' ⟨s0, s1, s2, s3, s4, s5⟩; go_simp; with_reducible rfl)
                 refine zt HT_ HW_ 26 67 hHeld ?_ (hy := by rintro w' ⟨s0, s1, s2, s3, s4, s5⟩; go_simp; with_reducible rfl)
                 refine zg HT_ 27 68 Tryz.func44 #[.agg #[.int .i64 a0_0, .slice A0_1 l0_1.length c0_1], .slice A1 l1.length c1, .int .i64 (rd t374 x13_2), .int .i64 (rd t369 x10_1)] (fun K hK => ?_)
                 with_reducible refine (ih k2 (by have := HK1.out; have := HK2.out; omega) a0_0 _ _ l0_1 _ _ l1 (rd t374 x13_2) (rd t369 x10_1) t382 _ ?side1 ?side2 ?side3 ?side4 A29.out).mono ?_
                 (case side1 => exact zC (Kd.C_below HR0_1.out zB))
                 (case side2 => exact HC0_1.out)
                 (case side3 => exact zC (Kd.C_below HR1.out zB))
                 (case side4 => exact HC1.out)
                 rintro e w32 ⟨rfl, hb⟩
                 have HS2_ := (hb.cell (aj _ _ (hHeld.2.2.1))).trans (hHeld.2.2.1)
                 have HS3_ := (hb.cell (aj _ _ (hHeld.2.2.2.1))).trans (hHeld.2.2.2.1)
                 have HS4_ := (hb.cell (aj _ _ (hHeld.2.2.2.2.1))).trans (hHeld.2.2.2.2.1)
                 have HS5_ := (hb.cell (aj _ _ (hHeld.2.2.2.2.2))).trans (hHeld.2.2.2.2.2)
                 refine ⟨_, rfl, ?_⟩
                 replace HO_9 := zM (Kd.R_below (zR HO_9.out) hb)
                 replace HO_12 := zM (Kd.R_below (zR HO_12.out) hb)
                 replace BK368 := zJ BK368 hb
                 replace HB := zM (ag zB hb)
                 (try clear hb)
                 refine hK.out _ _ ⟨(ah BK368.out 0).trans rfl, (ah BK368.out 1).trans rfl, HS2_, HS3_, HS4_, HS5_⟩ (fun hHeld => ?_)
                 clear hK K
                 refine zn 68 ?_
                 refine zp HT_ 28 69 ?_
                 refine zp HT_ 29 70 ?_
                 refine zp HT_ 30 11 ?_
                 refine zo HT_ ?_
                 try go_wp2
                 go_roundg k2
                 case measure => have := HK1.out; have := HK2.out; omega
                 case rel => exact ⟨(t382), (wrap64 (x13_2 + 1)), (by first | rfl | (simp; done) | (simp [*]; done)), (by first | rfl | (simp; done) | (simp [*]; done)), H', ⟨by have := HK1.out; have := HK2.out; omega⟩, ⟨zR HO_9.out⟩, ⟨zR HO_12.out⟩, ⟨zK BK368.out⟩, ⟨zB⟩⟩
               · replace c26 := Bool.eq_false_iff.mpr c26
                 subst c26
                 rw [if_neg (show ¬ (false = true) by decide)] at H
                 have H' := Aside0.mk H
                 clear H
                 obtain ⟨Ao33, co33, eo33⟩ := Kd.R_slice HO_12.out
                 subst eo33
                 try go_wp2
                 replace HO_9 := zM (Kd.R_drew HO_9.out)
                 replace HO_12 := zM (Kd.R_drew HO_12.out)
                 replace BK368 := zM (aq BK368.out)
                 replace HB := zM (aD HB.out)
                 have p377 : 0 ≤ (x13_2 : Int) := ac zA
                 have q377 : x13_2 < (t374.length : Int) := ac zA
                 obtain ⟨ad377, e377, hx377_0⟩ := Kd.at_int (Kd.R_reads' HO_12.out).2.2 x13_2 p377 q377
                 cases e377
                 replace p377 := eq_true p377
                 replace q377 := eq_true q377
                 have p378 : 0 ≤ (x13_2 : Int) := ac zA
                 have q378 : x13_2 < (t374.length : Int) := ac zA
                 obtain ⟨ad378, e378, hx378_0⟩ := Kd.at_int (Kd.R_reads' HO_12.out).2.2 x13_2 p378 q378
                 obtain rfl : ad377 = ad378 := (by injection e378)
                 replace p378 := eq_true p378
                 replace q378 := eq_true q378
                 refine zs (n := 31) (fun w' => w'.cell? (ad377.add (x13_2).toNat) = some (.int .i64 (rd t374 x13_2)) ∧ w'.cell? (ad377.add (x13_2).toNat) = some (.int .i64 (rd t374 x13_2))) ⟨hx377_0, hx378_0⟩ (fun hHeld => ?_); refine aX iS iT (fun HT_ HW_ => ?_)
                 generalize wr.drew = w34 at HO_9 HO_12 BK368 HB hx377_0 hx378_0 hHeld ⊢
                 refine zp HT_ 0 41 ?_
                 refine zp HT_ 1 42 ?_
                 refine zp HT_ 2 43 ?_
                 refine zp HT_ 3 44 ?_
                 refine zp HT_ 4 45 ?_
                 refine zp HT_ 6 47 ?_
                 refine zt HT_ HW_ 5 46 hHeld ?_ (hy := by rintro w' ⟨s0, s1⟩; go_simp; with_reducible rfl)
                 refine zp HT_ 7 48 ?_
                 refine zp HT_ 8 49 ?_
                 refine zp HT_ 9 50 ?_
                 refine zp HT_ 10 51 ?_
                 refine zp HT_ 11 52 ?_
                 refine zp HT_ 12 53 ?_
                 refine zt HT_ HW_ 13 54 hHeld ?_ (hy := by rintro w' ⟨s0, s1⟩; go_simp; with_reducible rfl)
                 refine zg HT_ 14 55 Tryz.func53 #[.slice A1 l1.length c1, .int .i64 (rd t374 x13_2)] (fun K hK => ?_)
                 with_reducible refine (dQ k2 _ _ l1 (rd t374 x13_2) false _ ?side1 ?side2 A25.out).mono ?_
                 (case side1 => exact zC (Kd.C_below HR1.out HB.out))
                 (case side2 => exact HC1.out)
                 rintro e w' ⟨rfl, ⟨nd, rfl⟩⟩
                 refine ⟨_, rfl, ?_⟩
                 refine hK.out _ _ ⟨hHeld.1, hHeld.2⟩ (fun hHeld => ?_)
                 clear hK K
                 refine zn 55 ?_
                 refine zp HT_ 15 56 ?_
                 refine zp HT_ 16 57 ?_
                 refine zu HT_ 17 58 ?_
                 refine zu HT_ 18 59 ?_
                 refine zu HT_ 19 60 ?_
                 refine zu HT_ 20 61 ?_
                 refine zu HT_ 21 62 ?_
                 refine zu HT_ 22 63 ?_
                 refine zu HT_ 23 64 ?_
                 refine zu HT_ 24 65 ?_
                 refine zu HT_ 25 66 ?_
                 refine zu HT_ 26 67 ?_
                 refine zu HT_ 27 68 ?_
                 refine zp HT_ 28 69 ?_
                 refine zp HT_ 29 70 ?_
                 refine zp HT_ 30 11 ?_
                 refine zo HT_ ?_
                 try go_wp2
                 go_roundg k2
                 case measure => have := HK1.out; have := HK2.out; omega
                 case rel => exact ⟨(false), (wrap64 (x13_2 + 1)), (by first | rfl | (simp; done) | (simp [*]; done)), (by first | rfl | (simp; done) | (simp [*]; done)), H', ⟨by have := HK1.out; have := HK2.out; omega⟩, ⟨zR HO_9.out⟩, ⟨zR HO_12.out⟩, ⟨zK BK368.out⟩, ⟨zB⟩⟩
         · rw [if_neg c17] at H
           have c17b0 : decide (x13_2 < (t374.length : Int)) = false := ao c17
           clear c17
           by_cases c35 : x11_2 = true
           · subst c35
             rw [if_pos rfl] at H
             have H' := Aside0.mk H
             clear H
             obtain ⟨Ao36, co36, eo36⟩ := Kd.R_slice HO_12.out
             subst eo36
             go_wp2
             go_roundg k2
             case measure => have := HK1.out; have := HK2.out; omega
             case rel => exact ⟨(wrap64 (x10_1 + 1)), (by first | rfl | (simp; done) | (simp [*]; done)), H', ⟨by have := HK1.out; have := HK2.out; omega⟩, ⟨by (with_reducible repeat (first | apply Kd.R_alloc | apply Kd.R_drewN | apply Kd.R_drew)); exact Kd.R_mono HO_9.out (fun _ hk => trivial)⟩, ⟨zK BK368.out⟩, ⟨zB⟩⟩
           · replace c35 := Bool.eq_false_iff.mpr c35
             subst c35
             rw [if_neg (show ¬ (false = true) by decide)] at H
             obtain rfl := ap H
             obtain ⟨Ao37, co37, eo37⟩ := Kd.R_slice HO_12.out
             subst eo37
             go_wp2
             go_ret
             exact ⟨by first | rfl | (simp [al, ak] <;> rfl) | (simp [*, al, ak] <;> rfl), zB⟩
   · rw [if_neg c9] at H
     have c9b0 : decide (x10_1 < (t369.length : Int)) = false := ao c9
     clear c9
     obtain rfl := ap H
     obtain ⟨Ao38, co38, eo38⟩ := Kd.R_slice HO_9.out
     subst eo38
     go_wp2
     go_ret
     exact ⟨by first | rfl | (simp [al, ak] <;> rfl) | (simp [*, al, ak] <;> rfl), zB⟩
attribute [local go_sem] bl bh bi bd bj bf bk bg
set_option linter.unusedVariables false
set_option linter.unusedSimpArgs false
def dz : Nat → List Int → List Int → Int → Int → List (S63) → Option (List Int)
 | 0, _, _, _, _, _ => none
 | k + 1, x1, x5, x6, x384000, x384001 => if x6 < (x1.length : Int) then (if 0 ≤ x6 then ((dx k x384000 x384001 x1 (rd x1 x6) (-1)).bind fun t388 => (if t388 = true then (if x5.length < 17592186044416 then (dz k x1 (x5 ++ [rd x1 x6]) (wrap64 (x6 + 1)) x384000 x384001) else (none)) else (dz k x1 x5 (wrap64 (x6 + 1)) x384000 x384001))) else (none)) else (some x5)
def f7 (k : Nat) (a0_0 : Int) (l0_1 : List (S63)) (l1 : List Int) : Option (List Int) := dz k l1 (([] : List Int)) 0 a0_0 l0_1
theorem iU (k : Nat) (a0_0 : Int) (A0_1 : Option Addr) (c0_1 : Nat) (l0_1 : List (S63)) (A1 : Option Addr) (c1 : Nat) (l1 : List Int) (r : List Int) (w : World) (hr0_1 : Kd.C k63 w A0_1 l0_1.length l0_1) (hc0_1 : l0_1.length ≤ c0_1) (hr1 : Kd.C (Kd.int .i64) w A1 l1.length l1) (hc1 : l1.length ≤ c1) (h : f7 k a0_0 l0_1 l1 = some r) :
 Calls Tryz.prog 20 #[.agg #[.int .i64 a0_0, .slice A0_1 l0_1.length c0_1], .slice A1 l1.length c1] w fun e w' => ∃ v0_ : Value, e = .returned (v0_) ∧ Kd.R (Kd.int .i64) 3 w' w.heap.size (fun _ => True) v0_ r ∧ Below w.heap.size w w' := by
 have hu29 := Tryz.underlying29
 have HR0_1 := Aside0.mk hr0_1
 have HC0_1 := Aside0.mk hc0_1
 clear hr0_1 hc0_1
 have HR1 := Aside0.mk hr1
 have HC1 := Aside0.mk hc1
 clear hr1 hc1
 have HB := zM (Below.refl w.heap.size w)
 have H := h
 unfold f7 at H
 clear h
 obtain ⟨y384, hy384⟩ : ∃ y_ : List Int, y_ = (([] : List Int)) := ⟨_, rfl⟩
 replace H : (dz k l1 y384 0 a0_0 l0_1) = some r := by first | (rw [hy384]; with_reducible exact H) | (have H2_ := (Option.bind_some _ _).symm.trans H; rw [hy384]; with_reducible exact H2_) | (have H2_ := (Option.bind_some _ _).symm.trans H; with_reducible exact H2_) | with_reducible exact H | (rw [hy384]; exact H) | exact H
 have Ny384 := Aside0.mk hy384
 clear hy384
 have H' := Aside0.mk H
 clear H
 go_enter Tryz.func20, Tryz.ntmps20
 go_wp2_with (first | ((with_reducible refine au (N := 2) rfl ?_); refine zb (w := w) 2 #[.int .i64 a0_0, .slice A0_1 l0_1.length c0_1] 29 zB ?_; clear HB; intro gb383 w3 HB BK383 GW383; have GE383 := GW383) | ((with_reducible refine au (N := 7) rfl ?_); refine Kd.R_lit (Kd.int .i64) _ 3 ?hg (N := 7) ?hd (xs := ([] : List Int)) (inner := []) (ok := fun _ => True) (okp := fun _ => True) ?hr ?hp (fun _ hk => hk) trivial (Below.refl _ _) (ar _) (by simp) ?_; (case hd => rfl); (case hg => rfl); (case hr => first | (go_simp; done) | (go_simp; rfl)); (case hp => exact (Reps.none _ _)); intro v385 w4 ho5 hb hg_ hnew_; clear hg_ hnew_; (first | rw [← Ny384.out] at ho5 | (simp only [Int.reduceToNat] at ho5; rw [← Ny384.out] at ho5)); have HO386 := zM (Kd.R_lower ho5 (am zB)); replace BK383 := zJ BK383 hb; replace HB := zM (ag zB hb); clear hb ho5))
 go_loopg [5, 6] k (fun kq v5 v6 w' => ∃ (x5_1 : List Int) (x6_1 : Int), v6 = .int .i64 x6_1 ∧ Aside0 (dz kq l1 x5_1 x6_1 a0_0 l0_1 = some r) ∧ Aside0 (kq ≤ k) ∧ Aside0 (Kd.R (Kd.int .i64) 3 w' w.heap.size (fun _ => True) v5 x5_1) ∧ Aside0 (w'.heap[gb383]? = some (.cells #[.int .i64 a0_0, (.slice A0_1 l0_1.length c0_1)] 29 (0, 0))) ∧ Aside0 (Below w.heap.size w w'))
 case atStart => exact ⟨(y384), (0), (by first | rfl | (simp; done) | (simp [*]; done)), H', ⟨ar _⟩, ⟨zR HO386.out⟩, ⟨zK BK383.out⟩, ⟨zB⟩⟩
 case round =>
  clear H'
  try clear c1
  try clear c2
  try clear p2
  obtain ⟨x5_1, x6_1, rfl, HA, HK1, HO_5, BK383, HB⟩ := hrel
  cases gk with
  | zero => exact absurd HA.out (by simp [dz])
  | succ k1 =>
   have H := HA.out
   clear HA
   simp only [dz] at H
   by_cases c6 : x6_1 < (l1.length : Int)
   · rw [if_pos c6] at H
     have c6b0 := af c6
     clear c6
     by_cases c7 : 0 ≤ x6_1
     case neg => rw [if_neg c7] at H; simp at H
     rw [if_pos c7] at H
     have c7b0 := af c7
     clear c7
     replace H := av H
     obtain ⟨t388, A80, H⟩ := H
     have A8 := Aside0.mk A80
     clear A80
     by_cases c9 : t388 = true
     · subst c9
       rw [if_pos rfl] at H
       by_cases c10 : x5_1.length < 17592186044416
       case neg => rw [if_neg c10] at H; simp at H
       rw [if_pos c10] at H
       have LMc10 := Aside0.mk c10
       clear c10
       obtain ⟨y390, hy390⟩ : ∃ y_ : List Int, y_ = (x5_1 ++ [rd l1 x6_1]) := ⟨_, rfl⟩
       replace H : (dz k1 l1 y390 (wrap64 (x6_1 + 1)) a0_0 l0_1) = some r := by first | (rw [hy390]; with_reducible exact H) | (have H2_ := (Option.bind_some _ _).symm.trans H; rw [hy390]; with_reducible exact H2_) | (have H2_ := (Option.bind_some _ _).symm.trans H; with_reducible exact H2_) | with_reducible exact H | (rw [hy390]; exact H) | exact H
       have Ny390 := Aside0.mk hy390
       clear hy390
       have H' := Aside0.mk H
       clear H
       try go_wp2
       replace HO_5 := zM (Kd.R_drew HO_5.out)
       replace BK383 := zM (aq BK383.out)
       replace HB := zM (aD HB.out)
       have p387 : 0 ≤ (x6_1 : Int) := ac zA
       have q387 : x6_1 < (l1.length : Int) := ac zA
       obtain ⟨ad387, e387, hx387_0⟩ := Kd.at_int HR1.out x6_1 p387 q387
       have hw387_0 := hx387_0
       cases e387
       (try replace hx387_0 := (HB.out.cell (aj w _ hx387_0)).trans hx387_0)
       replace p387 := eq_true p387
       replace q387 := eq_true q387
       refine zs (n := 7) (fun w' => w'.cell? ⟨gb383, 0, none⟩ = some (.int .i64 a0_0) ∧ w'.cell? ⟨gb383, 1, none⟩ = some (.slice A0_1 l0_1.length c0_1) ∧ w'.cell? (ad387.add (x6_1).toNat) = some (.int .i64 (rd l1 x6_1))) ⟨(ah BK383.out 0).trans rfl, (ah BK383.out 1).trans rfl, ((HB.out.cell (aj w _ hw387_0)).trans hw387_0)⟩ (fun hHeld => ?_)
       generalize wr.drew = w11 at HO_5 BK383 HB hx387_0 hHeld ⊢
       refine zq 1 15 ?_
       refine zq 2 16 ?_
       refine zq 3 17 ?_
       refine zq 4 18 ?_
       refine zl 0 14 hHeld ?_ (hy := by rintro w' ⟨s0, s1, s2⟩; go_simp; with_reducible rfl)
       refine zl 5 19 hHeld ?_ (hy := by rintro w' ⟨s0, s1, s2⟩; go_simp; with_reducible rfl)
       refine zh 6 20 Tryz.func44 #[.agg #[.int .i64 a0_0, .slice A0_1 l0_1.length c0_1], .slice (some ad387) l1.length c1, .int .i64 (rd l1 x6_1), .int .i64 (-1)] (fun K hK => ?_)
       with_reducible refine (lf k1 a0_0 _ _ l0_1 _ _ l1 (rd l1 x6_1) (-1) true _ ?side1 ?side2 ?side3 ?side4 A8.out).mono ?_
       (case side1 => exact zC (Kd.C_below HR0_1.out HB.out))
       (case side2 => exact HC0_1.out)
       (case side3 => exact zC (Kd.C_below HR1.out HB.out))
       (case side4 => exact HC1.out)
       rintro e w12 ⟨rfl, hb⟩
       refine ⟨_, rfl, ?_⟩
       replace HO_5 := zM (Kd.R_below (zR HO_5.out) hb)
       replace BK383 := zJ BK383 hb
       replace HB := zM (ag zB hb)
       (try clear hb)
       refine hK.out _ _ ⟨(ah BK383.out 0).trans rfl, (ah BK383.out 1).trans rfl, ((HB.out.cell (aj w _ hw387_0)).trans hw387_0)⟩ (fun hHeld => ?_)
       clear hK K
       refine zn 20 ?_
       refine zx ?_
       have p389 : 0 ≤ (x6_1 : Int) := ac zA
       have q389 : x6_1 < (l1.length : Int) := ac zA
       obtain ⟨ad389, e389, hx389_0⟩ := Kd.at_int HR1.out x6_1 p389 q389
       obtain rfl : ad387 = ad389 := (by injection e389)
       (try replace hx389_0 := (HB.out.cell (aj w _ hx389_0)).trans hx389_0)
       replace p389 := eq_true p389
       replace q389 := eq_true q389
       try go_wp2_with (first | ((with_reducible refine cJ (b := .append) (xs := #[.tmp 21, .tmp 26]) rfl ?_); at_builtin; refine Kd.R_append (Kd.int .i64) (w0 := w) w.heap.size rfl (.tmp 21) (.tmp 26) 25 3 (.int .i64 0) 8 rfl Tryz.underlying25 bv rfl (by decide) (by omega) u5 x5_1 (rd l1 x6_1) [.int .i64 (rd l1 x6_1)] (fun _ => True) (fun _ => False) rfl rfl ?aP (fun _ hk => hk.elim) ?aF ?aO ?aB ?aS ?aL ?_; (case aP => exact rfl); (case aB => exact zB); (case aF => exact (fun _ _ => trivial)); (case aO => exact (zR HO_5.out)); (case aS => exact (am zB)); (case aL => have := LMc10.out; omega); intro v391 w13 ho hb hg hat; rw [← Ny390.out] at ho; replace BK383 := zM (cU (g := gb383) (o := .cells #[.int .i64 a0_0, .slice A0_1 l0_1.length c0_1] 29 (0, 0)) (zK BK383.out) hg (Kd.R_ne HO_5.out BK383.out (by decide))); replace HB := zM (hb); have HO392 := zM (ho); clear HO_5; clear ho hb hg hat))
       go_roundg k1
       case measure => have := HK1.out; omega
       case rel => exact ⟨(y390), (wrap64 (x6_1 + 1)), (by first | rfl | (simp; done) | (simp [*]; done)), H', ⟨by have := HK1.out; omega⟩, ⟨zR HO392.out⟩, ⟨zK BK383.out⟩, ⟨zB⟩⟩
     · replace c9 := Bool.eq_false_iff.mpr c9
       subst c9
       rw [if_neg (show ¬ (false = true) by decide)] at H
       have H' := Aside0.mk H
       clear H
       try go_wp2
       replace HO_5 := zM (Kd.R_drew HO_5.out)
       replace BK383 := zM (aq BK383.out)
       replace HB := zM (aD HB.out)
       have p387 : 0 ≤ (x6_1 : Int) := ac zA
       have q387 : x6_1 < (l1.length : Int) := ac zA
       obtain ⟨ad387, e387, hx387_0⟩ := Kd.at_int HR1.out x6_1 p387 q387
       have hw387_0 := hx387_0
       cases e387
       (try replace hx387_0 := (HB.out.cell (aj w _ hx387_0)).trans hx387_0)
       replace p387 := eq_true p387
       replace q387 := eq_true q387
       refine zs (n := 7) (fun w' => w'.cell? ⟨gb383, 0, none⟩ = some (.int .i64 a0_0) ∧ w'.cell? ⟨gb383, 1, none⟩ = some (.slice A0_1 l0_1.length c0_1) ∧ w'.cell? (ad387.add (x6_1).toNat) = some (.int .i64 (rd l1 x6_1))) ⟨(ah BK383.out 0).trans rfl, (ah BK383.out 1).trans rfl, ((HB.out.cell (aj w _ hw387_0)).trans hw387_0)⟩ (fun hHeld => ?_)
       generalize wr.drew = w14 at HO_5 BK383 HB hx387_0 hHeld ⊢
       refine zq 1 15 ?_
       refine zq 2 16 ?_
       refine zq 3 17 ?_
       refine zq 4 18 ?_
       refine zl 0 14 hHeld ?_ (hy := by rintro w' ⟨s0, s1, s2⟩; go_simp; with_reducible rfl)
       refine zl 5 19 hHeld ?_ (hy := by rintro w' ⟨s0, s1, s2⟩; go_simp; with_reducible rfl)
       refine zh 6 20 Tryz.func44 #[.agg #[.int .i64 a0_0, .slice A0_1 l0_1.length c0_1], .slice (some ad387) l1.length c1, .int .i64 (rd l1 x6_1), .int .i64 (-1)] (fun K hK => ?_)
       with_reducible refine (lf k1 a0_0 _ _ l0_1 _ _ l1 (rd l1 x6_1) (-1) false _ ?side1 ?side2 ?side3 ?side4 A8.out).mono ?_
       (case side1 => exact zC (Kd.C_below HR0_1.out HB.out))
       (case side2 => exact HC0_1.out)
       (case side3 => exact zC (Kd.C_below HR1.out HB.out))
       (case side4 => exact HC1.out)
       rintro e w15 ⟨rfl, hb⟩
       refine ⟨_, rfl, ?_⟩
       replace HO_5 := zM (Kd.R_below (zR HO_5.out) hb)
       replace BK383 := zJ BK383 hb
       replace HB := zM (ag zB hb)
       (try clear hb)
       refine hK.out _ _ ⟨(ah BK383.out 0).trans rfl, (ah BK383.out 1).trans rfl, ((HB.out.cell (aj w _ hw387_0)).trans hw387_0)⟩ (fun hHeld => ?_)
       clear hK K
       refine zn 20 ?_
       refine zx ?_
       try go_wp2
       go_roundg k1
       case measure => have := HK1.out; omega
       case rel => exact ⟨(x5_1), (wrap64 (x6_1 + 1)), (by first | rfl | (simp; done) | (simp [*]; done)), H', ⟨by have := HK1.out; omega⟩, ⟨zR HO_5.out⟩, ⟨zK BK383.out⟩, ⟨zB⟩⟩
   · rw [if_neg c6] at H
     have c6b0 : decide (x6_1 < (l1.length : Int)) = false := ao c6
     clear c6
     obtain rfl := ap H
     go_wp2
     go_ret
     exact ⟨_, by first | rfl | (simp [al, ak] <;> rfl) | (simp [*, al, ak] <;> rfl), by (with_reducible repeat (first | apply Kd.R_alloc | apply Kd.R_drewN | apply Kd.R_drew)); exact HO_5.out, zB⟩
end Go.Proofs.YtjgcehldepfaaaaGreat.P
