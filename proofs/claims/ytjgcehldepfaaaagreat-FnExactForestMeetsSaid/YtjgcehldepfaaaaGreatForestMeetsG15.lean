import Derived.Test.YtjgcehldepfaaaaGreatForestMeetsG14
namespace Go.Proofs.YtjgcehldepfaaaaGreat.P
open Go.RowKit YtjgcehldepfaaaaGreatW.PrintWords YtjgcehldepfaaaaGreatW.PrintLast YtjgcehldepfaaaaGreatW.PrintMore
attribute [local go_sem] bl bh bi bd bj bf bk bg
set_option maxRecDepth 100000
set_option maxHeartbeats 8000000
set_option linter.unusedVariables false
set_option linter.unusedSimpArgs false
mutual
def dD : Nat → List Int → List Int → Bool → Int → List (S63) → Option (Bool × Bool)
 | 0, _, _, _, _, _ => none
 | k + 1, x1, x2, x27, x555000, x555001 => if x27 = true then (some (false, false)) else ((f7 k x555000 x555001 x1).bind fun t557 => ((f7 k x555000 x555001 x2).bind fun t560 => ((hZ k t557 t560).bind fun t563 => (if t563 = true then ((g9 k x555000 x555001 t557).bind fun t564 => ((fD k x555000 x555001 t564).bind fun t567 => (fb k x1 x2 t567 0))) else (some (false, true))))))
def fb : Nat → List Int → List Int → List (List Int) → Int → Option (Bool × Bool)
 | 0, _, _, _, _ => none
 | k + 1, x1, x2, x9, x10 => if x10 < (x9.length : Int) then (if 0 ≤ x10 then ((fA k (ai x9 x10) x1).bind fun t571 => ((fA k (ai x9 x10) x2).bind fun t575 => (if (t571.length : Int) = (t575.length : Int) then (fb k x1 x2 x9 (wrap64 (x10 + 1))) else (some (false, true))))) else (none)) else (some (true, true))
end
def ey (k : Nat) (a0_0 : Int) (l0_1 : List (S63)) (l1 : List Int) (l2 : List Int) : Option (Bool × Bool) := (hG k a0_0 l0_1 l1 l2).bind fun t555 => (if t555 = true then ((hF k a0_0 l0_1).bind fun t556 => (if t556 = true then (dD k l1 l2 ((l1.length : Int) != (l2.length : Int)) a0_0 l0_1) else (dD k l1 l2 true a0_0 l0_1))) else (dD k l1 l2 true a0_0 l0_1))
def spec_ForestMeets.T10 : Bool × List (List Nat × List Nat) := (true, [([], []), ([], []), ([0, 1], [0, 1]), ([2], [2]), ([], []), ([3, 4], [3, 4]), ([5], [5]), ([], []), ([], []), ([7, 8], [7, 8]), ([9], [9]), ([], []), ([10, 11, 5], [10, 11]), ([12], [12]), ([6, 13], [6, 13])])
def o7 : List Nat := [0, 0, 3, 7, 0, 31, 63, 0, 0, 384, 896, 0, 4031, 8127, 16383]
theorem lC : aQ .any (ct Tryz.f15 10) = spec_ForestMeets.T10 := by kernel_rfl
theorem lD : bK spec_ForestMeets.T10.2 o7 = true := by kernel_rfl
theorem o6 (k : Nat) (a0_0 : Int) (A0_1 : Option Addr) (c0_1 : Nat) (l0_1 : List (S63)) (A1 : Option Addr) (c1 : Nat) (l1 : List Int) (A2 : Option Addr) (c2 : Nat) (l2 : List Int) (r1 : Bool) (r2 : Bool) (w : World) (hr0_1 : Kd.C k63 w A0_1 l0_1.length l0_1) (hc0_1 : l0_1.length ≤ c0_1) (hr1 : Kd.C (Kd.int .i64) w A1 l1.length l1) (hc1 : l1.length ≤ c1) (hr2 : Kd.C (Kd.int .i64) w A2 l2.length l2) (hc2 : l2.length ≤ c2) (h : ey k a0_0 l0_1 l1 l2 = some (r1, r2)) :
 Calls Tryz.prog 15 #[.agg #[.int .i64 a0_0, .slice A0_1 l0_1.length c0_1], .slice A1 l1.length c1, .slice A2 l2.length c2] w fun e w' => e = .returned (.tuple #[.bool r1, .bool r2]) ∧ Below w.heap.size w w' := by
 have hu29 := Tryz.underlying29
 have HR0_1 := Aside0.mk hr0_1
 have HC0_1 := Aside0.mk hc0_1
 clear hr0_1 hc0_1
 have HR1 := Aside0.mk hr1
 have HC1 := Aside0.mk hc1
 clear hr1 hc1
 have HR2 := Aside0.mk hr2
 have HC2 := Aside0.mk hc2
 clear hr2 hc2
 have HB := zM (Below.refl w.heap.size w)
 have H := h
 unfold ey at H
 clear h
 have HC4 := Aside0.mk H
 clear H
 go_enter Tryz.func15, Tryz.ntmps15
 go_upto_region 1 with (first | ((with_reducible refine au (N := 3) rfl ?_); (try (refine jx (by rfl) ?_; dsimp only)); refine zb (w := w) 3 #[.int .i64 a0_0, .slice A0_1 l0_1.length c0_1] 29 zB ?_; clear HB; intro gb554 w5 HB BK554 GW554; have GE554 := GW554))
 (try simp only [Act.put, List.setIfInBounds_toArray, List.set_cons_zero, List.set_cons_succ])
 go_cut [27] (fun v27 wc => ∃ (kq : Nat) (x27_3 : Bool), v27 = .bool x27_3 ∧ Aside0 (dD kq l1 l2 x27_3 a0_0 l0_1 = some (r1, r2)) ∧ Aside0 (kq ≤ k) ∧ Aside0 (wc.heap[gb554]? = some (.cells #[.int .i64 a0_0, (.slice A0_1 l0_1.length c0_1)] 29 (0, 0))) ∧ Aside0 (Below w.heap.size w wc))
 case first =>
  have H := HC4.out
  clear HC4
  replace H := av H
  obtain ⟨t555, A60, H⟩ := H
  try dsimp only at H
  have A6 := Aside0.mk A60
  clear A60
  by_cases c7 : t555 = true
  · subst c7
    rw [if_pos rfl] at H
    replace H := av H
    obtain ⟨t556, A80, H⟩ := H
    try dsimp only at H
    have A8 := Aside0.mk A80
    clear A80
    by_cases c9 : t556 = true
    · subst c9
      rw [if_pos rfl] at H
      have H' := Aside0.mk H
      clear H
      have hcz10_0 := zy BK554 0
      have hcz10_1 := zy BK554 1
      have hfz10_0 := ae BK554.out 0
      have hfz10_1 := ae BK554.out 1
      go_wp2_with (first | ((with_reducible refine ax (f := 27) rfl ?_); refine zc 14 Tryz.func27 #[.agg #[.int .i64 a0_0, .slice A0_1 l0_1.length c0_1], .slice A1 l1.length c1, .slice A2 l2.length c2] ?_; (with_reducible refine (jQ k a0_0 _ _ l0_1 _ _ l1 _ _ l2 true _ ?side1 ?side2 ?side3 ?side4 ?side5 ?side6 A6.out).mono ?_); (case side1 => exact zC (Kd.C_below HR0_1.out HB.out)); (case side2 => exact HC0_1.out); (case side3 => exact zC (Kd.C_below HR1.out HB.out)); (case side4 => exact HC1.out); (case side5 => exact zC (Kd.C_below HR2.out HB.out)); (case side6 => exact HC2.out); rintro e w11 ⟨rfl, hb⟩; refine ⟨_, rfl, ?_⟩; replace BK554 := zJ BK554 hb; replace HB := zM (ag zB hb); (try clear hb); have hcz12_0 := zy BK554 0; have hcz12_1 := zy BK554 1; have hfz12_0 := ae BK554.out 0; have hfz12_1 := ae BK554.out 1) | (go_at_call 19; (with_reducible refine (lp k a0_0 _ _ l0_1 true _ ?side1 ?side2 A8.out).mono ?_); (case side1 => exact zC (Kd.C_below HR0_1.out HB.out)); (case side2 => exact HC0_1.out); rintro e w13 ⟨rfl, hb⟩; replace BK554 := zJ BK554 hb; replace HB := zM (ag zB hb); (try clear hb); (try clear hi)))
      go_meet
      case rel => exact ⟨_, (((l1.length : Int) != (l2.length : Int))), (by first | rfl | (simp; done) | (simp [*]; done)), H', ⟨by first | omega | exact ar _⟩, ⟨zK BK554.out⟩, ⟨zB⟩⟩
    · replace c9 := Bool.eq_false_iff.mpr c9
      subst c9
      rw [if_neg (show ¬ (false = true) by decide)] at H
      have H' := Aside0.mk H
      clear H
      have hcz14_0 := zy BK554 0
      have hcz14_1 := zy BK554 1
      have hfz14_0 := ae BK554.out 0
      have hfz14_1 := ae BK554.out 1
      go_wp2_with (first | ((with_reducible refine ax (f := 27) rfl ?_); refine zc 14 Tryz.func27 #[.agg #[.int .i64 a0_0, .slice A0_1 l0_1.length c0_1], .slice A1 l1.length c1, .slice A2 l2.length c2] ?_; (with_reducible refine (jQ k a0_0 _ _ l0_1 _ _ l1 _ _ l2 true _ ?side1 ?side2 ?side3 ?side4 ?side5 ?side6 A6.out).mono ?_); (case side1 => exact zC (Kd.C_below HR0_1.out HB.out)); (case side2 => exact HC0_1.out); (case side3 => exact zC (Kd.C_below HR1.out HB.out)); (case side4 => exact HC1.out); (case side5 => exact zC (Kd.C_below HR2.out HB.out)); (case side6 => exact HC2.out); rintro e w15 ⟨rfl, hb⟩; refine ⟨_, rfl, ?_⟩; replace BK554 := zJ BK554 hb; replace HB := zM (ag zB hb); (try clear hb); have hcz16_0 := zy BK554 0; have hcz16_1 := zy BK554 1; have hfz16_0 := ae BK554.out 0; have hfz16_1 := ae BK554.out 1) | (go_at_call 19; (with_reducible refine (lp k a0_0 _ _ l0_1 false _ ?side1 ?side2 A8.out).mono ?_); (case side1 => exact zC (Kd.C_below HR0_1.out HB.out)); (case side2 => exact HC0_1.out); rintro e w17 ⟨rfl, hb⟩; replace BK554 := zJ BK554 hb; replace HB := zM (ag zB hb); (try clear hb); (try clear hi)))
      go_meet
      case rel => exact ⟨_, (true), (by first | rfl | (simp; done) | (simp [*]; done)), H', ⟨by first | omega | exact ar _⟩, ⟨zK BK554.out⟩, ⟨zB⟩⟩
  · replace c7 := Bool.eq_false_iff.mpr c7
    subst c7
    rw [if_neg (show ¬ (false = true) by decide)] at H
    have H' := Aside0.mk H
    clear H
    have hcz18_0 := zy BK554 0
    have hcz18_1 := zy BK554 1
    have hfz18_0 := ae BK554.out 0
    have hfz18_1 := ae BK554.out 1
    go_wp2_with (first | ((with_reducible refine ax (f := 27) rfl ?_); refine zc 14 Tryz.func27 #[.agg #[.int .i64 a0_0, .slice A0_1 l0_1.length c0_1], .slice A1 l1.length c1, .slice A2 l2.length c2] ?_; (with_reducible refine (jQ k a0_0 _ _ l0_1 _ _ l1 _ _ l2 false _ ?side1 ?side2 ?side3 ?side4 ?side5 ?side6 A6.out).mono ?_); (case side1 => exact zC (Kd.C_below HR0_1.out HB.out)); (case side2 => exact HC0_1.out); (case side3 => exact zC (Kd.C_below HR1.out HB.out)); (case side4 => exact HC1.out); (case side5 => exact zC (Kd.C_below HR2.out HB.out)); (case side6 => exact HC2.out); rintro e w19 ⟨rfl, hb⟩; refine ⟨_, rfl, ?_⟩; replace BK554 := zJ BK554 hb; replace HB := zM (ag zB hb); (try clear hb); (try clear hi)))
    go_meet
    case rel => exact ⟨_, (true), (by first | rfl | (simp; done) | (simp [*]; done)), H', ⟨by first | omega | exact ar _⟩, ⟨zK BK554.out⟩, ⟨zB⟩⟩
 case rest =>
  clear HC4
  try clear c1
  try clear c2
  try clear p2
  try clear c7
  try clear c9
  try clear c15
  try clear hcz10_0
  try clear hcz10_1
  try clear hcz12_0
  try clear hcz12_1
  try clear hcz14_0
  try clear hcz14_1
  try clear hcz16_0
  try clear hcz16_1
  try clear hcz18_0
  try clear hcz18_1
  try clear hfz10_0
  try clear hfz10_1
  try clear hfz12_0
  try clear hfz12_1
  try clear hfz14_0
  try clear hfz14_1
  try clear hfz16_0
  try clear hfz16_1
  try clear hfz18_0
  try clear hfz18_1
  obtain ⟨kq, x27_3, rfl, HA, HJ3, BK554, HB⟩ := hcut
  cases kq with
  | zero => exact absurd HA.out (by simp [dD])
  | succ kj3 =>
   have H := HA.out
   clear HA
   simp only [dD] at H
   by_cases c20 : x27_3 = true
   · subst c20
     rw [if_pos rfl] at H
     simp only [Option.some.injEq, Prod.mk.injEq] at H
     obtain ⟨rfl, rfl⟩ := H
     go_wp2
     go_ret2
     exact ⟨by first | rfl | (simp [al, ak] <;> rfl) | (simp [*, al, ak] <;> rfl), zB⟩
   · replace c20 := Bool.eq_false_iff.mpr c20
     subst c20
     rw [if_neg (show ¬ (false = true) by decide)] at H
     replace H := av H
     obtain ⟨t557, A210, H⟩ := H
     try dsimp only at H
     have A21 := Aside0.mk A210
     clear A210
     replace H := av H
     obtain ⟨t560, A220, H⟩ := H
     try dsimp only at H
     have A22 := Aside0.mk A220
     clear A220
     replace H := av H
     obtain ⟨t563, A230, H⟩ := H
     try dsimp only at H
     have A23 := Aside0.mk A230
     clear A230
     by_cases c24 : t563 = true
     · subst c24
       rw [if_pos rfl] at H
       replace H := av H
       obtain ⟨t564, A250, H⟩ := H
       try dsimp only at H
       have A25 := Aside0.mk A250
       clear A250
       replace H := av H
       obtain ⟨t567, A260, H⟩ := H
       try dsimp only at H
       have A26 := Aside0.mk A260
       clear A260
       have H' := Aside0.mk H
       clear H
       have hcz27_0 := zy BK554 0
       have hcz27_1 := zy BK554 1
       have hfz27_0 := ae BK554.out 0
       have hfz27_1 := ae BK554.out 1
       try go_wp2_with (first | ((with_reducible refine ax (f := 20) rfl ?_); refine zc 30 Tryz.func20 #[.agg #[.int .i64 a0_0, .slice A0_1 l0_1.length c0_1], .slice A1 l1.length c1] ?_; (with_reducible refine (iU kj3 a0_0 _ _ l0_1 _ _ l1 t557 _ ?side1 ?side2 ?side3 ?side4 A21.out).mono ?_); (case side1 => exact zC (Kd.C_below HR0_1.out HB.out)); (case side2 => exact HC0_1.out); (case side3 => exact zC (Kd.C_below HR1.out HB.out)); (case side4 => exact HC1.out); rintro e w28 ⟨v558, rfl, ho0, hb⟩; refine ⟨_, rfl, ?_⟩; have HO559 := zM (Kd.R_lower ho0 (am zB)); replace BK554 := zJ BK554 hb; replace HB := zM (ag zB hb); (try clear hb); (try clear ho0); have hcz29_0 := zy BK554 0; have hcz29_1 := zy BK554 1; have hfz29_0 := ae BK554.out 0; have hfz29_1 := ae BK554.out 1) | ((with_reducible refine ax (f := 20) rfl ?_); refine zc 34 Tryz.func20 #[.agg #[.int .i64 a0_0, .slice A0_1 l0_1.length c0_1], .slice A2 l2.length c2] ?_; (with_reducible refine (iU kj3 a0_0 _ _ l0_1 _ _ l2 t560 _ ?side1 ?side2 ?side3 ?side4 A22.out).mono ?_); (case side1 => exact zC (Kd.C_below HR0_1.out HB.out)); (case side2 => exact HC0_1.out); (case side3 => exact zC (Kd.C_below HR2.out HB.out)); (case side4 => exact HC2.out); rintro e w30 ⟨v561, rfl, ho0, hb⟩; refine ⟨_, rfl, ?_⟩; have HO562 := zM (Kd.R_lower (Kd.R_new' ho0 (Kd.R_lt (zR HO559.out))) (am zB)); replace HO559 := zM (Kd.R_elder' (zR HO559.out) (Kd.R_base ho0) hb); replace BK554 := zJ BK554 hb; replace HB := zM (ag zB hb); (try clear hb); (try clear ho0); obtain ⟨Ao31, co31, eo31⟩ := Kd.R_slice HO559.out; subst eo31; obtain ⟨Ao32, co32, eo32⟩ := Kd.R_slice HO562.out; subst eo32) | ((with_reducible refine ax (f := 28) rfl ?_); refine zc 35 Tryz.func28 #[.slice Ao31 t557.length co31, .slice Ao32 t560.length co32] ?_; (with_reducible refine (ly kj3 _ _ t557 _ _ t560 true _ ?side1 ?side2 ?side3 ?side4 A23.out).mono ?_); (case side1 => exact zC (Kd.R_reads' HO559.out).2.2); (case side2 => exact (Kd.R_reads' HO559.out).2.1); (case side3 => exact zC (Kd.R_reads' HO562.out).2.2); (case side4 => exact (Kd.R_reads' HO562.out).2.1); rintro e w' ⟨rfl, ⟨nd, rfl⟩⟩; refine ⟨_, rfl, ?_⟩))
       (try (rw [iG w30]; generalize hq_ : World.drewN w30 _ = w30; have n0_ : Aside0 (Kd.R (Kd.int .i64) 3 w30 w.heap.size (fun k_ => some k_ ≠ (.slice Ao32 t560.length co32 : Value).ownBlock) (.slice Ao31 t557.length co31) t557) := ⟨by rw [← hq_]; exact (by (with_reducible repeat (first | apply Kd.R_alloc | apply Kd.R_drewN | apply Kd.R_drew)); exact Kd.R_mono HO559.out (fun _ hk => hk.2))⟩; have n1_ : Aside0 (Kd.R (Kd.int .i64) 3 w30 w.heap.size (fun k_ => some k_ ≠ (.slice Ao31 t557.length co31 : Value).ownBlock) (.slice Ao32 t560.length co32) t560) := ⟨by rw [← hq_]; exact (by (with_reducible repeat (first | apply Kd.R_alloc | apply Kd.R_drewN | apply Kd.R_drew)); exact Kd.R_mono HO562.out (fun _ hk => hk.2))⟩; have n2_ : Aside0 (w30.heap[gb554]? = some (.cells #[.int .i64 a0_0, .slice A0_1 l0_1.length c0_1] 29 (0, 0))) := ⟨by rw [← hq_]; exact (zK BK554.out)⟩; have n3_ : Aside0 (Below w.heap.size w w30) := ⟨by rw [← hq_]; exact zB⟩; clear HO559 HO562 BK554 HB hq_; have HO559 := n0_; have HO562 := n1_; have BK554 := n2_; have HB := n3_; clear n0_ n1_ n2_ n3_))
       replace HO559 := zM (Kd.R_drew HO559.out)
       replace HO562 := zM (Kd.R_drew HO562.out)
       replace BK554 := zM (aq BK554.out)
       replace HB := zM (aD HB.out)
       refine zs (n := 6) (fun w' => w'.cell? ⟨gb554, 0, none⟩ = some (.int .i64 a0_0) ∧ w'.cell? ⟨gb554, 1, none⟩ = some (.slice A0_1 l0_1.length c0_1)) ⟨(ah BK554.out 0).trans rfl, (ah BK554.out 1).trans rfl⟩ (fun hHeld => ?_)
       generalize w30.drew = w33 at HO559 HO562 BK554 HB hHeld ⊢
       refine zq 2 39 ?_
       refine zl 0 37 hHeld ?_ (hy := by rintro w' ⟨s0, s1⟩; go_simp; with_reducible rfl)
       refine zl 1 38 hHeld ?_ (hy := by rintro w' ⟨s0, s1⟩; go_simp; with_reducible rfl)
       refine zh 3 40 Tryz.func30 #[.agg #[.int .i64 a0_0, .slice A0_1 l0_1.length c0_1], .slice Ao31 t557.length co31] (fun K hK => ?_)
       with_reducible refine (oN kj3 a0_0 _ _ l0_1 _ _ t557 t564 _ ?side1 ?side2 ?side3 ?side4 A25.out).mono ?_
       (case side1 => exact zC (Kd.C_below HR0_1.out HB.out))
       (case side2 => exact HC0_1.out)
       (case side3 => exact zC (Kd.R_reads' HO559.out).2.2)
       (case side4 => exact (Kd.R_reads' HO559.out).2.1)
       rintro e w34 ⟨v565, rfl, ho0, hb⟩
       refine ⟨_, rfl, ?_⟩
       have HO566 := zM (Kd.R_lower (Kd.R_new' (Kd.R_new' ho0 (Kd.R_lt (zR HO559.out))) (Kd.R_lt (zR HO562.out))) (am zB))
       replace HO559 := zM (Kd.R_elder' (zR HO559.out) (Kd.R_base ho0) hb)
       replace HO562 := zM (Kd.R_elder' (zR HO562.out) (Kd.R_base ho0) hb)
       replace BK554 := zJ BK554 hb
       replace HB := zM (ag zB hb)
       (try clear hb)
       (try clear ho0)
       obtain ⟨Ao35, co35, eo35⟩ := Kd.R_slice HO566.out
       (first | subst eo35 | (injection eo35 with f1_ f2_ f3_; have f4_ := f1_.symm; have f5_ := f3_.symm; clear f1_ f2_ f3_; subst f4_; subst f5_))
       refine hK.out _ _ ⟨(ah BK554.out 0).trans rfl, (ah BK554.out 1).trans rfl⟩ (fun hHeld => ?_)
       clear hK K
       refine zn 40 ?_
       refine zh 4 41 Tryz.func29 #[.agg #[.int .i64 a0_0, .slice A0_1 l0_1.length c0_1], .slice Ao35 t564.length co35] (fun K hK => ?_)
       with_reducible refine (lv kj3 a0_0 _ _ l0_1 _ _ t564 t567 _ ?side1 ?side2 ?side3 ?side4 A26.out).mono ?_
       (case side1 => exact zC (Kd.C_below HR0_1.out HB.out))
       (case side2 => exact HC0_1.out)
       (case side3 => exact zC (Kd.R_reads' HO566.out).2.2)
       (case side4 => exact (Kd.R_reads' HO566.out).2.1)
       rintro e w36 ⟨v568, rfl, ho0, hb⟩
       refine ⟨_, rfl, ?_⟩
       have HO569 := zM (Kd.S_lower (Kd.S_new' (Kd.S_new' (Kd.S_new' ho0 (Kd.R_lt (zR HO559.out))) (Kd.R_lt (zR HO562.out))) (Kd.R_lt (zR HO566.out))) (am zB))
       replace HO559 := zM (Kd.R_below (zR HO559.out) hb)
       replace HO562 := zM (Kd.R_below (zR HO562.out) hb)
       replace HO566 := zM (Kd.R_below (zR HO566.out) hb)
       replace BK554 := zJ BK554 hb
       replace HB := zM (ag zB hb)
       (try clear hb)
       (try clear ho0)
       refine hK.out _ _ ⟨(ah BK554.out 0).trans rfl, (ah BK554.out 1).trans rfl⟩ (fun hHeld => ?_)
       clear hK K
       refine zn 41 ?_
       refine zq 5 9 ?_
       refine zx ?_
       try go_wp2
       go_loopg [10] kj3 (fun kq v10 w' => ∃ (x10_2 : Int), v10 = .int .i64 x10_2 ∧ Aside0 (fb kq l1 l2 t567 x10_2 = some (r1, r2)) ∧ Aside0 (kq ≤ kj3) ∧ Aside0 (Kd.S (Kd.slice 3 (Kd.int .i64)) 25 w' w.heap.size (fun _ => True) v568 t567) ∧ Aside0 (w'.heap[gb554]? = some (.cells #[.int .i64 a0_0, (.slice A0_1 l0_1.length c0_1)] 29 (0, 0))) ∧ Aside0 (Below w.heap.size w w'))
       case atStart => exact ⟨(0), (by first | rfl | (simp; done) | (simp [*]; done)), H', ⟨ar _⟩, ⟨by (with_reducible repeat (first | apply Kd.S_alloc | apply Kd.S_drewN | apply Kd.S_drew)); exact Kd.S_mono HO569.out (fun _ hk => trivial)⟩, ⟨zK BK554.out⟩, ⟨zB⟩⟩
       case round =>
        clear H'
        try clear c1
        try clear c2
        try clear p2
        try clear c3
        try clear c7
        try clear c9
        try clear c15
        try clear c20
        try clear c24
        try clear c27
        try clear c28
        try clear c29
        try clear c30
        try clear hcz10_0
        try clear hcz10_1
        try clear hcz12_0
        try clear hcz12_1
        try clear hcz14_0
        try clear hcz14_1
        try clear hcz16_0
        try clear hcz16_1
        try clear hcz18_0
        try clear hcz18_1
        try clear hcz27_0
        try clear hcz27_1
        try clear hcz29_0
        try clear hcz29_1
        try clear hfz10_0
        try clear hfz10_1
        try clear hfz12_0
        try clear hfz12_1
        try clear hfz14_0
        try clear hfz14_1
        try clear hfz16_0
        try clear hfz16_1
        try clear hfz18_0
        try clear hfz18_1
        try clear hfz27_0
        try clear hfz27_1
        try clear hfz29_0
        try clear hfz29_1
        try clear p2
        obtain ⟨x10_2, rfl, HA, HK2, HO_9, BK554, HB⟩ := hrel
        cases gk with
        | zero => exact absurd HA.out (by simp [fb])
        | succ k2 =>
         have H := HA.out
         clear HA
         simp only [fb] at H
         by_cases c37 : x10_2 < (t567.length : Int)
         · rw [if_pos c37] at H
           have c37b0 := af c37
           clear c37
           by_cases c38 : 0 ≤ x10_2
           case neg => rw [if_neg c38] at H; simp at H
           rw [if_pos c38] at H
           have c38b0 := af c38
           clear c38
           replace H := av H
           obtain ⟨t571, A390, H⟩ := H
           try dsimp only at H
           have A39 := Aside0.mk A390
           clear A390
           replace H := av H
           obtain ⟨t575, A400, H⟩ := H
           try dsimp only at H
           have A40 := Aside0.mk A400
           clear A400
           by_cases c41 : (t571.length : Int) = (t575.length : Int)
           · rw [if_pos c41] at H
             have c41b0 : ((t571.length : Int) == (t575.length : Int)) = true := beq_iff_eq.mpr c41
             have c41b1 : ((t571.length : Int) != (t575.length : Int)) = false := bne_eq_false_iff_eq.mpr c41
             have c41b2 : (t571.length == t575.length) = true := by first | simpa using c41 | (simp at c41 ⊢; omega)
             clear c41
             have H' := Aside0.mk H
             clear H
             obtain ⟨Ao42, co42, eo42⟩ := Kd.S_slice HO_9.out
             subst eo42
             try go_wp2
             replace HO_9 := zM (Kd.S_drew HO_9.out)
             replace BK554 := zM (aq BK554.out)
             replace HB := zM (aD HB.out)
             have p570 : 0 ≤ (x10_2 : Int) := ac zA
             have q570 : x10_2 < (t567.length : Int) := ac zA
             obtain ⟨ad570, A570_0, c570_0, e570, hx570_0, hl570_0, hi570_0⟩ := ee (Kd.S_reads' HO_9.out).2.2 x10_2 p570 q570
             cases e570
             obtain ⟨ce570, hce570, hMe570, hcc570⟩ := Kd.S_get HO_9.out [] x10_2 p570 (by first | exact q570 | exact ac zA | (have e_ := (Kd.S_reads' HO_9.out).1; omega))
             obtain ⟨ve570_0, rfl, ge570_0⟩ := hMe570
             have hv570_0 := hcc570 0 _ rfl
             rw [Nat.add_zero, show ((Kd.slice 3 (Kd.int .i64))).sz = 1 from rfl, Nat.mul_one] at hv570_0
             replace hv570_0 := ap (hv570_0.symm.trans hx570_0)
             rw [hv570_0] at ge570_0
             have HL570_0 := zM (show Kd.R (Kd.int .i64) 3 _ _ _ _ (ai t567 x10_2) from ge570_0)
             clear hv570_0 ge570_0
             clear hcc570 hce570
             have HR570_0 := Aside0.mk hi570_0
             have HC570_0 := Aside0.mk hl570_0
             clear hi570_0 hl570_0
             replace p570 := eq_true p570
             replace q570 := eq_true q570
             have p574 : 0 ≤ (x10_2 : Int) := ac zA
             have q574 : x10_2 < (t567.length : Int) := ac zA
             obtain ⟨ad574, A574_0, c574_0, e574, hx574_0, hl574_0, hi574_0⟩ := ee (Kd.S_reads' HO_9.out).2.2 x10_2 p574 q574
             obtain rfl : ad570 = ad574 := (by injection e574)
             obtain ⟨ce574, hce574, hMe574, hcc574⟩ := Kd.S_get HO_9.out [] x10_2 p574 (by first | exact q574 | exact ac zA | (have e_ := (Kd.S_reads' HO_9.out).1; omega))
             obtain ⟨ve574_0, rfl, ge574_0⟩ := hMe574
             have hv574_0 := hcc574 0 _ rfl
             rw [Nat.add_zero, show ((Kd.slice 3 (Kd.int .i64))).sz = 1 from rfl, Nat.mul_one] at hv574_0
             replace hv574_0 := ap (hv574_0.symm.trans hx574_0)
             rw [hv574_0] at ge574_0
             have HL574_0 := zM (show Kd.R (Kd.int .i64) 3 _ _ _ _ (ai t567 x10_2) from ge574_0)
             clear hv574_0 ge574_0
             clear hcc574 hce574
             have HR574_0 := Aside0.mk hi574_0
             have HC574_0 := Aside0.mk hl574_0
             clear hi574_0 hl574_0
             replace p574 := eq_true p574
             replace q574 := eq_true q574
             have ea_ := ap (hx570_0.symm.trans hx574_0)
             injection ea_ with ea_ en_ ec_
             subst ea_
             subst ec_
             clear en_
             refine zs (n := 15) (fun w' => w'.cell? (ad570.add (x10_2).toNat) = some (.slice A570_0 (ai t567 x10_2).length c570_0) ∧ w'.cell? (ad570.add (x10_2).toNat) = some (.slice A570_0 (ai t567 x10_2).length c570_0)) ⟨hx570_0, hx574_0⟩ (fun hHeld => ?_); refine aX lC lD (fun HT_ HW_ => ?_)
             generalize wr.drew = w43 at HO_9 BK554 HB HL570_0 HL574_0 HR570_0 HR574_0 hx570_0 hx574_0 hHeld ⊢
             refine zp HT_ 0 48 ?_
             refine zp HT_ 1 49 ?_
             refine zp HT_ 2 50 ?_
             refine zp HT_ 4 52 ?_
             refine zp HT_ 7 55 ?_
             refine zp HT_ 8 56 ?_
             refine zp HT_ 9 57 ?_
             refine zp HT_ 11 59 ?_
             refine zt HT_ HW_ 3 51 hHeld ?_ (hy := by rintro w' ⟨s0, s1⟩; go_simp; with_reducible rfl)
             refine zt HT_ HW_ 10 58 hHeld ?_ (hy := by rintro w' ⟨s0, s1⟩; go_simp; with_reducible rfl)
             refine zg HT_ 5 53 Tryz.func31 #[.slice A570_0 (ai t567 x10_2).length c570_0, .slice A1 l1.length c1] (fun K hK => ?_)
             with_reducible refine (f9 k2 _ _ (ai t567 x10_2) _ _ l1 t571 _ ?side1 ?side2 ?side3 ?side4 A39.out).mono ?_
             (case side1 => repeat (first | exact (by repeat (first | (with_reducible exact HR570_0.out) | (with_reducible refine Kd.C_alloc ?_ _) | (with_reducible refine Kd.C_drewN ?_ _) | (with_reducible refine Kd.C_drew ?_) | exact HR570_0.out)) | (with_reducible refine Kd.C_alloc ?_ _) | (with_reducible refine Kd.C_drewN ?_ _) | (with_reducible refine Kd.C_drew ?_)))
             (case side2 => exact HC570_0.out)
             (case side3 => exact zC (Kd.C_below HR1.out HB.out))
             (case side4 => exact HC1.out)
             rintro e w44 ⟨v572, rfl, ho0, hb⟩
             have HS0_ := (hb.cell (aj _ _ (hHeld.1))).trans (hHeld.1)
             have HS1_ := (hb.cell (aj _ _ (hHeld.2))).trans (hHeld.2)
             refine ⟨_, rfl, ?_⟩
             replace HO_9 := zM (Kd.S_elder' (by (with_reducible repeat (first | apply Kd.S_alloc | apply Kd.S_drewN | apply Kd.S_drew)); exact HO_9.out) (Kd.R_base ho0) hb)
             have HO573 := zM (Kd.R_lower (Kd.R_new' (Kd.R_new' ho0 (Kd.R_lt (zR HL570_0.out))) (Kd.R_lt (zR HL574_0.out))) (am zB))
             replace HL570_0 := zM (Kd.R_elder' (zR HL570_0.out) (Kd.R_base ho0) hb)
             replace HL574_0 := zM (Kd.R_elder' (zR HL574_0.out) (Kd.R_base ho0) hb)
             replace BK554 := zJ BK554 hb
             replace HR570_0 := zM (Kd.C_below (by repeat (first | (with_reducible exact HR570_0.out) | (with_reducible refine Kd.C_alloc ?_ _) | (with_reducible refine Kd.C_drewN ?_ _) | (with_reducible refine Kd.C_drew ?_) | exact HR570_0.out)) hb)
             replace HR574_0 := zM (Kd.C_below (by repeat (first | (with_reducible exact HR574_0.out) | (with_reducible refine Kd.C_alloc ?_ _) | (with_reducible refine Kd.C_drewN ?_ _) | (with_reducible refine Kd.C_drew ?_) | exact HR574_0.out)) hb)
             replace HB := zM (ag zB hb)
             (try clear hb)
             (try clear ho0)
             obtain ⟨Ao45, co45, eo45⟩ := Kd.R_slice HO573.out
             (first | subst eo45 | (injection eo45 with f1_ f2_ f3_; have f4_ := f1_.symm; have f5_ := f3_.symm; clear f1_ f2_ f3_; subst f4_; subst f5_))
             refine hK.out _ _ ⟨HS0_, HS1_⟩ (fun hHeld => ?_)
             clear hK K
             refine zn 53 ?_
             refine zp HT_ 6 54 ?_
             refine zg HT_ 12 60 Tryz.func31 #[.slice A570_0 (ai t567 x10_2).length c570_0, .slice A2 l2.length c2] (fun K hK => ?_)
             with_reducible refine (f9 k2 _ _ (ai t567 x10_2) _ _ l2 t575 _ ?side1 ?side2 ?side3 ?side4 A40.out).mono ?_
             (case side1 => repeat (first | exact (by repeat (first | (with_reducible exact HR574_0.out) | (with_reducible refine Kd.C_alloc ?_ _) | (with_reducible refine Kd.C_drewN ?_ _) | (with_reducible refine Kd.C_drew ?_) | exact HR574_0.out)) | (with_reducible refine Kd.C_alloc ?_ _) | (with_reducible refine Kd.C_drewN ?_ _) | (with_reducible refine Kd.C_drew ?_)))
             (case side2 => exact HC574_0.out)
             (case side3 => exact zC (Kd.C_below HR2.out HB.out))
             (case side4 => exact HC2.out)
             rintro e w46 ⟨v576, rfl, ho0, hb⟩
             have HS0_ := (hb.cell (aj _ _ (hHeld.1))).trans (hHeld.1)
             have HS1_ := (hb.cell (aj _ _ (hHeld.2))).trans (hHeld.2)
             refine ⟨_, rfl, ?_⟩
             replace HO_9 := zM (Kd.S_elder' (by (with_reducible repeat (first | apply Kd.S_alloc | apply Kd.S_drewN | apply Kd.S_drew)); exact HO_9.out) (Kd.R_base ho0) hb)
             have HO577 := zM (Kd.R_lower (Kd.R_new' (Kd.R_new' (Kd.R_new' ho0 (Kd.R_lt (zR HL570_0.out))) (Kd.R_lt (zR HL574_0.out))) (Kd.R_lt (zR HO573.out))) (am zB))
             replace HL570_0 := zM (Kd.R_elder' (zR HL570_0.out) (Kd.R_base ho0) hb)
             replace HL574_0 := zM (Kd.R_elder' (zR HL574_0.out) (Kd.R_base ho0) hb)
             replace HO573 := zM (Kd.R_elder' (zR HO573.out) (Kd.R_base ho0) hb)
             replace BK554 := zJ BK554 hb
             replace HR570_0 := zM (Kd.C_below (by repeat (first | (with_reducible exact HR570_0.out) | (with_reducible refine Kd.C_alloc ?_ _) | (with_reducible refine Kd.C_drewN ?_ _) | (with_reducible refine Kd.C_drew ?_) | exact HR570_0.out)) hb)
             replace HR574_0 := zM (Kd.C_below (by repeat (first | (with_reducible exact HR574_0.out) | (with_reducible refine Kd.C_alloc ?_ _) | (with_reducible refine Kd.C_drewN ?_ _) | (with_reducible refine Kd.C_drew ?_) | exact HR574_0.out)) hb)
             replace HB := zM (ag zB hb)
             (try clear hb)
             (try clear ho0)
             obtain ⟨Ao47, co47, eo47⟩ := Kd.R_slice HO577.out
             (first | subst eo47 | (injection eo47 with f1_ f2_ f3_; have f4_ := f1_.symm; have f5_ := f3_.symm; clear f1_ f2_ f3_; subst f4_; subst f5_))
             refine hK.out _ _ ⟨HS0_, HS1_⟩ (fun hHeld => ?_)
             clear hK K
             refine zn 60 ?_
             refine zp HT_ 13 61 ?_
             refine zp HT_ 14 62 ?_
             refine zo HT_ ?_
             try go_wp2
             go_roundg k2
             case measure => have := HJ3.out; have := HK2.out; omega
             case rel => exact ⟨(wrap64 (x10_2 + 1)), (by first | rfl | (simp; done) | (simp [*]; done)), H', ⟨by have := HJ3.out; have := HK2.out; omega⟩, ⟨by (with_reducible repeat (first | apply Kd.S_alloc | apply Kd.S_drewN | apply Kd.S_drew)); exact Kd.S_mono HO_9.out (fun _ hk => trivial)⟩, ⟨zK BK554.out⟩, ⟨zB⟩⟩
           · rw [if_neg c41] at H
             have c41b0 : ((t571.length : Int) == (t575.length : Int)) = false := beq_eq_false_iff_ne.mpr c41
             have c41b1 : ((t571.length : Int) != (t575.length : Int)) = true := bne_iff_ne.mpr c41
             have c41b2 : (t571.length == t575.length) = false := by first | simpa using c41 | (simp at c41 ⊢; omega)
             simp only [Option.some.injEq, Prod.mk.injEq] at H
             obtain ⟨rfl, rfl⟩ := H
             obtain ⟨Ao48, co48, eo48⟩ := Kd.S_slice HO_9.out
             subst eo48
             try go_wp2
             replace HO_9 := zM (Kd.S_drew HO_9.out)
             replace BK554 := zM (aq BK554.out)
             replace HB := zM (aD HB.out)
             have p570 : 0 ≤ (x10_2 : Int) := ac zA
             have q570 : x10_2 < (t567.length : Int) := ac zA
             obtain ⟨ad570, A570_0, c570_0, e570, hx570_0, hl570_0, hi570_0⟩ := ee (Kd.S_reads' HO_9.out).2.2 x10_2 p570 q570
             cases e570
             obtain ⟨ce570, hce570, hMe570, hcc570⟩ := Kd.S_get HO_9.out [] x10_2 p570 (by first | exact q570 | exact ac zA | (have e_ := (Kd.S_reads' HO_9.out).1; omega))
             obtain ⟨ve570_0, rfl, ge570_0⟩ := hMe570
             have hv570_0 := hcc570 0 _ rfl
             rw [Nat.add_zero, show ((Kd.slice 3 (Kd.int .i64))).sz = 1 from rfl, Nat.mul_one] at hv570_0
             replace hv570_0 := ap (hv570_0.symm.trans hx570_0)
             rw [hv570_0] at ge570_0
             have HL570_0 := zM (show Kd.R (Kd.int .i64) 3 _ _ _ _ (ai t567 x10_2) from ge570_0)
             clear hv570_0 ge570_0
             clear hcc570 hce570
             have HR570_0 := Aside0.mk hi570_0
             have HC570_0 := Aside0.mk hl570_0
             clear hi570_0 hl570_0
             replace p570 := eq_true p570
             replace q570 := eq_true q570
             have p574 : 0 ≤ (x10_2 : Int) := ac zA
             have q574 : x10_2 < (t567.length : Int) := ac zA
             obtain ⟨ad574, A574_0, c574_0, e574, hx574_0, hl574_0, hi574_0⟩ := ee (Kd.S_reads' HO_9.out).2.2 x10_2 p574 q574
             obtain rfl : ad570 = ad574 := (by injection e574)
             obtain ⟨ce574, hce574, hMe574, hcc574⟩ := Kd.S_get HO_9.out [] x10_2 p574 (by first | exact q574 | exact ac zA | (have e_ := (Kd.S_reads' HO_9.out).1; omega))
             obtain ⟨ve574_0, rfl, ge574_0⟩ := hMe574
             have hv574_0 := hcc574 0 _ rfl
             rw [Nat.add_zero, show ((Kd.slice 3 (Kd.int .i64))).sz = 1 from rfl, Nat.mul_one] at hv574_0
             replace hv574_0 := ap (hv574_0.symm.trans hx574_0)
             rw [hv574_0] at ge574_0
             have HL574_0 := zM (show Kd.R (Kd.int .i64) 3 _ _ _ _ (ai t567 x10_2) from ge574_0)
             clear hv574_0 ge574_0
             clear hcc574 hce574
             have HR574_0 := Aside0.mk hi574_0
             have HC574_0 := Aside0.mk hl574_0
             clear hi574_0 hl574_0
             replace p574 := eq_true p574
             replace q574 := eq_true q574
             have ea_ := ap (hx570_0.symm.trans hx574_0)
             injection ea_ with ea_ en_ ec_
             subst ea_
             subst ec_
             clear en_
             refine zs (n := 15) (fun w' => w'.cell? (ad570.add (x10_2).toNat) = some (.slice A570_0 (ai t567 x10_2).length c570_0) ∧ w'.cell? (ad570.add (x10_2).toNat) = some (.slice A570_0 (ai t567 x10_2).length c570_0)) ⟨hx570_0, hx574_0⟩ (fun hHeld => ?_); refine aX lC lD (fun HT_ HW_ => ?_)
             generalize wr.drew = w49 at HO_9 BK554 HB HL570_0 HL574_0 HR570_0 HR574_0 hx570_0 hx574_0 hHeld ⊢
             refine zp HT_ 0 48 ?_
             refine zp HT_ 1 49 ?_
             refine zp HT_ 2 50 ?_
             refine zp HT_ 4 52 ?_
             refine zp HT_ 7 55 ?_
             refine zp HT_ 8 56 ?_
             refine zp HT_ 9 57 ?_
             refine zp HT_ 11 59 ?_
             refine zt HT_ HW_ 3 51 hHeld ?_ (hy := by rintro w' ⟨s0, s1⟩; go_simp; with_reducible rfl)
             refine zt HT_ HW_ 10 58 hHeld ?_ (hy := by rintro w' ⟨s0, s1⟩; go_simp; with_reducible rfl)
             refine zg HT_ 5 53 Tryz.func31 #[.slice A570_0 (ai t567 x10_2).length c570_0, .slice A1 l1.length c1] (fun K hK => ?_)
             with_reducible refine (f9 k2 _ _ (ai t567 x10_2) _ _ l1 t571 _ ?side1 ?side2 ?side3 ?side4 A39.out).mono ?_
             (case side1 => repeat (first | exact (by repeat (first | (with_reducible exact HR570_0.out) | (with_reducible refine Kd.C_alloc ?_ _) | (with_reducible refine Kd.C_drewN ?_ _) | (with_reducible refine Kd.C_drew ?_) | exact HR570_0.out)) | (with_reducible refine Kd.C_alloc ?_ _) | (with_reducible refine Kd.C_drewN ?_ _) | (with_reducible refine Kd.C_drew ?_)))
             (case side2 => exact HC570_0.out)
             (case side3 => exact zC (Kd.C_below HR1.out HB.out))
             (case side4 => exact HC1.out)
             rintro e w50 ⟨v572, rfl, ho0, hb⟩
             have HS0_ := (hb.cell (aj _ _ (hHeld.1))).trans (hHeld.1)
             have HS1_ := (hb.cell (aj _ _ (hHeld.2))).trans (hHeld.2)
             refine ⟨_, rfl, ?_⟩
             replace HO_9 := zM (Kd.S_elder' (by (with_reducible repeat (first | apply Kd.S_alloc | apply Kd.S_drewN | apply Kd.S_drew)); exact HO_9.out) (Kd.R_base ho0) hb)
             have HO573 := zM (Kd.R_lower (Kd.R_new' (Kd.R_new' ho0 (Kd.R_lt (zR HL570_0.out))) (Kd.R_lt (zR HL574_0.out))) (am zB))
             replace HL570_0 := zM (Kd.R_elder' (zR HL570_0.out) (Kd.R_base ho0) hb)
             replace HL574_0 := zM (Kd.R_elder' (zR HL574_0.out) (Kd.R_base ho0) hb)
             replace BK554 := zJ BK554 hb
             replace HR570_0 := zM (Kd.C_below (by repeat (first | (with_reducible exact HR570_0.out) | (with_reducible refine Kd.C_alloc ?_ _) | (with_reducible refine Kd.C_drewN ?_ _) | (with_reducible refine Kd.C_drew ?_) | exact HR570_0.out)) hb)
             replace HR574_0 := zM (Kd.C_below (by repeat (first | (with_reducible exact HR574_0.out) | (with_reducible refine Kd.C_alloc ?_ _) | (with_reducible refine Kd.C_drewN ?_ _) | (with_reducible refine Kd.C_drew ?_) | exact HR574_0.out)) hb)
             replace HB := zM (ag zB hb)
             (try clear hb)
             (try clear ho0)
             obtain ⟨Ao51, co51, eo51⟩ := Kd.R_slice HO573.out
             (first | subst eo51 | (injection eo51 with f1_ f2_ f3_; have f4_ := f1_.symm; have f5_ := f3_.symm; clear f1_ f2_ f3_; subst f4_; subst f5_))
             refine hK.out _ _ ⟨HS0_, HS1_⟩ (fun hHeld => ?_)
             clear hK K
             refine zn 53 ?_
             refine zp HT_ 6 54 ?_
             refine zg HT_ 12 60 Tryz.func31 #[.slice A570_0 (ai t567 x10_2).length c570_0, .slice A2 l2.length c2] (fun K hK => ?_)
             with_reducible refine (f9 k2 _ _ (ai t567 x10_2) _ _ l2 t575 _ ?side1 ?side2 ?side3 ?side4 A40.out).mono ?_
             (case side1 => repeat (first | exact (by repeat (first | (with_reducible exact HR574_0.out) | (with_reducible refine Kd.C_alloc ?_ _) | (with_reducible refine Kd.C_drewN ?_ _) | (with_reducible refine Kd.C_drew ?_) | exact HR574_0.out)) | (with_reducible refine Kd.C_alloc ?_ _) | (with_reducible refine Kd.C_drewN ?_ _) | (with_reducible refine Kd.C_drew ?_)))
             (case side2 => exact HC574_0.out)
             (case side3 => exact zC (Kd.C_below HR2.out HB.out))
             (case side4 => exact HC2.out)
             rintro e w52 ⟨v576, rfl, ho0, hb⟩
             have HS0_ := (hb.cell (aj _ _ (hHeld.1))).trans (hHeld.1)
             have HS1_ := (hb.cell (aj _ _ (hHeld.2))).trans (hHeld.2)
             refine ⟨_, rfl, ?_⟩
             replace HO_9 := zM (Kd.S_elder' (by (with_reducible repeat (first | apply Kd.S_alloc | apply Kd.S_drewN | apply Kd.S_drew)); exact HO_9.out) (Kd.R_base ho0) hb)
             have HO577 := zM (Kd.R_lower (Kd.R_new' (Kd.R_new' (Kd.R_new' ho0 (Kd.R_lt (zR HL570_0.out))) (Kd.R_lt (zR HL574_0.out))) (Kd.R_lt (zR HO573.out))) (am zB))
             replace HL570_0 := zM (Kd.R_elder' (zR HL570_0.out) (Kd.R_base ho0) hb)
             replace HL574_0 := zM (Kd.R_elder' (zR HL574_0.out) (Kd.R_base ho0) hb)
             replace HO573 := zM (Kd.R_elder' (zR HO573.out) (Kd.R_base ho0) hb)
             replace BK554 := zJ BK554 hb
             replace HR570_0 := zM (Kd.C_below (by repeat (first | (with_reducible exact HR570_0.out) | (with_reducible refine Kd.C_alloc ?_ _) | (with_reducible refine Kd.C_drewN ?_ _) | (with_reducible refine Kd.C_drew ?_) | exact HR570_0.out)) hb)
             replace HR574_0 := zM (Kd.C_below (by repeat (first | (with_reducible exact HR574_0.out) | (with_reducible refine Kd.C_alloc ?_ _) | (with_reducible refine Kd.C_drewN ?_ _) | (with_reducible refine Kd.C_drew ?_) | exact HR574_0.out)) hb)
             replace HB := zM (ag zB hb)
             (try clear hb)
             (try clear ho0)
             obtain ⟨Ao53, co53, eo53⟩ := Kd.R_slice HO577.out
             (first | subst eo53 | (injection eo53 with f1_ f2_ f3_; have f4_ := f1_.symm; have f5_ := f3_.symm; clear f1_ f2_ f3_; subst f4_; subst f5_))
             refine hK.out _ _ ⟨HS0_, HS1_⟩ (fun hHeld => ?_)
             clear hK K
             refine zn 60 ?_
             refine zp HT_ 13 61 ?_
             refine zp HT_ 14 62 ?_
             refine zo HT_ ?_
             try go_wp2
             go_ret2
             exact ⟨by first | rfl | (simp [al, ak] <;> rfl) | (simp [*, al, ak] <;> rfl), zB⟩
         · rw [if_neg c37] at H
           have c37b0 : decide (x10_2 < (t567.length : Int)) = false := ao c37
           clear c37
           simp only [Option.some.injEq, Prod.mk.injEq] at H
           obtain ⟨rfl, rfl⟩ := H
           obtain ⟨Ao54, co54, eo54⟩ := Kd.S_slice HO_9.out
           subst eo54
           go_wp2
           go_ret2
           exact ⟨by first | rfl | (simp [al, ak] <;> rfl) | (simp [*, al, ak] <;> rfl), zB⟩
     · replace c24 := Bool.eq_false_iff.mpr c24
       subst c24
       rw [if_neg (show ¬ (false = true) by decide)] at H
       simp only [Option.some.injEq, Prod.mk.injEq] at H
       obtain ⟨rfl, rfl⟩ := H
       have hcz55_0 := zy BK554 0
       have hcz55_1 := zy BK554 1
       have hfz55_0 := ae BK554.out 0
       have hfz55_1 := ae BK554.out 1
       go_wp2_with (first | ((with_reducible refine ax (f := 20) rfl ?_); refine zc 30 Tryz.func20 #[.agg #[.int .i64 a0_0, .slice A0_1 l0_1.length c0_1], .slice A1 l1.length c1] ?_; (with_reducible refine (iU kj3 a0_0 _ _ l0_1 _ _ l1 t557 _ ?side1 ?side2 ?side3 ?side4 A21.out).mono ?_); (case side1 => exact zC (Kd.C_below HR0_1.out HB.out)); (case side2 => exact HC0_1.out); (case side3 => exact zC (Kd.C_below HR1.out HB.out)); (case side4 => exact HC1.out); rintro e w56 ⟨v558, rfl, ho0, hb⟩; refine ⟨_, rfl, ?_⟩; have HO559 := zM (Kd.R_lower ho0 (am zB)); replace BK554 := zJ BK554 hb; replace HB := zM (ag zB hb); (try clear hb); (try clear ho0); have hcz57_0 := zy BK554 0; have hcz57_1 := zy BK554 1; have hfz57_0 := ae BK554.out 0; have hfz57_1 := ae BK554.out 1) | ((with_reducible refine ax (f := 20) rfl ?_); refine zc 34 Tryz.func20 #[.agg #[.int .i64 a0_0, .slice A0_1 l0_1.length c0_1], .slice A2 l2.length c2] ?_; (with_reducible refine (iU kj3 a0_0 _ _ l0_1 _ _ l2 t560 _ ?side1 ?side2 ?side3 ?side4 A22.out).mono ?_); (case side1 => exact zC (Kd.C_below HR0_1.out HB.out)); (case side2 => exact HC0_1.out); (case side3 => exact zC (Kd.C_below HR2.out HB.out)); (case side4 => exact HC2.out); rintro e w58 ⟨v561, rfl, ho0, hb⟩; refine ⟨_, rfl, ?_⟩; have HO562 := zM (Kd.R_lower (Kd.R_new' ho0 (Kd.R_lt (zR HO559.out))) (am zB)); replace HO559 := zM (Kd.R_elder' (zR HO559.out) (Kd.R_base ho0) hb); replace BK554 := zJ BK554 hb; replace HB := zM (ag zB hb); (try clear hb); (try clear ho0); obtain ⟨Ao59, co59, eo59⟩ := Kd.R_slice HO559.out; subst eo59; obtain ⟨Ao60, co60, eo60⟩ := Kd.R_slice HO562.out; subst eo60) | ((with_reducible refine ax (f := 28) rfl ?_); refine zc 35 Tryz.func28 #[.slice Ao59 t557.length co59, .slice Ao60 t560.length co60] ?_; (with_reducible refine (ly kj3 _ _ t557 _ _ t560 false _ ?side1 ?side2 ?side3 ?side4 A23.out).mono ?_); (case side1 => exact zC (Kd.R_reads' HO559.out).2.2); (case side2 => exact (Kd.R_reads' HO559.out).2.1); (case side3 => exact zC (Kd.R_reads' HO562.out).2.2); (case side4 => exact (Kd.R_reads' HO562.out).2.1); rintro e w' ⟨rfl, ⟨nd, rfl⟩⟩; refine ⟨_, rfl, ?_⟩))
       go_ret2
       exact ⟨by first | rfl | (simp [al, ak] <;> rfl) | (simp [*, al, ak] <;> rfl), zB⟩
attribute [local go_sem] bl bh bi bd bj bf bk bg
set_option linter.unusedVariables false
set_option linter.unusedSimpArgs false
def bU (a0 : Int) (a1 : Int) : Option (Bool) := if 0 ≤ a1 then (some ((Go.bits .and .u64 (dn .u64 a0 a1) 1) == 1)) else (none)
theorem jr (a0 : Int) (a1 : Int) (r : Bool) (w : World) (h : bU a0 a1 = some r) :
 Calls Tryz.prog 38 #[.int .u64 a0, .int .i64 a1] w fun e w' => e = .returned (.bool r) ∧ Drawn0 w w' := by
 have H := h
 unfold bU at H
 clear h
 by_cases c3 : 0 ≤ a1
 case neg => rw [if_neg c3] at H; simp at H
 rw [if_pos c3] at H
 have c3b0 := eq_true c3
 have c3b1 : decide (0 ≤ a1) = true := af c3
 clear c3
 obtain ⟨ji4, hji4⟩ : ∃ j_ : Int, (dn .u64 a0 a1) = j_ := ⟨_, rfl⟩
 replace H : (some ((Go.bits .and .u64 (ji4) 1) == 1)) = some r := by first | (rw [hji4] at H; exact H) | (simp only [hji4] at H ⊢; exact H)
 have hji4_ : (a0 / 2 ^ min a1.toNat 64) = ji4 := hji4
 have hji4z : a1 ≤ 64 → (a0 / 2 ^ a1.toNat) = ji4 := jW hji4
 obtain rfl := ap H
 go_enter Tryz.func38, Tryz.ntmps38
 go_wp2
 go_ret
 exact ⟨by first | rfl | (simp; done) | (simp only [← hji4] <;> (first | rfl | simp)) | (simp [*]; done), by repeat (first | exact Drawn0.refl _ | apply Drawn0.step)⟩
end Go.Proofs.YtjgcehldepfaaaaGreat.P
