import Derived.Test.YtadjbmcfgjmhkaaGreatSlideWalkG12
namespace Go.Proofs.YtadjbmcfgjmhkaaGreat.P
open Go.RowKit YtadjbmcfgjmhkaaGreatW.PrintWords YtadjbmcfgjmhkaaGreatW.PrintLast YtadjbmcfgjmhkaaGreatW.PrintMore
attribute [local go_sem] aX aT aU aM aV aN aW aQ
set_option maxRecDepth 100000
set_option maxHeartbeats 8000000
set_option linter.unusedVariables false
set_option linter.unusedSimpArgs false
mutual
def di : Nat → Int → Int → List (List Int) → Bool → List (List Int) → List (S69) → Option ((List (List Int)))
 | 0, _, _, _, _, _, _ => none
 | k + 1, x7, x8, x9, x24, x388000, x388001 => if x24 = true then (some x9) else ((fb k x388000 x388001 x7 x8).bind fun t393 => (dH k x9 t393 0 x388000 x388001))
def dH : Nat → List (List Int) → List Int → Int → List (List Int) → List (S69) → Option ((List (List Int)))
 | 0, _, _, _, _, _ => none
 | k + 1, x9, x10, x11, x388000, x388001 => if x11 < (x10.length : Int) then (if 0 ≤ x11 then (if 0 ≤ (rd x10 x11) then (if (rd x10 x11) < (x388000.length : Int) then ((cn (af x388000 (rd x10 x11))).bind fun t398 => (if x9.length < 5864062014805 then (dH k (x9 ++ [t398]) x10 (wrap64 (x11 + 1)) x388000 x388001) else (none))) else (none)) else (none)) else (none)) else (some x9)
end
def dU (k : Nat) (l0_0 : List (List Int)) (l0_1 : List (S69)) (l1 : List Int) (l2 : List Int) : Option ((List (List Int))) := (dL k l0_0 l0_1 l1).bind fun t388 => ((dL k l0_0 l0_1 l2).bind fun t389 => ((some (([] : List (List Int)) : List (List Int))).bind fun y390 => (if t388 < 0 then (di k t388 t389 y390 true l0_0 l0_1) else (di k t388 t389 y390 (decide (t389 < 0)) l0_0 l0_1))))
def spec_l3Walk.T1 : Bool × List (List Nat × List Nat) := (true, [([], []), ([], []), ([0, 1], [0, 1]), ([], []), ([], []), ([3, 4, 2], [3, 4]), ([2, 5, 0, 1, 2], [2]), ([5, 6, 0, 1, 2, 3, 4, 5, 6], [5])])
def nJ : List Nat := [0, 0, 3, 0, 0, 31, 63, 127]
theorem nE : aG .any (bP Tryz.f32 1) = spec_l3Walk.T1 := by kernel_rfl
theorem nH : bC spec_l3Walk.T1.2 nJ = true := by kernel_rfl
def spec_l3Walk.T9 : Bool × List (List Nat × List Nat) := (true, [([], []), ([], []), ([1], [1]), ([], []), ([], []), ([3, 4], [3, 4]), ([5], [5]), ([2, 6], [2, 6]), ([7], [7]), ([8], [8]), ([9], [9]), ([0, 10, 9], [0, 10]), ([11, 11, 0, 1, 2, 3, 4, 5, 6, 7, 8, 9, 10, 11], [0, 11])])
def nI : List Nat := [0, 0, 2, 0, 0, 24, 56, 126, 254, 510, 1022, 2047, 4095]
theorem nD : aG .any (bP Tryz.f32 9) = spec_l3Walk.T9 := by kernel_rfl
theorem nG : bC spec_l3Walk.T9.2 nI = true := by kernel_rfl
theorem nF (k : Nat) (A0_0 : Option Addr) (c0_0 : Nat) (l0_0 : List (List Int)) (A0_1 : Option Addr) (c0_1 : Nat) (l0_1 : List (S69)) (A1 : Option Addr) (c1 : Nat) (l1 : List Int) (A2 : Option Addr) (c2 : Nat) (l2 : List Int) (r : List (List Int)) (w : World) (hr0_0 : Kd.C (Kd.slice 3 (Kd.int .i64)) w A0_0 l0_0.length l0_0) (hc0_0 : l0_0.length ≤ c0_0) (hr0_1 : Kd.C k69 w A0_1 l0_1.length l0_1) (hc0_1 : l0_1.length ≤ c0_1) (hr1 : Kd.C (Kd.int .i64) w A1 l1.length l1) (hc1 : l1.length ≤ c1) (hr2 : Kd.C (Kd.int .i64) w A2 l2.length l2) (hc2 : l2.length ≤ c2) (h : dU k l0_0 l0_1 l1 l2 = some r) :
 Calls Tryz.prog 32 #[.agg #[.slice A0_0 l0_0.length c0_0, .slice A0_1 l0_1.length c0_1], .slice A1 l1.length c1, .slice A2 l2.length c2] w fun e w' => ∃ v0_ : Value, e = .returned (v0_) ∧ Kd.S (Kd.slice 3 (Kd.int .i64)) 25 w' w.heap.size (fun _ => True) v0_ r ∧ Below w.heap.size w w' := by
 have hu52 := Tryz.underlying52
 have HR0_0 := Aside0.mk hr0_0
 have HC0_0 := Aside0.mk hc0_0
 clear hr0_0 hc0_0
 have HR0_1 := Aside0.mk hr0_1
 have HC0_1 := Aside0.mk hc0_1
 clear hr0_1 hc0_1
 have HR1 := Aside0.mk hr1
 have HC1 := Aside0.mk hc1
 clear hr1 hc1
 have HR2 := Aside0.mk hr2
 have HC2 := Aside0.mk hc2
 clear hr2 hc2
 have HB := zM (Below.refl w.heap.size w)
 have H := h
 unfold dU at H
 clear h
 replace H := ax H
 obtain ⟨t388, A40, H⟩ := H
 have A4 := Aside0.mk A40
 clear A40
 replace H := ax H
 obtain ⟨t389, A50, H⟩ := H
 have A5 := Aside0.mk A50
 clear A50
 obtain ⟨y390, hy390⟩ : ∃ y_ : List (List Int), y_ = (([] : List (List Int))) := ⟨_, rfl⟩
 replace H : (if t388 < 0 then (di k t388 t389 y390 true l0_0 l0_1) else (di k t388 t389 y390 (decide (t389 < 0)) l0_0 l0_1)) = some r := by first | (rw [hy390]; with_reducible exact H) | (have H2_ := (Option.bind_some _ _).symm.trans H; rw [hy390]; with_reducible exact H2_) | (have H2_ := (Option.bind_some _ _).symm.trans H; with_reducible exact H2_) | with_reducible exact H | (rw [hy390]; exact H) | exact H
 have Ny390 := Aside0.mk hy390
 clear hy390
 have HC6 := Aside0.mk H
 clear H
 go_enter Tryz.func32, Tryz.ntmps32
 try go_wp2_with (first | ((with_reducible refine ap (N := 3) rfl ?_); refine zb (w := w) 3 #[.slice A0_0 l0_0.length c0_0, .slice A0_1 l0_1.length c0_1] 52 zB ?_; clear HB; intro gb387 w7 HB BK387 GW387; have GE387 := GW387))
 replace BK387 := zM (aq BK387.out)
 replace HB := zM (aC HB.out)
 refine zs (n := 8) (fun w' => w'.cell? ⟨gb387, 0, none⟩ = some (.slice A0_0 l0_0.length c0_0) ∧ w'.cell? ⟨gb387, 1, none⟩ = some (.slice A0_1 l0_1.length c0_1)) ⟨(am BK387.out 0).trans rfl, (am BK387.out 1).trans rfl⟩ (fun hHeld => ?_); refine aH nE nH (fun HT_ HW_ => ?_)
 generalize w7.drew = w8 at BK387 HB hHeld ⊢
 refine zp HT_ 1 13 ?_
 refine zp HT_ 4 16 ?_
 refine zt HT_ HW_ 0 12 hHeld ?_ (hy := by rintro w' ⟨s0, s1⟩; go_simp; with_reducible rfl)
 refine zt HT_ HW_ 3 15 hHeld ?_ (hy := by rintro w' ⟨s0, s1⟩; go_simp; with_reducible rfl)
 refine zg HT_ 2 14 Tryz.func47 #[.agg #[.slice A0_0 l0_0.length c0_0, .slice A0_1 l0_1.length c0_1], .slice A1 l1.length c1] (fun K hK => ?_)
 with_reducible refine (kJ k _ _ l0_0 _ _ l0_1 _ _ l1 t388 _ ?side1 ?side2 ?side3 ?side4 ?side5 ?side6 A4.out).mono ?_
 (case side1 => exact zC (Kd.C_below HR0_0.out HB.out))
 (case side2 => exact HC0_0.out)
 (case side3 => exact zC (Kd.C_below HR0_1.out HB.out))
 (case side4 => exact HC0_1.out)
 (case side5 => exact zC (Kd.C_below HR1.out HB.out))
 (case side6 => exact HC1.out)
 rintro e w9 ⟨rfl, hb⟩
 refine ⟨_, rfl, ?_⟩
 replace BK387 := zJ BK387 hb
 replace HB := zM (ah zB hb)
 (try clear hb)
 refine hK.out _ _ ⟨(am BK387.out 0).trans rfl, (am BK387.out 1).trans rfl⟩ (fun hHeld => ?_)
 clear hK K
 refine zn 14 ?_
 refine zg HT_ 5 17 Tryz.func47 #[.agg #[.slice A0_0 l0_0.length c0_0, .slice A0_1 l0_1.length c0_1], .slice A2 l2.length c2] (fun K hK => ?_)
 with_reducible refine (kJ k _ _ l0_0 _ _ l0_1 _ _ l2 t389 _ ?side1 ?side2 ?side3 ?side4 ?side5 ?side6 A5.out).mono ?_
 (case side1 => exact zC (Kd.C_below HR0_0.out HB.out))
 (case side2 => exact HC0_0.out)
 (case side3 => exact zC (Kd.C_below HR0_1.out HB.out))
 (case side4 => exact HC0_1.out)
 (case side5 => exact zC (Kd.C_below HR2.out HB.out))
 (case side6 => exact HC2.out)
 rintro e w10 ⟨rfl, hb⟩
 refine ⟨_, rfl, ?_⟩
 replace BK387 := zJ BK387 hb
 replace HB := zM (ah zB hb)
 (try clear hb)
 refine hK.out _ _ ⟨(am BK387.out 0).trans rfl, (am BK387.out 1).trans rfl⟩ (fun hHeld => ?_)
 clear hK K
 refine zn 17 ?_
 refine zp HT_ 6 7 ?_
 refine zp HT_ 7 8 ?_
 refine zo HT_ ?_
 go_upto_region 3 with (first | ((with_reducible refine ap (N := 18) rfl ?_); refine Kd.S_lit (Kd.slice 3 (Kd.int .i64)) _ 25 ?hg (N := 18) ?hd (xs := ([] : List (List Int))) (inner := []) (ok := fun _ => True) (okp := fun _ => True) ?hr ?hp (fun _ hk => hk) trivial (Below.refl _ _) (au _) (by simp) ?_; (case hd => rfl); (case hg => rfl); (case hr => first | (go_simp; done) | (go_simp; rfl)); (case hp => exact (Reps.none _ _)); intro v391 w11 ho12 hb hg_ hnew_; clear hg_ hnew_; (first | rw [← Ny390.out] at ho12 | (simp only [Int.reduceToNat] at ho12; rw [← Ny390.out] at ho12)); have HO392 := zM (Kd.S_lower ho12 (ai zB)); replace BK387 := zJ BK387 hb; replace HB := zM (ah zB hb); clear hb ho12))
 (try simp only [Act.put, List.setIfInBounds_toArray, List.set_cons_zero, List.set_cons_succ])
 go_cut [24] (fun v24 wc => ∃ (kq : Nat) (x24_5 : Bool), v24 = .bool x24_5 ∧ Aside0 (di kq t388 t389 y390 x24_5 l0_0 l0_1 = some r) ∧ Aside0 (kq ≤ k) ∧ Aside0 (Kd.S (Kd.slice 3 (Kd.int .i64)) 25 wc w.heap.size (fun _ => True) v391 y390) ∧ Aside0 (wc.heap[gb387]? = some (.cells #[(.slice A0_0 l0_0.length c0_0), (.slice A0_1 l0_1.length c0_1)] 52 (0, 0))) ∧ Aside0 (Below w.heap.size w wc))
 case first =>
  have H := HC6.out
  clear HC6
  by_cases c13 : t388 < 0
  · rw [if_pos c13] at H
    have c13b0 := ag c13
    clear c13
    (first | rw [c13b0] | (simp only [bE, cg]; rw [c13b0]) | skip)
    have H' := Aside0.mk H
    clear H
    go_wp2
    go_meet
    case rel => exact ⟨_, (true), (by first | rfl | (simp; done) | (simp [*]; done)), H', ⟨by first | omega | exact au _⟩, ⟨by (with_reducible repeat (first | apply Kd.S_alloc | apply Kd.S_drewN | apply Kd.S_drew)); exact HO392.out⟩, ⟨zK BK387.out⟩, ⟨zB⟩⟩
  · rw [if_neg c13] at H
    have c13b0 : decide (t388 < 0) = false := ar c13
    clear c13
    (first | rw [c13b0] | (simp only [bE, cg]; rw [c13b0]) | skip)
    have H' := Aside0.mk H
    clear H
    go_wp2
    go_meet
    case rel => exact ⟨_, (decide (t389 < 0)), (by first | rfl | (simp; done) | (simp [*]; done)), H', ⟨by first | omega | exact au _⟩, ⟨by (with_reducible repeat (first | apply Kd.S_alloc | apply Kd.S_drewN | apply Kd.S_drew)); exact HO392.out⟩, ⟨zK BK387.out⟩, ⟨zB⟩⟩
 case rest =>
  clear HC6
  try clear c1
  try clear c2
  try clear p2
  try clear c3
  try clear c4
  try clear c13
  try clear c13b0
  obtain ⟨kq, x24_5, rfl, HA, HJ5, HO_9, BK387, HB⟩ := hcut
  cases kq with
  | zero => exact absurd HA.out (by simp [di])
  | succ kj5 =>
   have H := HA.out
   clear HA
   simp only [di] at H
   by_cases c14 : x24_5 = true
   · subst c14
     rw [if_pos rfl] at H
     obtain rfl := ao H
     go_wp2
     go_ret
     exact ⟨_, by first | rfl | (simp [al, ak] <;> rfl) | (simp [*, al, ak] <;> rfl), by (with_reducible repeat (first | apply Kd.S_alloc | apply Kd.S_drewN | apply Kd.S_drew)); exact HO_9.out, zB⟩
   · replace c14 := Bool.eq_false_iff.mpr c14
     subst c14
     rw [if_neg (show ¬ (false = true) by decide)] at H
     replace H := ax H
     obtain ⟨t393, A150, H⟩ := H
     have A15 := Aside0.mk A150
     clear A150
     have H' := Aside0.mk H
     clear H
     have hcz16_0 := zy BK387 0
     have hcz16_1 := zy BK387 1
     have hfz16_0 := ae BK387.out 0
     have hfz16_1 := ae BK387.out 1
     go_wp2_with (first | ((with_reducible refine ay (f := 53) rfl ?_); refine zc 29 Tryz.func53 #[.agg #[.slice A0_0 l0_0.length c0_0, .slice A0_1 l0_1.length c0_1], .int .i64 t388, .int .i64 t389] ?_; (with_reducible refine (nQ kj5 _ _ l0_0 _ _ l0_1 t388 t389 t393 _ ?side1 ?side2 ?side3 ?side4 A15.out).mono ?_); (case side1 => exact zC (Kd.C_below HR0_0.out HB.out)); (case side2 => exact HC0_0.out); (case side3 => exact zC (Kd.C_below HR0_1.out HB.out)); (case side4 => exact HC0_1.out); rintro e w17 ⟨v394, rfl, ho0, hb⟩; refine ⟨_, rfl, ?_⟩; replace HO_9 := zM (Kd.S_elder' (by (with_reducible repeat (first | apply Kd.S_alloc | apply Kd.S_drewN | apply Kd.S_drew)); exact HO_9.out) (Kd.R_base ho0) hb); have HO395 := zM (Kd.R_lower ho0 (ai zB)); replace BK387 := zJ BK387 hb; replace HB := zM (ah zB hb); (try clear hb); (try clear ho0)))
     go_loopg [9, 11] kj5 (fun kq v9 v11 w' => ∃ (x9_2 : List (List Int)) (x11_2 : Int), v11 = .int .i64 x11_2 ∧ Aside0 (dH kq x9_2 t393 x11_2 l0_0 l0_1 = some r) ∧ Aside0 (kq ≤ kj5) ∧ Aside0 (Kd.S (Kd.slice 3 (Kd.int .i64)) 25 w' w.heap.size (fun k_ => some k_ ≠ (v394 : Value).ownBlock) v9 x9_2) ∧ Aside0 (Kd.R (Kd.int .i64) 3 w' w.heap.size (fun _ => True) v394 t393) ∧ Aside0 (w'.heap[gb387]? = some (.cells #[(.slice A0_0 l0_0.length c0_0), (.slice A0_1 l0_1.length c0_1)] 52 (0, 0))) ∧ Aside0 (Below w.heap.size w w'))
     case atStart => exact ⟨(y390), (0), (by first | rfl | (simp; done) | (simp [*]; done)), H', ⟨au _⟩, ⟨by (with_reducible repeat (first | apply Kd.S_alloc | apply Kd.S_drewN | apply Kd.S_drew)); exact Kd.S_mono HO_9.out (fun _ hk => hk.2)⟩, ⟨zR HO395.out⟩, ⟨zK BK387.out⟩, ⟨zB⟩⟩
     case round =>
      clear H'
      try clear c1
      try clear c2
      try clear p2
      try clear c3
      try clear c4
      try clear c5
      try clear c13
      try clear c13b0
      try clear c14
      try clear hcz16_0
      try clear hcz16_1
      try clear hfz16_0
      try clear hfz16_1
      try clear p2
      obtain ⟨x9_2, x11_2, rfl, HA, HK2, HO_9, HO_10, BK387, HB⟩ := hrel
      cases gk with
      | zero => exact absurd HA.out (by simp [dH])
      | succ k2 =>
       have H := HA.out
       clear HA
       simp only [dH] at H
       by_cases c18 : x11_2 < (t393.length : Int)
       · rw [if_pos c18] at H
         have c18b0 := ag c18
         clear c18
         by_cases c19 : 0 ≤ x11_2
         case neg => rw [if_neg c19] at H; simp at H
         rw [if_pos c19] at H
         have c19b0 := ag c19
         clear c19
         by_cases c20 : 0 ≤ (rd t393 x11_2)
         case neg => rw [if_neg c20] at H; simp at H
         rw [if_pos c20] at H
         have c20b0 := ag c20
         clear c20
         by_cases c21 : (rd t393 x11_2) < (l0_0.length : Int)
         case neg => rw [if_neg c21] at H; simp at H
         rw [if_pos c21] at H
         have c21b0 := ag c21
         clear c21
         replace H := ax H
         obtain ⟨t398, A220, H⟩ := H
         have A22 := Aside0.mk A220
         clear A220
         by_cases c23 : x9_2.length < 5864062014805
         case neg => rw [if_neg c23] at H; simp at H
         rw [if_pos c23] at H
         have LMc23 := Aside0.mk c23
         clear c23
         obtain ⟨y401, hy401⟩ : ∃ y_ : List (List Int), y_ = (x9_2 ++ [t398]) := ⟨_, rfl⟩
         replace H : (dH k2 y401 t393 (wrap64 (x11_2 + 1)) l0_0 l0_1) = some r := by first | (rw [hy401]; with_reducible exact H) | (have H2_ := (Option.bind_some _ _).symm.trans H; rw [hy401]; with_reducible exact H2_) | (have H2_ := (Option.bind_some _ _).symm.trans H; with_reducible exact H2_) | with_reducible exact H | (rw [hy401]; exact H) | exact H
         have Ny401 := Aside0.mk hy401
         clear hy401
         have H' := Aside0.mk H
         clear H
         obtain ⟨Ao24, co24, eo24⟩ := Kd.R_slice HO_10.out
         subst eo24
         try go_wp2
         replace HO_9 := zM (Kd.S_drew HO_9.out)
         replace HO_10 := zM (Kd.R_drew HO_10.out)
         replace BK387 := zM (aq BK387.out)
         replace HB := zM (aC HB.out)
         have p396 : 0 ≤ (x11_2 : Int) := ac zA
         have q396 : x11_2 < (t393.length : Int) := ac zA
         obtain ⟨ad396, e396, hx396_0⟩ := Kd.at_int (Kd.R_reads' HO_10.out).2.2 x11_2 p396 q396
         cases e396
         replace p396 := eq_true p396
         replace q396 := eq_true q396
         have p397 : 0 ≤ ((rd t393 x11_2) : Int) := ac zA
         have q397 : (rd t393 x11_2) < (l0_0.length : Int) := ac zA
         obtain ⟨ad397, A397_0, c397_0, e397, hx397_0, hl397_0, hi397_0⟩ := bf HR0_0.out (rd t393 x11_2) p397 q397
         have hw397_0 := hx397_0
         cases e397
         (try replace hx397_0 := (HB.out.cell (aj w _ hx397_0)).trans hx397_0)
         have HR397_0 := Aside0.mk hi397_0
         have HC397_0 := Aside0.mk hl397_0
         clear hi397_0 hl397_0
         replace p397 := eq_true p397
         replace q397 := eq_true q397
         refine fW (n := 13) (S := fun w' => w'.cell? ⟨gb387, 0, none⟩ = some (.slice (some ad397) l0_0.length c0_0) ∧ w'.cell? ⟨gb387, 1, none⟩ = some (.slice A0_1 l0_1.length c0_1) ∧ w'.cell? (ad396.add (x11_2).toNat) = some (.int .i64 (rd t393 x11_2)) ∧ w'.cell? (ad397.add ((rd t393 x11_2)).toNat) = some (.slice A397_0 (af l0_0 (rd t393 x11_2)).length c397_0)) (ds := [10, 11]) #[false, false, false, false, false, false, false, false, false, false, false, false, false] (by kernel_rfl) rfl rfl ⟨(am BK387.out 0).trans rfl, (am BK387.out 1).trans rfl, hx396_0, ((HB.out.cell (aj w _ hw397_0)).trans hw397_0)⟩ (fun hHeld => ?_); refine aH nD nG (fun HT_ HW_ => ?_)
         generalize wr.drew = w25 at HO_9 HO_10 BK387 HB HR397_0 hx396_0 hx397_0 hHeld ⊢
         refine zp HT_ 0 36 ?_
         refine zp HT_ 1 37 ?_
         refine zp HT_ 3 39 ?_
         refine zp HT_ 4 40 ?_
         refine zp HT_ 5 41 ?_
         refine zt HT_ HW_ 2 38 hHeld ?_ (hy := by rintro w' ⟨s0, s1, s2, s3⟩; go_simp; with_reducible rfl)
         refine zt HT_ HW_ 6 42 hHeld ?_ (hy := by rintro w' ⟨s0, s1, s2, s3⟩; go_simp; with_reducible rfl)
         refine zp HT_ 7 43 ?_
         refine zt HT_ HW_ 8 44 hHeld ?_ (hy := by rintro w' ⟨s0, s1, s2, s3⟩; go_simp; with_reducible rfl)
         refine zg HT_ 9 45 Tryz.func48 #[.slice A397_0 (af l0_0 (rd t393 x11_2)).length c397_0] (fun K hK => ?_)
         with_reducible refine (i4 _ _ (af l0_0 (rd t393 x11_2)) t398 _ ?side1 ?side2 A22.out).mono ?_
         (case side1 => exact zC (Kd.C_below HR397_0.out HB.out))
         (case side2 => exact HC397_0.out)
         rintro e w26 ⟨v399, rfl, ho0, hb⟩
         have HS2_ := (hb.cell (aj _ _ (hHeld.2.2.1))).trans (hHeld.2.2.1)
         refine ⟨_, rfl, ?_⟩
         replace HO_9 := zM (Kd.S_elder' (by (with_reducible repeat (first | apply Kd.S_alloc | apply Kd.S_drewN | apply Kd.S_drew)); exact HO_9.out) (Kd.R_base ho0) hb)
         have HO400 := zM (Kd.R_lower (Kd.R_new' ho0 (Kd.R_lt (zR HO_10.out))) (ai zB))
         replace HO_10 := zM (Kd.R_elder' (zR HO_10.out) (Kd.R_base ho0) hb)
         replace BK387 := zJ BK387 hb
         replace HB := zM (ah zB hb)
         (try clear hb)
         (try clear ho0)
         obtain ⟨Ao28, co28, eo28⟩ := Kd.R_slice HO400.out
         (first | subst eo28 | (injection eo28 with f1_ f2_ f3_; have f4_ := f1_.symm; have f5_ := f3_.symm; clear f1_ f2_ f3_; subst f4_; subst f5_))
         refine hK.out _ _ ⟨(am BK387.out 0).trans rfl, (am BK387.out 1).trans rfl, HS2_, ((HB.out.cell (aj w _ hw397_0)).trans hw397_0)⟩ (fun hHeld => ?_)
         clear hK K
         refine zn 45 ?_
         refine gy (i := 10) (N := some 46) #[true, true, true, true, true, true, true, true, true, true, true, false, false] rfl rfl (bm HT_.out (by kernel_rfl)) (by decide) (fun K hK => ?_)
         refine eW (w1 := ?_) (v := ?_) (by rfl) rfl ?_ ?_
         rotate_left 2
         · go_simp
           constructor
           · rfl
           · rfl
         refine hK.out _ _ ?_
         clear hK K
         refine zn 46 ?_
         refine gy (i := 11) (N := some 47) #[true, true, true, true, true, true, true, true, true, true, true, true, false] rfl rfl (bm HT_.out (by kernel_rfl)) (by decide) (fun K hK => ?_)
         refine Kd.S_append_step (Kd.slice 3 (Kd.int .i64)) (w0 := w) w.heap.size (by rfl) (.tmp 36) (.tmp 46) 27 25 (.slice none 0 0) 24 rfl Tryz.underlying27 bR rfl (by decide) (by omega) u9 x9_2 t398 [.slice Ao28 t398.length co28] (fun k_ => some k_ ≠ (.slice (some ad396) t393.length co24 : Value).ownBlock) (fun k_ => some k_ = (.slice Ao28 t398.length co28 : Value).ownBlock) rfl rfl ?aP (fun k_ hk_ => ((Kd.R_mono (ok' := fun k_ => ((fun k_ => some k_ ≠ (.slice (some ad396) t393.length co24 : Value).ownBlock)) k_ ∧ some k_ ≠ (u9 : Value).ownBlock) (Kd.R_apart' (HO400.out) (Kd.S_typed HO_9.out) (by decide)) (fun k_ hk => ⟨hk.1.2, hk.2⟩))).1 k_ hk_.symm) ?aF ?aO ?aB ?aS ?aL ?_
         (case aP => exact Kd.M_row (Kd.R_mono (Kd.R_tight rfl (Kd.R_mono (ok' := fun k_ => ((fun k_ => some k_ ≠ (.slice (some ad396) t393.length co24 : Value).ownBlock)) k_ ∧ some k_ ≠ (u9 : Value).ownBlock) (Kd.R_apart' (HO400.out) (Kd.S_typed HO_9.out) (by decide)) (fun k_ hk => ⟨hk.1.2, hk.2⟩))) (fun _ h_ => h_)))
         (case aB => exact zB)
         (case aF => exact (fun k_ hk => Kd.fresh' (Kd.R_lt (zR HO_10.out)) k_ hk))
         (case aO => exact (by (with_reducible repeat (first | apply Kd.S_alloc | apply Kd.S_drewN | apply Kd.S_drew)); exact Kd.S_mono HO_9.out (fun k_ hk => ⟨hk.1, fun e_ => hk.2 e_⟩)))
         (case aS => exact (ai zB))
         (case aL => have := LMc23.out; omega)
         intro v402 w27 ho hb hg hat
         rw [← Ny401.out] at ho
         replace HO_10 := zM (Kd.R_over' (zR HO_10.out) (Kd.S_typed (by (with_reducible repeat (first | apply Kd.S_alloc | apply Kd.S_drewN | apply Kd.S_drew)); exact HO_9.out)) (by decide) hg)
         replace BK387 := zM (bc (g := gb387) (o := .cells #[.slice (some ad397) l0_0.length c0_0, .slice A0_1 l0_1.length c0_1] 52 (0, 0)) (zK BK387.out) hg (Kd.S_ne HO_9.out BK387.out (by decide)))
         replace HB := zM (hb)
         have HO403 := zM (ho)
         clear HO_9 HO400
         clear ho hb hg hat
         refine hK.out _ _ ?_
         clear hK K
         refine zn 47 ?_
         refine zp HT_ 12 9 ?_
         refine zo HT_ ?_
         try go_wp2
         go_roundg k2
         case measure => have := HJ5.out; have := HK2.out; omega
         case rel => exact ⟨(y401), (wrap64 (x11_2 + 1)), (by first | rfl | (simp; done) | (simp [*]; done)), H', ⟨by have := HJ5.out; have := HK2.out; omega⟩, ⟨by (with_reducible repeat (first | apply Kd.S_alloc | apply Kd.S_drewN | apply Kd.S_drew)); exact HO403.out⟩, ⟨by (with_reducible repeat (first | apply Kd.R_alloc | apply Kd.R_drewN | apply Kd.R_drew)); exact Kd.R_mono HO_10.out (fun _ hk => trivial)⟩, ⟨zK BK387.out⟩, ⟨zB⟩⟩
       · rw [if_neg c18] at H
         have c18b0 : decide (x11_2 < (t393.length : Int)) = false := ar c18
         clear c18
         obtain rfl := ao H
         obtain ⟨Ao29, co29, eo29⟩ := Kd.R_slice HO_10.out
         subst eo29
         go_wp2
         go_ret
         exact ⟨_, by first | rfl | (simp [al, ak] <;> rfl) | (simp [*, al, ak] <;> rfl), by (with_reducible repeat (first | apply Kd.S_alloc | apply Kd.S_drewN | apply Kd.S_drew)); exact Kd.S_mono HO_9.out (fun _ hk => trivial), zB⟩
def cV : Nat → List Int → List Int → List Int → Int → Option (List Int)
 | 0, _, _, _, _ => none
 | k + 1, x0, x1, x5, x6 => if x6 < (x0.length : Int) then (if 0 ≤ x6 then ((f9 k x1 (rd x0 x6)).bind fun t408 => (if t408 = true then (cV k x0 x1 x5 (wrap64 (x6 + 1))) else (if x5.length < 17592186044416 then (cV k x0 x1 (x5 ++ [rd x0 x6]) (wrap64 (x6 + 1))) else (none)))) else (none)) else (some x5)
def fa (k : Nat) (l0 : List Int) (l1 : List Int) : Option (List Int) := cV k l0 l1 (([] : List Int)) 0
theorem dm (k : Nat) (A0 : Option Addr) (c0 : Nat) (l0 : List Int) (A1 : Option Addr) (c1 : Nat) (l1 : List Int) (r : List Int) (w : World) (hr0 : Kd.C (Kd.int .i64) w A0 l0.length l0) (hc0 : l0.length ≤ c0) (hr1 : Kd.C (Kd.int .i64) w A1 l1.length l1) (hc1 : l1.length ≤ c1) (h : fa k l0 l1 = some r) :
 Calls Tryz.prog 73 #[.slice A0 l0.length c0, .slice A1 l1.length c1] w fun e w' => ∃ v0_ : Value, e = .returned (v0_) ∧ Kd.R (Kd.int .i64) 3 w' w.heap.size (fun _ => True) v0_ r ∧ Below w.heap.size w w' := by
 have HR0 := Aside0.mk hr0
 have HC0 := Aside0.mk hc0
 clear hr0 hc0
 have HR1 := Aside0.mk hr1
 have HC1 := Aside0.mk hc1
 clear hr1 hc1
 have HB := zM (Below.refl w.heap.size w)
 have H := h
 unfold fa at H
 clear h
 obtain ⟨y404, hy404⟩ : ∃ y_ : List Int, y_ = (([] : List Int)) := ⟨_, rfl⟩
 replace H : (cV k l0 l1 y404 0) = some r := by first | (rw [hy404]; with_reducible exact H) | (have H2_ := (Option.bind_some _ _).symm.trans H; rw [hy404]; with_reducible exact H2_) | (have H2_ := (Option.bind_some _ _).symm.trans H; with_reducible exact H2_) | with_reducible exact H | (rw [hy404]; exact H) | exact H
 have Ny404 := Aside0.mk hy404
 clear hy404
 have H' := Aside0.mk H
 clear H
 go_enter Tryz.func73, Tryz.ntmps73
 go_wp2_with (first | ((with_reducible refine ap (N := 7) rfl ?_); refine Kd.R_lit (Kd.int .i64) _ 3 ?hg (N := 7) ?hd (xs := ([] : List Int)) (inner := []) (ok := fun _ => True) (okp := fun _ => True) ?hr ?hp (fun _ hk => hk) trivial (Below.refl _ _) (au _) (by simp) ?_; (case hd => rfl); (case hg => rfl); (case hr => first | (go_simp; done) | (go_simp; rfl)); (case hp => exact (Reps.none _ _)); intro v405 w3 ho4 hb hg_ hnew_; clear hg_ hnew_; (first | rw [← Ny404.out] at ho4 | (simp only [Int.reduceToNat] at ho4; rw [← Ny404.out] at ho4)); have HO406 := zM (Kd.R_lower ho4 (ai zB)); replace HB := zM (ah zB hb); clear hb ho4))
 go_loopg [5, 6] k (fun kq v5 v6 w' => ∃ (x5_1 : List Int) (x6_1 : Int), v6 = .int .i64 x6_1 ∧ Aside0 (cV kq l0 l1 x5_1 x6_1 = some r) ∧ Aside0 (kq ≤ k) ∧ Aside0 (Kd.R (Kd.int .i64) 3 w' w.heap.size (fun _ => True) v5 x5_1) ∧ Aside0 (Below w.heap.size w w'))
 case atStart => exact ⟨(y404), (0), (by first | rfl | (simp; done) | (simp [*]; done)), H', ⟨au _⟩, ⟨zR HO406.out⟩, ⟨zB⟩⟩
 case round =>
  clear H'
  try clear c1
  try clear p2
  obtain ⟨x5_1, x6_1, rfl, HA, HK1, HO_5, HB⟩ := hrel
  cases gk with
  | zero => exact absurd HA.out (by simp [cV])
  | succ k1 =>
   have H := HA.out
   clear HA
   simp only [cV] at H
   by_cases c5 : x6_1 < (l0.length : Int)
   · rw [if_pos c5] at H
     have c5b0 := ag c5
     clear c5
     by_cases c6 : 0 ≤ x6_1
     case neg => rw [if_neg c6] at H; simp at H
     rw [if_pos c6] at H
     have c6b0 := ag c6
     clear c6
     replace H := ax H
     obtain ⟨t408, A70, H⟩ := H
     have A7 := Aside0.mk A70
     clear A70
     by_cases c8 : t408 = true
     · subst c8
       rw [if_pos rfl] at H
       have H' := Aside0.mk H
       clear H
       have p407 : 0 ≤ (x6_1 : Int) := ac zA
       have q407 : x6_1 < (l0.length : Int) := ac zA
       obtain ⟨ad407, e407, hx407_0⟩ := Kd.at_int HR0.out x6_1 p407 q407
       cases e407
       (try replace hx407_0 := (HB.out.cell (aj w _ hx407_0)).trans hx407_0)
       replace p407 := eq_true p407
       replace q407 := eq_true q407
       go_wp2_with (first | ((with_reducible refine ay (f := 95) rfl ?_); refine zc 19 Tryz.func95 #[.slice A1 l1.length c1, .int .i64 (rd l0 x6_1)] ?_; (with_reducible refine (kN k1 _ _ l1 (rd l0 x6_1) true _ ?side1 ?side2 A7.out).mono ?_); (case side1 => exact zC (Kd.C_below HR1.out HB.out)); (case side2 => exact HC1.out); rintro e w' ⟨rfl, ⟨nd, rfl⟩⟩; refine ⟨_, rfl, ?_⟩))
       go_roundg k1
       case measure => have := HK1.out; omega
       case rel => exact ⟨(x5_1), (wrap64 (x6_1 + 1)), (by first | rfl | (simp; done) | (simp [*]; done)), H', ⟨by have := HK1.out; omega⟩, ⟨zR HO_5.out⟩, ⟨zB⟩⟩
     · replace c8 := Bool.eq_false_iff.mpr c8
       subst c8
       rw [if_neg (show ¬ (false = true) by decide)] at H
       by_cases c9 : x5_1.length < 17592186044416
       case neg => rw [if_neg c9] at H; simp at H
       rw [if_pos c9] at H
       have LMc9 := Aside0.mk c9
       clear c9
       obtain ⟨y410, hy410⟩ : ∃ y_ : List Int, y_ = (x5_1 ++ [rd l0 x6_1]) := ⟨_, rfl⟩
       replace H : (cV k1 l0 l1 y410 (wrap64 (x6_1 + 1))) = some r := by first | (rw [hy410]; with_reducible exact H) | (have H2_ := (Option.bind_some _ _).symm.trans H; rw [hy410]; with_reducible exact H2_) | (have H2_ := (Option.bind_some _ _).symm.trans H; with_reducible exact H2_) | with_reducible exact H | (rw [hy410]; exact H) | exact H
       have Ny410 := Aside0.mk hy410
       clear hy410
       have H' := Aside0.mk H
       clear H
       have p407 : 0 ≤ (x6_1 : Int) := ac zA
       have q407 : x6_1 < (l0.length : Int) := ac zA
       obtain ⟨ad407, e407, hx407_0⟩ := Kd.at_int HR0.out x6_1 p407 q407
       cases e407
       (try replace hx407_0 := (HB.out.cell (aj w _ hx407_0)).trans hx407_0)
       replace p407 := eq_true p407
       replace q407 := eq_true q407
       go_wp2_with (first | ((with_reducible refine ay (f := 95) rfl ?_); refine zc 19 Tryz.func95 #[.slice A1 l1.length c1, .int .i64 (rd l0 x6_1)] ?_; (with_reducible refine (kN k1 _ _ l1 (rd l0 x6_1) false _ ?side1 ?side2 A7.out).mono ?_); (case side1 => exact zC (Kd.C_below HR1.out HB.out)); (case side2 => exact HC1.out); rintro e w' ⟨rfl, ⟨nd, rfl⟩⟩; refine ⟨_, rfl, ?_⟩; have p409 : 0 ≤ (x6_1 : Int) := ac zA; have q409 : x6_1 < (l0.length : Int) := ac zA; obtain ⟨ad409, e409, hx409_0⟩ := Kd.at_int HR0.out x6_1 p409 q409; obtain rfl : ad407 = ad409 := (by injection e409); (try replace hx409_0 := (HB.out.cell (aj w _ hx409_0)).trans hx409_0); replace p409 := eq_true p409; replace q409 := eq_true q409) | ((with_reducible refine br (b := .append) (xs := #[.tmp 21, .tmp 26]) rfl ?_); at_builtin; refine Kd.R_append (Kd.int .i64) (w0 := w) w.heap.size rfl (.tmp 21) (.tmp 26) 25 3 (.int .i64 0) 8 rfl Tryz.underlying25 bq rfl (by decide) (by omega) u5 x5_1 (rd l0 x6_1) [.int .i64 (rd l0 x6_1)] (fun _ => True) (fun _ => False) rfl rfl ?aP (fun _ hk => hk.elim) ?aF ?aO ?aB ?aS ?aL ?_; (case aP => exact rfl); (case aB => exact zB); (case aF => exact (fun _ _ => trivial)); (case aO => exact (zR HO_5.out)); (case aS => exact (ai zB)); (case aL => have := LMc9.out; omega); intro v411 w10 ho hb hg hat; rw [← Ny410.out] at ho; replace HB := zM (hb); have HO412 := zM (ho); clear HO_5; clear ho hb hg hat))
       go_roundg k1
       case measure => have := HK1.out; omega
       case rel => exact ⟨(y410), (wrap64 (x6_1 + 1)), (by first | rfl | (simp; done) | (simp [*]; done)), H', ⟨by have := HK1.out; omega⟩, ⟨zR HO412.out⟩, ⟨zB⟩⟩
   · rw [if_neg c5] at H
     have c5b0 : decide (x6_1 < (l0.length : Int)) = false := ar c5
     clear c5
     obtain rfl := ao H
     go_wp2
     go_ret
     exact ⟨_, by first | rfl | (simp [al, ak] <;> rfl) | (simp [*, al, ak] <;> rfl), by (with_reducible repeat (first | apply Kd.R_alloc | apply Kd.R_drewN | apply Kd.R_drew)); exact HO_5.out, zB⟩
end Go.Proofs.YtadjbmcfgjmhkaaGreat.P
