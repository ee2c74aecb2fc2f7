import Derived.Test.YtjgcehldepfaaaaGreatForestMeetsG10
import Derived.Test.YtjgcehldepfaaaaGreatForestMeetsG11
namespace Go.Proofs.YtjgcehldepfaaaaGreat.P
open Go.RowKit YtjgcehldepfaaaaGreatW.PrintWords YtjgcehldepfaaaaGreatW.PrintLast YtjgcehldepfaaaaGreatW.PrintMore
attribute [local go_sem] bl bh bi bd bj bf bk bg
set_option maxRecDepth 100000
set_option maxHeartbeats 8000000
set_option linter.unusedVariables false
set_option linter.unusedSimpArgs false
mutual
def dM : Nat → List Int → List Int → Int → Int → List (S63) → Option (List Int)
 | 0, _, _, _, _, _ => none
 | k + 1, x1, x7, x8, x321000, x321001 => if x8 < (x1.length : Int) then (dL k x1 x7 x8 0 x321000 x321001) else (some x7)
def dL : Nat → List Int → List Int → Int → Int → Int → List (S63) → Option (List Int)
 | 0, _, _, _, _, _, _ => none
 | k + 1, x1, x7, x8, x9, x321000, x321001 => if x9 < (x1.length : Int) then (dA k x1 x7 x8 x9 0 x321000 x321001) else (dM k x1 x7 (wrap64 (x8 + 1)) x321000 x321001)
def dA : Nat → List Int → List Int → Int → Int → Int → Int → List (S63) → Option (List Int)
 | 0, _, _, _, _, _, _, _ => none
 | k + 1, x1, x7, x8, x9, x10, x321000, x321001 => if x10 < (x7.length : Int) then (if 0 ≤ x9 then (if x9 < (x1.length : Int) then ((ew k x7 (rd x1 x9)).bind fun t325 => (dN k x1 x7 x8 x9 x10 (!t325) x321000 x321001)) else (none)) else (none)) else (dN k x1 x7 x8 x9 x10 false x321000 x321001)
def dN : Nat → List Int → List Int → Int → Int → Int → Bool → Int → List (S63) → Option (List Int)
 | 0, _, _, _, _, _, _, _, _ => none
 | k + 1, x1, x7, x8, x9, x10, x37, x321000, x321001 => if x37 = true then (if 0 ≤ x10 then (if x10 < (x7.length : Int) then (if 0 ≤ x9 then (if x9 < (x1.length : Int) then ((gj k x321000 x321001 (rd x7 x10) (rd x1 x9)).bind fun t328 => (if t328 = true then ((ia k x7 (rd x1 x9)).bind fun t330 => (dA k x1 t330 x8 x9 (wrap64 (x10 + 1)) x321000 x321001)) else (dA k x1 x7 x8 x9 (wrap64 (x10 + 1)) x321000 x321001))) else (none)) else (none)) else (none)) else (none)) else (dL k x1 x7 x8 (wrap64 (x9 + 1)) x321000 x321001)
end
def hX (k : Nat) (a0_0 : Int) (l0_1 : List (S63)) (l1 : List Int) (a2 : Int) : Option (List Int) := dM k l1 (([a2] : List Int)) 0 a0_0 l0_1
def spec_l2Reach.T11 : Bool × List (List Nat × List Nat) := (true, [([], []), ([], []), ([], []), ([1, 2], [1, 2]), ([3], [3]), ([], []), ([], []), ([5, 6], [5, 6]), ([7], [7]), ([0, 4, 8], [0, 4, 8])])
def oU : List Nat := [0, 0, 0, 6, 14, 0, 0, 96, 224, 511]
theorem lr : aQ .any (ct Tryz.f54 11) = spec_l2Reach.T11 := by kernel_rfl
theorem lu : bK spec_l2Reach.T11.2 oU = true := by kernel_rfl
theorem oT (k : Nat) (a0_0 : Int) (A0_1 : Option Addr) (c0_1 : Nat) (l0_1 : List (S63)) (A1 : Option Addr) (c1 : Nat) (l1 : List Int) (a2 : Int) (r : List Int) (w : World) (hr0_1 : Kd.C k63 w A0_1 l0_1.length l0_1) (hc0_1 : l0_1.length ≤ c0_1) (hr1 : Kd.C (Kd.int .i64) w A1 l1.length l1) (hc1 : l1.length ≤ c1) (h : hX k a0_0 l0_1 l1 a2 = some r) :
 Calls Tryz.prog 54 #[.agg #[.int .i64 a0_0, .slice A0_1 l0_1.length c0_1], .slice A1 l1.length c1, .int .i64 a2] w fun e w' => ∃ v0_ : Value, e = .returned (v0_) ∧ Kd.R (Kd.int .i64) 3 w' w.heap.size (fun _ => True) v0_ r ∧ Below w.heap.size w w' := by
 have hu29 := Tryz.underlying29
 have HR0_1 := Aside0.mk hr0_1
 have HC0_1 := Aside0.mk hc0_1
 clear hr0_1 hc0_1
 have HR1 := Aside0.mk hr1
 have HC1 := Aside0.mk hc1
 clear hr1 hc1
 have HB := zM (Below.refl w.heap.size w)
 have H := h
 unfold hX at H
 clear h
 obtain ⟨y321, hy321⟩ : ∃ y_ : List Int, y_ = (([a2] : List Int)) := ⟨_, rfl⟩
 replace H : (dM k l1 y321 0 a0_0 l0_1) = some r := by first | (rw [hy321]; with_reducible exact H) | (have H2_ := (Option.bind_some _ _).symm.trans H; rw [hy321]; with_reducible exact H2_) | (have H2_ := (Option.bind_some _ _).symm.trans H; with_reducible exact H2_) | with_reducible exact H | (rw [hy321]; exact H) | exact H
 have Ny321 := Aside0.mk hy321
 clear hy321
 have H' := Aside0.mk H
 clear H
 go_enter Tryz.func54, Tryz.ntmps54
 go_wp2_with (first | ((with_reducible refine au (N := 3) rfl ?_); refine zb (w := w) 3 #[.int .i64 a0_0, .slice A0_1 l0_1.length c0_1] 29 zB ?_; clear HB; intro gb320 w4 HB BK320 GW320; have GE320 := GW320) | ((with_reducible refine au (N := 12) rfl ?_); refine Kd.R_lit (Kd.int .i64) _ 3 ?hg (N := 12) ?hd (xs := ([a2] : List Int)) (inner := [.int .i64 a2]) (ok := fun _ => True) (okp := fun _ => True) ?hr ?hp (fun _ hk => hk) trivial (Below.refl _ _) (ar _) (by simp) ?_; (case hd => rfl); (case hg => rfl); (case hr => first | (go_simp; done) | (go_simp; rfl)); (case hp => exact (Reps.one (show Kd.M (Kd.int .i64) _ _ _ a2 [.int .i64 a2] from rfl) (Reps.none _ _))); intro v322 w5 ho6 hb hg_ hnew_; clear hg_ hnew_; (first | rw [← Ny321.out] at ho6 | (simp only [Int.reduceToNat] at ho6; rw [← Ny321.out] at ho6)); have HO323 := zM (Kd.R_lower ho6 (am zB)); replace BK320 := zJ BK320 hb; replace HB := zM (ag zB hb); clear hb ho6))
 go_loopg [7, 8] k (fun kq v7 v8 w' => ∃ (x7_1 : List Int) (x8_1 : Int), v8 = .int .i64 x8_1 ∧ Aside0 (dM kq l1 x7_1 x8_1 a0_0 l0_1 = some r) ∧ Aside0 (kq ≤ k) ∧ Aside0 (Kd.R (Kd.int .i64) 3 w' w.heap.size (fun _ => True) v7 x7_1) ∧ Aside0 (w'.heap[gb320]? = some (.cells #[.int .i64 a0_0, (.slice A0_1 l0_1.length c0_1)] 29 (0, 0))) ∧ Aside0 (Below w.heap.size w w'))
 case atStart => exact ⟨(y321), (0), (by first | rfl | (simp; done) | (simp [*]; done)), H', ⟨ar _⟩, ⟨zR HO323.out⟩, ⟨zK BK320.out⟩, ⟨zB⟩⟩
 case round =>
  clear H'
  try clear c1
  try clear p2
  try clear c5
  obtain ⟨x7_1, x8_1, rfl, HA, HK1, HO_7, BK320, HB⟩ := hrel
  cases gk with
  | zero => exact absurd HA.out (by simp [dM])
  | succ k1 =>
   have H := HA.out
   clear HA
   simp only [dM] at H
   by_cases c7 : x8_1 < (l1.length : Int)
   · rw [if_pos c7] at H
     have c7b0 := af c7
     clear c7
     have H' := Aside0.mk H
     clear H
     go_wp2
     go_loopg [7, 9] k1 (fun kq v7 v9 w' => ∃ (x7_2 : List Int) (x9_2 : Int), v9 = .int .i64 x9_2 ∧ Aside0 (dL kq l1 x7_2 x8_1 x9_2 a0_0 l0_1 = some r) ∧ Aside0 (kq ≤ k1) ∧ Aside0 (Kd.R (Kd.int .i64) 3 w' w.heap.size (fun _ => True) v7 x7_2) ∧ Aside0 (w'.heap[gb320]? = some (.cells #[.int .i64 a0_0, (.slice A0_1 l0_1.length c0_1)] 29 (0, 0))) ∧ Aside0 (Below w.heap.size w w'))
     case atStart => exact ⟨(x7_1), (0), (by first | rfl | (simp; done) | (simp [*]; done)), H', ⟨ar _⟩, ⟨zR HO_7.out⟩, ⟨zK BK320.out⟩, ⟨zB⟩⟩
     case round =>
      clear H'
      try clear c1
      try clear p2
      try clear c5
      try clear c7
      try clear c7b0
      try clear p2
      obtain ⟨x7_2, x9_2, rfl, HA, HK2, HO_7, BK320, HB⟩ := hrel
      cases gk with
      | zero => exact absurd HA.out (by simp [dL])
      | succ k2 =>
       have H := HA.out
       clear HA
       simp only [dL] at H
       by_cases c8 : x9_2 < (l1.length : Int)
       · rw [if_pos c8] at H
         have c8b0 := af c8
         clear c8
         have H' := Aside0.mk H
         clear H
         go_wp2
         go_loopg [7, 10] k2 (fun kq v7 v10 w' => ∃ (x7_3 : List Int) (x10_3 : Int), v10 = .int .i64 x10_3 ∧ Aside0 (dA kq l1 x7_3 x8_1 x9_2 x10_3 a0_0 l0_1 = some r) ∧ Aside0 (kq ≤ k2) ∧ Aside0 (Kd.R (Kd.int .i64) 3 w' w.heap.size (fun _ => True) v7 x7_3) ∧ Aside0 (w'.heap[gb320]? = some (.cells #[.int .i64 a0_0, (.slice A0_1 l0_1.length c0_1)] 29 (0, 0))) ∧ Aside0 (Below w.heap.size w w'))
         case atStart => exact ⟨(x7_2), (0), (by first | rfl | (simp; done) | (simp [*]; done)), H', ⟨ar _⟩, ⟨zR HO_7.out⟩, ⟨zK BK320.out⟩, ⟨zB⟩⟩
         case round =>
          clear H'
          try clear c1
          try clear p2
          try clear c5
          try clear c7
          try clear c7b0
          try clear c8
          try clear c8b0
          try clear p2
          obtain ⟨x7_3, x10_3, rfl, HA, HK3, HO_7, BK320, HB⟩ := hrel
          cases gk with
          | zero => exact absurd HA.out (by simp [dA])
          | succ k3 =>
           have H := HA.out
           clear HA
           simp only [dA] at H
           have HC9 := Aside0.mk H
           clear H
           go_upto_region 9 with (fail)
           go_cut [37] (fun v37 wc => ∃ (kq : Nat) (x37_8 : Bool), v37 = .bool x37_8 ∧ Aside0 (dN kq l1 x7_3 x8_1 x9_2 x10_3 x37_8 a0_0 l0_1 = some r) ∧ Aside0 (kq ≤ k3) ∧ Aside0 (Kd.R (Kd.int .i64) 3 wc w.heap.size (fun _ => True) u7 x7_3) ∧ Aside0 (wc.heap[gb320]? = some (.cells #[.int .i64 a0_0, (.slice A0_1 l0_1.length c0_1)] 29 (0, 0))) ∧ Aside0 (Below w.heap.size w wc))
           case first =>
            have H := HC9.out
            clear HC9
            by_cases c10 : x10_3 < (x7_3.length : Int)
            · rw [if_pos c10] at H
              have c10b0 := af c10
              clear c10
              (first | rw [c10b0] | (simp only [bW, dt]; rw [c10b0]) | skip)
              by_cases c11 : 0 ≤ x9_2
              case neg => rw [if_neg c11] at H; simp at H
              rw [if_pos c11] at H
              have c11b0 := af c11
              clear c11
              by_cases c12 : x9_2 < (l1.length : Int)
              case neg => rw [if_neg c12] at H; simp at H
              rw [if_pos c12] at H
              have c12b0 := af c12
              clear c12
              replace H := av H
              obtain ⟨t325, A130, H⟩ := H
              have A13 := Aside0.mk A130
              clear A130
              have H' := Aside0.mk H
              clear H
              obtain ⟨Ao14, co14, eo14⟩ := Kd.R_slice HO_7.out
              subst eo14
              have p324 : 0 ≤ (x9_2 : Int) := ac zA
              have q324 : x9_2 < (l1.length : Int) := ac zA
              obtain ⟨ad324, e324, hx324_0⟩ := Kd.at_int HR1.out x9_2 p324 q324
              cases e324
              (try replace hx324_0 := (HB.out.cell (aj w _ hx324_0)).trans hx324_0)
              replace p324 := eq_true p324
              replace q324 := eq_true q324
              go_wp2_with (first | (go_at_call 53; (with_reducible refine (dQ k3 _ _ x7_3 (rd l1 x9_2) t325 _ ?side1 ?side2 A13.out).mono ?_); (case side1 => exact zC (Kd.R_reads' HO_7.out).2.2); (case side2 => exact (Kd.R_reads' HO_7.out).2.1); rintro e w' ⟨rfl, ⟨nd, rfl⟩⟩))
              go_meet
              case rel => exact ⟨_, (!t325), (by first | rfl | (simp; done) | (simp [*]; done)), H', ⟨by have := HK1.out; have := HK2.out; have := HK3.out; first | omega | exact ar _⟩, ⟨zR HO_7.out⟩, ⟨zK BK320.out⟩, ⟨zB⟩⟩
            · rw [if_neg c10] at H
              have c10b0 : decide (x10_3 < (x7_3.length : Int)) = false := ao c10
              clear c10
              (first | rw [c10b0] | (simp only [bW, dt]; rw [c10b0]) | skip)
              have H' := Aside0.mk H
              clear H
              obtain ⟨Ao15, co15, eo15⟩ := Kd.R_slice HO_7.out
              subst eo15
              go_wp2
              go_meet
              case rel => exact ⟨_, (false), (by first | rfl | (simp; done) | (simp [*]; done)), H', ⟨by have := HK1.out; have := HK2.out; have := HK3.out; first | omega | exact ar _⟩, ⟨zR HO_7.out⟩, ⟨zK BK320.out⟩, ⟨zB⟩⟩
           case rest =>
            clear HC9
            try clear c1
            try clear p2
            try clear p3
            try clear q3
            try clear hx3
            try clear c5
            try clear c7
            try clear c7b0
            try clear c8
            try clear c8b0
            try clear c10
            try clear c10b0
            try clear c11
            try clear c11b0
            try clear c12
            try clear c12b0
            try clear hx324_0
            try clear p2
            try clear p324
            try clear q324
            obtain ⟨kq, x37_8, rfl, HA, HJ8, HO_7, BK320, HB⟩ := hcut
            cases kq with
            | zero => exact absurd HA.out (by simp [dN])
            | succ kj8 =>
             have H := HA.out
             clear HA
             simp only [dN] at H
             by_cases c16 : x37_8 = true
             · subst c16
               rw [if_pos rfl] at H
               by_cases c17 : 0 ≤ x10_3
               case neg => rw [if_neg c17] at H; simp at H
               rw [if_pos c17] at H
               have c17b0 := af c17
               clear c17
               by_cases c18 : x10_3 < (x7_3.length : Int)
               case neg => rw [if_neg c18] at H; simp at H
               rw [if_pos c18] at H
               have c18b0 := af c18
               clear c18
               by_cases c19 : 0 ≤ x9_2
               case neg => rw [if_neg c19] at H; simp at H
               rw [if_pos c19] at H
               have c19b0 := af c19
               clear c19
               by_cases c20 : x9_2 < (l1.length : Int)
               case neg => rw [if_neg c20] at H; simp at H
               rw [if_pos c20] at H
               have c20b0 := af c20
               clear c20
               replace H := av H
               obtain ⟨t328, A210, H⟩ := H
               have A21 := Aside0.mk A210
               clear A210
               by_cases c22 : t328 = true
               · subst c22
                 rw [if_pos rfl] at H
                 replace H := av H
                 obtain ⟨t330, A230, H⟩ := H
                 have A23 := Aside0.mk A230
                 clear A230
                 have H' := Aside0.mk H
                 clear H
                 try go_wp2
                 replace HO_7 := zM (Kd.R_drew HO_7.out)
                 replace BK320 := zM (aq BK320.out)
                 replace HB := zM (aD HB.out)
                 obtain ⟨Ao25, co25, eo25⟩ := Kd.R_slice HO_7.out
                 (first | subst eo25 | (injection eo25 with f1_ f2_ f3_; have f4_ := f1_.symm; have f5_ := f3_.symm; clear f1_ f2_ f3_; subst f4_; subst f5_))
                 have p326 : 0 ≤ (x10_3 : Int) := ac zA
                 have q326 : x10_3 < (x7_3.length : Int) := ac zA
                 obtain ⟨ad326, e326, hx326_0⟩ := Kd.at_int (Kd.R_reads' HO_7.out).2.2 x10_3 p326 q326
                 cases e326
                 replace p326 := eq_true p326
                 replace q326 := eq_true q326
                 have p327 : 0 ≤ (x9_2 : Int) := ac zA
                 have q327 : x9_2 < (l1.length : Int) := ac zA
                 obtain ⟨ad327, e327, hx327_0⟩ := Kd.at_int HR1.out x9_2 p327 q327
                 have hw327_0 := hx327_0
                 cases e327
                 (try replace hx327_0 := (HB.out.cell (aj w _ hx327_0)).trans hx327_0)
                 replace p327 := eq_true p327
                 replace q327 := eq_true q327
                 refine zs (n := 10) (fun w' => w'.cell? ⟨gb320, 0, none⟩ = some (.int .i64 a0_0) ∧ w'.cell? ⟨gb320, 1, none⟩ = some (.slice A0_1 l0_1.length c0_1) ∧ w'.cell? (ad326.add (x10_3).toNat) = some (.int .i64 (rd x7_3 x10_3)) ∧ w'.cell? (ad327.add (x9_2).toNat) = some (.int .i64 (rd l1 x9_2))) ⟨(ah BK320.out 0).trans rfl, (ah BK320.out 1).trans rfl, hx326_0, ((HB.out.cell (aj w _ hw327_0)).trans hw327_0)⟩ (fun hHeld => ?_); refine aX lr lu (fun HT_ HW_ => ?_)
                 generalize wc.drew = w24 at HO_7 BK320 HB hx326_0 hx327_0 hHeld ⊢
                 refine zp HT_ 1 41 ?_
                 refine zp HT_ 2 42 ?_
                 refine zp HT_ 3 43 ?_
                 refine zp HT_ 5 45 ?_
                 refine zp HT_ 6 46 ?_
                 refine zp HT_ 7 47 ?_
                 refine zt HT_ HW_ 0 40 hHeld ?_ (hy := by rintro w' ⟨s0, s1, s2, s3⟩; go_simp; with_reducible rfl)
                 refine zt HT_ HW_ 4 44 hHeld ?_ (hy := by rintro w' ⟨s0, s1, s2, s3⟩; go_simp; with_reducible rfl)
                 refine zt HT_ HW_ 8 48 hHeld ?_ (hy := by rintro w' ⟨s0, s1, s2, s3⟩; go_simp; with_reducible rfl)
                 refine zg HT_ 9 49 Tryz.func64 #[.agg #[.int .i64 a0_0, .slice A0_1 l0_1.length c0_1], .int .i64 (rd x7_3 x10_3), .int .i64 (rd l1 x9_2)] (fun K hK => ?_)
                 with_reducible refine (gm kj8 a0_0 _ _ l0_1 (rd x7_3 x10_3) (rd l1 x9_2) true _ ?side1 ?side2 A21.out).mono ?_
                 (case side1 => exact zC (Kd.C_below HR0_1.out HB.out))
                 (case side2 => exact HC0_1.out)
                 rintro e w26 ⟨rfl, hb⟩
                 have HS2_ := (hb.cell (aj _ _ (hHeld.2.2.1))).trans (hHeld.2.2.1)
                 refine ⟨_, rfl, ?_⟩
                 replace HO_7 := zM (Kd.R_below (zR HO_7.out) hb)
                 replace BK320 := zJ BK320 hb
                 replace HB := zM (ag zB hb)
                 (try clear hb)
                 refine hK.out _ _ ⟨(ah BK320.out 0).trans rfl, (ah BK320.out 1).trans rfl, HS2_, ((HB.out.cell (aj w _ hw327_0)).trans hw327_0)⟩ (fun hHeld => ?_)
                 clear hK K
                 refine zn 49 ?_
                 refine zo HT_ ?_
                 have p329 : 0 ≤ (x9_2 : Int) := ac zA
                 have q329 : x9_2 < (l1.length : Int) := ac zA
                 obtain ⟨ad329, e329, hx329_0⟩ := Kd.at_int HR1.out x9_2 p329 q329
                 obtain rfl : ad327 = ad329 := (by injection e329)
                 (try replace hx329_0 := (HB.out.cell (aj w _ hx329_0)).trans hx329_0)
                 replace p329 := eq_true p329
                 replace q329 := eq_true q329
                 try go_wp2_with (first | ((with_reducible refine ax (f := 55) rfl ?_); refine zc 55 Tryz.func55 #[.slice (some ad326) x7_3.length co25, .int .i64 (rd l1 x9_2)] ?_; (with_reducible refine (lA kj8 _ _ x7_3 (rd l1 x9_2) t330 _ ?side1 ?side2 A23.out).mono ?_); (case side1 => exact zC (Kd.R_reads' HO_7.out).2.2); (case side2 => exact (Kd.R_reads' HO_7.out).2.1); rintro e w27 ⟨v331, rfl, ho0, hb⟩; refine ⟨_, rfl, ?_⟩; have HO332 := zM (Kd.R_lower (Kd.R_new' ho0 (Kd.R_lt (zR HO_7.out))) (am zB)); replace HO_7 := zM (Kd.R_elder' (zR HO_7.out) (Kd.R_base ho0) hb); replace BK320 := zJ BK320 hb; replace HB := zM (ag zB hb); (try clear hb); (try clear ho0)))
                 go_roundg kj8
                 case measure => have := HK1.out; have := HK2.out; have := HK3.out; have := HJ8.out; omega
                 case rel => exact ⟨(t330), (wrap64 (x10_3 + 1)), (by first | rfl | (simp; done) | (simp [*]; done)), H', ⟨by have := HK1.out; have := HK2.out; have := HK3.out; have := HJ8.out; omega⟩, ⟨by (with_reducible repeat (first | apply Kd.R_alloc | apply Kd.R_drewN | apply Kd.R_drew)); exact Kd.R_mono HO332.out (fun _ hk => trivial)⟩, ⟨zK BK320.out⟩, ⟨zB⟩⟩
               · replace c22 := Bool.eq_false_iff.mpr c22
                 subst c22
                 rw [if_neg (show ¬ (false = true) by decide)] at H
                 have H' := Aside0.mk H
                 clear H
                 try go_wp2
                 replace HO_7 := zM (Kd.R_drew HO_7.out)
                 replace BK320 := zM (aq BK320.out)
                 replace HB := zM (aD HB.out)
                 obtain ⟨Ao29, co29, eo29⟩ := Kd.R_slice HO_7.out
                 (first | subst eo29 | (injection eo29 with f1_ f2_ f3_; have f4_ := f1_.symm; have f5_ := f3_.symm; clear f1_ f2_ f3_; subst f4_; subst f5_))
                 have p326 : 0 ≤ (x10_3 : Int) := ac zA
                 have q326 : x10_3 < (x7_3.length : Int) := ac zA
                 obtain ⟨ad326, e326, hx326_0⟩ := Kd.at_int (Kd.R_reads' HO_7.out).2.2 x10_3 p326 q326
                 cases e326
                 replace p326 := eq_true p326
                 replace q326 := eq_true q326
                 have p327 : 0 ≤ (x9_2 : Int) := ac zA
                 have q327 : x9_2 < (l1.length : Int) := ac zA
                 obtain ⟨ad327, e327, hx327_0⟩ := Kd.at_int HR1.out x9_2 p327 q327
                 have hw327_0 := hx327_0
                 cases e327
                 (try replace hx327_0 := (HB.out.cell (aj w _ hx327_0)).trans hx327_0)
                 replace p327 := eq_true p327
                 replace q327 := eq_true q327
                 refine zs (n := 10) (fun w' => w'.cell? ⟨gb320, 0, none⟩ = some (.int .i64 a0_0) ∧ w'.cell? ⟨gb320, 1, none⟩ = some (.slice A0_1 l0_1.length c0_1) ∧ w'.cell? (ad326.add (x10_3).toNat) = some (.int .i64 (rd x7_3 x10_3)) ∧ w'.cell? (ad327.add (x9_2).toNat) = some (.int .i64 (rd l1 x9_2))) ⟨(ah BK320.out 0).trans rfl, (ah BK320.out 1).trans rfl, hx326_0, ((HB.out.cell (aj w _ hw327_0)).trans hw327_0)⟩ (fun hHeld => ?_); refine aX lr lu (fun HT_ HW_ => ?_)
                 generalize wc.drew = w28 at HO_7 BK320 HB hx326_0 hx327_0 hHeld ⊢
                 refine zp HT_ 1 41 ?_
                 refine zp HT_ 2 42 ?_
                 refine zp HT_ 3 43 ?_
                 refine zp HT_ 5 45 ?_
                 refine zp HT_ 6 46 ?_
                 refine zp HT_ 7 47 ?_
                 refine zt HT_ HW_ 0 40 hHeld ?_ (hy := by rintro w' ⟨s0, s1, s2, s3⟩; go_simp; with_reducible rfl)
                 refine zt HT_ HW_ 4 44 hHeld ?_ (hy := by rintro w' ⟨s0, s1, s2, s3⟩; go_simp; with_reducible rfl)
                 refine zt HT_ HW_ 8 48 hHeld ?_ (hy := by rintro w' ⟨s0, s1, s2, s3⟩; go_simp; with_reducible rfl)
                 refine zg HT_ 9 49 Tryz.func64 #[.agg #[.int .i64 a0_0, .slice A0_1 l0_1.length c0_1], .int .i64 (rd x7_3 x10_3), .int .i64 (rd l1 x9_2)] (fun K hK => ?_)
                 with_reducible refine (gm kj8 a0_0 _ _ l0_1 (rd x7_3 x10_3) (rd l1 x9_2) false _ ?side1 ?side2 A21.out).mono ?_
                 (case side1 => exact zC (Kd.C_below HR0_1.out HB.out))
                 (case side2 => exact HC0_1.out)
                 rintro e w30 ⟨rfl, hb⟩
                 have HS2_ := (hb.cell (aj _ _ (hHeld.2.2.1))).trans (hHeld.2.2.1)
                 refine ⟨_, rfl, ?_⟩
                 replace HO_7 := zM (Kd.R_below (zR HO_7.out) hb)
                 replace BK320 := zJ BK320 hb
                 replace HB := zM (ag zB hb)
                 (try clear hb)
                 refine hK.out _ _ ⟨(ah BK320.out 0).trans rfl, (ah BK320.out 1).trans rfl, HS2_, ((HB.out.cell (aj w _ hw327_0)).trans hw327_0)⟩ (fun hHeld => ?_)
                 clear hK K
                 refine zn 49 ?_
                 refine zo HT_ ?_
                 try go_wp2
                 go_roundg kj8
                 case measure => have := HK1.out; have := HK2.out; have := HK3.out; have := HJ8.out; omega
                 case rel => exact ⟨(x7_3), (wrap64 (x10_3 + 1)), (by first | rfl | (simp; done) | (simp [*]; done)), H', ⟨by have := HK1.out; have := HK2.out; have := HK3.out; have := HJ8.out; omega⟩, ⟨zR HO_7.out⟩, ⟨zK BK320.out⟩, ⟨zB⟩⟩
             · replace c16 := Bool.eq_false_iff.mpr c16
               subst c16
               rw [if_neg (show ¬ (false = true) by decide)] at H
               have H' := Aside0.mk H
               clear H
               go_wp2
               go_roundg kj8
               case measure => have := HK1.out; have := HK2.out; have := HK3.out; have := HJ8.out; omega
               case rel => exact ⟨(x7_3), (wrap64 (x9_2 + 1)), (by first | rfl | (simp; done) | (simp [*]; done)), H', ⟨by have := HK1.out; have := HK2.out; have := HK3.out; have := HJ8.out; omega⟩, ⟨zR HO_7.out⟩, ⟨zK BK320.out⟩, ⟨zB⟩⟩
       · rw [if_neg c8] at H
         have c8b0 : decide (x9_2 < (l1.length : Int)) = false := ao c8
         clear c8
         have H' := Aside0.mk H
         clear H
         go_wp2
         go_roundg k2
         case measure => have := HK1.out; have := HK2.out; omega
         case rel => exact ⟨(x7_2), (wrap64 (x8_1 + 1)), (by first | rfl | (simp; done) | (simp [*]; done)), H', ⟨by have := HK1.out; have := HK2.out; omega⟩, ⟨zR HO_7.out⟩, ⟨zK BK320.out⟩, ⟨zB⟩⟩
   · rw [if_neg c7] at H
     have c7b0 : decide (x8_1 < (l1.length : Int)) = false := ao c7
     clear c7
     obtain rfl := ap H
     go_wp2
     go_ret
     exact ⟨_, by first | rfl | (simp [al, ak] <;> rfl) | (simp [*, al, ak] <;> rfl), by (with_reducible repeat (first | apply Kd.R_alloc | apply Kd.R_drewN | apply Kd.R_drew)); exact HO_7.out, zB⟩
attribute [local go_sem] bl bh bi bd bj bf bk bg
set_option linter.unusedVariables false
set_option linter.unusedSimpArgs false
mutual
def cM : Nat → List Int → List (List Int) → List Int → Int → Int → List (S63) → Option ((List (List Int)))
 | 0, _, _, _, _, _, _ => none
 | k + 1, x1, x5, x6, x7, x334000, x334001 => if x7 < (x1.length : Int) then (if 0 ≤ x7 then ((ew k x6 (rd x1 x7)).bind fun t341 => (if t341 = true then (cM k x1 x5 x6 (wrap64 (x7 + 1)) x334000 x334001) else ((hX k x334000 x334001 x1 (rd x1 x7)).bind fun t343 => (eX k x1 x5 x6 x7 t343 0 x334000 x334001)))) else (none)) else (some x5)
def eX : Nat → List Int → List (List Int) → List Int → Int → List Int → Int → Int → List (S63) → Option ((List (List Int)))
 | 0, _, _, _, _, _, _, _, _ => none
 | k + 1, x1, x5, x6, x7, x8, x9, x334000, x334001 => if x9 < (x8.length : Int) then (if 0 ≤ x9 then ((ia k x6 (rd x8 x9)).bind fun t347 => (eX k x1 x5 t347 x7 x8 (wrap64 (x9 + 1)) x334000 x334001)) else (none)) else (if x5.length < 5864062014805 then (cM k x1 (x5 ++ [x8]) x6 (wrap64 (x7 + 1)) x334000 x334001) else (none))
end
def fD (k : Nat) (a0_0 : Int) (l0_1 : List (S63)) (l1 : List Int) : Option ((List (List Int))) := cM k l1 (([] : List (List Int))) (([] : List Int)) 0 a0_0 l0_1
def spec_l2Pieces.T6 : Bool × List (List Nat × List Nat) := (true, [([], []), ([], []), ([], []), ([], []), ([2, 3], [2, 3]), ([4], [4]), ([0, 1, 5], [0, 1, 5]), ([6, 6, 0, 1, 2, 3, 4, 5, 6], [6])])
def oX : List Nat := [0, 0, 0, 0, 12, 28, 63, 127]
theorem oV : aQ .any (ct Tryz.f29 6) = spec_l2Pieces.T6 := by kernel_rfl
theorem oW : bK spec_l2Pieces.T6.2 oX = true := by kernel_rfl
theorem lv (k : Nat) (a0_0 : Int) (A0_1 : Option Addr) (c0_1 : Nat) (l0_1 : List (S63)) (A1 : Option Addr) (c1 : Nat) (l1 : List Int) (r : List (List Int)) (w : World) (hr0_1 : Kd.C k63 w A0_1 l0_1.length l0_1) (hc0_1 : l0_1.length ≤ c0_1) (hr1 : Kd.C (Kd.int .i64) w A1 l1.length l1) (hc1 : l1.length ≤ c1) (h : fD k a0_0 l0_1 l1 = some r) :
 Calls Tryz.prog 29 #[.agg #[.int .i64 a0_0, .slice A0_1 l0_1.length c0_1], .slice A1 l1.length c1] w fun e w' => ∃ v0_ : Value, e = .returned (v0_) ∧ Kd.S (Kd.slice 3 (Kd.int .i64)) 25 w' w.heap.size (fun _ => True) v0_ r ∧ Below w.heap.size w w' := by
 have hu29 := Tryz.underlying29
 have HR0_1 := Aside0.mk hr0_1
 have HC0_1 := Aside0.mk hc0_1
 clear hr0_1 hc0_1
 have HR1 := Aside0.mk hr1
 have HC1 := Aside0.mk hc1
 clear hr1 hc1
 have HB := zM (Below.refl w.heap.size w)
 have H := h
 unfold fD at H
 clear h
 obtain ⟨y334, hy334⟩ : ∃ y_ : List (List Int), y_ = (([] : List (List Int))) := ⟨_, rfl⟩
 replace H : (cM k l1 y334 (([] : List Int)) 0 a0_0 l0_1) = some r := by first | (rw [hy334]; with_reducible exact H) | (have H2_ := (Option.bind_some _ _).symm.trans H; rw [hy334]; with_reducible exact H2_) | (have H2_ := (Option.bind_some _ _).symm.trans H; with_reducible exact H2_) | with_reducible exact H | (rw [hy334]; exact H) | exact H
 have Ny334 := Aside0.mk hy334
 clear hy334
 obtain ⟨y337, hy337⟩ : ∃ y_ : List Int, y_ = (([] : List Int)) := ⟨_, rfl⟩
 replace H : (cM k l1 y334 y337 0 a0_0 l0_1) = some r := by first | (rw [hy337]; with_reducible exact H) | (have H2_ := (Option.bind_some _ _).symm.trans H; rw [hy337]; with_reducible exact H2_) | (have H2_ := (Option.bind_some _ _).symm.trans H; with_reducible exact H2_) | with_reducible exact H | (rw [hy337]; exact H) | exact H
 have Ny337 := Aside0.mk hy337
 clear hy337
 have H' := Aside0.mk H
 clear H
 go_enter Tryz.func29, Tryz.ntmps29
 go_wp2_with (first | ((with_reducible refine au (N := 2) rfl ?_); refine zb (w := w) 2 #[.int .i64 a0_0, .slice A0_1 l0_1.length c0_1] 29 zB ?_; clear HB; intro gb333 w3 HB BK333 GW333; have GE333 := GW333) | ((with_reducible refine au (N := 10) rfl ?_); refine Kd.S_lit (Kd.slice 3 (Kd.int .i64)) _ 25 ?hg (N := 10) ?hd (xs := ([] : List (List Int))) (inner := []) (ok := fun _ => True) (okp := fun _ => True) ?hr ?hp (fun _ hk => hk) trivial (Below.refl _ _) (ar _) (by simp) ?_; (case hd => rfl); (case hg => rfl); (case hr => first | (go_simp; done) | (go_simp; rfl)); (case hp => exact (Reps.none _ _)); intro v335 w4 ho5 hb hg_ hnew_; clear hg_ hnew_; (first | rw [← Ny334.out] at ho5 | (simp only [Int.reduceToNat] at ho5; rw [← Ny334.out] at ho5)); have HO336 := zM (Kd.S_lower ho5 (am zB)); replace BK333 := zJ BK333 hb; replace HB := zM (ag zB hb); clear hb ho5) | ((with_reducible refine au (N := 11) rfl ?_); refine Kd.R_lit (Kd.int .i64) _ 3 ?hg (N := 11) ?hd (xs := ([] : List Int)) (inner := []) (ok := fun _ => True) (okp := fun _ => True) ?hr ?hp (fun _ hk => hk) trivial (Below.refl _ _) (ar _) (by simp) ?_; (case hd => rfl); (case hg => rfl); (case hr => first | (go_simp; done) | (go_simp; rfl)); (case hp => exact (Reps.none _ _)); intro v338 w6 ho7 hb hg_ hnew_; clear hg_ hnew_; (first | rw [← Ny337.out] at ho7 | (simp only [Int.reduceToNat] at ho7; rw [← Ny337.out] at ho7)); replace HO336 := zM (Kd.S_elder' (by (with_reducible repeat (first | apply Kd.S_alloc | apply Kd.S_drewN | apply Kd.S_drew)); exact HO336.out) (Kd.R_base ho7) hb); have HO339 := zM (Kd.R_lower ho7 (am zB)); replace BK333 := zJ BK333 hb; replace HB := zM (ag zB hb); clear hb ho7))
 go_loopg [5, 6, 7] k (fun kq v5 v6 v7 w' => ∃ (x5_1 : List (List Int)) (x6_1 : List Int) (x7_1 : Int), v7 = .int .i64 x7_1 ∧ Aside0 (cM kq l1 x5_1 x6_1 x7_1 a0_0 l0_1 = some r) ∧ Aside0 (kq ≤ k) ∧ Aside0 (Kd.S (Kd.slice 3 (Kd.int .i64)) 25 w' w.heap.size (fun k_ => some k_ ≠ (v6 : Value).ownBlock) v5 x5_1) ∧ Aside0 (Kd.R (Kd.int .i64) 3 w' w.heap.size (fun _ => True) v6 x6_1) ∧ Aside0 (w'.heap[gb333]? = some (.cells #[.int .i64 a0_0, (.slice A0_1 l0_1.length c0_1)] 29 (0, 0))) ∧ Aside0 (Below w.heap.size w w'))
 case atStart => exact ⟨(y334), (y337), (0), (by first | rfl | (simp; done) | (simp [*]; done)), H', ⟨ar _⟩, ⟨by (with_reducible repeat (first | apply Kd.S_alloc | apply Kd.S_drewN | apply Kd.S_drew)); exact Kd.S_mono HO336.out (fun _ hk => hk.2)⟩, ⟨zR HO339.out⟩, ⟨zK BK333.out⟩, ⟨zB⟩⟩
 case round =>
  clear H'
  try clear c1
  try clear c2
  try clear p2
  obtain ⟨x5_1, x6_1, x7_1, rfl, HA, HK1, HO_5, HO_6, BK333, HB⟩ := hrel
  cases gk with
  | zero => exact absurd HA.out (by simp [cM])
  | succ k1 =>
   have H := HA.out
   clear HA
   simp only [cM] at H
   by_cases c8 : x7_1 < (l1.length : Int)
   · rw [if_pos c8] at H
     have c8b0 := af c8
     clear c8
     by_cases c9 : 0 ≤ x7_1
     case neg => rw [if_neg c9] at H; simp at H
     rw [if_pos c9] at H
     have c9b0 := af c9
     clear c9
     replace H := av H
     obtain ⟨t341, A100, H⟩ := H
     have A10 := Aside0.mk A100
     clear A100
     by_cases c11 : t341 = true
     · subst c11
       rw [if_pos rfl] at H
       have H' := Aside0.mk H
       clear H
       have p340 : 0 ≤ (x7_1 : Int) := ac zA
       have q340 : x7_1 < (l1.length : Int) := ac zA
       obtain ⟨ad340, e340, hx340_0⟩ := Kd.at_int HR1.out x7_1 p340 q340
       cases e340
       (try replace hx340_0 := (HB.out.cell (aj w _ hx340_0)).trans hx340_0)
       replace p340 := eq_true p340
       replace q340 := eq_true q340
       obtain ⟨Ao12, co12, eo12⟩ := Kd.R_slice HO_6.out
       subst eo12
       go_wp2_with (first | ((with_reducible refine ax (f := 53) rfl ?_); refine zc 23 Tryz.func53 #[.slice Ao12 x6_1.length co12, .int .i64 (rd l1 x7_1)] ?_; (with_reducible refine (dQ k1 _ _ x6_1 (rd l1 x7_1) true _ ?side1 ?side2 A10.out).mono ?_); (case side1 => exact zC (Kd.R_reads' HO_6.out).2.2); (case side2 => exact (Kd.R_reads' HO_6.out).2.1); rintro e w' ⟨rfl, ⟨nd, rfl⟩⟩; refine ⟨_, rfl, ?_⟩))
       go_roundg k1
       case measure => have := HK1.out; omega
       case rel => exact ⟨(x5_1), (x6_1), (wrap64 (x7_1 + 1)), (by first | rfl | (simp; done) | (simp [*]; done)), H', ⟨by have := HK1.out; omega⟩, ⟨by (with_reducible repeat (first | apply Kd.S_alloc | apply Kd.S_drewN | apply Kd.S_drew)); exact HO_5.out⟩, ⟨zR HO_6.out⟩, ⟨zK BK333.out⟩, ⟨zB⟩⟩
     · replace c11 := Bool.eq_false_iff.mpr c11
       subst c11
       rw [if_neg (show ¬ (false = true) by decide)] at H
       replace H := av H
       obtain ⟨t343, A130, H⟩ := H
       have A13 := Aside0.mk A130
       clear A130
       have H' := Aside0.mk H
       clear H
       have p340 : 0 ≤ (x7_1 : Int) := ac zA
       have q340 : x7_1 < (l1.length : Int) := ac zA
       obtain ⟨ad340, e340, hx340_0⟩ := Kd.at_int HR1.out x7_1 p340 q340
       cases e340
       (try replace hx340_0 := (HB.out.cell (aj w _ hx340_0)).trans hx340_0)
       replace p340 := eq_true p340
       replace q340 := eq_true q340
       obtain ⟨Ao14, co14, eo14⟩ := Kd.R_slice HO_6.out
       subst eo14
       try go_wp2_with (first | ((with_reducible refine ax (f := 53) rfl ?_); refine zc 23 Tryz.func53 #[.slice Ao14 x6_1.length co14, .int .i64 (rd l1 x7_1)] ?_; (with_reducible refine (dQ k1 _ _ x6_1 (rd l1 x7_1) false _ ?side1 ?side2 A10.out).mono ?_); (case side1 => exact zC (Kd.R_reads' HO_6.out).2.2); (case side2 => exact (Kd.R_reads' HO_6.out).2.1); rintro e w' ⟨rfl, ⟨nd, rfl⟩⟩; refine ⟨_, rfl, ?_⟩))
       (try (rw [iG wr]; generalize hq_ : World.drewN wr _ = wr; have n0_ : Aside0 (Kd.S (Kd.slice 3 (Kd.int .i64)) 25 wr w.heap.size (fun k_ => some k_ ≠ (.slice Ao14 x6_1.length co14 : Value).ownBlock) u5 x5_1) := ⟨by rw [← hq_]; exact (by (with_reducible repeat (first | apply Kd.S_alloc | apply Kd.S_drewN | apply Kd.S_drew)); exact HO_5.out)⟩; have n1_ : Aside0 (Kd.R (Kd.int .i64) 3 wr w.heap.size (fun _ => True) (.slice Ao14 x6_1.length co14) x6_1) := ⟨by rw [← hq_]; exact (zR HO_6.out)⟩; have n2_ : Aside0 (wr.heap[gb333]? = some (.cells #[.int .i64 a0_0, .slice A0_1 l0_1.length c0_1] 29 (0, 0))) := ⟨by rw [← hq_]; exact (zK BK333.out)⟩; have n3_ : Aside0 (Below w.heap.size w wr) := ⟨by rw [← hq_]; exact zB⟩; clear HO_5 HO_6 BK333 HB hq_; have HO_5 := n0_; have HO_6 := n1_; have BK333 := n2_; have HB := n3_; clear n0_ n1_ n2_ n3_))
       replace HO_5 := zM (Kd.S_drew HO_5.out)
       replace HO_6 := zM (Kd.R_drew HO_6.out)
       replace BK333 := zM (aq BK333.out)
       replace HB := zM (aD HB.out)
       have p342 : 0 ≤ (x7_1 : Int) := ac zA
       have q342 : x7_1 < (l1.length : Int) := ac zA
       obtain ⟨ad342, e342, hx342_0⟩ := Kd.at_int HR1.out x7_1 p342 q342
       have hw342_0 := hx342_0
       obtain rfl : ad340 = ad342 := (by injection e342)
       (try replace hx342_0 := (HB.out.cell (aj w _ hx342_0)).trans hx342_0)
       replace p342 := eq_true p342
       replace q342 := eq_true q342
       refine zs (n := 8) (fun w' => w'.cell? ⟨gb333, 0, none⟩ = some (.int .i64 a0_0) ∧ w'.cell? ⟨gb333, 1, none⟩ = some (.slice A0_1 l0_1.length c0_1) ∧ w'.cell? (ad340.add (x7_1).toNat) = some (.int .i64 (rd l1 x7_1))) ⟨(ah BK333.out 0).trans rfl, (ah BK333.out 1).trans rfl, ((HB.out.cell (aj w _ hw342_0)).trans hw342_0)⟩ (fun hHeld => ?_); refine aX oV oW (fun HT_ HW_ => ?_)
       generalize wr.drew = w15 at HO_5 HO_6 BK333 HB hx342_0 hHeld ⊢
       refine zp HT_ 1 25 ?_
       refine zp HT_ 2 26 ?_
       refine zp HT_ 3 27 ?_
       refine zp HT_ 4 28 ?_
       refine zt HT_ HW_ 0 24 hHeld ?_ (hy := by rintro w' ⟨s0, s1, s2⟩; go_simp; with_reducible rfl)
       refine zt HT_ HW_ 5 29 hHeld ?_ (hy := by rintro w' ⟨s0, s1, s2⟩; go_simp; with_reducible rfl)
       refine zg HT_ 6 30 Tryz.func54 #[.agg #[.int .i64 a0_0, .slice A0_1 l0_1.length c0_1], .slice (some ad340) l1.length c1, .int .i64 (rd l1 x7_1)] (fun K hK => ?_)
       with_reducible refine (oT k1 a0_0 _ _ l0_1 _ _ l1 (rd l1 x7_1) t343 _ ?side1 ?side2 ?side3 ?side4 A13.out).mono ?_
       (case side1 => exact zC (Kd.C_below HR0_1.out HB.out))
       (case side2 => exact HC0_1.out)
       (case side3 => exact zC (Kd.C_below HR1.out HB.out))
       (case side4 => exact HC1.out)
       rintro e w16 ⟨v344, rfl, ho0, hb⟩
       refine ⟨_, rfl, ?_⟩
       replace HO_5 := zM (Kd.S_elder' (by (with_reducible repeat (first | apply Kd.S_alloc | apply Kd.S_drewN | apply Kd.S_drew)); exact HO_5.out) (Kd.R_base ho0) hb)
       have HO345 := zM (Kd.R_lower (Kd.R_new' ho0 (Kd.R_lt (zR HO_6.out))) (am zB))
       replace HO_6 := zM (Kd.R_elder' (zR HO_6.out) (Kd.R_base ho0) hb)
       replace BK333 := zJ BK333 hb
       replace HB := zM (ag zB hb)
       (try clear hb)
       (try clear ho0)
       refine hK.out _ _ ⟨(ah BK333.out 0).trans rfl, (ah BK333.out 1).trans rfl, ((HB.out.cell (aj w _ hw342_0)).trans hw342_0)⟩ (fun hHeld => ?_)
       clear hK K
       refine zn 30 ?_
       refine zp HT_ 7 8 ?_
       refine zo HT_ ?_
       try go_wp2
       go_loopg [6, 9] k1 (fun kq v6 v9 w' => ∃ (x6_2 : List Int) (x9_2 : Int), v9 = .int .i64 x9_2 ∧ Aside0 (eX kq l1 x5_1 x6_2 x7_1 t343 x9_2 a0_0 l0_1 = some r) ∧ Aside0 (kq ≤ k1) ∧ Aside0 (Kd.S (Kd.slice 3 (Kd.int .i64)) 25 w' w.heap.size (fun k_ => some k_ ≠ (v6 : Value).ownBlock ∧ some k_ ≠ (v344 : Value).ownBlock) u5 x5_1) ∧ Aside0 (Kd.R (Kd.int .i64) 3 w' w.heap.size (fun k_ => some k_ ≠ (v344 : Value).ownBlock) v6 x6_2) ∧ Aside0 (Kd.R (Kd.int .i64) 3 w' w.heap.size (fun k_ => some k_ ≠ (v6 : Value).ownBlock) v344 t343) ∧ Aside0 (w'.heap[gb333]? = some (.cells #[.int .i64 a0_0, (.slice A0_1 l0_1.length c0_1)] 29 (0, 0))) ∧ Aside0 (Below w.heap.size w w'))
       case atStart => exact ⟨(x6_1), (0), (by first | rfl | (simp; done) | (simp [*]; done)), H', ⟨ar _⟩, ⟨by (with_reducible repeat (first | apply Kd.S_alloc | apply Kd.S_drewN | apply Kd.S_drew)); exact HO_5.out⟩, ⟨by (with_reducible repeat (first | apply Kd.R_alloc | apply Kd.R_drewN | apply Kd.R_drew)); exact Kd.R_mono HO_6.out (fun _ hk => hk.2)⟩, ⟨by (with_reducible repeat (first | apply Kd.R_alloc | apply Kd.R_drewN | apply Kd.R_drew)); exact Kd.R_mono HO345.out (fun _ hk => hk.2)⟩, ⟨zK BK333.out⟩, ⟨zB⟩⟩
       case round =>
        clear H'
        try clear c1
        try clear c2
        try clear p2
        try clear p3
        try clear q3
        try clear hx3
        try clear c5
        try clear p6
        try clear c8
        try clear c8b0
        try clear c9
        try clear c9b0
        try clear c11
        try clear hx340_0
        try clear hx342_0
        try clear p2
        try clear p340
        try clear p342
        try clear q340
        try clear q342
        obtain ⟨x6_2, x9_2, rfl, HA, HK2, HO_5, HO_6, HO_8, BK333, HB⟩ := hrel
        cases gk with
        | zero => exact absurd HA.out (by simp [eX])
        | succ k2 =>
         have H := HA.out
         clear HA
         simp only [eX] at H
         by_cases c17 : x9_2 < (t343.length : Int)
         · rw [if_pos c17] at H
           have c17b0 := af c17
           clear c17
           by_cases c18 : 0 ≤ x9_2
           case neg => rw [if_neg c18] at H; simp at H
           rw [if_pos c18] at H
           have c18b0 := af c18
           clear c18
           replace H := av H
           obtain ⟨t347, A190, H⟩ := H
           have A19 := Aside0.mk A190
           clear A190
           have H' := Aside0.mk H
           clear H
           obtain ⟨Ao20, co20, eo20⟩ := Kd.R_slice HO_8.out
           subst eo20
           have p346 : 0 ≤ (x9_2 : Int) := ac zA
           have q346 : x9_2 < (t343.length : Int) := ac zA
           obtain ⟨ad346, e346, hx346_0⟩ := Kd.at_int (Kd.R_reads' HO_8.out).2.2 x9_2 p346 q346
           cases e346
           replace p346 := eq_true p346
           replace q346 := eq_true q346
           obtain ⟨Ao21, co21, eo21⟩ := Kd.R_slice HO_6.out
           subst eo21
           go_wp2_with (first | ((with_reducible refine ax (f := 55) rfl ?_); refine zc 42 Tryz.func55 #[.slice Ao21 x6_2.length co21, .int .i64 (rd t343 x9_2)] ?_; (with_reducible refine (lA k2 _ _ x6_2 (rd t343 x9_2) t347 _ ?side1 ?side2 A19.out).mono ?_); (case side1 => exact zC (Kd.R_reads' HO_6.out).2.2); (case side2 => exact (Kd.R_reads' HO_6.out).2.1); rintro e w22 ⟨v348, rfl, ho0, hb⟩; refine ⟨_, rfl, ?_⟩; replace HO_5 := zM (Kd.S_elder' (by (with_reducible repeat (first | apply Kd.S_alloc | apply Kd.S_drewN | apply Kd.S_drew)); exact HO_5.out) (Kd.R_base ho0) hb); have HO349 := zM (Kd.R_lower (Kd.R_new' (Kd.R_new' ho0 (Kd.R_lt (zR HO_6.out))) (Kd.R_lt (zR HO_8.out))) (am zB)); replace HO_6 := zM (Kd.R_elder' (zR HO_6.out) (Kd.R_base ho0) hb); replace HO_8 := zM (Kd.R_elder' (zR HO_8.out) (Kd.R_base ho0) hb); replace BK333 := zJ BK333 hb; replace HB := zM (ag zB hb); (try clear hb); (try clear ho0)))
           go_roundg k2
           case measure => have := HK1.out; have := HK2.out; omega
           case rel => exact ⟨(t347), (wrap64 (x9_2 + 1)), (by first | rfl | (simp; done) | (simp [*]; done)), H', ⟨by have := HK1.out; have := HK2.out; omega⟩, ⟨by (with_reducible repeat (first | apply Kd.S_alloc | apply Kd.S_drewN | apply Kd.S_drew)); exact Kd.S_mono HO_5.out (fun _ hk => ⟨hk.2, hk.1.2⟩)⟩, ⟨by (with_reducible repeat (first | apply Kd.R_alloc | apply Kd.R_drewN | apply Kd.R_drew)); exact Kd.R_mono HO349.out (fun _ hk => hk.2)⟩, ⟨by (with_reducible repeat (first | apply Kd.R_alloc | apply Kd.R_drewN | apply Kd.R_drew)); exact Kd.R_mono HO_8.out (fun _ hk => hk.2)⟩, ⟨zK BK333.out⟩, ⟨zB⟩⟩
         · rw [if_neg c17] at H
           have c17b0 : decide (x9_2 < (t343.length : Int)) = false := ao c17
           clear c17
           by_cases c23 : x5_1.length < 5864062014805
           case neg => rw [if_neg c23] at H; simp at H
           rw [if_pos c23] at H
           have LMc23 := Aside0.mk c23
           clear c23
           obtain ⟨y350, hy350⟩ : ∃ y_ : List (List Int), y_ = (x5_1 ++ [t343]) := ⟨_, rfl⟩
           replace H : (cM k2 l1 y350 x6_2 (wrap64 (x7_1 + 1)) a0_0 l0_1) = some r := by first | (rw [hy350]; with_reducible exact H) | (have H2_ := (Option.bind_some _ _).symm.trans H; rw [hy350]; with_reducible exact H2_) | (have H2_ := (Option.bind_some _ _).symm.trans H; with_reducible exact H2_) | with_reducible exact H | (rw [hy350]; exact H) | exact H
           have Ny350 := Aside0.mk hy350
           clear hy350
           have H' := Aside0.mk H
           clear H
           obtain ⟨Ao24, co24, eo24⟩ := Kd.R_slice HO_8.out
           subst eo24
           go_wp2_with (first | ((with_reducible refine cJ (b := .append) (xs := #[.tmp 43, .tmp 45]) rfl ?_); at_builtin; refine Kd.S_append (Kd.slice 3 (Kd.int .i64)) (w0 := w) w.heap.size rfl (.tmp 43) (.tmp 45) 48 25 (.slice none 0 0) 24 rfl Tryz.underlying48 iu rfl (by decide) (by omega) u5 x5_1 t343 [.slice Ao24 t343.length co24] (fun k_ => some k_ ≠ (u6 : Value).ownBlock) (fun k_ => some k_ = (.slice Ao24 t343.length co24 : Value).ownBlock) rfl rfl ?aP (fun k_ hk_ => ((Kd.R_mono (ok' := fun k_ => ((fun k_ => some k_ ≠ (u6 : Value).ownBlock)) k_ ∧ some k_ ≠ (u5 : Value).ownBlock) (Kd.R_apart' (HO_8.out) (Kd.S_typed HO_5.out) (by decide)) (fun k_ hk => ⟨hk.1, hk.2⟩))).1 k_ hk_.symm) ?aF ?aO ?aB ?aS ?aL ?_; (case aP => exact Kd.M_row (Kd.R_mono (Kd.R_tight rfl (Kd.R_mono (ok' := fun k_ => ((fun k_ => some k_ ≠ (u6 : Value).ownBlock)) k_ ∧ some k_ ≠ (u5 : Value).ownBlock) (Kd.R_apart' (HO_8.out) (Kd.S_typed HO_5.out) (by decide)) (fun k_ hk => ⟨hk.1, hk.2⟩))) (fun _ h_ => h_))); (case aB => exact zB); (case aF => exact (fun k_ hk => Kd.fresh' (Kd.R_lt (zR HO_6.out)) k_ hk)); (case aO => exact (by (with_reducible repeat (first | apply Kd.S_alloc | apply Kd.S_drewN | apply Kd.S_drew)); exact Kd.S_mono HO_5.out (fun k_ hk => ⟨hk.1, fun e_ => hk.2 e_⟩))); (case aS => exact (am zB)); (case aL => have := LMc23.out; omega); intro v351 w25 ho hb hg hat; rw [← Ny350.out] at ho; replace HO_6 := zM (Kd.R_over' (zR HO_6.out) (Kd.S_typed (by (with_reducible repeat (first | apply Kd.S_alloc | apply Kd.S_drewN | apply Kd.S_drew)); exact HO_5.out)) (by decide) hg); replace BK333 := zM (cU (g := gb333) (o := .cells #[.int .i64 a0_0, .slice A0_1 l0_1.length c0_1] 29 (0, 0)) (zK BK333.out) hg (Kd.S_ne HO_5.out BK333.out (by decide))); replace HB := zM (hb); have HO352 := zM (ho); clear HO_5 HO_8; clear ho hb hg hat))
           go_roundg k2
           case measure => have := HK1.out; have := HK2.out; omega
           case rel => exact ⟨(y350), (x6_2), (wrap64 (x7_1 + 1)), (by first | rfl | (simp; done) | (simp [*]; done)), H', ⟨by have := HK1.out; have := HK2.out; omega⟩, ⟨by (with_reducible repeat (first | apply Kd.S_alloc | apply Kd.S_drewN | apply Kd.S_drew)); exact HO352.out⟩, ⟨by (with_reducible repeat (first | apply Kd.R_alloc | apply Kd.R_drewN | apply Kd.R_drew)); exact Kd.R_mono HO_6.out (fun _ hk => trivial)⟩, ⟨zK BK333.out⟩, ⟨zB⟩⟩
   · rw [if_neg c8] at H
     have c8b0 : decide (x7_1 < (l1.length : Int)) = false := ao c8
     clear c8
     obtain rfl := ap H
     go_wp2
     go_ret
     exact ⟨_, by first | rfl | (simp [al, ak] <;> rfl) | (simp [*, al, ak] <;> rfl), by (with_reducible repeat (first | apply Kd.S_alloc | apply Kd.S_drewN | apply Kd.S_drew)); exact Kd.S_mono HO_5.out (fun _ hk => trivial), zB⟩
def hF (k : Nat) (a0_0 : Int) (l0_1 : List (S63)) : Option (Bool) := if 0 ≤ a0_0 then ((gp k a0_0 (wrap64 ((dp .i64 1 a0_0) - 1))).bind fun t354 => ((fD k a0_0 l0_1 t354).bind fun t357 => (some ((l0_1.length : Int) == (wrap64 (a0_0 - (t357.length : Int))))))) else (none)
def spec_l3Forest.T1 : Bool × List (List Nat × List Nat) := (true, [([], []), ([0], [0]), ([1], [1]), ([], []), ([3], [3]), ([], []), ([], []), ([6], [6]), ([], []), ([8], [8]), ([9], [9]), ([10], [10]), ([7, 11], [7, 11]), ([5, 12, 12], [5, 12]), ([13], [13]), ([4, 14], [4, 14]), ([2, 15], [2, 15]), ([16, 13, 0, 1, 2, 3, 4, 5, 6, 7, 8, 9, 10, 11, 12, 13, 14, 15, 16], [16])])
def oR : List Nat := [0, 1, 3, 0, 8, 0, 0, 64, 0, 256, 768, 1792, 4032, 8160, 16352, 32760, 65535, 131071]
theorem oP : aQ .any (ct Tryz.f19 1) = spec_l3Forest.T1 := by kernel_rfl
theorem oQ : bK spec_l3Forest.T1.2 oR = true := by kernel_rfl
theorem lp (k : Nat) (a0_0 : Int) (A0_1 : Option Addr) (c0_1 : Nat) (l0_1 : List (S63)) (r : Bool) (w : World) (hr0_1 : Kd.C k63 w A0_1 l0_1.length l0_1) (hc0_1 : l0_1.length ≤ c0_1) (h : hF k a0_0 l0_1 = some r) :
 Calls Tryz.prog 19 #[.agg #[.int .i64 a0_0, .slice A0_1 l0_1.length c0_1]] w fun e w' => e = .returned (.bool r) ∧ Below w.heap.size w w' := by
 have hu29 := Tryz.underlying29
 have HR0_1 := Aside0.mk hr0_1
 have HC0_1 := Aside0.mk hc0_1
 clear hr0_1 hc0_1
 have HB := zM (Below.refl w.heap.size w)
 have H := h
 unfold hF at H
 clear h
 by_cases c2 : 0 ≤ a0_0
 case neg => rw [if_neg c2] at H; simp at H
 rw [if_pos c2] at H
 have c2b0 := eq_true c2
 have c2b1 : decide (0 ≤ a0_0) = true := af c2
 clear c2
 obtain ⟨ji3, hji3⟩ : ∃ j_ : Int, (dp .i64 1 a0_0) = j_ := ⟨_, rfl⟩
 replace H : ((gp k a0_0 (wrap64 ((ji3) - 1))).bind fun t354 => ((fD k a0_0 l0_1 t354).bind fun t357 => (some ((l0_1.length : Int) == (wrap64 (a0_0 - (t357.length : Int))))))) = some r := by first | (rw [hji3] at H; exact H) | (simp only [hji3] at H ⊢; exact H)
 have hji3_ : (IntKind.i64.wrap (1 * 2 ^ min a0_0.toNat 64)) = ji3 := hji3
 have hji3z : a0_0 ≤ 64 → (IntKind.i64.wrap (1 * 2 ^ a0_0.toNat)) = ji3 := jX hji3
 have hji3u : (IntKind.i64.wrap (2 ^ min a0_0.toNat 64)) = ji3 := by have h_ := hji3_; rw [Int.one_mul] at h_; exact h_
 have hji3v : a0_0 ≤ 64 → (IntKind.i64.wrap (2 ^ a0_0.toNat)) = ji3 := fun hle_ => by have h_ := hji3z hle_; rw [Int.one_mul] at h_; exact h_
 have hji3y : (wrap64 (1 * 2 ^ min a0_0.toNat 64)) = ji3 := (bW _).symm.trans hji3_
 have hji3x : a0_0 ≤ 64 → (wrap64 (1 * 2 ^ a0_0.toNat)) = ji3 := fun h_ => (bW _).symm.trans (hji3z h_)
 replace H := av H
 obtain ⟨t354, A40, H⟩ := H
 have A4 := Aside0.mk A40
 clear A40
 replace H := av H
 obtain ⟨t357, A50, H⟩ := H
 have A5 := Aside0.mk A50
 clear A50
 obtain rfl := ap H
 go_enter Tryz.func19, Tryz.ntmps19
 try go_wp2_with (first | ((with_reducible refine au (N := 1) rfl ?_); refine zb (w := w) 1 #[.int .i64 a0_0, .slice A0_1 l0_1.length c0_1] 29 zB ?_; clear HB; intro gb353 w6 HB BK353 GW353; have GE353 := GW353))
 replace BK353 := zM (aq BK353.out)
 replace HB := zM (aD HB.out)
 refine zs (n := 18) (fun w' => w'.cell? ⟨gb353, 0, none⟩ = some (.int .i64 a0_0) ∧ w'.cell? ⟨gb353, 1, none⟩ = some (.slice A0_1 l0_1.length c0_1)) ⟨(ah BK353.out 0).trans rfl, (ah BK353.out 1).trans rfl⟩ (fun hHeld => ?_); refine aX oP oQ (fun HT_ HW_ => ?_)
 generalize w6.drew = w7 at BK353 HB hHeld ⊢
 refine zp HT_ 0 3 ?_
 refine zp HT_ 3 6 ?_
 refine zp HT_ 6 9 ?_
 refine zp HT_ 8 11 ?_
 refine zt HT_ HW_ 1 4 hHeld ?_ (hy := by rintro w' ⟨s0, s1⟩; go_simp; with_reducible rfl)
 refine zp HT_ 2 5 ?_
 refine zt HT_ HW_ 4 7 hHeld ?_ (hy := by rintro w' ⟨s0, s1⟩; go_simp; with_reducible rfl)
 refine zt HT_ HW_ 5 8 hHeld ?_ (hy := by rintro w' ⟨s0, s1⟩; go_simp; with_reducible rfl)
 refine zt HT_ HW_ 7 10 hHeld ?_ (hy := by rintro w' ⟨s0, s1⟩; go_simp; with_reducible rfl)
 refine zt HT_ HW_ 9 12 hHeld ?_ (hy := by rintro w' ⟨s0, s1⟩; go_simp; with_reducible rfl)
 refine zp HT_ 10 13 ?_
 refine zp HT_ 11 14 ?_
 refine bz (i := 12) (N := some 15) #[true, true, true, true, true, true, true, true, true, true, true, true, true, false, false, false, false, false] rfl rfl (bu HT_.out (by kernel_rfl)) (by decide) (fun K hK => ?_)
 refine fQ Tryz.func43 (by kernel_rfl) rfl #[.int .i64 a0_0, .int .i64 (wrap64 ((ji3) - 1))] (by rfl) rfl rfl (by (try simp only [List.map_toArray, List.map_cons, List.map_nil]); first | done | (simp only [hji3]; rfl) | rfl | (simp only [List.length_drop, List.length_take]; rfl)) ?_
 with_reducible refine (o0 k a0_0 (wrap64 ((ji3) - 1)) t354 _ A4.out).mono ?_
 rintro e w8 ⟨v355, rfl, ho0, hb⟩
 refine ⟨_, rfl, ?_⟩
 have HO356 := zM (Kd.R_lower ho0 (am zB))
 replace BK353 := zJ BK353 hb
 replace HB := zM (ag zB hb)
 (try clear hb)
 (try clear ho0)
 obtain ⟨Ao9, co9, eo9⟩ := Kd.R_slice HO356.out
 (first | subst eo9 | (injection eo9 with f1_ f2_ f3_; have f4_ := f1_.symm; have f5_ := f3_.symm; clear f1_ f2_ f3_; subst f4_; subst f5_))
 refine hK.out _ _ ⟨(ah BK353.out 0).trans rfl, (ah BK353.out 1).trans rfl⟩ (fun hHeld => ?_)
 clear hK K
 refine zn 15 ?_
 refine zg HT_ 13 16 Tryz.func29 #[.agg #[.int .i64 a0_0, .slice A0_1 l0_1.length c0_1], .slice Ao9 t354.length co9] (fun K hK => ?_)
 with_reducible refine (lv k a0_0 _ _ l0_1 _ _ t354 t357 _ ?side1 ?side2 ?side3 ?side4 A5.out).mono ?_
 (case side1 => exact zC (Kd.C_below HR0_1.out HB.out))
 (case side2 => exact HC0_1.out)
 (case side3 => exact zC (Kd.R_reads' HO356.out).2.2)
 (case side4 => exact (Kd.R_reads' HO356.out).2.1)
 rintro e w10 ⟨v358, rfl, ho0, hb⟩
 refine ⟨_, rfl, ?_⟩
 have HO359 := zM (Kd.S_lower (Kd.S_new' ho0 (Kd.R_lt (zR HO356.out))) (am zB))
 replace HO356 := zM (Kd.R_below (zR HO356.out) hb)
 replace BK353 := zJ BK353 hb
 replace HB := zM (ag zB hb)
 (try clear hb)
 (try clear ho0)
 obtain ⟨Ao11, co11, eo11⟩ := Kd.S_slice HO359.out
 (first | subst eo11 | (injection eo11 with f1_ f2_ f3_; have f4_ := f1_.symm; have f5_ := f3_.symm; clear f1_ f2_ f3_; subst f4_; subst f5_))
 refine hK.out _ _ ⟨(ah BK353.out 0).trans rfl, (ah BK353.out 1).trans rfl⟩ (fun hHeld => ?_)
 clear hK K
 refine zn 16 ?_
 refine zp HT_ 14 17 ?_
 refine zp HT_ 15 18 ?_
 refine zp HT_ 16 19 ?_
 refine zp HT_ 17 2 ?_
 refine zo HT_ ?_
 try go_wp2
 go_ret
 exact ⟨by first | rfl | (simp [al, ak] <;> rfl) | (simp only [← hji3]; first | rfl | (simp [al, ak] <;> rfl)) | (simp [*, al, ak] <;> rfl), zB⟩
def dB : Nat → Int → List Int → Int → Int → List (S63) → Option (List Int)
 | 0, _, _, _, _, _ => none
 | k + 1, x1, x5, x6, x361000, x361001 => if x6 < x361000 then ((gj k x361000 x361001 x1 x6).bind fun t364 => (if t364 = true then (if x5.length < 17592186044416 then (dB k x1 (x5 ++ [x6]) (wrap64 (x6 + 1)) x361000 x361001) else (none)) else (dB k x1 x5 (wrap64 (x6 + 1)) x361000 x361001))) else (some x5)
def fE (k : Nat) (a0_0 : Int) (l0_1 : List (S63)) (a1 : Int) : Option (List Int) := dB k a1 (([] : List Int)) 0 a0_0 l0_1
theorem iX (k : Nat) (a0_0 : Int) (A0_1 : Option Addr) (c0_1 : Nat) (l0_1 : List (S63)) (a1 : Int) (r : List Int) (w : World) (hr0_1 : Kd.C k63 w A0_1 l0_1.length l0_1) (hc0_1 : l0_1.length ≤ c0_1) (h : fE k a0_0 l0_1 a1 = some r) :
 Calls Tryz.prog 56 #[.agg #[.int .i64 a0_0, .slice A0_1 l0_1.length c0_1], .int .i64 a1] w fun e w' => ∃ v0_ : Value, e = .returned (v0_) ∧ Kd.R (Kd.int .i64) 3 w' w.heap.size (fun _ => True) v0_ r ∧ Below w.heap.size w w' := by
 have hu29 := Tryz.underlying29
 have HR0_1 := Aside0.mk hr0_1
 have HC0_1 := Aside0.mk hc0_1
 clear hr0_1 hc0_1
 have HB := zM (Below.refl w.heap.size w)
 have H := h
 unfold fE at H
 clear h
 obtain ⟨y361, hy361⟩ : ∃ y_ : List Int, y_ = (([] : List Int)) := ⟨_, rfl⟩
 replace H : (dB k a1 y361 0 a0_0 l0_1) = some r := by first | (rw [hy361]; with_reducible exact H) | (have H2_ := (Option.bind_some _ _).symm.trans H; rw [hy361]; with_reducible exact H2_) | (have H2_ := (Option.bind_some _ _).symm.trans H; with_reducible exact H2_) | with_reducible exact H | (rw [hy361]; exact H) | exact H
 have Ny361 := Aside0.mk hy361
 clear hy361
 have H' := Aside0.mk H
 clear H
 go_enter Tryz.func56, Tryz.ntmps56
 go_wp2_with (first | ((with_reducible refine au (N := 2) rfl ?_); refine zb (w := w) 2 #[.int .i64 a0_0, .slice A0_1 l0_1.length c0_1] 29 zB ?_; clear HB; intro gb360 w3 HB BK360 GW360; have GE360 := GW360) | ((with_reducible refine au (N := 7) rfl ?_); refine Kd.R_lit (Kd.int .i64) _ 3 ?hg (N := 7) ?hd (xs := ([] : List Int)) (inner := []) (ok := fun _ => True) (okp := fun _ => True) ?hr ?hp (fun _ hk => hk) trivial (Below.refl _ _) (ar _) (by simp) ?_; (case hd => rfl); (case hg => rfl); (case hr => first | (go_simp; done) | (go_simp; rfl)); (case hp => exact (Reps.none _ _)); intro v362 w4 ho5 hb hg_ hnew_; clear hg_ hnew_; (first | rw [← Ny361.out] at ho5 | (simp only [Int.reduceToNat] at ho5; rw [← Ny361.out] at ho5)); have HO363 := zM (Kd.R_lower ho5 (am zB)); replace BK360 := zJ BK360 hb; replace HB := zM (ag zB hb); clear hb ho5))
 go_loopg [5, 6] k (fun kq v5 v6 w' => ∃ (x5_1 : List Int) (x6_1 : Int), v6 = .int .i64 x6_1 ∧ Aside0 (dB kq a1 x5_1 x6_1 a0_0 l0_1 = some r) ∧ Aside0 (kq ≤ k) ∧ Aside0 (Kd.R (Kd.int .i64) 3 w' w.heap.size (fun _ => True) v5 x5_1) ∧ Aside0 (w'.heap[gb360]? = some (.cells #[.int .i64 a0_0, (.slice A0_1 l0_1.length c0_1)] 29 (0, 0))) ∧ Aside0 (Below w.heap.size w w'))
 case atStart => exact ⟨(y361), (0), (by first | rfl | (simp; done) | (simp [*]; done)), H', ⟨ar _⟩, ⟨zR HO363.out⟩, ⟨zK BK360.out⟩, ⟨zB⟩⟩
 case round =>
  clear H'
  try clear p2
  try clear c5
  obtain ⟨x5_1, x6_1, rfl, HA, HK1, HO_5, BK360, HB⟩ := hrel
  cases gk with
  | zero => exact absurd HA.out (by simp [dB])
  | succ k1 =>
   have H := HA.out
   clear HA
   simp only [dB] at H
   by_cases c6 : x6_1 < a0_0
   · rw [if_pos c6] at H
     have c6b0 := af c6
     clear c6
     replace H := av H
     obtain ⟨t364, A70, H⟩ := H
     have A7 := Aside0.mk A70
     clear A70
     by_cases c8 : t364 = true
     · subst c8
       rw [if_pos rfl] at H
       by_cases c9 : x5_1.length < 17592186044416
       case neg => rw [if_neg c9] at H; simp at H
       rw [if_pos c9] at H
       have LMc9 := Aside0.mk c9
       clear c9
       obtain ⟨y365, hy365⟩ : ∃ y_ : List Int, y_ = (x5_1 ++ [x6_1]) := ⟨_, rfl⟩
       replace H : (dB k1 a1 y365 (wrap64 (x6_1 + 1)) a0_0 l0_1) = some r := by first | (rw [hy365]; with_reducible exact H) | (have H2_ := (Option.bind_some _ _).symm.trans H; rw [hy365]; with_reducible exact H2_) | (have H2_ := (Option.bind_some _ _).symm.trans H; with_reducible exact H2_) | with_reducible exact H | (rw [hy365]; exact H) | exact H
       have Ny365 := Aside0.mk hy365
       clear hy365
       have H' := Aside0.mk H
       clear H
       have hcz10_0 := zy BK360 0
       have hcz10_1 := zy BK360 1
       have hfz10_0 := ae BK360.out 0
       have hfz10_1 := ae BK360.out 1
       go_wp2_with (first | ((with_reducible refine ax (f := 64) rfl ?_); refine zc 17 Tryz.func64 #[.agg #[.int .i64 a0_0, .slice A0_1 l0_1.length c0_1], .int .i64 a1, .int .i64 x6_1] ?_; (with_reducible refine (gm k1 a0_0 _ _ l0_1 a1 x6_1 true _ ?side1 ?side2 A7.out).mono ?_); (case side1 => exact zC (Kd.C_below HR0_1.out HB.out)); (case side2 => exact HC0_1.out); rintro e w11 ⟨rfl, hb⟩; refine ⟨_, rfl, ?_⟩; replace HO_5 := zM (Kd.R_below (zR HO_5.out) hb); replace BK360 := zJ BK360 hb; replace HB := zM (ag zB hb); (try clear hb); (try clear hi)) | ((with_reducible refine cJ (b := .append) (xs := #[.tmp 18, .tmp 20]) rfl ?_); at_builtin; refine Kd.R_append (Kd.int .i64) (w0 := w) w.heap.size rfl (.tmp 18) (.tmp 20) 25 3 (.int .i64 0) 8 rfl Tryz.underlying25 bv rfl (by decide) (by omega) u5 x5_1 x6_1 [.int .i64 x6_1] (fun _ => True) (fun _ => False) rfl rfl ?aP (fun _ hk => hk.elim) ?aF ?aO ?aB ?aS ?aL ?_; (case aP => exact rfl); (case aB => exact zB); (case aF => exact (fun _ _ => trivial)); (case aO => exact (zR HO_5.out)); (case aS => exact (am zB)); (case aL => have := LMc9.out; omega); intro v366 w12 ho hb hg hat; rw [← Ny365.out] at ho; replace BK360 := zM (cU (g := gb360) (o := .cells #[.int .i64 a0_0, .slice A0_1 l0_1.length c0_1] 29 (0, 0)) (zK BK360.out) hg (Kd.R_ne HO_5.out BK360.out (by decide))); replace HB := zM (hb); have HO367 := zM (ho); clear HO_5; clear ho hb hg hat))
       go_roundg k1
       case measure => have := HK1.out; omega
       case rel => exact ⟨(y365), (wrap64 (x6_1 + 1)), (by first | rfl | (simp; done) | (simp [*]; done)), H', ⟨by have := HK1.out; omega⟩, ⟨zR HO367.out⟩, ⟨zK BK360.out⟩, ⟨zB⟩⟩
     · replace c8 := Bool.eq_false_iff.mpr c8
       subst c8
       rw [if_neg (show ¬ (false = true) by decide)] at H
       have H' := Aside0.mk H
       clear H
       have hcz13_0 := zy BK360 0
       have hcz13_1 := zy BK360 1
       have hfz13_0 := ae BK360.out 0
       have hfz13_1 := ae BK360.out 1
       go_wp2_with (first | ((with_reducible refine ax (f := 64) rfl ?_); refine zc 17 Tryz.func64 #[.agg #[.int .i64 a0_0, .slice A0_1 l0_1.length c0_1], .int .i64 a1, .int .i64 x6_1] ?_; (with_reducible refine (gm k1 a0_0 _ _ l0_1 a1 x6_1 false _ ?side1 ?side2 A7.out).mono ?_); (case side1 => exact zC (Kd.C_below HR0_1.out HB.out)); (case side2 => exact HC0_1.out); rintro e w14 ⟨rfl, hb⟩; refine ⟨_, rfl, ?_⟩; replace HO_5 := zM (Kd.R_below (zR HO_5.out) hb); replace BK360 := zJ BK360 hb; replace HB := zM (ag zB hb); (try clear hb); (try clear hi)))
       go_roundg k1
       case measure => have := HK1.out; omega
       case rel => exact ⟨(x5_1), (wrap64 (x6_1 + 1)), (by first | rfl | (simp; done) | (simp [*]; done)), H', ⟨by have := HK1.out; omega⟩, ⟨zR HO_5.out⟩, ⟨zK BK360.out⟩, ⟨zB⟩⟩
   · rw [if_neg c6] at H
     have c6b0 : decide (x6_1 < a0_0) = false := ao c6
     clear c6
     obtain rfl := ap H
     have hcz15_0 := zy BK360 0
     have hcz15_1 := zy BK360 1
     have hfz15_0 := ae BK360.out 0
     have hfz15_1 := ae BK360.out 1
     go_wp2
     go_ret
     exact ⟨_, by first | rfl | (simp [al, ak] <;> rfl) | (simp [*, al, ak] <;> rfl), by (with_reducible repeat (first | apply Kd.R_alloc | apply Kd.R_drewN | apply Kd.R_drew)); exact HO_5.out, zB⟩
end Go.Proofs.YtjgcehldepfaaaaGreat.P
