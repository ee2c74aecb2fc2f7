import Derived.Test.YtjgcehldepfaaaaGreatForestMeetsG5
namespace Go.Proofs.YtjgcehldepfaaaaGreat.P
open Go.RowKit YtjgcehldepfaaaaGreatW.PrintWords YtjgcehldepfaaaaGreatW.PrintLast YtjgcehldepfaaaaGreatW.PrintMore
attribute [local go_sem] bl bh bi bd bj bf bk bg
set_option linter.unusedVariables false
set_option linter.unusedSimpArgs false
def et : Nat → List Int → Int → Int → Option (List Int)
 | 0, _, _, _ => none
 | k + 1, x0, x1, x5 => if x5 < (x0.length : Int) then (if 0 ≤ x5 then (if (rd x0 x5) < x1 then (et k x0 x1 (wrap64 (x5 + 1))) else (if (rd x0 x5) = x1 then (none) else ((some (([] : List Int) : List Int)).bind fun y286 => (if x5 ≤ (x0.length : Int) then (if y286.length + (x0.take (x5 : Int).toNat).length < 17592186044416 then ((some (y286 ++ (x0.take (x5 : Int).toNat) : List Int)).bind fun y290 => ((some (([x1] : List Int) : List Int)).bind fun y293 => (if y290.length + y293.length < 17592186044416 then ((some (y290 ++ y293 : List Int)).bind fun y296 => (if y296.length + (x0.drop (x5 : Int).toNat).length < 17592186044416 then (some (y296 ++ (x0.drop (x5 : Int).toNat))) else (none))) else (none)))) else (none)) else (none))))) else (none)) else ((some (([] : List Int) : List Int)).bind fun y303 => (if 0 ≤ x5 then (if x5 ≤ (x0.length : Int) then (if y303.length + (x0.take (x5 : Int).toNat).length < 17592186044416 then ((some (y303 ++ (x0.take (x5 : Int).toNat) : List Int)).bind fun y307 => ((some (([x1] : List Int) : List Int)).bind fun y310 => (if y307.length + y310.length < 17592186044416 then ((some (y307 ++ y310 : List Int)).bind fun y313 => (if y313.length + (x0.drop (x5 : Int).toNat).length < 17592186044416 then (some (y313 ++ (x0.drop (x5 : Int).toNat))) else (none))) else (none)))) else (none)) else (none)) else (none)))
def ia (k : Nat) (l0 : List Int) (a1 : Int) : Option (List Int) := et k l0 a1 0
def spec_l1Put.T6 : Bool × List (List Nat × List Nat) := (true, [([], []), ([], []), ([], []), ([1, 2], [1, 2]), ([0, 3], [0, 3]), ([], []), ([5], [5]), ([4, 6, 4], [4, 6]), ([], []), ([], []), ([8, 9], [8, 9]), ([7, 10, 7], [7, 10]), ([11, 11, 0, 1, 2, 3, 4, 5, 6, 7, 8, 9, 10, 11], [11])])
def o4 : List Nat := [0, 0, 0, 6, 15, 0, 32, 127, 0, 0, 768, 2047, 4095]
theorem lz : aQ .any (ct Tryz.f55 6) = spec_l1Put.T6 := by kernel_rfl
theorem lB : bK spec_l1Put.T6.2 o4 = true := by kernel_rfl
set_option maxHeartbeats 8000000 in
set_option maxRecDepth 100000 in
theorem lA (k : Nat) (A0 : Option Addr) (c0 : Nat) (l0 : List Int) (a1 : Int) (r : List Int) (w : World) (hr0 : Kd.C (Kd.int .i64) w A0 l0.length l0) (hc0 : l0.length ≤ c0) (h : ia k l0 a1 = some r) :
 Calls Tryz.prog 55 #[.slice A0 l0.length c0, .int .i64 a1] w fun e w' => ∃ v0_ : Value, e = .returned (v0_) ∧ Kd.R (Kd.int .i64) 3 w' w.heap.size (fun _ => True) v0_ r ∧ Below w.heap.size w w' := by
 have HR0 := Aside0.mk hr0
 have HC0 := Aside0.mk hc0
 clear hr0 hc0
 have HB := zM (Below.refl w.heap.size w)
 have H := h
 unfold ia at H
 clear h
 have H' := Aside0.mk H
 clear H
 go_enter Tryz.func55, Tryz.ntmps55
 go_wp2
 go_loopg [5] k (fun kq v5 w' => ∃ (x5_1 : Int), v5 = .int .i64 x5_1 ∧ Aside0 (et kq l0 a1 x5_1 = some r) ∧ Aside0 (kq ≤ k) ∧ Aside0 (Below w.heap.size w w'))
 case atStart => exact ⟨(0), (by first | rfl | (simp; done) | (simp [*]; done)), H', ⟨ar _⟩, ⟨zB⟩⟩
 case round =>
  clear H'
  try clear p2
  obtain ⟨x5_1, rfl, HA, HK1, HB⟩ := hrel
  cases gk with
  | zero => exact absurd HA.out (by simp [et])
  | succ k1 =>
   have H := HA.out
   clear HA
   simp only [et] at H
   by_cases c3 : x5_1 < (l0.length : Int)
   · rw [if_pos c3] at H
     have c3b0 := af c3
     clear c3
     by_cases c4 : 0 ≤ x5_1
     case neg => rw [if_neg c4] at H; simp at H
     rw [if_pos c4] at H
     have c4b0 := af c4
     clear c4
     by_cases c5 : (rd l0 x5_1) < a1
     · rw [if_pos c5] at H
       have c5b0 := af c5
       clear c5
       have H' := Aside0.mk H
       clear H
       have p284 : 0 ≤ (x5_1 : Int) := ac zA
       have q284 : x5_1 < (l0.length : Int) := ac zA
       obtain ⟨ad284, e284, hx284_0⟩ := Kd.at_int HR0.out x5_1 p284 q284
       cases e284
       (try replace hx284_0 := (HB.out.cell (aj w _ hx284_0)).trans hx284_0)
       replace p284 := eq_true p284
       replace q284 := eq_true q284
       go_wp2
       go_roundg k1
       case measure => have := HK1.out; omega
       case rel => exact ⟨(wrap64 (x5_1 + 1)), (by first | rfl | (simp; done) | (simp [*]; done)), H', ⟨by have := HK1.out; omega⟩, ⟨zB⟩⟩
     · rw [if_neg c5] at H
       have c5b0 : decide ((rd l0 x5_1) < a1) = false := ao c5
       clear c5
       by_cases c6 : (rd l0 x5_1) = a1
       · rw [if_pos c6] at H
         simp at H
       · rw [if_neg c6] at H
         have c6b0 : ((rd l0 x5_1) == a1) = false := beq_eq_false_iff_ne.mpr c6
         have c6b1 : ((rd l0 x5_1) != a1) = true := bne_iff_ne.mpr c6
         obtain ⟨y286, hy286⟩ : ∃ y_ : List Int, y_ = (([] : List Int)) := ⟨_, rfl⟩
         replace H : (if x5_1 ≤ (l0.length : Int) then (if y286.length + (l0.take (x5_1 : Int).toNat).length < 17592186044416 then ((some (y286 ++ (l0.take (x5_1 : Int).toNat) : List Int)).bind fun y290 => ((some (([a1] : List Int) : List Int)).bind fun y293 => (if y290.length + y293.length < 17592186044416 then ((some (y290 ++ y293 : List Int)).bind fun y296 => (if y296.length + (l0.drop (x5_1 : Int).toNat).length < 17592186044416 then (some (y296 ++ (l0.drop (x5_1 : Int).toNat))) else (none))) else (none)))) else (none)) else (none)) = some r := by first | (rw [hy286]; with_reducible exact H) | (have H2_ := (Option.bind_some _ _).symm.trans H; rw [hy286]; with_reducible exact H2_) | (have H2_ := (Option.bind_some _ _).symm.trans H; with_reducible exact H2_) | with_reducible exact H | (rw [hy286]; exact H) | exact H
         have Ny286 := Aside0.mk hy286
         clear hy286
         have c7b0 := eq_true (ac zA : 0 ≤ x5_1)
         by_cases c8 : x5_1 ≤ (l0.length : Int)
         case neg => rw [if_neg c8] at H; simp at H
         rw [if_pos c8] at H
         have c8b0 := eq_true c8
         have c8b1 : decide (x5_1 ≤ (l0.length : Int)) = true := af c8
         clear c8
         by_cases c9 : y286.length + (l0.take (x5_1 : Int).toNat).length < 17592186044416
         case neg => rw [if_neg c9] at H; simp at H
         rw [if_pos c9] at H
         have LMc9 := Aside0.mk c9
         clear c9
         obtain ⟨y290, hy290⟩ : ∃ y_ : List Int, y_ = (y286 ++ (l0.take (x5_1 : Int).toNat)) := ⟨_, rfl⟩
         replace H : ((some (([a1] : List Int) : List Int)).bind fun y293 => (if y290.length + y293.length < 17592186044416 then ((some (y290 ++ y293 : List Int)).bind fun y296 => (if y296.length + (l0.drop (x5_1 : Int).toNat).length < 17592186044416 then (some (y296 ++ (l0.drop (x5_1 : Int).toNat))) else (none))) else (none))) = some r := by first | (rw [hy290]; with_reducible exact H) | (have H2_ := (Option.bind_some _ _).symm.trans H; rw [hy290]; with_reducible exact H2_) | (have H2_ := (Option.bind_some _ _).symm.trans H; with_reducible exact H2_) | with_reducible exact H | (rw [hy290]; exact H) | exact H
         have Ny290 := Aside0.mk hy290
         clear hy290
         obtain ⟨y293, hy293⟩ : ∃ y_ : List Int, y_ = (([a1] : List Int)) := ⟨_, rfl⟩
         replace H : (if y290.length + y293.length < 17592186044416 then ((some (y290 ++ y293 : List Int)).bind fun y296 => (if y296.length + (l0.drop (x5_1 : Int).toNat).length < 17592186044416 then (some (y296 ++ (l0.drop (x5_1 : Int).toNat))) else (none))) else (none)) = some r := by first | (rw [hy293]; with_reducible exact H) | (have H2_ := (Option.bind_some _ _).symm.trans H; rw [hy293]; with_reducible exact H2_) | (have H2_ := (Option.bind_some _ _).symm.trans H; with_reducible exact H2_) | with_reducible exact H | (rw [hy293]; exact H) | exact H
         have Ny293 := Aside0.mk hy293
         clear hy293
         by_cases c10 : y290.length + y293.length < 17592186044416
         case neg => rw [if_neg c10] at H; simp at H
         rw [if_pos c10] at H
         have LMc10 := Aside0.mk c10
         clear c10
         obtain ⟨y296, hy296⟩ : ∃ y_ : List Int, y_ = (y290 ++ y293) := ⟨_, rfl⟩
         replace H : (if y296.length + (l0.drop (x5_1 : Int).toNat).length < 17592186044416 then (some (y296 ++ (l0.drop (x5_1 : Int).toNat))) else (none)) = some r := by first | (rw [hy296]; with_reducible exact H) | (have H2_ := (Option.bind_some _ _).symm.trans H; rw [hy296]; with_reducible exact H2_) | (have H2_ := (Option.bind_some _ _).symm.trans H; with_reducible exact H2_) | with_reducible exact H | (rw [hy296]; exact H) | exact H
         have Ny296 := Aside0.mk hy296
         clear hy296
         have c11b0 := eq_true (ac zA : 0 ≤ x5_1)
         have c12b0 := eq_true (ac zA : x5_1 ≤ (l0.length : Int))
         by_cases c13 : y296.length + (l0.drop (x5_1 : Int).toNat).length < 17592186044416
         case neg => rw [if_neg c13] at H; simp at H
         rw [if_pos c13] at H
         have LMc13 := Aside0.mk c13
         clear c13
         obtain ⟨y300, hy300⟩ : ∃ y_ : List Int, y_ = (y296 ++ (l0.drop (x5_1 : Int).toNat)) := ⟨_, rfl⟩
         replace H : (some y300) = some r := by first | (rw [hy300]; with_reducible exact H) | (have H2_ := (Option.bind_some _ _).symm.trans H; rw [hy300]; with_reducible exact H2_) | (have H2_ := (Option.bind_some _ _).symm.trans H; with_reducible exact H2_) | with_reducible exact H | (rw [hy300]; exact H) | exact H
         have Ny300 := Aside0.mk hy300
         clear hy300
         obtain rfl := ap H
         have p284 : 0 ≤ (x5_1 : Int) := ac zA
         have q284 : x5_1 < (l0.length : Int) := ac zA
         obtain ⟨ad284, e284, hx284_0⟩ := Kd.at_int HR0.out x5_1 p284 q284
         cases e284
         (try replace hx284_0 := (HB.out.cell (aj w _ hx284_0)).trans hx284_0)
         replace p284 := eq_true p284
         replace q284 := eq_true q284
         have p285 : 0 ≤ (x5_1 : Int) := ac zA
         have q285 : x5_1 < (l0.length : Int) := ac zA
         obtain ⟨ad285, e285, hx285_0⟩ := Kd.at_int HR0.out x5_1 p285 q285
         obtain rfl : ad284 = ad285 := (by injection e285)
         (try replace hx285_0 := (HB.out.cell (aj w _ hx285_0)).trans hx285_0)
         replace p285 := eq_true p285
         replace q285 := eq_true q285
         try go_wp2
         replace HB := zM (aD HB.out)
         obtain ⟨i015, hi015, _, hsz15, _⟩ := info_parts bv
         obtain ⟨hcut15, hA15, hC15⟩ := mj (P := Tryz.prog) (Value.int .i64) 0 25 3 .i64 Tryz.underlying25 hi015 hsz15 (some ad284) c0 l0 x5_1 (ac zA) (ac zA) HC0.out
         have HR289 := zM (Kd.C_of_reads (h1 := fun _ => rfl) (hA15 _ (Kd.reads_of_C HR0.out)))
         have HC289 := Aside0.mk hC15
         clear hA15 hC15 hi015 hsz15
         obtain ⟨i016, hi016, _, hsz16, _⟩ := info_parts bv
         obtain ⟨A16, hcut16, hA16, hC16⟩ := ml (P := Tryz.prog) (Value.int .i64) 0 25 3 .i64 Tryz.underlying25 hi016 hsz16 (some ad284) c0 l0 x5_1 (ac zA) (ac zA) HC0.out
         have HR299 := zM (Kd.C_of_reads (h1 := fun _ => rfl) (hA16 _ (Kd.reads_of_C HR0.out)))
         have HC299 := Aside0.mk hC16
         clear hA16 hC16 hi016 hsz16
         refine zs (n := 13) (fun w' => True) trivial (fun hHeld => ?_); refine aX lz lB (fun HT_ HW_ => ?_)
         generalize wr.drew = w14 at HB HR289 HR299 hHeld ⊢
         refine zp HT_ 1 34 ?_
         refine zp HT_ 2 35 ?_
         refine zp HT_ 3 36 ?_
         refine zp HT_ 5 38 ?_
         refine zp HT_ 8 41 ?_
         refine zp HT_ 9 42 ?_
         refine zp HT_ 10 43 ?_
         refine km (σ := Value × Value × Value) 3 #[true, true, true, true, true, true, true, false, true, true, true, false, false] (fun s_ => [(33, s_.1), (37, s_.2.1), (39, s_.2.2)]) (fun s_ w' => (Kd.R (Kd.int .i64) 3 w' w.heap.size (fun k_ => some k_ ≠ (s_.2.2 : Value).ownBlock) s_.2.1 y290) ∧ (Kd.R (Kd.int .i64) 3 w' w.heap.size (fun k_ => some k_ ≠ (s_.2.1 : Value).ownBlock) s_.2.2 y293) ∧ (Below w.heap.size w w')) ?_ ?_
         rotate_left
         · intro hCont
           refine g7 (i := 0) (j := 6) (Ni := some 33) (Nj := some 39) #[true, true, true, true, false, true, false, false, true, true, true, false, false] #[false, true, true, true, false, true, true, false, true, true, true, false, false] rfl rfl rfl rfl (iR HT_.out (by kernel_rfl)) (by decide) (by decide) (fun K hK => ?_) (fun K hK => ?_)
           · skip
             refine Kd.R_lit_step (Kd.int .i64) _ 3 ?hg (N := 33) ?hd (xs := ([] : List Int)) (inner := []) (ok := fun _ => True) (okp := fun _ => True) ?hr ?hp (fun _ hk => hk) trivial (Below.refl _ _) (ar _) (by simp) ?_; (case hd => rfl); (case hg => rfl); (case hr => first | (go_simp; done) | (go_simp; rfl)); (case hp => exact (Reps.none _ _))
             intro v287 w17 ho18 hb hg_ hnew_
             clear hg_ hnew_
             (first | rw [← Ny286.out] at ho18 | (simp only [Int.reduceToNat] at ho18; rw [← Ny286.out] at ho18))
             have HO288 := zM (Kd.R_lower ho18 (am zB))
             replace HB := zM (ag zB hb)
             clear hb ho18
             refine hK.out _ _ trivial (fun hHeld => ?_)
             clear hK K
             refine zn 33 ?_
             refine g7 (i := 4) (j := 6) (Ni := some 37) (Nj := some 39) #[true, true, true, true, true, true, false, false, true, true, true, false, false] #[true, true, true, true, false, true, true, false, true, true, true, false, false] rfl rfl rfl rfl (iR HT_.out (by kernel_rfl)) (by decide) (by decide) (fun K hK => ?_) (fun K hK => ?_)
             · skip
               refine Kd.R_append_rows_step (Kd.int .i64) (w0 := w) w.heap.size (by rfl) (.tmp 33) (.tmp 36) 25 3 (.int .i64 0) 8 rfl Tryz.underlying25 bv rfl (by decide) (by omega) v287 y286 (l0.take (x5_1 : Int).toNat) _ _ _ (fun _ => True) (fun _ => False) rfl rfl ?aO ?aR (fun _ _ h => h) (fun _ h => h.elim) ?aF ?aB ?aS ?aL ?_
               (case aR => first | (have hq_ := Kd.C_below HR289.out HB.out; rw [show (l0.take (x5_1 : Int).toNat).length = x5_1.toNat from (by rw [List.length_take]; have h_ : (x5_1 : Int) ≤ (l0.length : Int) := ac zA; omega)] at hq_; repeat (first | exact hq_ | (with_reducible refine Kd.C_alloc ?_ _) | (with_reducible refine Kd.C_drewN ?_ _) | (with_reducible refine Kd.C_drew ?_)); done) | (rw [← show (l0.take (x5_1 : Int).toNat).length = x5_1.toNat from (by rw [List.length_take]; have h_ : (x5_1 : Int) ≤ (l0.length : Int) := ac zA; omega)]; repeat (first | exact (Kd.C_below HR289.out HB.out) | (with_reducible refine Kd.C_alloc ?_ _) | (with_reducible refine Kd.C_drewN ?_ _) | (with_reducible refine Kd.C_drew ?_))) | (repeat (first | exact (Kd.C_below HR289.out HB.out) | (with_reducible refine Kd.C_alloc ?_ _) | (with_reducible refine Kd.C_drewN ?_ _) | (with_reducible refine Kd.C_drew ?_))))
               (case aB => exact zB)
               (case aF => exact (fun _ _ => trivial))
               (case aO => exact (zR HO288.out))
               (case aS => exact (am zB))
               (case aL => have := LMc9.out; have hlx_ := (show (l0.take (x5_1 : Int).toNat).length = x5_1.toNat from (by rw [List.length_take]; have h_ : (x5_1 : Int) ≤ (l0.length : Int) := ac zA; omega)); omega)
               intro v291 w19 ho hb hg hat
               rw [← Ny290.out] at ho
               replace HB := zM (hb)
               have HO292 := zM (ho)
               clear HO288
               clear ho hb hg hat
               refine hK.out _ _ trivial (fun hHeld => ?_)
               clear hK K
               refine zn 37 ?_
               refine bz (i := 6) (N := some 39) #[true, true, true, true, true, true, true, false, true, true, true, false, false] rfl rfl (bu HT_.out (by kernel_rfl)) (by decide) (fun K hK => ?_)
               refine Kd.R_lit_step (Kd.int .i64) _ 3 ?hg (N := 39) ?hd (xs := ([a1] : List Int)) (inner := [.int .i64 a1]) (ok := fun _ => True) (okp := fun _ => True) ?hr ?hp (fun _ hk => hk) trivial (Below.refl _ _) (ar _) (by simp) ?_; (case hd => rfl); (case hg => rfl); (case hr => first | (go_simp; done) | (go_simp; rfl)); (case hp => exact (Reps.one (show Kd.M (Kd.int .i64) _ _ _ a1 [.int .i64 a1] from rfl) (Reps.none _ _)))
               intro v294 w20 ho21 hb hg_ hnew_
               clear hg_ hnew_
               (first | rw [← Ny293.out] at ho21 | (simp only [Int.reduceToNat] at ho21; rw [← Ny293.out] at ho21))
               have HO295 := zM (Kd.R_lower (Kd.R_new' ho21 (Kd.R_lt (zR HO292.out))) (am zB))
               replace HO292 := zM (Kd.R_elder' (zR HO292.out) (Kd.R_base ho21) hb)
               replace HB := zM (ag zB hb)
               clear hb ho21
               refine hK.out _ _ trivial (fun hHeld => ?_)
               clear hK K
               refine zn 39 ?_
               exact dq (by simp only [cP, Act.put, List.setIfInBounds_toArray, List.set_cons_zero, List.set_cons_succ]) (hCont (v287, v291, v294) _ ⟨(by (with_reducible repeat (first | apply Kd.R_alloc | apply Kd.R_drewN | apply Kd.R_drew)); exact Kd.R_mono HO292.out (fun _ hk => hk.2)), (by (with_reducible repeat (first | apply Kd.R_alloc | apply Kd.R_drewN | apply Kd.R_drew)); exact Kd.R_mono HO295.out (fun _ hk => hk.2)), zB⟩)
             · skip
               refine Kd.R_lit_step (Kd.int .i64) _ 3 ?hg (N := 39) ?hd (xs := ([a1] : List Int)) (inner := [.int .i64 a1]) (ok := fun _ => True) (okp := fun _ => True) ?hr ?hp (fun _ hk => hk) trivial (Below.refl _ _) (ar _) (by simp) ?_; (case hd => rfl); (case hg => rfl); (case hr => first | (go_simp; done) | (go_simp; rfl)); (case hp => exact (Reps.one (show Kd.M (Kd.int .i64) _ _ _ a1 [.int .i64 a1] from rfl) (Reps.none _ _)))
               intro v294 w19 ho20 hb hg_ hnew_
               clear hg_ hnew_
               (first | rw [← Ny293.out] at ho20 | (simp only [Int.reduceToNat] at ho20; rw [← Ny293.out] at ho20))
               have HO295 := zM (Kd.R_lower (Kd.R_new' ho20 (Kd.R_lt (zR HO288.out))) (am zB))
               replace HO288 := zM (Kd.R_elder' (zR HO288.out) (Kd.R_base ho20) hb)
               replace HB := zM (ag zB hb)
               clear hb ho20
               refine hK.out _ _ trivial (fun hHeld => ?_)
               clear hK K
               refine zn 39 ?_
               refine bz (i := 4) (N := some 37) #[true, true, true, true, true, true, true, false, true, true, true, false, false] rfl rfl (bu HT_.out (by kernel_rfl)) (by decide) (fun K hK => ?_)
               refine Kd.R_append_rows_step (Kd.int .i64) (w0 := w) w.heap.size (by rfl) (.tmp 33) (.tmp 36) 25 3 (.int .i64 0) 8 rfl Tryz.underlying25 bv rfl (by decide) (by omega) v287 y286 (l0.take (x5_1 : Int).toNat) _ _ _ (fun k_ => some k_ ≠ (v294 : Value).ownBlock) (fun _ => False) rfl rfl ?aO ?aR (fun _ _ h => h) (fun _ h => h.elim) ?aF ?aB ?aS ?aL ?_
               (case aR => first | (have hq_ := Kd.C_below HR289.out HB.out; rw [show (l0.take (x5_1 : Int).toNat).length = x5_1.toNat from (by rw [List.length_take]; have h_ : (x5_1 : Int) ≤ (l0.length : Int) := ac zA; omega)] at hq_; repeat (first | exact hq_ | (with_reducible refine Kd.C_alloc ?_ _) | (with_reducible refine Kd.C_drewN ?_ _) | (with_reducible refine Kd.C_drew ?_)); done) | (rw [← show (l0.take (x5_1 : Int).toNat).length = x5_1.toNat from (by rw [List.length_take]; have h_ : (x5_1 : Int) ≤ (l0.length : Int) := ac zA; omega)]; repeat (first | exact (Kd.C_below HR289.out HB.out) | (with_reducible refine Kd.C_alloc ?_ _) | (with_reducible refine Kd.C_drewN ?_ _) | (with_reducible refine Kd.C_drew ?_))) | (repeat (first | exact (Kd.C_below HR289.out HB.out) | (with_reducible refine Kd.C_alloc ?_ _) | (with_reducible refine Kd.C_drewN ?_ _) | (with_reducible refine Kd.C_drew ?_))))
               (case aB => exact zB)
               (case aF => exact (fun k_ hk => Kd.fresh' (Kd.R_lt (zR HO295.out)) k_ hk))
               (case aO => exact (by (with_reducible repeat (first | apply Kd.R_alloc | apply Kd.R_drewN | apply Kd.R_drew)); exact Kd.R_mono HO288.out (fun _ hk => hk.2)))
               (case aS => exact (am zB))
               (case aL => have := LMc9.out; have hlx_ := (show (l0.take (x5_1 : Int).toNat).length = x5_1.toNat from (by rw [List.length_take]; have h_ : (x5_1 : Int) ≤ (l0.length : Int) := ac zA; omega)); omega)
               intro v291 w21 ho hb hg hat
               rw [← Ny290.out] at ho
               replace HO295 := zM (Kd.R_after (ok := (fun _ => True)) (zR HO295.out) hg hat)
               replace HB := zM (hb)
               have HO292 := zM (ho)
               clear HO288
               clear ho hb hg hat
               refine hK.out _ _ trivial (fun hHeld => ?_)
               clear hK K
               refine zn 37 ?_
               exact dq (by simp only [cP, Act.put, List.setIfInBounds_toArray, List.set_cons_zero, List.set_cons_succ]) (hCont (v287, v291, v294) _ ⟨(zR HO292.out), (by (with_reducible repeat (first | apply Kd.R_alloc | apply Kd.R_drewN | apply Kd.R_drew)); exact Kd.R_mono HO295.out (fun _ hk => hk.2)), zB⟩)
           · skip
             refine Kd.R_lit_step (Kd.int .i64) _ 3 ?hg (N := 39) ?hd (xs := ([a1] : List Int)) (inner := [.int .i64 a1]) (ok := fun _ => True) (okp := fun _ => True) ?hr ?hp (fun _ hk => hk) trivial (Below.refl _ _) (ar _) (by simp) ?_; (case hd => rfl); (case hg => rfl); (case hr => first | (go_simp; done) | (go_simp; rfl)); (case hp => exact (Reps.one (show Kd.M (Kd.int .i64) _ _ _ a1 [.int .i64 a1] from rfl) (Reps.none _ _)))
             intro v294 w17 ho18 hb hg_ hnew_
             clear hg_ hnew_
             (first | rw [← Ny293.out] at ho18 | (simp only [Int.reduceToNat] at ho18; rw [← Ny293.out] at ho18))
             have HO295 := zM (Kd.R_lower ho18 (am zB))
             replace HB := zM (ag zB hb)
             clear hb ho18
             refine hK.out _ _ trivial (fun hHeld => ?_)
             clear hK K
             refine zn 39 ?_
             refine bz (i := 0) (N := some 33) #[true, true, true, true, false, true, true, false, true, true, true, false, false] rfl rfl (bu HT_.out (by kernel_rfl)) (by decide) (fun K hK => ?_)
             refine Kd.R_lit_step (Kd.int .i64) _ 3 ?hg (N := 33) ?hd (xs := ([] : List Int)) (inner := []) (ok := fun _ => True) (okp := fun _ => True) ?hr ?hp (fun _ hk => hk) trivial (Below.refl _ _) (ar _) (by simp) ?_; (case hd => rfl); (case hg => rfl); (case hr => first | (go_simp; done) | (go_simp; rfl)); (case hp => exact (Reps.none _ _))
             intro v287 w19 ho20 hb hg_ hnew_
             clear hg_ hnew_
             (first | rw [← Ny286.out] at ho20 | (simp only [Int.reduceToNat] at ho20; rw [← Ny286.out] at ho20))
             have HO288 := zM (Kd.R_lower (Kd.R_new' ho20 (Kd.R_lt (zR HO295.out))) (am zB))
             replace HO295 := zM (Kd.R_elder' (zR HO295.out) (Kd.R_base ho20) hb)
             replace HB := zM (ag zB hb)
             clear hb ho20
             refine hK.out _ _ trivial (fun hHeld => ?_)
             clear hK K
             refine zn 33 ?_
             refine bz (i := 4) (N := some 37) #[true, true, true, true, true, true, true, false, true, true, true, false, false] rfl rfl (bu HT_.out (by kernel_rfl)) (by decide) (fun K hK => ?_)
             refine Kd.R_append_rows_step (Kd.int .i64) (w0 := w) w.heap.size (by rfl) (.tmp 33) (.tmp 36) 25 3 (.int .i64 0) 8 rfl Tryz.underlying25 bv rfl (by decide) (by omega) v287 y286 (l0.take (x5_1 : Int).toNat) _ _ _ (fun k_ => some k_ ≠ (v294 : Value).ownBlock) (fun _ => False) rfl rfl ?aO ?aR (fun _ _ h => h) (fun _ h => h.elim) ?aF ?aB ?aS ?aL ?_
             (case aR => first | (have hq_ := Kd.C_below HR289.out HB.out; rw [show (l0.take (x5_1 : Int).toNat).length = x5_1.toNat from (by rw [List.length_take]; have h_ : (x5_1 : Int) ≤ (l0.length : Int) := ac zA; omega)] at hq_; repeat (first | exact hq_ | (with_reducible refine Kd.C_alloc ?_ _) | (with_reducible refine Kd.C_drewN ?_ _) | (with_reducible refine Kd.C_drew ?_)); done) | (rw [← show (l0.take (x5_1 : Int).toNat).length = x5_1.toNat from (by rw [List.length_take]; have h_ : (x5_1 : Int) ≤ (l0.length : Int) := ac zA; omega)]; repeat (first | exact (Kd.C_below HR289.out HB.out) | (with_reducible refine Kd.C_alloc ?_ _) | (with_reducible refine Kd.C_drewN ?_ _) | (with_reducible refine Kd.C_drew ?_))) | (repeat (first | exact (Kd.C_below HR289.out HB.out) | (with_reducible refine Kd.C_alloc ?_ _) | (with_reducible refine Kd.C_drewN ?_ _) | (with_reducible refine Kd.C_drew ?_))))
             (case aB => exact zB)
             (case aF => exact (fun k_ hk => Kd.fresh' (Kd.R_lt (zR HO295.out)) k_ hk))
             (case aO => exact (by (with_reducible repeat (first | apply Kd.R_alloc | apply Kd.R_drewN | apply Kd.R_drew)); exact Kd.R_mono HO288.out (fun _ hk => hk.2)))
             (case aS => exact (am zB))
             (case aL => have := LMc9.out; have hlx_ := (show (l0.take (x5_1 : Int).toNat).length = x5_1.toNat from (by rw [List.length_take]; have h_ : (x5_1 : Int) ≤ (l0.length : Int) := ac zA; omega)); omega)
             intro v291 w21 ho hb hg hat
             rw [← Ny290.out] at ho
             replace HO295 := zM (Kd.R_after (ok := (fun _ => True)) (zR HO295.out) hg hat)
             replace HB := zM (hb)
             have HO292 := zM (ho)
             clear HO288
             clear ho hb hg hat
             refine hK.out _ _ trivial (fun hHeld => ?_)
             clear hK K
             refine zn 37 ?_
             exact dq (by simp only [cP, Act.put, List.setIfInBounds_toArray, List.set_cons_zero, List.set_cons_succ]) (hCont (v287, v291, v294) _ ⟨(zR HO292.out), (by (with_reducible repeat (first | apply Kd.R_alloc | apply Kd.R_drewN | apply Kd.R_drew)); exact Kd.R_mono HO295.out (fun _ hk => hk.2)), zB⟩)
         rintro ⟨v287, v291, v294⟩ w22 ⟨h0_, h1_, h2_⟩
         have n0_ : Aside0 (Kd.R (Kd.int .i64) 3 w22 w.heap.size (fun k_ => some k_ ≠ (v294 : Value).ownBlock) v291 y290) := ⟨h0_⟩
         have n1_ : Aside0 (Kd.R (Kd.int .i64) 3 w22 w.heap.size (fun k_ => some k_ ≠ (v291 : Value).ownBlock) v294 y293) := ⟨h1_⟩
         have n2_ : Aside0 (Below w.heap.size w w22) := ⟨h2_⟩
         clear HB
         clear h0_ h1_ h2_
         have HO292 := n0_
         have HO295 := n1_
         have HB := n2_
         clear n0_ n1_ n2_
         have hHeld := trivial
         obtain ⟨Ao24, co24, eo24⟩ := Kd.R_slice HO295.out
         (first | subst eo24 | (injection eo24 with f1_ f2_ f3_; have f4_ := f1_.symm; have f5_ := f3_.symm; clear f1_ f2_ f3_; subst f4_; subst f5_))
         refine dq (a' := ?_) ?_ ?_
         rotate_left
         · simp only [cP, Act.put, List.setIfInBounds_toArray, List.set_cons_zero, List.set_cons_succ]
           rfl
         refine bz (i := 7) (N := some 40) #[true, true, true, true, true, true, true, true, true, true, true, false, false] rfl rfl (bu HT_.out (by kernel_rfl)) (by decide) (fun K hK => ?_)
         refine Kd.R_append_rows_step (Kd.int .i64) (w0 := w) w.heap.size (by rfl) (.tmp 37) (.tmp 39) 25 3 (.int .i64 0) 8 rfl Tryz.underlying25 bv rfl (by decide) (by omega) v291 y290 y293 _ _ _ (fun k_ => some k_ ≠ (.slice Ao24 y293.length co24 : Value).ownBlock) (fun _ => False) rfl rfl ?aO ?aR (fun _ _ h => h) (fun _ h => h.elim) ?aF ?aB ?aS ?aL ?_
         (case aR => exact zC (Kd.R_reads' HO295.out).2.2)
         (case aB => exact zB)
         (case aF => exact (fun k_ hk => Kd.fresh' (Kd.R_lt (zR HO295.out)) k_ hk))
         (case aO => exact (zR HO292.out))
         (case aS => exact (am zB))
         (case aL => have := LMc10.out; omega)
         intro v297 w23 ho hb hg hat
         rw [← Ny296.out] at ho
         replace HO295 := zM (Kd.R_after (ok := (fun _ => True)) (by (with_reducible repeat (first | apply Kd.R_alloc | apply Kd.R_drewN | apply Kd.R_drew)); exact Kd.R_mono HO295.out (fun _ hk => ⟨trivial, hk⟩)) hg hat)
         replace HB := zM (hb)
         have HO298 := zM (ho)
         clear HO292
         clear ho hb hg hat
         refine hK.out _ _ trivial (fun hHeld => ?_)
         clear hK K
         refine zn 40 ?_
         refine bz (i := 11) (N := some 44) #[true, true, true, true, true, true, true, true, true, true, true, true, false] rfl rfl (bu HT_.out (by kernel_rfl)) (by decide) (fun K hK => ?_)
         refine Kd.R_append_rows_step (Kd.int .i64) (w0 := w) w.heap.size (by rfl) (.tmp 40) (.tmp 43) 25 3 (.int .i64 0) 8 rfl Tryz.underlying25 bv rfl (by decide) (by omega) v297 y296 (l0.drop (x5_1 : Int).toNat) _ _ _ (fun k_ => some k_ ≠ (.slice Ao24 y293.length co24 : Value).ownBlock) (fun _ => False) rfl rfl ?aO ?aR (fun _ _ h => h) (fun _ h => h.elim) ?aF ?aB ?aS ?aL ?_
         (case aR => first | (have hq_ := Kd.C_below HR299.out HB.out; rw [show (l0.drop (x5_1 : Int).toNat).length = (l0.length - x5_1.toNat) from List.length_drop] at hq_; repeat (first | exact hq_ | (with_reducible refine Kd.C_alloc ?_ _) | (with_reducible refine Kd.C_drewN ?_ _) | (with_reducible refine Kd.C_drew ?_)); done) | (rw [← show (l0.drop (x5_1 : Int).toNat).length = (l0.length - x5_1.toNat) from List.length_drop]; repeat (first | exact (Kd.C_below HR299.out HB.out) | (with_reducible refine Kd.C_alloc ?_ _) | (with_reducible refine Kd.C_drewN ?_ _) | (with_reducible refine Kd.C_drew ?_))) | (repeat (first | exact (Kd.C_below HR299.out HB.out) | (with_reducible refine Kd.C_alloc ?_ _) | (with_reducible refine Kd.C_drewN ?_ _) | (with_reducible refine Kd.C_drew ?_))))
         (case aB => exact zB)
         (case aF => exact (fun k_ hk => Kd.fresh' (Kd.R_lt (zR HO295.out)) k_ hk))
         (case aO => exact (zR HO298.out))
         (case aS => exact (am zB))
         (case aL => have := LMc13.out; have hlx_ := (show (l0.drop (x5_1 : Int).toNat).length = (l0.length - x5_1.toNat) from List.length_drop); omega)
         intro v301 w25 ho hb hg hat
         rw [← Ny300.out] at ho
         replace HO295 := zM (Kd.R_after (ok := (fun _ => True)) (zR HO295.out) hg hat)
         replace HB := zM (hb)
         have HO302 := zM (ho)
         clear HO298
         clear ho hb hg hat
         refine hK.out _ _ trivial (fun hHeld => ?_)
         clear hK K
         refine zn 44 ?_
         refine zp HT_ 12 4 ?_
         refine zo HT_ ?_
         try go_wp2
         go_ret
         exact ⟨_, by first | rfl | (simp [al, ak] <;> rfl) | (simp [*, al, ak] <;> rfl), by (with_reducible repeat (first | apply Kd.R_alloc | apply Kd.R_drewN | apply Kd.R_drew)); exact Kd.R_mono HO302.out (fun _ hk => trivial), zB⟩
   · rw [if_neg c3] at H
     have c3b0 : decide (x5_1 < (l0.length : Int)) = false := ao c3
     clear c3
     obtain ⟨y303, hy303⟩ : ∃ y_ : List Int, y_ = (([] : List Int)) := ⟨_, rfl⟩
     replace H : (if 0 ≤ x5_1 then (if x5_1 ≤ (l0.length : Int) then (if y303.length + (l0.take (x5_1 : Int).toNat).length < 17592186044416 then ((some (y303 ++ (l0.take (x5_1 : Int).toNat) : List Int)).bind fun y307 => ((some (([a1] : List Int) : List Int)).bind fun y310 => (if y307.length + y310.length < 17592186044416 then ((some (y307 ++ y310 : List Int)).bind fun y313 => (if y313.length + (l0.drop (x5_1 : Int).toNat).length < 17592186044416 then (some (y313 ++ (l0.drop (x5_1 : Int).toNat))) else (none))) else (none)))) else (none)) else (none)) else (none)) = some r := by first | (rw [hy303]; with_reducible exact H) | (have H2_ := (Option.bind_some _ _).symm.trans H; rw [hy303]; with_reducible exact H2_) | (have H2_ := (Option.bind_some _ _).symm.trans H; with_reducible exact H2_) | with_reducible exact H | (rw [hy303]; exact H) | exact H
     have Ny303 := Aside0.mk hy303
     clear hy303
     by_cases c26 : 0 ≤ x5_1
     case neg => rw [if_neg c26] at H; simp at H
     rw [if_pos c26] at H
     have c26b0 := eq_true c26
     have c26b1 : decide (0 ≤ x5_1) = true := af c26
     clear c26
     by_cases c27 : x5_1 ≤ (l0.length : Int)
     case neg => rw [if_neg c27] at H; simp at H
     rw [if_pos c27] at H
     have c27b0 := eq_true c27
     have c27b1 : decide (x5_1 ≤ (l0.length : Int)) = true := af c27
     clear c27
     by_cases c28 : y303.length + (l0.take (x5_1 : Int).toNat).length < 17592186044416
     case neg => rw [if_neg c28] at H; simp at H
     rw [if_pos c28] at H
     have LMc28 := Aside0.mk c28
     clear c28
     obtain ⟨y307, hy307⟩ : ∃ y_ : List Int, y_ = (y303 ++ (l0.take (x5_1 : Int).toNat)) := ⟨_, rfl⟩
     replace H : ((some (([a1] : List Int) : List Int)).bind fun y310 => (if y307.length + y310.length < 17592186044416 then ((some (y307 ++ y310 : List Int)).bind fun y313 => (if y313.length + (l0.drop (x5_1 : Int).toNat).length < 17592186044416 then (some (y313 ++ (l0.drop (x5_1 : Int).toNat))) else (none))) else (none))) = some r := by first | (rw [hy307]; with_reducible exact H) | (have H2_ := (Option.bind_some _ _).symm.trans H; rw [hy307]; with_reducible exact H2_) | (have H2_ := (Option.bind_some _ _).symm.trans H; with_reducible exact H2_) | with_reducible exact H | (rw [hy307]; exact H) | exact H
     have Ny307 := Aside0.mk hy307
     clear hy307
     obtain ⟨y310, hy310⟩ : ∃ y_ : List Int, y_ = (([a1] : List Int)) := ⟨_, rfl⟩
     replace H : (if y307.length + y310.length < 17592186044416 then ((some (y307 ++ y310 : List Int)).bind fun y313 => (if y313.length + (l0.drop (x5_1 : Int).toNat).length < 17592186044416 then (some (y313 ++ (l0.drop (x5_1 : Int).toNat))) else (none))) else (none)) = some r := by first | (rw [hy310]; with_reducible exact H) | (have H2_ := (Option.bind_some _ _).symm.trans H; rw [hy310]; with_reducible exact H2_) | (have H2_ := (Option.bind_some _ _).symm.trans H; with_reducible exact H2_) | with_reducible exact H | (rw [hy310]; exact H) | exact H
     have Ny310 := Aside0.mk hy310
     clear hy310
     by_cases c29 : y307.length + y310.length < 17592186044416
     case neg => rw [if_neg c29] at H; simp at H
     rw [if_pos c29] at H
     have LMc29 := Aside0.mk c29
     clear c29
     obtain ⟨y313, hy313⟩ : ∃ y_ : List Int, y_ = (y307 ++ y310) := ⟨_, rfl⟩
     replace H : (if y313.length + (l0.drop (x5_1 : Int).toNat).length < 17592186044416 then (some (y313 ++ (l0.drop (x5_1 : Int).toNat))) else (none)) = some r := by first | (rw [hy313]; with_reducible exact H) | (have H2_ := (Option.bind_some _ _).symm.trans H; rw [hy313]; with_reducible exact H2_) | (have H2_ := (Option.bind_some _ _).symm.trans H; with_reducible exact H2_) | with_reducible exact H | (rw [hy313]; exact H) | exact H
     have Ny313 := Aside0.mk hy313
     clear hy313
     have c30b0 := eq_true (ac zA : 0 ≤ x5_1)
     have c31b0 := eq_true (ac zA : x5_1 ≤ (l0.length : Int))
     by_cases c32 : y313.length + (l0.drop (x5_1 : Int).toNat).length < 17592186044416
     case neg => rw [if_neg c32] at H; simp at H
     rw [if_pos c32] at H
     have LMc32 := Aside0.mk c32
     clear c32
     obtain ⟨y317, hy317⟩ : ∃ y_ : List Int, y_ = (y313 ++ (l0.drop (x5_1 : Int).toNat)) := ⟨_, rfl⟩
     replace H : (some y317) = some r := by first | (rw [hy317]; with_reducible exact H) | (have H2_ := (Option.bind_some _ _).symm.trans H; rw [hy317]; with_reducible exact H2_) | (have H2_ := (Option.bind_some _ _).symm.trans H; with_reducible exact H2_) | with_reducible exact H | (rw [hy317]; exact H) | exact H
     have Ny317 := Aside0.mk hy317
     clear hy317
     obtain rfl := ap H
     try go_wp2
     replace HB := zM (aD HB.out)
     obtain ⟨i034, hi034, _, hsz34, _⟩ := info_parts bv
     obtain ⟨hcut34, hA34, hC34⟩ := mj (P := Tryz.prog) (Value.int .i64) 0 25 3 .i64 Tryz.underlying25 hi034 hsz34 A0 c0 l0 x5_1 (ac zA) (ac zA) HC0.out
     have HR306 := zM (Kd.C_of_reads (h1 := fun _ => rfl) (hA34 _ (Kd.reads_of_C HR0.out)))
     have HC306 := Aside0.mk hC34
     clear hA34 hC34 hi034 hsz34
     obtain ⟨i035, hi035, _, hsz35, _⟩ := info_parts bv
     obtain ⟨A35, hcut35, hA35, hC35⟩ := ml (P := Tryz.prog) (Value.int .i64) 0 25 3 .i64 Tryz.underlying25 hi035 hsz35 A0 c0 l0 x5_1 (ac zA) (ac zA) HC0.out
     have HR316 := zM (Kd.C_of_reads (h1 := fun _ => rfl) (hA35 _ (Kd.reads_of_C HR0.out)))
     have HC316 := Aside0.mk hC35
     clear hA35 hC35 hi035 hsz35
     refine zs (n := 13) (fun w' => True) trivial (fun hHeld => ?_); refine aX lz lB (fun HT_ HW_ => ?_)
     generalize wr.drew = w33 at HB HR306 HR316 hHeld ⊢
     refine zp HT_ 1 34 ?_
     refine zp HT_ 2 35 ?_
     refine zp HT_ 3 36 ?_
     refine zp HT_ 5 38 ?_
     refine zp HT_ 8 41 ?_
     refine zp HT_ 9 42 ?_
     refine zp HT_ 10 43 ?_
     refine km (σ := Value × Value × Value) 3 #[true, true, true, true, true, true, true, false, true, true, true, false, false] (fun s_ => [(33, s_.1), (37, s_.2.1), (39, s_.2.2)]) (fun s_ w' => (Kd.R (Kd.int .i64) 3 w' w.heap.size (fun k_ => some k_ ≠ (s_.2.2 : Value).ownBlock) s_.2.1 y307) ∧ (Kd.R (Kd.int .i64) 3 w' w.heap.size (fun k_ => some k_ ≠ (s_.2.1 : Value).ownBlock) s_.2.2 y310) ∧ (Below w.heap.size w w')) ?_ ?_
     rotate_left
     · intro hCont
       refine g7 (i := 0) (j := 6) (Ni := some 33) (Nj := some 39) #[true, true, true, true, false, true, false, false, true, true, true, false, false] #[false, true, true, true, false, true, true, false, true, true, true, false, false] rfl rfl rfl rfl (iR HT_.out (by kernel_rfl)) (by decide) (by decide) (fun K hK => ?_) (fun K hK => ?_)
       · skip
         refine Kd.R_lit_step (Kd.int .i64) _ 3 ?hg (N := 33) ?hd (xs := ([] : List Int)) (inner := []) (ok := fun _ => True) (okp := fun _ => True) ?hr ?hp (fun _ hk => hk) trivial (Below.refl _ _) (ar _) (by simp) ?_; (case hd => rfl); (case hg => rfl); (case hr => first | (go_simp; done) | (go_simp; rfl)); (case hp => exact (Reps.none _ _))
         intro v304 w36 ho37 hb hg_ hnew_
         clear hg_ hnew_
         (first | rw [← Ny303.out] at ho37 | (simp only [Int.reduceToNat] at ho37; rw [← Ny303.out] at ho37))
         have HO305 := zM (Kd.R_lower ho37 (am zB))
         replace HB := zM (ag zB hb)
         clear hb ho37
         refine hK.out _ _ trivial (fun hHeld => ?_)
         clear hK K
         refine zn 33 ?_
         refine g7 (i := 4) (j := 6) (Ni := some 37) (Nj := some 39) #[true, true, true, true, true, true, false, false, true, true, true, false, false] #[true, true, true, true, false, true, true, false, true, true, true, false, false] rfl rfl rfl rfl (iR HT_.out (by kernel_rfl)) (by decide) (by decide) (fun K hK => ?_) (fun K hK => ?_)
         · skip
           refine Kd.R_append_rows_step (Kd.int .i64) (w0 := w) w.heap.size (by rfl) (.tmp 33) (.tmp 36) 25 3 (.int .i64 0) 8 rfl Tryz.underlying25 bv rfl (by decide) (by omega) v304 y303 (l0.take (x5_1 : Int).toNat) _ _ _ (fun _ => True) (fun _ => False) rfl rfl ?aO ?aR (fun _ _ h => h) (fun _ h => h.elim) ?aF ?aB ?aS ?aL ?_
           (case aR => first | (have hq_ := Kd.C_below HR306.out HB.out; rw [show (l0.take (x5_1 : Int).toNat).length = x5_1.toNat from (by rw [List.length_take]; have h_ : (x5_1 : Int) ≤ (l0.length : Int) := ac zA; omega)] at hq_; repeat (first | exact hq_ | (with_reducible refine Kd.C_alloc ?_ _) | (with_reducible refine Kd.C_drewN ?_ _) | (with_reducible refine Kd.C_drew ?_)); done) | (rw [← show (l0.take (x5_1 : Int).toNat).length = x5_1.toNat from (by rw [List.length_take]; have h_ : (x5_1 : Int) ≤ (l0.length : Int) := ac zA; omega)]; repeat (first | exact (Kd.C_below HR306.out HB.out) | (with_reducible refine Kd.C_alloc ?_ _) | (with_reducible refine Kd.C_drewN ?_ _) | (with_reducible refine Kd.C_drew ?_))) | (repeat (first | exact (Kd.C_below HR306.out HB.out) | (with_reducible refine Kd.C_alloc ?_ _) | (with_reducible refine Kd.C_drewN ?_ _) | (with_reducible refine Kd.C_drew ?_))))
           (case aB => exact zB)
           (case aF => exact (fun _ _ => trivial))
           (case aO => exact (zR HO305.out))
           (case aS => exact (am zB))
           (case aL => have := LMc28.out; have hlx_ := (show (l0.take (x5_1 : Int).toNat).length = x5_1.toNat from (by rw [List.length_take]; have h_ : (x5_1 : Int) ≤ (l0.length : Int) := ac zA; omega)); omega)
           intro v308 w38 ho hb hg hat
           rw [← Ny307.out] at ho
           replace HB := zM (hb)
           have HO309 := zM (ho)
           clear HO305
           clear ho hb hg hat
           refine hK.out _ _ trivial (fun hHeld => ?_)
           clear hK K
           refine zn 37 ?_
           refine bz (i := 6) (N := some 39) #[true, true, true, true, true, true, true, false, true, true, true, false, false] rfl rfl (bu HT_.out (by kernel_rfl)) (by decide) (fun K hK => ?_)
           refine Kd.R_lit_step (Kd.int .i64) _ 3 ?hg (N := 39) ?hd (xs := ([a1] : List Int)) (inner := [.int .i64 a1]) (ok := fun _ => True) (okp := fun _ => True) ?hr ?hp (fun _ hk => hk) trivial (Below.refl _ _) (ar _) (by simp) ?_; (case hd => rfl); (case hg => rfl); (case hr => first | (go_simp; done) | (go_simp; rfl)); (case hp => exact (Reps.one (show Kd.M (Kd.int .i64) _ _ _ a1 [.int .i64 a1] from rfl) (Reps.none _ _)))
           intro v311 w39 ho40 hb hg_ hnew_
           clear hg_ hnew_
           (first | rw [← Ny310.out] at ho40 | (simp only [Int.reduceToNat] at ho40; rw [← Ny310.out] at ho40))
           have HO312 := zM (Kd.R_lower (Kd.R_new' ho40 (Kd.R_lt (zR HO309.out))) (am zB))
           replace HO309 := zM (Kd.R_elder' (zR HO309.out) (Kd.R_base ho40) hb)
           replace HB := zM (ag zB hb)
           clear hb ho40
           refine hK.out _ _ trivial (fun hHeld => ?_)
           clear hK K
           refine zn 39 ?_
           exact dq (by simp only [cP, Act.put, List.setIfInBounds_toArray, List.set_cons_zero, List.set_cons_succ]) (hCont (v304, v308, v311) _ ⟨(by (with_reducible repeat (first | apply Kd.R_alloc | apply Kd.R_drewN | apply Kd.R_drew)); exact Kd.R_mono HO309.out (fun _ hk => hk.2)), (by (with_reducible repeat (first | apply Kd.R_alloc | apply Kd.R_drewN | apply Kd.R_drew)); exact Kd.R_mono HO312.out (fun _ hk => hk.2)), zB⟩)
         · skip
           refine Kd.R_lit_step (Kd.int .i64) _ 3 ?hg (N := 39) ?hd (xs := ([a1] : List Int)) (inner := [.int .i64 a1]) (ok := fun _ => True) (okp := fun _ => True) ?hr ?hp (fun _ hk => hk) trivial (Below.refl _ _) (ar _) (by simp) ?_; (case hd => rfl); (case hg => rfl); (case hr => first | (go_simp; done) | (go_simp; rfl)); (case hp => exact (Reps.one (show Kd.M (Kd.int .i64) _ _ _ a1 [.int .i64 a1] from rfl) (Reps.none _ _)))
           intro v311 w38 ho39 hb hg_ hnew_
           clear hg_ hnew_
           (first | rw [← Ny310.out] at ho39 | (simp only [Int.reduceToNat] at ho39; rw [← Ny310.out] at ho39))
           have HO312 := zM (Kd.R_lower (Kd.R_new' ho39 (Kd.R_lt (zR HO305.out))) (am zB))
           replace HO305 := zM (Kd.R_elder' (zR HO305.out) (Kd.R_base ho39) hb)
           replace HB := zM (ag zB hb)
           clear hb ho39
           refine hK.out _ _ trivial (fun hHeld => ?_)
           clear hK K
           refine zn 39 ?_
           refine bz (i := 4) (N := some 37) #[true, true, true, true, true, true, true, false, true, true, true, false, false] rfl rfl (bu HT_.out (by kernel_rfl)) (by decide) (fun K hK => ?_)
           refine Kd.R_append_rows_step (Kd.int .i64) (w0 := w) w.heap.size (by rfl) (.tmp 33) (.tmp 36) 25 3 (.int .i64 0) 8 rfl Tryz.underlying25 bv rfl (by decide) (by omega) v304 y303 (l0.take (x5_1 : Int).toNat) _ _ _ (fun k_ => some k_ ≠ (v311 : Value).ownBlock) (fun _ => False) rfl rfl ?aO ?aR (fun _ _ h => h) (fun _ h => h.elim) ?aF ?aB ?aS ?aL ?_
           (case aR => first | (have hq_ := Kd.C_below HR306.out HB.out; rw [show (l0.take (x5_1 : Int).toNat).length = x5_1.toNat from (by rw [List.length_take]; have h_ : (x5_1 : Int) ≤ (l0.length : Int) := ac zA; omega)] at hq_; repeat (first | exact hq_ | (with_reducible refine Kd.C_alloc ?_ _) | (with_reducible refine Kd.C_drewN ?_ _) | (with_reducible refine Kd.C_drew ?_)); done) | (rw [← show (l0.take (x5_1 : Int).toNat).length = x5_1.toNat from (by rw [List.length_take]; have h_ : (x5_1 : Int) ≤ (l0.length : Int) := ac zA; omega)]; repeat (first | exact (Kd.C_below HR306.out HB.out) | (with_reducible refine Kd.C_alloc ?_ _) | (with_reducible refine Kd.C_drewN ?_ _) | (with_reducible refine Kd.C_drew ?_))) | (repeat (first | exact (Kd.C_below HR306.out HB.out) | (with_reducible refine Kd.C_alloc ?_ _) | (with_reducible refine Kd.C_drewN ?_ _) | (with_reducible refine Kd.C_drew ?_))))
           (case aB => exact zB)
           (case aF => exact (fun k_ hk => Kd.fresh' (Kd.R_lt (zR HO312.out)) k_ hk))
           (case aO => exact (by (with_reducible repeat (first | apply Kd.R_alloc | apply Kd.R_drewN | apply Kd.R_drew)); exact Kd.R_mono HO305.out (fun _ hk => hk.2)))
           (case aS => exact (am zB))
           (case aL => have := LMc28.out; have hlx_ := (show (l0.take (x5_1 : Int).toNat).length = x5_1.toNat from (by rw [List.length_take]; have h_ : (x5_1 : Int) ≤ (l0.length : Int) := ac zA; omega)); omega)
           intro v308 w40 ho hb hg hat
           rw [← Ny307.out] at ho
           replace HO312 := zM (Kd.R_after (ok := (fun _ => True)) (zR HO312.out) hg hat)
           replace HB := zM (hb)
           have HO309 := zM (ho)
           clear HO305
           clear ho hb hg hat
           refine hK.out _ _ trivial (fun hHeld => ?_)
           clear hK K
           refine zn 37 ?_
           exact dq (by simp only [cP, Act.put, List.setIfInBounds_toArray, List.set_cons_zero, List.set_cons_succ]) (hCont (v304, v308, v311) _ ⟨(zR HO309.out), (by (with_reducible repeat (first | apply Kd.R_alloc | apply Kd.R_drewN | apply Kd.R_drew)); exact Kd.R_mono HO312.out (fun _ hk => hk.2)), zB⟩)
       · skip
         refine Kd.R_lit_step (Kd.int .i64) _ 3 ?hg (N := 39) ?hd (xs := ([a1] : List Int)) (inner := [.int .i64 a1]) (ok := fun _ => True) (okp := fun _ => True) ?hr ?hp (fun _ hk => hk) trivial (Below.refl _ _) (ar _) (by simp) ?_; (case hd => rfl); (case hg => rfl); (case hr => first | (go_simp; done) | (go_simp; rfl)); (case hp => exact (Reps.one (show Kd.M (Kd.int .i64) _ _ _ a1 [.int .i64 a1] from rfl) (Reps.none _ _)))
         intro v311 w36 ho37 hb hg_ hnew_
         clear hg_ hnew_
         (first | rw [← Ny310.out] at ho37 | (simp only [Int.reduceToNat] at ho37; rw [← Ny310.out] at ho37))
         have HO312 := zM (Kd.R_lower ho37 (am zB))
         replace HB := zM (ag zB hb)
         clear hb ho37
         refine hK.out _ _ trivial (fun hHeld => ?_)
         clear hK K
         refine zn 39 ?_
         refine bz (i := 0) (N := some 33) #[true, true, true, true, false, true, true, false, true, true, true, false, false] rfl rfl (bu HT_.out (by kernel_rfl)) (by decide) (fun K hK => ?_)
         refine Kd.R_lit_step (Kd.int .i64) _ 3 ?hg (N := 33) ?hd (xs := ([] : List Int)) (inner := []) (ok := fun _ => True) (okp := fun _ => True) ?hr ?hp (fun _ hk => hk) trivial (Below.refl _ _) (ar _) (by simp) ?_; (case hd => rfl); (case hg => rfl); (case hr => first | (go_simp; done) | (go_simp; rfl)); (case hp => exact (Reps.none _ _))
         intro v304 w38 ho39 hb hg_ hnew_
         clear hg_ hnew_
         (first | rw [← Ny303.out] at ho39 | (simp only [Int.reduceToNat] at ho39; rw [← Ny303.out] at ho39))
         have HO305 := zM (Kd.R_lower (Kd.R_new' ho39 (Kd.R_lt (zR HO312.out))) (am zB))
         replace HO312 := zM (Kd.R_elder' (zR HO312.out) (Kd.R_base ho39) hb)
         replace HB := zM (ag zB hb)
         clear hb ho39
         refine hK.out _ _ trivial (fun hHeld => ?_)
         clear hK K
         refine zn 33 ?_
         refine bz (i := 4) (N := some 37) #[true, true, true, true, true, true, true, false, true, true, true, false, false] rfl rfl (bu HT_.out (by kernel_rfl)) (by decide) (fun K hK => ?_)
         refine Kd.R_append_rows_step (Kd.int .i64) (w0 := w) w.heap.size (by rfl) (.tmp 33) (.tmp 36) 25 3 (.int .i64 0) 8 rfl Tryz.underlying25 bv rfl (by decide) (by omega) v304 y303 (l0.take (x5_1 : Int).toNat) _ _ _ (fun k_ => some k_ ≠ (v311 : Value).ownBlock) (fun _ => False) rfl rfl ?aO ?aR (fun _ _ h => h) (fun _ h => h.elim) ?aF ?aB ?aS ?aL ?_
         (case aR => first | (have hq_ := Kd.C_below HR306.out HB.out; rw [show (l0.take (x5_1 : Int).toNat).length = x5_1.toNat from (by rw [List.length_take]; have h_ : (x5_1 : Int) ≤ (l0.length : Int) := ac zA; omega)] at hq_; repeat (first | exact hq_ | (with_reducible refine Kd.C_alloc ?_ _) | (with_reducible refine Kd.C_drewN ?_ _) | (with_reducible refine Kd.C_drew ?_)); done) | (rw [← show (l0.take (x5_1 : Int).toNat).length = x5_1.toNat from (by rw [List.length_take]; have h_ : (x5_1 : Int) ≤ (l0.length : Int) := ac zA; omega)]; repeat (first | exact (Kd.C_below HR306.out HB.out) | (with_reducible refine Kd.C_alloc ?_ _) | (with_reducible refine Kd.C_drewN ?_ _) | (with_reducible refine Kd.C_drew ?_))) | (repeat (first | exact (Kd.C_below HR306.out HB.out) | (with_reducible refine Kd.C_alloc ?_ _) | (with_reducible refine Kd.C_drewN ?_ _) | (with_reducible refine Kd.C_drew ?_))))
         (case aB => exact zB)
         (case aF => exact (fun k_ hk => Kd.fresh' (Kd.R_lt (zR HO312.out)) k_ hk))
         (case aO => exact (by (with_reducible repeat (first | apply Kd.R_alloc | apply Kd.R_drewN | apply Kd.R_drew)); exact Kd.R_mono HO305.out (fun _ hk => hk.2)))
         (case aS => exact (am zB))
         (case aL => have := LMc28.out; have hlx_ := (show (l0.take (x5_1 : Int).toNat).length = x5_1.toNat from (by rw [List.length_take]; have h_ : (x5_1 : Int) ≤ (l0.length : Int) := ac zA; omega)); omega)
         intro v308 w40 ho hb hg hat
         rw [← Ny307.out] at ho
         replace HO312 := zM (Kd.R_after (ok := (fun _ => True)) (zR HO312.out) hg hat)
         replace HB := zM (hb)
         have HO309 := zM (ho)
         clear HO305
         clear ho hb hg hat
         refine hK.out _ _ trivial (fun hHeld => ?_)
         clear hK K
         refine zn 37 ?_
         exact dq (by simp only [cP, Act.put, List.setIfInBounds_toArray, List.set_cons_zero, List.set_cons_succ]) (hCont (v304, v308, v311) _ ⟨(zR HO309.out), (by (with_reducible repeat (first | apply Kd.R_alloc | apply Kd.R_drewN | apply Kd.R_drew)); exact Kd.R_mono HO312.out (fun _ hk => hk.2)), zB⟩)
     rintro ⟨v304, v308, v311⟩ w41 ⟨h0_, h1_, h2_⟩
     have n0_ : Aside0 (Kd.R (Kd.int .i64) 3 w41 w.heap.size (fun k_ => some k_ ≠ (v311 : Value).ownBlock) v308 y307) := ⟨h0_⟩
     have n1_ : Aside0 (Kd.R (Kd.int .i64) 3 w41 w.heap.size (fun k_ => some k_ ≠ (v308 : Value).ownBlock) v311 y310) := ⟨h1_⟩
     have n2_ : Aside0 (Below w.heap.size w w41) := ⟨h2_⟩
     clear HB
     clear h0_ h1_ h2_
     have HO309 := n0_
     have HO312 := n1_
     have HB := n2_
     clear n0_ n1_ n2_
     have hHeld := trivial
     obtain ⟨Ao43, co43, eo43⟩ := Kd.R_slice HO312.out
     (first | subst eo43 | (injection eo43 with f1_ f2_ f3_; have f4_ := f1_.symm; have f5_ := f3_.symm; clear f1_ f2_ f3_; subst f4_; subst f5_))
     refine dq (a' := ?_) ?_ ?_
     rotate_left
     · simp only [cP, Act.put, List.setIfInBounds_toArray, List.set_cons_zero, List.set_cons_succ]
       rfl
     refine bz (i := 7) (N := some 40) #[true, true, true, true, true, true, true, true, true, true, true, false, false] rfl rfl (bu HT_.out (by kernel_rfl)) (by decide) (fun K hK => ?_)
     refine Kd.R_append_rows_step (Kd.int .i64) (w0 := w) w.heap.size (by rfl) (.tmp 37) (.tmp 39) 25 3 (.int .i64 0) 8 rfl Tryz.underlying25 bv rfl (by decide) (by omega) v308 y307 y310 _ _ _ (fun k_ => some k_ ≠ (.slice Ao43 y310.length co43 : Value).ownBlock) (fun _ => False) rfl rfl ?aO ?aR (fun _ _ h => h) (fun _ h => h.elim) ?aF ?aB ?aS ?aL ?_
     (case aR => exact zC (Kd.R_reads' HO312.out).2.2)
     (case aB => exact zB)
     (case aF => exact (fun k_ hk => Kd.fresh' (Kd.R_lt (zR HO312.out)) k_ hk))
     (case aO => exact (zR HO309.out))
     (case aS => exact (am zB))
     (case aL => have := LMc29.out; omega)
     intro v314 w42 ho hb hg hat
     rw [← Ny313.out] at ho
     replace HO312 := zM (Kd.R_after (ok := (fun _ => True)) (by (with_reducible repeat (first | apply Kd.R_alloc | apply Kd.R_drewN | apply Kd.R_drew)); exact Kd.R_mono HO312.out (fun _ hk => ⟨trivial, hk⟩)) hg hat)
     replace HB := zM (hb)
     have HO315 := zM (ho)
     clear HO309
     clear ho hb hg hat
     refine hK.out _ _ trivial (fun hHeld => ?_)
     clear hK K
     refine zn 40 ?_
     refine bz (i := 11) (N := some 44) #[true, true, true, true, true, true, true, true, true, true, true, true, false] rfl rfl (bu HT_.out (by kernel_rfl)) (by decide) (fun K hK => ?_)
     refine Kd.R_append_rows_step (Kd.int .i64) (w0 := w) w.heap.size (by rfl) (.tmp 40) (.tmp 43) 25 3 (.int .i64 0) 8 rfl Tryz.underlying25 bv rfl (by decide) (by omega) v314 y313 (l0.drop (x5_1 : Int).toNat) _ _ _ (fun k_ => some k_ ≠ (.slice Ao43 y310.length co43 : Value).ownBlock) (fun _ => False) rfl rfl ?aO ?aR (fun _ _ h => h) (fun _ h => h.elim) ?aF ?aB ?aS ?aL ?_
     (case aR => first | (have hq_ := Kd.C_below HR316.out HB.out; rw [show (l0.drop (x5_1 : Int).toNat).length = (l0.length - x5_1.toNat) from List.length_drop] at hq_; repeat (first | exact hq_ | (with_reducible refine Kd.C_alloc ?_ _) | (with_reducible refine Kd.C_drewN ?_ _) | (with_reducible refine Kd.C_drew ?_)); done) | (rw [← show (l0.drop (x5_1 : Int).toNat).length = (l0.length - x5_1.toNat) from List.length_drop]; repeat (first | exact (Kd.C_below HR316.out HB.out) | (with_reducible refine Kd.C_alloc ?_ _) | (with_reducible refine Kd.C_drewN ?_ _) | (with_reducible refine Kd.C_drew ?_))) | (repeat (first | exact (Kd.C_below HR316.out HB.out) | (with_reducible refine Kd.C_alloc ?_ _) | (with_reducible refine Kd.C_drewN ?_ _) | (with_reducible refine Kd.C_drew ?_))))
     (case aB => exact zB)
     (case aF => exact (fun k_ hk => Kd.fresh' (Kd.R_lt (zR HO312.out)) k_ hk))
     (case aO => exact (zR HO315.out))
     (case aS => exact (am zB))
     (case aL => have := LMc32.out; have hlx_ := (show (l0.drop (x5_1 : Int).toNat).length = (l0.length - x5_1.toNat) from List.length_drop); omega)
     intro v318 w44 ho hb hg hat
     rw [← Ny317.out] at ho
     replace HO312 := zM (Kd.R_after (ok := (fun _ => True)) (zR HO312.out) hg hat)
     replace HB := zM (hb)
     have HO319 := zM (ho)
     clear HO315
     clear ho hb hg hat
     refine hK.out _ _ trivial (fun hHeld => ?_)
     clear hK K
     refine zn 44 ?_
     refine zp HT_ 12 4 ?_
     refine zo HT_ ?_
     try go_wp2
     go_ret
     exact ⟨_, by first | rfl | (simp [al, ak] <;> rfl) | (simp [*, al, ak] <;> rfl), by (with_reducible repeat (first | apply Kd.R_alloc | apply Kd.R_drewN | apply Kd.R_drew)); exact Kd.R_mono HO319.out (fun _ hk => trivial), zB⟩
end Go.Proofs.YtjgcehldepfaaaaGreat.P
