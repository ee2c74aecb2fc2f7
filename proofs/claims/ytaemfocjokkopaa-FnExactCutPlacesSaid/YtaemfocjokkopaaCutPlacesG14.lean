-- Written by a program of this session (the kit's print, turned: wip/print/patch.py) out of the translation. Not trusted: Lean checks it.
import Derived.Test.YtaemfocjokkopaaCutPlacesG5
namespace Go.Proofs.Ytaemfocjokkopaa.P
open Go.RowKit Go.Proofs.YtaemfocjokkopaaW.PrintWords Go.Proofs.YtaemfocjokkopaaW.PrintLast Go.Proofs.YtaemfocjokkopaaW.PrintMore
attribute [local go_sem] max2_int min2_int max_two min_two max_three min_three max_four min_four   -- for this text's walks alone
set_option linter.unusedVariables false
set_option linter.unusedSimpArgs false

/-! ### spec_l1Put: function 19 -/
def spec_l1Put.l0 : Nat → List Int → Int → Int → Option (List Int)
 | 0, _, _, _ => none
 | k + 1, x0, x1, x5 => if x5 < (x0.length : Int) then (if 0 ≤ x5 then (if (rd x0 x5) < x1 then (spec_l1Put.l0 k x0 x1 (wrap64 (x5 + 1))) else (if (rd x0 x5) = x1 then (none) else ((some (([] : List Int) : List Int)).bind fun y295 => (if x5 ≤ (x0.length : Int) then (if y295.length + (x0.take (x5 : Int).toNat).length < 17592186044416 then ((some (y295 ++ (x0.take (x5 : Int).toNat) : List Int)).bind fun y299 => ((some (([x1] : List Int) : List Int)).bind fun y302 => (if y299.length + y302.length < 17592186044416 then ((some (y299 ++ y302 : List Int)).bind fun y305 => (if y305.length + (x0.drop (x5 : Int).toNat).length < 17592186044416 then (some (y305 ++ (x0.drop (x5 : Int).toNat))) else (none))) else (none)))) else (none)) else (none))))) else (none)) else ((some (([] : List Int) : List Int)).bind fun y312 => (if 0 ≤ x5 then (if x5 ≤ (x0.length : Int) then (if y312.length + (x0.take (x5 : Int).toNat).length < 17592186044416 then ((some (y312 ++ (x0.take (x5 : Int).toNat) : List Int)).bind fun y316 => ((some (([x1] : List Int) : List Int)).bind fun y319 => (if y316.length + y319.length < 17592186044416 then ((some (y316 ++ y319 : List Int)).bind fun y322 => (if y322.length + (x0.drop (x5 : Int).toNat).length < 17592186044416 then (some (y322 ++ (x0.drop (x5 : Int).toNat))) else (none))) else (none)))) else (none)) else (none)) else (none)))
def spec_l1Put.f (k : Nat) (l0 : List Int) (a1 : Int) : Option (List Int) := spec_l1Put.l0 k l0 a1 0
def spec_l1Put.T6 : Bool × List (List Nat × List Nat) := (true, [([], []), ([], []), ([], []), ([1, 2], [1, 2]), ([0, 3], [0, 3]), ([], []), ([5], [5]), ([4, 6, 4], [4, 6]), ([], []), ([], []), ([8, 9], [8, 9]), ([7, 10, 7], [7, 10]), ([11, 11, 0, 1, 2, 3, 4, 5, 6, 7, 8, 9, 10, 11], [11])])
def spec_l1Put.B6 : List Nat := [0, 0, 0, 6, 15, 0, 32, 127, 0, 0, 768, 2047, 4095]
theorem spec_l1Put.tab6 : rtab .any (opsOf Try.f19 6) = spec_l1Put.T6 := by kernel_rfl
theorem spec_l1Put.bits6 : waitsOk spec_l1Put.T6.2 spec_l1Put.B6 = true := by kernel_rfl
set_option maxHeartbeats 8000000 in
set_option maxRecDepth 100000 in
theorem spec_l1Put.calls (k : Nat) (A0 : Option Addr) (c0 : Nat) (l0 : List Int) (a1 : Int) (r : List Int) (w : World) (hr0 : Kd.C (Kd.int .i64) w A0 l0.length l0) (hc0 : l0.length ≤ c0) (h : spec_l1Put.f k l0 a1 = some r) :
 Calls Try.prog 19 #[.slice A0 l0.length c0, .int .i64 a1] w fun e w' => ∃ v0_ : Value, e = .returned (v0_) ∧ Kd.R (Kd.int .i64) 3 w' w.heap.size (fun _ => True) v0_ r ∧ Below w.heap.size w w' := by
 have HR0 := Aside0.mk hr0
 have HC0 := Aside0.mk hc0
 clear hr0 hc0
 have HB := zM (Below.refl w.heap.size w)
 have H : (spec_l1Put.l0 k l0 a1 0) = some r := h
 clear h
 have H' := Aside0.mk H
 clear H
 go_enter Try.func19, Try.ntmps19
 go_wp2
 go_loopg [5] k (fun kq v5 w' => ∃ (x5_1 : Int), v5 = .int .i64 x5_1 ∧ Aside0 (spec_l1Put.l0 kq l0 a1 x5_1 = some r) ∧ Aside0 (kq ≤ k) ∧ Aside0 (Below w.heap.size w w'))
 case atStart => exact ⟨(0), (by first | rfl | (simp; done) | (simp [*]; done)), H', ⟨Nat.le_refl _⟩, ⟨zB⟩⟩
 case round =>
  clear H'
  try clear c1
  try clear p2
  obtain ⟨x5_1, rfl, HA, HK1, HB⟩ := hrel
  cases gk with
  | zero => exact absurd HA.out (by simp [spec_l1Put.l0])
  | succ k1 =>
   have H := HA.out
   clear HA
   simp only [spec_l1Put.l0] at H
   by_cases c3 : x5_1 < (l0.length : Int)
   · rw [if_pos c3] at H
     have c3b0 := decide_eq_true c3
     clear c3
     by_cases c4 : 0 ≤ x5_1
     · rw [if_pos c4] at H
       have c4b0 := decide_eq_true c4
       clear c4
       by_cases c5 : (rd l0 x5_1) < a1
       · rw [if_pos c5] at H
         have c5b0 := decide_eq_true c5
         clear c5
         have H' := Aside0.mk H
         clear H
         have p293 : 0 ≤ (x5_1 : Int) := of_decide_eq_true zA
         have q293 : x5_1 < (l0.length : Int) := of_decide_eq_true zA
         obtain ⟨ad293, e293, hx293_0⟩ := Kd.at_int HR0.out x5_1 p293 q293
         cases e293
         (try replace hx293_0 := (HB.out.cell (World.block_lt_of_cell? w _ hx293_0)).trans hx293_0)
         replace p293 := eq_true p293
         replace q293 := eq_true q293
         go_wp2
         go_roundg k1
         case measure => have := HK1.out; omega
         case rel => exact ⟨(wrap64 (x5_1 + 1)), (by first | rfl | (simp; done) | (simp [*]; done)), H', ⟨by have := HK1.out; omega⟩, ⟨zB⟩⟩
       · rw [if_neg c5] at H
         have c5b0 : decide ((rd l0 x5_1) < a1) = false := decide_eq_false c5
         clear c5
         by_cases c6 : (rd l0 x5_1) = a1
         · rw [if_pos c6] at H
           exact absurd H (by simp)
         · rw [if_neg c6] at H
           have c6b0 : ((rd l0 x5_1) == a1) = false := beq_eq_false_iff_ne.mpr c6
           have c6b1 : ((rd l0 x5_1) != a1) = true := bne_iff_ne.mpr c6
           obtain ⟨y295, hy295⟩ : ∃ y_ : List Int, y_ = (([] : List Int)) := ⟨_, rfl⟩
           replace H : (if x5_1 ≤ (l0.length : Int) then (if y295.length + (l0.take (x5_1 : Int).toNat).length < 17592186044416 then ((some (y295 ++ (l0.take (x5_1 : Int).toNat) : List Int)).bind fun y299 => ((some (([a1] : List Int) : List Int)).bind fun y302 => (if y299.length + y302.length < 17592186044416 then ((some (y299 ++ y302 : List Int)).bind fun y305 => (if y305.length + (l0.drop (x5_1 : Int).toNat).length < 17592186044416 then (some (y305 ++ (l0.drop (x5_1 : Int).toNat))) else (none))) else (none)))) else (none)) else (none)) = some r := by first | (rw [hy295]; with_reducible exact H) | (have H2_ := (Option.bind_some _ _).symm.trans H; rw [hy295]; with_reducible exact H2_) | (have H2_ := (Option.bind_some _ _).symm.trans H; with_reducible exact H2_) | with_reducible exact H | (rw [hy295]; exact H) | exact H
           have Ny295 := Aside0.mk hy295
           clear hy295
           have c7b0 := eq_true (of_decide_eq_true zA : 0 ≤ x5_1)
           by_cases c8 : x5_1 ≤ (l0.length : Int)
           · rw [if_pos c8] at H
             have c8b0 := eq_true c8
             have c8b1 : decide (x5_1 ≤ (l0.length : Int)) = true := decide_eq_true c8
             clear c8
             by_cases c9 : y295.length + (l0.take (x5_1 : Int).toNat).length < 17592186044416
             · rw [if_pos c9] at H
               have LMc9 := Aside0.mk c9
               clear c9
               obtain ⟨y299, hy299⟩ : ∃ y_ : List Int, y_ = (y295 ++ (l0.take (x5_1 : Int).toNat)) := ⟨_, rfl⟩
               replace H : ((some (([a1] : List Int) : List Int)).bind fun y302 => (if y299.length + y302.length < 17592186044416 then ((some (y299 ++ y302 : List Int)).bind fun y305 => (if y305.length + (l0.drop (x5_1 : Int).toNat).length < 17592186044416 then (some (y305 ++ (l0.drop (x5_1 : Int).toNat))) else (none))) else (none))) = some r := by first | (rw [hy299]; with_reducible exact H) | (have H2_ := (Option.bind_some _ _).symm.trans H; rw [hy299]; with_reducible exact H2_) | (have H2_ := (Option.bind_some _ _).symm.trans H; with_reducible exact H2_) | with_reducible exact H | (rw [hy299]; exact H) | exact H
               have Ny299 := Aside0.mk hy299
               clear hy299
               obtain ⟨y302, hy302⟩ : ∃ y_ : List Int, y_ = (([a1] : List Int)) := ⟨_, rfl⟩
               replace H : (if y299.length + y302.length < 17592186044416 then ((some (y299 ++ y302 : List Int)).bind fun y305 => (if y305.length + (l0.drop (x5_1 : Int).toNat).length < 17592186044416 then (some (y305 ++ (l0.drop (x5_1 : Int).toNat))) else (none))) else (none)) = some r := by first | (rw [hy302]; with_reducible exact H) | (have H2_ := (Option.bind_some _ _).symm.trans H; rw [hy302]; with_reducible exact H2_) | (have H2_ := (Option.bind_some _ _).symm.trans H; with_reducible exact H2_) | with_reducible exact H | (rw [hy302]; exact H) | exact H
               have Ny302 := Aside0.mk hy302
               clear hy302
               by_cases c10 : y299.length + y302.length < 17592186044416
               · rw [if_pos c10] at H
                 have LMc10 := Aside0.mk c10
                 clear c10
                 obtain ⟨y305, hy305⟩ : ∃ y_ : List Int, y_ = (y299 ++ y302) := ⟨_, rfl⟩
                 replace H : (if y305.length + (l0.drop (x5_1 : Int).toNat).length < 17592186044416 then (some (y305 ++ (l0.drop (x5_1 : Int).toNat))) else (none)) = some r := by first | (rw [hy305]; with_reducible exact H) | (have H2_ := (Option.bind_some _ _).symm.trans H; rw [hy305]; with_reducible exact H2_) | (have H2_ := (Option.bind_some _ _).symm.trans H; with_reducible exact H2_) | with_reducible exact H | (rw [hy305]; exact H) | exact H
                 have Ny305 := Aside0.mk hy305
                 clear hy305
                 have c11b0 := eq_true (of_decide_eq_true zA : 0 ≤ x5_1)
                 have c12b0 := eq_true (of_decide_eq_true zA : x5_1 ≤ (l0.length : Int))
                 by_cases c13 : y305.length + (l0.drop (x5_1 : Int).toNat).length < 17592186044416
                 · rw [if_pos c13] at H
                   have LMc13 := Aside0.mk c13
                   clear c13
                   obtain ⟨y309, hy309⟩ : ∃ y_ : List Int, y_ = (y305 ++ (l0.drop (x5_1 : Int).toNat)) := ⟨_, rfl⟩
                   replace H : (some y309) = some r := by first | (rw [hy309]; with_reducible exact H) | (have H2_ := (Option.bind_some _ _).symm.trans H; rw [hy309]; with_reducible exact H2_) | (have H2_ := (Option.bind_some _ _).symm.trans H; with_reducible exact H2_) | with_reducible exact H | (rw [hy309]; exact H) | exact H
                   have Ny309 := Aside0.mk hy309
                   clear hy309
                   obtain rfl := Option.some.inj H
                   have p293 : 0 ≤ (x5_1 : Int) := of_decide_eq_true zA
                   have q293 : x5_1 < (l0.length : Int) := of_decide_eq_true zA
                   obtain ⟨ad293, e293, hx293_0⟩ := Kd.at_int HR0.out x5_1 p293 q293
                   cases e293
                   (try replace hx293_0 := (HB.out.cell (World.block_lt_of_cell? w _ hx293_0)).trans hx293_0)
                   replace p293 := eq_true p293
                   replace q293 := eq_true q293
                   have p294 : 0 ≤ (x5_1 : Int) := of_decide_eq_true zA
                   have q294 : x5_1 < (l0.length : Int) := of_decide_eq_true zA
                   obtain ⟨ad294, e294, hx294_0⟩ := Kd.at_int HR0.out x5_1 p294 q294
                   obtain rfl : ad293 = ad294 := (by injection e294)
                   (try replace hx294_0 := (HB.out.cell (World.block_lt_of_cell? w _ hx294_0)).trans hx294_0)
                   replace p294 := eq_true p294
                   replace q294 := eq_true q294
                   try go_wp2
                   replace HB := zM (below_drew1 HB.out)
                   obtain ⟨i015, hi015, _, hsz15, _⟩ := info_parts info3
                   obtain ⟨hcut15, hA15, hC15⟩ := print_take_of (P := Try.prog) (Value.int .i64) 0 27 3 .i64 Try.underlying27 hi015 hsz15 (some ad293) c0 l0 x5_1 (of_decide_eq_true zA) (of_decide_eq_true zA) HC0.out
                   have HR298 := zM (Kd.C_of_reads (h1 := fun _ => rfl) (hA15 _ (Kd.reads_of_C HR0.out)))
                   have HC298 := Aside0.mk hC15
                   clear hA15 hC15 hi015 hsz15
                   obtain ⟨i016, hi016, _, hsz16, _⟩ := info_parts info3
                   obtain ⟨A16, hcut16, hA16, hC16⟩ := print_drop_of (P := Try.prog) (Value.int .i64) 0 27 3 .i64 Try.underlying27 hi016 hsz16 (some ad293) c0 l0 x5_1 (of_decide_eq_true zA) (of_decide_eq_true zA) HC0.out
                   have HR308 := zM (Kd.C_of_reads (h1 := fun _ => rfl) (hA16 _ (Kd.reads_of_C HR0.out)))
                   have HC308 := Aside0.mk hC16
                   clear hA16 hC16 hi016 hsz16
                   refine zs (n := 13) (fun w' => True) trivial (fun hHeld => ?_); refine with_tabW spec_l1Put.tab6 spec_l1Put.bits6 (fun HT_ HW_ => ?_)
                   generalize wr.drew = w14 at HB HR298 HR308 hHeld ⊢
                   refine zp HT_ 1 34 ?_
                   refine zp HT_ 2 35 ?_
                   refine zp HT_ 3 36 ?_
                   refine zp HT_ 5 38 ?_
                   refine zp HT_ 8 41 ?_
                   refine zp HT_ 9 42 ?_
                   refine zp HT_ 10 43 ?_
                   refine join_ (σ := Value × Value × Value) 3 #[true, true, true, true, true, true, true, false, true, true, true, false, false] (fun s_ => [(33, s_.1), (37, s_.2.1), (39, s_.2.2)]) (fun s_ w' => (Kd.R (Kd.int .i64) 3 w' w.heap.size (fun k_ => some k_ ≠ (s_.2.2 : Value).ownBlock) s_.2.1 y299) ∧ (Kd.R (Kd.int .i64) 3 w' w.heap.size (fun k_ => some k_ ≠ (s_.2.1 : Value).ownBlock) s_.2.2 y302) ∧ (Below w.heap.size w w')) ?_ ?_
                   rotate_left
                   · intro hCont
                     refine two_ (i := 0) (j := 6) (Ni := some 33) (Nj := some 39) #[true, true, true, true, false, true, false, false, true, true, true, false, false] #[false, true, true, true, false, true, true, false, true, true, true, false, false] rfl rfl rfl rfl (two_of HT_.out (by kernel_rfl)) (by decide) (by decide) (fun K hK => ?_) (fun K hK => ?_)
                     · skip
                       refine Kd.R_lit_step (Kd.int .i64) _ 3 ?hg (N := 33) ?hd (xs := ([] : List Int)) (inner := []) (ok := fun _ => True) (okp := fun _ => True) ?hr ?hp (fun _ hk => hk) trivial (Below.refl _ _) (Nat.le_refl _) (by simp) ?_; (case hd => rfl); (case hg => rfl); (case hr => first | (go_simp; done) | (go_simp; rfl)); (case hp => exact (Reps.none _ _))
                       intro v296 w17 ho18 hb hg_ hnew_
                       clear hg_ hnew_
                       (first | rw [← Ny295.out] at ho18 | (simp only [Int.reduceToNat] at ho18; rw [← Ny295.out] at ho18))
                       have HO297 := zM (Kd.R_lower ho18 (below_size zB))
                       replace HB := zM (below_step zB hb)
                       clear hb ho18
                       refine hK.out _ _ trivial (fun hHeld => ?_)
                       clear hK K
                       refine zn 33 ?_
                       refine two_ (i := 4) (j := 6) (Ni := some 37) (Nj := some 39) #[true, true, true, true, true, true, false, false, true, true, true, false, false] #[true, true, true, true, false, true, true, false, true, true, true, false, false] rfl rfl rfl rfl (two_of HT_.out (by kernel_rfl)) (by decide) (by decide) (fun K hK => ?_) (fun K hK => ?_)
                       · skip
                         refine Kd.R_append_rows_step (Kd.int .i64) (w0 := w) w.heap.size (by rfl) (.tmp 33) (.tmp 36) 27 3 (.int .i64 0) 8 rfl Try.underlying27 info3 rfl (by decide) (by omega) v296 y295 (l0.take (x5_1 : Int).toNat) _ _ _ (fun _ => True) (fun _ => False) rfl rfl ?aO ?aR (fun _ _ h => h) (fun _ h => h.elim) ?aF ?aB ?aS ?aL ?_
                         (case aR => first | (have hq_ := Kd.C_below HR298.out HB.out; rw [show (l0.take (x5_1 : Int).toNat).length = x5_1.toNat from (by rw [List.length_take]; have h_ : (x5_1 : Int) ≤ (l0.length : Int) := of_decide_eq_true zA; omega)] at hq_; repeat (first | exact hq_ | (with_reducible refine Kd.C_alloc ?_ _) | (with_reducible refine Kd.C_drewN ?_ _) | (with_reducible refine Kd.C_drew ?_)); done) | (rw [← show (l0.take (x5_1 : Int).toNat).length = x5_1.toNat from (by rw [List.length_take]; have h_ : (x5_1 : Int) ≤ (l0.length : Int) := of_decide_eq_true zA; omega)]; repeat (first | exact (Kd.C_below HR298.out HB.out) | (with_reducible refine Kd.C_alloc ?_ _) | (with_reducible refine Kd.C_drewN ?_ _) | (with_reducible refine Kd.C_drew ?_))) | (repeat (first | exact (Kd.C_below HR298.out HB.out) | (with_reducible refine Kd.C_alloc ?_ _) | (with_reducible refine Kd.C_drewN ?_ _) | (with_reducible refine Kd.C_drew ?_))))
                         (case aB => exact zB)
                         (case aF => exact (fun _ _ => trivial))
                         (case aO => exact (zR HO297.out))
                         (case aS => exact (below_size zB))
                         (case aL => have := LMc9.out; have hlx_ := (show (l0.take (x5_1 : Int).toNat).length = x5_1.toNat from (by rw [List.length_take]; have h_ : (x5_1 : Int) ≤ (l0.length : Int) := of_decide_eq_true zA; omega)); omega)
                         intro v300 w19 ho hb hg hat
                         rw [← Ny299.out] at ho
                         replace HB := zM (hb)
                         have HO301 := zM (ho)
                         clear HO297
                         clear ho hb hg hat
                         refine hK.out _ _ trivial (fun hHeld => ?_)
                         clear hK K
                         refine zn 37 ?_
                         refine one_ (i := 6) (N := some 39) #[true, true, true, true, true, true, true, false, true, true, true, false, false] rfl rfl (one_of HT_.out (by kernel_rfl)) (by decide) (fun K hK => ?_)
                         refine Kd.R_lit_step (Kd.int .i64) _ 3 ?hg (N := 39) ?hd (xs := ([a1] : List Int)) (inner := [.int .i64 a1]) (ok := fun _ => True) (okp := fun _ => True) ?hr ?hp (fun _ hk => hk) trivial (Below.refl _ _) (Nat.le_refl _) (by simp) ?_; (case hd => rfl); (case hg => rfl); (case hr => first | (go_simp; done) | (go_simp; rfl)); (case hp => exact (Reps.one (show Kd.M (Kd.int .i64) _ _ _ a1 [.int .i64 a1] from rfl) (Reps.none _ _)))
                         intro v303 w20 ho21 hb hg_ hnew_
                         clear hg_ hnew_
                         (first | rw [← Ny302.out] at ho21 | (simp only [Int.reduceToNat] at ho21; rw [← Ny302.out] at ho21))
                         have HO304 := zM (Kd.R_lower (Kd.R_new' ho21 (Kd.R_lt (zR HO301.out))) (below_size zB))
                         replace HO301 := zM (Kd.R_elder' (zR HO301.out) (Kd.R_base ho21) hb)
                         replace HB := zM (below_step zB hb)
                         clear hb ho21
                         refine hK.out _ _ trivial (fun hHeld => ?_)
                         clear hK K
                         refine zn 39 ?_
                         exact norm_ (by simp only [putAll, Act.put, List.setIfInBounds_toArray, List.set_cons_zero, List.set_cons_succ]) (hCont (v296, v300, v303) _ ⟨(by (with_reducible repeat (first | apply Kd.R_alloc | apply Kd.R_drewN | apply Kd.R_drew)); exact Kd.R_mono HO301.out (fun _ hk => hk.2)), (by (with_reducible repeat (first | apply Kd.R_alloc | apply Kd.R_drewN | apply Kd.R_drew)); exact Kd.R_mono HO304.out (fun _ hk => hk.2)), zB⟩)
                       · skip
                         refine Kd.R_lit_step (Kd.int .i64) _ 3 ?hg (N := 39) ?hd (xs := ([a1] : List Int)) (inner := [.int .i64 a1]) (ok := fun _ => True) (okp := fun _ => True) ?hr ?hp (fun _ hk => hk) trivial (Below.refl _ _) (Nat.le_refl _) (by simp) ?_; (case hd => rfl); (case hg => rfl); (case hr => first | (go_simp; done) | (go_simp; rfl)); (case hp => exact (Reps.one (show Kd.M (Kd.int .i64) _ _ _ a1 [.int .i64 a1] from rfl) (Reps.none _ _)))
                         intro v303 w19 ho20 hb hg_ hnew_
                         clear hg_ hnew_
                         (first | rw [← Ny302.out] at ho20 | (simp only [Int.reduceToNat] at ho20; rw [← Ny302.out] at ho20))
                         have HO304 := zM (Kd.R_lower (Kd.R_new' ho20 (Kd.R_lt (zR HO297.out))) (below_size zB))
                         replace HO297 := zM (Kd.R_elder' (zR HO297.out) (Kd.R_base ho20) hb)
                         replace HB := zM (below_step zB hb)
                         clear hb ho20
                         refine hK.out _ _ trivial (fun hHeld => ?_)
                         clear hK K
                         refine zn 39 ?_
                         refine one_ (i := 4) (N := some 37) #[true, true, true, true, true, true, true, false, true, true, true, false, false] rfl rfl (one_of HT_.out (by kernel_rfl)) (by decide) (fun K hK => ?_)
                         refine Kd.R_append_rows_step (Kd.int .i64) (w0 := w) w.heap.size (by rfl) (.tmp 33) (.tmp 36) 27 3 (.int .i64 0) 8 rfl Try.underlying27 info3 rfl (by decide) (by omega) v296 y295 (l0.take (x5_1 : Int).toNat) _ _ _ (fun k_ => some k_ ≠ (v303 : Value).ownBlock) (fun _ => False) rfl rfl ?aO ?aR (fun _ _ h => h) (fun _ h => h.elim) ?aF ?aB ?aS ?aL ?_
                         (case aR => first | (have hq_ := Kd.C_below HR298.out HB.out; rw [show (l0.take (x5_1 : Int).toNat).length = x5_1.toNat from (by rw [List.length_take]; have h_ : (x5_1 : Int) ≤ (l0.length : Int) := of_decide_eq_true zA; omega)] at hq_; repeat (first | exact hq_ | (with_reducible refine Kd.C_alloc ?_ _) | (with_reducible refine Kd.C_drewN ?_ _) | (with_reducible refine Kd.C_drew ?_)); done) | (rw [← show (l0.take (x5_1 : Int).toNat).length = x5_1.toNat from (by rw [List.length_take]; have h_ : (x5_1 : Int) ≤ (l0.length : Int) := of_decide_eq_true zA; omega)]; repeat (first | exact (Kd.C_below HR298.out HB.out) | (with_reducible refine Kd.C_alloc ?_ _) | (with_reducible refine Kd.C_drewN ?_ _) | (with_reducible refine Kd.C_drew ?_))) | (repeat (first | exact (Kd.C_below HR298.out HB.out) | (with_reducible refine Kd.C_alloc ?_ _) | (with_reducible refine Kd.C_drewN ?_ _) | (with_reducible refine Kd.C_drew ?_))))
                         (case aB => exact zB)
                         (case aF => exact (fun k_ hk => Kd.fresh' (Kd.R_lt (zR HO304.out)) k_ hk))
                         (case aO => exact (by (with_reducible repeat (first | apply Kd.R_alloc | apply Kd.R_drewN | apply Kd.R_drew)); exact Kd.R_mono HO297.out (fun _ hk => hk.2)))
                         (case aS => exact (below_size zB))
                         (case aL => have := LMc9.out; have hlx_ := (show (l0.take (x5_1 : Int).toNat).length = x5_1.toNat from (by rw [List.length_take]; have h_ : (x5_1 : Int) ≤ (l0.length : Int) := of_decide_eq_true zA; omega)); omega)
                         intro v300 w21 ho hb hg hat
                         rw [← Ny299.out] at ho
                         replace HO304 := zM (Kd.R_after (ok := (fun _ => True)) (zR HO304.out) hg hat)
                         replace HB := zM (hb)
                         have HO301 := zM (ho)
                         clear HO297
                         clear ho hb hg hat
                         refine hK.out _ _ trivial (fun hHeld => ?_)
                         clear hK K
                         refine zn 37 ?_
                         exact norm_ (by simp only [putAll, Act.put, List.setIfInBounds_toArray, List.set_cons_zero, List.set_cons_succ]) (hCont (v296, v300, v303) _ ⟨(zR HO301.out), (by (with_reducible repeat (first | apply Kd.R_alloc | apply Kd.R_drewN | apply Kd.R_drew)); exact Kd.R_mono HO304.out (fun _ hk => hk.2)), zB⟩)
                     · skip
                       refine Kd.R_lit_step (Kd.int .i64) _ 3 ?hg (N := 39) ?hd (xs := ([a1] : List Int)) (inner := [.int .i64 a1]) (ok := fun _ => True) (okp := fun _ => True) ?hr ?hp (fun _ hk => hk) trivial (Below.refl _ _) (Nat.le_refl _) (by simp) ?_; (case hd => rfl); (case hg => rfl); (case hr => first | (go_simp; done) | (go_simp; rfl)); (case hp => exact (Reps.one (show Kd.M (Kd.int .i64) _ _ _ a1 [.int .i64 a1] from rfl) (Reps.none _ _)))
                       intro v303 w17 ho18 hb hg_ hnew_
                       clear hg_ hnew_
                       (first | rw [← Ny302.out] at ho18 | (simp only [Int.reduceToNat] at ho18; rw [← Ny302.out] at ho18))
                       have HO304 := zM (Kd.R_lower ho18 (below_size zB))
                       replace HB := zM (below_step zB hb)
                       clear hb ho18
                       refine hK.out _ _ trivial (fun hHeld => ?_)
                       clear hK K
                       refine zn 39 ?_
                       refine one_ (i := 0) (N := some 33) #[true, true, true, true, false, true, true, false, true, true, true, false, false] rfl rfl (one_of HT_.out (by kernel_rfl)) (by decide) (fun K hK => ?_)
                       refine Kd.R_lit_step (Kd.int .i64) _ 3 ?hg (N := 33) ?hd (xs := ([] : List Int)) (inner := []) (ok := fun _ => True) (okp := fun _ => True) ?hr ?hp (fun _ hk => hk) trivial (Below.refl _ _) (Nat.le_refl _) (by simp) ?_; (case hd => rfl); (case hg => rfl); (case hr => first | (go_simp; done) | (go_simp; rfl)); (case hp => exact (Reps.none _ _))
                       intro v296 w19 ho20 hb hg_ hnew_
                       clear hg_ hnew_
                       (first | rw [← Ny295.out] at ho20 | (simp only [Int.reduceToNat] at ho20; rw [← Ny295.out] at ho20))
                       have HO297 := zM (Kd.R_lower (Kd.R_new' ho20 (Kd.R_lt (zR HO304.out))) (below_size zB))
                       replace HO304 := zM (Kd.R_elder' (zR HO304.out) (Kd.R_base ho20) hb)
                       replace HB := zM (below_step zB hb)
                       clear hb ho20
                       refine hK.out _ _ trivial (fun hHeld => ?_)
                       clear hK K
                       refine zn 33 ?_
                       refine one_ (i := 4) (N := some 37) #[true, true, true, true, true, true, true, false, true, true, true, false, false] rfl rfl (one_of HT_.out (by kernel_rfl)) (by decide) (fun K hK => ?_)
                       refine Kd.R_append_rows_step (Kd.int .i64) (w0 := w) w.heap.size (by rfl) (.tmp 33) (.tmp 36) 27 3 (.int .i64 0) 8 rfl Try.underlying27 info3 rfl (by decide) (by omega) v296 y295 (l0.take (x5_1 : Int).toNat) _ _ _ (fun k_ => some k_ ≠ (v303 : Value).ownBlock) (fun _ => False) rfl rfl ?aO ?aR (fun _ _ h => h) (fun _ h => h.elim) ?aF ?aB ?aS ?aL ?_
                       (case aR => first | (have hq_ := Kd.C_below HR298.out HB.out; rw [show (l0.take (x5_1 : Int).toNat).length = x5_1.toNat from (by rw [List.length_take]; have h_ : (x5_1 : Int) ≤ (l0.length : Int) := of_decide_eq_true zA; omega)] at hq_; repeat (first | exact hq_ | (with_reducible refine Kd.C_alloc ?_ _) | (with_reducible refine Kd.C_drewN ?_ _) | (with_reducible refine Kd.C_drew ?_)); done) | (rw [← show (l0.take (x5_1 : Int).toNat).length = x5_1.toNat from (by rw [List.length_take]; have h_ : (x5_1 : Int) ≤ (l0.length : Int) := of_decide_eq_true zA; omega)]; repeat (first | exact (Kd.C_below HR298.out HB.out) | (with_reducible refine Kd.C_alloc ?_ _) | (with_reducible refine Kd.C_drewN ?_ _) | (with_reducible refine Kd.C_drew ?_))) | (repeat (first | exact (Kd.C_below HR298.out HB.out) | (with_reducible refine Kd.C_alloc ?_ _) | (with_reducible refine Kd.C_drewN ?_ _) | (with_reducible refine Kd.C_drew ?_))))
                       (case aB => exact zB)
                       (case aF => exact (fun k_ hk => Kd.fresh' (Kd.R_lt (zR HO304.out)) k_ hk))
                       (case aO => exact (by (with_reducible repeat (first | apply Kd.R_alloc | apply Kd.R_drewN | apply Kd.R_drew)); exact Kd.R_mono HO297.out (fun _ hk => hk.2)))
                       (case aS => exact (below_size zB))
                       (case aL => have := LMc9.out; have hlx_ := (show (l0.take (x5_1 : Int).toNat).length = x5_1.toNat from (by rw [List.length_take]; have h_ : (x5_1 : Int) ≤ (l0.length : Int) := of_decide_eq_true zA; omega)); omega)
                       intro v300 w21 ho hb hg hat
                       rw [← Ny299.out] at ho
                       replace HO304 := zM (Kd.R_after (ok := (fun _ => True)) (zR HO304.out) hg hat)
                       replace HB := zM (hb)
                       have HO301 := zM (ho)
                       clear HO297
                       clear ho hb hg hat
                       refine hK.out _ _ trivial (fun hHeld => ?_)
                       clear hK K
                       refine zn 37 ?_
                       exact norm_ (by simp only [putAll, Act.put, List.setIfInBounds_toArray, List.set_cons_zero, List.set_cons_succ]) (hCont (v296, v300, v303) _ ⟨(zR HO301.out), (by (with_reducible repeat (first | apply Kd.R_alloc | apply Kd.R_drewN | apply Kd.R_drew)); exact Kd.R_mono HO304.out (fun _ hk => hk.2)), zB⟩)
                   rintro ⟨v296, v300, v303⟩ w22 ⟨h0_, h1_, h2_⟩
                   have n0_ : Aside0 (Kd.R (Kd.int .i64) 3 w22 w.heap.size (fun k_ => some k_ ≠ (v303 : Value).ownBlock) v300 y299) := ⟨h0_⟩
                   have n1_ : Aside0 (Kd.R (Kd.int .i64) 3 w22 w.heap.size (fun k_ => some k_ ≠ (v300 : Value).ownBlock) v303 y302) := ⟨h1_⟩
                   have n2_ : Aside0 (Below w.heap.size w w22) := ⟨h2_⟩
                   clear HB
                   clear h0_ h1_ h2_
                   have HO301 := n0_
                   have HO304 := n1_
                   have HB := n2_
                   clear n0_ n1_ n2_
                   have hHeld := trivial
                   obtain ⟨Ao24, co24, eo24⟩ := Kd.R_slice HO304.out
                   (first | subst eo24 | (injection eo24 with f1_ f2_ f3_; have f4_ := f1_.symm; have f5_ := f3_.symm; clear f1_ f2_ f3_; subst f4_; subst f5_))
                   refine norm_ (a' := ?_) ?_ ?_
                   rotate_left
                   · simp only [putAll, Act.put, List.setIfInBounds_toArray, List.set_cons_zero, List.set_cons_succ]
                     rfl
                   refine one_ (i := 7) (N := some 40) #[true, true, true, true, true, true, true, true, true, true, true, false, false] rfl rfl (one_of HT_.out (by kernel_rfl)) (by decide) (fun K hK => ?_)
                   refine Kd.R_append_rows_step (Kd.int .i64) (w0 := w) w.heap.size (by rfl) (.tmp 37) (.tmp 39) 27 3 (.int .i64 0) 8 rfl Try.underlying27 info3 rfl (by decide) (by omega) v300 y299 y302 _ _ _ (fun k_ => some k_ ≠ (.slice Ao24 y302.length co24 : Value).ownBlock) (fun _ => False) rfl rfl ?aO ?aR (fun _ _ h => h) (fun _ h => h.elim) ?aF ?aB ?aS ?aL ?_
                   (case aR => exact zC (Kd.R_reads' HO304.out).2.2)
                   (case aB => exact zB)
                   (case aF => exact (fun k_ hk => Kd.fresh' (Kd.R_lt (zR HO304.out)) k_ hk))
                   (case aO => exact (zR HO301.out))
                   (case aS => exact (below_size zB))
                   (case aL => have := LMc10.out; omega)
                   intro v306 w23 ho hb hg hat
                   rw [← Ny305.out] at ho
                   replace HO304 := zM (Kd.R_after (ok := (fun _ => True)) (by (with_reducible repeat (first | apply Kd.R_alloc | apply Kd.R_drewN | apply Kd.R_drew)); exact Kd.R_mono HO304.out (fun _ hk => ⟨trivial, hk⟩)) hg hat)
                   replace HB := zM (hb)
                   have HO307 := zM (ho)
                   clear HO301
                   clear ho hb hg hat
                   refine hK.out _ _ trivial (fun hHeld => ?_)
                   clear hK K
                   refine zn 40 ?_
                   refine one_ (i := 11) (N := some 44) #[true, true, true, true, true, true, true, true, true, true, true, true, false] rfl rfl (one_of HT_.out (by kernel_rfl)) (by decide) (fun K hK => ?_)
                   refine Kd.R_append_rows_step (Kd.int .i64) (w0 := w) w.heap.size (by rfl) (.tmp 40) (.tmp 43) 27 3 (.int .i64 0) 8 rfl Try.underlying27 info3 rfl (by decide) (by omega) v306 y305 (l0.drop (x5_1 : Int).toNat) _ _ _ (fun k_ => some k_ ≠ (.slice Ao24 y302.length co24 : Value).ownBlock) (fun _ => False) rfl rfl ?aO ?aR (fun _ _ h => h) (fun _ h => h.elim) ?aF ?aB ?aS ?aL ?_
                   (case aR => first | (have hq_ := Kd.C_below HR308.out HB.out; rw [show (l0.drop (x5_1 : Int).toNat).length = (l0.length - x5_1.toNat) from List.length_drop] at hq_; repeat (first | exact hq_ | (with_reducible refine Kd.C_alloc ?_ _) | (with_reducible refine Kd.C_drewN ?_ _) | (with_reducible refine Kd.C_drew ?_)); done) | (rw [← show (l0.drop (x5_1 : Int).toNat).length = (l0.length - x5_1.toNat) from List.length_drop]; repeat (first | exact (Kd.C_below HR308.out HB.out) | (with_reducible refine Kd.C_alloc ?_ _) | (with_reducible refine Kd.C_drewN ?_ _) | (with_reducible refine Kd.C_drew ?_))) | (repeat (first | exact (Kd.C_below HR308.out HB.out) | (with_reducible refine Kd.C_alloc ?_ _) | (with_reducible refine Kd.C_drewN ?_ _) | (with_reducible refine Kd.C_drew ?_))))
                   (case aB => exact zB)
                   (case aF => exact (fun k_ hk => Kd.fresh' (Kd.R_lt (zR HO304.out)) k_ hk))
                   (case aO => exact (zR HO307.out))
                   (case aS => exact (below_size zB))
                   (case aL => have := LMc13.out; have hlx_ := (show (l0.drop (x5_1 : Int).toNat).length = (l0.length - x5_1.toNat) from List.length_drop); omega)
                   intro v310 w25 ho hb hg hat
                   rw [← Ny309.out] at ho
                   replace HO304 := zM (Kd.R_after (ok := (fun _ => True)) (zR HO304.out) hg hat)
                   replace HB := zM (hb)
                   have HO311 := zM (ho)
                   clear HO307
                   clear ho hb hg hat
                   refine hK.out _ _ trivial (fun hHeld => ?_)
                   clear hK K
                   refine zn 44 ?_
                   refine zp HT_ 12 4 ?_
                   refine zo HT_ ?_
                   try go_wp2
                   go_ret
                   exact ⟨_, by first | rfl | (simp [errW_none, errW_some] <;> rfl) | (simp [*, errW_none, errW_some] <;> rfl), by (with_reducible repeat (first | apply Kd.R_alloc | apply Kd.R_drewN | apply Kd.R_drew)); exact Kd.R_mono HO311.out (fun _ hk => trivial), zB⟩
                 · rw [if_neg c13] at H
                   exact absurd H (by simp)
               · rw [if_neg c10] at H
                 exact absurd H (by simp)
             · rw [if_neg c9] at H
               exact absurd H (by simp)
           · rw [if_neg c8] at H
             exact absurd H (by simp)
     · rw [if_neg c4] at H
       exact absurd H (by simp)
   · rw [if_neg c3] at H
     have c3b0 : decide (x5_1 < (l0.length : Int)) = false := decide_eq_false c3
     clear c3
     obtain ⟨y312, hy312⟩ : ∃ y_ : List Int, y_ = (([] : List Int)) := ⟨_, rfl⟩
     replace H : (if 0 ≤ x5_1 then (if x5_1 ≤ (l0.length : Int) then (if y312.length + (l0.take (x5_1 : Int).toNat).length < 17592186044416 then ((some (y312 ++ (l0.take (x5_1 : Int).toNat) : List Int)).bind fun y316 => ((some (([a1] : List Int) : List Int)).bind fun y319 => (if y316.length + y319.length < 17592186044416 then ((some (y316 ++ y319 : List Int)).bind fun y322 => (if y322.length + (l0.drop (x5_1 : Int).toNat).length < 17592186044416 then (some (y322 ++ (l0.drop (x5_1 : Int).toNat))) else (none))) else (none)))) else (none)) else (none)) else (none)) = some r := by first | (rw [hy312]; with_reducible exact H) | (have H2_ := (Option.bind_some _ _).symm.trans H; rw [hy312]; with_reducible exact H2_) | (have H2_ := (Option.bind_some _ _).symm.trans H; with_reducible exact H2_) | with_reducible exact H | (rw [hy312]; exact H) | exact H
     have Ny312 := Aside0.mk hy312
     clear hy312
     by_cases c26 : 0 ≤ x5_1
     · rw [if_pos c26] at H
       have c26b0 := eq_true c26
       have c26b1 : decide (0 ≤ x5_1) = true := decide_eq_true c26
       clear c26
       by_cases c27 : x5_1 ≤ (l0.length : Int)
       · rw [if_pos c27] at H
         have c27b0 := eq_true c27
         have c27b1 : decide (x5_1 ≤ (l0.length : Int)) = true := decide_eq_true c27
         clear c27
         by_cases c28 : y312.length + (l0.take (x5_1 : Int).toNat).length < 17592186044416
         · rw [if_pos c28] at H
           have LMc28 := Aside0.mk c28
           clear c28
           obtain ⟨y316, hy316⟩ : ∃ y_ : List Int, y_ = (y312 ++ (l0.take (x5_1 : Int).toNat)) := ⟨_, rfl⟩
           replace H : ((some (([a1] : List Int) : List Int)).bind fun y319 => (if y316.length + y319.length < 17592186044416 then ((some (y316 ++ y319 : List Int)).bind fun y322 => (if y322.length + (l0.drop (x5_1 : Int).toNat).length < 17592186044416 then (some (y322 ++ (l0.drop (x5_1 : Int).toNat))) else (none))) else (none))) = some r := by first | (rw [hy316]; with_reducible exact H) | (have H2_ := (Option.bind_some _ _).symm.trans H; rw [hy316]; with_reducible exact H2_) | (have H2_ := (Option.bind_some _ _).symm.trans H; with_reducible exact H2_) | with_reducible exact H | (rw [hy316]; exact H) | exact H
           have Ny316 := Aside0.mk hy316
           clear hy316
           obtain ⟨y319, hy319⟩ : ∃ y_ : List Int, y_ = (([a1] : List Int)) := ⟨_, rfl⟩
           replace H : (if y316.length + y319.length < 17592186044416 then ((some (y316 ++ y319 : List Int)).bind fun y322 => (if y322.length + (l0.drop (x5_1 : Int).toNat).length < 17592186044416 then (some (y322 ++ (l0.drop (x5_1 : Int).toNat))) else (none))) else (none)) = some r := by first | (rw [hy319]; with_reducible exact H) | (have H2_ := (Option.bind_some _ _).symm.trans H; rw [hy319]; with_reducible exact H2_) | (have H2_ := (Option.bind_some _ _).symm.trans H; with_reducible exact H2_) | with_reducible exact H | (rw [hy319]; exact H) | exact H
           have Ny319 := Aside0.mk hy319
           clear hy319
           by_cases c29 : y316.length + y319.length < 17592186044416
           · rw [if_pos c29] at H
             have LMc29 := Aside0.mk c29
             clear c29
             obtain ⟨y322, hy322⟩ : ∃ y_ : List Int, y_ = (y316 ++ y319) := ⟨_, rfl⟩
             replace H : (if y322.length + (l0.drop (x5_1 : Int).toNat).length < 17592186044416 then (some (y322 ++ (l0.drop (x5_1 : Int).toNat))) else (none)) = some r := by first | (rw [hy322]; with_reducible exact H) | (have H2_ := (Option.bind_some _ _).symm.trans H; rw [hy322]; with_reducible exact H2_) | (have H2_ := (Option.bind_some _ _).symm.trans H; with_reducible exact H2_) | with_reducible exact H | (rw [hy322]; exact H) | exact H
             have Ny322 := Aside0.mk hy322
             clear hy322
             have c30b0 := eq_true (of_decide_eq_true zA : 0 ≤ x5_1)
             have c31b0 := eq_true (of_decide_eq_true zA : x5_1 ≤ (l0.length : Int))
             by_cases c32 : y322.length + (l0.drop (x5_1 : Int).toNat).length < 17592186044416
             · rw [if_pos c32] at H
               have LMc32 := Aside0.mk c32
               clear c32
               obtain ⟨y326, hy326⟩ : ∃ y_ : List Int, y_ = (y322 ++ (l0.drop (x5_1 : Int).toNat)) := ⟨_, rfl⟩
               replace H : (some y326) = some r := by first | (rw [hy326]; with_reducible exact H) | (have H2_ := (Option.bind_some _ _).symm.trans H; rw [hy326]; with_reducible exact H2_) | (have H2_ := (Option.bind_some _ _).symm.trans H; with_reducible exact H2_) | with_reducible exact H | (rw [hy326]; exact H) | exact H
               have Ny326 := Aside0.mk hy326
               clear hy326
               obtain rfl := Option.some.inj H
               try go_wp2
               replace HB := zM (below_drew1 HB.out)
               obtain ⟨i034, hi034, _, hsz34, _⟩ := info_parts info3
               obtain ⟨hcut34, hA34, hC34⟩ := print_take_of (P := Try.prog) (Value.int .i64) 0 27 3 .i64 Try.underlying27 hi034 hsz34 A0 c0 l0 x5_1 (of_decide_eq_true zA) (of_decide_eq_true zA) HC0.out
               have HR315 := zM (Kd.C_of_reads (h1 := fun _ => rfl) (hA34 _ (Kd.reads_of_C HR0.out)))
               have HC315 := Aside0.mk hC34
               clear hA34 hC34 hi034 hsz34
               obtain ⟨i035, hi035, _, hsz35, _⟩ := info_parts info3
               obtain ⟨A35, hcut35, hA35, hC35⟩ := print_drop_of (P := Try.prog) (Value.int .i64) 0 27 3 .i64 Try.underlying27 hi035 hsz35 A0 c0 l0 x5_1 (of_decide_eq_true zA) (of_decide_eq_true zA) HC0.out
               have HR325 := zM (Kd.C_of_reads (h1 := fun _ => rfl) (hA35 _ (Kd.reads_of_C HR0.out)))
               have HC325 := Aside0.mk hC35
               clear hA35 hC35 hi035 hsz35
               refine zs (n := 13) (fun w' => True) trivial (fun hHeld => ?_); refine with_tabW spec_l1Put.tab6 spec_l1Put.bits6 (fun HT_ HW_ => ?_)
               generalize wr.drew = w33 at HB HR315 HR325 hHeld ⊢
               refine zp HT_ 1 34 ?_
               refine zp HT_ 2 35 ?_
               refine zp HT_ 3 36 ?_
               refine zp HT_ 5 38 ?_
               refine zp HT_ 8 41 ?_
               refine zp HT_ 9 42 ?_
               refine zp HT_ 10 43 ?_
               refine join_ (σ := Value × Value × Value) 3 #[true, true, true, true, true, true, true, false, true, true, true, false, false] (fun s_ => [(33, s_.1), (37, s_.2.1), (39, s_.2.2)]) (fun s_ w' => (Kd.R (Kd.int .i64) 3 w' w.heap.size (fun k_ => some k_ ≠ (s_.2.2 : Value).ownBlock) s_.2.1 y316) ∧ (Kd.R (Kd.int .i64) 3 w' w.heap.size (fun k_ => some k_ ≠ (s_.2.1 : Value).ownBlock) s_.2.2 y319) ∧ (Below w.heap.size w w')) ?_ ?_
               rotate_left
               · intro hCont
                 refine two_ (i := 0) (j := 6) (Ni := some 33) (Nj := some 39) #[true, true, true, true, false, true, false, false, true, true, true, false, false] #[false, true, true, true, false, true, true, false, true, true, true, false, false] rfl rfl rfl rfl (two_of HT_.out (by kernel_rfl)) (by decide) (by decide) (fun K hK => ?_) (fun K hK => ?_)
                 · skip
                   refine Kd.R_lit_step (Kd.int .i64) _ 3 ?hg (N := 33) ?hd (xs := ([] : List Int)) (inner := []) (ok := fun _ => True) (okp := fun _ => True) ?hr ?hp (fun _ hk => hk) trivial (Below.refl _ _) (Nat.le_refl _) (by simp) ?_; (case hd => rfl); (case hg => rfl); (case hr => first | (go_simp; done) | (go_simp; rfl)); (case hp => exact (Reps.none _ _))
                   intro v313 w36 ho37 hb hg_ hnew_
                   clear hg_ hnew_
                   (first | rw [← Ny312.out] at ho37 | (simp only [Int.reduceToNat] at ho37; rw [← Ny312.out] at ho37))
                   have HO314 := zM (Kd.R_lower ho37 (below_size zB))
                   replace HB := zM (below_step zB hb)
                   clear hb ho37
                   refine hK.out _ _ trivial (fun hHeld => ?_)
                   clear hK K
                   refine zn 33 ?_
                   refine two_ (i := 4) (j := 6) (Ni := some 37) (Nj := some 39) #[true, true, true, true, true, true, false, false, true, true, true, false, false] #[true, true, true, true, false, true, true, false, true, true, true, false, false] rfl rfl rfl rfl (two_of HT_.out (by kernel_rfl)) (by decide) (by decide) (fun K hK => ?_) (fun K hK => ?_)
                   · skip
                     refine Kd.R_append_rows_step (Kd.int .i64) (w0 := w) w.heap.size (by rfl) (.tmp 33) (.tmp 36) 27 3 (.int .i64 0) 8 rfl Try.underlying27 info3 rfl (by decide) (by omega) v313 y312 (l0.take (x5_1 : Int).toNat) _ _ _ (fun _ => True) (fun _ => False) rfl rfl ?aO ?aR (fun _ _ h => h) (fun _ h => h.elim) ?aF ?aB ?aS ?aL ?_
                     (case aR => first | (have hq_ := Kd.C_below HR315.out HB.out; rw [show (l0.take (x5_1 : Int).toNat).length = x5_1.toNat from (by rw [List.length_take]; have h_ : (x5_1 : Int) ≤ (l0.length : Int) := of_decide_eq_true zA; omega)] at hq_; repeat (first | exact hq_ | (with_reducible refine Kd.C_alloc ?_ _) | (with_reducible refine Kd.C_drewN ?_ _) | (with_reducible refine Kd.C_drew ?_)); done) | (rw [← show (l0.take (x5_1 : Int).toNat).length = x5_1.toNat from (by rw [List.length_take]; have h_ : (x5_1 : Int) ≤ (l0.length : Int) := of_decide_eq_true zA; omega)]; repeat (first | exact (Kd.C_below HR315.out HB.out) | (with_reducible refine Kd.C_alloc ?_ _) | (with_reducible refine Kd.C_drewN ?_ _) | (with_reducible refine Kd.C_drew ?_))) | (repeat (first | exact (Kd.C_below HR315.out HB.out) | (with_reducible refine Kd.C_alloc ?_ _) | (with_reducible refine Kd.C_drewN ?_ _) | (with_reducible refine Kd.C_drew ?_))))
                     (case aB => exact zB)
                     (case aF => exact (fun _ _ => trivial))
                     (case aO => exact (zR HO314.out))
                     (case aS => exact (below_size zB))
                     (case aL => have := LMc28.out; have hlx_ := (show (l0.take (x5_1 : Int).toNat).length = x5_1.toNat from (by rw [List.length_take]; have h_ : (x5_1 : Int) ≤ (l0.length : Int) := of_decide_eq_true zA; omega)); omega)
                     intro v317 w38 ho hb hg hat
                     rw [← Ny316.out] at ho
                     replace HB := zM (hb)
                     have HO318 := zM (ho)
                     clear HO314
                     clear ho hb hg hat
                     refine hK.out _ _ trivial (fun hHeld => ?_)
                     clear hK K
                     refine zn 37 ?_
                     refine one_ (i := 6) (N := some 39) #[true, true, true, true, true, true, true, false, true, true, true, false, false] rfl rfl (one_of HT_.out (by kernel_rfl)) (by decide) (fun K hK => ?_)
                     refine Kd.R_lit_step (Kd.int .i64) _ 3 ?hg (N := 39) ?hd (xs := ([a1] : List Int)) (inner := [.int .i64 a1]) (ok := fun _ => True) (okp := fun _ => True) ?hr ?hp (fun _ hk => hk) trivial (Below.refl _ _) (Nat.le_refl _) (by simp) ?_; (case hd => rfl); (case hg => rfl); (case hr => first | (go_simp; done) | (go_simp; rfl)); (case hp => exact (Reps.one (show Kd.M (Kd.int .i64) _ _ _ a1 [.int .i64 a1] from rfl) (Reps.none _ _)))
                     intro v320 w39 ho40 hb hg_ hnew_
                     clear hg_ hnew_
                     (first | rw [← Ny319.out] at ho40 | (simp only [Int.reduceToNat] at ho40; rw [← Ny319.out] at ho40))
                     have HO321 := zM (Kd.R_lower (Kd.R_new' ho40 (Kd.R_lt (zR HO318.out))) (below_size zB))
                     replace HO318 := zM (Kd.R_elder' (zR HO318.out) (Kd.R_base ho40) hb)
                     replace HB := zM (below_step zB hb)
                     clear hb ho40
                     refine hK.out _ _ trivial (fun hHeld => ?_)
                     clear hK K
                     refine zn 39 ?_
                     exact norm_ (by simp only [putAll, Act.put, List.setIfInBounds_toArray, List.set_cons_zero, List.set_cons_succ]) (hCont (v313, v317, v320) _ ⟨(by (with_reducible repeat (first | apply Kd.R_alloc | apply Kd.R_drewN | apply Kd.R_drew)); exact Kd.R_mono HO318.out (fun _ hk => hk.2)), (by (with_reducible repeat (first | apply Kd.R_alloc | apply Kd.R_drewN | apply Kd.R_drew)); exact Kd.R_mono HO321.out (fun _ hk => hk.2)), zB⟩)
                   · skip
                     refine Kd.R_lit_step (Kd.int .i64) _ 3 ?hg (N := 39) ?hd (xs := ([a1] : List Int)) (inner := [.int .i64 a1]) (ok := fun _ => True) (okp := fun _ => True) ?hr ?hp (fun _ hk => hk) trivial (Below.refl _ _) (Nat.le_refl _) (by simp) ?_; (case hd => rfl); (case hg => rfl); (case hr => first | (go_simp; done) | (go_simp; rfl)); (case hp => exact (Reps.one (show Kd.M (Kd.int .i64) _ _ _ a1 [.int .i64 a1] from rfl) (Reps.none _ _)))
                     intro v320 w38 ho39 hb hg_ hnew_
                     clear hg_ hnew_
                     (first | rw [← Ny319.out] at ho39 | (simp only [Int.reduceToNat] at ho39; rw [← Ny319.out] at ho39))
                     have HO321 := zM (Kd.R_lower (Kd.R_new' ho39 (Kd.R_lt (zR HO314.out))) (below_size zB))
                     replace HO314 := zM (Kd.R_elder' (zR HO314.out) (Kd.R_base ho39) hb)
                     replace HB := zM (below_step zB hb)
                     clear hb ho39
                     refine hK.out _ _ trivial (fun hHeld => ?_)
                     clear hK K
                     refine zn 39 ?_
                     refine one_ (i := 4) (N := some 37) #[true, true, true, true, true, true, true, false, true, true, true, false, false] rfl rfl (one_of HT_.out (by kernel_rfl)) (by decide) (fun K hK => ?_)
                     refine Kd.R_append_rows_step (Kd.int .i64) (w0 := w) w.heap.size (by rfl) (.tmp 33) (.tmp 36) 27 3 (.int .i64 0) 8 rfl Try.underlying27 info3 rfl (by decide) (by omega) v313 y312 (l0.take (x5_1 : Int).toNat) _ _ _ (fun k_ => some k_ ≠ (v320 : Value).ownBlock) (fun _ => False) rfl rfl ?aO ?aR (fun _ _ h => h) (fun _ h => h.elim) ?aF ?aB ?aS ?aL ?_
                     (case aR => first | (have hq_ := Kd.C_below HR315.out HB.out; rw [show (l0.take (x5_1 : Int).toNat).length = x5_1.toNat from (by rw [List.length_take]; have h_ : (x5_1 : Int) ≤ (l0.length : Int) := of_decide_eq_true zA; omega)] at hq_; repeat (first | exact hq_ | (with_reducible refine Kd.C_alloc ?_ _) | (with_reducible refine Kd.C_drewN ?_ _) | (with_reducible refine Kd.C_drew ?_)); done) | (rw [← show (l0.take (x5_1 : Int).toNat).length = x5_1.toNat from (by rw [List.length_take]; have h_ : (x5_1 : Int) ≤ (l0.length : Int) := of_decide_eq_true zA; omega)]; repeat (first | exact (Kd.C_below HR315.out HB.out) | (with_reducible refine Kd.C_alloc ?_ _) | (with_reducible refine Kd.C_drewN ?_ _) | (with_reducible refine Kd.C_drew ?_))) | (repeat (first | exact (Kd.C_below HR315.out HB.out) | (with_reducible refine Kd.C_alloc ?_ _) | (with_reducible refine Kd.C_drewN ?_ _) | (with_reducible refine Kd.C_drew ?_))))
                     (case aB => exact zB)
                     (case aF => exact (fun k_ hk => Kd.fresh' (Kd.R_lt (zR HO321.out)) k_ hk))
                     (case aO => exact (by (with_reducible repeat (first | apply Kd.R_alloc | apply Kd.R_drewN | apply Kd.R_drew)); exact Kd.R_mono HO314.out (fun _ hk => hk.2)))
                     (case aS => exact (below_size zB))
                     (case aL => have := LMc28.out; have hlx_ := (show (l0.take (x5_1 : Int).toNat).length = x5_1.toNat from (by rw [List.length_take]; have h_ : (x5_1 : Int) ≤ (l0.length : Int) := of_decide_eq_true zA; omega)); omega)
                     intro v317 w40 ho hb hg hat
                     rw [← Ny316.out] at ho
                     replace HO321 := zM (Kd.R_after (ok := (fun _ => True)) (zR HO321.out) hg hat)
                     replace HB := zM (hb)
                     have HO318 := zM (ho)
                     clear HO314
                     clear ho hb hg hat
                     refine hK.out _ _ trivial (fun hHeld => ?_)
                     clear hK K
                     refine zn 37 ?_
                     exact norm_ (by simp only [putAll, Act.put, List.setIfInBounds_toArray, List.set_cons_zero, List.set_cons_succ]) (hCont (v313, v317, v320) _ ⟨(zR HO318.out), (by (with_reducible repeat (first | apply Kd.R_alloc | apply Kd.R_drewN | apply Kd.R_drew)); exact Kd.R_mono HO321.out (fun _ hk => hk.2)), zB⟩)
                 · skip
                   refine Kd.R_lit_step (Kd.int .i64) _ 3 ?hg (N := 39) ?hd (xs := ([a1] : List Int)) (inner := [.int .i64 a1]) (ok := fun _ => True) (okp := fun _ => True) ?hr ?hp (fun _ hk => hk) trivial (Below.refl _ _) (Nat.le_refl _) (by simp) ?_; (case hd => rfl); (case hg => rfl); (case hr => first | (go_simp; done) | (go_simp; rfl)); (case hp => exact (Reps.one (show Kd.M (Kd.int .i64) _ _ _ a1 [.int .i64 a1] from rfl) (Reps.none _ _)))
                   intro v320 w36 ho37 hb hg_ hnew_
                   clear hg_ hnew_
                   (first | rw [← Ny319.out] at ho37 | (simp only [Int.reduceToNat] at ho37; rw [← Ny319.out] at ho37))
                   have HO321 := zM (Kd.R_lower ho37 (below_size zB))
                   replace HB := zM (below_step zB hb)
                   clear hb ho37
                   refine hK.out _ _ trivial (fun hHeld => ?_)
                   clear hK K
                   refine zn 39 ?_
                   refine one_ (i := 0) (N := some 33) #[true, true, true, true, false, true, true, false, true, true, true, false, false] rfl rfl (one_of HT_.out (by kernel_rfl)) (by decide) (fun K hK => ?_)
                   refine Kd.R_lit_step (Kd.int .i64) _ 3 ?hg (N := 33) ?hd (xs := ([] : List Int)) (inner := []) (ok := fun _ => True) (okp := fun _ => True) ?hr ?hp (fun _ hk => hk) trivial (Below.refl _ _) (Nat.le_refl _) (by simp) ?_; (case hd => rfl); (case hg => rfl); (case hr => first | (go_simp; done) | (go_simp; rfl)); (case hp => exact (Reps.none _ _))
                   intro v313 w38 ho39 hb hg_ hnew_
                   clear hg_ hnew_
                   (first | rw [← Ny312.out] at ho39 | (simp only [Int.reduceToNat] at ho39; rw [← Ny312.out] at ho39))
                   have HO314 := zM (Kd.R_lower (Kd.R_new' ho39 (Kd.R_lt (zR HO321.out))) (below_size zB))
                   replace HO321 := zM (Kd.R_elder' (zR HO321.out) (Kd.R_base ho39) hb)
                   replace HB := zM (below_step zB hb)
                   clear hb ho39
                   refine hK.out _ _ trivial (fun hHeld => ?_)
                   clear hK K
                   refine zn 33 ?_
                   refine one_ (i := 4) (N := some 37) #[true, true, true, true, true, true, true, false, true, true, true, false, false] rfl rfl (one_of HT_.out (by kernel_rfl)) (by decide) (fun K hK => ?_)
                   refine Kd.R_append_rows_step (Kd.int .i64) (w0 := w) w.heap.size (by rfl) (.tmp 33) (.tmp 36) 27 3 (.int .i64 0) 8 rfl Try.underlying27 info3 rfl (by decide) (by omega) v313 y312 (l0.take (x5_1 : Int).toNat) _ _ _ (fun k_ => some k_ ≠ (v320 : Value).ownBlock) (fun _ => False) rfl rfl ?aO ?aR (fun _ _ h => h) (fun _ h => h.elim) ?aF ?aB ?aS ?aL ?_
                   (case aR => first | (have hq_ := Kd.C_below HR315.out HB.out; rw [show (l0.take (x5_1 : Int).toNat).length = x5_1.toNat from (by rw [List.length_take]; have h_ : (x5_1 : Int) ≤ (l0.length : Int) := of_decide_eq_true zA; omega)] at hq_; repeat (first | exact hq_ | (with_reducible refine Kd.C_alloc ?_ _) | (with_reducible refine Kd.C_drewN ?_ _) | (with_reducible refine Kd.C_drew ?_)); done) | (rw [← show (l0.take (x5_1 : Int).toNat).length = x5_1.toNat from (by rw [List.length_take]; have h_ : (x5_1 : Int) ≤ (l0.length : Int) := of_decide_eq_true zA; omega)]; repeat (first | exact (Kd.C_below HR315.out HB.out) | (with_reducible refine Kd.C_alloc ?_ _) | (with_reducible refine Kd.C_drewN ?_ _) | (with_reducible refine Kd.C_drew ?_))) | (repeat (first | exact (Kd.C_below HR315.out HB.out) | (with_reducible refine Kd.C_alloc ?_ _) | (with_reducible refine Kd.C_drewN ?_ _) | (with_reducible refine Kd.C_drew ?_))))
                   (case aB => exact zB)
                   (case aF => exact (fun k_ hk => Kd.fresh' (Kd.R_lt (zR HO321.out)) k_ hk))
                   (case aO => exact (by (with_reducible repeat (first | apply Kd.R_alloc | apply Kd.R_drewN | apply Kd.R_drew)); exact Kd.R_mono HO314.out (fun _ hk => hk.2)))
                   (case aS => exact (below_size zB))
                   (case aL => have := LMc28.out; have hlx_ := (show (l0.take (x5_1 : Int).toNat).length = x5_1.toNat from (by rw [List.length_take]; have h_ : (x5_1 : Int) ≤ (l0.length : Int) := of_decide_eq_true zA; omega)); omega)
                   intro v317 w40 ho hb hg hat
                   rw [← Ny316.out] at ho
                   replace HO321 := zM (Kd.R_after (ok := (fun _ => True)) (zR HO321.out) hg hat)
                   replace HB := zM (hb)
                   have HO318 := zM (ho)
                   clear HO314
                   clear ho hb hg hat
                   refine hK.out _ _ trivial (fun hHeld => ?_)
                   clear hK K
                   refine zn 37 ?_
                   exact norm_ (by simp only [putAll, Act.put, List.setIfInBounds_toArray, List.set_cons_zero, List.set_cons_succ]) (hCont (v313, v317, v320) _ ⟨(zR HO318.out), (by (with_reducible repeat (first | apply Kd.R_alloc | apply Kd.R_drewN | apply Kd.R_drew)); exact Kd.R_mono HO321.out (fun _ hk => hk.2)), zB⟩)
               rintro ⟨v313, v317, v320⟩ w41 ⟨h0_, h1_, h2_⟩
               have n0_ : Aside0 (Kd.R (Kd.int .i64) 3 w41 w.heap.size (fun k_ => some k_ ≠ (v320 : Value).ownBlock) v317 y316) := ⟨h0_⟩
               have n1_ : Aside0 (Kd.R (Kd.int .i64) 3 w41 w.heap.size (fun k_ => some k_ ≠ (v317 : Value).ownBlock) v320 y319) := ⟨h1_⟩
               have n2_ : Aside0 (Below w.heap.size w w41) := ⟨h2_⟩
               clear HB
               clear h0_ h1_ h2_
               have HO318 := n0_
               have HO321 := n1_
               have HB := n2_
               clear n0_ n1_ n2_
               have hHeld := trivial
               obtain ⟨Ao43, co43, eo43⟩ := Kd.R_slice HO321.out
               (first | subst eo43 | (injection eo43 with f1_ f2_ f3_; have f4_ := f1_.symm; have f5_ := f3_.symm; clear f1_ f2_ f3_; subst f4_; subst f5_))
               refine norm_ (a' := ?_) ?_ ?_
               rotate_left
               · simp only [putAll, Act.put, List.setIfInBounds_toArray, List.set_cons_zero, List.set_cons_succ]
                 rfl
               refine one_ (i := 7) (N := some 40) #[true, true, true, true, true, true, true, true, true, true, true, false, false] rfl rfl (one_of HT_.out (by kernel_rfl)) (by decide) (fun K hK => ?_)
               refine Kd.R_append_rows_step (Kd.int .i64) (w0 := w) w.heap.size (by rfl) (.tmp 37) (.tmp 39) 27 3 (.int .i64 0) 8 rfl Try.underlying27 info3 rfl (by decide) (by omega) v317 y316 y319 _ _ _ (fun k_ => some k_ ≠ (.slice Ao43 y319.length co43 : Value).ownBlock) (fun _ => False) rfl rfl ?aO ?aR (fun _ _ h => h) (fun _ h => h.elim) ?aF ?aB ?aS ?aL ?_
               (case aR => exact zC (Kd.R_reads' HO321.out).2.2)
               (case aB => exact zB)
               (case aF => exact (fun k_ hk => Kd.fresh' (Kd.R_lt (zR HO321.out)) k_ hk))
               (case aO => exact (zR HO318.out))
               (case aS => exact (below_size zB))
               (case aL => have := LMc29.out; omega)
               intro v323 w42 ho hb hg hat
               rw [← Ny322.out] at ho
               replace HO321 := zM (Kd.R_after (ok := (fun _ => True)) (by (with_reducible repeat (first | apply Kd.R_alloc | apply Kd.R_drewN | apply Kd.R_drew)); exact Kd.R_mono HO321.out (fun _ hk => ⟨trivial, hk⟩)) hg hat)
               replace HB := zM (hb)
               have HO324 := zM (ho)
               clear HO318
               clear ho hb hg hat
               refine hK.out _ _ trivial (fun hHeld => ?_)
               clear hK K
               refine zn 40 ?_
               refine one_ (i := 11) (N := some 44) #[true, true, true, true, true, true, true, true, true, true, true, true, false] rfl rfl (one_of HT_.out (by kernel_rfl)) (by decide) (fun K hK => ?_)
               refine Kd.R_append_rows_step (Kd.int .i64) (w0 := w) w.heap.size (by rfl) (.tmp 40) (.tmp 43) 27 3 (.int .i64 0) 8 rfl Try.underlying27 info3 rfl (by decide) (by omega) v323 y322 (l0.drop (x5_1 : Int).toNat) _ _ _ (fun k_ => some k_ ≠ (.slice Ao43 y319.length co43 : Value).ownBlock) (fun _ => False) rfl rfl ?aO ?aR (fun _ _ h => h) (fun _ h => h.elim) ?aF ?aB ?aS ?aL ?_
               (case aR => first | (have hq_ := Kd.C_below HR325.out HB.out; rw [show (l0.drop (x5_1 : Int).toNat).length = (l0.length - x5_1.toNat) from List.length_drop] at hq_; repeat (first | exact hq_ | (with_reducible refine Kd.C_alloc ?_ _) | (with_reducible refine Kd.C_drewN ?_ _) | (with_reducible refine Kd.C_drew ?_)); done) | (rw [← show (l0.drop (x5_1 : Int).toNat).length = (l0.length - x5_1.toNat) from List.length_drop]; repeat (first | exact (Kd.C_below HR325.out HB.out) | (with_reducible refine Kd.C_alloc ?_ _) | (with_reducible refine Kd.C_drewN ?_ _) | (with_reducible refine Kd.C_drew ?_))) | (repeat (first | exact (Kd.C_below HR325.out HB.out) | (with_reducible refine Kd.C_alloc ?_ _) | (with_reducible refine Kd.C_drewN ?_ _) | (with_reducible refine Kd.C_drew ?_))))
               (case aB => exact zB)
               (case aF => exact (fun k_ hk => Kd.fresh' (Kd.R_lt (zR HO321.out)) k_ hk))
               (case aO => exact (zR HO324.out))
               (case aS => exact (below_size zB))
               (case aL => have := LMc32.out; have hlx_ := (show (l0.drop (x5_1 : Int).toNat).length = (l0.length - x5_1.toNat) from List.length_drop); omega)
               intro v327 w44 ho hb hg hat
               rw [← Ny326.out] at ho
               replace HO321 := zM (Kd.R_after (ok := (fun _ => True)) (zR HO321.out) hg hat)
               replace HB := zM (hb)
               have HO328 := zM (ho)
               clear HO324
               clear ho hb hg hat
               refine hK.out _ _ trivial (fun hHeld => ?_)
               clear hK K
               refine zn 44 ?_
               refine zp HT_ 12 4 ?_
               refine zo HT_ ?_
               try go_wp2
               go_ret
               exact ⟨_, by first | rfl | (simp [errW_none, errW_some] <;> rfl) | (simp [*, errW_none, errW_some] <;> rfl), by (with_reducible repeat (first | apply Kd.R_alloc | apply Kd.R_drewN | apply Kd.R_drew)); exact Kd.R_mono HO328.out (fun _ hk => trivial), zB⟩
             · rw [if_neg c32] at H
               exact absurd H (by simp)
           · rw [if_neg c29] at H
             exact absurd H (by simp)
         · rw [if_neg c28] at H
           exact absurd H (by simp)
       · rw [if_neg c27] at H
         exact absurd H (by simp)
     · rw [if_neg c26] at H
       exact absurd H (by simp)

end Go.Proofs.Ytaemfocjokkopaa.P
