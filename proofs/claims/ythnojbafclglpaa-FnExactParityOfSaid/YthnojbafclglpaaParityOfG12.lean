-- Written by a program of this session (the kit's print, turned: wip/print/patch.py) out of the translation. Not trusted: Lean checks it.
import Derived.Test.YthnojbafclglpaaParityOfG5
import Derived.Test.YthnojbafclglpaaParityOfG8
import Derived.Test.YthnojbafclglpaaParityOfG9
import Derived.Test.YthnojbafclglpaaParityOfG10
import Derived.Test.YthnojbafclglpaaParityOfG11
namespace Go.Proofs.Ythnojbafclglpaa.P
open Go.RowKit Go.Proofs.YthnojbafclglpaaW.PrintWords Go.Proofs.YthnojbafclglpaaW.PrintLast Go.Proofs.YthnojbafclglpaaW.PrintMore
attribute [local go_sem] max2_int min2_int max_two min_two max_three min_three max_four min_four   -- for this text's walks alone
set_option linter.unusedVariables false
set_option linter.unusedSimpArgs false

/-! ### spec_ParityOf: function 33 -/
mutual
def spec_ParityOf.l0 : Nat → List Int → List (List Int) → List (List Int) → Int → List (List Int) → List (S64) → Option (List Int × Bool)
 | 0, _, _, _, _, _, _ => none
 | k + 1, x4, x5, x6, x7, x839000, x839001 => if x7 < (x6.length : Int) then (if 0 ≤ x7 then (if 0 < ((rd_L4 x6 x7).length : Int) then ((spec_l2Spread.f k x5 (rd (rd_L4 x6 x7) 0)).bind fun t854 => (spec_ParityOf.l1 k x4 x5 x6 x7 t854 0 x839000 x839001)) else (none)) else (none)) else (spec_ParityOf.l2 k x4 0 x839000 x839001)
def spec_ParityOf.l1 : Nat → List Int → List (List Int) → List (List Int) → Int → List Int → Int → List (List Int) → List (S64) → Option (List Int × Bool)
 | 0, _, _, _, _, _, _, _, _ => none
 | k + 1, x4, x5, x6, x7, x8, x9, x839000, x839001 => if 0 ≤ x7 then (if x7 < (x6.length : Int) then (if x9 < ((rd_L4 x6 x7).length : Int) then (if 0 ≤ x9 then (if 0 ≤ (rd (rd_L4 x6 x7) x9) then (if (rd (rd_L4 x6 x7) x9) < (x8.length : Int) then (if (rd (rd_L4 x6 x7) x9) < (x4.length : Int) then (spec_ParityOf.l1 k (x4.set ((rd (rd_L4 x6 x7) x9) : Int).toNat (Int.tmod (rd x8 (rd (rd_L4 x6 x7) x9)) 2)) x5 x6 x7 x8 (wrap64 (x9 + 1)) x839000 x839001) else (none)) else (none)) else (none)) else (none)) else (spec_ParityOf.l0 k x4 x5 x6 (wrap64 (x7 + 1)) x839000 x839001)) else (none)) else (none)
def spec_ParityOf.l2 : Nat → List Int → Int → List (List Int) → List (S64) → Option (List Int × Bool)
 | 0, _, _, _, _ => none
 | k + 1, x4, x10, x839000, x839001 => if x10 < (x839001.length : Int) then (if 0 ≤ x10 then (if 0 ≤ ((rd_T64 x839001 x10).f0) then (if ((rd_T64 x839001 x10).f0) < (x4.length : Int) then (if 0 ≤ ((rd_T64 x839001 x10).f1) then (if ((rd_T64 x839001 x10).f1) < (x4.length : Int) then (if (rd x4 ((rd_T64 x839001 x10).f0)) = (rd x4 ((rd_T64 x839001 x10).f1)) then (some ((([] : List Int)), false)) else (spec_ParityOf.l2 k x4 (wrap64 (x10 + 1)) x839000 x839001)) else (none)) else (none)) else (none)) else (none)) else (none)) else (some (x4, true))
end
def spec_ParityOf.f (k : Nat) (l0_0 : List (List Int)) (l0_1 : List (S64)) : Option (List Int × Bool) := (spec_l2Space.f k l0_0 l0_1).bind fun t839 => (if t839 = true then (if 0 ≤ (l0_0.length : Int) then (if ((l0_0.length : Int) : Int).toNat ≤ 35184372088832 then ((spec_l2Lists.f k l0_0 l0_1).bind fun t846 => ((spec_l2Parts.f k l0_0 l0_1).bind fun t849 => (spec_ParityOf.l0 k (List.replicate ((l0_0.length : Int) : Int).toNat 0) t846 t849 0 l0_0 l0_1))) else (none)) else (none)) else (some ((([] : List Int)), false)))
def spec_ParityOf.T3 : Bool × List (List Nat × List Nat) := (true, [([], []), ([0], [0]), ([1], [1]), ([2, 2], [2]), ([], []), ([4], [4]), ([], []), ([6, 5], [6]), ([3, 7, 0, 1, 2, 3], [3]), ([5, 8, 0, 1, 2, 3, 4, 5, 8], [5]), ([7, 9, 0, 1, 2, 3, 4, 5, 6, 7, 8, 9], [7])])
def spec_ParityOf.B3 : List Nat := [0, 1, 3, 7, 0, 16, 0, 112, 255, 511, 1023]
theorem spec_ParityOf.tab3 : rtab .any (opsOf Try.f33 3) = spec_ParityOf.T3 := by kernel_rfl
theorem spec_ParityOf.bits3 : waitsOk spec_ParityOf.T3.2 spec_ParityOf.B3 = true := by kernel_rfl
def spec_ParityOf.T11 : Bool × List (List Nat × List Nat) := (true, [([], []), ([], []), ([], []), ([1, 2], [1, 2]), ([3], [3]), ([], []), ([4, 5], [4, 5]), ([6], [6]), ([], []), ([], []), ([], []), ([9, 10], [9, 10]), ([11], [11]), ([], []), ([12, 13], [12, 13]), ([14], [14]), ([8, 15], [8, 15]), ([16], [16]), ([17], [17]), ([0, 7, 0, 1, 2, 3, 4, 5, 6, 7, 8, 9, 10, 11, 12, 13, 14, 15, 16, 17, 18], [0, 7]), ([19, 18, 0, 1, 2, 3, 4, 5, 6, 7, 8, 9, 10, 11, 12, 13, 14, 15, 16, 17, 18], [18, 19])])
def spec_ParityOf.B11 : List Nat := [0, 0, 0, 6, 14, 0, 62, 126, 0, 0, 0, 1536, 3584, 0, 15872, 32256, 65280, 130816, 261888, 524287, 1048575]
theorem spec_ParityOf.tab11 : rtab .any (opsOf Try.f33 11) = spec_ParityOf.T11 := by kernel_rfl
theorem spec_ParityOf.bits11 : waitsOk spec_ParityOf.T11.2 spec_ParityOf.B11 = true := by kernel_rfl
def spec_ParityOf.T15 : Bool × List (List Nat × List Nat) := (true, [([], []), ([], []), ([1], [1]), ([], []), ([2, 3], [2, 3]), ([4], [4]), ([5], [5]), ([0, 6], [0, 6]), ([7], [7]), ([], []), ([], []), ([10], [10]), ([], []), ([11, 12], [11, 12]), ([13], [13]), ([14], [14]), ([9, 15], [9, 15]), ([16], [16]), ([8, 17], [8, 17])])
def spec_ParityOf.B15 : List Nat := [0, 0, 2, 0, 14, 30, 62, 127, 255, 0, 0, 1024, 0, 7168, 15360, 31744, 65024, 130560, 262143]
theorem spec_ParityOf.tab15 : rtab .any (opsOf Try.f33 15) = spec_ParityOf.T15 := by kernel_rfl
theorem spec_ParityOf.bits15 : waitsOk spec_ParityOf.T15.2 spec_ParityOf.B15 = true := by kernel_rfl
set_option maxHeartbeats 8000000 in
set_option maxRecDepth 100000 in
theorem spec_ParityOf.calls (k : Nat) (A0_0 : Option Addr) (c0_0 : Nat) (l0_0 : List (List Int)) (A0_1 : Option Addr) (c0_1 : Nat) (l0_1 : List (S64)) (r1 : List Int) (r2 : Bool) (w : World) (hr0_0 : Kd.C (Kd.slice 3 (Kd.int .i64)) w A0_0 l0_0.length l0_0) (hc0_0 : l0_0.length ≤ c0_0) (hr0_1 : Kd.C k64 w A0_1 l0_1.length l0_1) (hc0_1 : l0_1.length ≤ c0_1) (h : spec_ParityOf.f k l0_0 l0_1 = some (r1, r2)) :
 Calls Try.prog 33 #[.agg #[.slice A0_0 l0_0.length c0_0, .slice A0_1 l0_1.length c0_1]] w fun e w' => ∃ v0_ : Value, e = .returned (.tuple #[v0_, .bool r2]) ∧ Kd.R (Kd.int .i64) 3 w' w.heap.size (fun _ => True) v0_ r1 ∧ Below w.heap.size w w' := by
 have hu28 := Try.underlying28
 have HR0_0 := Aside0.mk hr0_0
 have HC0_0 := Aside0.mk hc0_0
 clear hr0_0 hc0_0
 have HR0_1 := Aside0.mk hr0_1
 have HC0_1 := Aside0.mk hc0_1
 clear hr0_1 hc0_1
 have HB := zM (Below.refl w.heap.size w)
 have H : ((spec_l2Space.f k l0_0 l0_1).bind fun t839 => (if t839 = true then (if 0 ≤ (l0_0.length : Int) then (if ((l0_0.length : Int) : Int).toNat ≤ 35184372088832 then ((spec_l2Lists.f k l0_0 l0_1).bind fun t846 => ((spec_l2Parts.f k l0_0 l0_1).bind fun t849 => (spec_ParityOf.l0 k (List.replicate ((l0_0.length : Int) : Int).toNat 0) t846 t849 0 l0_0 l0_1))) else (none)) else (none)) else (some ((([] : List Int)), false)))) = some (r1, r2) := h
 clear h
 replace H := Option.bind_eq_some_iff.mp H
 obtain ⟨t839, A20, H⟩ := H
 replace H : (if t839 = true then (if 0 ≤ (l0_0.length : Int) then (if ((l0_0.length : Int) : Int).toNat ≤ 35184372088832 then ((spec_l2Lists.f k l0_0 l0_1).bind fun t846 => ((spec_l2Parts.f k l0_0 l0_1).bind fun t849 => (spec_ParityOf.l0 k (List.replicate ((l0_0.length : Int) : Int).toNat 0) t846 t849 0 l0_0 l0_1))) else (none)) else (none)) else (some ((([] : List Int)), false))) = some (r1, r2) := H
 have A2 := Aside0.mk A20
 clear A20
 by_cases c3 : t839 = true
 · subst c3
   have H1 : (if 0 ≤ (l0_0.length : Int) then (if ((l0_0.length : Int) : Int).toNat ≤ 35184372088832 then ((spec_l2Lists.f k l0_0 l0_1).bind fun t846 => ((spec_l2Parts.f k l0_0 l0_1).bind fun t849 => (spec_ParityOf.l0 k (List.replicate ((l0_0.length : Int) : Int).toNat 0) t846 t849 0 l0_0 l0_1))) else (none)) else (none)) = some (r1, r2) := by rw [if_pos rfl] at H; exact H
   clear H
   have H := H1
   clear H1
   by_cases c4 : 0 ≤ (l0_0.length : Int)
   · rw [if_pos c4] at H
     have c4b0 := eq_true c4
     have c4b1 : decide (0 ≤ (l0_0.length : Int)) = true := decide_eq_true c4
     clear c4
     by_cases c5 : ((l0_0.length : Int) : Int).toNat ≤ 35184372088832
     · rw [if_pos c5] at H
       have c5b0 := eq_true c5
       have c5b1 : decide (((l0_0.length : Int) : Int).toNat ≤ 35184372088832) = true := decide_eq_true c5
       clear c5
       obtain ⟨y843, hy843⟩ : ∃ y_ : List Int, y_ = (List.replicate ((l0_0.length : Int) : Int).toNat 0) := ⟨_, rfl⟩
       replace H : ((spec_l2Lists.f k l0_0 l0_1).bind fun t846 => ((spec_l2Parts.f k l0_0 l0_1).bind fun t849 => (spec_ParityOf.l0 k y843 t846 t849 0 l0_0 l0_1))) = some (r1, r2) := by first | (rw [hy843]; with_reducible exact H) | (have H2_ := (Option.bind_some _ _).symm.trans H; rw [hy843]; with_reducible exact H2_) | (have H2_ := (Option.bind_some _ _).symm.trans H; with_reducible exact H2_) | with_reducible exact H | (rw [hy843]; exact H) | exact H
       have Ny843 := Aside0.mk hy843
       clear hy843
       replace H := Option.bind_eq_some_iff.mp H
       obtain ⟨t846, A60, H⟩ := H
       replace H : ((spec_l2Parts.f k l0_0 l0_1).bind fun t849 => (spec_ParityOf.l0 k y843 t846 t849 0 l0_0 l0_1)) = some (r1, r2) := H
       have A6 := Aside0.mk A60
       clear A60
       replace H := Option.bind_eq_some_iff.mp H
       obtain ⟨t849, A70, H⟩ := H
       replace H : (spec_ParityOf.l0 k y843 t846 t849 0 l0_0 l0_1) = some (r1, r2) := H
       have A7 := Aside0.mk A70
       clear A70
       have H' := Aside0.mk H
       clear H
       go_enter Try.func33, Try.ntmps33
       try go_wp2_with (first | ((with_reducible refine gate_dst (N := 1) rfl ?_); refine zb (w := w) 1 #[.slice A0_0 l0_0.length c0_0, .slice A0_1 l0_1.length c0_1] 28 zB ?_; clear HB; intro gb838 w8 HB BK838 GW838; have GE838 := GW838; have hcz9_0 := zy BK838 0; have hcz9_1 := zy BK838 1; have hfz9_0 := blk_frozen BK838.out 0; have hfz9_1 := blk_frozen BK838.out 1) | ((with_reducible refine gate_callee (f := 66) rfl ?_); refine zc 12 Try.func66 #[.agg #[.slice A0_0 l0_0.length c0_0, .slice A0_1 l0_1.length c0_1]] ?_; (with_reducible refine (spec_l2Space.calls k _ _ l0_0 _ _ l0_1 true _ ?side1 ?side2 ?side3 ?side4 A2.out).mono ?_); (case side1 => exact zC (Kd.C_below HR0_0.out HB.out)); (case side2 => exact HC0_0.out); (case side3 => exact zC (Kd.C_below HR0_1.out HB.out)); (case side4 => exact HC0_1.out); rintro e w10 ⟨rfl, hb⟩; refine ⟨_, rfl, ?_⟩; replace BK838 := zM (blk_below (g := gb838) (o := .cells #[.slice A0_0 l0_0.length c0_0, .slice A0_1 l0_1.length c0_1] 28 (0, 0)) (zK BK838.out) hb); replace HB := zM (below_step zB hb); (try clear hb); (try clear hb2); (try clear hk); (try clear hi)))
       replace BK838 := zM (blk_drew BK838.out)
       replace HB := zM (below_drew1 HB.out)
       refine zs (n := 11) (fun w' => w'.cell? ⟨gb838, 0, none⟩ = some (.slice A0_0 l0_0.length c0_0) ∧ w'.cell? ⟨gb838, 1, none⟩ = some (.slice A0_1 l0_1.length c0_1)) ⟨(blk_cell BK838.out 0).trans rfl, (blk_cell BK838.out 1).trans rfl⟩ (fun hHeld => ?_); refine with_tabW spec_ParityOf.tab3 spec_ParityOf.bits3 (fun HT_ HW_ => ?_)
       generalize w10.drew = w11 at BK838 HB hHeld ⊢
       refine zp HT_ 0 15 ?_
       refine zt HT_ HW_ 1 16 hHeld ?_ (hy := by rintro w' ⟨s0, s1⟩; go_simp; with_reducible rfl)
       refine zp HT_ 2 17 ?_
       refine zt HT_ HW_ 4 19 hHeld ?_ (hy := by rintro w' ⟨s0, s1⟩; go_simp; with_reducible rfl)
       refine zt HT_ HW_ 6 21 hHeld ?_ (hy := by rintro w' ⟨s0, s1⟩; go_simp; with_reducible rfl)
       refine join_ (σ := Value × Value × Value) 3 #[true, true, true, true, true, true, true, true, false, false, false] (fun s_ => [(18, s_.1), (20, s_.2.1), (22, s_.2.2)]) (fun s_ w' => (w'.cell? ⟨gb838, 0, none⟩ = some (.slice A0_0 l0_0.length c0_0) ∧ w'.cell? ⟨gb838, 1, none⟩ = some (.slice A0_1 l0_1.length c0_1)) ∧ (Kd.R (Kd.int .i64) 3 w' w.heap.size (fun _ => True) s_.1 y843) ∧ (Kd.S (Kd.slice 3 (Kd.int .i64)) 26 w' w.heap.size (fun k_ => some k_ ≠ (s_.1 : Value).ownBlock ∧ some k_ ≠ (s_.2.2 : Value).ownBlock) s_.2.1 t846) ∧ (Kd.S (Kd.slice 3 (Kd.int .i64)) 26 w' w.heap.size (fun k_ => some k_ ≠ (s_.1 : Value).ownBlock ∧ some k_ ≠ (s_.2.1 : Value).ownBlock) s_.2.2 t849) ∧ (w'.heap[gb838]? = some (.cells #[.slice A0_0 l0_0.length c0_0, .slice A0_1 l0_1.length c0_1] 28 (0, 0))) ∧ (Below w.heap.size w w')) ?_ ?_
       rotate_left
       · intro hCont
         refine two_ (i := 3) (j := 5) (Ni := some 18) (Nj := some 20) #[true, true, true, true, true, false, true, false, false, false, false] #[true, true, true, false, true, true, true, false, false, false, false] rfl rfl rfl rfl (two_of HT_.out (by kernel_rfl)) (by decide) (by decide) (fun K hK => ?_) (fun K hK => ?_)
         · skip
           refine Kd.R_make_step (Kd.int .i64) _ 3 (by rfl) (N := 18) rfl 26 _ _ rfl (l0_0.length : Int) rfl rfl Try.underlying26 (.int .i64 0) 8 info3 rfl (by decide) (by omega) 0 (ok := fun _ => True) (okp := fun _ => True) rfl (fun _ hk => hk) trivial (of_decide_eq_true zA) (Nat.le_trans (Nat.mul_le_mul_right _ (of_decide_eq_true zA : (l0_0.length : Int).toNat ≤ 35184372088832)) (by omega)) (Below.refl _ _) (Nat.le_refl _) ?_
           intro v844 w12 ho13 hb hg_ hnew_
           clear hg_ hnew_
           (first | rw [← Ny843.out] at ho13 | (simp only [Int.reduceToNat] at ho13; rw [← Ny843.out] at ho13))
           have HO845 := zM (Kd.R_lower ho13 (below_size zB))
           replace BK838 := zM (blk_below (g := gb838) (o := .cells #[.slice A0_0 l0_0.length c0_0, .slice A0_1 l0_1.length c0_1] 28 (0, 0)) (zK BK838.out) hb)
           replace HB := zM (below_step zB hb)
           clear hb ho13
           refine hK.out _ _ ⟨(blk_cell BK838.out 0).trans rfl, (blk_cell BK838.out 1).trans rfl⟩ (fun hHeld => ?_)
           clear hK K
           refine zn 18 ?_
           refine zg HT_ 5 20 Try.func92 #[.agg #[.slice A0_0 l0_0.length c0_0, .slice A0_1 l0_1.length c0_1]] (fun K hK => ?_)
           with_reducible refine (spec_l2Lists.calls k _ _ l0_0 _ _ l0_1 t846 _ ?side1 ?side2 ?side3 ?side4 A6.out).mono ?_
           (case side1 => exact zC (Kd.C_below HR0_0.out HB.out))
           (case side2 => exact HC0_0.out)
           (case side3 => exact zC (Kd.C_below HR0_1.out HB.out))
           (case side4 => exact HC0_1.out)
           rintro e w14 ⟨v847, rfl, ho0, hb⟩
           refine ⟨_, rfl, ?_⟩
           have HO848 := zM (Kd.S_lower (Kd.S_new' ho0 (Kd.R_lt (zR HO845.out))) (below_size zB))
           replace HO845 := zM (Kd.R_below (zR HO845.out) hb)
           replace BK838 := zM (blk_below (g := gb838) (o := .cells #[.slice A0_0 l0_0.length c0_0, .slice A0_1 l0_1.length c0_1] 28 (0, 0)) (zK BK838.out) hb)
           replace HB := zM (below_step zB hb)
           (try clear hb)
           (try clear hb2)
           (try clear hk)
           (try clear hi)
           (try clear ho0)
           refine hK.out _ _ ⟨(blk_cell BK838.out 0).trans rfl, (blk_cell BK838.out 1).trans rfl⟩ (fun hHeld => ?_)
           clear hK K
           refine zn 20 ?_
           refine zg HT_ 7 22 Try.func85 #[.agg #[.slice A0_0 l0_0.length c0_0, .slice A0_1 l0_1.length c0_1]] (fun K hK => ?_)
           with_reducible refine (spec_l2Parts.calls k _ _ l0_0 _ _ l0_1 t849 _ ?side1 ?side2 ?side3 ?side4 A7.out).mono ?_
           (case side1 => exact zC (Kd.C_below HR0_0.out HB.out))
           (case side2 => exact HC0_0.out)
           (case side3 => exact zC (Kd.C_below HR0_1.out HB.out))
           (case side4 => exact HC0_1.out)
           rintro e w15 ⟨v850, rfl, ho0, hb⟩
           refine ⟨_, rfl, ?_⟩
           have HO851 := zM (Kd.S_lower (Kd.S_new' (Kd.S_new' ho0 (Kd.R_lt (zR HO845.out))) (Kd.S_lt (by (with_reducible repeat (first | apply Kd.S_alloc | apply Kd.S_drewN | apply Kd.S_drew)); exact HO848.out))) (below_size zB))
           replace HO845 := zM (Kd.R_below (zR HO845.out) hb)
           replace HO848 := zM (Kd.S_elder' (by (with_reducible repeat (first | apply Kd.S_alloc | apply Kd.S_drewN | apply Kd.S_drew)); exact HO848.out) (Kd.S_base ho0) hb)
           replace BK838 := zM (blk_below (g := gb838) (o := .cells #[.slice A0_0 l0_0.length c0_0, .slice A0_1 l0_1.length c0_1] 28 (0, 0)) (zK BK838.out) hb)
           replace HB := zM (below_step zB hb)
           (try clear hb)
           (try clear hb2)
           (try clear hk)
           (try clear hi)
           (try clear ho0)
           refine hK.out _ _ ⟨(blk_cell BK838.out 0).trans rfl, (blk_cell BK838.out 1).trans rfl⟩ (fun hHeld => ?_)
           clear hK K
           refine zn 22 ?_
           exact norm_ (by simp only [putAll, Act.put, List.setIfInBounds_toArray, List.set_cons_zero, List.set_cons_succ]) (hCont (v844, v847, v850) _ ⟨hHeld, (zR HO845.out), (by (with_reducible repeat (first | apply Kd.S_alloc | apply Kd.S_drewN | apply Kd.S_drew)); exact Kd.S_mono HO848.out (fun _ hk => ⟨hk.1.2, hk.2⟩)), (by (with_reducible repeat (first | apply Kd.S_alloc | apply Kd.S_drewN | apply Kd.S_drew)); exact Kd.S_mono HO851.out (fun _ hk => ⟨hk.1.2, hk.2⟩)), (zK BK838.out), zB⟩)
         · skip
           refine goes_ Try.func92 (by kernel_rfl) rfl #[.agg #[.slice A0_0 l0_0.length c0_0, .slice A0_1 l0_1.length c0_1]] (by rfl) rfl rfl (by (try simp only [List.map_toArray, List.map_cons, List.map_nil]); first | done | rfl | (simp only [List.length_drop, List.length_take]; rfl)) ?_
           with_reducible refine (spec_l2Lists.calls k _ _ l0_0 _ _ l0_1 t846 _ ?side1 ?side2 ?side3 ?side4 A6.out).mono ?_
           (case side1 => exact zC (Kd.C_below HR0_0.out HB.out))
           (case side2 => exact HC0_0.out)
           (case side3 => exact zC (Kd.C_below HR0_1.out HB.out))
           (case side4 => exact HC0_1.out)
           rintro e w12 ⟨v847, rfl, ho0, hb⟩
           refine ⟨_, rfl, ?_⟩
           have HO848 := zM (Kd.S_lower ho0 (below_size zB))
           replace BK838 := zM (blk_below (g := gb838) (o := .cells #[.slice A0_0 l0_0.length c0_0, .slice A0_1 l0_1.length c0_1] 28 (0, 0)) (zK BK838.out) hb)
           replace HB := zM (below_step zB hb)
           (try clear hb)
           (try clear hb2)
           (try clear hk)
           (try clear hi)
           (try clear ho0)
           refine hK.out _ _ ⟨(blk_cell BK838.out 0).trans rfl, (blk_cell BK838.out 1).trans rfl⟩ (fun hHeld => ?_)
           clear hK K
           refine zn 20 ?_
           refine two_ (i := 3) (j := 7) (Ni := some 18) (Nj := some 22) #[true, true, true, true, true, true, true, false, false, false, false] #[true, true, true, false, true, true, true, true, false, false, false] rfl rfl rfl rfl (two_of HT_.out (by kernel_rfl)) (by decide) (by decide) (fun K hK => ?_) (fun K hK => ?_)
           · skip
             refine Kd.R_make_step (Kd.int .i64) _ 3 (by rfl) (N := 18) rfl 26 _ _ rfl (l0_0.length : Int) rfl rfl Try.underlying26 (.int .i64 0) 8 info3 rfl (by decide) (by omega) 0 (ok := fun _ => True) (okp := fun _ => True) rfl (fun _ hk => hk) trivial (of_decide_eq_true zA) (Nat.le_trans (Nat.mul_le_mul_right _ (of_decide_eq_true zA : (l0_0.length : Int).toNat ≤ 35184372088832)) (by omega)) (Below.refl _ _) (Nat.le_refl _) ?_
             intro v844 w13 ho14 hb hg_ hnew_
             clear hg_ hnew_
             (first | rw [← Ny843.out] at ho14 | (simp only [Int.reduceToNat] at ho14; rw [← Ny843.out] at ho14))
             replace HO848 := zM (Kd.S_elder' (by (with_reducible repeat (first | apply Kd.S_alloc | apply Kd.S_drewN | apply Kd.S_drew)); exact HO848.out) (Kd.R_base ho14) hb)
             have HO845 := zM (Kd.R_lower ho14 (below_size zB))
             replace BK838 := zM (blk_below (g := gb838) (o := .cells #[.slice A0_0 l0_0.length c0_0, .slice A0_1 l0_1.length c0_1] 28 (0, 0)) (zK BK838.out) hb)
             replace HB := zM (below_step zB hb)
             clear hb ho14
             refine hK.out _ _ ⟨(blk_cell BK838.out 0).trans rfl, (blk_cell BK838.out 1).trans rfl⟩ (fun hHeld => ?_)
             clear hK K
             refine zn 18 ?_
             refine zg HT_ 7 22 Try.func85 #[.agg #[.slice A0_0 l0_0.length c0_0, .slice A0_1 l0_1.length c0_1]] (fun K hK => ?_)
             with_reducible refine (spec_l2Parts.calls k _ _ l0_0 _ _ l0_1 t849 _ ?side1 ?side2 ?side3 ?side4 A7.out).mono ?_
             (case side1 => exact zC (Kd.C_below HR0_0.out HB.out))
             (case side2 => exact HC0_0.out)
             (case side3 => exact zC (Kd.C_below HR0_1.out HB.out))
             (case side4 => exact HC0_1.out)
             rintro e w15 ⟨v850, rfl, ho0, hb⟩
             refine ⟨_, rfl, ?_⟩
             have HO851 := zM (Kd.S_lower (Kd.S_new' (Kd.S_new' ho0 (Kd.S_lt (by (with_reducible repeat (first | apply Kd.S_alloc | apply Kd.S_drewN | apply Kd.S_drew)); exact HO848.out))) (Kd.R_lt (zR HO845.out))) (below_size zB))
             replace HO848 := zM (Kd.S_elder' (by (with_reducible repeat (first | apply Kd.S_alloc | apply Kd.S_drewN | apply Kd.S_drew)); exact HO848.out) (Kd.S_base ho0) hb)
             replace HO845 := zM (Kd.R_below (zR HO845.out) hb)
             replace BK838 := zM (blk_below (g := gb838) (o := .cells #[.slice A0_0 l0_0.length c0_0, .slice A0_1 l0_1.length c0_1] 28 (0, 0)) (zK BK838.out) hb)
             replace HB := zM (below_step zB hb)
             (try clear hb)
             (try clear hb2)
             (try clear hk)
             (try clear hi)
             (try clear ho0)
             refine hK.out _ _ ⟨(blk_cell BK838.out 0).trans rfl, (blk_cell BK838.out 1).trans rfl⟩ (fun hHeld => ?_)
             clear hK K
             refine zn 22 ?_
             exact norm_ (by simp only [putAll, Act.put, List.setIfInBounds_toArray, List.set_cons_zero, List.set_cons_succ]) (hCont (v844, v847, v850) _ ⟨hHeld, (zR HO845.out), (by (with_reducible repeat (first | apply Kd.S_alloc | apply Kd.S_drewN | apply Kd.S_drew)); exact Kd.S_mono HO848.out (fun _ hk => ⟨hk.1.2, hk.2⟩)), (by (with_reducible repeat (first | apply Kd.S_alloc | apply Kd.S_drewN | apply Kd.S_drew)); exact Kd.S_mono HO851.out (fun _ hk => ⟨hk.2, hk.1.2⟩)), (zK BK838.out), zB⟩)
           · skip
             refine goes_ Try.func85 (by kernel_rfl) rfl #[.agg #[.slice A0_0 l0_0.length c0_0, .slice A0_1 l0_1.length c0_1]] (by rfl) rfl rfl (by (try simp only [List.map_toArray, List.map_cons, List.map_nil]); first | done | rfl | (simp only [List.length_drop, List.length_take]; rfl)) ?_
             with_reducible refine (spec_l2Parts.calls k _ _ l0_0 _ _ l0_1 t849 _ ?side1 ?side2 ?side3 ?side4 A7.out).mono ?_
             (case side1 => exact zC (Kd.C_below HR0_0.out HB.out))
             (case side2 => exact HC0_0.out)
             (case side3 => exact zC (Kd.C_below HR0_1.out HB.out))
             (case side4 => exact HC0_1.out)
             rintro e w13 ⟨v850, rfl, ho0, hb⟩
             refine ⟨_, rfl, ?_⟩
             have HO851 := zM (Kd.S_lower (Kd.S_new' ho0 (Kd.S_lt (by (with_reducible repeat (first | apply Kd.S_alloc | apply Kd.S_drewN | apply Kd.S_drew)); exact HO848.out))) (below_size zB))
             replace HO848 := zM (Kd.S_elder' (by (with_reducible repeat (first | apply Kd.S_alloc | apply Kd.S_drewN | apply Kd.S_drew)); exact HO848.out) (Kd.S_base ho0) hb)
             replace BK838 := zM (blk_below (g := gb838) (o := .cells #[.slice A0_0 l0_0.length c0_0, .slice A0_1 l0_1.length c0_1] 28 (0, 0)) (zK BK838.out) hb)
             replace HB := zM (below_step zB hb)
             (try clear hb)
             (try clear hb2)
             (try clear hk)
             (try clear hi)
             (try clear ho0)
             refine hK.out _ _ ⟨(blk_cell BK838.out 0).trans rfl, (blk_cell BK838.out 1).trans rfl⟩ (fun hHeld => ?_)
             clear hK K
             refine zn 22 ?_
             refine one_ (i := 3) (N := some 18) #[true, true, true, true, true, true, true, true, false, false, false] rfl rfl (one_of HT_.out (by kernel_rfl)) (by decide) (fun K hK => ?_)
             refine Kd.R_make_step (Kd.int .i64) _ 3 (by rfl) (N := 18) rfl 26 _ _ rfl (l0_0.length : Int) rfl rfl Try.underlying26 (.int .i64 0) 8 info3 rfl (by decide) (by omega) 0 (ok := fun _ => True) (okp := fun _ => True) rfl (fun _ hk => hk) trivial (of_decide_eq_true zA) (Nat.le_trans (Nat.mul_le_mul_right _ (of_decide_eq_true zA : (l0_0.length : Int).toNat ≤ 35184372088832)) (by omega)) (Below.refl _ _) (Nat.le_refl _) ?_
             intro v844 w14 ho15 hb hg_ hnew_
             clear hg_ hnew_
             (first | rw [← Ny843.out] at ho15 | (simp only [Int.reduceToNat] at ho15; rw [← Ny843.out] at ho15))
             replace HO848 := zM (Kd.S_elder' (by (with_reducible repeat (first | apply Kd.S_alloc | apply Kd.S_drewN | apply Kd.S_drew)); exact HO848.out) (Kd.R_base ho15) hb)
             replace HO851 := zM (Kd.S_elder' (by (with_reducible repeat (first | apply Kd.S_alloc | apply Kd.S_drewN | apply Kd.S_drew)); exact HO851.out) (Kd.R_base ho15) hb)
             have HO845 := zM (Kd.R_lower ho15 (below_size zB))
             replace BK838 := zM (blk_below (g := gb838) (o := .cells #[.slice A0_0 l0_0.length c0_0, .slice A0_1 l0_1.length c0_1] 28 (0, 0)) (zK BK838.out) hb)
             replace HB := zM (below_step zB hb)
             clear hb ho15
             refine hK.out _ _ ⟨(blk_cell BK838.out 0).trans rfl, (blk_cell BK838.out 1).trans rfl⟩ (fun hHeld => ?_)
             clear hK K
             refine zn 18 ?_
             exact norm_ (by simp only [putAll, Act.put, List.setIfInBounds_toArray, List.set_cons_zero, List.set_cons_succ]) (hCont (v844, v847, v850) _ ⟨hHeld, (zR HO845.out), (by (with_reducible repeat (first | apply Kd.S_alloc | apply Kd.S_drewN | apply Kd.S_drew)); exact Kd.S_mono HO848.out (fun _ hk => ⟨hk.2, hk.1.2⟩)), (by (with_reducible repeat (first | apply Kd.S_alloc | apply Kd.S_drewN | apply Kd.S_drew)); exact Kd.S_mono HO851.out (fun _ hk => ⟨hk.2, hk.1.2⟩)), (zK BK838.out), zB⟩)
       rintro ⟨v844, v847, v850⟩ w16 ⟨hS_, h0_, h1_, h2_, h3_, h4_⟩
       have n0_ : Aside0 (Kd.R (Kd.int .i64) 3 w16 w.heap.size (fun _ => True) v844 y843) := ⟨h0_⟩
       have n1_ : Aside0 (Kd.S (Kd.slice 3 (Kd.int .i64)) 26 w16 w.heap.size (fun k_ => some k_ ≠ (v844 : Value).ownBlock ∧ some k_ ≠ (v850 : Value).ownBlock) v847 t846) := ⟨h1_⟩
       have n2_ : Aside0 (Kd.S (Kd.slice 3 (Kd.int .i64)) 26 w16 w.heap.size (fun k_ => some k_ ≠ (v844 : Value).ownBlock ∧ some k_ ≠ (v847 : Value).ownBlock) v850 t849) := ⟨h2_⟩
       have n3_ : Aside0 (w16.heap[gb838]? = some (.cells #[.slice A0_0 l0_0.length c0_0, .slice A0_1 l0_1.length c0_1] 28 (0, 0))) := ⟨h3_⟩
       have n4_ : Aside0 (Below w.heap.size w w16) := ⟨h4_⟩
       clear BK838
       clear HB
       clear h0_ h1_ h2_ h3_ h4_
       have HO845 := n0_
       have HO848 := n1_
       have HO851 := n2_
       have BK838 := n3_
       have HB := n4_
       clear n0_ n1_ n2_ n3_ n4_
       have hHeld : w16.cell? ⟨gb838, 0, none⟩ = some (.slice A0_0 l0_0.length c0_0) ∧ w16.cell? ⟨gb838, 1, none⟩ = some (.slice A0_1 l0_1.length c0_1) := hS_
       refine norm_ (a' := ?_) ?_ ?_
       rotate_left
       · simp only [putAll, Act.put, List.setIfInBounds_toArray, List.set_cons_zero, List.set_cons_succ]
         rfl
       refine zp HT_ 8 4 ?_
       refine zp HT_ 9 5 ?_
       refine zp HT_ 10 6 ?_
       refine zo HT_ ?_
       try go_wp2
       go_loopg [7] k (fun kq v7 w' => ∃ (x4_1 : List Int) (x7_1 : Int), v7 = .int .i64 x7_1 ∧ Aside0 (spec_ParityOf.l0 kq x4_1 t846 t849 x7_1 l0_0 l0_1 = some (r1, r2)) ∧ Aside0 (kq ≤ k) ∧ Aside0 (Kd.R (Kd.int .i64) 3 w' w.heap.size (fun _ => True) v844 x4_1) ∧ Aside0 (Kd.S (Kd.slice 3 (Kd.int .i64)) 26 w' w.heap.size (fun k_ => some k_ ≠ (v844 : Value).ownBlock ∧ some k_ ≠ (v850 : Value).ownBlock) v847 t846) ∧ Aside0 (Kd.S (Kd.slice 3 (Kd.int .i64)) 26 w' w.heap.size (fun k_ => some k_ ≠ (v844 : Value).ownBlock ∧ some k_ ≠ (v847 : Value).ownBlock) v850 t849) ∧ Aside0 (w'.heap[gb838]? = some (.cells #[(.slice A0_0 l0_0.length c0_0), (.slice A0_1 l0_1.length c0_1)] 28 (0, 0))) ∧ Aside0 (Below w.heap.size w w'))
       case atStart => exact ⟨(y843), (0), (by first | rfl | (simp; done) | (simp [*]; done)), H', ⟨Nat.le_refl _⟩, ⟨zR HO845.out⟩, ⟨by (with_reducible repeat (first | apply Kd.S_alloc | apply Kd.S_drewN | apply Kd.S_drew)); exact HO848.out⟩, ⟨by (with_reducible repeat (first | apply Kd.S_alloc | apply Kd.S_drewN | apply Kd.S_drew)); exact HO851.out⟩, ⟨zK BK838.out⟩, ⟨zB⟩⟩
       case round =>
        clear H'
        try clear p2
        try clear c3
        try clear c4
        try clear c4b0
        try clear c4b1
        try clear c5
        try clear c5b0
        try clear c5b1
        try clear c6
        try clear c8
        try clear c9
        try clear hcz9_0
        try clear hcz9_1
        try clear hfz9_0
        try clear hfz9_1
        obtain ⟨x4_1, x7_1, rfl, HA, HK1, HO_4, HO_5, HO_6, BK838, HB⟩ := hrel
        cases gk with
        | zero => exact absurd HA.out (by simp [spec_ParityOf.l0])
        | succ k1 =>
         have H := HA.out
         clear HA
         simp only [spec_ParityOf.l0] at H
         by_cases c17 : x7_1 < (t849.length : Int)
         · rw [if_pos c17] at H
           have c17b0 := decide_eq_true c17
           clear c17
           by_cases c18 : 0 ≤ x7_1
           · rw [if_pos c18] at H
             have c18b0 := decide_eq_true c18
             clear c18
             by_cases c19 : 0 < ((rd_L4 t849 x7_1).length : Int)
             · rw [if_pos c19] at H
               have c19b0 := decide_eq_true c19
               have c19b1 : decide (0 < (rd_L4 t849 x7_1).length) = true := decide_eq_true (by omega)
               clear c19
               replace H := Option.bind_eq_some_iff.mp H
               obtain ⟨t854, A200, H⟩ := H
               replace H : (spec_ParityOf.l1 k1 x4_1 t846 t849 x7_1 t854 0 l0_0 l0_1) = some (r1, r2) := H
               have A20 := Aside0.mk A200
               clear A200
               have H' := Aside0.mk H
               clear H
               obtain ⟨Ao21, co21, eo21⟩ := Kd.S_slice HO_6.out
               subst eo21
               have p852 : 0 ≤ (x7_1 : Int) := of_decide_eq_true zA
               have q852 : x7_1 < (t849.length : Int) := of_decide_eq_true zA
               obtain ⟨ad852, A852_0, c852_0, e852, hx852_0, hl852_0, hi852_0⟩ := at_L4 (Kd.S_reads' HO_6.out).2.2 x7_1 p852 q852
               cases e852
               obtain ⟨ce852, hce852, hMe852, hcc852⟩ := Kd.S_get HO_6.out [] x7_1 p852 (by first | exact q852 | exact of_decide_eq_true zA | (have e_ := (Kd.S_reads' HO_6.out).1; omega))
               obtain ⟨ve852_0, rfl, ge852_0⟩ := hMe852
               have hv852_0 := hcc852 0 _ rfl
               rw [Nat.add_zero, show ((Kd.slice 3 (Kd.int .i64))).sz = 1 from rfl, Nat.mul_one] at hv852_0
               replace hv852_0 := Option.some.inj (hv852_0.symm.trans hx852_0)
               rw [hv852_0] at ge852_0
               have HL852_0 := zM (show Kd.R (Kd.int .i64) 3 _ _ _ _ (rd_L4 t849 x7_1) from ge852_0)
               clear hv852_0 ge852_0
               clear hcc852 hce852
               have HR852_0 := Aside0.mk hi852_0
               have HC852_0 := Aside0.mk hl852_0
               clear hi852_0 hl852_0
               replace p852 := eq_true p852
               replace q852 := eq_true q852
               have p853 : 0 ≤ (0 : Int) := (by omega)
               have q853 : 0 < ((rd_L4 t849 x7_1).length : Int) := of_decide_eq_true zA
               obtain ⟨ad853, e853, hx853_0⟩ := Kd.at_int (by repeat (first | (with_reducible exact HR852_0.out) | (with_reducible refine Kd.C_alloc ?_ _) | (with_reducible refine Kd.C_drewN ?_ _) | (with_reducible refine Kd.C_drew ?_) | exact HR852_0.out)) 0 p853 q853
               cases e853
               have qi853 : (0 < (rd_L4 t849 x7_1).length) = True := eq_true (by omega)
               (try rw [show ((0 : Int)).toNat = 0 from rfl] at hx853_0)
               (try rw [Addr.add_zero'] at hx853_0)
               replace p853 := eq_true p853
               replace q853 := eq_true q853
               obtain ⟨Ao22, co22, eo22⟩ := Kd.S_slice HO_5.out
               subst eo22
               go_wp2_with (first | ((with_reducible refine gate_callee (f := 98) rfl ?_); refine zc 36 Try.func98 #[.slice Ao22 t846.length co22, .int .i64 (rd (rd_L4 t849 x7_1) 0)] ?_; (with_reducible refine (spec_l2Spread.calls k1 _ _ t846 (rd (rd_L4 t849 x7_1) 0) t854 _ ?side1 ?side2 A20.out).mono ?_); (case side1 => exact zC (Kd.S_reads' HO_5.out).2.2); (case side2 => exact (Kd.S_reads' HO_5.out).2.1); rintro e w23 ⟨v855, rfl, ho0, hb⟩; refine ⟨_, rfl, ?_⟩; replace HO_5 := zM (Kd.S_elder' (by (with_reducible repeat (first | apply Kd.S_alloc | apply Kd.S_drewN | apply Kd.S_drew)); exact HO_5.out) (Kd.R_base ho0) hb); replace HO_6 := zM (Kd.S_elder' (by (with_reducible repeat (first | apply Kd.S_alloc | apply Kd.S_drewN | apply Kd.S_drew)); exact HO_6.out) (Kd.R_base ho0) hb); have HO856 := zM (Kd.R_lower (Kd.R_new' (Kd.R_new' ho0 (Kd.R_lt (zR HO_4.out))) (Kd.R_lt (zR HL852_0.out))) (below_size zB)); replace HO_4 := zM (Kd.R_elder' (zR HO_4.out) (Kd.R_base ho0) hb); replace HL852_0 := zM (Kd.R_elder' (zR HL852_0.out) (Kd.R_base ho0) hb); replace BK838 := zM (blk_below (g := gb838) (o := .cells #[.slice A0_0 l0_0.length c0_0, .slice A0_1 l0_1.length c0_1] 28 (0, 0)) (zK BK838.out) hb); replace HR852_0 := zM (Kd.C_below (by repeat (first | (with_reducible exact HR852_0.out) | (with_reducible refine Kd.C_alloc ?_ _) | (with_reducible refine Kd.C_drewN ?_ _) | (with_reducible refine Kd.C_drew ?_) | exact HR852_0.out)) hb); replace HB := zM (below_step zB hb); (try clear hb); (try clear hb2); (try clear hk); (try clear hi); (try clear ho0)))
               go_loopg [9] k1 (fun kq v9 w' => ∃ (x4_2 : List Int) (x9_2 : Int), v9 = .int .i64 x9_2 ∧ Aside0 (spec_ParityOf.l1 kq x4_2 t846 t849 x7_1 t854 x9_2 l0_0 l0_1 = some (r1, r2)) ∧ Aside0 (kq ≤ k1) ∧ Aside0 (Kd.R (Kd.int .i64) 3 w' w.heap.size (fun k_ => some k_ ≠ (v855 : Value).ownBlock) v844 x4_2) ∧ Aside0 (Kd.S (Kd.slice 3 (Kd.int .i64)) 26 w' w.heap.size (fun k_ => some k_ ≠ (v844 : Value).ownBlock ∧ some k_ ≠ ((.slice (some ad852) t849.length co21) : Value).ownBlock ∧ some k_ ≠ (v855 : Value).ownBlock) (.slice Ao22 t846.length co22) t846) ∧ Aside0 (Kd.S (Kd.slice 3 (Kd.int .i64)) 26 w' w.heap.size (fun k_ => some k_ ≠ (v844 : Value).ownBlock ∧ some k_ ≠ ((.slice Ao22 t846.length co22) : Value).ownBlock ∧ some k_ ≠ (v855 : Value).ownBlock) (.slice (some ad852) t849.length co21) t849) ∧ Aside0 (Kd.R (Kd.int .i64) 3 w' w.heap.size (fun k_ => some k_ ≠ (v844 : Value).ownBlock) v855 t854) ∧ Aside0 (w'.heap[gb838]? = some (.cells #[(.slice A0_0 l0_0.length c0_0), (.slice A0_1 l0_1.length c0_1)] 28 (0, 0))) ∧ Aside0 (Below w.heap.size w w'))
               case atStart => exact ⟨(x4_1), (0), (by first | rfl | (simp; done) | (simp [*]; done)), H', ⟨Nat.le_refl _⟩, ⟨by (with_reducible repeat (first | apply Kd.R_alloc | apply Kd.R_drewN | apply Kd.R_drew)); exact Kd.R_mono HO_4.out (fun _ hk => hk.2)⟩, ⟨by (with_reducible repeat (first | apply Kd.S_alloc | apply Kd.S_drewN | apply Kd.S_drew)); exact Kd.S_mono HO_5.out (fun _ hk => ⟨hk.1.1, ⟨hk.1.2, hk.2⟩⟩)⟩, ⟨by (with_reducible repeat (first | apply Kd.S_alloc | apply Kd.S_drewN | apply Kd.S_drew)); exact Kd.S_mono HO_6.out (fun _ hk => ⟨hk.1.1, ⟨hk.1.2, hk.2⟩⟩)⟩, ⟨by (with_reducible repeat (first | apply Kd.R_alloc | apply Kd.R_drewN | apply Kd.R_drew)); exact Kd.R_mono HO856.out (fun _ hk => hk.1.2)⟩, ⟨zK BK838.out⟩, ⟨zB⟩⟩
               case round =>
                clear H'
                try clear c1
                try clear p2
                try clear c3
                try clear c4
                try clear c4b0
                try clear c4b1
                try clear c5
                try clear c5b0
                try clear c5b1
                try clear c6
                try clear c8
                try clear p8
                try clear q8
                try clear hx8
                try clear qi8
                try clear c9
                try clear c17
                try clear c17b0
                try clear c18
                try clear c18b0
                try clear c19
                try clear c19b0
                try clear c19b1
                try clear hcz9_0
                try clear hcz9_1
                try clear hfz9_0
                try clear hfz9_1
                try clear hx852_0
                try clear hx853_0
                try clear p2
                try clear p852
                try clear p853
                try clear q852
                try clear q853
                obtain ⟨x4_2, x9_2, rfl, HA, HK2, HO_4, HO_5, HO_6, HO_8, BK838, HB⟩ := hrel
                cases gk with
                | zero => exact absurd HA.out (by simp [spec_ParityOf.l1])
                | succ k2 =>
                 have H := HA.out
                 clear HA
                 simp only [spec_ParityOf.l1] at H
                 by_cases c24 : 0 ≤ x7_1
                 · rw [if_pos c24] at H
                   have c24b0 := decide_eq_true c24
                   clear c24
                   by_cases c25 : x7_1 < (t849.length : Int)
                   · rw [if_pos c25] at H
                     have c25b0 := decide_eq_true c25
                     clear c25
                     by_cases c26 : x9_2 < ((rd_L4 t849 x7_1).length : Int)
                     · rw [if_pos c26] at H
                       have c26b0 := decide_eq_true c26
                       clear c26
                       by_cases c27 : 0 ≤ x9_2
                       · rw [if_pos c27] at H
                         have c27b0 := decide_eq_true c27
                         clear c27
                         by_cases c28 : 0 ≤ (rd (rd_L4 t849 x7_1) x9_2)
                         · rw [if_pos c28] at H
                           have c28b0 := decide_eq_true c28
                           clear c28
                           by_cases c29 : (rd (rd_L4 t849 x7_1) x9_2) < (t854.length : Int)
                           · rw [if_pos c29] at H
                             have c29b0 := decide_eq_true c29
                             clear c29
                             by_cases c30 : (rd (rd_L4 t849 x7_1) x9_2) < (x4_2.length : Int)
                             · rw [if_pos c30] at H
                               have c30b0 := decide_eq_true c30
                               clear c30
                               obtain ⟨y863, hy863⟩ : ∃ y_ : List Int, y_ = (x4_2.set ((rd (rd_L4 t849 x7_1) x9_2) : Int).toNat (Int.tmod (rd t854 (rd (rd_L4 t849 x7_1) x9_2)) 2)) := ⟨_, rfl⟩
                               replace H : (spec_ParityOf.l1 k2 y863 t846 t849 x7_1 t854 (wrap64 (x9_2 + 1)) l0_0 l0_1) = some (r1, r2) := by first | (rw [hy863]; with_reducible exact H) | (have H2_ := (Option.bind_some _ _).symm.trans H; rw [hy863]; with_reducible exact H2_) | (have H2_ := (Option.bind_some _ _).symm.trans H; with_reducible exact H2_) | with_reducible exact H | (rw [hy863]; exact H) | exact H
                               have Ny863 := Aside0.mk hy863
                               clear hy863
                               have H' := Aside0.mk H
                               clear H
                               have p857 : 0 ≤ (x7_1 : Int) := of_decide_eq_true zA
                               have q857 : x7_1 < (t849.length : Int) := of_decide_eq_true zA
                               obtain ⟨ad857, A857_0, c857_0, e857, hx857_0, hl857_0, hi857_0⟩ := at_L4 (Kd.S_reads' HO_6.out).2.2 x7_1 p857 q857
                               obtain rfl : ad852 = ad857 := (by injection e857)
                               obtain ⟨ce857, hce857, hMe857, hcc857⟩ := Kd.S_get HO_6.out [] x7_1 p857 (by first | exact q857 | exact of_decide_eq_true zA | (have e_ := (Kd.S_reads' HO_6.out).1; omega))
                               obtain ⟨ve857_0, rfl, ge857_0⟩ := hMe857
                               have hv857_0 := hcc857 0 _ rfl
                               rw [Nat.add_zero, show ((Kd.slice 3 (Kd.int .i64))).sz = 1 from rfl, Nat.mul_one] at hv857_0
                               replace hv857_0 := Option.some.inj (hv857_0.symm.trans hx857_0)
                               rw [hv857_0] at ge857_0
                               have HL857_0 := zM (show Kd.R (Kd.int .i64) 3 _ _ _ _ (rd_L4 t849 x7_1) from ge857_0)
                               clear hv857_0 ge857_0
                               clear hcc857 hce857
                               have HR857_0 := Aside0.mk hi857_0
                               have HC857_0 := Aside0.mk hl857_0
                               clear hi857_0 hl857_0
                               replace p857 := eq_true p857
                               replace q857 := eq_true q857
                               try go_wp2
                               replace HO_4 := zM (Kd.R_drew HO_4.out)
                               replace HO_5 := zM (Kd.S_drew HO_5.out)
                               replace HO_6 := zM (Kd.S_drew HO_6.out)
                               replace HO_8 := zM (Kd.R_drew HO_8.out)
                               replace HL857_0 := zM (Kd.R_drew HL857_0.out)
                               replace BK838 := zM (blk_drew BK838.out)
                               replace HR857_0 := zM (Kd.C_drew HR857_0.out)
                               replace HB := zM (below_drew1 HB.out)
                               have p858 : 0 ≤ (x7_1 : Int) := of_decide_eq_true zA
                               have q858 : x7_1 < (t849.length : Int) := of_decide_eq_true zA
                               obtain ⟨ad858, A858_0, c858_0, e858, hx858_0, hl858_0, hi858_0⟩ := at_L4 (Kd.S_reads' HO_6.out).2.2 x7_1 p858 q858
                               obtain rfl : ad852 = ad858 := (by injection e858)
                               obtain ⟨ce858, hce858, hMe858, hcc858⟩ := Kd.S_get HO_6.out [] x7_1 p858 (by first | exact q858 | exact of_decide_eq_true zA | (have e_ := (Kd.S_reads' HO_6.out).1; omega))
                               obtain ⟨ve858_0, rfl, ge858_0⟩ := hMe858
                               have hv858_0 := hcc858 0 _ rfl
                               rw [Nat.add_zero, show ((Kd.slice 3 (Kd.int .i64))).sz = 1 from rfl, Nat.mul_one] at hv858_0
                               replace hv858_0 := Option.some.inj (hv858_0.symm.trans hx858_0)
                               rw [hv858_0] at ge858_0
                               have HL858_0 := zM (show Kd.R (Kd.int .i64) 3 _ _ _ _ (rd_L4 t849 x7_1) from ge858_0)
                               clear hv858_0 ge858_0
                               clear hcc858 hce858
                               have HR858_0 := Aside0.mk hi858_0
                               have HC858_0 := Aside0.mk hl858_0
                               clear hi858_0 hl858_0
                               replace p858 := eq_true p858
                               replace q858 := eq_true q858
                               have p859 : 0 ≤ (x9_2 : Int) := of_decide_eq_true zA
                               have q859 : x9_2 < ((rd_L4 t849 x7_1).length : Int) := of_decide_eq_true zA
                               obtain ⟨ad859, e859, hx859_0⟩ := Kd.at_int (by repeat (first | (with_reducible exact HR858_0.out) | (with_reducible refine Kd.C_alloc ?_ _) | (with_reducible refine Kd.C_drewN ?_ _) | (with_reducible refine Kd.C_drew ?_) | exact HR858_0.out)) x9_2 p859 q859
                               cases e859
                               replace p859 := eq_true p859
                               replace q859 := eq_true q859
                               have p860 : 0 ≤ (x7_1 : Int) := of_decide_eq_true zA
                               have q860 : x7_1 < (t849.length : Int) := of_decide_eq_true zA
                               obtain ⟨ad860, A860_0, c860_0, e860, hx860_0, hl860_0, hi860_0⟩ := at_L4 (Kd.S_reads' HO_6.out).2.2 x7_1 p860 q860
                               obtain rfl : ad852 = ad860 := (by injection e860)
                               obtain ⟨ce860, hce860, hMe860, hcc860⟩ := Kd.S_get HO_6.out [] x7_1 p860 (by first | exact q860 | exact of_decide_eq_true zA | (have e_ := (Kd.S_reads' HO_6.out).1; omega))
                               obtain ⟨ve860_0, rfl, ge860_0⟩ := hMe860
                               have hv860_0 := hcc860 0 _ rfl
                               rw [Nat.add_zero, show ((Kd.slice 3 (Kd.int .i64))).sz = 1 from rfl, Nat.mul_one] at hv860_0
                               replace hv860_0 := Option.some.inj (hv860_0.symm.trans hx860_0)
                               rw [hv860_0] at ge860_0
                               have HL860_0 := zM (show Kd.R (Kd.int .i64) 3 _ _ _ _ (rd_L4 t849 x7_1) from ge860_0)
                               clear hv860_0 ge860_0
                               clear hcc860 hce860
                               have HR860_0 := Aside0.mk hi860_0
                               have HC860_0 := Aside0.mk hl860_0
                               clear hi860_0 hl860_0
                               replace p860 := eq_true p860
                               replace q860 := eq_true q860
                               have ea_ := Option.some.inj (hx858_0.symm.trans hx860_0)
                               injection ea_ with ea_ en_ ec_
                               subst ea_
                               subst ec_
                               clear en_
                               have p861 : 0 ≤ (x9_2 : Int) := of_decide_eq_true zA
                               have q861 : x9_2 < ((rd_L4 t849 x7_1).length : Int) := of_decide_eq_true zA
                               obtain ⟨ad861, e861, hx861_0⟩ := Kd.at_int (by repeat (first | (with_reducible exact HR860_0.out) | (with_reducible refine Kd.C_alloc ?_ _) | (with_reducible refine Kd.C_drewN ?_ _) | (with_reducible refine Kd.C_drew ?_) | exact HR860_0.out)) x9_2 p861 q861
                               cases e861
                               replace p861 := eq_true p861
                               replace q861 := eq_true q861
                               obtain ⟨Ao33, co33, eo33⟩ := Kd.R_slice HO_8.out
                               (first | subst eo33 | (injection eo33 with f1_ f2_ f3_; have f4_ := f1_.symm; have f5_ := f3_.symm; clear f1_ f2_ f3_; subst f4_; subst f5_))
                               have p862 : 0 ≤ ((rd (rd_L4 t849 x7_1) x9_2) : Int) := of_decide_eq_true zA
                               have q862 : (rd (rd_L4 t849 x7_1) x9_2) < (t854.length : Int) := of_decide_eq_true zA
                               obtain ⟨ad862, e862, hx862_0⟩ := Kd.at_int (Kd.R_reads' HO_8.out).2.2 (rd (rd_L4 t849 x7_1) x9_2) p862 q862
                               cases e862
                               replace p862 := eq_true p862
                               replace q862 := eq_true q862
                               have p31 : 0 ≤ ((rd (rd_L4 t849 x7_1) x9_2) : Int) := of_decide_eq_true zA
                               have q31 : ((rd (rd_L4 t849 x7_1) x9_2) : Int) < ((x4_2.length : Int) : Int) := of_decide_eq_true zA
                               obtain ⟨go31, co31, eo31, gb31, gl31, cl31, HG31⟩ := Kd.R_form HO_4.out (by omega)
                               (first | cases eo31 | (injection eo31 with ea_ en_ ec_; (first | subst ea_ | (injection ea_ with ea_; subst ea_)); subst ec_; clear en_))
                               have GB31 := Aside0.mk gb31
                               have GG31 := Aside0.mk HG31
                               clear gb31 gl31 HG31
                               obtain ⟨hx31_0, hf31_0⟩ := Kd.R_celln 0 HO_4.out ((rd (rd_L4 t849 x7_1) x9_2) : Int) p31 q31
                               replace p31 := eq_true p31
                               replace q31 := eq_true q31
                               have HP34 := Kd.R_putn HO_4.out ((rd (rd_L4 t849 x7_1) x9_2) : Int) (Int.tmod (rd t854 (rd (rd_L4 t849 x7_1) x9_2)) 2)
                               rw [← Ny863.out] at HP34
                               have HQ34 := Aside0.mk HP34
                               clear HP34
                               refine start_ (n := 21) (S := fun w' => w'.cell? (ad852.add (x7_1).toNat) = some (.slice (some ad859) (rd_L4 t849 x7_1).length c858_0) ∧ w'.cell? (ad859.add (x9_2).toNat) = some (.int .i64 (rd (rd_L4 t849 x7_1) x9_2)) ∧ w'.cell? (ad852.add (x7_1).toNat) = some (.slice (some ad859) (rd_L4 t849 x7_1).length c858_0) ∧ w'.cell? (ad859.add (x9_2).toNat) = some (.int .i64 (rd (rd_L4 t849 x7_1) x9_2)) ∧ w'.cell? (ad862.add ((rd (rd_L4 t849 x7_1) x9_2)).toNat) = some (.int .i64 (rd t854 (rd (rd_L4 t849 x7_1) x9_2)))) (ds := [20]) #[false, false, false, false, false, false, false, false, false, false, false, false, false, false, false, false, false, false, false, false, false] (by kernel_rfl) rfl rfl ⟨hx858_0, hx859_0, hx860_0, hx861_0, hx862_0⟩ (fun hHeld => ?_); refine with_tabW spec_ParityOf.tab11 spec_ParityOf.bits11 (fun HT_ HW_ => ?_)
                               generalize wr.drew = w32 at HO_4 HO_5 HO_6 HO_8 HL857_0 BK838 HR857_0 HB GG31 HL858_0 HL860_0 HQ34 HR858_0 HR860_0 hf31_0 hx31_0 hx858_0 hx859_0 hx860_0 hx861_0 hx862_0 hHeld ⊢
                               refine zp HT_ 0 46 ?_
                               refine zp HT_ 1 47 ?_
                               refine zp HT_ 2 48 ?_
                               refine zp HT_ 3 49 ?_
                               refine zp HT_ 5 51 ?_
                               refine zp HT_ 8 54 ?_
                               refine zp HT_ 9 55 ?_
                               refine zp HT_ 10 56 ?_
                               refine zp HT_ 11 57 ?_
                               refine zp HT_ 13 59 ?_
                               refine zt HT_ HW_ 4 50 hHeld ?_ (hy := by rintro w' ⟨s0, s1, s2, s3, s4⟩; go_simp; with_reducible rfl)
                               refine zp HT_ 6 52 ?_
                               refine zt HT_ HW_ 7 53 hHeld ?_ (hy := by rintro w' ⟨s0, s1, s2, s3, s4⟩; go_simp; with_reducible rfl)
                               refine zt HT_ HW_ 12 58 hHeld ?_ (hy := by rintro w' ⟨s0, s1, s2, s3, s4⟩; go_simp; with_reducible rfl)
                               refine zp HT_ 14 60 ?_
                               refine zt HT_ HW_ 15 61 hHeld ?_ (hy := by rintro w' ⟨s0, s1, s2, s3, s4⟩; go_simp; with_reducible rfl)
                               refine zp HT_ 16 62 ?_
                               refine zt HT_ HW_ 17 63 hHeld ?_ (hy := by rintro w' ⟨s0, s1, s2, s3, s4⟩; go_simp; with_reducible rfl)
                               refine zp HT_ 18 64 ?_
                               refine zp HT_ 19 65 ?_
                               refine last_ (i := 20) (N := none) #[true, true, true, true, true, true, true, true, true, true, true, true, true, true, true, true, true, true, true, true, true] rfl rfl (one_of HT_.out (by kernel_rfl)) (by decide) (fun K hK => ?_)
                               refine skip_ (w1 := ?_) (by rfl) rfl ?_ ?_
                               rotate_left
                               · go_simp
                                 rfl
                               refine hK.out _ _ ?_
                               clear hK K
                               refine zo HT_ ?_
                               try go_wp2
                               go_roundg k2
                               case measure => have := HK1.out; have := HK2.out; omega
                               case rel => exact ⟨(y863), (wrap64 (x9_2 + 1)), (by first | rfl | (simp; done) | (simp [*]; done)), H', ⟨by have := HK1.out; have := HK2.out; omega⟩, ⟨zR HQ34.out⟩, ⟨by (with_reducible repeat (first | apply Kd.S_alloc | apply Kd.S_drewN | apply Kd.S_drew)); exact Kd.S_mono (Kd.S_far (p := ⟨go31, ((rd (rd_L4 t849 x7_1) x9_2) : Int).toNat, none⟩) (Kd.S_mono HO_5.out (fun k_ hk => (⟨hk, fun e_ => hk.1 (by rw [e_]; rfl)⟩ : _ ∧ k_ ≠ go31))) (fun _ hk => hk.2) (.int .i64 (Int.tmod (rd t854 (rd (rd_L4 t849 x7_1) x9_2)) 2))) (fun _ hk => ⟨hk.1.1, ⟨hk.1.2.1, hk.1.2.2⟩⟩)⟩, ⟨by (with_reducible repeat (first | apply Kd.S_alloc | apply Kd.S_drewN | apply Kd.S_drew)); exact Kd.S_mono (Kd.S_far (p := ⟨go31, ((rd (rd_L4 t849 x7_1) x9_2) : Int).toNat, none⟩) (Kd.S_mono HO_6.out (fun k_ hk => (⟨hk, fun e_ => hk.1 (by rw [e_]; rfl)⟩ : _ ∧ k_ ≠ go31))) (fun _ hk => hk.2) (.int .i64 (Int.tmod (rd t854 (rd (rd_L4 t849 x7_1) x9_2)) 2))) (fun _ hk => ⟨hk.1.1, ⟨hk.1.2.1, hk.1.2.2⟩⟩)⟩, ⟨by (with_reducible repeat (first | apply Kd.R_alloc | apply Kd.R_drewN | apply Kd.R_drew)); exact Kd.R_mono (Kd.R_far (p := ⟨go31, ((rd (rd_L4 t849 x7_1) x9_2) : Int).toNat, none⟩) (Kd.R_mono HO_8.out (fun k_ hk => (⟨hk, fun e_ => hk (by rw [e_]; rfl)⟩ : _ ∧ k_ ≠ go31))) (fun _ hk => hk.2) (.int .i64 (Int.tmod (rd t854 (rd (rd_L4 t849 x7_1) x9_2)) 2))) (fun _ hk => hk.1)⟩, ⟨by (with_reducible repeat (first | refine blk_drewN ?_ _ | refine blk_drew ?_ | refine blk_alloc ?_ _)); refine blk_far ?_ (by have h_ := Kd.R_ne HO_4.out BK838.out (by decide); intro e_; exact h_ (by rw [e_]; rfl)) _; (with_reducible repeat (first | refine blk_drewN ?_ _ | refine blk_drew ?_ | refine blk_alloc ?_ _)); exact BK838.out⟩, ⟨zB⟩⟩
                             · rw [if_neg c30] at H
                               exact absurd H (by simp)
                           · rw [if_neg c29] at H
                             exact absurd H (by simp)
                         · rw [if_neg c28] at H
                           exact absurd H (by simp)
                       · rw [if_neg c27] at H
                         exact absurd H (by simp)
                     · rw [if_neg c26] at H
                       have c26b0 : decide (x9_2 < ((rd_L4 t849 x7_1).length : Int)) = false := decide_eq_false c26
                       clear c26
                       have H' := Aside0.mk H
                       clear H
                       have p857 : 0 ≤ (x7_1 : Int) := of_decide_eq_true zA
                       have q857 : x7_1 < (t849.length : Int) := of_decide_eq_true zA
                       obtain ⟨ad857, A857_0, c857_0, e857, hx857_0, hl857_0, hi857_0⟩ := at_L4 (Kd.S_reads' HO_6.out).2.2 x7_1 p857 q857
                       obtain rfl : ad852 = ad857 := (by injection e857)
                       obtain ⟨ce857, hce857, hMe857, hcc857⟩ := Kd.S_get HO_6.out [] x7_1 p857 (by first | exact q857 | exact of_decide_eq_true zA | (have e_ := (Kd.S_reads' HO_6.out).1; omega))
                       obtain ⟨ve857_0, rfl, ge857_0⟩ := hMe857
                       have hv857_0 := hcc857 0 _ rfl
                       rw [Nat.add_zero, show ((Kd.slice 3 (Kd.int .i64))).sz = 1 from rfl, Nat.mul_one] at hv857_0
                       replace hv857_0 := Option.some.inj (hv857_0.symm.trans hx857_0)
                       rw [hv857_0] at ge857_0
                       have HL857_0 := zM (show Kd.R (Kd.int .i64) 3 _ _ _ _ (rd_L4 t849 x7_1) from ge857_0)
                       clear hv857_0 ge857_0
                       clear hcc857 hce857
                       have HR857_0 := Aside0.mk hi857_0
                       have HC857_0 := Aside0.mk hl857_0
                       clear hi857_0 hl857_0
                       replace p857 := eq_true p857
                       replace q857 := eq_true q857
                       go_wp2
                       go_roundg k2
                       case measure => have := HK1.out; have := HK2.out; omega
                       case rel => exact ⟨(x4_2), (wrap64 (x7_1 + 1)), (by first | rfl | (simp; done) | (simp [*]; done)), H', ⟨by have := HK1.out; have := HK2.out; omega⟩, ⟨by (with_reducible repeat (first | apply Kd.R_alloc | apply Kd.R_drewN | apply Kd.R_drew)); exact Kd.R_mono HO_4.out (fun _ hk => trivial)⟩, ⟨by (with_reducible repeat (first | apply Kd.S_alloc | apply Kd.S_drewN | apply Kd.S_drew)); exact Kd.S_mono HO_5.out (fun _ hk => ⟨hk.1, hk.2.1⟩)⟩, ⟨by (with_reducible repeat (first | apply Kd.S_alloc | apply Kd.S_drewN | apply Kd.S_drew)); exact Kd.S_mono HO_6.out (fun _ hk => ⟨hk.1, hk.2.1⟩)⟩, ⟨zK BK838.out⟩, ⟨zB⟩⟩
                   · rw [if_neg c25] at H
                     exact absurd H (by simp)
                 · rw [if_neg c24] at H
                   exact absurd H (by simp)
             · rw [if_neg c19] at H
               exact absurd H (by simp)
           · rw [if_neg c18] at H
             exact absurd H (by simp)
         · rw [if_neg c17] at H
           have c17b0 : decide (x7_1 < (t849.length : Int)) = false := decide_eq_false c17
           clear c17
           have H' := Aside0.mk H
           clear H
           obtain ⟨Ao35, co35, eo35⟩ := Kd.S_slice HO_6.out
           subst eo35
           go_wp2
           go_loopg [10] k1 (fun kq v10 w' => ∃ (x10_2 : Int), v10 = .int .i64 x10_2 ∧ Aside0 (spec_ParityOf.l2 kq x4_1 x10_2 l0_0 l0_1 = some (r1, r2)) ∧ Aside0 (kq ≤ k1) ∧ Aside0 (Kd.R (Kd.int .i64) 3 w' w.heap.size (fun _ => True) v844 x4_1) ∧ Aside0 (w'.heap[gb838]? = some (.cells #[(.slice A0_0 l0_0.length c0_0), (.slice A0_1 l0_1.length c0_1)] 28 (0, 0))) ∧ Aside0 (Below w.heap.size w w'))
           case atStart => exact ⟨(0), (by first | rfl | (simp; done) | (simp [*]; done)), H', ⟨Nat.le_refl _⟩, ⟨zR HO_4.out⟩, ⟨zK BK838.out⟩, ⟨zB⟩⟩
           case round =>
            clear H'
            try clear c1
            try clear c2
            try clear p2
            try clear c3
            try clear p3
            try clear q3
            try clear hx3
            try clear hf3
            try clear c4
            try clear c4b0
            try clear c4b1
            try clear c5
            try clear c5b0
            try clear c5b1
            try clear c6
            try clear p6
            try clear c8
            try clear p8
            try clear q8
            try clear hx8
            try clear qi8
            try clear c9
            try clear c17
            try clear c17b0
            try clear c18
            try clear c18b0
            try clear c19
            try clear c19b0
            try clear c19b1
            try clear c24
            try clear c24b0
            try clear c25
            try clear c25b0
            try clear c26
            try clear c26b0
            try clear c27
            try clear c27b0
            try clear c28
            try clear c28b0
            try clear c29
            try clear c29b0
            try clear c30
            try clear c30b0
            try clear p31
            try clear q31
            try clear hx31
            try clear hf31
            try clear hcz9_0
            try clear hcz9_1
            try clear hfz9_0
            try clear hfz9_1
            try clear hx31_0
            try clear hx852_0
            try clear hx853_0
            try clear hx857_0
            try clear hx858_0
            try clear hx859_0
            try clear hx860_0
            try clear hx861_0
            try clear hx862_0
            try clear p2
            try clear p31
            try clear p8
            try clear p852
            try clear p853
            try clear p857
            try clear p858
            try clear p859
            try clear p860
            try clear p861
            try clear p862
            try clear q31
            try clear q8
            try clear q852
            try clear q853
            try clear q857
            try clear q858
            try clear q859
            try clear q860
            try clear q861
            try clear q862
            obtain ⟨x10_2, rfl, HA, HK2, HO_4, BK838, HB⟩ := hrel
            cases gk with
            | zero => exact absurd HA.out (by simp [spec_ParityOf.l2])
            | succ k2 =>
             have H := HA.out
             clear HA
             simp only [spec_ParityOf.l2] at H
             by_cases c36 : x10_2 < (l0_1.length : Int)
             · rw [if_pos c36] at H
               have c36b0 := decide_eq_true c36
               clear c36
               by_cases c37 : 0 ≤ x10_2
               · rw [if_pos c37] at H
                 have c37b0 := decide_eq_true c37
                 clear c37
                 by_cases c38 : 0 ≤ ((rd_T64 l0_1 x10_2).f0)
                 · rw [if_pos c38] at H
                   have c38b0 := decide_eq_true c38
                   clear c38
                   by_cases c39 : ((rd_T64 l0_1 x10_2).f0) < (x4_1.length : Int)
                   · rw [if_pos c39] at H
                     have c39b0 := decide_eq_true c39
                     clear c39
                     by_cases c40 : 0 ≤ ((rd_T64 l0_1 x10_2).f1)
                     · rw [if_pos c40] at H
                       have c40b0 := decide_eq_true c40
                       clear c40
                       by_cases c41 : ((rd_T64 l0_1 x10_2).f1) < (x4_1.length : Int)
                       · rw [if_pos c41] at H
                         have c41b0 := decide_eq_true c41
                         clear c41
                         by_cases c42 : (rd x4_1 ((rd_T64 l0_1 x10_2).f0)) = (rd x4_1 ((rd_T64 l0_1 x10_2).f1))
                         · rw [if_pos c42] at H
                           have c42b0 : ((rd x4_1 ((rd_T64 l0_1 x10_2).f0)) == (rd x4_1 ((rd_T64 l0_1 x10_2).f1))) = true := beq_iff_eq.mpr c42
                           have c42b1 : ((rd x4_1 ((rd_T64 l0_1 x10_2).f0)) != (rd x4_1 ((rd_T64 l0_1 x10_2).f1))) = false := bne_eq_false_iff_eq.mpr c42
                           clear c42
                           obtain ⟨y868, hy868⟩ : ∃ y_ : List Int, y_ = (([] : List Int)) := ⟨_, rfl⟩
                           replace H : (some (y868, false)) = some (r1, r2) := by first | (rw [hy868]; with_reducible exact H) | (have H2_ := (Option.bind_some _ _).symm.trans H; rw [hy868]; with_reducible exact H2_) | (have H2_ := (Option.bind_some _ _).symm.trans H; with_reducible exact H2_) | with_reducible exact H | (rw [hy868]; exact H) | exact H
                           have Ny868 := Aside0.mk hy868
                           clear hy868
                           simp only [Option.some.injEq, Prod.mk.injEq] at H
                           obtain ⟨rfl, rfl⟩ := H
                           have hcz43_0 := zy BK838 0
                           have hcz43_1 := zy BK838 1
                           have hfz43_0 := blk_frozen BK838.out 0
                           have hfz43_1 := blk_frozen BK838.out 1
                           try go_wp2
                           replace HO_4 := zM (Kd.R_drew HO_4.out)
                           replace BK838 := zM (blk_drew BK838.out)
                           replace HB := zM (below_drew1 HB.out)
                           have p864 : 0 ≤ (x10_2 : Int) := of_decide_eq_true zA
                           have q864 : x10_2 < (l0_1.length : Int) := of_decide_eq_true zA
                           obtain ⟨ad864, e864, hx864_0, hx864_1⟩ := at_T64 HR0_1.out x10_2 p864 q864
                           have hw864_1 := hx864_1
                           have hw864_0 := hx864_0
                           cases e864
                           (try replace hx864_0 := (HB.out.cell (World.block_lt_of_cell? w _ hx864_0)).trans hx864_0)
                           (try replace hx864_1 := (HB.out.cell (World.block_lt_of_cell? w _ hx864_1)).trans hx864_1)
                           replace p864 := eq_true p864
                           replace q864 := eq_true q864
                           obtain ⟨Ao45, co45, eo45⟩ := Kd.R_slice HO_4.out
                           (first | subst eo45 | (injection eo45 with f1_ f2_ f3_; have f4_ := f1_.symm; have f5_ := f3_.symm; clear f1_ f2_ f3_; subst f4_; subst f5_))
                           have p865 : 0 ≤ (((rd_T64 l0_1 x10_2).f0) : Int) := of_decide_eq_true zA
                           have q865 : ((rd_T64 l0_1 x10_2).f0) < (x4_1.length : Int) := of_decide_eq_true zA
                           obtain ⟨ad865, e865, hx865_0⟩ := Kd.at_int (Kd.R_reads' HO_4.out).2.2 ((rd_T64 l0_1 x10_2).f0) p865 q865
                           cases e865
                           replace p865 := eq_true p865
                           replace q865 := eq_true q865
                           have p866 : 0 ≤ (x10_2 : Int) := of_decide_eq_true zA
                           have q866 : x10_2 < (l0_1.length : Int) := of_decide_eq_true zA
                           obtain ⟨ad866, e866, hx866_0, hx866_1⟩ := at_T64 HR0_1.out x10_2 p866 q866
                           have hw866_1 := hx866_1
                           have hw866_0 := hx866_0
                           obtain rfl : ad864 = ad866 := (by injection e866)
                           (try replace hx866_0 := (HB.out.cell (World.block_lt_of_cell? w _ hx866_0)).trans hx866_0)
                           (try replace hx866_1 := (HB.out.cell (World.block_lt_of_cell? w _ hx866_1)).trans hx866_1)
                           replace p866 := eq_true p866
                           replace q866 := eq_true q866
                           have p867 : 0 ≤ (((rd_T64 l0_1 x10_2).f1) : Int) := of_decide_eq_true zA
                           have q867 : ((rd_T64 l0_1 x10_2).f1) < (x4_1.length : Int) := of_decide_eq_true zA
                           obtain ⟨ad867, e867, hx867_0⟩ := Kd.at_int (Kd.R_reads' HO_4.out).2.2 ((rd_T64 l0_1 x10_2).f1) p867 q867
                           obtain rfl : ad865 = ad867 := (by injection e867)
                           replace p867 := eq_true p867
                           replace q867 := eq_true q867
                           refine zs (n := 19) (fun w' => w'.cell? ⟨gb838, 0, none⟩ = some (.slice A0_0 l0_0.length c0_0) ∧ w'.cell? ⟨gb838, 1, none⟩ = some (.slice (some ad864) l0_1.length c0_1) ∧ w'.cell? (ad864.add ((x10_2).toNat * 2)) = some (.int .i64 ((rd_T64 l0_1 x10_2).f0)) ∧ w'.cell? ⟨(ad864.add ((x10_2).toNat * 2)).block, (ad864.add ((x10_2).toNat * 2)).off + 1, none⟩ = some (.int .i64 ((rd_T64 l0_1 x10_2).f1)) ∧ w'.cell? (ad865.add (((rd_T64 l0_1 x10_2).f0)).toNat) = some (.int .i64 (rd x4_1 ((rd_T64 l0_1 x10_2).f0))) ∧ w'.cell? (ad864.add ((x10_2).toNat * 2)) = some (.int .i64 ((rd_T64 l0_1 x10_2).f0)) ∧ w'.cell? ⟨(ad864.add ((x10_2).toNat * 2)).block, (ad864.add ((x10_2).toNat * 2)).off + 1, none⟩ = some (.int .i64 ((rd_T64 l0_1 x10_2).f1)) ∧ w'.cell? (ad865.add (((rd_T64 l0_1 x10_2).f1)).toNat) = some (.int .i64 (rd x4_1 ((rd_T64 l0_1 x10_2).f1)))) ⟨(blk_cell BK838.out 0).trans rfl, (blk_cell BK838.out 1).trans rfl, ((HB.out.cell (World.block_lt_of_cell? w _ hw864_0)).trans hw864_0), ((HB.out.cell (World.block_lt_of_cell? w _ hw864_1)).trans hw864_1), hx865_0, ((HB.out.cell (World.block_lt_of_cell? w _ hw866_0)).trans hw866_0), ((HB.out.cell (World.block_lt_of_cell? w _ hw866_1)).trans hw866_1), hx867_0⟩ (fun hHeld => ?_); refine with_tabW spec_ParityOf.tab15 spec_ParityOf.bits15 (fun HT_ HW_ => ?_)
                           generalize wr.drew = w44 at HO_4 BK838 HB hx864_0 hx864_1 hx865_0 hx866_0 hx866_1 hx867_0 hHeld ⊢
                           refine zp HT_ 0 73 ?_
                           refine zp HT_ 1 74 ?_
                           refine zp HT_ 3 76 ?_
                           refine zp HT_ 9 82 ?_
                           refine zp HT_ 10 83 ?_
                           refine zp HT_ 12 85 ?_
                           refine zt HT_ HW_ 2 75 hHeld ?_ (hy := by rintro w' ⟨s0, s1, s2, s3, s4, s5, s6, s7⟩; go_simp; with_reducible rfl)
                           refine zp HT_ 4 77 ?_
                           refine zp HT_ 5 78 ?_
                           refine zt HT_ HW_ 6 79 hHeld ?_ (hy := by rintro w' ⟨s0, s1, s2, s3, s4, s5, s6, s7⟩; go_simp; with_reducible rfl)
                           refine zp HT_ 7 80 ?_
                           refine zt HT_ HW_ 8 81 hHeld ?_ (hy := by rintro w' ⟨s0, s1, s2, s3, s4, s5, s6, s7⟩; go_simp; with_reducible rfl)
                           refine zt HT_ HW_ 11 84 hHeld ?_ (hy := by rintro w' ⟨s0, s1, s2, s3, s4, s5, s6, s7⟩; go_simp; with_reducible rfl)
                           refine zp HT_ 13 86 ?_
                           refine zp HT_ 14 87 ?_
                           refine zt HT_ HW_ 15 88 hHeld ?_ (hy := by rintro w' ⟨s0, s1, s2, s3, s4, s5, s6, s7⟩; go_simp; with_reducible rfl)
                           refine zp HT_ 16 89 ?_
                           refine zt HT_ HW_ 17 90 hHeld ?_ (hy := by rintro w' ⟨s0, s1, s2, s3, s4, s5, s6, s7⟩; go_simp; with_reducible rfl)
                           refine zp HT_ 18 91 ?_
                           refine zo HT_ ?_
                           try go_wp2_with (first | ((with_reducible refine gate_dst (N := 92) rfl ?_); refine Kd.R_lit (Kd.int .i64) _ 3 ?hg (N := 92) ?hd (xs := ([] : List Int)) (inner := []) (ok := fun _ => True) (okp := fun _ => True) ?hr ?hp (fun _ hk => hk) trivial (Below.refl _ _) (Nat.le_refl _) (by simp) ?_; (case hd => rfl); (case hg => rfl); (case hr => first | (go_simp; done) | (go_simp; rfl)); (case hp => exact (Reps.none _ _)); intro v869 w46 ho47 hb hg_ hnew_; clear hg_ hnew_; (first | rw [← Ny868.out] at ho47 | (simp only [Int.reduceToNat] at ho47; rw [← Ny868.out] at ho47)); have HO870 := zM (Kd.R_lower (Kd.R_new' ho47 (Kd.R_lt (zR HO_4.out))) (below_size zB)); replace HO_4 := zM (Kd.R_elder' (zR HO_4.out) (Kd.R_base ho47) hb); replace BK838 := zM (blk_below (g := gb838) (o := .cells #[.slice A0_0 l0_0.length c0_0, .slice (some ad864) l0_1.length c0_1] 28 (0, 0)) (zK BK838.out) hb); replace HB := zM (below_step zB hb); clear hb ho47))
                           go_ret2
                           exact ⟨_, by first | rfl | (simp [errW_none, errW_some] <;> rfl) | (simp [*, errW_none, errW_some] <;> rfl), by (with_reducible repeat (first | apply Kd.R_alloc | apply Kd.R_drewN | apply Kd.R_drew)); exact Kd.R_mono HO870.out (fun _ hk => trivial), zB⟩
                         · rw [if_neg c42] at H
                           have c42b0 : ((rd x4_1 ((rd_T64 l0_1 x10_2).f0)) == (rd x4_1 ((rd_T64 l0_1 x10_2).f1))) = false := beq_eq_false_iff_ne.mpr c42
                           have c42b1 : ((rd x4_1 ((rd_T64 l0_1 x10_2).f0)) != (rd x4_1 ((rd_T64 l0_1 x10_2).f1))) = true := bne_iff_ne.mpr c42
                           have H' := Aside0.mk H
                           clear H
                           have hcz48_0 := zy BK838 0
                           have hcz48_1 := zy BK838 1
                           have hfz48_0 := blk_frozen BK838.out 0
                           have hfz48_1 := blk_frozen BK838.out 1
                           try go_wp2
                           replace HO_4 := zM (Kd.R_drew HO_4.out)
                           replace BK838 := zM (blk_drew BK838.out)
                           replace HB := zM (below_drew1 HB.out)
                           have p864 : 0 ≤ (x10_2 : Int) := of_decide_eq_true zA
                           have q864 : x10_2 < (l0_1.length : Int) := of_decide_eq_true zA
                           obtain ⟨ad864, e864, hx864_0, hx864_1⟩ := at_T64 HR0_1.out x10_2 p864 q864
                           have hw864_1 := hx864_1
                           have hw864_0 := hx864_0
                           cases e864
                           (try replace hx864_0 := (HB.out.cell (World.block_lt_of_cell? w _ hx864_0)).trans hx864_0)
                           (try replace hx864_1 := (HB.out.cell (World.block_lt_of_cell? w _ hx864_1)).trans hx864_1)
                           replace p864 := eq_true p864
                           replace q864 := eq_true q864
                           obtain ⟨Ao50, co50, eo50⟩ := Kd.R_slice HO_4.out
                           (first | subst eo50 | (injection eo50 with f1_ f2_ f3_; have f4_ := f1_.symm; have f5_ := f3_.symm; clear f1_ f2_ f3_; subst f4_; subst f5_))
                           have p865 : 0 ≤ (((rd_T64 l0_1 x10_2).f0) : Int) := of_decide_eq_true zA
                           have q865 : ((rd_T64 l0_1 x10_2).f0) < (x4_1.length : Int) := of_decide_eq_true zA
                           obtain ⟨ad865, e865, hx865_0⟩ := Kd.at_int (Kd.R_reads' HO_4.out).2.2 ((rd_T64 l0_1 x10_2).f0) p865 q865
                           cases e865
                           replace p865 := eq_true p865
                           replace q865 := eq_true q865
                           have p866 : 0 ≤ (x10_2 : Int) := of_decide_eq_true zA
                           have q866 : x10_2 < (l0_1.length : Int) := of_decide_eq_true zA
                           obtain ⟨ad866, e866, hx866_0, hx866_1⟩ := at_T64 HR0_1.out x10_2 p866 q866
                           have hw866_1 := hx866_1
                           have hw866_0 := hx866_0
                           obtain rfl : ad864 = ad866 := (by injection e866)
                           (try replace hx866_0 := (HB.out.cell (World.block_lt_of_cell? w _ hx866_0)).trans hx866_0)
                           (try replace hx866_1 := (HB.out.cell (World.block_lt_of_cell? w _ hx866_1)).trans hx866_1)
                           replace p866 := eq_true p866
                           replace q866 := eq_true q866
                           have p867 : 0 ≤ (((rd_T64 l0_1 x10_2).f1) : Int) := of_decide_eq_true zA
                           have q867 : ((rd_T64 l0_1 x10_2).f1) < (x4_1.length : Int) := of_decide_eq_true zA
                           obtain ⟨ad867, e867, hx867_0⟩ := Kd.at_int (Kd.R_reads' HO_4.out).2.2 ((rd_T64 l0_1 x10_2).f1) p867 q867
                           obtain rfl : ad865 = ad867 := (by injection e867)
                           replace p867 := eq_true p867
                           replace q867 := eq_true q867
                           refine zs (n := 19) (fun w' => w'.cell? ⟨gb838, 0, none⟩ = some (.slice A0_0 l0_0.length c0_0) ∧ w'.cell? ⟨gb838, 1, none⟩ = some (.slice (some ad864) l0_1.length c0_1) ∧ w'.cell? (ad864.add ((x10_2).toNat * 2)) = some (.int .i64 ((rd_T64 l0_1 x10_2).f0)) ∧ w'.cell? ⟨(ad864.add ((x10_2).toNat * 2)).block, (ad864.add ((x10_2).toNat * 2)).off + 1, none⟩ = some (.int .i64 ((rd_T64 l0_1 x10_2).f1)) ∧ w'.cell? (ad865.add (((rd_T64 l0_1 x10_2).f0)).toNat) = some (.int .i64 (rd x4_1 ((rd_T64 l0_1 x10_2).f0))) ∧ w'.cell? (ad864.add ((x10_2).toNat * 2)) = some (.int .i64 ((rd_T64 l0_1 x10_2).f0)) ∧ w'.cell? ⟨(ad864.add ((x10_2).toNat * 2)).block, (ad864.add ((x10_2).toNat * 2)).off + 1, none⟩ = some (.int .i64 ((rd_T64 l0_1 x10_2).f1)) ∧ w'.cell? (ad865.add (((rd_T64 l0_1 x10_2).f1)).toNat) = some (.int .i64 (rd x4_1 ((rd_T64 l0_1 x10_2).f1)))) ⟨(blk_cell BK838.out 0).trans rfl, (blk_cell BK838.out 1).trans rfl, ((HB.out.cell (World.block_lt_of_cell? w _ hw864_0)).trans hw864_0), ((HB.out.cell (World.block_lt_of_cell? w _ hw864_1)).trans hw864_1), hx865_0, ((HB.out.cell (World.block_lt_of_cell? w _ hw866_0)).trans hw866_0), ((HB.out.cell (World.block_lt_of_cell? w _ hw866_1)).trans hw866_1), hx867_0⟩ (fun hHeld => ?_); refine with_tabW spec_ParityOf.tab15 spec_ParityOf.bits15 (fun HT_ HW_ => ?_)
                           generalize wr.drew = w49 at HO_4 BK838 HB hx864_0 hx864_1 hx865_0 hx866_0 hx866_1 hx867_0 hHeld ⊢
                           refine zp HT_ 0 73 ?_
                           refine zp HT_ 1 74 ?_
                           refine zp HT_ 3 76 ?_
                           refine zp HT_ 9 82 ?_
                           refine zp HT_ 10 83 ?_
                           refine zp HT_ 12 85 ?_
                           refine zt HT_ HW_ 2 75 hHeld ?_ (hy := by rintro w' ⟨s0, s1, s2, s3, s4, s5, s6, s7⟩; go_simp; with_reducible rfl)
                           refine zp HT_ 4 77 ?_
                           refine zp HT_ 5 78 ?_
                           refine zt HT_ HW_ 6 79 hHeld ?_ (hy := by rintro w' ⟨s0, s1, s2, s3, s4, s5, s6, s7⟩; go_simp; with_reducible rfl)
                           refine zp HT_ 7 80 ?_
                           refine zt HT_ HW_ 8 81 hHeld ?_ (hy := by rintro w' ⟨s0, s1, s2, s3, s4, s5, s6, s7⟩; go_simp; with_reducible rfl)
                           refine zt HT_ HW_ 11 84 hHeld ?_ (hy := by rintro w' ⟨s0, s1, s2, s3, s4, s5, s6, s7⟩; go_simp; with_reducible rfl)
                           refine zp HT_ 13 86 ?_
                           refine zp HT_ 14 87 ?_
                           refine zt HT_ HW_ 15 88 hHeld ?_ (hy := by rintro w' ⟨s0, s1, s2, s3, s4, s5, s6, s7⟩; go_simp; with_reducible rfl)
                           refine zp HT_ 16 89 ?_
                           refine zt HT_ HW_ 17 90 hHeld ?_ (hy := by rintro w' ⟨s0, s1, s2, s3, s4, s5, s6, s7⟩; go_simp; with_reducible rfl)
                           refine zp HT_ 18 91 ?_
                           refine zo HT_ ?_
                           try go_wp2
                           go_roundg k2
                           case measure => have := HK1.out; have := HK2.out; omega
                           case rel => exact ⟨(wrap64 (x10_2 + 1)), (by first | rfl | (simp; done) | (simp [*]; done)), H', ⟨by have := HK1.out; have := HK2.out; omega⟩, ⟨zR HO_4.out⟩, ⟨zK BK838.out⟩, ⟨zB⟩⟩
                       · rw [if_neg c41] at H
                         exact absurd H (by simp)
                     · rw [if_neg c40] at H
                       exact absurd H (by simp)
                   · rw [if_neg c39] at H
                     exact absurd H (by simp)
                 · rw [if_neg c38] at H
                   exact absurd H (by simp)
               · rw [if_neg c37] at H
                 exact absurd H (by simp)
             · rw [if_neg c36] at H
               have c36b0 : decide (x10_2 < (l0_1.length : Int)) = false := decide_eq_false c36
               clear c36
               simp only [Option.some.injEq, Prod.mk.injEq] at H
               obtain ⟨rfl, rfl⟩ := H
               have hcz51_0 := zy BK838 0
               have hcz51_1 := zy BK838 1
               have hfz51_0 := blk_frozen BK838.out 0
               have hfz51_1 := blk_frozen BK838.out 1
               go_wp2
               go_ret2
               exact ⟨_, by first | rfl | (simp [errW_none, errW_some] <;> rfl) | (simp [*, errW_none, errW_some] <;> rfl), by (with_reducible repeat (first | apply Kd.R_alloc | apply Kd.R_drewN | apply Kd.R_drew)); exact HO_4.out, zB⟩
     · rw [if_neg c5] at H
       exact absurd H (by simp)
   · rw [if_neg c4] at H
     exact absurd H (by simp)
 · replace c3 := Bool.eq_false_iff.mpr c3
   subst c3
   have H1 : (some ((([] : List Int)), false)) = some (r1, r2) := by rw [if_neg (show ¬ (false = true) by decide)] at H; exact H
   clear H
   have H := H1
   clear H1
   obtain ⟨y840, hy840⟩ : ∃ y_ : List Int, y_ = (([] : List Int)) := ⟨_, rfl⟩
   replace H : (some (y840, false)) = some (r1, r2) := by first | (rw [hy840]; with_reducible exact H) | (have H2_ := (Option.bind_some _ _).symm.trans H; rw [hy840]; with_reducible exact H2_) | (have H2_ := (Option.bind_some _ _).symm.trans H; with_reducible exact H2_) | with_reducible exact H | (rw [hy840]; exact H) | exact H
   have Ny840 := Aside0.mk hy840
   clear hy840
   simp only [Option.some.injEq, Prod.mk.injEq] at H
   obtain ⟨rfl, rfl⟩ := H
   go_enter Try.func33, Try.ntmps33
   go_wp2_with (first | ((with_reducible refine gate_dst (N := 1) rfl ?_); refine zb (w := w) 1 #[.slice A0_0 l0_0.length c0_0, .slice A0_1 l0_1.length c0_1] 28 zB ?_; clear HB; intro gb838 w52 HB BK838 GW838; have GE838 := GW838; have hcz53_0 := zy BK838 0; have hcz53_1 := zy BK838 1; have hfz53_0 := blk_frozen BK838.out 0; have hfz53_1 := blk_frozen BK838.out 1) | ((with_reducible refine gate_callee (f := 66) rfl ?_); refine zc 12 Try.func66 #[.agg #[.slice A0_0 l0_0.length c0_0, .slice A0_1 l0_1.length c0_1]] ?_; (with_reducible refine (spec_l2Space.calls k _ _ l0_0 _ _ l0_1 false _ ?side1 ?side2 ?side3 ?side4 A2.out).mono ?_); (case side1 => exact zC (Kd.C_below HR0_0.out HB.out)); (case side2 => exact HC0_0.out); (case side3 => exact zC (Kd.C_below HR0_1.out HB.out)); (case side4 => exact HC0_1.out); rintro e w54 ⟨rfl, hb⟩; refine ⟨_, rfl, ?_⟩; replace BK838 := zM (blk_below (g := gb838) (o := .cells #[.slice A0_0 l0_0.length c0_0, .slice A0_1 l0_1.length c0_1] 28 (0, 0)) (zK BK838.out) hb); replace HB := zM (below_step zB hb); (try clear hb); (try clear hb2); (try clear hk); (try clear hi)) | ((with_reducible refine gate_dst (N := 14) rfl ?_); refine Kd.R_lit (Kd.int .i64) _ 3 ?hg (N := 14) ?hd (xs := ([] : List Int)) (inner := []) (ok := fun _ => True) (okp := fun _ => True) ?hr ?hp (fun _ hk => hk) trivial (Below.refl _ _) (Nat.le_refl _) (by simp) ?_; (case hd => rfl); (case hg => rfl); (case hr => first | (go_simp; done) | (go_simp; rfl)); (case hp => exact (Reps.none _ _)); intro v841 w55 ho56 hb hg_ hnew_; clear hg_ hnew_; (first | rw [← Ny840.out] at ho56 | (simp only [Int.reduceToNat] at ho56; rw [← Ny840.out] at ho56)); have HO842 := zM (Kd.R_lower ho56 (below_size zB)); replace BK838 := zM (blk_below (g := gb838) (o := .cells #[.slice A0_0 l0_0.length c0_0, .slice A0_1 l0_1.length c0_1] 28 (0, 0)) (zK BK838.out) hb); replace HB := zM (below_step zB hb); clear hb ho56))
   go_ret2
   exact ⟨_, by first | rfl | (simp [errW_none, errW_some] <;> rfl) | (simp [*, errW_none, errW_some] <;> rfl), by (with_reducible repeat (first | apply Kd.R_alloc | apply Kd.R_drewN | apply Kd.R_drew)); exact HO842.out, zB⟩

end Go.Proofs.Ythnojbafclglpaa.P
