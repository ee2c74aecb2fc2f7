-- Written by a program of this session (the kit's print, turned: wip/print/patch.py) out of the translation. Not trusted: Lean checks it.
import Derived.Test.YthnojbafclglpaaParityOfG5
import Derived.Test.YthnojbafclglpaaParityOfG15
import Derived.Test.YthnojbafclglpaaParityOfG16
import Derived.Test.YthnojbafclglpaaParityOfG17
import Derived.Test.YthnojbafclglpaaParityOfG18
namespace Go.Proofs.Ythnojbafclglpaa.P
open Go.RowKit Go.Proofs.YthnojbafclglpaaW.PrintWords Go.Proofs.YthnojbafclglpaaW.PrintLast Go.Proofs.YthnojbafclglpaaW.PrintMore
attribute [local go_sem] max2_int min2_int max_two min_two max_three min_three max_four min_four   -- for this text's walks alone
set_option linter.unusedVariables false
set_option linter.unusedSimpArgs false

/-! ### impl_ParityOf: function 34 -/
mutual
def impl_ParityOf.l0 : Nat → List Int → List (List Int) → List (List Int) → Int → Int → List (List Int) → List (S64) → Option (List Int × Bool)
 | 0, _, _, _, _, _, _, _ => none
 | k + 1, x4, x5, x23, x24, x25, x894000, x894001 => if x25 < x24 then (if 0 ≤ x25 then (if x25 < (x23.length : Int) then (if 0 < ((rd_L4 x23 x25).length : Int) then ((impl_spread.f k x5 (rd (rd_L4 x23 x25) 0)).bind fun t906 => (impl_ParityOf.l1 k x4 x5 t906 x23 x24 x25 (rd_L4 x23 x25) ((rd_L4 x23 x25).length : Int) 0 x894000 x894001)) else (none)) else (none)) else (none)) else (impl_ParityOf.l2 k x4 x894001 (x894001.length : Int) 0)
def impl_ParityOf.l1 : Nat → List Int → List (List Int) → List Int → List (List Int) → Int → Int → List Int → Int → Int → List (List Int) → List (S64) → Option (List Int × Bool)
 | 0, _, _, _, _, _, _, _, _, _, _, _ => none
 | k + 1, x4, x5, x8, x23, x24, x25, x34, x35, x36, x894000, x894001 => if x36 < x35 then (if 0 ≤ x36 then (if x36 < (x34.length : Int) then (if 0 ≤ (rd x34 x36) then (if (rd x34 x36) < (x8.length : Int) then (if (rd x34 x36) < (x4.length : Int) then (impl_ParityOf.l1 k (x4.set ((rd x34 x36) : Int).toNat (Int.tmod (rd x8 (rd x34 x36)) 2)) x5 x8 x23 x24 x25 x34 x35 (wrap64 (x36 + 1)) x894000 x894001) else (none)) else (none)) else (none)) else (none)) else (none)) else (impl_ParityOf.l0 k x4 x5 x23 x24 (wrap64 (x25 + 1)) x894000 x894001)
def impl_ParityOf.l2 : Nat → List Int → List (S64) → Int → Int → Option (List Int × Bool)
 | 0, _, _, _, _ => none
 | k + 1, x4, x51, x52, x53 => if x53 < x52 then (if 0 ≤ x53 then (if x53 < (x51.length : Int) then (if 0 ≤ ((rd_T64 x51 x53).f0) then (if ((rd_T64 x51 x53).f0) < (x4.length : Int) then (if 0 ≤ ((rd_T64 x51 x53).f1) then (if ((rd_T64 x51 x53).f1) < (x4.length : Int) then (if (rd x4 ((rd_T64 x51 x53).f0)) = (rd x4 ((rd_T64 x51 x53).f1)) then (some (([] : List Int), false)) else (impl_ParityOf.l2 k x4 x51 x52 (wrap64 (x53 + 1)))) else (none)) else (none)) else (none)) else (none)) else (none)) else (none)) else (some (x4, true))
end
def impl_ParityOf.f (k : Nat) (l0_0 : List (List Int)) (l0_1 : List (S64)) : Option (List Int × Bool) := (impl_IsSpace.f k l0_0 l0_1).bind fun t894 => (if t894 = true then (if 0 ≤ (l0_0.length : Int) then (if ((l0_0.length : Int) : Int).toNat ≤ 35184372088832 then ((impl_Space_roads.f k l0_0 l0_1).bind fun t898 => ((impl_parts.f k t898 (-1)).bind fun t901 => (impl_ParityOf.l0 k (List.replicate ((l0_0.length : Int) : Int).toNat 0) t898 t901 (t901.length : Int) 0 l0_0 l0_1))) else (none)) else (none)) else (some (([] : List Int), false)))
def impl_ParityOf.T3 : Bool × List (List Nat × List Nat) := (true, [([], []), ([0], [0]), ([1], [1]), ([2, 2], [2]), ([], []), ([4], [4]), ([3, 5, 0, 1, 2, 3], [3]), ([5, 6, 0, 1, 2, 3, 4, 5, 6], [5])])
def impl_ParityOf.B3 : List Nat := [0, 1, 3, 7, 0, 16, 63, 127]
theorem impl_ParityOf.tab3 : rtab .any (opsOf Try.f34 3) = impl_ParityOf.T3 := by kernel_rfl
theorem impl_ParityOf.bits3 : waitsOk impl_ParityOf.T3.2 impl_ParityOf.B3 = true := by kernel_rfl
def impl_ParityOf.T17 : Bool × List (List Nat × List Nat) := (true, [([], []), ([], []), ([1], [1]), ([0, 2], [0, 2]), ([3], [3]), ([], []), ([], []), ([6], [6]), ([5, 7], [5, 7]), ([8], [8]), ([4, 9], [4, 9])])
def impl_ParityOf.B17 : List Nat := [0, 0, 2, 7, 15, 0, 0, 64, 224, 480, 1023]
theorem impl_ParityOf.tab17 : rtab .any (opsOf Try.f34 17) = impl_ParityOf.T17 := by kernel_rfl
theorem impl_ParityOf.bits17 : waitsOk impl_ParityOf.T17.2 impl_ParityOf.B17 = true := by kernel_rfl
set_option maxHeartbeats 8000000 in
set_option maxRecDepth 100000 in
theorem impl_ParityOf.calls (k : Nat) (A0_0 : Option Addr) (c0_0 : Nat) (l0_0 : List (List Int)) (A0_1 : Option Addr) (c0_1 : Nat) (l0_1 : List (S64)) (r1 : List Int) (r2 : Bool) (w : World) (hr0_0 : Kd.C (Kd.slice 3 (Kd.int .i64)) w A0_0 l0_0.length l0_0) (hc0_0 : l0_0.length ≤ c0_0) (hr0_1 : Kd.C k64 w A0_1 l0_1.length l0_1) (hc0_1 : l0_1.length ≤ c0_1) (h : impl_ParityOf.f k l0_0 l0_1 = some (r1, r2)) :
 Calls Try.prog 34 #[.agg #[.slice A0_0 l0_0.length c0_0, .slice A0_1 l0_1.length c0_1]] w fun e w' => ∃ v0_ : Value, e = .returned (.tuple #[v0_, .bool r2]) ∧ Kd.R (Kd.int .i64) 3 w' w.heap.size (fun _ => True) v0_ r1 ∧ Below w.heap.size w w' := by
 have hu28 := Try.underlying28
 have hu64 := Try.underlying64
 have HR0_0 := Aside0.mk hr0_0
 have HC0_0 := Aside0.mk hc0_0
 clear hr0_0 hc0_0
 have HR0_1 := Aside0.mk hr0_1
 have HC0_1 := Aside0.mk hc0_1
 clear hr0_1 hc0_1
 have HB := zM (Below.refl w.heap.size w)
 have H : ((impl_IsSpace.f k l0_0 l0_1).bind fun t894 => (if t894 = true then (if 0 ≤ (l0_0.length : Int) then (if ((l0_0.length : Int) : Int).toNat ≤ 35184372088832 then ((impl_Space_roads.f k l0_0 l0_1).bind fun t898 => ((impl_parts.f k t898 (-1)).bind fun t901 => (impl_ParityOf.l0 k (List.replicate ((l0_0.length : Int) : Int).toNat 0) t898 t901 (t901.length : Int) 0 l0_0 l0_1))) else (none)) else (none)) else (some (([] : List Int), false)))) = some (r1, r2) := h
 clear h
 replace H := Option.bind_eq_some_iff.mp H
 obtain ⟨t894, A20, H⟩ := H
 replace H : (if t894 = true then (if 0 ≤ (l0_0.length : Int) then (if ((l0_0.length : Int) : Int).toNat ≤ 35184372088832 then ((impl_Space_roads.f k l0_0 l0_1).bind fun t898 => ((impl_parts.f k t898 (-1)).bind fun t901 => (impl_ParityOf.l0 k (List.replicate ((l0_0.length : Int) : Int).toNat 0) t898 t901 (t901.length : Int) 0 l0_0 l0_1))) else (none)) else (none)) else (some (([] : List Int), false))) = some (r1, r2) := H
 have A2 := Aside0.mk A20
 clear A20
 by_cases c3 : t894 = true
 · subst c3
   have H1 : (if 0 ≤ (l0_0.length : Int) then (if ((l0_0.length : Int) : Int).toNat ≤ 35184372088832 then ((impl_Space_roads.f k l0_0 l0_1).bind fun t898 => ((impl_parts.f k t898 (-1)).bind fun t901 => (impl_ParityOf.l0 k (List.replicate ((l0_0.length : Int) : Int).toNat 0) t898 t901 (t901.length : Int) 0 l0_0 l0_1))) else (none)) else (none)) = some (r1, r2) := by rw [if_pos rfl] at H; exact H
   clear H
   have H := H1
   clear H1
   by_cases c4 : 0 ≤ (l0_0.length : Int)
   · rw [if_pos c4] at H
     have c4b0 := eq_true c4
     have c4b1 : decide (0 ≤ (l0_0.length : Int)) = true := decide_eq_true c4
     clear c4
     by_cases c5 : ((l0_0.length : Int) : Int).toNat ≤ 35184372088832
     · rw [if_pos c5] at H
       have c5b0 := eq_true c5
       have c5b1 : decide (((l0_0.length : Int) : Int).toNat ≤ 35184372088832) = true := decide_eq_true c5
       clear c5
       obtain ⟨y895, hy895⟩ : ∃ y_ : List Int, y_ = (List.replicate ((l0_0.length : Int) : Int).toNat 0) := ⟨_, rfl⟩
       replace H : ((impl_Space_roads.f k l0_0 l0_1).bind fun t898 => ((impl_parts.f k t898 (-1)).bind fun t901 => (impl_ParityOf.l0 k y895 t898 t901 (t901.length : Int) 0 l0_0 l0_1))) = some (r1, r2) := by first | (rw [hy895]; with_reducible exact H) | (have H2_ := (Option.bind_some _ _).symm.trans H; rw [hy895]; with_reducible exact H2_) | (have H2_ := (Option.bind_some _ _).symm.trans H; with_reducible exact H2_) | with_reducible exact H | (rw [hy895]; exact H) | exact H
       have Ny895 := Aside0.mk hy895
       clear hy895
       replace H := Option.bind_eq_some_iff.mp H
       obtain ⟨t898, A60, H⟩ := H
       replace H : ((impl_parts.f k t898 (-1)).bind fun t901 => (impl_ParityOf.l0 k y895 t898 t901 (t901.length : Int) 0 l0_0 l0_1)) = some (r1, r2) := H
       have A6 := Aside0.mk A60
       clear A60
       replace H := Option.bind_eq_some_iff.mp H
       obtain ⟨t901, A70, H⟩ := H
       replace H : (impl_ParityOf.l0 k y895 t898 t901 (t901.length : Int) 0 l0_0 l0_1) = some (r1, r2) := H
       have A7 := Aside0.mk A70
       clear A70
       have H' := Aside0.mk H
       clear H
       go_enter Try.func34, Try.ntmps34
       try go_wp2_with (first | ((with_reducible refine gate_dst (N := 1) rfl ?_); refine zb (w := w) 1 #[.slice A0_0 l0_0.length c0_0, .slice A0_1 l0_1.length c0_1] 28 zB ?_; clear HB; intro gb893 w8 HB BK893 GW893; have GE893 := GW893; have hcz9_0 := zy BK893 0; have hcz9_1 := zy BK893 1; have hfz9_0 := blk_frozen BK893.out 0; have hfz9_1 := blk_frozen BK893.out 1) | ((with_reducible refine gate_callee (f := 58) rfl ?_); refine zc 14 Try.func58 #[.agg #[.slice A0_0 l0_0.length c0_0, .slice A0_1 l0_1.length c0_1]] ?_; (with_reducible refine (impl_IsSpace.calls k _ _ l0_0 _ _ l0_1 true _ ?side1 ?side2 ?side3 ?side4 A2.out).mono ?_); (case side1 => exact zC (Kd.C_below HR0_0.out HB.out)); (case side2 => exact HC0_0.out); (case side3 => exact zC (Kd.C_below HR0_1.out HB.out)); (case side4 => exact HC0_1.out); rintro e w10 ⟨rfl, hb⟩; refine ⟨_, rfl, ?_⟩; replace BK893 := zM (blk_below (g := gb893) (o := .cells #[.slice A0_0 l0_0.length c0_0, .slice A0_1 l0_1.length c0_1] 28 (0, 0)) (zK BK893.out) hb); replace HB := zM (below_step zB hb); (try clear hb); (try clear hb2); (try clear hk); (try clear hi)))
       replace BK893 := zM (blk_drew BK893.out)
       replace HB := zM (below_drew1 HB.out)
       refine zs (n := 8) (fun w' => w'.cell? ⟨gb893, 0, none⟩ = some (.slice A0_0 l0_0.length c0_0) ∧ w'.cell? ⟨gb893, 1, none⟩ = some (.slice A0_1 l0_1.length c0_1)) ⟨(blk_cell BK893.out 0).trans rfl, (blk_cell BK893.out 1).trans rfl⟩ (fun hHeld => ?_); refine with_tabW impl_ParityOf.tab3 impl_ParityOf.bits3 (fun HT_ HW_ => ?_)
       generalize w10.drew = w11 at BK893 HB hHeld ⊢
       refine zp HT_ 0 16 ?_
       refine zt HT_ HW_ 1 17 hHeld ?_ (hy := by rintro w' ⟨s0, s1⟩; go_simp; with_reducible rfl)
       refine zp HT_ 2 18 ?_
       refine zt HT_ HW_ 4 20 hHeld ?_ (hy := by rintro w' ⟨s0, s1⟩; go_simp; with_reducible rfl)
       refine join_ (σ := Value × Value) 2 #[true, true, true, true, true, true, false, false] (fun s_ => [(19, s_.1), (21, s_.2)]) (fun s_ w' => (w'.cell? ⟨gb893, 0, none⟩ = some (.slice A0_0 l0_0.length c0_0) ∧ w'.cell? ⟨gb893, 1, none⟩ = some (.slice A0_1 l0_1.length c0_1)) ∧ (Kd.R (Kd.int .i64) 3 w' w.heap.size (fun _ => True) s_.1 y895) ∧ (Kd.S (Kd.slice 3 (Kd.int .i64)) 26 w' w.heap.size (fun k_ => some k_ ≠ (s_.1 : Value).ownBlock) s_.2 t898) ∧ (w'.heap[gb893]? = some (.cells #[.slice A0_0 l0_0.length c0_0, .slice A0_1 l0_1.length c0_1] 28 (0, 0))) ∧ (Below w.heap.size w w')) ?_ ?_
       rotate_left
       · intro hCont
         refine two_ (i := 3) (j := 5) (Ni := some 19) (Nj := some 21) #[true, true, true, true, true, false, false, false] #[true, true, true, false, true, true, false, false] rfl rfl rfl rfl (two_of HT_.out (by kernel_rfl)) (by decide) (by decide) (fun K hK => ?_) (fun K hK => ?_)
         · skip
           refine Kd.R_make_step (Kd.int .i64) _ 3 (by rfl) (N := 19) rfl 26 _ _ rfl (l0_0.length : Int) rfl rfl Try.underlying26 (.int .i64 0) 8 info3 rfl (by decide) (by omega) 0 (ok := fun _ => True) (okp := fun _ => True) rfl (fun _ hk => hk) trivial (of_decide_eq_true zA) (Nat.le_trans (Nat.mul_le_mul_right _ (of_decide_eq_true zA : (l0_0.length : Int).toNat ≤ 35184372088832)) (by omega)) (Below.refl _ _) (Nat.le_refl _) ?_
           intro v896 w12 ho13 hb hg_ hnew_
           clear hg_ hnew_
           (first | rw [← Ny895.out] at ho13 | (simp only [Int.reduceToNat] at ho13; rw [← Ny895.out] at ho13))
           have HO897 := zM (Kd.R_lower ho13 (below_size zB))
           replace BK893 := zM (blk_below (g := gb893) (o := .cells #[.slice A0_0 l0_0.length c0_0, .slice A0_1 l0_1.length c0_1] 28 (0, 0)) (zK BK893.out) hb)
           replace HB := zM (below_step zB hb)
           clear hb ho13
           refine hK.out _ _ ⟨(blk_cell BK893.out 0).trans rfl, (blk_cell BK893.out 1).trans rfl⟩ (fun hHeld => ?_)
           clear hK K
           refine zn 19 ?_
           refine zg HT_ 5 21 Try.func88 #[.agg #[.slice A0_0 l0_0.length c0_0, .slice A0_1 l0_1.length c0_1]] (fun K hK => ?_)
           with_reducible refine (impl_Space_roads.calls k _ _ l0_0 _ _ l0_1 t898 _ ?side1 ?side2 ?side3 ?side4 A6.out).mono ?_
           (case side1 => exact zC (Kd.C_below HR0_0.out HB.out))
           (case side2 => exact HC0_0.out)
           (case side3 => exact zC (Kd.C_below HR0_1.out HB.out))
           (case side4 => exact HC0_1.out)
           rintro e w14 ⟨v899, rfl, ho0, hb⟩
           refine ⟨_, rfl, ?_⟩
           have HO900 := zM (Kd.S_lower (Kd.S_new' ho0 (Kd.R_lt (zR HO897.out))) (below_size zB))
           replace HO897 := zM (Kd.R_below (zR HO897.out) hb)
           replace BK893 := zM (blk_below (g := gb893) (o := .cells #[.slice A0_0 l0_0.length c0_0, .slice A0_1 l0_1.length c0_1] 28 (0, 0)) (zK BK893.out) hb)
           replace HB := zM (below_step zB hb)
           (try clear hb)
           (try clear hb2)
           (try clear hk)
           (try clear hi)
           (try clear ho0)
           refine hK.out _ _ ⟨(blk_cell BK893.out 0).trans rfl, (blk_cell BK893.out 1).trans rfl⟩ (fun hHeld => ?_)
           clear hK K
           refine zn 21 ?_
           exact norm_ (by simp only [putAll, Act.put, List.setIfInBounds_toArray, List.set_cons_zero, List.set_cons_succ]) (hCont (v896, v899) _ ⟨hHeld, (zR HO897.out), (by (with_reducible repeat (first | apply Kd.S_alloc | apply Kd.S_drewN | apply Kd.S_drew)); exact Kd.S_mono HO900.out (fun _ hk => hk.2)), (zK BK893.out), zB⟩)
         · skip
           refine goes_ Try.func88 (by kernel_rfl) rfl #[.agg #[.slice A0_0 l0_0.length c0_0, .slice A0_1 l0_1.length c0_1]] (by rfl) rfl rfl (by (try simp only [List.map_toArray, List.map_cons, List.map_nil]); first | done | rfl | (simp only [List.length_drop, List.length_take]; rfl)) ?_
           with_reducible refine (impl_Space_roads.calls k _ _ l0_0 _ _ l0_1 t898 _ ?side1 ?side2 ?side3 ?side4 A6.out).mono ?_
           (case side1 => exact zC (Kd.C_below HR0_0.out HB.out))
           (case side2 => exact HC0_0.out)
           (case side3 => exact zC (Kd.C_below HR0_1.out HB.out))
           (case side4 => exact HC0_1.out)
           rintro e w12 ⟨v899, rfl, ho0, hb⟩
           refine ⟨_, rfl, ?_⟩
           have HO900 := zM (Kd.S_lower ho0 (below_size zB))
           replace BK893 := zM (blk_below (g := gb893) (o := .cells #[.slice A0_0 l0_0.length c0_0, .slice A0_1 l0_1.length c0_1] 28 (0, 0)) (zK BK893.out) hb)
           replace HB := zM (below_step zB hb)
           (try clear hb)
           (try clear hb2)
           (try clear hk)
           (try clear hi)
           (try clear ho0)
           refine hK.out _ _ ⟨(blk_cell BK893.out 0).trans rfl, (blk_cell BK893.out 1).trans rfl⟩ (fun hHeld => ?_)
           clear hK K
           refine zn 21 ?_
           refine one_ (i := 3) (N := some 19) #[true, true, true, true, true, true, false, false] rfl rfl (one_of HT_.out (by kernel_rfl)) (by decide) (fun K hK => ?_)
           refine Kd.R_make_step (Kd.int .i64) _ 3 (by rfl) (N := 19) rfl 26 _ _ rfl (l0_0.length : Int) rfl rfl Try.underlying26 (.int .i64 0) 8 info3 rfl (by decide) (by omega) 0 (ok := fun _ => True) (okp := fun _ => True) rfl (fun _ hk => hk) trivial (of_decide_eq_true zA) (Nat.le_trans (Nat.mul_le_mul_right _ (of_decide_eq_true zA : (l0_0.length : Int).toNat ≤ 35184372088832)) (by omega)) (Below.refl _ _) (Nat.le_refl _) ?_
           intro v896 w13 ho14 hb hg_ hnew_
           clear hg_ hnew_
           (first | rw [← Ny895.out] at ho14 | (simp only [Int.reduceToNat] at ho14; rw [← Ny895.out] at ho14))
           replace HO900 := zM (Kd.S_elder' (by (with_reducible repeat (first | apply Kd.S_alloc | apply Kd.S_drewN | apply Kd.S_drew)); exact HO900.out) (Kd.R_base ho14) hb)
           have HO897 := zM (Kd.R_lower ho14 (below_size zB))
           replace BK893 := zM (blk_below (g := gb893) (o := .cells #[.slice A0_0 l0_0.length c0_0, .slice A0_1 l0_1.length c0_1] 28 (0, 0)) (zK BK893.out) hb)
           replace HB := zM (below_step zB hb)
           clear hb ho14
           refine hK.out _ _ ⟨(blk_cell BK893.out 0).trans rfl, (blk_cell BK893.out 1).trans rfl⟩ (fun hHeld => ?_)
           clear hK K
           refine zn 19 ?_
           exact norm_ (by simp only [putAll, Act.put, List.setIfInBounds_toArray, List.set_cons_zero, List.set_cons_succ]) (hCont (v896, v899) _ ⟨hHeld, (zR HO897.out), (by (with_reducible repeat (first | apply Kd.S_alloc | apply Kd.S_drewN | apply Kd.S_drew)); exact Kd.S_mono HO900.out (fun _ hk => hk.2)), (zK BK893.out), zB⟩)
       rintro ⟨v896, v899⟩ w15 ⟨hS_, h0_, h1_, h2_, h3_⟩
       have n0_ : Aside0 (Kd.R (Kd.int .i64) 3 w15 w.heap.size (fun _ => True) v896 y895) := ⟨h0_⟩
       have n1_ : Aside0 (Kd.S (Kd.slice 3 (Kd.int .i64)) 26 w15 w.heap.size (fun k_ => some k_ ≠ (v896 : Value).ownBlock) v899 t898) := ⟨h1_⟩
       have n2_ : Aside0 (w15.heap[gb893]? = some (.cells #[.slice A0_0 l0_0.length c0_0, .slice A0_1 l0_1.length c0_1] 28 (0, 0))) := ⟨h2_⟩
       have n3_ : Aside0 (Below w.heap.size w w15) := ⟨h3_⟩
       clear BK893
       clear HB
       clear h0_ h1_ h2_ h3_
       have HO897 := n0_
       have HO900 := n1_
       have BK893 := n2_
       have HB := n3_
       clear n0_ n1_ n2_ n3_
       have hHeld : w15.cell? ⟨gb893, 0, none⟩ = some (.slice A0_0 l0_0.length c0_0) ∧ w15.cell? ⟨gb893, 1, none⟩ = some (.slice A0_1 l0_1.length c0_1) := hS_
       refine norm_ (a' := ?_) ?_ ?_
       rotate_left
       · simp only [putAll, Act.put, List.setIfInBounds_toArray, List.set_cons_zero, List.set_cons_succ]
         rfl
       refine zp HT_ 6 4 ?_
       refine zp HT_ 7 5 ?_
       refine zo HT_ ?_
       obtain ⟨Ao16, co16, eo16⟩ := Kd.S_slice HO900.out
       subst eo16
       try go_wp2_with (first | ((with_reducible refine gate_callee (f := 89) rfl ?_); refine zc 23 Try.func89 #[.slice Ao16 t898.length co16, .int .i64 (-1)] ?_; (with_reducible refine (impl_parts.calls k _ _ t898 (-1) t901 _ ?side1 ?side2 A7.out).mono ?_); (case side1 => exact zC (Kd.S_reads' HO900.out).2.2); (case side2 => exact (Kd.S_reads' HO900.out).2.1); rintro e w17 ⟨v902, rfl, ho0, hb⟩; refine ⟨_, rfl, ?_⟩; have HO903 := zM (Kd.S_lower (Kd.S_new' (Kd.S_new' ho0 (Kd.R_lt (zR HO897.out))) (Kd.S_lt (by (with_reducible repeat (first | apply Kd.S_alloc | apply Kd.S_drewN | apply Kd.S_drew)); exact HO900.out))) (below_size zB)); replace HO897 := zM (Kd.R_below (zR HO897.out) hb); replace HO900 := zM (Kd.S_elder' (by (with_reducible repeat (first | apply Kd.S_alloc | apply Kd.S_drewN | apply Kd.S_drew)); exact HO900.out) (Kd.S_base ho0) hb); replace BK893 := zM (blk_below (g := gb893) (o := .cells #[.slice A0_0 l0_0.length c0_0, .slice A0_1 l0_1.length c0_1] 28 (0, 0)) (zK BK893.out) hb); replace HB := zM (below_step zB hb); (try clear hb); (try clear hb2); (try clear hk); (try clear hi); (try clear ho0); obtain ⟨Ao18, co18, eo18⟩ := Kd.S_slice HO903.out; subst eo18))
       go_loopg [25] k (fun kq v25 w' => ∃ (x4_1 : List Int) (x25_1 : Int), v25 = .int .i64 x25_1 ∧ Aside0 (impl_ParityOf.l0 kq x4_1 t898 t901 (t901.length : Int) x25_1 l0_0 l0_1 = some (r1, r2)) ∧ Aside0 (kq ≤ k) ∧ Aside0 (Kd.R (Kd.int .i64) 3 w' w.heap.size (fun _ => True) v896 x4_1) ∧ Aside0 (Kd.S (Kd.slice 3 (Kd.int .i64)) 26 w' w.heap.size (fun k_ => some k_ ≠ (v896 : Value).ownBlock ∧ some k_ ≠ ((.slice Ao18 t901.length co18) : Value).ownBlock) (.slice Ao16 t898.length co16) t898) ∧ Aside0 (Kd.S (Kd.slice 3 (Kd.int .i64)) 26 w' w.heap.size (fun k_ => some k_ ≠ (v896 : Value).ownBlock ∧ some k_ ≠ ((.slice Ao16 t898.length co16) : Value).ownBlock) (.slice Ao18 t901.length co18) t901) ∧ Aside0 (w'.heap[gb893]? = some (.cells #[(.slice A0_0 l0_0.length c0_0), (.slice A0_1 l0_1.length c0_1)] 28 (0, 0))) ∧ Aside0 (Below w.heap.size w w'))
       case atStart => exact ⟨(y895), (0), (by first | rfl | (simp; done) | (simp [*]; done)), H', ⟨Nat.le_refl _⟩, ⟨zR HO897.out⟩, ⟨by (with_reducible repeat (first | apply Kd.S_alloc | apply Kd.S_drewN | apply Kd.S_drew)); exact HO900.out⟩, ⟨by (with_reducible repeat (first | apply Kd.S_alloc | apply Kd.S_drewN | apply Kd.S_drew)); exact Kd.S_mono HO903.out (fun _ hk => ⟨hk.1.2, hk.2⟩)⟩, ⟨zK BK893.out⟩, ⟨zB⟩⟩
       case round =>
        clear H'
        try clear p2
        try clear c3
        try clear c4
        try clear c4b0
        try clear c4b1
        try clear c5
        try clear c5b0
        try clear c5b1
        try clear c8
        try clear hcz9_0
        try clear hcz9_1
        try clear hfz9_0
        try clear hfz9_1
        obtain ⟨x4_1, x25_1, rfl, HA, HK1, HO_4, HO_5, HO_23, BK893, HB⟩ := hrel
        cases gk with
        | zero => exact absurd HA.out (by simp [impl_ParityOf.l0])
        | succ k1 =>
         have H := HA.out
         clear HA
         simp only [impl_ParityOf.l0] at H
         by_cases c19 : x25_1 < (t901.length : Int)
         · rw [if_pos c19] at H
           have c19b0 := decide_eq_true c19
           clear c19
           by_cases c20 : 0 ≤ x25_1
           · rw [if_pos c20] at H
             have c20b0 := decide_eq_true c20
             clear c20
             by_cases c21 : x25_1 < (t901.length : Int)
             · rw [if_pos c21] at H
               have c21b0 := decide_eq_true c21
               clear c21
               by_cases c22 : 0 < ((rd_L4 t901 x25_1).length : Int)
               · rw [if_pos c22] at H
                 have c22b0 := decide_eq_true c22
                 have c22b1 : decide (0 < (rd_L4 t901 x25_1).length) = true := decide_eq_true (by omega)
                 clear c22
                 replace H := Option.bind_eq_some_iff.mp H
                 obtain ⟨t906, A230, H⟩ := H
                 replace H : (impl_ParityOf.l1 k1 x4_1 t898 t906 t901 (t901.length : Int) x25_1 (rd_L4 t901 x25_1) ((rd_L4 t901 x25_1).length : Int) 0 l0_0 l0_1) = some (r1, r2) := H
                 have A23 := Aside0.mk A230
                 clear A230
                 have H' := Aside0.mk H
                 clear H
                 have p904 : 0 ≤ (x25_1 : Int) := of_decide_eq_true zA
                 have q904 : x25_1 < (t901.length : Int) := of_decide_eq_true zA
                 obtain ⟨ad904, A904_0, c904_0, e904, hx904_0, hl904_0, hi904_0⟩ := at_L4 (Kd.S_reads' HO_23.out).2.2 x25_1 p904 q904
                 cases e904
                 obtain ⟨ce904, hce904, hMe904, hcc904⟩ := Kd.S_get HO_23.out [] x25_1 p904 (by first | exact q904 | exact of_decide_eq_true zA | (have e_ := (Kd.S_reads' HO_23.out).1; omega))
                 obtain ⟨ve904_0, rfl, ge904_0⟩ := hMe904
                 have hv904_0 := hcc904 0 _ rfl
                 rw [Nat.add_zero, show ((Kd.slice 3 (Kd.int .i64))).sz = 1 from rfl, Nat.mul_one] at hv904_0
                 replace hv904_0 := Option.some.inj (hv904_0.symm.trans hx904_0)
                 rw [hv904_0] at ge904_0
                 have HL904_0 := zM (show Kd.R (Kd.int .i64) 3 _ _ _ _ (rd_L4 t901 x25_1) from ge904_0)
                 clear hv904_0 ge904_0
                 clear hcc904 hce904
                 have HR904_0 := Aside0.mk hi904_0
                 have HC904_0 := Aside0.mk hl904_0
                 clear hi904_0 hl904_0
                 replace p904 := eq_true p904
                 replace q904 := eq_true q904
                 have p905 : 0 ≤ (0 : Int) := (by omega)
                 have q905 : 0 < ((rd_L4 t901 x25_1).length : Int) := of_decide_eq_true zA
                 obtain ⟨ad905, e905, hx905_0⟩ := Kd.at_int (by repeat (first | (with_reducible exact HR904_0.out) | (with_reducible refine Kd.C_alloc ?_ _) | (with_reducible refine Kd.C_drewN ?_ _) | (with_reducible refine Kd.C_drew ?_) | exact HR904_0.out)) 0 p905 q905
                 cases e905
                 have qi905 : (0 < (rd_L4 t901 x25_1).length) = True := eq_true (by omega)
                 (try rw [show ((0 : Int)).toNat = 0 from rfl] at hx905_0)
                 (try rw [Addr.add_zero'] at hx905_0)
                 replace p905 := eq_true p905
                 replace q905 := eq_true q905
                 go_wp2_with (first | ((with_reducible refine gate_callee (f := 99) rfl ?_); refine zc 33 Try.func99 #[.slice Ao16 t898.length co16, .int .i64 (rd (rd_L4 t901 x25_1) 0)] ?_; (with_reducible refine (impl_spread.calls k1 _ _ t898 (rd (rd_L4 t901 x25_1) 0) t906 _ ?side1 ?side2 A23.out).mono ?_); (case side1 => exact zC (Kd.S_reads' HO_5.out).2.2); (case side2 => exact (Kd.S_reads' HO_5.out).2.1); rintro e w24 ⟨v907, rfl, ho0, hb⟩; refine ⟨_, rfl, ?_⟩; replace HO_5 := zM (Kd.S_elder' (by (with_reducible repeat (first | apply Kd.S_alloc | apply Kd.S_drewN | apply Kd.S_drew)); exact HO_5.out) (Kd.R_base ho0) hb); replace HO_23 := zM (Kd.S_elder' (by (with_reducible repeat (first | apply Kd.S_alloc | apply Kd.S_drewN | apply Kd.S_drew)); exact HO_23.out) (Kd.R_base ho0) hb); have HO908 := zM (Kd.R_lower (Kd.R_new' (Kd.R_new' ho0 (Kd.R_lt (zR HO_4.out))) (Kd.R_lt (zR HL904_0.out))) (below_size zB)); replace HO_4 := zM (Kd.R_elder' (zR HO_4.out) (Kd.R_base ho0) hb); replace HL904_0 := zM (Kd.R_elder' (zR HL904_0.out) (Kd.R_base ho0) hb); replace BK893 := zM (blk_below (g := gb893) (o := .cells #[.slice A0_0 l0_0.length c0_0, .slice A0_1 l0_1.length c0_1] 28 (0, 0)) (zK BK893.out) hb); replace HR904_0 := zM (Kd.C_below (by repeat (first | (with_reducible exact HR904_0.out) | (with_reducible refine Kd.C_alloc ?_ _) | (with_reducible refine Kd.C_drewN ?_ _) | (with_reducible refine Kd.C_drew ?_) | exact HR904_0.out)) hb); replace HB := zM (below_step zB hb); (try clear hb); (try clear hb2); (try clear hk); (try clear hi); (try clear ho0)))
                 go_loopg [36] k1 (fun kq v36 w' => ∃ (x4_2 : List Int) (x36_2 : Int), v36 = .int .i64 x36_2 ∧ Aside0 (impl_ParityOf.l1 kq x4_2 t898 t906 t901 (t901.length : Int) x25_1 (rd_L4 t901 x25_1) ((rd_L4 t901 x25_1).length : Int) x36_2 l0_0 l0_1 = some (r1, r2)) ∧ Aside0 (kq ≤ k1) ∧ Aside0 (Kd.R (Kd.int .i64) 3 w' w.heap.size (fun k_ => some k_ ≠ (v907 : Value).ownBlock) v896 x4_2) ∧ Aside0 (Kd.S (Kd.slice 3 (Kd.int .i64)) 26 w' w.heap.size (fun k_ => some k_ ≠ (v896 : Value).ownBlock ∧ some k_ ≠ (v907 : Value).ownBlock ∧ some k_ ≠ ((.slice (some ad904) t901.length co18) : Value).ownBlock) (.slice Ao16 t898.length co16) t898) ∧ Aside0 (Kd.R (Kd.int .i64) 3 w' w.heap.size (fun k_ => some k_ ≠ (v896 : Value).ownBlock) v907 t906) ∧ Aside0 (Kd.S (Kd.slice 3 (Kd.int .i64)) 26 w' w.heap.size (fun k_ => some k_ ≠ (v896 : Value).ownBlock ∧ some k_ ≠ ((.slice Ao16 t898.length co16) : Value).ownBlock ∧ some k_ ≠ (v907 : Value).ownBlock) (.slice (some ad904) t901.length co18) t901) ∧ Aside0 (w'.heap[gb893]? = some (.cells #[(.slice A0_0 l0_0.length c0_0), (.slice A0_1 l0_1.length c0_1)] 28 (0, 0))) ∧ Aside0 (Below w.heap.size w w') ∧ Aside0 (Kd.R (Kd.int .i64) 3 w' w.heap.size (fun k_ => some k_ ≠ (v896 : Value).ownBlock) (.slice (some ad905) (rd_L4 t901 x25_1).length c904_0) (rd_L4 t901 x25_1)))
                 case atStart => exact ⟨(x4_1), (0), (by first | rfl | (simp; done) | (simp [*]; done)), H', ⟨Nat.le_refl _⟩, ⟨by (with_reducible repeat (first | apply Kd.R_alloc | apply Kd.R_drewN | apply Kd.R_drew)); exact Kd.R_mono HO_4.out (fun _ hk => hk.2)⟩, ⟨by (with_reducible repeat (first | apply Kd.S_alloc | apply Kd.S_drewN | apply Kd.S_drew)); exact Kd.S_mono HO_5.out (fun _ hk => ⟨hk.1.1, ⟨hk.2, hk.1.2⟩⟩)⟩, ⟨by (with_reducible repeat (first | apply Kd.R_alloc | apply Kd.R_drewN | apply Kd.R_drew)); exact Kd.R_mono HO908.out (fun _ hk => hk.1.2)⟩, ⟨by (with_reducible repeat (first | apply Kd.S_alloc | apply Kd.S_drewN | apply Kd.S_drew)); exact Kd.S_mono HO_23.out (fun _ hk => ⟨hk.1.1, ⟨hk.1.2, hk.2⟩⟩)⟩, ⟨zK BK893.out⟩, ⟨zB⟩, ⟨by (with_reducible repeat (first | apply Kd.R_alloc | apply Kd.R_drewN | apply Kd.R_drew)); exact Kd.R_mono HL904_0.out (fun _ hk => hk.1.1.1)⟩⟩
                 case round =>
                  clear H'
                  try clear c1
                  try clear c2
                  try clear p2
                  try clear c3
                  try clear c4
                  try clear c4b0
                  try clear c4b1
                  try clear c5
                  try clear c5b0
                  try clear c5b1
                  try clear c8
                  try clear c9
                  try clear p9
                  try clear q9
                  try clear hx9
                  try clear qi9
                  try clear c19
                  try clear c19b0
                  try clear c20
                  try clear c20b0
                  try clear c21
                  try clear c21b0
                  try clear c22
                  try clear c22b0
                  try clear c22b1
                  try clear hcz9_0
                  try clear hcz9_1
                  try clear hfz9_0
                  try clear hfz9_1
                  try clear hx904_0
                  try clear hx905_0
                  try clear p2
                  try clear p904
                  try clear p905
                  try clear q904
                  try clear q905
                  obtain ⟨x4_2, x36_2, rfl, HA, HK2, HO_4, HO_5, HO_8, HO_23, BK893, HB, HLR_⟩ := hrel
                  cases gk with
                  | zero => exact absurd HA.out (by simp [impl_ParityOf.l1])
                  | succ k2 =>
                   have H := HA.out
                   clear HA
                   simp only [impl_ParityOf.l1] at H
                   by_cases c25 : x36_2 < ((rd_L4 t901 x25_1).length : Int)
                   · rw [if_pos c25] at H
                     have c25b0 := decide_eq_true c25
                     clear c25
                     by_cases c26 : 0 ≤ x36_2
                     · rw [if_pos c26] at H
                       have c26b0 := decide_eq_true c26
                       clear c26
                       by_cases c27 : x36_2 < ((rd_L4 t901 x25_1).length : Int)
                       · rw [if_pos c27] at H
                         have c27b0 := decide_eq_true c27
                         clear c27
                         by_cases c28 : 0 ≤ (rd (rd_L4 t901 x25_1) x36_2)
                         · rw [if_pos c28] at H
                           have c28b0 := decide_eq_true c28
                           clear c28
                           by_cases c29 : (rd (rd_L4 t901 x25_1) x36_2) < (t906.length : Int)
                           · rw [if_pos c29] at H
                             have c29b0 := decide_eq_true c29
                             clear c29
                             by_cases c30 : (rd (rd_L4 t901 x25_1) x36_2) < (x4_2.length : Int)
                             · rw [if_pos c30] at H
                               have c30b0 := decide_eq_true c30
                               clear c30
                               obtain ⟨y911, hy911⟩ : ∃ y_ : List Int, y_ = (x4_2.set ((rd (rd_L4 t901 x25_1) x36_2) : Int).toNat (Int.tmod (rd t906 (rd (rd_L4 t901 x25_1) x36_2)) 2)) := ⟨_, rfl⟩
                               replace H : (impl_ParityOf.l1 k2 y911 t898 t906 t901 (t901.length : Int) x25_1 (rd_L4 t901 x25_1) ((rd_L4 t901 x25_1).length : Int) (wrap64 (x36_2 + 1)) l0_0 l0_1) = some (r1, r2) := by first | (rw [hy911]; with_reducible exact H) | (have H2_ := (Option.bind_some _ _).symm.trans H; rw [hy911]; with_reducible exact H2_) | (have H2_ := (Option.bind_some _ _).symm.trans H; with_reducible exact H2_) | with_reducible exact H | (rw [hy911]; exact H) | exact H
                               have Ny911 := Aside0.mk hy911
                               clear hy911
                               have H' := Aside0.mk H
                               clear H
                               have p909 : 0 ≤ (x36_2 : Int) := of_decide_eq_true zA
                               have q909 : x36_2 < ((rd_L4 t901 x25_1).length : Int) := of_decide_eq_true zA
                               obtain ⟨ad909, e909, hx909_0⟩ := Kd.at_int (Kd.R_reads' HLR_.out).2.2 x36_2 p909 q909
                               obtain rfl : ad905 = ad909 := (by injection e909)
                               (try replace hx909_0 := (HB.out.cell (World.block_lt_of_cell? w _ hx909_0)).trans hx909_0)
                               replace p909 := eq_true p909
                               replace q909 := eq_true q909
                               obtain ⟨Ao32, co32, eo32⟩ := Kd.R_slice HO_8.out
                               subst eo32
                               have p910 : 0 ≤ ((rd (rd_L4 t901 x25_1) x36_2) : Int) := of_decide_eq_true zA
                               have q910 : (rd (rd_L4 t901 x25_1) x36_2) < (t906.length : Int) := of_decide_eq_true zA
                               obtain ⟨ad910, e910, hx910_0⟩ := Kd.at_int (Kd.R_reads' HO_8.out).2.2 (rd (rd_L4 t901 x25_1) x36_2) p910 q910
                               cases e910
                               replace p910 := eq_true p910
                               replace q910 := eq_true q910
                               have p31 : 0 ≤ ((rd (rd_L4 t901 x25_1) x36_2) : Int) := of_decide_eq_true zA
                               have q31 : ((rd (rd_L4 t901 x25_1) x36_2) : Int) < ((x4_2.length : Int) : Int) := of_decide_eq_true zA
                               obtain ⟨go31, co31, eo31, gb31, gl31, cl31, HG31⟩ := Kd.R_form HO_4.out (by omega)
                               (first | cases eo31 | (injection eo31 with ea_ en_ ec_; (first | subst ea_ | (injection ea_ with ea_; subst ea_)); subst ec_; clear en_))
                               have GB31 := Aside0.mk gb31
                               have GG31 := Aside0.mk HG31
                               clear gb31 gl31 HG31
                               obtain ⟨hx31_0, hf31_0⟩ := Kd.R_celln 0 HO_4.out ((rd (rd_L4 t901 x25_1) x36_2) : Int) p31 q31
                               replace p31 := eq_true p31
                               replace q31 := eq_true q31
                               have HP33 := Kd.R_putg HO_4.out ((rd (rd_L4 t901 x25_1) x36_2) : Int) (Int.tmod (rd t906 (rd (rd_L4 t901 x25_1) x36_2)) 2)
                               go_wp2_with (first | ((with_reducible refine gate_store (t := 3) (p := 47) rfl ?_); refine store_event (t := 3) (p := 47) (v := ?vo_w34) (w1 := (wr.setCell ⟨go31, ((rd (rd_L4 t901 x25_1) x36_2) : Int).toNat, none⟩ (.int .i64 (Int.tmod (rd t906 (rd (rd_L4 t901 x25_1) x36_2)) 2)))) ?hg ?ho ?hn ?hr ?_; (case ho => rfl); (case hg => rfl); (case hn => rfl); (case hr => first | (go_simp; done) | (go_simp; rfl)); intro w34 hw; have hg : wr.grownBy w34 (some go31) := (by rw [hw]; exact HP33.2); have hp_ : Kd.R (Kd.int .i64) 3 w34 w.heap.size (fun k_ => some k_ ≠ (.slice (some ad910) t906.length co32 : Value).ownBlock) (.slice (some ⟨go31, 0, none⟩) x4_2.length co31) y911 := (by rw [hw, Ny911.out]; exact HP33.1); clear HP33; replace HO_5 := zM (Kd.S_after (v := (.slice (some ⟨go31, 0, none⟩) x4_2.length co31)) (v1 := (.slice (some ⟨go31, 0, none⟩) x4_2.length co31)) (ok := (fun k_ => some k_ ≠ (.slice (some ad910) t906.length co32 : Value).ownBlock ∧ some k_ ≠ (.slice (some ad904) t901.length co18 : Value).ownBlock)) (by (with_reducible repeat (first | apply Kd.S_alloc | apply Kd.S_drewN | apply Kd.S_drew)); exact Kd.S_mono HO_5.out (fun _ hk => ⟨⟨hk.2.1, hk.2.2⟩, hk.1⟩)) hg (.inl rfl)); replace HO_8 := zM (Kd.R_after (v := (.slice (some ⟨go31, 0, none⟩) x4_2.length co31)) (v1 := (.slice (some ⟨go31, 0, none⟩) x4_2.length co31)) (ok := (fun _ => True)) (by (with_reducible repeat (first | apply Kd.R_alloc | apply Kd.R_drewN | apply Kd.R_drew)); exact Kd.R_mono HO_8.out (fun _ hk => ⟨trivial, hk⟩)) hg (.inl rfl)); replace HO_23 := zM (Kd.S_after (v := (.slice (some ⟨go31, 0, none⟩) x4_2.length co31)) (v1 := (.slice (some ⟨go31, 0, none⟩) x4_2.length co31)) (ok := (fun k_ => some k_ ≠ (.slice Ao16 t898.length co16 : Value).ownBlock ∧ some k_ ≠ (.slice (some ad910) t906.length co32 : Value).ownBlock)) (by (with_reducible repeat (first | apply Kd.S_alloc | apply Kd.S_drewN | apply Kd.S_drew)); exact Kd.S_mono HO_23.out (fun _ hk => ⟨⟨hk.2.1, hk.2.2⟩, hk.1⟩)) hg (.inl rfl)); replace BK893 := zM (blk_grown (g := gb893) (o := .cells #[.slice A0_0 l0_0.length c0_0, .slice A0_1 l0_1.length c0_1] 28 (0, 0)) (zK BK893.out) hg (Kd.R_ne HO_4.out BK893.out (by decide))); replace HLR_ := zM (Kd.R_grown (zR HLR_.out) hg (fun _ hk => hk)); replace HO_4 := zM (hp_); replace HB := zM ((by rw [hw]; exact below_set (HB.out) GB31.out : Below w.heap.size w w34)); clear hg hw hp_))
                               go_roundg k2
                               case measure => have := HK1.out; have := HK2.out; omega
                               case rel => exact ⟨(y911), (wrap64 (x36_2 + 1)), (by first | rfl | (simp; done) | (simp [*]; done)), H', ⟨by have := HK1.out; have := HK2.out; omega⟩, ⟨zR HO_4.out⟩, ⟨by (with_reducible repeat (first | apply Kd.S_alloc | apply Kd.S_drewN | apply Kd.S_drew)); exact Kd.S_mono HO_5.out (fun _ hk => ⟨hk.2, ⟨hk.1.1, hk.1.2⟩⟩)⟩, ⟨by (with_reducible repeat (first | apply Kd.R_alloc | apply Kd.R_drewN | apply Kd.R_drew)); exact Kd.R_mono HO_8.out (fun _ hk => hk.2)⟩, ⟨by (with_reducible repeat (first | apply Kd.S_alloc | apply Kd.S_drewN | apply Kd.S_drew)); exact Kd.S_mono HO_23.out (fun _ hk => ⟨hk.2, ⟨hk.1.1, hk.1.2⟩⟩)⟩, ⟨zK BK893.out⟩, ⟨zB⟩, ⟨zR HLR_.out⟩⟩
                             · rw [if_neg c30] at H
                               exact absurd H (by simp)
                           · rw [if_neg c29] at H
                             exact absurd H (by simp)
                         · rw [if_neg c28] at H
                           exact absurd H (by simp)
                       · rw [if_neg c27] at H
                         exact absurd H (by simp)
                     · rw [if_neg c26] at H
                       exact absurd H (by simp)
                   · rw [if_neg c25] at H
                     have c25b0 : decide (x36_2 < ((rd_L4 t901 x25_1).length : Int)) = false := decide_eq_false c25
                     clear c25
                     have H' := Aside0.mk H
                     clear H
                     go_wp2
                     go_roundg k2
                     case measure => have := HK1.out; have := HK2.out; omega
                     case rel => exact ⟨(x4_2), (wrap64 (x25_1 + 1)), (by first | rfl | (simp; done) | (simp [*]; done)), H', ⟨by have := HK1.out; have := HK2.out; omega⟩, ⟨by (with_reducible repeat (first | apply Kd.R_alloc | apply Kd.R_drewN | apply Kd.R_drew)); exact Kd.R_mono HO_4.out (fun _ hk => trivial)⟩, ⟨by (with_reducible repeat (first | apply Kd.S_alloc | apply Kd.S_drewN | apply Kd.S_drew)); exact Kd.S_mono HO_5.out (fun _ hk => ⟨hk.1, hk.2.2⟩)⟩, ⟨by (with_reducible repeat (first | apply Kd.S_alloc | apply Kd.S_drewN | apply Kd.S_drew)); exact Kd.S_mono HO_23.out (fun _ hk => ⟨hk.1, hk.2.1⟩)⟩, ⟨zK BK893.out⟩, ⟨zB⟩⟩
               · rw [if_neg c22] at H
                 exact absurd H (by simp)
             · rw [if_neg c21] at H
               exact absurd H (by simp)
           · rw [if_neg c20] at H
             exact absurd H (by simp)
         · rw [if_neg c19] at H
           have c19b0 : decide (x25_1 < (t901.length : Int)) = false := decide_eq_false c19
           clear c19
           have H' := Aside0.mk H
           clear H
           have hcz35_0 := zy BK893 0
           have hcz35_1 := zy BK893 1
           have hfz35_0 := blk_frozen BK893.out 0
           have hfz35_1 := blk_frozen BK893.out 1
           go_wp2
           go_loopg [53] k1 (fun kq v53 w' => ∃ (x53_2 : Int), v53 = .int .i64 x53_2 ∧ Aside0 (impl_ParityOf.l2 kq x4_1 l0_1 (l0_1.length : Int) x53_2 = some (r1, r2)) ∧ Aside0 (kq ≤ k1) ∧ Aside0 (Kd.R (Kd.int .i64) 3 w' w.heap.size (fun _ => True) v896 x4_1) ∧ Aside0 (w'.heap[gb893]? = some (.cells #[(.slice A0_0 l0_0.length c0_0), (.slice A0_1 l0_1.length c0_1)] 28 (0, 0))) ∧ Aside0 (Below w.heap.size w w'))
           case atStart => exact ⟨(0), (by first | rfl | (simp; done) | (simp [*]; done)), H', ⟨Nat.le_refl _⟩, ⟨zR HO_4.out⟩, ⟨zK BK893.out⟩, ⟨zB⟩⟩
           case round =>
            clear H'
            try clear c1
            try clear c2
            try clear p2
            try clear c3
            try clear p3
            try clear q3
            try clear hx3
            try clear hf3
            try clear c4
            try clear c4b0
            try clear c4b1
            try clear c5
            try clear c5b0
            try clear c5b1
            try clear p6
            try clear c8
            try clear c9
            try clear p9
            try clear q9
            try clear hx9
            try clear qi9
            try clear c19
            try clear c19b0
            try clear c20
            try clear c20b0
            try clear c21
            try clear c21b0
            try clear c22
            try clear c22b0
            try clear c22b1
            try clear c25
            try clear c25b0
            try clear c26
            try clear c26b0
            try clear c27
            try clear c27b0
            try clear c28
            try clear c28b0
            try clear c29
            try clear c29b0
            try clear c30
            try clear c30b0
            try clear p31
            try clear q31
            try clear hx31
            try clear hf31
            try clear c34
            try clear hcz35_0
            try clear hcz35_1
            try clear hcz9_0
            try clear hcz9_1
            try clear hfz35_0
            try clear hfz35_1
            try clear hfz9_0
            try clear hfz9_1
            try clear hx31_0
            try clear hx904_0
            try clear hx905_0
            try clear hx909_0
            try clear hx910_0
            try clear p2
            try clear p31
            try clear p9
            try clear p904
            try clear p905
            try clear p909
            try clear p910
            try clear q31
            try clear q9
            try clear q904
            try clear q905
            try clear q909
            try clear q910
            obtain ⟨x53_2, rfl, HA, HK2, HO_4, BK893, HB⟩ := hrel
            cases gk with
            | zero => exact absurd HA.out (by simp [impl_ParityOf.l2])
            | succ k2 =>
             have H := HA.out
             clear HA
             simp only [impl_ParityOf.l2] at H
             by_cases c36 : x53_2 < (l0_1.length : Int)
             · rw [if_pos c36] at H
               have c36b0 := decide_eq_true c36
               clear c36
               by_cases c37 : 0 ≤ x53_2
               · rw [if_pos c37] at H
                 have c37b0 := decide_eq_true c37
                 clear c37
                 by_cases c38 : x53_2 < (l0_1.length : Int)
                 · rw [if_pos c38] at H
                   have c38b0 := decide_eq_true c38
                   clear c38
                   by_cases c39 : 0 ≤ ((rd_T64 l0_1 x53_2).f0)
                   · rw [if_pos c39] at H
                     have c39b0 := decide_eq_true c39
                     clear c39
                     by_cases c40 : ((rd_T64 l0_1 x53_2).f0) < (x4_1.length : Int)
                     · rw [if_pos c40] at H
                       have c40b0 := decide_eq_true c40
                       clear c40
                       by_cases c41 : 0 ≤ ((rd_T64 l0_1 x53_2).f1)
                       · rw [if_pos c41] at H
                         have c41b0 := decide_eq_true c41
                         clear c41
                         by_cases c42 : ((rd_T64 l0_1 x53_2).f1) < (x4_1.length : Int)
                         · rw [if_pos c42] at H
                           have c42b0 := decide_eq_true c42
                           clear c42
                           by_cases c43 : (rd x4_1 ((rd_T64 l0_1 x53_2).f0)) = (rd x4_1 ((rd_T64 l0_1 x53_2).f1))
                           · rw [if_pos c43] at H
                             have c43b0 : ((rd x4_1 ((rd_T64 l0_1 x53_2).f0)) == (rd x4_1 ((rd_T64 l0_1 x53_2).f1))) = true := beq_iff_eq.mpr c43
                             have c43b1 : ((rd x4_1 ((rd_T64 l0_1 x53_2).f0)) != (rd x4_1 ((rd_T64 l0_1 x53_2).f1))) = false := bne_eq_false_iff_eq.mpr c43
                             clear c43
                             simp only [Option.some.injEq, Prod.mk.injEq] at H
                             obtain ⟨rfl, rfl⟩ := H
                             have p912 : 0 ≤ (x53_2 : Int) := of_decide_eq_true zA
                             have q912 : x53_2 < (l0_1.length : Int) := of_decide_eq_true zA
                             obtain ⟨ad912, e912, hx912_0, hx912_1⟩ := at_T64 HR0_1.out x53_2 p912 q912
                             cases e912
                             (try replace hx912_0 := (HB.out.cell (World.block_lt_of_cell? w _ hx912_0)).trans hx912_0)
                             (try replace hx912_1 := (HB.out.cell (World.block_lt_of_cell? w _ hx912_1)).trans hx912_1)
                             replace p912 := eq_true p912
                             replace q912 := eq_true q912
                             try go_wp2_with (first | ((with_reducible refine gate_dst (N := 12) rfl ?_); refine ze 12 #[.int .i64 0, .int .i64 0] 64 ?_; intro gb913 hg w44 hbox hb; replace HO_4 := zM (Kd.R_below (zR HO_4.out) hb); have BK913 := zM (hbox); have GW913 := zM ((by rw [hg]; exact (below_size zB) : w.heap.size ≤ gb913)); have GE913 := zM ((by rw [hg]; exact (below_size zB) : w.heap.size ≤ gb913)); replace HB := zM (below_step zB hb); have NB893_913 := zM ((by rw [hg]; exact Nat.ne_of_lt (blk_lt (g := gb893) (o := .cells #[.slice A0_0 l0_0.length c0_0, .slice (some ad912) l0_1.length c0_1] 28 (0, 0)) (zK BK893.out)) : gb893 ≠ gb913)); have NB913_893 := zM ((by rw [hg]; exact Nat.ne_of_gt (blk_lt (g := gb893) (o := .cells #[.slice A0_0 l0_0.length c0_0, .slice (some ad912) l0_1.length c0_1] 28 (0, 0)) (zK BK893.out)) : gb913 ≠ gb893)); replace BK893 := zM (blk_below (g := gb893) (o := .cells #[.slice A0_0 l0_0.length c0_0, .slice (some ad912) l0_1.length c0_1] 28 (0, 0)) (zK BK893.out) hb); clear hb hbox hg; have hnb45 := NB913_893.out; have hnc45 := NB893_913.out; have hcz46_0 := zy BK913 0; have hcz46_1 := zy BK913 1; have hfz46_0 := blk_frozen BK913.out 0; have hfz46_1 := blk_frozen BK913.out 1))
                             have n0_ : Aside0 (Kd.R (Kd.int .i64) 3 ((w44.setCell ⟨gb913, 0, none⟩ (.int .i64 ((rd_T64 l0_1 x53_2).f0))).setCell ⟨gb913, 1, none⟩ (.int .i64 ((rd_T64 l0_1 x53_2).f1))) w.heap.size (fun _ => True) v896 x4_1) := ⟨by (with_reducible repeat (first | apply Kd.R_alloc | apply Kd.R_drewN | apply Kd.R_drew)); exact Kd.R_mono (Kd.R_far (p := ⟨gb913, 1, none⟩) (Kd.R_far (p := ⟨gb913, 0, none⟩) (Kd.R_types HO_4.out BK913.out (by decide)) (fun _ hk => hk.2) (.int .i64 ((rd_T64 l0_1 x53_2).f0))) (fun _ hk => hk.2) (.int .i64 ((rd_T64 l0_1 x53_2).f1))) (fun _ hk => trivial)⟩
                             have n1_ : Aside0 (((w44.setCell ⟨gb913, 0, none⟩ (.int .i64 ((rd_T64 l0_1 x53_2).f0))).setCell ⟨gb913, 1, none⟩ (.int .i64 ((rd_T64 l0_1 x53_2).f1))).heap[gb893]? = some (.cells #[.slice A0_0 l0_0.length c0_0, .slice (some ad912) l0_1.length c0_1] 28 (0, 0))) := ⟨by (with_reducible repeat (first | refine blk_drewN ?_ _ | refine blk_drew ?_ | refine blk_alloc ?_ _)); refine blk_far ?_ NB893_913.out _; (with_reducible repeat (first | refine blk_drewN ?_ _ | refine blk_drew ?_ | refine blk_alloc ?_ _)); refine blk_far ?_ NB893_913.out _; (with_reducible repeat (first | refine blk_drewN ?_ _ | refine blk_drew ?_ | refine blk_alloc ?_ _)); exact BK893.out⟩
                             have n2_ : Aside0 (((w44.setCell ⟨gb913, 0, none⟩ (.int .i64 ((rd_T64 l0_1 x53_2).f0))).setCell ⟨gb913, 1, none⟩ (.int .i64 ((rd_T64 l0_1 x53_2).f1))).heap[gb913]? = some (.cells #[.int .i64 ((rd_T64 l0_1 x53_2).f0), .int .i64 ((rd_T64 l0_1 x53_2).f1)] 64 (0, 0))) := ⟨by (with_reducible repeat (first | refine blk_drewN ?_ _ | refine blk_drew ?_ | refine blk_alloc ?_ _)); refine blk_put (cs := #[.int .i64 ((rd_T64 l0_1 x53_2).f0), .int .i64 0]) ?_ 1 _ rfl; (with_reducible repeat (first | refine blk_drewN ?_ _ | refine blk_drew ?_ | refine blk_alloc ?_ _)); refine blk_put (cs := #[.int .i64 0, .int .i64 0]) ?_ 0 _ rfl; (with_reducible repeat (first | refine blk_drewN ?_ _ | refine blk_drew ?_ | refine blk_alloc ?_ _)); exact BK913.out⟩
                             have n3_ : Aside0 (Below w.heap.size w ((w44.setCell ⟨gb913, 0, none⟩ (.int .i64 ((rd_T64 l0_1 x53_2).f0))).setCell ⟨gb913, 1, none⟩ (.int .i64 ((rd_T64 l0_1 x53_2).f1)))) := ⟨zB⟩
                             (try clear HO_4)
                             (try clear BK893)
                             (try clear BK913)
                             (try clear HB)
                             generalize ((w44.setCell ⟨gb913, 0, none⟩ (.int .i64 ((rd_T64 l0_1 x53_2).f0))).setCell ⟨gb913, 1, none⟩ (.int .i64 ((rd_T64 l0_1 x53_2).f1))) = w47 at n0_ n1_ n2_ n3_ ⊢
                             have HO_4 := n0_
                             have BK893 := n1_
                             have BK913 := n2_
                             have HB := n3_
                             clear n0_ n1_ n2_ n3_
                             replace HO_4 := zM (Kd.R_drew HO_4.out)
                             replace BK893 := zM (blk_drew BK893.out)
                             replace BK913 := zM (blk_drew BK913.out)
                             replace HB := zM (below_drew1 HB.out)
                             obtain ⟨Ao49, co49, eo49⟩ := Kd.R_slice HO_4.out
                             (first | subst eo49 | (injection eo49 with f1_ f2_ f3_; have f4_ := f1_.symm; have f5_ := f3_.symm; clear f1_ f2_ f3_; subst f4_; subst f5_))
                             have p914 : 0 ≤ (((rd_T64 l0_1 x53_2).f0) : Int) := of_decide_eq_true zA
                             have q914 : ((rd_T64 l0_1 x53_2).f0) < (x4_1.length : Int) := of_decide_eq_true zA
                             obtain ⟨ad914, e914, hx914_0⟩ := Kd.at_int (Kd.R_reads' HO_4.out).2.2 ((rd_T64 l0_1 x53_2).f0) p914 q914
                             cases e914
                             replace p914 := eq_true p914
                             replace q914 := eq_true q914
                             have p915 : 0 ≤ (((rd_T64 l0_1 x53_2).f1) : Int) := of_decide_eq_true zA
                             have q915 : ((rd_T64 l0_1 x53_2).f1) < (x4_1.length : Int) := of_decide_eq_true zA
                             obtain ⟨ad915, e915, hx915_0⟩ := Kd.at_int (Kd.R_reads' HO_4.out).2.2 ((rd_T64 l0_1 x53_2).f1) p915 q915
                             obtain rfl : ad914 = ad915 := (by injection e915)
                             replace p915 := eq_true p915
                             replace q915 := eq_true q915
                             refine zs (n := 11) (fun w' => w'.cell? ⟨gb913, 0, none⟩ = some (.int .i64 ((rd_T64 l0_1 x53_2).f0)) ∧ w'.cell? ⟨gb913, 1, none⟩ = some (.int .i64 ((rd_T64 l0_1 x53_2).f1)) ∧ w'.cell? (ad914.add (((rd_T64 l0_1 x53_2).f0)).toNat) = some (.int .i64 (rd x4_1 ((rd_T64 l0_1 x53_2).f0))) ∧ w'.cell? (ad914.add (((rd_T64 l0_1 x53_2).f1)).toNat) = some (.int .i64 (rd x4_1 ((rd_T64 l0_1 x53_2).f1)))) ⟨(blk_cell BK913.out 0).trans rfl, (blk_cell BK913.out 1).trans rfl, hx914_0, hx915_0⟩ (fun hHeld => ?_); refine with_tabW impl_ParityOf.tab17 impl_ParityOf.bits17 (fun HT_ HW_ => ?_)
                             generalize w47.drew = w48 at HO_4 BK893 BK913 HB hx914_0 hx915_0 hHeld ⊢
                             refine zp HT_ 0 57 ?_
                             refine zp HT_ 1 58 ?_
                             refine zp HT_ 5 62 ?_
                             refine zp HT_ 6 63 ?_
                             refine zt HT_ HW_ 2 59 hHeld ?_ (hy := by rintro w' ⟨s0, s1, s2, s3⟩; go_simp; with_reducible rfl)
                             refine zp HT_ 3 60 ?_
                             refine zt HT_ HW_ 4 61 hHeld ?_ (hy := by rintro w' ⟨s0, s1, s2, s3⟩; go_simp; with_reducible rfl)
                             refine zt HT_ HW_ 7 64 hHeld ?_ (hy := by rintro w' ⟨s0, s1, s2, s3⟩; go_simp; with_reducible rfl)
                             refine zp HT_ 8 65 ?_
                             refine zt HT_ HW_ 9 66 hHeld ?_ (hy := by rintro w' ⟨s0, s1, s2, s3⟩; go_simp; with_reducible rfl)
                             refine zp HT_ 10 67 ?_
                             refine zo HT_ ?_
                             try go_wp2
                             go_ret2
                             exact ⟨_, by first | rfl | (simp [errW_none, errW_some] <;> rfl) | (simp [*, errW_none, errW_some] <;> rfl), by first | exact Kd.R_nil _ _ _ _ _ | exact Kd.N_nil _ _ _ _ _ | exact Kd.V_nil _ _ _ _ _ | exact Kd.Q_nil _ _ _ _ _ | exact Kd.S_nil _ _ _ _ _, zB⟩
                           · rw [if_neg c43] at H
                             have c43b0 : ((rd x4_1 ((rd_T64 l0_1 x53_2).f0)) == (rd x4_1 ((rd_T64 l0_1 x53_2).f1))) = false := beq_eq_false_iff_ne.mpr c43
                             have c43b1 : ((rd x4_1 ((rd_T64 l0_1 x53_2).f0)) != (rd x4_1 ((rd_T64 l0_1 x53_2).f1))) = true := bne_iff_ne.mpr c43
                             have H' := Aside0.mk H
                             clear H
                             have p912 : 0 ≤ (x53_2 : Int) := of_decide_eq_true zA
                             have q912 : x53_2 < (l0_1.length : Int) := of_decide_eq_true zA
                             obtain ⟨ad912, e912, hx912_0, hx912_1⟩ := at_T64 HR0_1.out x53_2 p912 q912
                             cases e912
                             (try replace hx912_0 := (HB.out.cell (World.block_lt_of_cell? w _ hx912_0)).trans hx912_0)
                             (try replace hx912_1 := (HB.out.cell (World.block_lt_of_cell? w _ hx912_1)).trans hx912_1)
                             replace p912 := eq_true p912
                             replace q912 := eq_true q912
                             try go_wp2_with (first | ((with_reducible refine gate_dst (N := 12) rfl ?_); refine ze 12 #[.int .i64 0, .int .i64 0] 64 ?_; intro gb913 hg w50 hbox hb; replace HO_4 := zM (Kd.R_below (zR HO_4.out) hb); have BK913 := zM (hbox); have GW913 := zM ((by rw [hg]; exact (below_size zB) : w.heap.size ≤ gb913)); have GE913 := zM ((by rw [hg]; exact (below_size zB) : w.heap.size ≤ gb913)); replace HB := zM (below_step zB hb); have NB893_913 := zM ((by rw [hg]; exact Nat.ne_of_lt (blk_lt (g := gb893) (o := .cells #[.slice A0_0 l0_0.length c0_0, .slice (some ad912) l0_1.length c0_1] 28 (0, 0)) (zK BK893.out)) : gb893 ≠ gb913)); have NB913_893 := zM ((by rw [hg]; exact Nat.ne_of_gt (blk_lt (g := gb893) (o := .cells #[.slice A0_0 l0_0.length c0_0, .slice (some ad912) l0_1.length c0_1] 28 (0, 0)) (zK BK893.out)) : gb913 ≠ gb893)); replace BK893 := zM (blk_below (g := gb893) (o := .cells #[.slice A0_0 l0_0.length c0_0, .slice (some ad912) l0_1.length c0_1] 28 (0, 0)) (zK BK893.out) hb); clear hb hbox hg; have hnb51 := NB913_893.out; have hnc51 := NB893_913.out; have hcz52_0 := zy BK913 0; have hcz52_1 := zy BK913 1; have hfz52_0 := blk_frozen BK913.out 0; have hfz52_1 := blk_frozen BK913.out 1))
                             have n0_ : Aside0 (Kd.R (Kd.int .i64) 3 ((w50.setCell ⟨gb913, 0, none⟩ (.int .i64 ((rd_T64 l0_1 x53_2).f0))).setCell ⟨gb913, 1, none⟩ (.int .i64 ((rd_T64 l0_1 x53_2).f1))) w.heap.size (fun _ => True) v896 x4_1) := ⟨by (with_reducible repeat (first | apply Kd.R_alloc | apply Kd.R_drewN | apply Kd.R_drew)); exact Kd.R_mono (Kd.R_far (p := ⟨gb913, 1, none⟩) (Kd.R_far (p := ⟨gb913, 0, none⟩) (Kd.R_types HO_4.out BK913.out (by decide)) (fun _ hk => hk.2) (.int .i64 ((rd_T64 l0_1 x53_2).f0))) (fun _ hk => hk.2) (.int .i64 ((rd_T64 l0_1 x53_2).f1))) (fun _ hk => trivial)⟩
                             have n1_ : Aside0 (((w50.setCell ⟨gb913, 0, none⟩ (.int .i64 ((rd_T64 l0_1 x53_2).f0))).setCell ⟨gb913, 1, none⟩ (.int .i64 ((rd_T64 l0_1 x53_2).f1))).heap[gb893]? = some (.cells #[.slice A0_0 l0_0.length c0_0, .slice (some ad912) l0_1.length c0_1] 28 (0, 0))) := ⟨by (with_reducible repeat (first | refine blk_drewN ?_ _ | refine blk_drew ?_ | refine blk_alloc ?_ _)); refine blk_far ?_ NB893_913.out _; (with_reducible repeat (first | refine blk_drewN ?_ _ | refine blk_drew ?_ | refine blk_alloc ?_ _)); refine blk_far ?_ NB893_913.out _; (with_reducible repeat (first | refine blk_drewN ?_ _ | refine blk_drew ?_ | refine blk_alloc ?_ _)); exact BK893.out⟩
                             have n2_ : Aside0 (((w50.setCell ⟨gb913, 0, none⟩ (.int .i64 ((rd_T64 l0_1 x53_2).f0))).setCell ⟨gb913, 1, none⟩ (.int .i64 ((rd_T64 l0_1 x53_2).f1))).heap[gb913]? = some (.cells #[.int .i64 ((rd_T64 l0_1 x53_2).f0), .int .i64 ((rd_T64 l0_1 x53_2).f1)] 64 (0, 0))) := ⟨by (with_reducible repeat (first | refine blk_drewN ?_ _ | refine blk_drew ?_ | refine blk_alloc ?_ _)); refine blk_put (cs := #[.int .i64 ((rd_T64 l0_1 x53_2).f0), .int .i64 0]) ?_ 1 _ rfl; (with_reducible repeat (first | refine blk_drewN ?_ _ | refine blk_drew ?_ | refine blk_alloc ?_ _)); refine blk_put (cs := #[.int .i64 0, .int .i64 0]) ?_ 0 _ rfl; (with_reducible repeat (first | refine blk_drewN ?_ _ | refine blk_drew ?_ | refine blk_alloc ?_ _)); exact BK913.out⟩
                             have n3_ : Aside0 (Below w.heap.size w ((w50.setCell ⟨gb913, 0, none⟩ (.int .i64 ((rd_T64 l0_1 x53_2).f0))).setCell ⟨gb913, 1, none⟩ (.int .i64 ((rd_T64 l0_1 x53_2).f1)))) := ⟨zB⟩
                             (try clear HO_4)
                             (try clear BK893)
                             (try clear BK913)
                             (try clear HB)
                             generalize ((w50.setCell ⟨gb913, 0, none⟩ (.int .i64 ((rd_T64 l0_1 x53_2).f0))).setCell ⟨gb913, 1, none⟩ (.int .i64 ((rd_T64 l0_1 x53_2).f1))) = w53 at n0_ n1_ n2_ n3_ ⊢
                             have HO_4 := n0_
                             have BK893 := n1_
                             have BK913 := n2_
                             have HB := n3_
                             clear n0_ n1_ n2_ n3_
                             replace HO_4 := zM (Kd.R_drew HO_4.out)
                             replace BK893 := zM (blk_drew BK893.out)
                             replace BK913 := zM (blk_drew BK913.out)
                             replace HB := zM (below_drew1 HB.out)
                             obtain ⟨Ao55, co55, eo55⟩ := Kd.R_slice HO_4.out
                             (first | subst eo55 | (injection eo55 with f1_ f2_ f3_; have f4_ := f1_.symm; have f5_ := f3_.symm; clear f1_ f2_ f3_; subst f4_; subst f5_))
                             have p914 : 0 ≤ (((rd_T64 l0_1 x53_2).f0) : Int) := of_decide_eq_true zA
                             have q914 : ((rd_T64 l0_1 x53_2).f0) < (x4_1.length : Int) := of_decide_eq_true zA
                             obtain ⟨ad914, e914, hx914_0⟩ := Kd.at_int (Kd.R_reads' HO_4.out).2.2 ((rd_T64 l0_1 x53_2).f0) p914 q914
                             cases e914
                             replace p914 := eq_true p914
                             replace q914 := eq_true q914
                             have p915 : 0 ≤ (((rd_T64 l0_1 x53_2).f1) : Int) := of_decide_eq_true zA
                             have q915 : ((rd_T64 l0_1 x53_2).f1) < (x4_1.length : Int) := of_decide_eq_true zA
                             obtain ⟨ad915, e915, hx915_0⟩ := Kd.at_int (Kd.R_reads' HO_4.out).2.2 ((rd_T64 l0_1 x53_2).f1) p915 q915
                             obtain rfl : ad914 = ad915 := (by injection e915)
                             replace p915 := eq_true p915
                             replace q915 := eq_true q915
                             refine zs (n := 11) (fun w' => w'.cell? ⟨gb913, 0, none⟩ = some (.int .i64 ((rd_T64 l0_1 x53_2).f0)) ∧ w'.cell? ⟨gb913, 1, none⟩ = some (.int .i64 ((rd_T64 l0_1 x53_2).f1)) ∧ w'.cell? (ad914.add (((rd_T64 l0_1 x53_2).f0)).toNat) = some (.int .i64 (rd x4_1 ((rd_T64 l0_1 x53_2).f0))) ∧ w'.cell? (ad914.add (((rd_T64 l0_1 x53_2).f1)).toNat) = some (.int .i64 (rd x4_1 ((rd_T64 l0_1 x53_2).f1)))) ⟨(blk_cell BK913.out 0).trans rfl, (blk_cell BK913.out 1).trans rfl, hx914_0, hx915_0⟩ (fun hHeld => ?_); refine with_tabW impl_ParityOf.tab17 impl_ParityOf.bits17 (fun HT_ HW_ => ?_)
                             generalize w53.drew = w54 at HO_4 BK893 BK913 HB hx914_0 hx915_0 hHeld ⊢
                             refine zp HT_ 0 57 ?_
                             refine zp HT_ 1 58 ?_
                             refine zp HT_ 5 62 ?_
                             refine zp HT_ 6 63 ?_
                             refine zt HT_ HW_ 2 59 hHeld ?_ (hy := by rintro w' ⟨s0, s1, s2, s3⟩; go_simp; with_reducible rfl)
                             refine zp HT_ 3 60 ?_
                             refine zt HT_ HW_ 4 61 hHeld ?_ (hy := by rintro w' ⟨s0, s1, s2, s3⟩; go_simp; with_reducible rfl)
                             refine zt HT_ HW_ 7 64 hHeld ?_ (hy := by rintro w' ⟨s0, s1, s2, s3⟩; go_simp; with_reducible rfl)
                             refine zp HT_ 8 65 ?_
                             refine zt HT_ HW_ 9 66 hHeld ?_ (hy := by rintro w' ⟨s0, s1, s2, s3⟩; go_simp; with_reducible rfl)
                             refine zp HT_ 10 67 ?_
                             refine zo HT_ ?_
                             try go_wp2
                             go_roundg k2
                             case measure => have := HK1.out; have := HK2.out; omega
                             case rel => exact ⟨(wrap64 (x53_2 + 1)), (by first | rfl | (simp; done) | (simp [*]; done)), H', ⟨by have := HK1.out; have := HK2.out; omega⟩, ⟨zR HO_4.out⟩, ⟨zK BK893.out⟩, ⟨zB⟩⟩
                         · rw [if_neg c42] at H
                           exact absurd H (by simp)
                       · rw [if_neg c41] at H
                         exact absurd H (by simp)
                     · rw [if_neg c40] at H
                       exact absurd H (by simp)
                   · rw [if_neg c39] at H
                     exact absurd H (by simp)
                 · rw [if_neg c38] at H
                   exact absurd H (by simp)
               · rw [if_neg c37] at H
                 exact absurd H (by simp)
             · rw [if_neg c36] at H
               have c36b0 : decide (x53_2 < (l0_1.length : Int)) = false := decide_eq_false c36
               clear c36
               simp only [Option.some.injEq, Prod.mk.injEq] at H
               obtain ⟨rfl, rfl⟩ := H
               go_wp2
               go_ret2
               exact ⟨_, by first | rfl | (simp [errW_none, errW_some] <;> rfl) | (simp [*, errW_none, errW_some] <;> rfl), by (with_reducible repeat (first | apply Kd.R_alloc | apply Kd.R_drewN | apply Kd.R_drew)); exact HO_4.out, zB⟩
     · rw [if_neg c5] at H
       exact absurd H (by simp)
   · rw [if_neg c4] at H
     exact absurd H (by simp)
 · replace c3 := Bool.eq_false_iff.mpr c3
   subst c3
   have H1 : (some (([] : List Int), false)) = some (r1, r2) := by rw [if_neg (show ¬ (false = true) by decide)] at H; exact H
   clear H
   have H := H1
   clear H1
   simp only [Option.some.injEq, Prod.mk.injEq] at H
   obtain ⟨rfl, rfl⟩ := H
   go_enter Try.func34, Try.ntmps34
   go_wp2_with (first | ((with_reducible refine gate_dst (N := 1) rfl ?_); refine zb (w := w) 1 #[.slice A0_0 l0_0.length c0_0, .slice A0_1 l0_1.length c0_1] 28 zB ?_; clear HB; intro gb893 w56 HB BK893 GW893; have GE893 := GW893; have hcz57_0 := zy BK893 0; have hcz57_1 := zy BK893 1; have hfz57_0 := blk_frozen BK893.out 0; have hfz57_1 := blk_frozen BK893.out 1) | ((with_reducible refine gate_callee (f := 58) rfl ?_); refine zc 14 Try.func58 #[.agg #[.slice A0_0 l0_0.length c0_0, .slice A0_1 l0_1.length c0_1]] ?_; (with_reducible refine (impl_IsSpace.calls k _ _ l0_0 _ _ l0_1 false _ ?side1 ?side2 ?side3 ?side4 A2.out).mono ?_); (case side1 => exact zC (Kd.C_below HR0_0.out HB.out)); (case side2 => exact HC0_0.out); (case side3 => exact zC (Kd.C_below HR0_1.out HB.out)); (case side4 => exact HC0_1.out); rintro e w58 ⟨rfl, hb⟩; refine ⟨_, rfl, ?_⟩; replace BK893 := zM (blk_below (g := gb893) (o := .cells #[.slice A0_0 l0_0.length c0_0, .slice A0_1 l0_1.length c0_1] 28 (0, 0)) (zK BK893.out) hb); replace HB := zM (below_step zB hb); (try clear hb); (try clear hb2); (try clear hk); (try clear hi)))
   go_ret2
   exact ⟨_, by first | rfl | (simp [errW_none, errW_some] <;> rfl) | (simp [*, errW_none, errW_some] <;> rfl), by first | exact Kd.R_nil _ _ _ _ _ | exact Kd.N_nil _ _ _ _ _ | exact Kd.V_nil _ _ _ _ _ | exact Kd.Q_nil _ _ _ _ _ | exact Kd.S_nil _ _ _ _ _, zB⟩

end Go.Proofs.Ythnojbafclglpaa.P
