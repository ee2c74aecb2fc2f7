-- Written by a program of this session (the kit's print, turned: wip/print/patch.py) out of the translation. Not trusted: Lean checks it.
import Derived.Test.YtnlmijnbfdhdkaaPartLabelsG4
import Derived.Test.YtnlmijnbfdhdkaaPartLabelsG9
import Derived.Test.YtnlmijnbfdhdkaaPartLabelsG13
import Derived.Test.YtnlmijnbfdhdkaaPartLabelsG14
import Derived.Test.YtnlmijnbfdhdkaaPartLabelsG11
namespace Go.Proofs.Ytnlmijnbfdhdkaa.P
open Go.RowKit Go.Proofs.YtnlmijnbfdhdkaaW.PrintWords Go.Proofs.YtnlmijnbfdhdkaaW.PrintLast Go.Proofs.YtnlmijnbfdhdkaaW.PrintMore
attribute [local go_sem] max2_int min2_int max_two min_two max_three min_three max_four min_four   -- for this text's walks alone
set_option linter.unusedVariables false
set_option linter.unusedSimpArgs false

/-! ### spec_PartLabels: function 53 -/
mutual
def spec_PartLabels.l0 : Nat → List Int → List (List Int) → Int → Option (List Int × Bool)
 | 0, _, _, _ => none
 | k + 1, x4, x5, x6 => if x6 < (x5.length : Int) then (spec_PartLabels.l1 k x4 x5 x6 0) else (some (x4, true))
def spec_PartLabels.l1 : Nat → List Int → List (List Int) → Int → Int → Option (List Int × Bool)
 | 0, _, _, _, _ => none
 | k + 1, x4, x5, x6, x7 => if 0 ≤ x6 then (if x6 < (x5.length : Int) then (if x7 < ((rd_L4 x5 x6).length : Int) then (if 0 ≤ x7 then (if 0 ≤ (rd (rd_L4 x5 x6) x7) then (if (rd (rd_L4 x5 x6) x7) < (x4.length : Int) then (spec_PartLabels.l1 k (x4.set ((rd (rd_L4 x5 x6) x7) : Int).toNat x6) x5 x6 (wrap64 (x7 + 1))) else (none)) else (none)) else (none)) else (spec_PartLabels.l0 k x4 x5 (wrap64 (x6 + 1)))) else (none)) else (none)
end
def spec_PartLabels.f (k : Nat) (l0_0 : List (List Int)) (l0_1 : List (S88)) : Option (List Int × Bool) := (spec_l2Space.f k l0_0 l0_1).bind fun t1128 => (if t1128 = true then (if 0 ≤ (l0_0.length : Int) then (if ((l0_0.length : Int) : Int).toNat ≤ 35184372088832 then ((spec_l2Parts.f k l0_0 l0_1).bind fun t1135 => (spec_PartLabels.l0 k (List.replicate ((l0_0.length : Int) : Int).toNat 0) t1135 0)) else (none)) else (none)) else (some ((([] : List Int)), false)))
def spec_PartLabels.T3 : Bool × List (List Nat × List Nat) := (true, [([], []), ([0], [0]), ([1], [1]), ([2, 2], [2]), ([], []), ([4], [4]), ([3, 5, 0, 1, 2, 3], [3]), ([5, 6, 0, 1, 2, 3, 4, 5, 6], [5])])
def spec_PartLabels.B3 : List Nat := [0, 1, 3, 7, 0, 16, 63, 127]
theorem spec_PartLabels.tab3 : rtab .any (opsOf Try.f53 3) = spec_PartLabels.T3 := by kernel_rfl
theorem spec_PartLabels.bits3 : waitsOk spec_PartLabels.T3.2 spec_PartLabels.B3 = true := by kernel_rfl
set_option maxHeartbeats 8000000 in
set_option maxRecDepth 100000 in
theorem spec_PartLabels.calls (k : Nat) (A0_0 : Option Addr) (c0_0 : Nat) (l0_0 : List (List Int)) (A0_1 : Option Addr) (c0_1 : Nat) (l0_1 : List (S88)) (r1 : List Int) (r2 : Bool) (w : World) (hr0_0 : Kd.C (Kd.slice 3 (Kd.int .i64)) w A0_0 l0_0.length l0_0) (hc0_0 : l0_0.length ≤ c0_0) (hr0_1 : Kd.C k88 w A0_1 l0_1.length l0_1) (hc0_1 : l0_1.length ≤ c0_1) (h : spec_PartLabels.f k l0_0 l0_1 = some (r1, r2)) :
 Calls Try.prog 53 #[.agg #[.slice A0_0 l0_0.length c0_0, .slice A0_1 l0_1.length c0_1]] w fun e w' => ∃ v0_ : Value, e = .returned (.tuple #[v0_, .bool r2]) ∧ Kd.R (Kd.int .i64) 3 w' w.heap.size (fun _ => True) v0_ r1 ∧ Below w.heap.size w w' := by
 have hu46 := Try.underlying46
 have HR0_0 := Aside0.mk hr0_0
 have HC0_0 := Aside0.mk hc0_0
 clear hr0_0 hc0_0
 have HR0_1 := Aside0.mk hr0_1
 have HC0_1 := Aside0.mk hc0_1
 clear hr0_1 hc0_1
 have HB := zM (Below.refl w.heap.size w)
 have H : ((spec_l2Space.f k l0_0 l0_1).bind fun t1128 => (if t1128 = true then (if 0 ≤ (l0_0.length : Int) then (if ((l0_0.length : Int) : Int).toNat ≤ 35184372088832 then ((spec_l2Parts.f k l0_0 l0_1).bind fun t1135 => (spec_PartLabels.l0 k (List.replicate ((l0_0.length : Int) : Int).toNat 0) t1135 0)) else (none)) else (none)) else (some ((([] : List Int)), false)))) = some (r1, r2) := h
 clear h
 replace H := Option.bind_eq_some_iff.mp H
 obtain ⟨t1128, A20, H⟩ := H
 replace H : (if t1128 = true then (if 0 ≤ (l0_0.length : Int) then (if ((l0_0.length : Int) : Int).toNat ≤ 35184372088832 then ((spec_l2Parts.f k l0_0 l0_1).bind fun t1135 => (spec_PartLabels.l0 k (List.replicate ((l0_0.length : Int) : Int).toNat 0) t1135 0)) else (none)) else (none)) else (some ((([] : List Int)), false))) = some (r1, r2) := H
 have A2 := Aside0.mk A20
 clear A20
 by_cases c3 : t1128 = true
 · subst c3
   have H1 : (if 0 ≤ (l0_0.length : Int) then (if ((l0_0.length : Int) : Int).toNat ≤ 35184372088832 then ((spec_l2Parts.f k l0_0 l0_1).bind fun t1135 => (spec_PartLabels.l0 k (List.replicate ((l0_0.length : Int) : Int).toNat 0) t1135 0)) else (none)) else (none)) = some (r1, r2) := by rw [if_pos rfl] at H; exact H
   clear H
   have H := H1
   clear H1
   by_cases c4 : 0 ≤ (l0_0.length : Int)
   · rw [if_pos c4] at H
     have c4b0 := eq_true c4
     have c4b1 : decide (0 ≤ (l0_0.length : Int)) = true := decide_eq_true c4
     clear c4
     by_cases c5 : ((l0_0.length : Int) : Int).toNat ≤ 35184372088832
     · rw [if_pos c5] at H
       have c5b0 := eq_true c5
       have c5b1 : decide (((l0_0.length : Int) : Int).toNat ≤ 35184372088832) = true := decide_eq_true c5
       clear c5
       obtain ⟨y1132, hy1132⟩ : ∃ y_ : List Int, y_ = (List.replicate ((l0_0.length : Int) : Int).toNat 0) := ⟨_, rfl⟩
       replace H : ((spec_l2Parts.f k l0_0 l0_1).bind fun t1135 => (spec_PartLabels.l0 k y1132 t1135 0)) = some (r1, r2) := by first | (rw [hy1132]; with_reducible exact H) | (have H2_ := (Option.bind_some _ _).symm.trans H; rw [hy1132]; with_reducible exact H2_) | (have H2_ := (Option.bind_some _ _).symm.trans H; with_reducible exact H2_) | with_reducible exact H | (rw [hy1132]; exact H) | exact H
       have Ny1132 := Aside0.mk hy1132
       clear hy1132
       replace H := Option.bind_eq_some_iff.mp H
       obtain ⟨t1135, A60, H⟩ := H
       replace H : (spec_PartLabels.l0 k y1132 t1135 0) = some (r1, r2) := H
       have A6 := Aside0.mk A60
       clear A60
       have H' := Aside0.mk H
       clear H
       go_enter Try.func53, Try.ntmps53
       try go_wp2_with (first | ((with_reducible refine gate_dst (N := 1) rfl ?_); refine zb (w := w) 1 #[.slice A0_0 l0_0.length c0_0, .slice A0_1 l0_1.length c0_1] 46 zB ?_; clear HB; intro gb1127 w7 HB BK1127 GW1127; have GE1127 := GW1127; have hcz8_0 := zy BK1127 0; have hcz8_1 := zy BK1127 1; have hfz8_0 := blk_frozen BK1127.out 0; have hfz8_1 := blk_frozen BK1127.out 1) | ((with_reducible refine gate_callee (f := 79) rfl ?_); refine zc 9 Try.func79 #[.agg #[.slice A0_0 l0_0.length c0_0, .slice A0_1 l0_1.length c0_1]] ?_; (with_reducible refine (spec_l2Space.calls k _ _ l0_0 _ _ l0_1 true _ ?side1 ?side2 ?side3 ?side4 A2.out).mono ?_); (case side1 => exact zC (Kd.C_below HR0_0.out HB.out)); (case side2 => exact HC0_0.out); (case side3 => exact zC (Kd.C_below HR0_1.out HB.out)); (case side4 => exact HC0_1.out); rintro e w9 ⟨rfl, hb⟩; refine ⟨_, rfl, ?_⟩; replace BK1127 := zM (blk_below (g := gb1127) (o := .cells #[.slice A0_0 l0_0.length c0_0, .slice A0_1 l0_1.length c0_1] 46 (0, 0)) (zK BK1127.out) hb); replace HB := zM (below_step zB hb); (try clear hb); (try clear hb2); (try clear hk); (try clear hi)))
       replace BK1127 := zM (blk_drew BK1127.out)
       replace HB := zM (below_drew1 HB.out)
       refine zs (n := 8) (fun w' => w'.cell? ⟨gb1127, 0, none⟩ = some (.slice A0_0 l0_0.length c0_0) ∧ w'.cell? ⟨gb1127, 1, none⟩ = some (.slice A0_1 l0_1.length c0_1)) ⟨(blk_cell BK1127.out 0).trans rfl, (blk_cell BK1127.out 1).trans rfl⟩ (fun hHeld => ?_); refine with_tabW spec_PartLabels.tab3 spec_PartLabels.bits3 (fun HT_ HW_ => ?_)
       generalize w9.drew = w10 at BK1127 HB hHeld ⊢
       refine zp HT_ 0 12 ?_
       refine zt HT_ HW_ 1 13 hHeld ?_ (hy := by rintro w' ⟨s0, s1⟩; go_simp; with_reducible rfl)
       refine zp HT_ 2 14 ?_
       refine zt HT_ HW_ 4 16 hHeld ?_ (hy := by rintro w' ⟨s0, s1⟩; go_simp; with_reducible rfl)
       refine join_ (σ := Value × Value) 2 #[true, true, true, true, true, true, false, false] (fun s_ => [(15, s_.1), (17, s_.2)]) (fun s_ w' => (w'.cell? ⟨gb1127, 0, none⟩ = some (.slice A0_0 l0_0.length c0_0) ∧ w'.cell? ⟨gb1127, 1, none⟩ = some (.slice A0_1 l0_1.length c0_1)) ∧ (Kd.R (Kd.int .i64) 3 w' w.heap.size (fun _ => True) s_.1 y1132) ∧ (Kd.S (Kd.slice 3 (Kd.int .i64)) 25 w' w.heap.size (fun k_ => some k_ ≠ (s_.1 : Value).ownBlock) s_.2 t1135) ∧ (w'.heap[gb1127]? = some (.cells #[.slice A0_0 l0_0.length c0_0, .slice A0_1 l0_1.length c0_1] 46 (0, 0))) ∧ (Below w.heap.size w w')) ?_ ?_
       rotate_left
       · intro hCont
         refine two_ (i := 3) (j := 5) (Ni := some 15) (Nj := some 17) #[true, true, true, true, true, false, false, false] #[true, true, true, false, true, true, false, false] rfl rfl rfl rfl (two_of HT_.out (by kernel_rfl)) (by decide) (by decide) (fun K hK => ?_) (fun K hK => ?_)
         · skip
           refine Kd.R_make_step (Kd.int .i64) _ 3 (by rfl) (N := 15) rfl 25 _ _ rfl (l0_0.length : Int) rfl rfl Try.underlying25 (.int .i64 0) 8 info3 rfl (by decide) (by omega) 0 (ok := fun _ => True) (okp := fun _ => True) rfl (fun _ hk => hk) trivial (of_decide_eq_true zA) (Nat.le_trans (Nat.mul_le_mul_right _ (of_decide_eq_true zA : (l0_0.length : Int).toNat ≤ 35184372088832)) (by omega)) (Below.refl _ _) (Nat.le_refl _) ?_
           intro v1133 w11 ho12 hb hg_ hnew_
           clear hg_ hnew_
           (first | rw [← Ny1132.out] at ho12 | (simp only [Int.reduceToNat] at ho12; rw [← Ny1132.out] at ho12))
           have HO1134 := zM (Kd.R_lower ho12 (below_size zB))
           replace BK1127 := zM (blk_below (g := gb1127) (o := .cells #[.slice A0_0 l0_0.length c0_0, .slice A0_1 l0_1.length c0_1] 46 (0, 0)) (zK BK1127.out) hb)
           replace HB := zM (below_step zB hb)
           clear hb ho12
           refine hK.out _ _ ⟨(blk_cell BK1127.out 0).trans rfl, (blk_cell BK1127.out 1).trans rfl⟩ (fun hHeld => ?_)
           clear hK K
           refine zn 15 ?_
           refine zg HT_ 5 17 Try.func100 #[.agg #[.slice A0_0 l0_0.length c0_0, .slice A0_1 l0_1.length c0_1]] (fun K hK => ?_)
           with_reducible refine (spec_l2Parts.calls k _ _ l0_0 _ _ l0_1 t1135 _ ?side1 ?side2 ?side3 ?side4 A6.out).mono ?_
           (case side1 => exact zC (Kd.C_below HR0_0.out HB.out))
           (case side2 => exact HC0_0.out)
           (case side3 => exact zC (Kd.C_below HR0_1.out HB.out))
           (case side4 => exact HC0_1.out)
           rintro e w13 ⟨v1136, rfl, ho0, hb⟩
           refine ⟨_, rfl, ?_⟩
           have HO1137 := zM (Kd.S_lower (Kd.S_new' ho0 (Kd.R_lt (zR HO1134.out))) (below_size zB))
           replace HO1134 := zM (Kd.R_below (zR HO1134.out) hb)
           replace BK1127 := zM (blk_below (g := gb1127) (o := .cells #[.slice A0_0 l0_0.length c0_0, .slice A0_1 l0_1.length c0_1] 46 (0, 0)) (zK BK1127.out) hb)
           replace HB := zM (below_step zB hb)
           (try clear hb)
           (try clear hb2)
           (try clear hk)
           (try clear hi)
           (try clear ho0)
           refine hK.out _ _ ⟨(blk_cell BK1127.out 0).trans rfl, (blk_cell BK1127.out 1).trans rfl⟩ (fun hHeld => ?_)
           clear hK K
           refine zn 17 ?_
           exact norm_ (by simp only [putAll, Act.put, List.setIfInBounds_toArray, List.set_cons_zero, List.set_cons_succ]) (hCont (v1133, v1136) _ ⟨hHeld, (zR HO1134.out), (by (with_reducible repeat (first | apply Kd.S_alloc | apply Kd.S_drewN | apply Kd.S_drew)); exact Kd.S_mono HO1137.out (fun _ hk => hk.2)), (zK BK1127.out), zB⟩)
         · skip
           refine goes_ Try.func100 (by kernel_rfl) rfl #[.agg #[.slice A0_0 l0_0.length c0_0, .slice A0_1 l0_1.length c0_1]] (by rfl) rfl rfl (by (try simp only [List.map_toArray, List.map_cons, List.map_nil]); first | done | rfl | (simp only [List.length_drop, List.length_take]; rfl)) ?_
           with_reducible refine (spec_l2Parts.calls k _ _ l0_0 _ _ l0_1 t1135 _ ?side1 ?side2 ?side3 ?side4 A6.out).mono ?_
           (case side1 => exact zC (Kd.C_below HR0_0.out HB.out))
           (case side2 => exact HC0_0.out)
           (case side3 => exact zC (Kd.C_below HR0_1.out HB.out))
           (case side4 => exact HC0_1.out)
           rintro e w11 ⟨v1136, rfl, ho0, hb⟩
           refine ⟨_, rfl, ?_⟩
           have HO1137 := zM (Kd.S_lower ho0 (below_size zB))
           replace BK1127 := zM (blk_below (g := gb1127) (o := .cells #[.slice A0_0 l0_0.length c0_0, .slice A0_1 l0_1.length c0_1] 46 (0, 0)) (zK BK1127.out) hb)
           replace HB := zM (below_step zB hb)
           (try clear hb)
           (try clear hb2)
           (try clear hk)
           (try clear hi)
           (try clear ho0)
           refine hK.out _ _ ⟨(blk_cell BK1127.out 0).trans rfl, (blk_cell BK1127.out 1).trans rfl⟩ (fun hHeld => ?_)
           clear hK K
           refine zn 17 ?_
           refine one_ (i := 3) (N := some 15) #[true, true, true, true, true, true, false, false] rfl rfl (one_of HT_.out (by kernel_rfl)) (by decide) (fun K hK => ?_)
           refine Kd.R_make_step (Kd.int .i64) _ 3 (by rfl) (N := 15) rfl 25 _ _ rfl (l0_0.length : Int) rfl rfl Try.underlying25 (.int .i64 0) 8 info3 rfl (by decide) (by omega) 0 (ok := fun _ => True) (okp := fun _ => True) rfl (fun _ hk => hk) trivial (of_decide_eq_true zA) (Nat.le_trans (Nat.mul_le_mul_right _ (of_decide_eq_true zA : (l0_0.length : Int).toNat ≤ 35184372088832)) (by omega)) (Below.refl _ _) (Nat.le_refl _) ?_
           intro v1133 w12 ho13 hb hg_ hnew_
           clear hg_ hnew_
           (first | rw [← Ny1132.out] at ho13 | (simp only [Int.reduceToNat] at ho13; rw [← Ny1132.out] at ho13))
           replace HO1137 := zM (Kd.S_elder' (by (with_reducible repeat (first | apply Kd.S_alloc | apply Kd.S_drewN | apply Kd.S_drew)); exact HO1137.out) (Kd.R_base ho13) hb)
           have HO1134 := zM (Kd.R_lower ho13 (below_size zB))
           replace BK1127 := zM (blk_below (g := gb1127) (o := .cells #[.slice A0_0 l0_0.length c0_0, .slice A0_1 l0_1.length c0_1] 46 (0, 0)) (zK BK1127.out) hb)
           replace HB := zM (below_step zB hb)
           clear hb ho13
           refine hK.out _ _ ⟨(blk_cell BK1127.out 0).trans rfl, (blk_cell BK1127.out 1).trans rfl⟩ (fun hHeld => ?_)
           clear hK K
           refine zn 15 ?_
           exact norm_ (by simp only [putAll, Act.put, List.setIfInBounds_toArray, List.set_cons_zero, List.set_cons_succ]) (hCont (v1133, v1136) _ ⟨hHeld, (zR HO1134.out), (by (with_reducible repeat (first | apply Kd.S_alloc | apply Kd.S_drewN | apply Kd.S_drew)); exact Kd.S_mono HO1137.out (fun _ hk => hk.2)), (zK BK1127.out), zB⟩)
       rintro ⟨v1133, v1136⟩ w14 ⟨hS_, h0_, h1_, h2_, h3_⟩
       have n0_ : Aside0 (Kd.R (Kd.int .i64) 3 w14 w.heap.size (fun _ => True) v1133 y1132) := ⟨h0_⟩
       have n1_ : Aside0 (Kd.S (Kd.slice 3 (Kd.int .i64)) 25 w14 w.heap.size (fun k_ => some k_ ≠ (v1133 : Value).ownBlock) v1136 t1135) := ⟨h1_⟩
       have n2_ : Aside0 (w14.heap[gb1127]? = some (.cells #[.slice A0_0 l0_0.length c0_0, .slice A0_1 l0_1.length c0_1] 46 (0, 0))) := ⟨h2_⟩
       have n3_ : Aside0 (Below w.heap.size w w14) := ⟨h3_⟩
       clear BK1127
       clear HB
       clear h0_ h1_ h2_ h3_
       have HO1134 := n0_
       have HO1137 := n1_
       have BK1127 := n2_
       have HB := n3_
       clear n0_ n1_ n2_ n3_
       have hHeld : w14.cell? ⟨gb1127, 0, none⟩ = some (.slice A0_0 l0_0.length c0_0) ∧ w14.cell? ⟨gb1127, 1, none⟩ = some (.slice A0_1 l0_1.length c0_1) := hS_
       refine norm_ (a' := ?_) ?_ ?_
       rotate_left
       · simp only [putAll, Act.put, List.setIfInBounds_toArray, List.set_cons_zero, List.set_cons_succ]
         rfl
       refine zp HT_ 6 4 ?_
       refine zp HT_ 7 5 ?_
       refine zo HT_ ?_
       try go_wp2
       go_loopg [6] k (fun kq v6 w' => ∃ (x4_1 : List Int) (x6_1 : Int), v6 = .int .i64 x6_1 ∧ Aside0 (spec_PartLabels.l0 kq x4_1 t1135 x6_1 = some (r1, r2)) ∧ Aside0 (kq ≤ k) ∧ Aside0 (Kd.R (Kd.int .i64) 3 w' w.heap.size (fun _ => True) v1133 x4_1) ∧ Aside0 (Kd.S (Kd.slice 3 (Kd.int .i64)) 25 w' w.heap.size (fun k_ => some k_ ≠ (v1133 : Value).ownBlock) v1136 t1135) ∧ Aside0 (w'.heap[gb1127]? = some (.cells #[(.slice A0_0 l0_0.length c0_0), (.slice A0_1 l0_1.length c0_1)] 46 (0, 0))) ∧ Aside0 (Below w.heap.size w w'))
       case atStart => exact ⟨(y1132), (0), (by first | rfl | (simp; done) | (simp [*]; done)), H', ⟨Nat.le_refl _⟩, ⟨zR HO1134.out⟩, ⟨by (with_reducible repeat (first | apply Kd.S_alloc | apply Kd.S_drewN | apply Kd.S_drew)); exact HO1137.out⟩, ⟨zK BK1127.out⟩, ⟨zB⟩⟩
       case round =>
        clear H'
        try clear c1
        try clear p2
        try clear c3
        try clear c4
        try clear c4b0
        try clear c4b1
        try clear c5
        try clear c5b0
        try clear c5b1
        try clear c7
        try clear c10
        try clear hcz8_0
        try clear hcz8_1
        try clear hfz8_0
        try clear hfz8_1
        obtain ⟨x4_1, x6_1, rfl, HA, HK1, HO_4, HO_5, BK1127, HB⟩ := hrel
        cases gk with
        | zero => exact absurd HA.out (by simp [spec_PartLabels.l0])
        | succ k1 =>
         have H := HA.out
         clear HA
         simp only [spec_PartLabels.l0] at H
         by_cases c15 : x6_1 < (t1135.length : Int)
         · rw [if_pos c15] at H
           have c15b0 := decide_eq_true c15
           clear c15
           have H' := Aside0.mk H
           clear H
           obtain ⟨Ao16, co16, eo16⟩ := Kd.S_slice HO_5.out
           subst eo16
           go_wp2
           go_loopg [7] k1 (fun kq v7 w' => ∃ (x4_2 : List Int) (x7_2 : Int), v7 = .int .i64 x7_2 ∧ Aside0 (spec_PartLabels.l1 kq x4_2 t1135 x6_1 x7_2 = some (r1, r2)) ∧ Aside0 (kq ≤ k1) ∧ Aside0 (Kd.R (Kd.int .i64) 3 w' w.heap.size (fun _ => True) v1133 x4_2) ∧ Aside0 (Kd.S (Kd.slice 3 (Kd.int .i64)) 25 w' w.heap.size (fun k_ => some k_ ≠ (v1133 : Value).ownBlock) (.slice Ao16 t1135.length co16) t1135) ∧ Aside0 (w'.heap[gb1127]? = some (.cells #[(.slice A0_0 l0_0.length c0_0), (.slice A0_1 l0_1.length c0_1)] 46 (0, 0))) ∧ Aside0 (Below w.heap.size w w'))
           case atStart => exact ⟨(x4_1), (0), (by first | rfl | (simp; done) | (simp [*]; done)), H', ⟨Nat.le_refl _⟩, ⟨zR HO_4.out⟩, ⟨by (with_reducible repeat (first | apply Kd.S_alloc | apply Kd.S_drewN | apply Kd.S_drew)); exact HO_5.out⟩, ⟨zK BK1127.out⟩, ⟨zB⟩⟩
           case round =>
            clear H'
            try clear c1
            try clear p2
            try clear c3
            try clear c4
            try clear c4b0
            try clear c4b1
            try clear c5
            try clear c5b0
            try clear c5b1
            try clear c7
            try clear c10
            try clear c15
            try clear c15b0
            try clear hcz8_0
            try clear hcz8_1
            try clear hfz8_0
            try clear hfz8_1
            try clear p2
            obtain ⟨x4_2, x7_2, rfl, HA, HK2, HO_4, HO_5, BK1127, HB⟩ := hrel
            cases gk with
            | zero => exact absurd HA.out (by simp [spec_PartLabels.l1])
            | succ k2 =>
             have H := HA.out
             clear HA
             simp only [spec_PartLabels.l1] at H
             by_cases c17 : 0 ≤ x6_1
             · rw [if_pos c17] at H
               have c17b0 := decide_eq_true c17
               clear c17
               by_cases c18 : x6_1 < (t1135.length : Int)
               · rw [if_pos c18] at H
                 have c18b0 := decide_eq_true c18
                 clear c18
                 by_cases c19 : x7_2 < ((rd_L4 t1135 x6_1).length : Int)
                 · rw [if_pos c19] at H
                   have c19b0 := decide_eq_true c19
                   clear c19
                   by_cases c20 : 0 ≤ x7_2
                   · rw [if_pos c20] at H
                     have c20b0 := decide_eq_true c20
                     clear c20
                     by_cases c21 : 0 ≤ (rd (rd_L4 t1135 x6_1) x7_2)
                     · rw [if_pos c21] at H
                       have c21b0 := decide_eq_true c21
                       clear c21
                       by_cases c22 : (rd (rd_L4 t1135 x6_1) x7_2) < (x4_2.length : Int)
                       · rw [if_pos c22] at H
                         have c22b0 := decide_eq_true c22
                         clear c22
                         obtain ⟨y1141, hy1141⟩ : ∃ y_ : List Int, y_ = (x4_2.set ((rd (rd_L4 t1135 x6_1) x7_2) : Int).toNat x6_1) := ⟨_, rfl⟩
                         replace H : (spec_PartLabels.l1 k2 y1141 t1135 x6_1 (wrap64 (x7_2 + 1))) = some (r1, r2) := by first | (rw [hy1141]; with_reducible exact H) | (have H2_ := (Option.bind_some _ _).symm.trans H; rw [hy1141]; with_reducible exact H2_) | (have H2_ := (Option.bind_some _ _).symm.trans H; with_reducible exact H2_) | with_reducible exact H | (rw [hy1141]; exact H) | exact H
                         have Ny1141 := Aside0.mk hy1141
                         clear hy1141
                         have H' := Aside0.mk H
                         clear H
                         have p1138 : 0 ≤ (x6_1 : Int) := of_decide_eq_true zA
                         have q1138 : x6_1 < (t1135.length : Int) := of_decide_eq_true zA
                         obtain ⟨ad1138, A1138_0, c1138_0, e1138, hx1138_0, hl1138_0, hi1138_0⟩ := at_L4 (Kd.S_reads' HO_5.out).2.2 x6_1 p1138 q1138
                         cases e1138
                         obtain ⟨ce1138, hce1138, hMe1138, hcc1138⟩ := Kd.S_get HO_5.out [] x6_1 p1138 (by first | exact q1138 | exact of_decide_eq_true zA | (have e_ := (Kd.S_reads' HO_5.out).1; omega))
                         obtain ⟨ve1138_0, rfl, ge1138_0⟩ := hMe1138
                         have hv1138_0 := hcc1138 0 _ rfl
                         rw [Nat.add_zero, show ((Kd.slice 3 (Kd.int .i64))).sz = 1 from rfl, Nat.mul_one] at hv1138_0
                         replace hv1138_0 := Option.some.inj (hv1138_0.symm.trans hx1138_0)
                         rw [hv1138_0] at ge1138_0
                         have HL1138_0 := zM (show Kd.R (Kd.int .i64) 3 _ _ _ _ (rd_L4 t1135 x6_1) from ge1138_0)
                         clear hv1138_0 ge1138_0
                         clear hcc1138 hce1138
                         have HR1138_0 := Aside0.mk hi1138_0
                         have HC1138_0 := Aside0.mk hl1138_0
                         clear hi1138_0 hl1138_0
                         replace p1138 := eq_true p1138
                         replace q1138 := eq_true q1138
                         have p1139 : 0 ≤ (x6_1 : Int) := of_decide_eq_true zA
                         have q1139 : x6_1 < (t1135.length : Int) := of_decide_eq_true zA
                         obtain ⟨ad1139, A1139_0, c1139_0, e1139, hx1139_0, hl1139_0, hi1139_0⟩ := at_L4 (Kd.S_reads' HO_5.out).2.2 x6_1 p1139 q1139
                         obtain rfl : ad1138 = ad1139 := (by injection e1139)
                         obtain ⟨ce1139, hce1139, hMe1139, hcc1139⟩ := Kd.S_get HO_5.out [] x6_1 p1139 (by first | exact q1139 | exact of_decide_eq_true zA | (have e_ := (Kd.S_reads' HO_5.out).1; omega))
                         obtain ⟨ve1139_0, rfl, ge1139_0⟩ := hMe1139
                         have hv1139_0 := hcc1139 0 _ rfl
                         rw [Nat.add_zero, show ((Kd.slice 3 (Kd.int .i64))).sz = 1 from rfl, Nat.mul_one] at hv1139_0
                         replace hv1139_0 := Option.some.inj (hv1139_0.symm.trans hx1139_0)
                         rw [hv1139_0] at ge1139_0
                         have HL1139_0 := zM (show Kd.R (Kd.int .i64) 3 _ _ _ _ (rd_L4 t1135 x6_1) from ge1139_0)
                         clear hv1139_0 ge1139_0
                         clear hcc1139 hce1139
                         have HR1139_0 := Aside0.mk hi1139_0
                         have HC1139_0 := Aside0.mk hl1139_0
                         clear hi1139_0 hl1139_0
                         replace p1139 := eq_true p1139
                         replace q1139 := eq_true q1139
                         have ea_ := Option.some.inj (hx1138_0.symm.trans hx1139_0)
                         injection ea_ with ea_ en_ ec_
                         subst ea_
                         subst ec_
                         clear en_
                         have p1140 : 0 ≤ (x7_2 : Int) := of_decide_eq_true zA
                         have q1140 : x7_2 < ((rd_L4 t1135 x6_1).length : Int) := of_decide_eq_true zA
                         obtain ⟨ad1140, e1140, hx1140_0⟩ := Kd.at_int (by repeat (first | (with_reducible exact HR1139_0.out) | (with_reducible refine Kd.C_alloc ?_ _) | (with_reducible refine Kd.C_drewN ?_ _) | (with_reducible refine Kd.C_drew ?_) | exact HR1139_0.out)) x7_2 p1140 q1140
                         cases e1140
                         replace p1140 := eq_true p1140
                         replace q1140 := eq_true q1140
                         have p23 : 0 ≤ ((rd (rd_L4 t1135 x6_1) x7_2) : Int) := of_decide_eq_true zA
                         have q23 : ((rd (rd_L4 t1135 x6_1) x7_2) : Int) < ((x4_2.length : Int) : Int) := of_decide_eq_true zA
                         obtain ⟨go23, co23, eo23, gb23, gl23, cl23, HG23⟩ := Kd.R_form HO_4.out (by omega)
                         (first | cases eo23 | (injection eo23 with ea_ en_ ec_; (first | subst ea_ | (injection ea_ with ea_; subst ea_)); subst ec_; clear en_))
                         have GB23 := Aside0.mk gb23
                         have GG23 := Aside0.mk HG23
                         clear gb23 gl23 HG23
                         obtain ⟨hx23_0, hf23_0⟩ := Kd.R_celln 0 HO_4.out ((rd (rd_L4 t1135 x6_1) x7_2) : Int) p23 q23
                         replace p23 := eq_true p23
                         replace q23 := eq_true q23
                         have HP24 := Kd.R_putg HO_4.out ((rd (rd_L4 t1135 x6_1) x7_2) : Int) x6_1
                         go_wp2_with (first | ((with_reducible refine gate_store (t := 3) (p := 42) rfl ?_); refine store_event (t := 3) (p := 42) (v := ?vo_w25) (w1 := (wr.setCell ⟨go23, ((rd (rd_L4 t1135 x6_1) x7_2) : Int).toNat, none⟩ (.int .i64 x6_1))) ?hg ?ho ?hn ?hr ?_; (case ho => rfl); (case hg => rfl); (case hn => rfl); (case hr => first | (go_simp; done) | (go_simp; rfl)); intro w25 hw; have hg : wr.grownBy w25 (some go23) := (by rw [hw]; exact HP24.2); have hp_ : Kd.R (Kd.int .i64) 3 w25 w.heap.size (fun _ => True) (.slice (some ⟨go23, 0, none⟩) x4_2.length co23) y1141 := (by rw [hw, Ny1141.out]; exact HP24.1); clear HP24; replace HO_5 := zM (Kd.S_after (v := (.slice (some ⟨go23, 0, none⟩) x4_2.length co23)) (v1 := (.slice (some ⟨go23, 0, none⟩) x4_2.length co23)) (ok := (fun _ => True)) (by (with_reducible repeat (first | apply Kd.S_alloc | apply Kd.S_drewN | apply Kd.S_drew)); exact Kd.S_mono HO_5.out (fun _ hk => ⟨trivial, hk⟩)) hg (.inl rfl)); replace BK1127 := zM (blk_grown (g := gb1127) (o := .cells #[.slice A0_0 l0_0.length c0_0, .slice A0_1 l0_1.length c0_1] 46 (0, 0)) (zK BK1127.out) hg (Kd.R_ne HO_4.out BK1127.out (by decide))); replace HO_4 := zM (hp_); replace HL1138_0 := zM (Kd.R_after (v := (.slice (some ⟨go23, 0, none⟩) x4_2.length co23)) (v1 := (.slice (some ⟨go23, 0, none⟩) x4_2.length co23)) (ok := (fun k_ => some k_ ≠ (.slice (some ad1138) t1135.length co16 : Value).ownBlock)) (by (with_reducible repeat (first | apply Kd.R_alloc | apply Kd.R_drewN | apply Kd.R_drew)); exact Kd.R_mono HL1138_0.out (fun _ hk => ⟨hk.2, hk.1⟩)) hg (.inl rfl)); replace HL1139_0 := zM (Kd.R_after (v := (.slice (some ⟨go23, 0, none⟩) x4_2.length co23)) (v1 := (.slice (some ⟨go23, 0, none⟩) x4_2.length co23)) (ok := (fun k_ => some k_ ≠ (.slice (some ad1138) t1135.length co16 : Value).ownBlock)) (by (with_reducible repeat (first | apply Kd.R_alloc | apply Kd.R_drewN | apply Kd.R_drew)); exact Kd.R_mono HL1139_0.out (fun _ hk => ⟨hk.2, hk.1⟩)) hg (.inl rfl)); replace HB := zM ((by rw [hw]; exact below_set (HB.out) GB23.out : Below w.heap.size w w25)); clear hg hw hp_))
                         go_roundg k2
                         case measure => have := HK1.out; have := HK2.out; omega
                         case rel => exact ⟨(y1141), (wrap64 (x7_2 + 1)), (by first | rfl | (simp; done) | (simp [*]; done)), H', ⟨by have := HK1.out; have := HK2.out; omega⟩, ⟨zR HO_4.out⟩, ⟨by (with_reducible repeat (first | apply Kd.S_alloc | apply Kd.S_drewN | apply Kd.S_drew)); exact Kd.S_mono HO_5.out (fun _ hk => hk.2)⟩, ⟨zK BK1127.out⟩, ⟨zB⟩⟩
                       · rw [if_neg c22] at H
                         exact absurd H (by simp)
                     · rw [if_neg c21] at H
                       exact absurd H (by simp)
                   · rw [if_neg c20] at H
                     exact absurd H (by simp)
                 · rw [if_neg c19] at H
                   have c19b0 : decide (x7_2 < ((rd_L4 t1135 x6_1).length : Int)) = false := decide_eq_false c19
                   clear c19
                   have H' := Aside0.mk H
                   clear H
                   have p1138 : 0 ≤ (x6_1 : Int) := of_decide_eq_true zA
                   have q1138 : x6_1 < (t1135.length : Int) := of_decide_eq_true zA
                   obtain ⟨ad1138, A1138_0, c1138_0, e1138, hx1138_0, hl1138_0, hi1138_0⟩ := at_L4 (Kd.S_reads' HO_5.out).2.2 x6_1 p1138 q1138
                   cases e1138
                   obtain ⟨ce1138, hce1138, hMe1138, hcc1138⟩ := Kd.S_get HO_5.out [] x6_1 p1138 (by first | exact q1138 | exact of_decide_eq_true zA | (have e_ := (Kd.S_reads' HO_5.out).1; omega))
                   obtain ⟨ve1138_0, rfl, ge1138_0⟩ := hMe1138
                   have hv1138_0 := hcc1138 0 _ rfl
                   rw [Nat.add_zero, show ((Kd.slice 3 (Kd.int .i64))).sz = 1 from rfl, Nat.mul_one] at hv1138_0
                   replace hv1138_0 := Option.some.inj (hv1138_0.symm.trans hx1138_0)
                   rw [hv1138_0] at ge1138_0
                   have HL1138_0 := zM (show Kd.R (Kd.int .i64) 3 _ _ _ _ (rd_L4 t1135 x6_1) from ge1138_0)
                   clear hv1138_0 ge1138_0
                   clear hcc1138 hce1138
                   have HR1138_0 := Aside0.mk hi1138_0
                   have HC1138_0 := Aside0.mk hl1138_0
                   clear hi1138_0 hl1138_0
                   replace p1138 := eq_true p1138
                   replace q1138 := eq_true q1138
                   go_wp2
                   go_roundg k2
                   case measure => have := HK1.out; have := HK2.out; omega
                   case rel => exact ⟨(x4_2), (wrap64 (x6_1 + 1)), (by first | rfl | (simp; done) | (simp [*]; done)), H', ⟨by have := HK1.out; have := HK2.out; omega⟩, ⟨zR HO_4.out⟩, ⟨by (with_reducible repeat (first | apply Kd.S_alloc | apply Kd.S_drewN | apply Kd.S_drew)); exact HO_5.out⟩, ⟨zK BK1127.out⟩, ⟨zB⟩⟩
               · rw [if_neg c18] at H
                 exact absurd H (by simp)
             · rw [if_neg c17] at H
               exact absurd H (by simp)
         · rw [if_neg c15] at H
           have c15b0 : decide (x6_1 < (t1135.length : Int)) = false := decide_eq_false c15
           clear c15
           simp only [Option.some.injEq, Prod.mk.injEq] at H
           obtain ⟨rfl, rfl⟩ := H
           obtain ⟨Ao26, co26, eo26⟩ := Kd.S_slice HO_5.out
           subst eo26
           go_wp2
           go_ret2
           exact ⟨_, by first | rfl | (simp [errW_none, errW_some] <;> rfl) | (simp [*, errW_none, errW_some] <;> rfl), by (with_reducible repeat (first | apply Kd.R_alloc | apply Kd.R_drewN | apply Kd.R_drew)); exact HO_4.out, zB⟩
     · rw [if_neg c5] at H
       exact absurd H (by simp)
   · rw [if_neg c4] at H
     exact absurd H (by simp)
 · replace c3 := Bool.eq_false_iff.mpr c3
   subst c3
   have H1 : (some ((([] : List Int)), false)) = some (r1, r2) := by rw [if_neg (show ¬ (false = true) by decide)] at H; exact H
   clear H
   have H := H1
   clear H1
   obtain ⟨y1129, hy1129⟩ : ∃ y_ : List Int, y_ = (([] : List Int)) := ⟨_, rfl⟩
   replace H : (some (y1129, false)) = some (r1, r2) := by first | (rw [hy1129]; with_reducible exact H) | (have H2_ := (Option.bind_some _ _).symm.trans H; rw [hy1129]; with_reducible exact H2_) | (have H2_ := (Option.bind_some _ _).symm.trans H; with_reducible exact H2_) | with_reducible exact H | (rw [hy1129]; exact H) | exact H
   have Ny1129 := Aside0.mk hy1129
   clear hy1129
   simp only [Option.some.injEq, Prod.mk.injEq] at H
   obtain ⟨rfl, rfl⟩ := H
   go_enter Try.func53, Try.ntmps53
   go_wp2_with (first | ((with_reducible refine gate_dst (N := 1) rfl ?_); refine zb (w := w) 1 #[.slice A0_0 l0_0.length c0_0, .slice A0_1 l0_1.length c0_1] 46 zB ?_; clear HB; intro gb1127 w27 HB BK1127 GW1127; have GE1127 := GW1127; have hcz28_0 := zy BK1127 0; have hcz28_1 := zy BK1127 1; have hfz28_0 := blk_frozen BK1127.out 0; have hfz28_1 := blk_frozen BK1127.out 1) | ((with_reducible refine gate_callee (f := 79) rfl ?_); refine zc 9 Try.func79 #[.agg #[.slice A0_0 l0_0.length c0_0, .slice A0_1 l0_1.length c0_1]] ?_; (with_reducible refine (spec_l2Space.calls k _ _ l0_0 _ _ l0_1 false _ ?side1 ?side2 ?side3 ?side4 A2.out).mono ?_); (case side1 => exact zC (Kd.C_below HR0_0.out HB.out)); (case side2 => exact HC0_0.out); (case side3 => exact zC (Kd.C_below HR0_1.out HB.out)); (case side4 => exact HC0_1.out); rintro e w29 ⟨rfl, hb⟩; refine ⟨_, rfl, ?_⟩; replace BK1127 := zM (blk_below (g := gb1127) (o := .cells #[.slice A0_0 l0_0.length c0_0, .slice A0_1 l0_1.length c0_1] 46 (0, 0)) (zK BK1127.out) hb); replace HB := zM (below_step zB hb); (try clear hb); (try clear hb2); (try clear hk); (try clear hi)) | ((with_reducible refine gate_dst (N := 11) rfl ?_); refine Kd.R_lit (Kd.int .i64) _ 3 ?hg (N := 11) ?hd (xs := ([] : List Int)) (inner := []) (ok := fun _ => True) (okp := fun _ => True) ?hr ?hp (fun _ hk => hk) trivial (Below.refl _ _) (Nat.le_refl _) (by simp) ?_; (case hd => rfl); (case hg => rfl); (case hr => first | (go_simp; done) | (go_simp; rfl)); (case hp => exact (Reps.none _ _)); intro v1130 w30 ho31 hb hg_ hnew_; clear hg_ hnew_; (first | rw [← Ny1129.out] at ho31 | (simp only [Int.reduceToNat] at ho31; rw [← Ny1129.out] at ho31)); have HO1131 := zM (Kd.R_lower ho31 (below_size zB)); replace BK1127 := zM (blk_below (g := gb1127) (o := .cells #[.slice A0_0 l0_0.length c0_0, .slice A0_1 l0_1.length c0_1] 46 (0, 0)) (zK BK1127.out) hb); replace HB := zM (below_step zB hb); clear hb ho31))
   go_ret2
   exact ⟨_, by first | rfl | (simp [errW_none, errW_some] <;> rfl) | (simp [*, errW_none, errW_some] <;> rfl), by (with_reducible repeat (first | apply Kd.R_alloc | apply Kd.R_drewN | apply Kd.R_drew)); exact HO1131.out, zB⟩

/-! ### impl_Space_labels: function 104 -/
mutual
def impl_Space_labels.l0 : Nat → List Int → List (List Int) → Int → Int → Option (List Int)
 | 0, _, _, _, _ => none
 | k + 1, x3, x14, x15, x16 => if x16 < x15 then (if 0 ≤ x16 then (if x16 < (x14.length : Int) then (impl_Space_labels.l1 k x3 x16 x14 x15 x16 (rd_L4 x14 x16) ((rd_L4 x14 x16).length : Int) 0) else (none)) else (none)) else (some x3)
def impl_Space_labels.l1 : Nat → List Int → Int → List (List Int) → Int → Int → List Int → Int → Int → Option (List Int)
 | 0, _, _, _, _, _, _, _, _ => none
 | k + 1, x3, x4, x14, x15, x16, x21, x22, x23 => if x23 < x22 then (if 0 ≤ x23 then (if x23 < (x21.length : Int) then (if 0 ≤ (rd x21 x23) then (if (rd x21 x23) < (x3.length : Int) then (impl_Space_labels.l1 k (x3.set ((rd x21 x23) : Int).toNat x4) x4 x14 x15 x16 x21 x22 (wrap64 (x23 + 1))) else (none)) else (none)) else (none)) else (none)) else (impl_Space_labels.l0 k x3 x14 x15 (wrap64 (x16 + 1)))
end
def impl_Space_labels.f (k : Nat) (l0_0 : List (List Int)) (l0_1 : List (S88)) : Option (List Int) := if 0 ≤ (l0_0.length : Int) then (if ((l0_0.length : Int) : Int).toNat ≤ 35184372088832 then ((impl_Space_roads.f k l0_0 l0_1).bind fun t1146 => ((impl_parts.f k t1146 (-1)).bind fun t1149 => (impl_Space_labels.l0 k (List.replicate ((l0_0.length : Int) : Int).toNat 0) t1149 (t1149.length : Int) 0))) else (none)) else (none)
set_option maxHeartbeats 8000000 in
set_option maxRecDepth 100000 in
theorem impl_Space_labels.calls (k : Nat) (A0_0 : Option Addr) (c0_0 : Nat) (l0_0 : List (List Int)) (A0_1 : Option Addr) (c0_1 : Nat) (l0_1 : List (S88)) (r : List Int) (w : World) (hr0_0 : Kd.C (Kd.slice 3 (Kd.int .i64)) w A0_0 l0_0.length l0_0) (hc0_0 : l0_0.length ≤ c0_0) (hr0_1 : Kd.C k88 w A0_1 l0_1.length l0_1) (hc0_1 : l0_1.length ≤ c0_1) (h : impl_Space_labels.f k l0_0 l0_1 = some r) :
 Calls Try.prog 104 #[.agg #[.slice A0_0 l0_0.length c0_0, .slice A0_1 l0_1.length c0_1]] w fun e w' => ∃ v0_ : Value, e = .returned (v0_) ∧ Kd.R (Kd.int .i64) 3 w' w.heap.size (fun _ => True) v0_ r ∧ Below w.heap.size w w' := by
 have hu46 := Try.underlying46
 have HR0_0 := Aside0.mk hr0_0
 have HC0_0 := Aside0.mk hc0_0
 clear hr0_0 hc0_0
 have HR0_1 := Aside0.mk hr0_1
 have HC0_1 := Aside0.mk hc0_1
 clear hr0_1 hc0_1
 have HB := zM (Below.refl w.heap.size w)
 have H : (if 0 ≤ (l0_0.length : Int) then (if ((l0_0.length : Int) : Int).toNat ≤ 35184372088832 then ((impl_Space_roads.f k l0_0 l0_1).bind fun t1146 => ((impl_parts.f k t1146 (-1)).bind fun t1149 => (impl_Space_labels.l0 k (List.replicate ((l0_0.length : Int) : Int).toNat 0) t1149 (t1149.length : Int) 0))) else (none)) else (none)) = some r := h
 clear h
 by_cases c2 : 0 ≤ (l0_0.length : Int)
 · rw [if_pos c2] at H
   have c2b0 := eq_true c2
   have c2b1 : decide (0 ≤ (l0_0.length : Int)) = true := decide_eq_true c2
   clear c2
   by_cases c3 : ((l0_0.length : Int) : Int).toNat ≤ 35184372088832
   · rw [if_pos c3] at H
     have c3b0 := eq_true c3
     have c3b1 : decide (((l0_0.length : Int) : Int).toNat ≤ 35184372088832) = true := decide_eq_true c3
     clear c3
     obtain ⟨y1143, hy1143⟩ : ∃ y_ : List Int, y_ = (List.replicate ((l0_0.length : Int) : Int).toNat 0) := ⟨_, rfl⟩
     replace H : ((impl_Space_roads.f k l0_0 l0_1).bind fun t1146 => ((impl_parts.f k t1146 (-1)).bind fun t1149 => (impl_Space_labels.l0 k y1143 t1149 (t1149.length : Int) 0))) = some r := by first | (rw [hy1143]; with_reducible exact H) | (have H2_ := (Option.bind_some _ _).symm.trans H; rw [hy1143]; with_reducible exact H2_) | (have H2_ := (Option.bind_some _ _).symm.trans H; with_reducible exact H2_) | with_reducible exact H | (rw [hy1143]; exact H) | exact H
     have Ny1143 := Aside0.mk hy1143
     clear hy1143
     replace H := Option.bind_eq_some_iff.mp H
     obtain ⟨t1146, A40, H⟩ := H
     have A4 := Aside0.mk A40
     clear A40
     replace H := Option.bind_eq_some_iff.mp H
     obtain ⟨t1149, A50, H⟩ := H
     have A5 := Aside0.mk A50
     clear A50
     have H' := Aside0.mk H
     clear H
     go_enter Try.func104, Try.ntmps104
     go_wp2_with (first | ((with_reducible refine gate_dst (N := 1) rfl ?_); refine zb (w := w) 1 #[.slice A0_0 l0_0.length c0_0, .slice A0_1 l0_1.length c0_1] 46 zB ?_; clear HB; intro gb1142 w6 HB BK1142 GW1142; have GE1142 := GW1142; have hcz7_0 := zy BK1142 0; have hcz7_1 := zy BK1142 1; have hfz7_0 := blk_frozen BK1142.out 0; have hfz7_1 := blk_frozen BK1142.out 1) | ((with_reducible refine gate_dst (N := 11) rfl ?_); refine Kd.R_make (Kd.int .i64) _ 3 rfl (N := 11) rfl 25 _ _ rfl (l0_0.length : Int) rfl rfl Try.underlying25 (.int .i64 0) 8 info3 rfl (by decide) (by omega) 0 (ok := fun _ => True) (okp := fun _ => True) rfl (fun _ hk => hk) trivial (of_decide_eq_true zA) (Nat.le_trans (Nat.mul_le_mul_right _ (of_decide_eq_true zA : (l0_0.length : Int).toNat ≤ 35184372088832)) (by omega)) (Below.refl _ _) (Nat.le_refl _) ?_; intro v1144 w8 ho9 hb hg_ hnew_; clear hg_ hnew_; (first | rw [← Ny1143.out] at ho9 | (simp only [Int.reduceToNat] at ho9; rw [← Ny1143.out] at ho9)); have HO1145 := zM (Kd.R_lower ho9 (below_size zB)); replace BK1142 := zM (blk_below (g := gb1142) (o := .cells #[.slice A0_0 l0_0.length c0_0, .slice A0_1 l0_1.length c0_1] 46 (0, 0)) (zK BK1142.out) hb); replace HB := zM (below_step zB hb); clear hb ho9; have hcz10_0 := zy BK1142 0; have hcz10_1 := zy BK1142 1; have hfz10_0 := blk_frozen BK1142.out 0; have hfz10_1 := blk_frozen BK1142.out 1) | ((with_reducible refine gate_callee (f := 91) rfl ?_); refine zc 13 Try.func91 #[.agg #[.slice A0_0 l0_0.length c0_0, .slice A0_1 l0_1.length c0_1]] ?_; (with_reducible refine (impl_Space_roads.calls k _ _ l0_0 _ _ l0_1 t1146 _ ?side1 ?side2 ?side3 ?side4 A4.out).mono ?_); (case side1 => exact zC (Kd.C_below HR0_0.out HB.out)); (case side2 => exact HC0_0.out); (case side3 => exact zC (Kd.C_below HR0_1.out HB.out)); (case side4 => exact HC0_1.out); rintro e w11 ⟨v1147, rfl, ho0, hb⟩; refine ⟨_, rfl, ?_⟩; have HO1148 := zM (Kd.S_lower (Kd.S_new' ho0 (Kd.R_lt (zR HO1145.out))) (below_size zB)); replace HO1145 := zM (Kd.R_below (zR HO1145.out) hb); replace BK1142 := zM (blk_below (g := gb1142) (o := .cells #[.slice A0_0 l0_0.length c0_0, .slice A0_1 l0_1.length c0_1] 46 (0, 0)) (zK BK1142.out) hb); replace HB := zM (below_step zB hb); (try clear hb); (try clear hb2); (try clear hk); (try clear hi); (try clear ho0); obtain ⟨Ao12, co12, eo12⟩ := Kd.S_slice HO1148.out; subst eo12) | ((with_reducible refine gate_callee (f := 101) rfl ?_); refine zc 14 Try.func101 #[.slice Ao12 t1146.length co12, .int .i64 (-1)] ?_; (with_reducible refine (impl_parts.calls k _ _ t1146 (-1) t1149 _ ?side1 ?side2 A5.out).mono ?_); (case side1 => exact zC (Kd.S_reads' HO1148.out).2.2); (case side2 => exact (Kd.S_reads' HO1148.out).2.1); rintro e w13 ⟨v1150, rfl, ho0, hb⟩; refine ⟨_, rfl, ?_⟩; have HO1151 := zM (Kd.S_lower (Kd.S_new' (Kd.S_new' ho0 (Kd.R_lt (zR HO1145.out))) (Kd.S_lt (by (with_reducible repeat (first | apply Kd.S_alloc | apply Kd.S_drewN | apply Kd.S_drew)); exact HO1148.out))) (below_size zB)); replace HO1145 := zM (Kd.R_below (zR HO1145.out) hb); replace HO1148 := zM (Kd.S_elder' (by (with_reducible repeat (first | apply Kd.S_alloc | apply Kd.S_drewN | apply Kd.S_drew)); exact HO1148.out) (Kd.S_base ho0) hb); replace BK1142 := zM (blk_below (g := gb1142) (o := .cells #[.slice A0_0 l0_0.length c0_0, .slice A0_1 l0_1.length c0_1] 46 (0, 0)) (zK BK1142.out) hb); replace HB := zM (below_step zB hb); (try clear hb); (try clear hb2); (try clear hk); (try clear hi); (try clear ho0); obtain ⟨Ao14, co14, eo14⟩ := Kd.S_slice HO1151.out; subst eo14))
     go_loopg [16] k (fun kq v16 w' => ∃ (x3_1 : List Int) (x16_1 : Int), v16 = .int .i64 x16_1 ∧ Aside0 (impl_Space_labels.l0 kq x3_1 t1149 (t1149.length : Int) x16_1 = some r) ∧ Aside0 (kq ≤ k) ∧ Aside0 (Kd.R (Kd.int .i64) 3 w' w.heap.size (fun _ => True) v1144 x3_1) ∧ Aside0 (Kd.S (Kd.slice 3 (Kd.int .i64)) 25 w' w.heap.size (fun k_ => some k_ ≠ (v1144 : Value).ownBlock) (.slice Ao14 t1149.length co14) t1149) ∧ Aside0 (w'.heap[gb1142]? = some (.cells #[(.slice A0_0 l0_0.length c0_0), (.slice A0_1 l0_1.length c0_1)] 46 (0, 0))) ∧ Aside0 (Below w.heap.size w w'))
     case atStart => exact ⟨(y1143), (0), (by first | rfl | (simp; done) | (simp [*]; done)), H', ⟨Nat.le_refl _⟩, ⟨zR HO1145.out⟩, ⟨by (with_reducible repeat (first | apply Kd.S_alloc | apply Kd.S_drewN | apply Kd.S_drew)); exact Kd.S_mono HO1151.out (fun _ hk => hk.1.2)⟩, ⟨zK BK1142.out⟩, ⟨zB⟩⟩
     case round =>
      clear H'
      try clear c1
      try clear c2
      try clear c2b0
      try clear c2b1
      try clear p2
      try clear c3
      try clear c3b0
      try clear c3b1
      try clear c9
      try clear c10
      try clear hcz10_0
      try clear hcz10_1
      try clear hcz7_0
      try clear hcz7_1
      try clear hfz10_0
      try clear hfz10_1
      try clear hfz7_0
      try clear hfz7_1
      obtain ⟨x3_1, x16_1, rfl, HA, HK1, HO_3, HO_14, BK1142, HB⟩ := hrel
      cases gk with
      | zero => exact absurd HA.out (by simp [impl_Space_labels.l0])
      | succ k1 =>
       have H := HA.out
       clear HA
       simp only [impl_Space_labels.l0] at H
       by_cases c15 : x16_1 < (t1149.length : Int)
       · rw [if_pos c15] at H
         have c15b0 := decide_eq_true c15
         clear c15
         by_cases c16 : 0 ≤ x16_1
         · rw [if_pos c16] at H
           have c16b0 := decide_eq_true c16
           clear c16
           by_cases c17 : x16_1 < (t1149.length : Int)
           · rw [if_pos c17] at H
             have c17b0 := decide_eq_true c17
             clear c17
             have H' := Aside0.mk H
             clear H
             have p1152 : 0 ≤ (x16_1 : Int) := of_decide_eq_true zA
             have q1152 : x16_1 < (t1149.length : Int) := of_decide_eq_true zA
             obtain ⟨ad1152, A1152_0, c1152_0, e1152, hx1152_0, hl1152_0, hi1152_0⟩ := at_L4 (Kd.S_reads' HO_14.out).2.2 x16_1 p1152 q1152
             cases e1152
             obtain ⟨ce1152, hce1152, hMe1152, hcc1152⟩ := Kd.S_get HO_14.out [] x16_1 p1152 (by first | exact q1152 | exact of_decide_eq_true zA | (have e_ := (Kd.S_reads' HO_14.out).1; omega))
             obtain ⟨ve1152_0, rfl, ge1152_0⟩ := hMe1152
             have hv1152_0 := hcc1152 0 _ rfl
             rw [Nat.add_zero, show ((Kd.slice 3 (Kd.int .i64))).sz = 1 from rfl, Nat.mul_one] at hv1152_0
             replace hv1152_0 := Option.some.inj (hv1152_0.symm.trans hx1152_0)
             rw [hv1152_0] at ge1152_0
             have HL1152_0 := zM (show Kd.R (Kd.int .i64) 3 _ _ _ _ (rd_L4 t1149 x16_1) from ge1152_0)
             clear hv1152_0 ge1152_0
             clear hcc1152 hce1152
             have HR1152_0 := Aside0.mk hi1152_0
             have HC1152_0 := Aside0.mk hl1152_0
             clear hi1152_0 hl1152_0
             replace p1152 := eq_true p1152
             replace q1152 := eq_true q1152
             go_wp2
             go_loopg [23] k1 (fun kq v23 w' => ∃ (x3_2 : List Int) (x23_2 : Int), v23 = .int .i64 x23_2 ∧ Aside0 (impl_Space_labels.l1 kq x3_2 x16_1 t1149 (t1149.length : Int) x16_1 (rd_L4 t1149 x16_1) ((rd_L4 t1149 x16_1).length : Int) x23_2 = some r) ∧ Aside0 (kq ≤ k1) ∧ Aside0 (Kd.R (Kd.int .i64) 3 w' w.heap.size (fun _ => True) v1144 x3_2) ∧ Aside0 (Kd.S (Kd.slice 3 (Kd.int .i64)) 25 w' w.heap.size (fun k_ => some k_ ≠ (v1144 : Value).ownBlock) (.slice (some ad1152) t1149.length co14) t1149) ∧ Aside0 (w'.heap[gb1142]? = some (.cells #[(.slice A0_0 l0_0.length c0_0), (.slice A0_1 l0_1.length c0_1)] 46 (0, 0))) ∧ Aside0 (Below w.heap.size w w') ∧ Aside0 (Kd.R (Kd.int .i64) 3 w' w.heap.size (fun k_ => some k_ ≠ (v1144 : Value).ownBlock) (.slice A1152_0 (rd_L4 t1149 x16_1).length c1152_0) (rd_L4 t1149 x16_1)))
             case atStart => exact ⟨(x3_1), (0), (by first | rfl | (simp; done) | (simp [*]; done)), H', ⟨Nat.le_refl _⟩, ⟨zR HO_3.out⟩, ⟨by (with_reducible repeat (first | apply Kd.S_alloc | apply Kd.S_drewN | apply Kd.S_drew)); exact HO_14.out⟩, ⟨zK BK1142.out⟩, ⟨zB⟩, ⟨zR (Kd.R_mono HL1152_0.out (fun _ hk => hk.1))⟩⟩
             case round =>
              clear H'
              try clear c1
              try clear p1
              try clear q1
              try clear hx1
              try clear c2
              try clear c2b0
              try clear c2b1
              try clear p2
              try clear c3
              try clear c3b0
              try clear c3b1
              try clear c9
              try clear c10
              try clear c11
              try clear p11
              try clear q11
              try clear hx11
              try clear c15
              try clear c15b0
              try clear c16
              try clear c16b0
              try clear c17
              try clear c17b0
              try clear hcz10_0
              try clear hcz10_1
              try clear hcz7_0
              try clear hcz7_1
              try clear hfz10_0
              try clear hfz10_1
              try clear hfz7_0
              try clear hfz7_1
              try clear hx1152_0
              try clear p1152
              try clear p2
              try clear q1152
              obtain ⟨x3_2, x23_2, rfl, HA, HK2, HO_3, HO_14, BK1142, HB, HLR_⟩ := hrel
              cases gk with
              | zero => exact absurd HA.out (by simp [impl_Space_labels.l1])
              | succ k2 =>
               have H := HA.out
               clear HA
               simp only [impl_Space_labels.l1] at H
               by_cases c18 : x23_2 < ((rd_L4 t1149 x16_1).length : Int)
               · rw [if_pos c18] at H
                 have c18b0 := decide_eq_true c18
                 clear c18
                 by_cases c19 : 0 ≤ x23_2
                 · rw [if_pos c19] at H
                   have c19b0 := decide_eq_true c19
                   clear c19
                   by_cases c20 : x23_2 < ((rd_L4 t1149 x16_1).length : Int)
                   · rw [if_pos c20] at H
                     have c20b0 := decide_eq_true c20
                     clear c20
                     by_cases c21 : 0 ≤ (rd (rd_L4 t1149 x16_1) x23_2)
                     · rw [if_pos c21] at H
                       have c21b0 := decide_eq_true c21
                       clear c21
                       by_cases c22 : (rd (rd_L4 t1149 x16_1) x23_2) < (x3_2.length : Int)
                       · rw [if_pos c22] at H
                         have c22b0 := decide_eq_true c22
                         clear c22
                         obtain ⟨y1154, hy1154⟩ : ∃ y_ : List Int, y_ = (x3_2.set ((rd (rd_L4 t1149 x16_1) x23_2) : Int).toNat x16_1) := ⟨_, rfl⟩
                         replace H : (impl_Space_labels.l1 k2 y1154 x16_1 t1149 (t1149.length : Int) x16_1 (rd_L4 t1149 x16_1) ((rd_L4 t1149 x16_1).length : Int) (wrap64 (x23_2 + 1))) = some r := by first | (rw [hy1154]; with_reducible exact H) | (have H2_ := (Option.bind_some _ _).symm.trans H; rw [hy1154]; with_reducible exact H2_) | (have H2_ := (Option.bind_some _ _).symm.trans H; with_reducible exact H2_) | with_reducible exact H | (rw [hy1154]; exact H) | exact H
                         have Ny1154 := Aside0.mk hy1154
                         clear hy1154
                         have H' := Aside0.mk H
                         clear H
                         have p1153 : 0 ≤ (x23_2 : Int) := of_decide_eq_true zA
                         have q1153 : x23_2 < ((rd_L4 t1149 x16_1).length : Int) := of_decide_eq_true zA
                         obtain ⟨ad1153, e1153, hx1153_0⟩ := Kd.at_int (Kd.R_reads' HLR_.out).2.2 x23_2 p1153 q1153
                         cases e1153
                         replace p1153 := eq_true p1153
                         replace q1153 := eq_true q1153
                         have p23 : 0 ≤ ((rd (rd_L4 t1149 x16_1) x23_2) : Int) := of_decide_eq_true zA
                         have q23 : ((rd (rd_L4 t1149 x16_1) x23_2) : Int) < ((x3_2.length : Int) : Int) := of_decide_eq_true zA
                         obtain ⟨go23, co23, eo23, gb23, gl23, cl23, HG23⟩ := Kd.R_form HO_3.out (by omega)
                         (first | cases eo23 | (injection eo23 with ea_ en_ ec_; (first | subst ea_ | (injection ea_ with ea_; subst ea_)); subst ec_; clear en_))
                         have GB23 := Aside0.mk gb23
                         have GG23 := Aside0.mk HG23
                         clear gb23 gl23 HG23
                         obtain ⟨hx23_0, hf23_0⟩ := Kd.R_celln 0 HO_3.out ((rd (rd_L4 t1149 x16_1) x23_2) : Int) p23 q23
                         replace p23 := eq_true p23
                         replace q23 := eq_true q23
                         have HP24 := Kd.R_putg HO_3.out ((rd (rd_L4 t1149 x16_1) x23_2) : Int) x16_1
                         go_wp2_with (first | ((with_reducible refine gate_store (t := 3) (p := 30) rfl ?_); refine store_event (t := 3) (p := 30) (v := ?vo_w25) (w1 := (wr.setCell ⟨go23, ((rd (rd_L4 t1149 x16_1) x23_2) : Int).toNat, none⟩ (.int .i64 x16_1))) ?hg ?ho ?hn ?hr ?_; (case ho => rfl); (case hg => rfl); (case hn => rfl); (case hr => first | (go_simp; done) | (go_simp; rfl)); intro w25 hw; have hg : wr.grownBy w25 (some go23) := (by rw [hw]; exact HP24.2); have hp_ : Kd.R (Kd.int .i64) 3 w25 w.heap.size (fun _ => True) (.slice (some ⟨go23, 0, none⟩) x3_2.length co23) y1154 := (by rw [hw, Ny1154.out]; exact HP24.1); clear HP24; replace HO_14 := zM (Kd.S_after (v := (.slice (some ⟨go23, 0, none⟩) x3_2.length co23)) (v1 := (.slice (some ⟨go23, 0, none⟩) x3_2.length co23)) (ok := (fun _ => True)) (by (with_reducible repeat (first | apply Kd.S_alloc | apply Kd.S_drewN | apply Kd.S_drew)); exact Kd.S_mono HO_14.out (fun _ hk => ⟨trivial, hk⟩)) hg (.inl rfl)); replace BK1142 := zM (blk_grown (g := gb1142) (o := .cells #[.slice A0_0 l0_0.length c0_0, .slice A0_1 l0_1.length c0_1] 46 (0, 0)) (zK BK1142.out) hg (Kd.R_ne HO_3.out BK1142.out (by decide))); replace HLR_ := zM (Kd.R_grown (zR HLR_.out) hg (fun _ hk => hk)); replace HO_3 := zM (hp_); replace HB := zM ((by rw [hw]; exact below_set (HB.out) GB23.out : Below w.heap.size w w25)); clear hg hw hp_))
                         go_roundg k2
                         case measure => have := HK1.out; have := HK2.out; omega
                         case rel => exact ⟨(y1154), (wrap64 (x23_2 + 1)), (by first | rfl | (simp; done) | (simp [*]; done)), H', ⟨by have := HK1.out; have := HK2.out; omega⟩, ⟨zR HO_3.out⟩, ⟨by (with_reducible repeat (first | apply Kd.S_alloc | apply Kd.S_drewN | apply Kd.S_drew)); exact Kd.S_mono HO_14.out (fun _ hk => hk.2)⟩, ⟨zK BK1142.out⟩, ⟨zB⟩, ⟨zR HLR_.out⟩⟩
                       · rw [if_neg c22] at H
                         exact absurd H (by simp)
                     · rw [if_neg c21] at H
                       exact absurd H (by simp)
                   · rw [if_neg c20] at H
                     exact absurd H (by simp)
                 · rw [if_neg c19] at H
                   exact absurd H (by simp)
               · rw [if_neg c18] at H
                 have c18b0 : decide (x23_2 < ((rd_L4 t1149 x16_1).length : Int)) = false := decide_eq_false c18
                 clear c18
                 have H' := Aside0.mk H
                 clear H
                 go_wp2
                 go_roundg k2
                 case measure => have := HK1.out; have := HK2.out; omega
                 case rel => exact ⟨(x3_2), (wrap64 (x16_1 + 1)), (by first | rfl | (simp; done) | (simp [*]; done)), H', ⟨by have := HK1.out; have := HK2.out; omega⟩, ⟨zR HO_3.out⟩, ⟨by (with_reducible repeat (first | apply Kd.S_alloc | apply Kd.S_drewN | apply Kd.S_drew)); exact HO_14.out⟩, ⟨zK BK1142.out⟩, ⟨zB⟩⟩
           · rw [if_neg c17] at H
             exact absurd H (by simp)
         · rw [if_neg c16] at H
           exact absurd H (by simp)
       · rw [if_neg c15] at H
         have c15b0 : decide (x16_1 < (t1149.length : Int)) = false := decide_eq_false c15
         clear c15
         obtain rfl := Option.some.inj H
         go_wp2
         go_ret
         exact ⟨_, by first | rfl | (simp [errW_none, errW_some] <;> rfl) | (simp [*, errW_none, errW_some] <;> rfl), by (with_reducible repeat (first | apply Kd.R_alloc | apply Kd.R_drewN | apply Kd.R_drew)); exact HO_3.out, zB⟩
   · rw [if_neg c3] at H
     exact absurd H (by simp)
 · rw [if_neg c2] at H
   exact absurd H (by simp)

end Go.Proofs.Ytnlmijnbfdhdkaa.P
namespace Go.Proofs.Ytnlmijnbfdhdkaa.P
open Go.RowKit Go.Proofs.YtnlmijnbfdhdkaaW.PrintWords Go.Proofs.YtnlmijnbfdhdkaaW.PrintLast Go.Proofs.YtnlmijnbfdhdkaaW.PrintMore
attribute [local go_sem] max2_int min2_int max_two min_two max_three min_three max_four min_four   -- for this text's walks alone
set_option linter.unusedVariables false
set_option linter.unusedSimpArgs false

/-! ### impl_PartLabels: function 54 -/
def impl_PartLabels.f (k : Nat) (l0_0 : List (List Int)) (l0_1 : List (S88)) : Option (List Int × Bool) := (impl_IsSpace.f k l0_0 l0_1).bind fun t1156 => (if t1156 = true then ((impl_Space_labels.f k l0_0 l0_1).bind fun t1157 => (some (t1157, true))) else (some (([] : List Int), false)))
set_option maxHeartbeats 8000000 in
set_option maxRecDepth 100000 in
theorem impl_PartLabels.calls (k : Nat) (A0_0 : Option Addr) (c0_0 : Nat) (l0_0 : List (List Int)) (A0_1 : Option Addr) (c0_1 : Nat) (l0_1 : List (S88)) (r1 : List Int) (r2 : Bool) (w : World) (hr0_0 : Kd.C (Kd.slice 3 (Kd.int .i64)) w A0_0 l0_0.length l0_0) (hc0_0 : l0_0.length ≤ c0_0) (hr0_1 : Kd.C k88 w A0_1 l0_1.length l0_1) (hc0_1 : l0_1.length ≤ c0_1) (h : impl_PartLabels.f k l0_0 l0_1 = some (r1, r2)) :
 Calls Try.prog 54 #[.agg #[.slice A0_0 l0_0.length c0_0, .slice A0_1 l0_1.length c0_1]] w fun e w' => ∃ v0_ : Value, e = .returned (.tuple #[v0_, .bool r2]) ∧ Kd.R (Kd.int .i64) 3 w' w.heap.size (fun _ => True) v0_ r1 ∧ Below w.heap.size w w' := by
 have hu46 := Try.underlying46
 have HR0_0 := Aside0.mk hr0_0
 have HC0_0 := Aside0.mk hc0_0
 clear hr0_0 hc0_0
 have HR0_1 := Aside0.mk hr0_1
 have HC0_1 := Aside0.mk hc0_1
 clear hr0_1 hc0_1
 have HB := zM (Below.refl w.heap.size w)
 have H : ((impl_IsSpace.f k l0_0 l0_1).bind fun t1156 => (if t1156 = true then ((impl_Space_labels.f k l0_0 l0_1).bind fun t1157 => (some (t1157, true))) else (some (([] : List Int), false)))) = some (r1, r2) := h
 clear h
 replace H := Option.bind_eq_some_iff.mp H
 obtain ⟨t1156, A20, H⟩ := H
 replace H : (if t1156 = true then ((impl_Space_labels.f k l0_0 l0_1).bind fun t1157 => (some (t1157, true))) else (some (([] : List Int), false))) = some (r1, r2) := H
 have A2 := Aside0.mk A20
 clear A20
 by_cases c3 : t1156 = true
 · subst c3
   have H1 : ((impl_Space_labels.f k l0_0 l0_1).bind fun t1157 => (some (t1157, true))) = some (r1, r2) := by rw [if_pos rfl] at H; exact H
   clear H
   have H := H1
   clear H1
   replace H := Option.bind_eq_some_iff.mp H
   obtain ⟨t1157, A40, H⟩ := H
   replace H : (some (t1157, true)) = some (r1, r2) := H
   have A4 := Aside0.mk A40
   clear A40
   simp only [Option.some.injEq, Prod.mk.injEq] at H
   obtain ⟨rfl, rfl⟩ := H
   go_enter Try.func54, Try.ntmps54
   go_wp2_with (first | ((with_reducible refine gate_dst (N := 1) rfl ?_); refine zb (w := w) 1 #[.slice A0_0 l0_0.length c0_0, .slice A0_1 l0_1.length c0_1] 46 zB ?_; clear HB; intro gb1155 w5 HB BK1155 GW1155; have GE1155 := GW1155; have hcz6_0 := zy BK1155 0; have hcz6_1 := zy BK1155 1; have hfz6_0 := blk_frozen BK1155.out 0; have hfz6_1 := blk_frozen BK1155.out 1) | ((with_reducible refine gate_callee (f := 83) rfl ?_); refine zc 5 Try.func83 #[.agg #[.slice A0_0 l0_0.length c0_0, .slice A0_1 l0_1.length c0_1]] ?_; (with_reducible refine (impl_IsSpace.calls k _ _ l0_0 _ _ l0_1 true _ ?side1 ?side2 ?side3 ?side4 A2.out).mono ?_); (case side1 => exact zC (Kd.C_below HR0_0.out HB.out)); (case side2 => exact HC0_0.out); (case side3 => exact zC (Kd.C_below HR0_1.out HB.out)); (case side4 => exact HC0_1.out); rintro e w7 ⟨rfl, hb⟩; refine ⟨_, rfl, ?_⟩; replace BK1155 := zM (blk_below (g := gb1155) (o := .cells #[.slice A0_0 l0_0.length c0_0, .slice A0_1 l0_1.length c0_1] 46 (0, 0)) (zK BK1155.out) hb); replace HB := zM (below_step zB hb); (try clear hb); (try clear hb2); (try clear hk); (try clear hi); have hcz8_0 := zy BK1155 0; have hcz8_1 := zy BK1155 1; have hfz8_0 := blk_frozen BK1155.out 0; have hfz8_1 := blk_frozen BK1155.out 1) | ((with_reducible refine gate_callee (f := 104) rfl ?_); refine zc 8 Try.func104 #[.agg #[.slice A0_0 l0_0.length c0_0, .slice A0_1 l0_1.length c0_1]] ?_; (with_reducible refine (impl_Space_labels.calls k _ _ l0_0 _ _ l0_1 t1157 _ ?side1 ?side2 ?side3 ?side4 A4.out).mono ?_); (case side1 => exact zC (Kd.C_below HR0_0.out HB.out)); (case side2 => exact HC0_0.out); (case side3 => exact zC (Kd.C_below HR0_1.out HB.out)); (case side4 => exact HC0_1.out); rintro e w9 ⟨v1158, rfl, ho0, hb⟩; refine ⟨_, rfl, ?_⟩; have HO1159 := zM (Kd.R_lower ho0 (below_size zB)); replace BK1155 := zM (blk_below (g := gb1155) (o := .cells #[.slice A0_0 l0_0.length c0_0, .slice A0_1 l0_1.length c0_1] 46 (0, 0)) (zK BK1155.out) hb); replace HB := zM (below_step zB hb); (try clear hb); (try clear hb2); (try clear hk); (try clear hi); (try clear ho0)))
   go_ret2
   exact ⟨_, by first | rfl | (simp [errW_none, errW_some] <;> rfl) | (simp [*, errW_none, errW_some] <;> rfl), by (with_reducible repeat (first | apply Kd.R_alloc | apply Kd.R_drewN | apply Kd.R_drew)); exact HO1159.out, zB⟩
 · replace c3 := Bool.eq_false_iff.mpr c3
   subst c3
   have H1 : (some (([] : List Int), false)) = some (r1, r2) := by rw [if_neg (show ¬ (false = true) by decide)] at H; exact H
   clear H
   have H := H1
   clear H1
   simp only [Option.some.injEq, Prod.mk.injEq] at H
   obtain ⟨rfl, rfl⟩ := H
   go_enter Try.func54, Try.ntmps54
   go_wp2_with (first | ((with_reducible refine gate_dst (N := 1) rfl ?_); refine zb (w := w) 1 #[.slice A0_0 l0_0.length c0_0, .slice A0_1 l0_1.length c0_1] 46 zB ?_; clear HB; intro gb1155 w10 HB BK1155 GW1155; have GE1155 := GW1155; have hcz11_0 := zy BK1155 0; have hcz11_1 := zy BK1155 1; have hfz11_0 := blk_frozen BK1155.out 0; have hfz11_1 := blk_frozen BK1155.out 1) | ((with_reducible refine gate_callee (f := 83) rfl ?_); refine zc 5 Try.func83 #[.agg #[.slice A0_0 l0_0.length c0_0, .slice A0_1 l0_1.length c0_1]] ?_; (with_reducible refine (impl_IsSpace.calls k _ _ l0_0 _ _ l0_1 false _ ?side1 ?side2 ?side3 ?side4 A2.out).mono ?_); (case side1 => exact zC (Kd.C_below HR0_0.out HB.out)); (case side2 => exact HC0_0.out); (case side3 => exact zC (Kd.C_below HR0_1.out HB.out)); (case side4 => exact HC0_1.out); rintro e w12 ⟨rfl, hb⟩; refine ⟨_, rfl, ?_⟩; replace BK1155 := zM (blk_below (g := gb1155) (o := .cells #[.slice A0_0 l0_0.length c0_0, .slice A0_1 l0_1.length c0_1] 46 (0, 0)) (zK BK1155.out) hb); replace HB := zM (below_step zB hb); (try clear hb); (try clear hb2); (try clear hk); (try clear hi)))
   go_ret2
   exact ⟨_, by first | rfl | (simp [errW_none, errW_some] <;> rfl) | (simp [*, errW_none, errW_some] <;> rfl), by first | exact Kd.R_nil _ _ _ _ _ | exact Kd.N_nil _ _ _ _ _ | exact Kd.V_nil _ _ _ _ _ | exact Kd.Q_nil _ _ _ _ _ | exact Kd.S_nil _ _ _ _ _, zB⟩

-- NOT PRINTED: function 14 (laws_FnExactPartLabels)

end Go.Proofs.Ytnlmijnbfdhdkaa.P
namespace Go.Proofs.Ytnlmijnbfdhdkaa.P
open Go.RowKit Go.Proofs.YtnlmijnbfdhdkaaW.PrintWords Go.Proofs.YtnlmijnbfdhdkaaW.PrintLast Go.Proofs.YtnlmijnbfdhdkaaW.PrintMore
attribute [local go_sem] max2_int min2_int max_two min_two max_three min_three max_four min_four   -- for this text's walks alone
set_option linter.unusedVariables false
set_option linter.unusedSimpArgs false

/-! ### laws_markIntS: function 25 -/
def laws_markIntS.l0 : Nat → List Int → Int → Int → Option (Int × List Int)
 | 0, _, _, _ => none
 | k + 1, x0, x1, x5 => if x5 < (x0.length : Int) then (if 0 ≤ x5 then (laws_markIntS.l0 k (x0.set (x5 : Int).toNat x1) (wrap64 (x1 + 1)) (wrap64 (x5 + 1))) else (none)) else (some (x1, x0))
def laws_markIntS.f (k : Nat) (l0 : List Int) (a1 : Int) : Option (Int × List Int) := laws_markIntS.l0 k l0 a1 0
set_option maxHeartbeats 8000000 in
set_option maxRecDepth 100000 in
theorem laws_markIntS.calls (k : Nat) (P0_ : Nat → Prop) (u9000_ : Value) (l0 : List Int) (a1 : Int) (r1 : Int) (r2 : List Int) (w0 w : World) (hB : Below w0.heap.size w0 w) (ho0 : Kd.R (Kd.int .i64) 3 w w0.heap.size P0_ u9000_ l0) (h : laws_markIntS.f k l0 a1 = some (r1, r2)) :
 Calls Try.prog 25 #[u9000_, .int .i64 a1] w fun e w' => e = .returned (.int .i64 r1) ∧ Kd.R (Kd.int .i64) 3 w' w0.heap.size (fun k_ => (P0_ k_ ∨ w.heap.size ≤ k_)) u9000_ r2 ∧ Below w0.heap.size w0 w' ∧ Kept w w' (fun k_ => P0_ k_) := by
 have HO0 := zM (show Kd.R (Kd.int .i64) 3 w w0.heap.size (fun k_ => (P0_ k_ ∨ w.heap.size ≤ k_)) u9000_ l0 from Kd.R_mono ho0 (fun k_ hk => (.inl hk)))
 have HK := zM (Kept.refl w (fun k_ => P0_ k_))
 have HW0 := Aside0.mk hB.size
 have HB := Aside0.mk hB
 clear hB
 have H : (laws_markIntS.l0 k l0 a1 0) = some (r1, r2) := h
 clear h
 have H' := Aside0.mk H
 clear H
 go_enter Try.func25, Try.ntmps25
 go_wp2
 go_loopg [1, 5] k (fun kq v1 v5 w' => ∃ (x0_1 : List Int) (x1_1 : Int) (x5_1 : Int), v1 = .int .i64 x1_1 ∧ v5 = .int .i64 x5_1 ∧ Aside0 (laws_markIntS.l0 kq x0_1 x1_1 x5_1 = some (r1, r2)) ∧ Aside0 (kq ≤ k) ∧ Aside0 (Kd.R (Kd.int .i64) 3 w' w0.heap.size (fun k_ => (P0_ k_ ∨ w.heap.size ≤ k_)) u9000_ x0_1) ∧ Aside0 (Kept w w' (fun k_ => P0_ k_)) ∧ Aside0 (Below w0.heap.size w0 w'))
 case atStart => exact ⟨(l0), (a1), (0), (by first | rfl | (simp; done) | (simp [*]; done)), (by first | rfl | (simp; done) | (simp [*]; done)), H', ⟨Nat.le_refl _⟩, ⟨zR HO0.out⟩, ⟨by repeat (first | (with_reducible first | exact HK.out | apply Kept.alloc | apply Kept.drewN | apply Kept.drew) | exact HK.out)⟩, ⟨zB⟩⟩
 case round =>
  clear H'
  try clear c2
  try clear p2
  obtain ⟨x0_1, x1_1, x5_1, rfl, rfl, HA, HK1, HO_0, HK, HB⟩ := hrel
  cases gk with
  | zero => exact absurd HA.out (by simp [laws_markIntS.l0])
  | succ k1 =>
   have H := HA.out
   clear HA
   simp only [laws_markIntS.l0] at H
   by_cases c3 : x5_1 < (x0_1.length : Int)
   · rw [if_pos c3] at H
     have c3b0 := decide_eq_true c3
     clear c3
     by_cases c4 : 0 ≤ x5_1
     · rw [if_pos c4] at H
       have c4b0 := decide_eq_true c4
       clear c4
       obtain ⟨y346, hy346⟩ : ∃ y_ : List Int, y_ = (x0_1.set (x5_1 : Int).toNat x1_1) := ⟨_, rfl⟩
       replace H : (laws_markIntS.l0 k1 y346 (wrap64 (x1_1 + 1)) (wrap64 (x5_1 + 1))) = some (r1, r2) := by first | (rw [hy346]; with_reducible exact H) | (have H2_ := (Option.bind_some _ _).symm.trans H; rw [hy346]; with_reducible exact H2_) | (have H2_ := (Option.bind_some _ _).symm.trans H; with_reducible exact H2_) | with_reducible exact H | (rw [hy346]; exact H) | exact H
       have Ny346 := Aside0.mk hy346
       clear hy346
       have H' := Aside0.mk H
       clear H
       obtain ⟨Ao6, co6, eo6⟩ := Kd.R_slice HO_0.out
       subst eo6
       have p5 : 0 ≤ (x5_1 : Int) := of_decide_eq_true zA
       have q5 : (x5_1 : Int) < ((x0_1.length : Int) : Int) := of_decide_eq_true zA
       obtain ⟨go5, co5, eo5, gb5, gl5, cl5, HG5⟩ := Kd.R_form HO_0.out (by omega)
       (first | cases eo5 | (injection eo5 with ea_ en_ ec_; (first | subst ea_ | (injection ea_ with ea_; subst ea_)); subst ec_; clear en_))
       have GB5 := Aside0.mk gb5
       have GG5 := Aside0.mk HG5
       clear gb5 gl5 HG5
       have HMgo5 := zM (show (P0_ go5 ∨ w.heap.size ≤ go5) from (HO_0.out.1 _ rfl))
       obtain ⟨hx5_0, hf5_0⟩ := Kd.R_celln 0 HO_0.out (x5_1 : Int) p5 q5
       replace p5 := eq_true p5
       replace q5 := eq_true q5
       have HP7 := Kd.R_putg HO_0.out (x5_1 : Int) x1_1
       go_wp2_with (first | ((with_reducible refine gate_store (t := 3) (p := 15) rfl ?_); refine store_event (t := 3) (p := 15) (v := ?vo_w8) (w1 := (wr.setCell ⟨go5, (x5_1 : Int).toNat, none⟩ (.int .i64 x1_1))) ?hg ?ho ?hn ?hr ?_; (case ho => rfl); (case hg => rfl); (case hn => rfl); (case hr => first | (go_simp; done) | (go_simp; rfl)); intro w8 hw; have hg : wr.grownBy w8 (some go5) := (by rw [hw]; exact HP7.2); have hp_ : Kd.R (Kd.int .i64) 3 w8 w0.heap.size (fun k_ => (P0_ k_ ∨ w.heap.size ≤ k_)) (.slice (some ⟨go5, 0, none⟩) x0_1.length co6) y346 := (by rw [hw, Ny346.out]; exact HP7.1); clear HP7; replace HB := zM ((by rw [hw]; exact below_set (HB.out) GB5.out : Below w0.heap.size w0 w8)); replace HK := zM (Kept.of_grown (S := (fun k_ => P0_ k_)) hg (by repeat (first | (with_reducible first | exact HK.out | apply Kept.alloc | apply Kept.drewN | apply Kept.drew) | exact HK.out)) (fun k_ e_ => (HO_0.out.1 k_ e_))); replace HO_0 := zM (hp_); clear hg hw hp_))
       go_roundg k1
       case measure => have := HK1.out; omega
       case rel => exact ⟨(y346), (wrap64 (x1_1 + 1)), (wrap64 (x5_1 + 1)), (by first | rfl | (simp; done) | (simp [*]; done)), (by first | rfl | (simp; done) | (simp [*]; done)), H', ⟨by have := HK1.out; omega⟩, ⟨zR HO_0.out⟩, ⟨by repeat (first | (with_reducible first | exact HK.out | apply Kept.alloc | apply Kept.drewN | apply Kept.drew) | exact HK.out)⟩, ⟨zB⟩⟩
     · rw [if_neg c4] at H
       exact absurd H (by simp)
   · rw [if_neg c3] at H
     have c3b0 : decide (x5_1 < (x0_1.length : Int)) = false := decide_eq_false c3
     clear c3
     simp only [Option.some.injEq, Prod.mk.injEq] at H
     obtain ⟨rfl, rfl⟩ := H
     obtain ⟨Ao9, co9, eo9⟩ := Kd.R_slice HO_0.out
     subst eo9
     go_wp2
     go_ret
     exact ⟨by first | rfl | (simp [errW_none, errW_some] <;> rfl) | (simp [*, errW_none, errW_some] <;> rfl), by (with_reducible repeat (first | apply Kd.R_alloc | apply Kd.R_drewN | apply Kd.R_drew)); exact HO_0.out, by repeat (first | (with_reducible first | exact HB.out | apply below_alloc | apply pw_below_drewN | apply below_drew1) | exact HB.out), by repeat (first | (with_reducible first | exact HK.out | apply Kept.alloc | apply Kept.drewN | apply Kept.drew) | exact HK.out)⟩

end Go.Proofs.Ytnlmijnbfdhdkaa.P
