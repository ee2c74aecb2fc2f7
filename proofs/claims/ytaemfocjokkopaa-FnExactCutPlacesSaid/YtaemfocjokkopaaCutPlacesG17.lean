/- The contract of (impl.Space).roads: out of the printed walk of all but its last loop, and a walk of that loop by hand. -/
import Derived.Test.YtaemfocjokkopaaCutPlacesG5
import Derived.Test.YtaemfocjokkopaaCutPlacesG16
import Derived.Handy
namespace Go.Proofs.Ytaemfocjokkopaa.P
open Go.RowKit Go.Proofs.YtaemfocjokkopaaW.PrintWords Go.Proofs.YtaemfocjokkopaaW.PrintLast Go.Proofs.YtaemfocjokkopaaW.PrintMore
attribute [local go_sem] max2_int min2_int max_two min_two max_three min_three max_four min_four   -- for this text's walks alone
set_option linter.unusedVariables false
set_option linter.unusedSimpArgs false

def sortRows : List (List Int) → Option (List (List Int))
  | [] => some []
  | l :: t => (slices_Sort_int_int.f l).bind fun a => (sortRows t).bind fun b => some (a :: b)
theorem sortRows_cons {l : List Int} {t z : List (List Int)} (h : sortRows (l :: t) = some z) : ∃ a b, slices_Sort_int_int.f l = some a ∧ sortRows t = some b ∧ z = a :: b := by
  rw [sortRows] at h
  obtain ⟨a, ha, h⟩ := Option.bind_eq_some_iff.mp h
  obtain ⟨b, hb, h⟩ := Option.bind_eq_some_iff.mp h
  exact ⟨a, b, ha, hb, (Option.some.inj h).symm⟩
theorem set_midR {α : Type} (done : List α) (l : List α) (m : Nat) (hd : done.length = m) (hm : m < l.length) (x : α) : (done ++ l.drop m).set m x = (done ++ [x]) ++ l.drop (m + 1) := by
  subst hd
  rw [List.drop_eq_getElem_cons hm, List.set_append_right _ _ (Nat.le_refl _), Nat.sub_self, List.set_cons_zero, List.append_assoc, List.singleton_append]
/-! ### impl_Space_roads: function 23 -/
def impl_Space_roads.l0 : Nat → List (List Int) → List (S54) → Int → Int → Option ((List (List Int)))
 | 0, _, _, _, _ => none
 | k + 1, x3, x13, x14, x15 => if x15 < x14 then (if 0 ≤ x15 then (if x15 < (x13.length : Int) then (if 0 ≤ ((rd_T54 x13 x15).f0) then (if ((rd_T54 x13 x15).f0) < (x3.length : Int) then (if (rd_L1 x3 ((rd_T54 x13 x15).f0)).length < 17592186044416 then ((some (x3.set (((rd_T54 x13 x15).f0) : Int).toNat ((rd_L1 x3 ((rd_T54 x13 x15).f0)) ++ [(rd_T54 x13 x15).f1]) : List (List Int))).bind fun y364 => (if 0 ≤ ((rd_T54 x13 x15).f1) then (if ((rd_T54 x13 x15).f1) < (x3.length : Int) then (if (rd_L1 y364 ((rd_T54 x13 x15).f1)).length < 17592186044416 then (impl_Space_roads.l0 k (y364.set (((rd_T54 x13 x15).f1) : Int).toNat ((rd_L1 y364 ((rd_T54 x13 x15).f1)) ++ [(rd_T54 x13 x15).f0])) x13 x14 (wrap64 (x15 + 1))) else (none)) else (none)) else (none))) else (none)) else (none)) else (none)) else (none)) else (none)) else (some x3)
def impl_Space_roads.g (k : Nat) (l0_0 : List (List Int)) (l0_1 : List (S54)) : Option ((List (List Int))) := if 0 ≤ (l0_0.length : Int) then (if ((l0_0.length : Int) : Int).toNat ≤ 11728124029610 then (impl_Space_roads.l0 k (List.replicate ((l0_0.length : Int) : Int).toNat []) l0_1 (l0_1.length : Int) 0) else (none)) else (none)
def impl_Space_roads.T5 : Bool × List (List Nat × List Nat) := (true, [([], []), ([], []), ([1], [1]), ([], []), ([], []), ([4], [4]), ([3, 5], [3, 5]), ([6], [6]), ([], []), ([8], [8]), ([9], [9]), ([7, 10], [7, 10]), ([0, 2, 0, 1, 2, 3, 4, 5, 6, 7, 8, 9, 10, 11], [0, 2]), ([12, 11, 11, 0, 1, 2, 3, 4, 5, 6, 7, 8, 9, 10, 11], [11, 12])])
def impl_Space_roads.B5 : List Nat := [0, 0, 2, 0, 0, 16, 56, 120, 0, 256, 768, 2040, 4095, 8191]
theorem impl_Space_roads.tab5 : rtab .any (opsOf Try.f23 5) = impl_Space_roads.T5 := by kernel_rfl
theorem impl_Space_roads.bits5 : waitsOk impl_Space_roads.T5.2 impl_Space_roads.B5 = true := by kernel_rfl
def impl_Space_roads.T6 : Bool × List (List Nat × List Nat) := (true, [([], []), ([], []), ([1], [1]), ([], []), ([], []), ([4], [4]), ([3, 5], [3, 5]), ([6], [6]), ([], []), ([8], [8]), ([9], [9]), ([7, 10], [7, 10]), ([0, 2, 0, 1, 2, 3, 4, 5, 6, 7, 8, 9, 10, 11], [0, 2]), ([12, 11, 11, 0, 1, 2, 3, 4, 5, 6, 7, 8, 9, 10, 11], [11, 12])])
def impl_Space_roads.B6 : List Nat := [0, 0, 2, 0, 0, 16, 56, 120, 0, 256, 768, 2040, 4095, 8191]
theorem impl_Space_roads.tab6 : rtab .any (opsOf Try.f23 6) = impl_Space_roads.T6 := by kernel_rfl
theorem impl_Space_roads.bits6 : waitsOk impl_Space_roads.T6.2 impl_Space_roads.B6 = true := by kernel_rfl
set_option maxHeartbeats 8000000 in
set_option maxRecDepth 100000 in
theorem impl_Space_roads.calls0 (k : Nat) (A0_0 : Option Addr) (c0_0 : Nat) (l0_0 : List (List Int)) (A0_1 : Option Addr) (c0_1 : Nat) (l0_1 : List (S54)) (r0 r : List (List Int)) (w : World) (hr0_0 : Kd.C (Kd.slice 3 (Kd.int .i64)) w A0_0 l0_0.length l0_0) (hc0_0 : l0_0.length ≤ c0_0) (hr0_1 : Kd.C k54 w A0_1 l0_1.length l0_1) (hc0_1 : l0_1.length ≤ c0_1) (h : impl_Space_roads.g k l0_0 l0_1 = some r0) (hsort : sortRows r0 = some r) :
 Calls Try.prog 23 #[.agg #[.slice A0_0 l0_0.length c0_0, .slice A0_1 l0_1.length c0_1]] w fun e w' => ∃ v0_ : Value, e = .returned (v0_) ∧ Kd.S (Kd.slice 3 (Kd.int .i64)) 27 w' w.heap.size (fun _ => True) v0_ r ∧ Below w.heap.size w w' := by
 have hu30 := Try.underlying30
 have hu54 := Try.underlying54
 have HR0_0 := Aside0.mk hr0_0
 have HC0_0 := Aside0.mk hc0_0
 clear hr0_0 hc0_0
 have HR0_1 := Aside0.mk hr0_1
 have HC0_1 := Aside0.mk hc0_1
 clear hr0_1 hc0_1
 have HSORT := zM hsort
 clear hsort
 have HB := zM (Below.refl w.heap.size w)
 have H : (if 0 ≤ (l0_0.length : Int) then (if ((l0_0.length : Int) : Int).toNat ≤ 11728124029610 then (impl_Space_roads.l0 k (List.replicate ((l0_0.length : Int) : Int).toNat []) l0_1 (l0_1.length : Int) 0) else (none)) else (none)) = some r0 := h
 clear h
 by_cases c2 : 0 ≤ (l0_0.length : Int)
 · rw [if_pos c2] at H
   have c2b0 := eq_true c2
   have c2b1 : decide (0 ≤ (l0_0.length : Int)) = true := decide_eq_true c2
   clear c2
   by_cases c3 : ((l0_0.length : Int) : Int).toNat ≤ 11728124029610
   · rw [if_pos c3] at H
     have c3b0 := eq_true c3
     have c3b1 : decide (((l0_0.length : Int) : Int).toNat ≤ 11728124029610) = true := decide_eq_true c3
     clear c3
     obtain ⟨y355, hy355⟩ : ∃ y_ : List (List Int), y_ = (List.replicate ((l0_0.length : Int) : Int).toNat []) := ⟨_, rfl⟩
     replace H : (impl_Space_roads.l0 k y355 l0_1 (l0_1.length : Int) 0) = some r0 := by first | (rw [hy355]; with_reducible exact H) | (have H2_ := (Option.bind_some _ _).symm.trans H; rw [hy355]; with_reducible exact H2_) | (have H2_ := (Option.bind_some _ _).symm.trans H; with_reducible exact H2_) | with_reducible exact H | (rw [hy355]; exact H) | exact H
     have Ny355 := Aside0.mk hy355
     clear hy355
     have H' := Aside0.mk H
     clear H
     go_enter Try.func23, Try.ntmps23
     go_wp2_with (first | ((with_reducible refine gate_dst (N := 1) rfl ?_); refine zb (w := w) 1 #[.slice A0_0 l0_0.length c0_0, .slice A0_1 l0_1.length c0_1] 30 zB ?_; clear HB; intro gb354 w4 HB BK354 GW354; have GE354 := GW354; have hcz5_0 := zy BK354 0; have hcz5_1 := zy BK354 1; have hfz5_0 := blk_frozen BK354.out 0; have hfz5_1 := blk_frozen BK354.out 1) | ((with_reducible refine gate_dst (N := 11) rfl ?_); refine Kd.S_make (Kd.slice 3 (Kd.int .i64)) _ 27 rfl (N := 11) rfl 22 _ _ rfl (l0_0.length : Int) rfl rfl Try.underlying22 (.slice none 0 0) 24 info27 rfl (by decide) (by omega) [] (ok := fun _ => True) (okp := fun _ => True) ⟨_, rfl, Kd.R_nil _ _ _ _ _⟩ (fun _ hk => hk) trivial (of_decide_eq_true zA) (Nat.le_trans (Nat.mul_le_mul_right _ (of_decide_eq_true zA : (l0_0.length : Int).toNat ≤ 11728124029610)) (by omega)) (Below.refl _ _) (Nat.le_refl _) ?_; intro v356 w6 ho7 hb hg_ hnew_; clear hg_ hnew_; (first | rw [← Ny355.out] at ho7 | (simp only [Int.reduceToNat] at ho7; rw [← Ny355.out] at ho7)); have HO357 := zM (Kd.S_lower ho7 (below_size zB)); replace BK354 := zM (blk_below (g := gb354) (o := .cells #[.slice A0_0 l0_0.length c0_0, .slice A0_1 l0_1.length c0_1] 30 (0, 0)) (zK BK354.out) hb); replace HB := zM (below_step zB hb); clear hb ho7; have hcz8_0 := zy BK354 0; have hcz8_1 := zy BK354 1; have hfz8_0 := blk_frozen BK354.out 0; have hfz8_1 := blk_frozen BK354.out 1))
     go_loopg [15] k (fun kq v15 w' => ∃ (x3_1 : List (List Int)) (x15_1 : Int), v15 = .int .i64 x15_1 ∧ Aside0 (impl_Space_roads.l0 kq x3_1 l0_1 (l0_1.length : Int) x15_1 = some r0) ∧ Aside0 (kq ≤ k) ∧ Aside0 (Kd.S (Kd.slice 3 (Kd.int .i64)) 27 w' w.heap.size (fun _ => True) v356 x3_1) ∧ Aside0 (w'.heap[gb354]? = some (.cells #[(.slice A0_0 l0_0.length c0_0), (.slice A0_1 l0_1.length c0_1)] 30 (0, 0))) ∧ Aside0 (Below w.heap.size w w'))
     case atStart => exact ⟨(y355), (0), (by first | rfl | (simp; done) | (simp [*]; done)), H', ⟨Nat.le_refl _⟩, ⟨by (with_reducible repeat (first | apply Kd.S_alloc | apply Kd.S_drewN | apply Kd.S_drew)); exact HO357.out⟩, ⟨zK BK354.out⟩, ⟨zB⟩⟩
     case round =>
      clear H'
      try clear c2
      try clear c2b0
      try clear c2b1
      try clear p2
      try clear c3
      try clear c3b0
      try clear c3b1
      try clear hcz5_0
      try clear hcz5_1
      try clear hcz8_0
      try clear hcz8_1
      try clear hfz5_0
      try clear hfz5_1
      try clear hfz8_0
      try clear hfz8_1
      obtain ⟨x3_1, x15_1, rfl, HA, HK1, HO_3, BK354, HB⟩ := hrel
      cases gk with
      | zero => exact absurd HA.out (by simp [impl_Space_roads.l0])
      | succ k1 =>
       have H := HA.out
       clear HA
       simp only [impl_Space_roads.l0] at H
       by_cases c9 : x15_1 < (l0_1.length : Int)
       · rw [if_pos c9] at H
         have c9b0 := decide_eq_true c9
         clear c9
         by_cases c10 : 0 ≤ x15_1
         · rw [if_pos c10] at H
           have c10b0 := decide_eq_true c10
           clear c10
           by_cases c11 : x15_1 < (l0_1.length : Int)
           · rw [if_pos c11] at H
             have c11b0 := decide_eq_true c11
             clear c11
             by_cases c12 : 0 ≤ ((rd_T54 l0_1 x15_1).f0)
             · rw [if_pos c12] at H
               have c12b0 := decide_eq_true c12
               clear c12
               by_cases c13 : ((rd_T54 l0_1 x15_1).f0) < (x3_1.length : Int)
               · rw [if_pos c13] at H
                 have c13b0 := decide_eq_true c13
                 clear c13
                 by_cases c14 : (rd_L1 x3_1 ((rd_T54 l0_1 x15_1).f0)).length < 17592186044416
                 · rw [if_pos c14] at H
                   have LMc14 := Aside0.mk c14
                   clear c14
                   obtain ⟨y361, hy361⟩ : ∃ y_ : List Int, y_ = ((rd_L1 x3_1 ((rd_T54 l0_1 x15_1).f0)) ++ [(rd_T54 l0_1 x15_1).f1]) := ⟨_, rfl⟩
                   replace H : ((some (x3_1.set (((rd_T54 l0_1 x15_1).f0) : Int).toNat y361 : List (List Int))).bind fun y364 => (if 0 ≤ ((rd_T54 l0_1 x15_1).f1) then (if ((rd_T54 l0_1 x15_1).f1) < (x3_1.length : Int) then (if (rd_L1 y364 ((rd_T54 l0_1 x15_1).f1)).length < 17592186044416 then (impl_Space_roads.l0 k1 (y364.set (((rd_T54 l0_1 x15_1).f1) : Int).toNat ((rd_L1 y364 ((rd_T54 l0_1 x15_1).f1)) ++ [(rd_T54 l0_1 x15_1).f0])) l0_1 (l0_1.length : Int) (wrap64 (x15_1 + 1))) else (none)) else (none)) else (none))) = some r0 := by first | (rw [hy361]; with_reducible exact H) | (have H2_ := (Option.bind_some _ _).symm.trans H; rw [hy361]; with_reducible exact H2_) | (have H2_ := (Option.bind_some _ _).symm.trans H; with_reducible exact H2_) | with_reducible exact H | (rw [hy361]; exact H) | exact H
                   have Ny361 := Aside0.mk hy361
                   clear hy361
                   obtain ⟨y364, hy364⟩ : ∃ y_ : List (List Int), y_ = (x3_1.set (((rd_T54 l0_1 x15_1).f0) : Int).toNat y361) := ⟨_, rfl⟩
                   replace H : (if 0 ≤ ((rd_T54 l0_1 x15_1).f1) then (if ((rd_T54 l0_1 x15_1).f1) < (x3_1.length : Int) then (if (rd_L1 y364 ((rd_T54 l0_1 x15_1).f1)).length < 17592186044416 then (impl_Space_roads.l0 k1 (y364.set (((rd_T54 l0_1 x15_1).f1) : Int).toNat ((rd_L1 y364 ((rd_T54 l0_1 x15_1).f1)) ++ [(rd_T54 l0_1 x15_1).f0])) l0_1 (l0_1.length : Int) (wrap64 (x15_1 + 1))) else (none)) else (none)) else (none)) = some r0 := by first | (rw [hy364]; with_reducible exact H) | (have H2_ := (Option.bind_some _ _).symm.trans H; rw [hy364]; with_reducible exact H2_) | (have H2_ := (Option.bind_some _ _).symm.trans H; with_reducible exact H2_) | with_reducible exact H | (rw [hy364]; exact H) | exact H
                   have Ny364 := Aside0.mk hy364
                   clear hy364
                   by_cases c16 : 0 ≤ ((rd_T54 l0_1 x15_1).f1)
                   · rw [if_pos c16] at H
                     have c16b0 := decide_eq_true c16
                     clear c16
                     by_cases c17 : ((rd_T54 l0_1 x15_1).f1) < (x3_1.length : Int)
                     · rw [if_pos c17] at H
                       have c17b0 := decide_eq_true c17
                       clear c17
                       by_cases c18 : (rd_L1 y364 ((rd_T54 l0_1 x15_1).f1)).length < 17592186044416
                       · rw [if_pos c18] at H
                         have LMc18 := Aside0.mk c18
                         clear c18
                         obtain ⟨y366, hy366⟩ : ∃ y_ : List Int, y_ = ((rd_L1 y364 ((rd_T54 l0_1 x15_1).f1)) ++ [(rd_T54 l0_1 x15_1).f0]) := ⟨_, rfl⟩
                         replace H : (impl_Space_roads.l0 k1 (y364.set (((rd_T54 l0_1 x15_1).f1) : Int).toNat y366) l0_1 (l0_1.length : Int) (wrap64 (x15_1 + 1))) = some r0 := by first | (rw [hy366]; with_reducible exact H) | (have H2_ := (Option.bind_some _ _).symm.trans H; rw [hy366]; with_reducible exact H2_) | (have H2_ := (Option.bind_some _ _).symm.trans H; with_reducible exact H2_) | with_reducible exact H | (rw [hy366]; exact H) | exact H
                         have Ny366 := Aside0.mk hy366
                         clear hy366
                         obtain ⟨y369, hy369⟩ : ∃ y_ : List (List Int), y_ = (y364.set (((rd_T54 l0_1 x15_1).f1) : Int).toNat y366) := ⟨_, rfl⟩
                         replace H : (impl_Space_roads.l0 k1 y369 l0_1 (l0_1.length : Int) (wrap64 (x15_1 + 1))) = some r0 := by first | (rw [hy369]; with_reducible exact H) | (have H2_ := (Option.bind_some _ _).symm.trans H; rw [hy369]; with_reducible exact H2_) | (have H2_ := (Option.bind_some _ _).symm.trans H; with_reducible exact H2_) | with_reducible exact H | (rw [hy369]; exact H) | exact H
                         have Ny369 := Aside0.mk hy369
                         clear hy369
                         have H' := Aside0.mk H
                         clear H
                         have p358 : 0 ≤ (x15_1 : Int) := of_decide_eq_true zA
                         have q358 : x15_1 < (l0_1.length : Int) := of_decide_eq_true zA
                         obtain ⟨ad358, e358, hx358_0, hx358_1⟩ := at_T54 HR0_1.out x15_1 p358 q358
                         cases e358
                         (try replace hx358_0 := (HB.out.cell (World.block_lt_of_cell? w _ hx358_0)).trans hx358_0)
                         (try replace hx358_1 := (HB.out.cell (World.block_lt_of_cell? w _ hx358_1)).trans hx358_1)
                         replace p358 := eq_true p358
                         replace q358 := eq_true q358
                         try go_wp2_with (first | ((with_reducible refine gate_dst (N := 5) rfl ?_); refine ze 5 #[.int .i64 0, .int .i64 0] 54 ?_; intro gb359 hg w20 hbox hb; replace HO_3 := zM (Kd.S_below (by (with_reducible repeat (first | apply Kd.S_alloc | apply Kd.S_drewN | apply Kd.S_drew)); exact HO_3.out) hb); have BK359 := zM (hbox); have GW359 := zM ((by rw [hg]; exact (below_size zB) : w.heap.size ≤ gb359)); have GE359 := zM ((by rw [hg]; exact (below_size zB) : w.heap.size ≤ gb359)); replace HB := zM (below_step zB hb); have NB354_359 := zM ((by rw [hg]; exact Nat.ne_of_lt (blk_lt (g := gb354) (o := .cells #[.slice A0_0 l0_0.length c0_0, .slice (some ad358) l0_1.length c0_1] 30 (0, 0)) (zK BK354.out)) : gb354 ≠ gb359)); have NB359_354 := zM ((by rw [hg]; exact Nat.ne_of_gt (blk_lt (g := gb354) (o := .cells #[.slice A0_0 l0_0.length c0_0, .slice (some ad358) l0_1.length c0_1] 30 (0, 0)) (zK BK354.out)) : gb359 ≠ gb354)); replace BK354 := zM (blk_below (g := gb354) (o := .cells #[.slice A0_0 l0_0.length c0_0, .slice (some ad358) l0_1.length c0_1] 30 (0, 0)) (zK BK354.out) hb); clear hb hbox hg; have hnb21 := NB359_354.out; have hnc21 := NB354_359.out; have hcz22_0 := zy BK359 0; have hcz22_1 := zy BK359 1; have hfz22_0 := blk_frozen BK359.out 0; have hfz22_1 := blk_frozen BK359.out 1))
                         have n0_ : Aside0 (Kd.S (Kd.slice 3 (Kd.int .i64)) 27 ((w20.setCell ⟨gb359, 0, none⟩ (.int .i64 ((rd_T54 l0_1 x15_1).f0))).setCell ⟨gb359, 1, none⟩ (.int .i64 ((rd_T54 l0_1 x15_1).f1))) w.heap.size (fun _ => True) v356 x3_1) := ⟨by (with_reducible repeat (first | apply Kd.S_alloc | apply Kd.S_drewN | apply Kd.S_drew)); exact Kd.S_mono (Kd.S_far (p := ⟨gb359, 1, none⟩) (Kd.S_far (p := ⟨gb359, 0, none⟩) (Kd.S_types HO_3.out BK359.out (by decide)) (fun _ hk => hk.2) (.int .i64 ((rd_T54 l0_1 x15_1).f0))) (fun _ hk => hk.2) (.int .i64 ((rd_T54 l0_1 x15_1).f1))) (fun _ hk => trivial)⟩
                         have n1_ : Aside0 (((w20.setCell ⟨gb359, 0, none⟩ (.int .i64 ((rd_T54 l0_1 x15_1).f0))).setCell ⟨gb359, 1, none⟩ (.int .i64 ((rd_T54 l0_1 x15_1).f1))).heap[gb354]? = some (.cells #[.slice A0_0 l0_0.length c0_0, .slice (some ad358) l0_1.length c0_1] 30 (0, 0))) := ⟨by (with_reducible repeat (first | refine blk_drewN ?_ _ | refine blk_drew ?_ | refine blk_alloc ?_ _)); refine blk_far ?_ NB354_359.out _; (with_reducible repeat (first | refine blk_drewN ?_ _ | refine blk_drew ?_ | refine blk_alloc ?_ _)); refine blk_far ?_ NB354_359.out _; (with_reducible repeat (first | refine blk_drewN ?_ _ | refine blk_drew ?_ | refine blk_alloc ?_ _)); exact BK354.out⟩
                         have n2_ : Aside0 (((w20.setCell ⟨gb359, 0, none⟩ (.int .i64 ((rd_T54 l0_1 x15_1).f0))).setCell ⟨gb359, 1, none⟩ (.int .i64 ((rd_T54 l0_1 x15_1).f1))).heap[gb359]? = some (.cells #[.int .i64 ((rd_T54 l0_1 x15_1).f0), .int .i64 ((rd_T54 l0_1 x15_1).f1)] 54 (0, 0))) := ⟨by (with_reducible repeat (first | refine blk_drewN ?_ _ | refine blk_drew ?_ | refine blk_alloc ?_ _)); refine blk_put (cs := #[.int .i64 ((rd_T54 l0_1 x15_1).f0), .int .i64 0]) ?_ 1 _ rfl; (with_reducible repeat (first | refine blk_drewN ?_ _ | refine blk_drew ?_ | refine blk_alloc ?_ _)); refine blk_put (cs := #[.int .i64 0, .int .i64 0]) ?_ 0 _ rfl; (with_reducible repeat (first | refine blk_drewN ?_ _ | refine blk_drew ?_ | refine blk_alloc ?_ _)); exact BK359.out⟩
                         have n3_ : Aside0 (Below w.heap.size w ((w20.setCell ⟨gb359, 0, none⟩ (.int .i64 ((rd_T54 l0_1 x15_1).f0))).setCell ⟨gb359, 1, none⟩ (.int .i64 ((rd_T54 l0_1 x15_1).f1)))) := ⟨zB⟩
                         (try clear HO_3)
                         (try clear BK354)
                         (try clear BK359)
                         (try clear HB)
                         generalize ((w20.setCell ⟨gb359, 0, none⟩ (.int .i64 ((rd_T54 l0_1 x15_1).f0))).setCell ⟨gb359, 1, none⟩ (.int .i64 ((rd_T54 l0_1 x15_1).f1))) = w23 at n0_ n1_ n2_ n3_ ⊢
                         have HO_3 := n0_
                         have BK354 := n1_
                         have BK359 := n2_
                         have HB := n3_
                         clear n0_ n1_ n2_ n3_
                         replace HO_3 := zM (Kd.S_drew HO_3.out)
                         replace BK354 := zM (blk_drew BK354.out)
                         replace BK359 := zM (blk_drew BK359.out)
                         replace HB := zM (below_drew1 HB.out)
                         obtain ⟨Ao25, co25, eo25⟩ := Kd.S_slice HO_3.out
                         (first | subst eo25 | (injection eo25 with f1_ f2_ f3_; have f4_ := f1_.symm; have f5_ := f3_.symm; clear f1_ f2_ f3_; subst f4_; subst f5_))
                         have p360 : 0 ≤ (((rd_T54 l0_1 x15_1).f0) : Int) := of_decide_eq_true zA
                         have q360 : ((rd_T54 l0_1 x15_1).f0) < (x3_1.length : Int) := of_decide_eq_true zA
                         obtain ⟨ad360, A360_0, c360_0, e360, hx360_0, hl360_0, hi360_0⟩ := at_L1 (Kd.S_reads' HO_3.out).2.2 ((rd_T54 l0_1 x15_1).f0) p360 q360
                         cases e360
                         obtain ⟨ce360, hce360, hMe360, hcc360⟩ := Kd.S_get HO_3.out [] ((rd_T54 l0_1 x15_1).f0) p360 (by first | exact q360 | exact of_decide_eq_true zA | (have e_ := (Kd.S_reads' HO_3.out).1; omega))
                         obtain ⟨ve360_0, rfl, ge360_0⟩ := hMe360
                         have hv360_0 := hcc360 0 _ rfl
                         rw [Nat.add_zero, show ((Kd.slice 3 (Kd.int .i64))).sz = 1 from rfl, Nat.mul_one] at hv360_0
                         replace hv360_0 := Option.some.inj (hv360_0.symm.trans hx360_0)
                         rw [hv360_0] at ge360_0
                         have HL360_0 := zM (show Kd.R (Kd.int .i64) 3 _ _ _ _ (rd_L1 x3_1 ((rd_T54 l0_1 x15_1).f0)) from ge360_0)
                         clear hv360_0 ge360_0
                         have HX360_0 := Aside0.mk hx360_0
                         clear hcc360 hce360
                         have HR360_0 := Aside0.mk hi360_0
                         have HC360_0 := Aside0.mk hl360_0
                         clear hi360_0 hl360_0
                         replace p360 := eq_true p360
                         replace q360 := eq_true q360
                         obtain ⟨go26, co26, eo26, gb26, gl26, cl26, HG26⟩ := Kd.S_form HO_3.out (by have h_ : (((rd_T54 l0_1 x15_1).f0) : Int) < ((x3_1.length : Int) : Int) := of_decide_eq_true zA; have h2_ : 0 ≤ (((rd_T54 l0_1 x15_1).f0) : Int) := (of_decide_eq_true zA); omega)
                         (first | cases eo26 | (injection eo26 with ea_ en_ ec_; (first | subst ea_ | (injection ea_ with ea_; subst ea_)); subst ec_; clear en_))
                         have GB26 := Aside0.mk gb26
                         have GG26 := Aside0.mk HG26
                         clear gb26 gl26 HG26
                         (first | simp only [add_plain] at hx360_0 | skip)
                         obtain ⟨oki26, ce26, hcl26, hM26, hcc26, _, _, hH26⟩ := Kd.S_elem HO_3.out [] (((rd_T54 l0_1 x15_1).f0) : Int) (of_decide_eq_true zA) (by have h_ : (((rd_T54 l0_1 x15_1).f0) : Int) < ((x3_1.length : Int) : Int) := of_decide_eq_true zA; first | exact h_ | (have e_ := (Kd.S_reads' HO_3.out).1; omega) | simpa using h_)
                         obtain ⟨ve26_0, rfl, ge26_0⟩ := hM26
                         have hv26 := hcc26 0 _ rfl
                         have hX26 := HX360_0.out
                         (try simp only [add_plain] at hX26)
                         (try simp only [Nat.add_zero] at hv26)
                         (try rw [show ((Kd.slice 3 (Kd.int .i64))).sz = 1 from rfl, Nat.mul_one] at hv26)
                         replace hv26 := Option.some.inj (hv26.symm.trans hX26)
                         subst hv26
                         clear hX26 hcc26 hcl26
                         have UU26 := zM (show Kd.R (Kd.int .i64) 3 _ w.heap.size oki26 (.slice A360_0 (rd_L1 x3_1 ((rd_T54 l0_1 x15_1).f0)).length c360_0) (rd_L1 x3_1 ((rd_T54 l0_1 x15_1).f0)) from ge26_0)
                         have HH26 := Aside0.mk hH26
                         have HN26 := zM (Kd.S_reads' HO_3.out).1
                         clear hH26 ge26_0
                         refine start_ (n := 14) (S := fun w' => w'.cell? ⟨gb359, 0, none⟩ = some (.int .i64 ((rd_T54 l0_1 x15_1).f0)) ∧ w'.cell? ⟨gb359, 1, none⟩ = some (.int .i64 ((rd_T54 l0_1 x15_1).f1)) ∧ w'.cell? ⟨go26, (((rd_T54 l0_1 x15_1).f0)).toNat, none⟩ = some (.slice A360_0 (rd_L1 x3_1 ((rd_T54 l0_1 x15_1).f0)).length c360_0)) (ds := [13]) #[false, false, false, false, false, false, false, false, false, false, false, false, false, false] (by kernel_rfl) rfl rfl ⟨(blk_cell BK359.out 0).trans rfl, (blk_cell BK359.out 1).trans rfl, hx360_0⟩ (fun hHeld => ?_); refine with_tabW impl_Space_roads.tab5 impl_Space_roads.bits5 (fun HT_ HW_ => ?_)
                         generalize w23.drew = w24 at HO_3 BK354 BK359 HB GG26 HH26 HL360_0 HR360_0 HX360_0 UU26 hx360_0 hHeld ⊢
                         refine zp HT_ 0 19 ?_
                         refine zp HT_ 1 20 ?_
                         refine zp HT_ 3 22 ?_
                         refine zp HT_ 4 23 ?_
                         refine zp HT_ 8 27 ?_
                         refine zt HT_ HW_ 2 21 hHeld ?_ (hy := by rintro w' ⟨s0, s1, s2⟩; go_simp; with_reducible rfl)
                         refine zt HT_ HW_ 5 24 hHeld ?_ (hy := by rintro w' ⟨s0, s1, s2⟩; go_simp; with_reducible rfl)
                         refine zp HT_ 6 25 ?_
                         refine zt HT_ HW_ 7 26 hHeld ?_ (hy := by rintro w' ⟨s0, s1, s2⟩; go_simp; with_reducible rfl)
                         refine zt HT_ HW_ 9 28 hHeld ?_ (hy := by rintro w' ⟨s0, s1, s2⟩; go_simp; with_reducible rfl)
                         refine one_ (i := 10) (N := some 29) #[true, true, true, true, true, true, true, true, true, true, true, false, false, false] rfl rfl (one_of HT_.out (by kernel_rfl)) (by decide) (fun K hK => ?_)
                         refine value_ (w1 := ?_) (v := ?_) (by rfl) rfl ?_ ?_
                         rotate_left 2
                         · go_simp
                           constructor
                           · rfl
                           · rfl
                         refine hK.out _ _ ⟨(blk_cell (blk_alloc BK359.out _) 0).trans rfl, (blk_cell (blk_alloc BK359.out _) 1).trans rfl, (World.cell?_alloc_lt _ _ _ (World.block_lt_of_cell? _ _ (hHeld.2.2))).trans (hHeld.2.2)⟩ (fun hHeld => ?_)
                         clear hK K
                         refine zn 29 ?_
                         refine one_ (i := 11) (N := some 30) #[true, true, true, true, true, true, true, true, true, true, true, true, false, false] rfl rfl (one_of HT_.out (by kernel_rfl)) (by decide) (fun K hK => ?_)
                         refine Kd.R_append_step (Kd.int .i64) (w0 := w) w.heap.size (by rfl) (.tmp 26) (.tmp 29) 27 3 (.int .i64 0) 8 rfl Try.underlying27 info3 rfl (by decide) (by omega) (.slice A360_0 (rd_L1 x3_1 ((rd_T54 l0_1 x15_1).f0)).length c360_0) (rd_L1 x3_1 ((rd_T54 l0_1 x15_1).f0)) ((rd_T54 l0_1 x15_1).f1) [.int .i64 ((rd_T54 l0_1 x15_1).f1)] (fun k_ => oki26 k_ ∨ ((fun _ => True)) k_ ∧ w24.heap.size ≤ k_) (fun _ => False) rfl rfl ?aP (fun _ hk => hk.elim) ?aF ?aO ?aB ?aS ?aL ?_
                         (case aP => exact rfl)
                         (case aB => exact zB)
                         (case aF => exact (fun k_ hk => .inr ⟨trivial, hk⟩))
                         (case aO => exact (by (with_reducible repeat (first | apply Kd.R_alloc | apply Kd.R_drewN | apply Kd.R_drew)); exact Kd.R_mono UU26.out (fun _ hk => .inl hk)))
                         (case aS => exact (below_size zB))
                         (case aL => have := LMc14.out; omega)
                         intro v362 w27 ho hb hg hat
                         (first | have HS2_ := Go.Proofs.YtaemfocjokkopaaW.PrintWords.cell_grown hg (hHeld.2.2) (by first | (rw [add_block]; exact (fun e_ => ((HL360_0.out.1 _ e_.symm).2) rfl)) | (show some (Addr.add _ _).block ≠ _; rw [add_block]; exact (fun e_ => ((HL360_0.out.1 _ e_.symm).2) rfl)) | exact (fun e_ => ((HL360_0.out.1 _ e_.symm).2) rfl)) | have HS2_ := Go.Proofs.YtaemfocjokkopaaW.PrintWords.cell_grown hg (cell_unalloc (hHeld.2.2) (by first | (rw [add_block]; exact Kd.S_lt HO_3.out _ rfl) | (show (Addr.add _ _).block < _; rw [add_block]; exact Kd.S_lt HO_3.out _ rfl) | exact Kd.S_lt HO_3.out _ rfl)) (by first | (rw [add_block]; exact (fun e_ => ((HL360_0.out.1 _ e_.symm).2) rfl)) | (show some (Addr.add _ _).block ≠ _; rw [add_block]; exact (fun e_ => ((HL360_0.out.1 _ e_.symm).2) rfl)) | exact (fun e_ => ((HL360_0.out.1 _ e_.symm).2) rfl)))
                         rw [← Ny361.out] at ho
                         replace BK354 := zM (blk_grown (g := gb354) (o := .cells #[.slice A0_0 l0_0.length c0_0, .slice (some ad358) l0_1.length c0_1] 30 (0, 0)) (zK BK354.out) hg (Kd.R_ne HL360_0.out BK354.out (by decide)))
                         replace BK359 := zM (blk_grown (g := gb359) (o := .cells #[.int .i64 ((rd_T54 l0_1 x15_1).f0), .int .i64 ((rd_T54 l0_1 x15_1).f1)] 54 (0, 0)) (zK BK359.out) hg (Kd.R_ne HL360_0.out BK359.out (by decide)))
                         replace HB := zM (hb)
                         replace HH26 := zM (Kd.H_grown (Kd.H_widen (by repeat (first | exact HH26.out | refine Kd.H_alloc ?_ _ | refine Kd.H_drewN ?_ _ | refine Kd.H_drew ?_))) hg (fun k_ e_ => .inl (UU26.out.1 k_ e_)))
                         have HO363 := zM (ho)
                         clear HO_3 UU26 HL360_0
                         clear ho hb hg hat
                         have p15 : 0 ≤ (((rd_T54 l0_1 x15_1).f0) : Int) := of_decide_eq_true zA
                         have q15 : (((rd_T54 l0_1 x15_1).f0) : Int) < ((x3_1.length : Int) : Int) := of_decide_eq_true zA
                         replace p15 := eq_true p15
                         replace q15 := eq_true q15
                         obtain ⟨Ao30, co30, eo30⟩ := Kd.R_slice HO363.out
                         (first | subst eo30 | (injection eo30 with f1_ f2_ f3_; have f4_ := f1_.symm; have f5_ := f3_.symm; clear f1_ f2_ f3_; subst f4_; subst f5_))
                         obtain ⟨_, _, hraw28, _, _, hcc28, _⟩ := Kd.H_raw HH26.out (of_decide_eq_true zA) (by have h_ : (((rd_T54 l0_1 x15_1).f0) : Int) < ((x3_1.length : Int) : Int) := of_decide_eq_true zA; first | exact h_ | (have e_ := (HN26.out); omega) | simpa using h_)
                         obtain ⟨_, hfr28⟩ := Kd.H_at HH26.out (of_decide_eq_true zA) (by have h_ : (((rd_T54 l0_1 x15_1).f0) : Int) < ((x3_1.length : Int) : Int) := of_decide_eq_true zA; first | exact h_ | (have e_ := (HN26.out); omega) | simpa using h_)
                         have hx28_0 := hcc28 0 _ rfl
                         have hf28_0 := hfr28 0
                         (try simp only [Nat.add_zero] at hx28_0 hf28_0)
                         (try rw [show ((Kd.slice 3 (Kd.int .i64))).sz = 1 from rfl, Nat.mul_one] at hx28_0)
                         (try rw [show ((Kd.slice 3 (Kd.int .i64))).sz = 1 from rfl, Nat.mul_one] at hf28_0)
                         have HP28 := Kd.S_seg0 HH26.out (of_decide_eq_true zA) (by have h_ : (((rd_T54 l0_1 x15_1).f0) : Int) < ((x3_1.length : Int) : Int) := of_decide_eq_true zA; first | exact h_ | (have e_ := (HN26.out); omega) | simpa using h_) (seg := [.slice Ao30 y361.length co30]) (j := 0) (show 1 ≤ 1 from by decide) (x' := y361) (Kd.M_row HO363.out) (fun _ hk => hk)
                         (try simp only [show ((Kd.slice 3 (Kd.int .i64))).sz = 1 from rfl, Nat.mul_one, Nat.add_zero] at HP28)
                         clear hcc28 hfr28
                         have HNB354_go26 := zM (show gb354 ≠ go26 from by have h_ := Kd.R_ne hraw28 BK354.out (by decide); intro e_; exact h_ (by rw [e_]; rfl))
                         have HNB359_go26 := zM (show gb359 ≠ go26 from by have h_ := Kd.R_ne hraw28 BK359.out (by decide); intro e_; exact h_ (by rw [e_]; rfl))
                         have HS28 := HP28.1
                         rw [← Ny364.out] at HS28
                         have HQ28 := Aside0.mk HS28
                         obtain ⟨_, hgg28⟩ := Kd.R_typed hraw28 go26 rfl
                         have GG28_ := Aside0.mk hgg28
                         clear HP28 HS28 hgg28
                         refine hK.out _ _ ⟨(blk_cell BK359.out 0).trans rfl, (blk_cell BK359.out 1).trans rfl, HS2_⟩ (fun hHeld => ?_)
                         clear hK K
                         refine zn 30 ?_
                         refine zp HT_ 12 31 ?_
                         refine last_ (i := 13) (N := none) #[true, true, true, true, true, true, true, true, true, true, true, true, true, true] rfl rfl (one_of HT_.out (by kernel_rfl)) (by decide) (fun K hK => ?_)
                         refine skip_ (w1 := ?_) (by rfl) rfl ?_ ?_
                         rotate_left
                         · go_simp
                           rfl
                         refine hK.out _ _ ?_
                         clear hK K
                         refine zo HT_ ?_
                         try go_wp2
                         have n0_ : Aside0 (Kd.S (Kd.slice 3 (Kd.int .i64)) 27 (w27.setCell ⟨go26, (((rd_T54 l0_1 x15_1).f0) : Int).toNat, none⟩ (.slice Ao30 y361.length co30)) w.heap.size (fun _ => True) (.slice (some ⟨go26, 0, none⟩) x3_1.length co25) y364) := ⟨by (with_reducible repeat (first | apply Kd.S_alloc | apply Kd.S_drewN | apply Kd.S_drew)); exact HQ28.out⟩
                         have n1_ : Aside0 ((w27.setCell ⟨go26, (((rd_T54 l0_1 x15_1).f0) : Int).toNat, none⟩ (.slice Ao30 y361.length co30)).heap[gb354]? = some (.cells #[.slice A0_0 l0_0.length c0_0, .slice (some ad358) l0_1.length c0_1] 30 (0, 0))) := ⟨by (with_reducible repeat (first | refine blk_drewN ?_ _ | refine blk_drew ?_ | refine blk_alloc ?_ _)); refine blk_far ?_ HNB354_go26.out _; (with_reducible repeat (first | refine blk_drewN ?_ _ | refine blk_drew ?_ | refine blk_alloc ?_ _)); exact BK354.out⟩
                         have n2_ : Aside0 ((w27.setCell ⟨go26, (((rd_T54 l0_1 x15_1).f0) : Int).toNat, none⟩ (.slice Ao30 y361.length co30)).heap[gb359]? = some (.cells #[.int .i64 ((rd_T54 l0_1 x15_1).f0), .int .i64 ((rd_T54 l0_1 x15_1).f1)] 54 (0, 0))) := ⟨by (with_reducible repeat (first | refine blk_drewN ?_ _ | refine blk_drew ?_ | refine blk_alloc ?_ _)); refine blk_far ?_ HNB359_go26.out _; (with_reducible repeat (first | refine blk_drewN ?_ _ | refine blk_drew ?_ | refine blk_alloc ?_ _)); exact BK359.out⟩
                         have n3_ : Aside0 (Below w.heap.size w (w27.setCell ⟨go26, (((rd_T54 l0_1 x15_1).f0) : Int).toNat, none⟩ (.slice Ao30 y361.length co30))) := ⟨zB⟩
                         (try clear HO_3)
                         (try clear BK354)
                         (try clear BK359)
                         (try clear HB)
                         generalize (w27.setCell ⟨go26, (((rd_T54 l0_1 x15_1).f0) : Int).toNat, none⟩ (.slice Ao30 y361.length co30)) = w31 at n0_ n1_ n2_ n3_ ⊢
                         have HO_3 := n0_
                         have BK354 := n1_
                         have BK359 := n2_
                         have HB := n3_
                         clear n0_ n1_ n2_ n3_
                         replace HO_3 := zM (Kd.S_drew HO_3.out)
                         replace BK354 := zM (blk_drew BK354.out)
                         replace BK359 := zM (blk_drew BK359.out)
                         replace HB := zM (below_drew1 HB.out)
                         have p365 : 0 ≤ (((rd_T54 l0_1 x15_1).f1) : Int) := of_decide_eq_true zA
                         have q365 : ((rd_T54 l0_1 x15_1).f1) < (y364.length : Int) := (by have h_ : (((rd_T54 l0_1 x15_1).f1) : Int) < ((x3_1.length : Int) : Int) := of_decide_eq_true zA; first | (have e_ := (Kd.S_reads' HO_3.out).1; omega) | simpa only [Ny364.out, List.length_set] using h_)
                         have ql365 : ((((rd_T54 l0_1 x15_1).f1) : Int) < ((x3_1.length : Int) : Int)) = True := eq_true (of_decide_eq_true zA)
                         obtain ⟨ad365, A365_0, c365_0, e365, hx365_0, hl365_0, hi365_0⟩ := at_L1 (Kd.S_reads' HO_3.out).2.2 ((rd_T54 l0_1 x15_1).f1) p365 q365
                         obtain rfl : (⟨go26, 0, none⟩ : Addr) = ad365 := (by injection e365)
                         obtain ⟨ce365, hce365, hMe365, hcc365⟩ := Kd.S_get HO_3.out [] ((rd_T54 l0_1 x15_1).f1) p365 (by first | exact q365 | exact of_decide_eq_true zA | (have e_ := (Kd.S_reads' HO_3.out).1; omega))
                         obtain ⟨ve365_0, rfl, ge365_0⟩ := hMe365
                         have hv365_0 := hcc365 0 _ rfl
                         rw [Nat.add_zero, show ((Kd.slice 3 (Kd.int .i64))).sz = 1 from rfl, Nat.mul_one] at hv365_0
                         replace hv365_0 := Option.some.inj (hv365_0.symm.trans hx365_0)
                         rw [hv365_0] at ge365_0
                         have HL365_0 := zM (show Kd.R (Kd.int .i64) 3 _ _ _ _ (rd_L1 y364 ((rd_T54 l0_1 x15_1).f1)) from ge365_0)
                         clear hv365_0 ge365_0
                         have HX365_0 := Aside0.mk hx365_0
                         clear hcc365 hce365
                         (first | simp only [add_plain] at hx365_0 | simp only [add_at] at hx365_0 | simp only [Addr.add, Nat.zero_add] at hx365_0 | skip)
                         have HR365_0 := Aside0.mk hi365_0
                         have HC365_0 := Aside0.mk hl365_0
                         clear hi365_0 hl365_0
                         replace p365 := eq_true p365
                         replace q365 := eq_true q365
                         obtain ⟨oki33, ce33, hcl33, hM33, hcc33, _, _, hH33⟩ := Kd.S_elem HO_3.out [] (((rd_T54 l0_1 x15_1).f1) : Int) (of_decide_eq_true zA) (by have h_ : (((rd_T54 l0_1 x15_1).f1) : Int) < ((x3_1.length : Int) : Int) := of_decide_eq_true zA; first | exact h_ | (have e_ := (Kd.S_reads' HO_3.out).1; omega) | simpa using h_)
                         obtain ⟨ve33_0, rfl, ge33_0⟩ := hM33
                         have hv33 := hcc33 0 _ rfl
                         have hX33 := HX365_0.out
                         (try simp only [add_plain] at hX33)
                         (try simp only [Nat.add_zero] at hv33)
                         (try rw [show ((Kd.slice 3 (Kd.int .i64))).sz = 1 from rfl, Nat.mul_one] at hv33)
                         replace hv33 := Option.some.inj (hv33.symm.trans hX33)
                         subst hv33
                         clear hX33 hcc33 hcl33
                         have UU33 := zM (show Kd.R (Kd.int .i64) 3 _ w.heap.size oki33 (.slice A365_0 (rd_L1 y364 ((rd_T54 l0_1 x15_1).f1)).length c365_0) (rd_L1 y364 ((rd_T54 l0_1 x15_1).f1)) from ge33_0)
                         have HH33 := Aside0.mk hH33
                         have HN33 := zM (Kd.S_reads' HO_3.out).1
                         clear hH33 ge33_0
                         refine start_ (n := 14) (S := fun w' => w'.cell? ⟨gb359, 0, none⟩ = some (.int .i64 ((rd_T54 l0_1 x15_1).f0)) ∧ w'.cell? ⟨gb359, 1, none⟩ = some (.int .i64 ((rd_T54 l0_1 x15_1).f1)) ∧ w'.cell? ⟨go26, (((rd_T54 l0_1 x15_1).f1)).toNat, none⟩ = some (.slice A365_0 (rd_L1 y364 ((rd_T54 l0_1 x15_1).f1)).length c365_0)) (ds := [13]) #[false, false, false, false, false, false, false, false, false, false, false, false, false, false] (by kernel_rfl) rfl rfl ⟨(blk_cell BK359.out 0).trans rfl, (blk_cell BK359.out 1).trans rfl, hx365_0⟩ (fun hHeld => ?_); refine with_tabW impl_Space_roads.tab6 impl_Space_roads.bits6 (fun HT_ HW_ => ?_)
                         generalize w31.drew = w32 at HO_3 BK354 BK359 HB HH33 HL365_0 HQ28 HR365_0 HX365_0 UU33 hx365_0 hHeld ⊢
                         refine zp HT_ 0 32 ?_
                         refine zp HT_ 1 33 ?_
                         refine zp HT_ 3 35 ?_
                         refine zp HT_ 4 36 ?_
                         refine zp HT_ 8 40 ?_
                         refine zt HT_ HW_ 2 34 hHeld ?_ (hy := by rintro w' ⟨s0, s1, s2⟩; go_simp; with_reducible rfl)
                         refine zt HT_ HW_ 5 37 hHeld ?_ (hy := by rintro w' ⟨s0, s1, s2⟩; go_simp; with_reducible rfl)
                         refine zp HT_ 6 38 ?_
                         refine zt HT_ HW_ 7 39 hHeld ?_ (hy := by rintro w' ⟨s0, s1, s2⟩; go_simp; with_reducible rfl)
                         refine zt HT_ HW_ 9 41 hHeld ?_ (hy := by rintro w' ⟨s0, s1, s2⟩; go_simp; with_reducible rfl)
                         refine one_ (i := 10) (N := some 42) #[true, true, true, true, true, true, true, true, true, true, true, false, false, false] rfl rfl (one_of HT_.out (by kernel_rfl)) (by decide) (fun K hK => ?_)
                         refine value_ (w1 := ?_) (v := ?_) (by rfl) rfl ?_ ?_
                         rotate_left 2
                         · go_simp
                           constructor
                           · rfl
                           · rfl
                         refine hK.out _ _ ⟨(blk_cell (blk_alloc BK359.out _) 0).trans rfl, (blk_cell (blk_alloc BK359.out _) 1).trans rfl, (World.cell?_alloc_lt _ _ _ (World.block_lt_of_cell? _ _ (hHeld.2.2))).trans (hHeld.2.2)⟩ (fun hHeld => ?_)
                         clear hK K
                         refine zn 42 ?_
                         refine one_ (i := 11) (N := some 43) #[true, true, true, true, true, true, true, true, true, true, true, true, false, false] rfl rfl (one_of HT_.out (by kernel_rfl)) (by decide) (fun K hK => ?_)
                         refine Kd.R_append_step (Kd.int .i64) (w0 := w) w.heap.size (by rfl) (.tmp 39) (.tmp 42) 27 3 (.int .i64 0) 8 rfl Try.underlying27 info3 rfl (by decide) (by omega) (.slice A365_0 (rd_L1 y364 ((rd_T54 l0_1 x15_1).f1)).length c365_0) (rd_L1 y364 ((rd_T54 l0_1 x15_1).f1)) ((rd_T54 l0_1 x15_1).f0) [.int .i64 ((rd_T54 l0_1 x15_1).f0)] (fun k_ => oki33 k_ ∨ ((fun _ => True)) k_ ∧ w32.heap.size ≤ k_) (fun _ => False) rfl rfl ?aP (fun _ hk => hk.elim) ?aF ?aO ?aB ?aS ?aL ?_
                         (case aP => exact rfl)
                         (case aB => exact zB)
                         (case aF => exact (fun k_ hk => .inr ⟨trivial, hk⟩))
                         (case aO => exact (by (with_reducible repeat (first | apply Kd.R_alloc | apply Kd.R_drewN | apply Kd.R_drew)); exact Kd.R_mono UU33.out (fun _ hk => .inl hk)))
                         (case aS => exact (below_size zB))
                         (case aL => have := LMc18.out; omega)
                         intro v367 w34 ho hb hg hat
                         (first | have HS2_ := Go.Proofs.YtaemfocjokkopaaW.PrintWords.cell_grown hg (hHeld.2.2) (by first | (rw [add_block]; exact (fun e_ => ((HL365_0.out.1 _ e_.symm).2) rfl)) | (show some (Addr.add _ _).block ≠ _; rw [add_block]; exact (fun e_ => ((HL365_0.out.1 _ e_.symm).2) rfl)) | exact (fun e_ => ((HL365_0.out.1 _ e_.symm).2) rfl)) | have HS2_ := Go.Proofs.YtaemfocjokkopaaW.PrintWords.cell_grown hg (cell_unalloc (hHeld.2.2) (by first | (rw [add_block]; exact Kd.S_lt HO_3.out _ rfl) | (show (Addr.add _ _).block < _; rw [add_block]; exact Kd.S_lt HO_3.out _ rfl) | exact Kd.S_lt HO_3.out _ rfl)) (by first | (rw [add_block]; exact (fun e_ => ((HL365_0.out.1 _ e_.symm).2) rfl)) | (show some (Addr.add _ _).block ≠ _; rw [add_block]; exact (fun e_ => ((HL365_0.out.1 _ e_.symm).2) rfl)) | exact (fun e_ => ((HL365_0.out.1 _ e_.symm).2) rfl)))
                         rw [← Ny366.out] at ho
                         replace BK354 := zM (blk_grown (g := gb354) (o := .cells #[.slice A0_0 l0_0.length c0_0, .slice (some ad358) l0_1.length c0_1] 30 (0, 0)) (zK BK354.out) hg (Kd.R_ne HL365_0.out BK354.out (by decide)))
                         replace BK359 := zM (blk_grown (g := gb359) (o := .cells #[.int .i64 ((rd_T54 l0_1 x15_1).f0), .int .i64 ((rd_T54 l0_1 x15_1).f1)] 54 (0, 0)) (zK BK359.out) hg (Kd.R_ne HL365_0.out BK359.out (by decide)))
                         replace HB := zM (hb)
                         replace HH33 := zM (Kd.H_grown (Kd.H_widen (by repeat (first | exact HH33.out | refine Kd.H_alloc ?_ _ | refine Kd.H_drewN ?_ _ | refine Kd.H_drew ?_))) hg (fun k_ e_ => .inl (UU33.out.1 k_ e_)))
                         have HO368 := zM (ho)
                         clear HO_3 UU33 HL365_0
                         clear ho hb hg hat
                         have p19 : 0 ≤ (((rd_T54 l0_1 x15_1).f1) : Int) := of_decide_eq_true zA
                         have q19 : (((rd_T54 l0_1 x15_1).f1) : Int) < ((x3_1.length : Int) : Int) := of_decide_eq_true zA
                         replace p19 := eq_true p19
                         replace q19 := eq_true q19
                         obtain ⟨Ao37, co37, eo37⟩ := Kd.R_slice HO368.out
                         (first | subst eo37 | (injection eo37 with f1_ f2_ f3_; have f4_ := f1_.symm; have f5_ := f3_.symm; clear f1_ f2_ f3_; subst f4_; subst f5_))
                         obtain ⟨_, _, hraw35, _, _, hcc35, _⟩ := Kd.H_raw HH33.out (of_decide_eq_true zA) (by have h_ : (((rd_T54 l0_1 x15_1).f1) : Int) < ((x3_1.length : Int) : Int) := of_decide_eq_true zA; first | exact h_ | (have e_ := (HN33.out); omega) | simpa using h_)
                         obtain ⟨_, hfr35⟩ := Kd.H_at HH33.out (of_decide_eq_true zA) (by have h_ : (((rd_T54 l0_1 x15_1).f1) : Int) < ((x3_1.length : Int) : Int) := of_decide_eq_true zA; first | exact h_ | (have e_ := (HN33.out); omega) | simpa using h_)
                         have hx35_0 := hcc35 0 _ rfl
                         have hf35_0 := hfr35 0
                         (try simp only [Nat.add_zero] at hx35_0 hf35_0)
                         (try rw [show ((Kd.slice 3 (Kd.int .i64))).sz = 1 from rfl, Nat.mul_one] at hx35_0)
                         (try rw [show ((Kd.slice 3 (Kd.int .i64))).sz = 1 from rfl, Nat.mul_one] at hf35_0)
                         have HP35 := Kd.S_seg0 HH33.out (of_decide_eq_true zA) (by have h_ : (((rd_T54 l0_1 x15_1).f1) : Int) < ((x3_1.length : Int) : Int) := of_decide_eq_true zA; first | exact h_ | (have e_ := (HN33.out); omega) | simpa using h_) (seg := [.slice Ao37 y366.length co37]) (j := 0) (show 1 ≤ 1 from by decide) (x' := y366) (Kd.M_row HO368.out) (fun _ hk => hk)
                         (try simp only [show ((Kd.slice 3 (Kd.int .i64))).sz = 1 from rfl, Nat.mul_one, Nat.add_zero] at HP35)
                         clear hcc35 hfr35
                         have HNB354_go26 := zM (show gb354 ≠ go26 from by have h_ := Kd.R_ne hraw35 BK354.out (by decide); intro e_; exact h_ (by rw [e_]; rfl))
                         have HNB359_go26 := zM (show gb359 ≠ go26 from by have h_ := Kd.R_ne hraw35 BK359.out (by decide); intro e_; exact h_ (by rw [e_]; rfl))
                         have HS35 := HP35.1
                         rw [← Ny369.out] at HS35
                         have HQ35 := Aside0.mk HS35
                         obtain ⟨_, hgg35⟩ := Kd.R_typed hraw35 go26 rfl
                         have GG35_ := Aside0.mk hgg35
                         clear HP35 HS35 hgg35
                         refine hK.out _ _ ⟨(blk_cell BK359.out 0).trans rfl, (blk_cell BK359.out 1).trans rfl, HS2_⟩ (fun hHeld => ?_)
                         clear hK K
                         refine zn 43 ?_
                         refine zp HT_ 12 44 ?_
                         refine last_ (i := 13) (N := none) #[true, true, true, true, true, true, true, true, true, true, true, true, true, true] rfl rfl (one_of HT_.out (by kernel_rfl)) (by decide) (fun K hK => ?_)
                         refine skip_ (w1 := ?_) (by rfl) rfl ?_ ?_
                         rotate_left
                         · go_simp
                           rfl
                         refine hK.out _ _ ?_
                         clear hK K
                         refine zo HT_ ?_
                         try go_wp2
                         go_roundg k1
                         case measure => have := HK1.out; omega
                         case rel => exact ⟨(y369), (wrap64 (x15_1 + 1)), (by first | rfl | (simp; done) | (simp [*]; done)), H', ⟨by have := HK1.out; omega⟩, ⟨by (with_reducible repeat (first | apply Kd.S_alloc | apply Kd.S_drewN | apply Kd.S_drew)); exact HQ35.out⟩, ⟨by (with_reducible repeat (first | refine blk_drewN ?_ _ | refine blk_drew ?_ | refine blk_alloc ?_ _)); refine blk_far ?_ HNB354_go26.out _; (with_reducible repeat (first | refine blk_drewN ?_ _ | refine blk_drew ?_ | refine blk_alloc ?_ _)); exact BK354.out⟩, ⟨zB⟩⟩
                       · rw [if_neg c18] at H
                         exact absurd H (by simp)
                     · rw [if_neg c17] at H
                       exact absurd H (by simp)
                   · rw [if_neg c16] at H
                     exact absurd H (by simp)
                 · rw [if_neg c14] at H
                   exact absurd H (by simp)
               · rw [if_neg c13] at H
                 exact absurd H (by simp)
             · rw [if_neg c12] at H
               exact absurd H (by simp)
           · rw [if_neg c11] at H
             exact absurd H (by simp)
         · rw [if_neg c10] at H
           exact absurd H (by simp)
       · rw [if_neg c9] at H
         have c9b0 : decide (x15_1 < (l0_1.length : Int)) = false := decide_eq_false c9
         clear c9
         have e_ := Option.some.inj H
         clear H
         have HO := HO_3.out
         rw [e_] at HO
         clear HO_3 e_
         have HQ := HB
         clear HB HK1
         (try clear BK354)
         obtain ⟨Ar, cr, er⟩ := Kd.S_slice HO
         subst er
         have HO0 := Aside0.mk HO
         clear HO
         have HL := Aside0.mk (show r0.length ≤ 9223372036854775807 by
           obtain ⟨A', c', _, _, hc⟩ := Kd.S_reads HO0.out
           exact hc.2.1)
         go_wp2
         go_loopg [48] (r0.length + 1) (fun kq v48 w' => ∃ (m : Nat) (done : List (List Int)), v48 = .int .i64 m ∧ Aside0 (m ≤ r0.length) ∧ Aside0 (kq = r0.length - m + 1) ∧ Aside0 (done.length = m) ∧ Aside0 (∃ t, sortRows (r0.drop m) = some t ∧ done ++ t = r) ∧ Aside0 (Kd.S (Kd.slice 3 (Kd.int .i64)) 27 w' w.heap.size (fun _ => True) (.slice Ar r0.length cr) (done ++ r0.drop m)) ∧ Aside0 (Below w.heap.size w w'))
         case atStart => exact ⟨0, [], rfl, ⟨Nat.zero_le _⟩, ⟨by omega⟩, ⟨rfl⟩, ⟨by rw [List.drop_zero]; exact ⟨r, HSORT.out, rfl⟩⟩, ⟨by rw [List.drop_zero]; exact HO0.out⟩, HQ⟩
         case round =>
           clear HO0 HQ HSORT
           obtain ⟨m, done, rfl, HM, HK1, HD, HA, HO, HB⟩ := hrel
           have HN := Aside0.mk (show (done ++ r0.drop m).length = r0.length by rw [List.length_append, List.length_drop, HD.out]; have := HM.out; omega)
           by_cases c1 : m < r0.length
           · have q1 : (m : Int) < (r0.length : Int) := by omega
             obtain ⟨g, cap, eg, gb, gl, HG⟩ := Kd.S_form HO.out (by rw [HN.out]; omega)
             rw [HN.out] at eg
             injection eg with eA _ ec
             subst eA; subst ec
             obtain ⟨oki, cs, hcl, hM, hcc, hoki, HH⟩ := Kd.S_lend HO.out ([] : List Int) (m : Int) (by omega) q1
             obtain ⟨v, rfl, hR⟩ := hM
             have hrow : (done ++ r0.drop m).getD (m : Int).toNat [] = r0[m] := by
               rw [Int.toNat_natCast, List.getD_eq_getElem?_getD, List.getElem?_append_right (by rw [HD.out]; exact Nat.le_refl _), HD.out, Nat.sub_self, List.getElem?_drop, Nat.add_zero, List.getElem?_eq_getElem c1, Option.getD_some]
             rw [hrow] at hR
             have hx0 := hcc 0 _ rfl
             rw [Int.toNat_natCast, show (Kd.slice 3 (Kd.int .i64)).sz = 1 from rfl, Nat.mul_one, Nat.add_zero] at hx0
             obtain ⟨t0, ht0, hdt⟩ := HA.out
             rw [List.drop_eq_getElem_cons c1] at ht0
             obtain ⟨a0, t1, hf, ht1, rfl⟩ := sortRows_cons ht0
             have HF := Aside0.mk hf
             have HRo := Aside0.mk hR
             have HHo := Aside0.mk HH
             have HOk := Aside0.mk hoki
             have HE := Aside0.mk (set_midR done r0 m HD.out c1 a0)
             have H2 : Aside0 (∃ t, sortRows (r0.drop (m + 1)) = some t ∧ (done ++ [a0]) ++ t = r) := ⟨t1, ht1, by rw [List.append_assoc, List.singleton_append]; exact hdt⟩
             obtain ⟨Av, cv, ev⟩ := Kd.R_slice hR
             subst ev
             generalize r0[m] = row at HF HRo hx0 HHo
             clear HA hcc hcl gl HG gb hR HH hoki hf hrow ht0 ht1 hdt
             have c1b : decide ((m : Int) < (r0.length : Int)) = true := decide_eq_true q1
             have c1c : decide (m < r0.length) = true := decide_eq_true c1
             have p1 : (0 : Int) ≤ (m : Int) := by omega
             have hw1 : (m : Int) + 1 ≤ 9223372036854775807 := by have := HL.out; omega
             replace p1 := eq_true p1
             replace q1 := eq_true q1
             clear c1
             go_wp2_with (go_at_call 40; refine (slices_Sort_int_int.calls oki _ row a0 w wr HB.out HRo.out HF.out).mono ?_; rintro e w2 ⟨rfl, hy, hb, hkp⟩; have HS := Aside0.mk (Kd.H_back (Kd.H_kept HHo.out hkp (fun _ _ hn => hn)) (x' := a0) ⟨_, rfl, Kd.R_reok rfl hy (fun k_ e_ => HRo.out.1 k_ e_)⟩ (fun _ hk => hk)); have HB2 := Aside0.mk hb; clear hy hb hkp)
             go_roundg (r0.length - m)
             case measure => have := HK1.out; have := HM.out; omega
             case rel => exact ⟨m + 1, done ++ [a0], by first | rfl | (simp; done) | go_num, ⟨by have := of_eq_true q1; omega⟩, ⟨by have := of_eq_true q1; omega⟩, ⟨by rw [List.length_append, HD.out]; rfl⟩, H2, ⟨by rw [← HE.out]; rw [← Int.toNat_natCast m]; exact HS.out⟩, HB2⟩
           · have q1 : ¬ (m : Int) < (r0.length : Int) := by omega
             have c1b : decide ((m : Int) < (r0.length : Int)) = false := decide_eq_false q1
             have c1c : decide (m < r0.length) = false := decide_eq_false c1
             have H3 : Aside0 (done ++ r0.drop m = r) := ⟨by
               obtain ⟨t, ht, hd⟩ := HA.out
               rw [List.drop_eq_nil_of_le (show r0.length ≤ m by omega)] at ht ⊢
               rw [← hd, Option.some.inj (show some [] = some t from ht)]⟩
             clear HA c1 q1
             go_wp2
             go_ret
             exact ⟨_, rfl, by rw [← H3.out]; exact HO.out, HB.out⟩
   · rw [if_neg c3] at H
     exact absurd H (by simp)
 · rw [if_neg c2] at H
   exact absurd H (by simp)

def impl_Space_roads.f (k : Nat) (l0_0 : List (List Int)) (l0_1 : List (S54)) : Option (List (List Int)) := (impl_Space_roads.g k l0_0 l0_1).bind sortRows
theorem impl_Space_roads.calls (k : Nat) (A0_0 : Option Addr) (c0_0 : Nat) (l0_0 : List (List Int)) (A0_1 : Option Addr) (c0_1 : Nat) (l0_1 : List (S54)) (r : List (List Int)) (w : World) (hr0_0 : Kd.C (Kd.slice 3 (Kd.int .i64)) w A0_0 l0_0.length l0_0) (hc0_0 : l0_0.length ≤ c0_0) (hr0_1 : Kd.C k54 w A0_1 l0_1.length l0_1) (hc0_1 : l0_1.length ≤ c0_1) (h : impl_Space_roads.f k l0_0 l0_1 = some r) :
 Calls Try.prog 23 #[.agg #[.slice A0_0 l0_0.length c0_0, .slice A0_1 l0_1.length c0_1]] w fun e w' => ∃ v0_ : Value, e = .returned (v0_) ∧ Kd.S (Kd.slice 3 (Kd.int .i64)) 27 w' w.heap.size (fun _ => True) v0_ r ∧ Below w.heap.size w w' := by
  obtain ⟨r0, h1, h2⟩ := Option.bind_eq_some_iff.mp h
  exact impl_Space_roads.calls0 k A0_0 c0_0 l0_0 A0_1 c0_1 l0_1 r0 r w hr0_0 hc0_0 hr0_1 hc0_1 h1 h2
end Go.Proofs.Ytaemfocjokkopaa.P
