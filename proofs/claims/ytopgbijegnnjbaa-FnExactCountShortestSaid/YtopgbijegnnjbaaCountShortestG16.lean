/- The contract of (impl.Space).roads: out of the printed walk of all but its last loop, and a walk of that loop by hand. -/
import Derived.Test.YtopgbijegnnjbaaCountShortestG5
import Derived.Test.YtopgbijegnnjbaaCountShortestG15
import Derived.Handy
import Derived.ProofKit
import Derived.OpenShut
import Derived.Deep.Matrix
import Derived.Lib.SmallJoins
namespace Go.Proofs.Ytopgbijegnnjbaa.P
open Go.RowKit Go.Proofs.YtopgbijegnnjbaaW.PrintWords Go.Proofs.YtopgbijegnnjbaaW.PrintLast Go.Proofs.YtopgbijegnnjbaaW.PrintMore
attribute [local go_sem] max2_int min2_int max_two min_two max_three min_three max_four min_four   -- for this text's walks alone
set_option linter.unusedVariables false
set_option linter.unusedSimpArgs false

def sortRows : List (List Int) → Option (List (List Int))
  | [] => some []
  | l :: t => (slices_Sort_int_int.f l).bind fun a => (sortRows t).bind fun b => some (a :: b)
theorem sortRows_cons {l : List Int} {t z : List (List Int)} (h : sortRows (l :: t) = some z) : ∃ a b, slices_Sort_int_int.f l = some a ∧ sortRows t = some b ∧ z = a :: b := by
  rw [sortRows] at h
  obtain ⟨a, ha, h⟩ := Option.bind_eq_some_iff.mp h
  obtain ⟨b, hb, h⟩ := Option.bind_eq_some_iff.mp h
  exact ⟨a, b, ha, hb, (Option.some.inj h).symm⟩
theorem set_midR {α : Type} (done : List α) (l : List α) (m : Nat) (hd : done.length = m) (hm : m < l.length) (x : α) : (done ++ l.drop m).set m x = (done ++ [x]) ++ l.drop (m + 1) := by
  subst hd
  rw [List.drop_eq_getElem_cons hm, List.set_append_right _ _ (Nat.le_refl _), Nat.sub_self, List.set_cons_zero, List.append_assoc, List.singleton_append]
/-! ### impl_Space_roads: function 19 -/
def impl_Space_roads.l0 : Nat → List (List Int) → List (S50) → Int → Int → Option ((List (List Int)))
 | 0, _, _, _, _ => none
 | k + 1, x3, x13, x14, x15 => if x15 < x14 then (if 0 ≤ x15 then (if x15 < (x13.length : Int) then (if 0 ≤ ((rd_T50 x13 x15).f0) then (if ((rd_T50 x13 x15).f0) < (x3.length : Int) then (if (rd_L1 x3 ((rd_T50 x13 x15).f0)).length < 17592186044416 then ((some (x3.set (((rd_T50 x13 x15).f0) : Int).toNat ((rd_L1 x3 ((rd_T50 x13 x15).f0)) ++ [(rd_T50 x13 x15).f1]) : List (List Int))).bind fun y258 => (if 0 ≤ ((rd_T50 x13 x15).f1) then (if ((rd_T50 x13 x15).f1) < (x3.length : Int) then (if (rd_L1 y258 ((rd_T50 x13 x15).f1)).length < 17592186044416 then (impl_Space_roads.l0 k (y258.set (((rd_T50 x13 x15).f1) : Int).toNat ((rd_L1 y258 ((rd_T50 x13 x15).f1)) ++ [(rd_T50 x13 x15).f0])) x13 x14 (wrap64 (x15 + 1))) else (none)) else (none)) else (none))) else (none)) else (none)) else (none)) else (none)) else (none)) else (some x3)
def impl_Space_roads.g (k : Nat) (l0_0 : List (List Int)) (l0_1 : List (S50)) : Option ((List (List Int))) := if 0 ≤ (l0_0.length : Int) then (if ((l0_0.length : Int) : Int).toNat ≤ 11728124029610 then (impl_Space_roads.l0 k (List.replicate ((l0_0.length : Int) : Int).toNat []) l0_1 (l0_1.length : Int) 0) else (none)) else (none)
def impl_Space_roads.T5 : Bool × List (List Nat × List Nat) := (true, [([], []), ([], []), ([1], [1]), ([], []), ([], []), ([4], [4]), ([3, 5], [3, 5]), ([6], [6]), ([], []), ([8], [8]), ([9], [9]), ([7, 10], [7, 10]), ([0, 2, 0, 1, 2, 3, 4, 5, 6, 7, 8, 9, 10, 11], [0, 2]), ([12, 11, 11, 0, 1, 2, 3, 4, 5, 6, 7, 8, 9, 10, 11], [11, 12])])
def impl_Space_roads.B5 : List Nat := [0, 0, 2, 0, 0, 16, 56, 120, 0, 256, 768, 2040, 4095, 8191]
theorem impl_Space_roads.tab5 : rtab .any (opsOf Try.f19 5) = impl_Space_roads.T5 := by kernel_rfl
theorem impl_Space_roads.bits5 : waitsOk impl_Space_roads.T5.2 impl_Space_roads.B5 = true := by kernel_rfl
def impl_Space_roads.T6 : Bool × List (List Nat × List Nat) := (true, [([], []), ([], []), ([1], [1]), ([], []), ([], []), ([4], [4]), ([3, 5], [3, 5]), ([6], [6]), ([], []), ([8], [8]), ([9], [9]), ([7, 10], [7, 10]), ([0, 2, 0, 1, 2, 3, 4, 5, 6, 7, 8, 9, 10, 11], [0, 2]), ([12, 11, 11, 0, 1, 2, 3, 4, 5, 6, 7, 8, 9, 10, 11], [11, 12])])
def impl_Space_roads.B6 : List Nat := [0, 0, 2, 0, 0, 16, 56, 120, 0, 256, 768, 2040, 4095, 8191]
theorem impl_Space_roads.tab6 : rtab .any (opsOf Try.f19 6) = impl_Space_roads.T6 := by kernel_rfl
theorem impl_Space_roads.bits6 : waitsOk impl_Space_roads.T6.2 impl_Space_roads.B6 = true := by kernel_rfl
set_option maxHeartbeats 8000000 in
set_option maxRecDepth 100000 in
theorem impl_Space_roads.calls0 (k : Nat) (A0_0 : Option Addr) (c0_0 : Nat) (l0_0 : List (List Int)) (A0_1 : Option Addr) (c0_1 : Nat) (l0_1 : List (S50)) (r0 r : List (List Int)) (w : World) (hr0_0 : Kd.C (Kd.slice 3 (Kd.int .i64)) w A0_0 l0_0.length l0_0) (hc0_0 : l0_0.length ≤ c0_0) (hr0_1 : Kd.C k50 w A0_1 l0_1.length l0_1) (hc0_1 : l0_1.length ≤ c0_1) (h : impl_Space_roads.g k l0_0 l0_1 = some r0) (hsort : sortRows r0 = some r) :
 Calls Try.prog 19 #[.agg #[.slice A0_0 l0_0.length c0_0, .slice A0_1 l0_1.length c0_1]] w fun e w' => ∃ v0_ : Value, e = .returned (v0_) ∧ Kd.S (Kd.slice 3 (Kd.int .i64)) 37 w' w.heap.size (fun _ => True) v0_ r ∧ Below w.heap.size w w' := by
 have hu29 := Try.underlying29
 have hu50 := Try.underlying50
 have HR0_0 := Aside0.mk hr0_0
 have HC0_0 := Aside0.mk hc0_0
 clear hr0_0 hc0_0
 have HR0_1 := Aside0.mk hr0_1
 have HC0_1 := Aside0.mk hc0_1
 clear hr0_1 hc0_1
 have HSORT := zM hsort
 clear hsort
 have HB := zM (Below.refl w.heap.size w)
 have H : (if 0 ≤ (l0_0.length : Int) then (if ((l0_0.length : Int) : Int).toNat ≤ 11728124029610 then (impl_Space_roads.l0 k (List.replicate ((l0_0.length : Int) : Int).toNat []) l0_1 (l0_1.length : Int) 0) else (none)) else (none)) = some r0 := h
 clear h
 by_cases c2 : 0 ≤ (l0_0.length : Int)
 · rw [if_pos c2] at H
   have c2b0 := eq_true c2
   have c2b1 : decide (0 ≤ (l0_0.length : Int)) = true := decide_eq_true c2
   clear c2
   by_cases c3 : ((l0_0.length : Int) : Int).toNat ≤ 11728124029610
   · rw [if_pos c3] at H
     have c3b0 := eq_true c3
     have c3b1 : decide (((l0_0.length : Int) : Int).toNat ≤ 11728124029610) = true := decide_eq_true c3
     clear c3
     obtain ⟨y249, hy249⟩ : ∃ y_ : List (List Int), y_ = (List.replicate ((l0_0.length : Int) : Int).toNat []) := ⟨_, rfl⟩
     replace H : (impl_Space_roads.l0 k y249 l0_1 (l0_1.length : Int) 0) = some r0 := by first | (rw [hy249]; with_reducible exact H) | (have H2_ := (Option.bind_some _ _).symm.trans H; rw [hy249]; with_reducible exact H2_) | (have H2_ := (Option.bind_some _ _).symm.trans H; with_reducible exact H2_) | with_reducible exact H | (rw [hy249]; exact H) | exact H
     have Ny249 := Aside0.mk hy249
     clear hy249
     have H' := Aside0.mk H
     clear H
     go_enter Try.func19, Try.ntmps19
     go_wp2_with (first | ((with_reducible refine gate_dst (N := 1) rfl ?_); refine zb (w := w) 1 #[.slice A0_0 l0_0.length c0_0, .slice A0_1 l0_1.length c0_1] 29 zB ?_; clear HB; intro gb248 w4 HB BK248 GW248; have GE248 := GW248; have hcz5_0 := zy BK248 0; have hcz5_1 := zy BK248 1; have hfz5_0 := blk_frozen BK248.out 0; have hfz5_1 := blk_frozen BK248.out 1) | ((with_reducible refine gate_dst (N := 11) rfl ?_); refine Kd.S_make (Kd.slice 3 (Kd.int .i64)) _ 37 rfl (N := 11) rfl 22 _ _ rfl (l0_0.length : Int) rfl rfl Try.underlying22 (.slice none 0 0) 24 info37 rfl (by decide) (by omega) [] (ok := fun _ => True) (okp := fun _ => True) ⟨_, rfl, Kd.R_nil _ _ _ _ _⟩ (fun _ hk => hk) trivial (of_decide_eq_true zA) (Nat.le_trans (Nat.mul_le_mul_right _ (of_decide_eq_true zA : (l0_0.length : Int).toNat ≤ 11728124029610)) (by omega)) (Below.refl _ _) (Nat.le_refl _) ?_; intro v250 w6 ho7 hb hg_ hnew_; clear hg_ hnew_; (first | rw [← Ny249.out] at ho7 | (simp only [Int.reduceToNat] at ho7; rw [← Ny249.out] at ho7)); have HO251 := zM (Kd.S_lower ho7 (below_size zB)); replace BK248 := zM (blk_below (g := gb248) (o := .cells #[.slice A0_0 l0_0.length c0_0, .slice A0_1 l0_1.length c0_1] 29 (0, 0)) (zK BK248.out) hb); replace HB := zM (below_step zB hb); clear hb ho7; have hcz8_0 := zy BK248 0; have hcz8_1 := zy BK248 1; have hfz8_0 := blk_frozen BK248.out 0; have hfz8_1 := blk_frozen BK248.out 1))
     go_loopg [15] k (fun kq v15 w' => ∃ (x3_1 : List (List Int)) (x15_1 : Int), v15 = .int .i64 x15_1 ∧ Aside0 (impl_Space_roads.l0 kq x3_1 l0_1 (l0_1.length : Int) x15_1 = some r0) ∧ Aside0 (kq ≤ k) ∧ Aside0 (Kd.S (Kd.slice 3 (Kd.int .i64)) 37 w' w.heap.size (fun _ => True) v250 x3_1) ∧ Aside0 (w'.heap[gb248]? = some (.cells #[(.slice A0_0 l0_0.length c0_0), (.slice A0_1 l0_1.length c0_1)] 29 (0, 0))) ∧ Aside0 (Below w.heap.size w w'))
     case atStart => exact ⟨(y249), (0), (by first | rfl | (simp; done) | (simp [*]; done)), H', ⟨Nat.le_refl _⟩, ⟨by (with_reducible repeat (first | apply Kd.S_alloc | apply Kd.S_drewN | apply Kd.S_drew)); exact HO251.out⟩, ⟨zK BK248.out⟩, ⟨zB⟩⟩
     case round =>
      clear H'
      try clear c1
      try clear c2
      try clear c2b0
      try clear c2b1
      try clear p2
      try clear c3
      try clear c3b0
      try clear c3b1
      try clear hcz5_0
      try clear hcz5_1
      try clear hcz8_0
      try clear hcz8_1
      try clear hfz5_0
      try clear hfz5_1
      try clear hfz8_0
      try clear hfz8_1
      obtain ⟨x3_1, x15_1, rfl, HA, HK1, HO_3, BK248, HB⟩ := hrel
      cases gk with
      | zero => exact absurd HA.out (by simp [impl_Space_roads.l0])
      | succ k1 =>
       have H := HA.out
       clear HA
       simp only [impl_Space_roads.l0] at H
       by_cases c9 : x15_1 < (l0_1.length : Int)
       · rw [if_pos c9] at H
         have c9b0 := decide_eq_true c9
         clear c9
         by_cases c10 : 0 ≤ x15_1
         · rw [if_pos c10] at H
           have c10b0 := decide_eq_true c10
           clear c10
           by_cases c11 : x15_1 < (l0_1.length : Int)
           · rw [if_pos c11] at H
             have c11b0 := decide_eq_true c11
             clear c11
             by_cases c12 : 0 ≤ ((rd_T50 l0_1 x15_1).f0)
             · rw [if_pos c12] at H
               have c12b0 := decide_eq_true c12
               clear c12
               by_cases c13 : ((rd_T50 l0_1 x15_1).f0) < (x3_1.length : Int)
               · rw [if_pos c13] at H
                 have c13b0 := decide_eq_true c13
                 clear c13
                 by_cases c14 : (rd_L1 x3_1 ((rd_T50 l0_1 x15_1).f0)).length < 17592186044416
                 · rw [if_pos c14] at H
                   have LMc14 := Aside0.mk c14
                   clear c14
                   obtain ⟨y255, hy255⟩ : ∃ y_ : List Int, y_ = ((rd_L1 x3_1 ((rd_T50 l0_1 x15_1).f0)) ++ [(rd_T50 l0_1 x15_1).f1]) := ⟨_, rfl⟩
                   replace H : ((some (x3_1.set (((rd_T50 l0_1 x15_1).f0) : Int).toNat y255 : List (List Int))).bind fun y258 => (if 0 ≤ ((rd_T50 l0_1 x15_1).f1) then (if ((rd_T50 l0_1 x15_1).f1) < (x3_1.length : Int) then (if (rd_L1 y258 ((rd_T50 l0_1 x15_1).f1)).length < 17592186044416 then (impl_Space_roads.l0 k1 (y258.set (((rd_T50 l0_1 x15_1).f1) : Int).toNat ((rd_L1 y258 ((rd_T50 l0_1 x15_1).f1)) ++ [(rd_T50 l0_1 x15_1).f0])) l0_1 (l0_1.length : Int) (wrap64 (x15_1 + 1))) else (none)) else (none)) else (none))) = some r0 := by first | (rw [hy255]; with_reducible exact H) | (have H2_ := (Option.bind_some _ _).symm.trans H; rw [hy255]; with_reducible exact H2_) | (have H2_ := (Option.bind_some _ _).symm.trans H; with_reducible exact H2_) | with_reducible exact H | (rw [hy255]; exact H) | exact H
                   have Ny255 := Aside0.mk hy255
                   clear hy255
                   obtain ⟨y258, hy258⟩ : ∃ y_ : List (List Int), y_ = (x3_1.set (((rd_T50 l0_1 x15_1).f0) : Int).toNat y255) := ⟨_, rfl⟩
                   replace H : (if 0 ≤ ((rd_T50 l0_1 x15_1).f1) then (if ((rd_T50 l0_1 x15_1).f1) < (x3_1.length : Int) then (if (rd_L1 y258 ((rd_T50 l0_1 x15_1).f1)).length < 17592186044416 then (impl_Space_roads.l0 k1 (y258.set (((rd_T50 l0_1 x15_1).f1) : Int).toNat ((rd_L1 y258 ((rd_T50 l0_1 x15_1).f1)) ++ [(rd_T50 l0_1 x15_1).f0])) l0_1 (l0_1.length : Int) (wrap64 (x15_1 + 1))) else (none)) else (none)) else (none)) = some r0 := by first | (rw [hy258]; with_reducible exact H) | (have H2_ := (Option.bind_some _ _).symm.trans H; rw [hy258]; with_reducible exact H2_) | (have H2_ := (Option.bind_some _ _).symm.trans H; with_reducible exact H2_) | with_reducible exact H | (rw [hy258]; exact H) | exact H
                   have Ny258 := Aside0.mk hy258
                   clear hy258
                   by_cases c16 : 0 ≤ ((rd_T50 l0_1 x15_1).f1)
                   · rw [if_pos c16] at H
                     have c16b0 := decide_eq_true c16
                     clear c16
                     by_cases c17 : ((rd_T50 l0_1 x15_1).f1) < (x3_1.length : Int)
                     · rw [if_pos c17] at H
                       have c17b0 := decide_eq_true c17
                       clear c17
                       by_cases c18 : (rd_L1 y258 ((rd_T50 l0_1 x15_1).f1)).length < 17592186044416
                       · rw [if_pos c18] at H
                         have LMc18 := Aside0.mk c18
                         clear c18
                         obtain ⟨y260, hy260⟩ : ∃ y_ : List Int, y_ = ((rd_L1 y258 ((rd_T50 l0_1 x15_1).f1)) ++ [(rd_T50 l0_1 x15_1).f0]) := ⟨_, rfl⟩
                         replace H : (impl_Space_roads.l0 k1 (y258.set (((rd_T50 l0_1 x15_1).f1) : Int).toNat y260) l0_1 (l0_1.length : Int) (wrap64 (x15_1 + 1))) = some r0 := by first | (rw [hy260]; with_reducible exact H) | (have H2_ := (Option.bind_some _ _).symm.trans H; rw [hy260]; with_reducible exact H2_) | (have H2_ := (Option.bind_some _ _).symm.trans H; with_reducible exact H2_) | with_reducible exact H | (rw [hy260]; exact H) | exact H
                         have Ny260 := Aside0.mk hy260
                         clear hy260
                         obtain ⟨y263, hy263⟩ : ∃ y_ : List (List Int), y_ = (y258.set (((rd_T50 l0_1 x15_1).f1) : Int).toNat y260) := ⟨_, rfl⟩
                         replace H : (impl_Space_roads.l0 k1 y263 l0_1 (l0_1.length : Int) (wrap64 (x15_1 + 1))) = some r0 := by first | (rw [hy263]; with_reducible exact H) | (have H2_ := (Option.bind_some _ _).symm.trans H; rw [hy263]; with_reducible exact H2_) | (have H2_ := (Option.bind_some _ _).symm.trans H; with_reducible exact H2_) | with_reducible exact H | (rw [hy263]; exact H) | exact H
                         have Ny263 := Aside0.mk hy263
                         clear hy263
                         have H' := Aside0.mk H
                         clear H
                         have p252 : 0 ≤ (x15_1 : Int) := of_decide_eq_true zA
                         have q252 : x15_1 < (l0_1.length : Int) := of_decide_eq_true zA
                         obtain ⟨ad252, e252, hx252_0, hx252_1⟩ := at_T50 HR0_1.out x15_1 p252 q252
                         cases e252
                         (try replace hx252_0 := (HB.out.cell (World.block_lt_of_cell? w _ hx252_0)).trans hx252_0)
                         (try replace hx252_1 := (HB.out.cell (World.block_lt_of_cell? w _ hx252_1)).trans hx252_1)
                         replace p252 := eq_true p252
                         replace q252 := eq_true q252
                         try go_wp2_with (first | ((with_reducible refine gate_dst (N := 5) rfl ?_); refine ze 5 #[.int .i64 0, .int .i64 0] 50 ?_; intro gb253 hg w20 hbox hb; replace HO_3 := zM (Kd.S_below (by (with_reducible repeat (first | apply Kd.S_alloc | apply Kd.S_drewN | apply Kd.S_drew)); exact HO_3.out) hb); have BK253 := zM (hbox); have GW253 := zM ((by rw [hg]; exact (below_size zB) : w.heap.size ≤ gb253)); have GE253 := zM ((by rw [hg]; exact (below_size zB) : w.heap.size ≤ gb253)); replace HB := zM (below_step zB hb); have NB248_253 := zM ((by rw [hg]; exact Nat.ne_of_lt (blk_lt (g := gb248) (o := .cells #[.slice A0_0 l0_0.length c0_0, .slice (some ad252) l0_1.length c0_1] 29 (0, 0)) (zK BK248.out)) : gb248 ≠ gb253)); have NB253_248 := zM ((by rw [hg]; exact Nat.ne_of_gt (blk_lt (g := gb248) (o := .cells #[.slice A0_0 l0_0.length c0_0, .slice (some ad252) l0_1.length c0_1] 29 (0, 0)) (zK BK248.out)) : gb253 ≠ gb248)); replace BK248 := zM (blk_below (g := gb248) (o := .cells #[.slice A0_0 l0_0.length c0_0, .slice (some ad252) l0_1.length c0_1] 29 (0, 0)) (zK BK248.out) hb); clear hb hbox hg; have hnb21 := NB253_248.out; have hnc21 := NB248_253.out; have hcz22_0 := zy BK253 0; have hcz22_1 := zy BK253 1; have hfz22_0 := blk_frozen BK253.out 0; have hfz22_1 := blk_frozen BK253.out 1))
                         have n0_ : Aside0 (Kd.S (Kd.slice 3 (Kd.int .i64)) 37 ((w20.setCell ⟨gb253, 0, none⟩ (.int .i64 ((rd_T50 l0_1 x15_1).f0))).setCell ⟨gb253, 1, none⟩ (.int .i64 ((rd_T50 l0_1 x15_1).f1))) w.heap.size (fun _ => True) v250 x3_1) := ⟨by (with_reducible repeat (first | apply Kd.S_alloc | apply Kd.S_drewN | apply Kd.S_drew)); exact Kd.S_mono (Kd.S_far (p := ⟨gb253, 1, none⟩) (Kd.S_far (p := ⟨gb253, 0, none⟩) (Kd.S_types HO_3.out BK253.out (by decide)) (fun _ hk => hk.2) (.int .i64 ((rd_T50 l0_1 x15_1).f0))) (fun _ hk => hk.2) (.int .i64 ((rd_T50 l0_1 x15_1).f1))) (fun _ hk => trivial)⟩
                         have n1_ : Aside0 (((w20.setCell ⟨gb253, 0, none⟩ (.int .i64 ((rd_T50 l0_1 x15_1).f0))).setCell ⟨gb253, 1, none⟩ (.int .i64 ((rd_T50 l0_1 x15_1).f1))).heap[gb248]? = some (.cells #[.slice A0_0 l0_0.length c0_0, .slice (some ad252) l0_1.length c0_1] 29 (0, 0))) := ⟨by (with_reducible repeat (first | refine blk_drewN ?_ _ | refine blk_drew ?_ | refine blk_alloc ?_ _)); refine blk_far ?_ NB248_253.out _; (with_reducible repeat (first | refine blk_drewN ?_ _ | refine blk_drew ?_ | refine blk_alloc ?_ _)); refine blk_far ?_ NB248_253.out _; (with_reducible repeat (first | refine blk_drewN ?_ _ | refine blk_drew ?_ | refine blk_alloc ?_ _)); exact BK248.out⟩
                         have n2_ : Aside0 (((w20.setCell ⟨gb253, 0, none⟩ (.int .i64 ((rd_T50 l0_1 x15_1).f0))).setCell ⟨gb253, 1, none⟩ (.int .i64 ((rd_T50 l0_1 x15_1).f1))).heap[gb253]? = some (.cells #[.int .i64 ((rd_T50 l0_1 x15_1).f0), .int .i64 ((rd_T50 l0_1 x15_1).f1)] 50 (0, 0))) := ⟨by (with_reducible repeat (first | refine blk_drewN ?_ _ | refine blk_drew ?_ | refine blk_alloc ?_ _)); refine blk_put (cs := #[.int .i64 ((rd_T50 l0_1 x15_1).f0), .int .i64 0]) ?_ 1 _ rfl; (with_reducible repeat (first | refine blk_drewN ?_ _ | refine blk_drew ?_ | refine blk_alloc ?_ _)); refine blk_put (cs := #[.int .i64 0, .int .i64 0]) ?_ 0 _ rfl; (with_reducible repeat (first | refine blk_drewN ?_ _ | refine blk_drew ?_ | refine blk_alloc ?_ _)); exact BK253.out⟩
                         have n3_ : Aside0 (Below w.heap.size w ((w20.setCell ⟨gb253, 0, none⟩ (.int .i64 ((rd_T50 l0_1 x15_1).f0))).setCell ⟨gb253, 1, none⟩ (.int .i64 ((rd_T50 l0_1 x15_1).f1)))) := ⟨zB⟩
                         (try clear HO_3)
                         (try clear BK248)
                         (try clear BK253)
                         (try clear HB)
                         generalize ((w20.setCell ⟨gb253, 0, none⟩ (.int .i64 ((rd_T50 l0_1 x15_1).f0))).setCell ⟨gb253, 1, none⟩ (.int .i64 ((rd_T50 l0_1 x15_1).f1))) = w23 at n0_ n1_ n2_ n3_ ⊢
                         have HO_3 := n0_
                         have BK248 := n1_
                         have BK253 := n2_
                         have HB := n3_
                         clear n0_ n1_ n2_ n3_
                         replace HO_3 := zM (Kd.S_drew HO_3.out)
                         replace BK248 := zM (blk_drew BK248.out)
                         replace BK253 := zM (blk_drew BK253.out)
                         replace HB := zM (below_drew1 HB.out)
                         obtain ⟨Ao25, co25, eo25⟩ := Kd.S_slice HO_3.out
                         (first | subst eo25 | (injection eo25 with f1_ f2_ f3_; have f4_ := f1_.symm; have f5_ := f3_.symm; clear f1_ f2_ f3_; subst f4_; subst f5_))
                         have p254 : 0 ≤ (((rd_T50 l0_1 x15_1).f0) : Int) := of_decide_eq_true zA
                         have q254 : ((rd_T50 l0_1 x15_1).f0) < (x3_1.length : Int) := of_decide_eq_true zA
                         obtain ⟨ad254, A254_0, c254_0, e254, hx254_0, hl254_0, hi254_0⟩ := at_L1 (Kd.S_reads' HO_3.out).2.2 ((rd_T50 l0_1 x15_1).f0) p254 q254
                         cases e254
                         obtain ⟨ce254, hce254, hMe254, hcc254⟩ := Kd.S_get HO_3.out [] ((rd_T50 l0_1 x15_1).f0) p254 (by first | exact q254 | exact of_decide_eq_true zA | (have e_ := (Kd.S_reads' HO_3.out).1; omega))
                         obtain ⟨ve254_0, rfl, ge254_0⟩ := hMe254
                         have hv254_0 := hcc254 0 _ rfl
                         rw [Nat.add_zero, show ((Kd.slice 3 (Kd.int .i64))).sz = 1 from rfl, Nat.mul_one] at hv254_0
                         replace hv254_0 := Option.some.inj (hv254_0.symm.trans hx254_0)
                         rw [hv254_0] at ge254_0
                         have HL254_0 := zM (show Kd.R (Kd.int .i64) 3 _ _ _ _ (rd_L1 x3_1 ((rd_T50 l0_1 x15_1).f0)) from ge254_0)
                         clear hv254_0 ge254_0
                         have HX254_0 := Aside0.mk hx254_0
                         clear hcc254 hce254
                         have HR254_0 := Aside0.mk hi254_0
                         have HC254_0 := Aside0.mk hl254_0
                         clear hi254_0 hl254_0
                         replace p254 := eq_true p254
                         replace q254 := eq_true q254
                         obtain ⟨go26, co26, eo26, gb26, gl26, cl26, HG26⟩ := Kd.S_form HO_3.out (by have h_ : (((rd_T50 l0_1 x15_1).f0) : Int) < ((x3_1.length : Int) : Int) := of_decide_eq_true zA; have h2_ : 0 ≤ (((rd_T50 l0_1 x15_1).f0) : Int) := (of_decide_eq_true zA); omega)
                         (first | cases eo26 | (injection eo26 with ea_ en_ ec_; (first | subst ea_ | (injection ea_ with ea_; subst ea_)); subst ec_; clear en_))
                         have GB26 := Aside0.mk gb26
                         have GG26 := Aside0.mk HG26
                         clear gb26 gl26 HG26
                         (first | simp only [add_plain] at hx254_0 | skip)
                         obtain ⟨oki26, ce26, hcl26, hM26, hcc26, _, _, hH26⟩ := Kd.S_elem HO_3.out [] (((rd_T50 l0_1 x15_1).f0) : Int) (of_decide_eq_true zA) (by have h_ : (((rd_T50 l0_1 x15_1).f0) : Int) < ((x3_1.length : Int) : Int) := of_decide_eq_true zA; first | exact h_ | (have e_ := (Kd.S_reads' HO_3.out).1; omega) | simpa using h_)
                         obtain ⟨ve26_0, rfl, ge26_0⟩ := hM26
                         have hv26 := hcc26 0 _ rfl
                         have hX26 := HX254_0.out
                         (try simp only [add_plain] at hX26)
                         (try simp only [Nat.add_zero] at hv26)
                         (try rw [show ((Kd.slice 3 (Kd.int .i64))).sz = 1 from rfl, Nat.mul_one] at hv26)
                         replace hv26 := Option.some.inj (hv26.symm.trans hX26)
                         subst hv26
                         clear hX26 hcc26 hcl26
                         have UU26 := zM (show Kd.R (Kd.int .i64) 3 _ w.heap.size oki26 (.slice A254_0 (rd_L1 x3_1 ((rd_T50 l0_1 x15_1).f0)).length c254_0) (rd_L1 x3_1 ((rd_T50 l0_1 x15_1).f0)) from ge26_0)
                         have HH26 := Aside0.mk hH26
                         have HN26 := zM (Kd.S_reads' HO_3.out).1
                         clear hH26 ge26_0
                         refine start_ (n := 14) (S := fun w' => w'.cell? ⟨gb253, 0, none⟩ = some (.int .i64 ((rd_T50 l0_1 x15_1).f0)) ∧ w'.cell? ⟨gb253, 1, none⟩ = some (.int .i64 ((rd_T50 l0_1 x15_1).f1)) ∧ w'.cell? ⟨go26, (((rd_T50 l0_1 x15_1).f0)).toNat, none⟩ = some (.slice A254_0 (rd_L1 x3_1 ((rd_T50 l0_1 x15_1).f0)).length c254_0)) (ds := [13]) #[false, false, false, false, false, false, false, false, false, false, false, false, false, false] (by kernel_rfl) rfl rfl ⟨(blk_cell BK253.out 0).trans rfl, (blk_cell BK253.out 1).trans rfl, hx254_0⟩ (fun hHeld => ?_); refine with_tabW impl_Space_roads.tab5 impl_Space_roads.bits5 (fun HT_ HW_ => ?_)
                         generalize w23.drew = w24 at HO_3 BK248 BK253 HB GG26 HH26 HL254_0 HR254_0 HX254_0 UU26 hx254_0 hHeld ⊢
                         refine zp HT_ 0 19 ?_
                         refine zp HT_ 1 20 ?_
                         refine zp HT_ 3 22 ?_
                         refine zp HT_ 4 23 ?_
                         refine zp HT_ 8 27 ?_
                         refine zt HT_ HW_ 2 21 hHeld ?_ (hy := by rintro w' ⟨s0, s1, s2⟩; go_simp; with_reducible rfl)
                         refine zt HT_ HW_ 5 24 hHeld ?_ (hy := by rintro w' ⟨s0, s1, s2⟩; go_simp; with_reducible rfl)
                         refine zp HT_ 6 25 ?_
                         refine zt HT_ HW_ 7 26 hHeld ?_ (hy := by rintro w' ⟨s0, s1, s2⟩; go_simp; with_reducible rfl)
                         refine zt HT_ HW_ 9 28 hHeld ?_ (hy := by rintro w' ⟨s0, s1, s2⟩; go_simp; with_reducible rfl)
                         refine one_ (i := 10) (N := some 29) #[true, true, true, true, true, true, true, true, true, true, true, false, false, false] rfl rfl (one_of HT_.out (by kernel_rfl)) (by decide) (fun K hK => ?_)
                         refine value_ (w1 := ?_) (v := ?_) (by rfl) rfl ?_ ?_
                         rotate_left 2
                         · go_simp
                           constructor
                           · rfl
                           · rfl
                         refine hK.out _ _ ⟨(blk_cell (blk_alloc BK253.out _) 0).trans rfl, (blk_cell (blk_alloc BK253.out _) 1).trans rfl, (World.cell?_alloc_lt _ _ _ (World.block_lt_of_cell? _ _ (hHeld.2.2))).trans (hHeld.2.2)⟩ (fun hHeld => ?_)
                         clear hK K
                         refine zn 29 ?_
                         refine one_ (i := 11) (N := some 30) #[true, true, true, true, true, true, true, true, true, true, true, true, false, false] rfl rfl (one_of HT_.out (by kernel_rfl)) (by decide) (fun K hK => ?_)
                         refine Kd.R_append_step (Kd.int .i64) (w0 := w) w.heap.size (by rfl) (.tmp 26) (.tmp 29) 37 3 (.int .i64 0) 8 rfl Try.underlying37 info3 rfl (by decide) (by omega) (.slice A254_0 (rd_L1 x3_1 ((rd_T50 l0_1 x15_1).f0)).length c254_0) (rd_L1 x3_1 ((rd_T50 l0_1 x15_1).f0)) ((rd_T50 l0_1 x15_1).f1) [.int .i64 ((rd_T50 l0_1 x15_1).f1)] (fun k_ => oki26 k_ ∨ ((fun _ => True)) k_ ∧ w24.heap.size ≤ k_) (fun _ => False) rfl rfl ?aP (fun _ hk => hk.elim) ?aF ?aO ?aB ?aS ?aL ?_
                         (case aP => exact rfl)
                         (case aB => exact zB)
                         (case aF => exact (fun k_ hk => .inr ⟨trivial, hk⟩))
                         (case aO => exact (by (with_reducible repeat (first | apply Kd.R_alloc | apply Kd.R_drewN | apply Kd.R_drew)); exact Kd.R_mono UU26.out (fun _ hk => .inl hk)))
                         (case aS => exact (below_size zB))
                         (case aL => have := LMc14.out; omega)
                         intro v256 w27 ho hb hg hat
                         (first | have HS2_ := Go.Proofs.YtopgbijegnnjbaaW.PrintWords.cell_grown hg (hHeld.2.2) (by first | (rw [add_block]; exact (fun e_ => ((HL254_0.out.1 _ e_.symm).2) rfl)) | (show some (Addr.add _ _).block ≠ _; rw [add_block]; exact (fun e_ => ((HL254_0.out.1 _ e_.symm).2) rfl)) | exact (fun e_ => ((HL254_0.out.1 _ e_.symm).2) rfl)) | have HS2_ := Go.Proofs.YtopgbijegnnjbaaW.PrintWords.cell_grown hg (cell_unalloc (hHeld.2.2) (by first | (rw [add_block]; exact Kd.S_lt HO_3.out _ rfl) | (show (Addr.add _ _).block < _; rw [add_block]; exact Kd.S_lt HO_3.out _ rfl) | exact Kd.S_lt HO_3.out _ rfl)) (by first | (rw [add_block]; exact (fun e_ => ((HL254_0.out.1 _ e_.symm).2) rfl)) | (show some (Addr.add _ _).block ≠ _; rw [add_block]; exact (fun e_ => ((HL254_0.out.1 _ e_.symm).2) rfl)) | exact (fun e_ => ((HL254_0.out.1 _ e_.symm).2) rfl)))
                         rw [← Ny255.out] at ho
                         replace BK248 := zM (blk_grown (g := gb248) (o := .cells #[.slice A0_0 l0_0.length c0_0, .slice (some ad252) l0_1.length c0_1] 29 (0, 0)) (zK BK248.out) hg (Kd.R_ne HL254_0.out BK248.out (by decide)))
                         replace BK253 := zM (blk_grown (g := gb253) (o := .cells #[.int .i64 ((rd_T50 l0_1 x15_1).f0), .int .i64 ((rd_T50 l0_1 x15_1).f1)] 50 (0, 0)) (zK BK253.out) hg (Kd.R_ne HL254_0.out BK253.out (by decide)))
                         replace HB := zM (hb)
                         replace HH26 := zM (Kd.H_grown (Kd.H_widen (by repeat (first | exact HH26.out | refine Kd.H_alloc ?_ _ | refine Kd.H_drewN ?_ _ | refine Kd.H_drew ?_))) hg (fun k_ e_ => .inl (UU26.out.1 k_ e_)))
                         have HO257 := zM (ho)
                         clear HO_3 UU26 HL254_0
                         clear ho hb hg hat
                         have p15 : 0 ≤ (((rd_T50 l0_1 x15_1).f0) : Int) := of_decide_eq_true zA
                         have q15 : (((rd_T50 l0_1 x15_1).f0) : Int) < ((x3_1.length : Int) : Int) := of_decide_eq_true zA
                         replace p15 := eq_true p15
                         replace q15 := eq_true q15
                         obtain ⟨Ao30, co30, eo30⟩ := Kd.R_slice HO257.out
                         (first | subst eo30 | (injection eo30 with f1_ f2_ f3_; have f4_ := f1_.symm; have f5_ := f3_.symm; clear f1_ f2_ f3_; subst f4_; subst f5_))
                         obtain ⟨_, _, hraw28, _, _, hcc28, _⟩ := Kd.H_raw HH26.out (of_decide_eq_true zA) (by have h_ : (((rd_T50 l0_1 x15_1).f0) : Int) < ((x3_1.length : Int) : Int) := of_decide_eq_true zA; first | exact h_ | (have e_ := (HN26.out); omega) | simpa using h_)
                         obtain ⟨_, hfr28⟩ := Kd.H_at HH26.out (of_decide_eq_true zA) (by have h_ : (((rd_T50 l0_1 x15_1).f0) : Int) < ((x3_1.length : Int) : Int) := of_decide_eq_true zA; first | exact h_ | (have e_ := (HN26.out); omega) | simpa using h_)
                         have hx28_0 := hcc28 0 _ rfl
                         have hf28_0 := hfr28 0
                         (try simp only [Nat.add_zero] at hx28_0 hf28_0)
                         (try rw [show ((Kd.slice 3 (Kd.int .i64))).sz = 1 from rfl, Nat.mul_one] at hx28_0)
                         (try rw [show ((Kd.slice 3 (Kd.int .i64))).sz = 1 from rfl, Nat.mul_one] at hf28_0)
                         have HP28 := Kd.S_seg0 HH26.out (of_decide_eq_true zA) (by have h_ : (((rd_T50 l0_1 x15_1).f0) : Int) < ((x3_1.length : Int) : Int) := of_decide_eq_true zA; first | exact h_ | (have e_ := (HN26.out); omega) | simpa using h_) (seg := [.slice Ao30 y255.length co30]) (j := 0) (show 1 ≤ 1 from by decide) (x' := y255) (Kd.M_row HO257.out) (fun _ hk => hk)
                         (try simp only [show ((Kd.slice 3 (Kd.int .i64))).sz = 1 from rfl, Nat.mul_one, Nat.add_zero] at HP28)
                         clear hcc28 hfr28
                         have HNB248_go26 := zM (show gb248 ≠ go26 from by have h_ := Kd.R_ne hraw28 BK248.out (by decide); intro e_; exact h_ (by rw [e_]; rfl))
                         have HNB253_go26 := zM (show gb253 ≠ go26 from by have h_ := Kd.R_ne hraw28 BK253.out (by decide); intro e_; exact h_ (by rw [e_]; rfl))
                         have HS28 := HP28.1
                         rw [← Ny258.out] at HS28
                         have HQ28 := Aside0.mk HS28
                         obtain ⟨_, hgg28⟩ := Kd.R_typed hraw28 go26 rfl
                         have GG28_ := Aside0.mk hgg28
                         clear HP28 HS28 hgg28
                         refine hK.out _ _ ⟨(blk_cell BK253.out 0).trans rfl, (blk_cell BK253.out 1).trans rfl, HS2_⟩ (fun hHeld => ?_)
                         clear hK K
                         refine zn 30 ?_
                         refine zp HT_ 12 31 ?_
                         refine last_ (i := 13) (N := none) #[true, true, true, true, true, true, true, true, true, true, true, true, true, true] rfl rfl (one_of HT_.out (by kernel_rfl)) (by decide) (fun K hK => ?_)
                         refine skip_ (w1 := ?_) (by rfl) rfl ?_ ?_
                         rotate_left
                         · go_simp
                           rfl
                         refine hK.out _ _ ?_
                         clear hK K
                         refine zo HT_ ?_
                         try go_wp2
                         have n0_ : Aside0 (Kd.S (Kd.slice 3 (Kd.int .i64)) 37 (w27.setCell ⟨go26, (((rd_T50 l0_1 x15_1).f0) : Int).toNat, none⟩ (.slice Ao30 y255.length co30)) w.heap.size (fun _ => True) (.slice (some ⟨go26, 0, none⟩) x3_1.length co25) y258) := ⟨by (with_reducible repeat (first | apply Kd.S_alloc | apply Kd.S_drewN | apply Kd.S_drew)); exact HQ28.out⟩
                         have n1_ : Aside0 ((w27.setCell ⟨go26, (((rd_T50 l0_1 x15_1).f0) : Int).toNat, none⟩ (.slice Ao30 y255.length co30)).heap[gb248]? = some (.cells #[.slice A0_0 l0_0.length c0_0, .slice (some ad252) l0_1.length c0_1] 29 (0, 0))) := ⟨by (with_reducible repeat (first | refine blk_drewN ?_ _ | refine blk_drew ?_ | refine blk_alloc ?_ _)); refine blk_far ?_ HNB248_go26.out _; (with_reducible repeat (first | refine blk_drewN ?_ _ | refine blk_drew ?_ | refine blk_alloc ?_ _)); exact BK248.out⟩
                         have n2_ : Aside0 ((w27.setCell ⟨go26, (((rd_T50 l0_1 x15_1).f0) : Int).toNat, none⟩ (.slice Ao30 y255.length co30)).heap[gb253]? = some (.cells #[.int .i64 ((rd_T50 l0_1 x15_1).f0), .int .i64 ((rd_T50 l0_1 x15_1).f1)] 50 (0, 0))) := ⟨by (with_reducible repeat (first | refine blk_drewN ?_ _ | refine blk_drew ?_ | refine blk_alloc ?_ _)); refine blk_far ?_ HNB253_go26.out _; (with_reducible repeat (first | refine blk_drewN ?_ _ | refine blk_drew ?_ | refine blk_alloc ?_ _)); exact BK253.out⟩
                         have n3_ : Aside0 (Below w.heap.size w (w27.setCell ⟨go26, (((rd_T50 l0_1 x15_1).f0) : Int).toNat, none⟩ (.slice Ao30 y255.length co30))) := ⟨zB⟩
                         (try clear HO_3)
                         (try clear BK248)
                         (try clear BK253)
                         (try clear HB)
                         generalize (w27.setCell ⟨go26, (((rd_T50 l0_1 x15_1).f0) : Int).toNat, none⟩ (.slice Ao30 y255.length co30)) = w31 at n0_ n1_ n2_ n3_ ⊢
                         have HO_3 := n0_
                         have BK248 := n1_
                         have BK253 := n2_
                         have HB := n3_
                         clear n0_ n1_ n2_ n3_
                         replace HO_3 := zM (Kd.S_drew HO_3.out)
                         replace BK248 := zM (blk_drew BK248.out)
                         replace BK253 := zM (blk_drew BK253.out)
                         replace HB := zM (below_drew1 HB.out)
                         have p259 : 0 ≤ (((rd_T50 l0_1 x15_1).f1) : Int) := of_decide_eq_true zA
                         have q259 : ((rd_T50 l0_1 x15_1).f1) < (y258.length : Int) := (by have h_ : (((rd_T50 l0_1 x15_1).f1) : Int) < ((x3_1.length : Int) : Int) := of_decide_eq_true zA; first | (have e_ := (Kd.S_reads' HO_3.out).1; omega) | simpa only [Ny258.out, List.length_set] using h_)
                         have ql259 : ((((rd_T50 l0_1 x15_1).f1) : Int) < ((x3_1.length : Int) : Int)) = True := eq_true (of_decide_eq_true zA)
                         obtain ⟨ad259, A259_0, c259_0, e259, hx259_0, hl259_0, hi259_0⟩ := at_L1 (Kd.S_reads' HO_3.out).2.2 ((rd_T50 l0_1 x15_1).f1) p259 q259
                         obtain rfl : (⟨go26, 0, none⟩ : Addr) = ad259 := (by injection e259)
                         obtain ⟨ce259, hce259, hMe259, hcc259⟩ := Kd.S_get HO_3.out [] ((rd_T50 l0_1 x15_1).f1) p259 (by first | exact q259 | exact of_decide_eq_true zA | (have e_ := (Kd.S_reads' HO_3.out).1; omega))
                         obtain ⟨ve259_0, rfl, ge259_0⟩ := hMe259
                         have hv259_0 := hcc259 0 _ rfl
                         rw [Nat.add_zero, show ((Kd.slice 3 (Kd.int .i64))).sz = 1 from rfl, Nat.mul_one] at hv259_0
                         replace hv259_0 := Option.some.inj (hv259_0.symm.trans hx259_0)
                         rw [hv259_0] at ge259_0
                         have HL259_0 := zM (show Kd.R (Kd.int .i64) 3 _ _ _ _ (rd_L1 y258 ((rd_T50 l0_1 x15_1).f1)) from ge259_0)
                         clear hv259_0 ge259_0
                         have HX259_0 := Aside0.mk hx259_0
                         clear hcc259 hce259
                         (first | simp only [add_plain] at hx259_0 | simp only [add_at] at hx259_0 | simp only [Addr.add, Nat.zero_add] at hx259_0 | skip)
                         have HR259_0 := Aside0.mk hi259_0
                         have HC259_0 := Aside0.mk hl259_0
                         clear hi259_0 hl259_0
                         replace p259 := eq_true p259
                         replace q259 := eq_true q259
                         obtain ⟨oki33, ce33, hcl33, hM33, hcc33, _, _, hH33⟩ := Kd.S_elem HO_3.out [] (((rd_T50 l0_1 x15_1).f1) : Int) (of_decide_eq_true zA) (by have h_ : (((rd_T50 l0_1 x15_1).f1) : Int) < ((x3_1.length : Int) : Int) := of_decide_eq_true zA; first | exact h_ | (have e_ := (Kd.S_reads' HO_3.out).1; omega) | simpa using h_)
                         obtain ⟨ve33_0, rfl, ge33_0⟩ := hM33
                         have hv33 := hcc33 0 _ rfl
                         have hX33 := HX259_0.out
                         (try simp only [add_plain] at hX33)
                         (try simp only [Nat.add_zero] at hv33)
                         (try rw [show ((Kd.slice 3 (Kd.int .i64))).sz = 1 from rfl, Nat.mul_one] at hv33)
                         replace hv33 := Option.some.inj (hv33.symm.trans hX33)
                         subst hv33
                         clear hX33 hcc33 hcl33
                         have UU33 := zM (show Kd.R (Kd.int .i64) 3 _ w.heap.size oki33 (.slice A259_0 (rd_L1 y258 ((rd_T50 l0_1 x15_1).f1)).length c259_0) (rd_L1 y258 ((rd_T50 l0_1 x15_1).f1)) from ge33_0)
                         have HH33 := Aside0.mk hH33
                         have HN33 := zM (Kd.S_reads' HO_3.out).1
                         clear hH33 ge33_0
                         refine start_ (n := 14) (S := fun w' => w'.cell? ⟨gb253, 0, none⟩ = some (.int .i64 ((rd_T50 l0_1 x15_1).f0)) ∧ w'.cell? ⟨gb253, 1, none⟩ = some (.int .i64 ((rd_T50 l0_1 x15_1).f1)) ∧ w'.cell? ⟨go26, (((rd_T50 l0_1 x15_1).f1)).toNat, none⟩ = some (.slice A259_0 (rd_L1 y258 ((rd_T50 l0_1 x15_1).f1)).length c259_0)) (ds := [13]) #[false, false, false, false, false, false, false, false, false, false, false, false, false, false] (by kernel_rfl) rfl rfl ⟨(blk_cell BK253.out 0).trans rfl, (blk_cell BK253.out 1).trans rfl, hx259_0⟩ (fun hHeld => ?_); refine with_tabW impl_Space_roads.tab6 impl_Space_roads.bits6 (fun HT_ HW_ => ?_)
                         generalize w31.drew = w32 at HO_3 BK248 BK253 HB HH33 HL259_0 HQ28 HR259_0 HX259_0 UU33 hx259_0 hHeld ⊢
                         refine zp HT_ 0 32 ?_
                         refine zp HT_ 1 33 ?_
                         refine zp HT_ 3 35 ?_
                         refine zp HT_ 4 36 ?_
                         refine zp HT_ 8 40 ?_
                         refine zt HT_ HW_ 2 34 hHeld ?_ (hy := by rintro w' ⟨s0, s1, s2⟩; go_simp; with_reducible rfl)
                         refine zt HT_ HW_ 5 37 hHeld ?_ (hy := by rintro w' ⟨s0, s1, s2⟩; go_simp; with_reducible rfl)
                         refine zp HT_ 6 38 ?_
                         refine zt HT_ HW_ 7 39 hHeld ?_ (hy := by rintro w' ⟨s0, s1, s2⟩; go_simp; with_reducible rfl)
                         refine zt HT_ HW_ 9 41 hHeld ?_ (hy := by rintro w' ⟨s0, s1, s2⟩; go_simp; with_reducible rfl)
                         refine one_ (i := 10) (N := some 42) #[true, true, true, true, true, true, true, true, true, true, true, false, false, false] rfl rfl (one_of HT_.out (by kernel_rfl)) (by decide) (fun K hK => ?_)
                         refine value_ (w1 := ?_) (v := ?_) (by rfl) rfl ?_ ?_
                         rotate_left 2
                         · go_simp
                           constructor
                           · rfl
                           · rfl
                         refine hK.out _ _ ⟨(blk_cell (blk_alloc BK253.out _) 0).trans rfl, (blk_cell (blk_alloc BK253.out _) 1).trans rfl, (World.cell?_alloc_lt _ _ _ (World.block_lt_of_cell? _ _ (hHeld.2.2))).trans (hHeld.2.2)⟩ (fun hHeld => ?_)
                         clear hK K
                         refine zn 42 ?_
                         refine one_ (i := 11) (N := some 43) #[true, true, true, true, true, true, true, true, true, true, true, true, false, false] rfl rfl (one_of HT_.out (by kernel_rfl)) (by decide) (fun K hK => ?_)
                         refine Kd.R_append_step (Kd.int .i64) (w0 := w) w.heap.size (by rfl) (.tmp 39) (.tmp 42) 37 3 (.int .i64 0) 8 rfl Try.underlying37 info3 rfl (by decide) (by omega) (.slice A259_0 (rd_L1 y258 ((rd_T50 l0_1 x15_1).f1)).length c259_0) (rd_L1 y258 ((rd_T50 l0_1 x15_1).f1)) ((rd_T50 l0_1 x15_1).f0) [.int .i64 ((rd_T50 l0_1 x15_1).f0)] (fun k_ => oki33 k_ ∨ ((fun _ => True)) k_ ∧ w32.heap.size ≤ k_) (fun _ => False) rfl rfl ?aP (fun _ hk => hk.elim) ?aF ?aO ?aB ?aS ?aL ?_
                         (case aP => exact rfl)
                         (case aB => exact zB)
                         (case aF => exact (fun k_ hk => .inr ⟨trivial, hk⟩))
                         (case aO => exact (by (with_reducible repeat (first | apply Kd.R_alloc | apply Kd.R_drewN | apply Kd.R_drew)); exact Kd.R_mono UU33.out (fun _ hk => .inl hk)))
                         (case aS => exact (below_size zB))
                         (case aL => have := LMc18.out; omega)
                         intro v261 w34 ho hb hg hat
                         (first | have HS2_ := Go.Proofs.YtopgbijegnnjbaaW.PrintWords.cell_grown hg (hHeld.2.2) (by first | (rw [add_block]; exact (fun e_ => ((HL259_0.out.1 _ e_.symm).2) rfl)) | (show some (Addr.add _ _).block ≠ _; rw [add_block]; exact (fun e_ => ((HL259_0.out.1 _ e_.symm).2) rfl)) | exact (fun e_ => ((HL259_0.out.1 _ e_.symm).2) rfl)) | have HS2_ := Go.Proofs.YtopgbijegnnjbaaW.PrintWords.cell_grown hg (cell_unalloc (hHeld.2.2) (by first | (rw [add_block]; exact Kd.S_lt HO_3.out _ rfl) | (show (Addr.add _ _).block < _; rw [add_block]; exact Kd.S_lt HO_3.out _ rfl) | exact Kd.S_lt HO_3.out _ rfl)) (by first | (rw [add_block]; exact (fun e_ => ((HL259_0.out.1 _ e_.symm).2) rfl)) | (show some (Addr.add _ _).block ≠ _; rw [add_block]; exact (fun e_ => ((HL259_0.out.1 _ e_.symm).2) rfl)) | exact (fun e_ => ((HL259_0.out.1 _ e_.symm).2) rfl)))
                         rw [← Ny260.out] at ho
                         replace BK248 := zM (blk_grown (g := gb248) (o := .cells #[.slice A0_0 l0_0.length c0_0, .slice (some ad252) l0_1.length c0_1] 29 (0, 0)) (zK BK248.out) hg (Kd.R_ne HL259_0.out BK248.out (by decide)))
                         replace BK253 := zM (blk_grown (g := gb253) (o := .cells #[.int .i64 ((rd_T50 l0_1 x15_1).f0), .int .i64 ((rd_T50 l0_1 x15_1).f1)] 50 (0, 0)) (zK BK253.out) hg (Kd.R_ne HL259_0.out BK253.out (by decide)))
                         replace HB := zM (hb)
                         replace HH33 := zM (Kd.H_grown (Kd.H_widen (by repeat (first | exact HH33.out | refine Kd.H_alloc ?_ _ | refine Kd.H_drewN ?_ _ | refine Kd.H_drew ?_))) hg (fun k_ e_ => .inl (UU33.out.1 k_ e_)))
                         have HO262 := zM (ho)
                         clear HO_3 UU33 HL259_0
                         clear ho hb hg hat
                         have p19 : 0 ≤ (((rd_T50 l0_1 x15_1).f1) : Int) := of_decide_eq_true zA
                         have q19 : (((rd_T50 l0_1 x15_1).f1) : Int) < ((x3_1.length : Int) : Int) := of_decide_eq_true zA
                         replace p19 := eq_true p19
                         replace q19 := eq_true q19
                         obtain ⟨Ao37, co37, eo37⟩ := Kd.R_slice HO262.out
                         (first | subst eo37 | (injection eo37 with f1_ f2_ f3_; have f4_ := f1_.symm; have f5_ := f3_.symm; clear f1_ f2_ f3_; subst f4_; subst f5_))
                         obtain ⟨_, _, hraw35, _, _, hcc35, _⟩ := Kd.H_raw HH33.out (of_decide_eq_true zA) (by have h_ : (((rd_T50 l0_1 x15_1).f1) : Int) < ((x3_1.length : Int) : Int) := of_decide_eq_true zA; first | exact h_ | (have e_ := (HN33.out); omega) | simpa using h_)
                         obtain ⟨_, hfr35⟩ := Kd.H_at HH33.out (of_decide_eq_true zA) (by have h_ : (((rd_T50 l0_1 x15_1).f1) : Int) < ((x3_1.length : Int) : Int) := of_decide_eq_true zA; first | exact h_ | (have e_ := (HN33.out); omega) | simpa using h_)
                         have hx35_0 := hcc35 0 _ rfl
                         have hf35_0 := hfr35 0
                         (try simp only [Nat.add_zero] at hx35_0 hf35_0)
                         (try rw [show ((Kd.slice 3 (Kd.int .i64))).sz = 1 from rfl, Nat.mul_one] at hx35_0)
                         (try rw [show ((Kd.slice 3 (Kd.int .i64))).sz = 1 from rfl, Nat.mul_one] at hf35_0)
                         have HP35 := Kd.S_seg0 HH33.out (of_decide_eq_true zA) (by have h_ : (((rd_T50 l0_1 x15_1).f1) : Int) < ((x3_1.length : Int) : Int) := of_decide_eq_true zA; first | exact h_ | (have e_ := (HN33.out); omega) | simpa using h_) (seg := [.slice Ao37 y260.length co37]) (j := 0) (show 1 ≤ 1 from by decide) (x' := y260) (Kd.M_row HO262.out) (fun _ hk => hk)
                         (try simp only [show ((Kd.slice 3 (Kd.int .i64))).sz = 1 from rfl, Nat.mul_one, Nat.add_zero] at HP35)
                         clear hcc35 hfr35
                         have HNB248_go26 := zM (show gb248 ≠ go26 from by have h_ := Kd.R_ne hraw35 BK248.out (by decide); intro e_; exact h_ (by rw [e_]; rfl))
                         have HNB253_go26 := zM (show gb253 ≠ go26 from by have h_ := Kd.R_ne hraw35 BK253.out (by decide); intro e_; exact h_ (by rw [e_]; rfl))
                         have HS35 := HP35.1
                         rw [← Ny263.out] at HS35
                         have HQ35 := Aside0.mk HS35
                         obtain ⟨_, hgg35⟩ := Kd.R_typed hraw35 go26 rfl
                         have GG35_ := Aside0.mk hgg35
                         clear HP35 HS35 hgg35
                         refine hK.out _ _ ⟨(blk_cell BK253.out 0).trans rfl, (blk_cell BK253.out 1).trans rfl, HS2_⟩ (fun hHeld => ?_)
                         clear hK K
                         refine zn 43 ?_
                         refine zp HT_ 12 44 ?_
                         refine last_ (i := 13) (N := none) #[true, true, true, true, true, true, true, true, true, true, true, true, true, true] rfl rfl (one_of HT_.out (by kernel_rfl)) (by decide) (fun K hK => ?_)
                         refine skip_ (w1 := ?_) (by rfl) rfl ?_ ?_
                         rotate_left
                         · go_simp
                           rfl
                         refine hK.out _ _ ?_
                         clear hK K
                         refine zo HT_ ?_
                         try go_wp2
                         go_roundg k1
                         case measure => have := HK1.out; omega
                         case rel => exact ⟨(y263), (wrap64 (x15_1 + 1)), (by first | rfl | (simp; done) | (simp [*]; done)), H', ⟨by have := HK1.out; omega⟩, ⟨by (with_reducible repeat (first | apply Kd.S_alloc | apply Kd.S_drewN | apply Kd.S_drew)); exact HQ35.out⟩, ⟨by (with_reducible repeat (first | refine blk_drewN ?_ _ | refine blk_drew ?_ | refine blk_alloc ?_ _)); refine blk_far ?_ HNB248_go26.out _; (with_reducible repeat (first | refine blk_drewN ?_ _ | refine blk_drew ?_ | refine blk_alloc ?_ _)); exact BK248.out⟩, ⟨zB⟩⟩
                       · rw [if_neg c18] at H
                         exact absurd H (by simp)
                     · rw [if_neg c17] at H
                       exact absurd H (by simp)
                   · rw [if_neg c16] at H
                     exact absurd H (by simp)
                 · rw [if_neg c14] at H
                   exact absurd H (by simp)
               · rw [if_neg c13] at H
                 exact absurd H (by simp)
             · rw [if_neg c12] at H
               exact absurd H (by simp)
           · rw [if_neg c11] at H
             exact absurd H (by simp)
         · rw [if_neg c10] at H
           exact absurd H (by simp)
       · rw [if_neg c9] at H
         have c9b0 : decide (x15_1 < (l0_1.length : Int)) = false := decide_eq_false c9
         clear c9
         have e_ := Option.some.inj H
         clear H
         have HO := HO_3.out
         rw [e_] at HO
         clear HO_3 e_
         have HQ := HB
         clear HB HK1
         (try clear BK248)
         obtain ⟨Ar, cr, er⟩ := Kd.S_slice HO
         subst er
         have HO0 := Aside0.mk HO
         clear HO
         have HL := Aside0.mk (show r0.length ≤ 9223372036854775807 by
           obtain ⟨A', c', _, _, hc⟩ := Kd.S_reads HO0.out
           exact hc.2.1)
         go_wp2
         go_loopg [48] (r0.length + 1) (fun kq v48 w' => ∃ (m : Nat) (done : List (List Int)), v48 = .int .i64 m ∧ Aside0 (m ≤ r0.length) ∧ Aside0 (kq = r0.length - m + 1) ∧ Aside0 (done.length = m) ∧ Aside0 (∃ t, sortRows (r0.drop m) = some t ∧ done ++ t = r) ∧ Aside0 (Kd.S (Kd.slice 3 (Kd.int .i64)) 37 w' w.heap.size (fun _ => True) (.slice Ar r0.length cr) (done ++ r0.drop m)) ∧ Aside0 (Below w.heap.size w w'))
         case atStart => exact ⟨0, [], rfl, ⟨Nat.zero_le _⟩, ⟨by omega⟩, ⟨rfl⟩, ⟨by rw [List.drop_zero]; exact ⟨r, HSORT.out, rfl⟩⟩, ⟨by rw [List.drop_zero]; exact HO0.out⟩, HQ⟩
         case round =>
           clear HO0 HQ HSORT
           obtain ⟨m, done, rfl, HM, HK1, HD, HA, HO, HB⟩ := hrel
           have HN := Aside0.mk (show (done ++ r0.drop m).length = r0.length by rw [List.length_append, List.length_drop, HD.out]; have := HM.out; omega)
           by_cases c1 : m < r0.length
           · have q1 : (m : Int) < (r0.length : Int) := by omega
             obtain ⟨g, cap, eg, gb, gl, HG⟩ := Kd.S_form HO.out (by rw [HN.out]; omega)
             rw [HN.out] at eg
             injection eg with eA _ ec
             subst eA; subst ec
             obtain ⟨oki, cs, hcl, hM, hcc, hoki, HH⟩ := Kd.S_lend HO.out ([] : List Int) (m : Int) (by omega) q1
             obtain ⟨v, rfl, hR⟩ := hM
             have hrow : (done ++ r0.drop m).getD (m : Int).toNat [] = r0[m] := by
               rw [Int.toNat_natCast, List.getD_eq_getElem?_getD, List.getElem?_append_right (by rw [HD.out]; exact Nat.le_refl _), HD.out, Nat.sub_self, List.getElem?_drop, Nat.add_zero, List.getElem?_eq_getElem c1, Option.getD_some]
             rw [hrow] at hR
             have hx0 := hcc 0 _ rfl
             rw [Int.toNat_natCast, show (Kd.slice 3 (Kd.int .i64)).sz = 1 from rfl, Nat.mul_one, Nat.add_zero] at hx0
             obtain ⟨t0, ht0, hdt⟩ := HA.out
             rw [List.drop_eq_getElem_cons c1] at ht0
             obtain ⟨a0, t1, hf, ht1, rfl⟩ := sortRows_cons ht0
             have HF := Aside0.mk hf
             have HRo := Aside0.mk hR
             have HHo := Aside0.mk HH
             have HOk := Aside0.mk hoki
             have HE := Aside0.mk (set_midR done r0 m HD.out c1 a0)
             have H2 : Aside0 (∃ t, sortRows (r0.drop (m + 1)) = some t ∧ (done ++ [a0]) ++ t = r) := ⟨t1, ht1, by rw [List.append_assoc, List.singleton_append]; exact hdt⟩
             obtain ⟨Av, cv, ev⟩ := Kd.R_slice hR
             subst ev
             generalize r0[m] = row at HF HRo hx0 HHo
             clear HA hcc hcl gl HG gb hR HH hoki hf hrow ht0 ht1 hdt
             have c1b : decide ((m : Int) < (r0.length : Int)) = true := decide_eq_true q1
             have c1c : decide (m < r0.length) = true := decide_eq_true c1
             have p1 : (0 : Int) ≤ (m : Int) := by omega
             have hw1 : (m : Int) + 1 ≤ 9223372036854775807 := by have := HL.out; omega
             replace p1 := eq_true p1
             replace q1 := eq_true q1
             clear c1
             go_wp2_with (go_at_call 35; refine (slices_Sort_int_int.calls oki _ row a0 w wr HB.out HRo.out HF.out).mono ?_; rintro e w2 ⟨rfl, hy, hb, hkp⟩; have HS := Aside0.mk (Kd.H_back (Kd.H_kept HHo.out hkp (fun _ _ hn => hn)) (x' := a0) ⟨_, rfl, Kd.R_reok rfl hy (fun k_ e_ => HRo.out.1 k_ e_)⟩ (fun _ hk => hk)); have HB2 := Aside0.mk hb; clear hy hb hkp)
             go_roundg (r0.length - m)
             case measure => have := HK1.out; have := HM.out; omega
             case rel => exact ⟨m + 1, done ++ [a0], by first | rfl | (simp; done) | go_num, ⟨by have := of_eq_true q1; omega⟩, ⟨by have := of_eq_true q1; omega⟩, ⟨by rw [List.length_append, HD.out]; rfl⟩, H2, ⟨by rw [← HE.out]; rw [← Int.toNat_natCast m]; exact HS.out⟩, HB2⟩
           · have q1 : ¬ (m : Int) < (r0.length : Int) := by omega
             have c1b : decide ((m : Int) < (r0.length : Int)) = false := decide_eq_false q1
             have c1c : decide (m < r0.length) = false := decide_eq_false c1
             have H3 : Aside0 (done ++ r0.drop m = r) := ⟨by
               obtain ⟨t, ht, hd⟩ := HA.out
               rw [List.drop_eq_nil_of_le (show r0.length ≤ m by omega)] at ht ⊢
               rw [← hd, Option.some.inj (show some [] = some t from ht)]⟩
             clear HA c1 q1
             go_wp2
             go_ret
             exact ⟨_, rfl, by rw [← H3.out]; exact HO.out, HB.out⟩
   · rw [if_neg c3] at H
     exact absurd H (by simp)
 · rw [if_neg c2] at H
   exact absurd H (by simp)

def impl_Space_roads.f (k : Nat) (l0_0 : List (List Int)) (l0_1 : List (S50)) : Option (List (List Int)) := (impl_Space_roads.g k l0_0 l0_1).bind sortRows
theorem impl_Space_roads.calls (k : Nat) (A0_0 : Option Addr) (c0_0 : Nat) (l0_0 : List (List Int)) (A0_1 : Option Addr) (c0_1 : Nat) (l0_1 : List (S50)) (r : List (List Int)) (w : World) (hr0_0 : Kd.C (Kd.slice 3 (Kd.int .i64)) w A0_0 l0_0.length l0_0) (hc0_0 : l0_0.length ≤ c0_0) (hr0_1 : Kd.C k50 w A0_1 l0_1.length l0_1) (hc0_1 : l0_1.length ≤ c0_1) (h : impl_Space_roads.f k l0_0 l0_1 = some r) :
 Calls Try.prog 19 #[.agg #[.slice A0_0 l0_0.length c0_0, .slice A0_1 l0_1.length c0_1]] w fun e w' => ∃ v0_ : Value, e = .returned (v0_) ∧ Kd.S (Kd.slice 3 (Kd.int .i64)) 37 w' w.heap.size (fun _ => True) v0_ r ∧ Below w.heap.size w w' := by
  obtain ⟨r0, h1, h2⟩ := Option.bind_eq_some_iff.mp h
  exact impl_Space_roads.calls0 k A0_0 c0_0 l0_0 A0_1 c0_1 l0_1 r0 r w hr0_0 hc0_0 hr0_1 hc0_1 h1 h2
end Go.Proofs.Ytopgbijegnnjbaa.P
namespace Go.Proofs.Ytopgbijegnnjbaa.P
open Go.RowKit Go.Deep Go.ChangeShapes Go.Joins Go.Proofs.YtopgbijegnnjbaaW.PrintWords
set_option linter.unusedVariables false
set_option linter.unusedSimpArgs false
/-- A whole number, a list of them, a list of pairs, a list of lists, as they come in. -/
def FitL (l : List Int) : Prop := l.length ≤ 9223372036854775807 ∧ ∀ n ∈ l, (Lit.int .i64 n).wf = true
def FitP (l : List S50) : Prop := l.length ≤ 9223372036854775807 ∧ ∀ e ∈ l, (Lit.int .i64 e.f0).wf = true ∧ (Lit.int .i64 e.f1).wf = true
def FitLL (l : List (List Int)) : Prop := l.length ≤ 9223372036854775807 ∧ ∀ s ∈ l, FitL s
section
variable {H : Type} {enc : TypeId × Value → H} {W : World} {base : Nat} {held : Bool} {fuel : Nat}

theorem read_lists {v : Value} {y : DataW H × List MemPlace} (h : DataW.trod enc Try.prog W base (fun _ => true) held fuel 22 [v] = some y) :
    ∃ (A : Option Addr) (c : Nat) (l : List (List Int)), v = .slice A l.length c ∧ l.length ≤ c ∧ Kd.C (Kd.slice 3 (Kd.int .i64)) W A l.length l ∧ FitLL l := by
  rcases open_int_rows Try.underlying22 Try.underlying37 Try.underlying3 (by kernel_rfl) (by kernel_rfl) h with ⟨hcs, _⟩ | ⟨a, len, cap, Ar, L, C, Z, hcs, _, hl, hm, _, hx⟩
  · injection hcs with hv _
    exact ⟨none, 0, [], hv, Nat.le_refl _, ⟨rfl, Nat.zero_le _, fun h0 => absurd h0 (Nat.lt_irrefl _)⟩, ⟨Nat.zero_le _, fun n hn => by cases hn⟩⟩
  · injection hcs with hv _
    have hlen : ((List.range len).map fun r => (Z r).take (L r)).length = len := by simp
    refine ⟨some a, cap, (List.range len).map fun r => (Z r).take (L r), by rw [hlen]; exact hv, by omega, ⟨rfl, by unfold maxLen at hm; omega, fun _ => ⟨a, rfl, fun j p hj => ?_⟩⟩, ⟨by rw [hlen]; unfold maxLen at hm; omega, ?_⟩⟩
    · have hj2 := (List.getElem?_eq_some_iff.1 hj).1
      rw [hlen] at hj2
      have hp : (Z j).take (L j) = p := by
        rw [List.getElem?_map, List.getElem?_range hj2] at hj
        exact Option.some.inj hj
      subst hp
      obtain ⟨h1, h2, h3, h4, h5, h6, h7⟩ := hx j (by omega)
      have hpl : ((Z j).take (L j)).length = L j := by rw [List.length_take]; omega
      refine ⟨[.slice (Ar j) (L j) (C j)], rfl, ⟨Ar j, C j, by rw [hpl], by omega, ⟨rfl, by unfold maxLen at h3; omega, fun h0 => ?_⟩⟩, fun i u hi => ?_⟩
      · cases ha : Ar j with
        | none => have := h6 ha; omega
        | some a' =>
          refine ⟨a', rfl, fun q p hq => ⟨[.int .i64 p], rfl, rfl, fun i u hi => ?_⟩⟩
          cases i with
          | succ i => simp at hi
          | zero =>
            have hu : Value.int .i64 p = u := by simpa using hi
            subst hu
            have hq2 := (List.getElem?_eq_some_iff.1 hq).1
            rw [hpl] at hq2
            have hq3 : (Z j)[q]? = some p := by rw [List.getElem?_take, if_pos hq2] at hq; exact hq
            have := (h7 a' ha).2 q (by omega)
            rw [List.getD_eq_getElem?_getD, hq3] at this
            simpa [show (Kd.int .i64).sz = 1 from rfl] using this
      · cases i with
        | succ i => simp at hi
        | zero =>
          have hu : Value.slice (Ar j) (L j) (C j) = u := by simpa using hi
          subst hu
          simpa [show (Kd.slice 3 (Kd.int .i64)).sz = 1 from rfl] using h1
    · intro s hs
      rw [List.mem_map] at hs
      obtain ⟨r, hr, rfl⟩ := hs
      have h1 := hx r (by have := List.mem_range.1 hr; omega)
      exact ⟨by have := h1.2.2.1; have := h1.2.2.2.1; unfold maxLen at *; rw [List.length_take]; omega, fun n hn => h1.2.2.2.2.1 n (List.mem_of_mem_take hn)⟩

theorem read_prs {v : Value} {y : DataW H × List MemPlace} (h : DataW.trod enc Try.prog W base (fun _ => true) held fuel 23 [v] = some y) :
    ∃ (A : Option Addr) (c : Nat) (l : List S50), v = .slice A l.length c ∧ l.length ≤ c ∧ Kd.C k50 W A l.length l ∧ FitP l := by
  rcases open_slice Try.underlying23 h with ⟨hcs, _⟩ | ⟨a, len, cap, m, n, D, Pl, hcs, _, hl, hm, hmm, _, hx⟩
  · injection hcs with hv _
    exact ⟨none, 0, [], hv, Nat.le_refl _, ⟨rfl, Nat.zero_le _, fun h0 => absurd h0 (Nat.lt_irrefl _)⟩, ⟨Nat.zero_le _, fun n hn => by cases hn⟩⟩
  · injection hcs with hv _
    have hce : Try.prog.cellsOf 50 = 2 := by kernel_rfl
    have hci : Try.prog.cellsOf 3 = 1 := by kernel_rfl
    have each : ∀ i, i < len → ∃ e : S50, (W.cell? (a.add (i * 2)) = some (.int .i64 e.f0) ∧ W.cell? (a.add (i * 2 + 1)) = some (.int .i64 e.f1)) ∧ (Lit.int .i64 e.f0).wf = true ∧ (Lit.int .i64 e.f1).wf = true := by
      intro i hi
      obtain ⟨cs', h1, h2⟩ := hx i (by simp only [if_true] at hmm; omega)
      rw [hce] at h1
      obtain ⟨_, hcl, hcc⟩ := World.cells?_some h1
      obtain ⟨c0, c1, rfl⟩ : ∃ c0 c1, cs' = [c0, c1] := by
        match cs', hcl with
        | [c0, c1], _ => exact ⟨c0, c1, rfl⟩
      obtain ⟨xs, q, rfl, hq, _, hxl, he⟩ := DataW.trod_array Try.underlying50 h2
      have e0 := he 0 (by omega)
      have e1 := he 1 (by omega)
      simp only [hci] at e0 e1
      obtain ⟨y0, hy0⟩ : ∃ y0, xs[0]? = some y0 := ⟨xs[0], List.getElem?_eq_getElem (by omega)⟩
      obtain ⟨y1, hy1⟩ : ∃ y1, xs[1]? = some y1 := ⟨xs[1], List.getElem?_eq_getElem (by omega)⟩
      rw [hy0] at e0
      rw [hy1] at e1
      obtain ⟨n0, k0, _, w0⟩ := DataW.trod_int Try.underlying3 e0
      obtain ⟨n1, k1, _, w1⟩ := DataW.trod_int Try.underlying3 e1
      simp at k0 k1
      subst k0
      subst k1
      have f0 := hcc 0 (by omega)
      have f1 := hcc 1 (by omega)
      refine ⟨⟨n0, n1⟩, ⟨?_, ?_⟩, w0, w1⟩
      · rw [Addr.add_add, Nat.add_zero] at f0
        simpa using f0
      · rw [Addr.add_add] at f1
        simpa using f1
    have hlen : ((List.range len).map fun i => if hi : i < len then (each i hi).choose else z50).length = len := by simp
    refine ⟨some a, cap, (List.range len).map fun i => if hi : i < len then (each i hi).choose else z50, by rw [hlen]; exact hv, by omega, ⟨rfl, by unfold maxLen at hm; omega, fun _ => ⟨a, rfl, fun j p hj => ?_⟩⟩, ⟨by rw [hlen]; unfold maxLen at hm; omega, ?_⟩⟩
    · have hj2 := (List.getElem?_eq_some_iff.1 hj).1
      rw [hlen] at hj2
      have hp : (each j hj2).choose = p := by
        rw [List.getElem?_map, List.getElem?_range hj2] at hj
        simpa [hj2] using hj
      obtain ⟨⟨h1, h2⟩, _⟩ := (each j hj2).choose_spec
      rw [hp] at h1 h2
      refine ⟨[.int .i64 p.f0, .int .i64 p.f1], rfl, k50_mk W p, fun i u hi => ?_⟩
      rw [show k50.sz = 2 from rfl]
      match i, hi with
      | 0, hi =>
        have hu : Value.int .i64 p.f0 = u := by simpa using hi
        subst hu
        exact h1
      | 1, hi =>
        have hu : Value.int .i64 p.f1 = u := by simpa using hi
        subst hu
        exact h2
    · intro e he
      rw [List.mem_map] at he
      obtain ⟨r, hr, rfl⟩ := he
      have hr2 := List.mem_range.1 hr
      simp only [hr2, dif_pos]
      exact (each r hr2).choose_spec.2
end
end Go.Proofs.Ytopgbijegnnjbaa.P
