-- Written by a program of this session (the kit's print, turned: wip/print/patch.py) out of the translation. Not trusted: Lean checks it.
import Derived.Test.YtpbngmkhpcgpkaaPx0
import Derived.Test.YtpbngmkhpcgpkaaPx1
import Derived.Test.YtpbngmkhpcgpkaaPx4
namespace Go.Proofs.Ytpbngmkhpcgpkaa.P
open Go.RowKit Go.Proofs.YtpbngmkhpcgpkaaW.PrintWords Go.Proofs.YtpbngmkhpcgpkaaW.PrintLast Go.Proofs.YtpbngmkhpcgpkaaW.PrintMore
attribute [local go_sem] max2_int min2_int max_two min_two max_three min_three max_four min_four   -- for this text's walks alone
set_option linter.unusedVariables false
set_option linter.unusedSimpArgs false

attribute [local go_sem high] eqA68
/-! ### spec_l2Near: function 57 -/
def spec_l2Near.l0 : Nat → Int → Int → Int → Int → List (S68) → Option (Bool)
 | 0, _, _, _, _, _ => none
 | k + 1, x1, x2, x7, x172000, x172001 => if x7 < (x172001.length : Int) then (if 0 ≤ x7 then (if ((rd_T68 x172001 x7).f0) = x1 then (if ((rd_T68 x172001 x7).f1) = x2 then (some true) else (if ((rd_T68 x172001 x7).f0) = x2 then (if ((rd_T68 x172001 x7).f1) = x1 then (some true) else (spec_l2Near.l0 k x1 x2 (wrap64 (x7 + 1)) x172000 x172001)) else (spec_l2Near.l0 k x1 x2 (wrap64 (x7 + 1)) x172000 x172001))) else (if ((rd_T68 x172001 x7).f0) = x2 then (if ((rd_T68 x172001 x7).f1) = x1 then (some true) else (spec_l2Near.l0 k x1 x2 (wrap64 (x7 + 1)) x172000 x172001)) else (spec_l2Near.l0 k x1 x2 (wrap64 (x7 + 1)) x172000 x172001))) else (none)) else (some false)
def spec_l2Near.f (k : Nat) (a0_0 : Int) (l0_1 : List (S68)) (a1 : Int) (a2 : Int) : Option (Bool) := spec_l2Near.l0 k a1 a2 0 a0_0 l0_1
theorem spec_l2Near.mono_l : ∀ k, (∀ y0 y1 y2 y3 y4, LeO (spec_l2Near.l0 k y0 y1 y2 y3 y4) (spec_l2Near.l0 (k + 1) y0 y1 y2 y3 y4))
 | 0 => fun _ _ _ _ _ r h => by simp [spec_l2Near.l0] at h
 | k + 1 => by
  have ih0 := spec_l2Near.mono_l k
  · intro y0 y1 y2 y3 y4
    unfold spec_l2Near.l0
    repeat' first
    | (with_reducible exact ih0 _ _ _ _ _)
    | (with_reducible exact LeO.refl _)
    | (with_reducible exact LeO.none _)
    | (with_reducible refine LeO.ite ?_ ?_)
    | (with_reducible refine LeO.bind ?_ (fun _ => ?_))
    | exact ih0 _ _ _ _ _
    | exact LeO.none _
    | refine LeO.ite ?_ ?_
    | refine LeO.bind ?_ (fun _ => ?_)
theorem spec_l2Near.mono : ∀ a0 a1 a2 a3 k, LeO (spec_l2Near.f k a0 a1 a2 a3) (spec_l2Near.f (k + 1) a0 a1 a2 a3) := by
 intro a0 a1 a2 a3 k
 have ih0 := spec_l2Near.mono_l k
 unfold spec_l2Near.f
 repeat' first
  | (with_reducible exact ih0 _ _ _ _ _)
  | (with_reducible exact LeO.refl _)
  | (with_reducible exact LeO.none _)
  | (with_reducible refine LeO.ite ?_ ?_)
  | (with_reducible refine LeO.bind ?_ (fun _ => ?_))
  | exact ih0 _ _ _ _ _
  | exact LeO.none _
  | refine LeO.ite ?_ ?_
  | refine LeO.bind ?_ (fun _ => ?_)
set_option maxHeartbeats 8000000 in
set_option maxRecDepth 100000 in
theorem spec_l2Near.calls (k : Nat) (a0_0 : Int) (A0_1 : Option Addr) (c0_1 : Nat) (l0_1 : List (S68)) (a1 : Int) (a2 : Int) (r : Bool) (w : World) (hr0_1 : Kd.C k68 w A0_1 l0_1.length l0_1) (hc0_1 : l0_1.length ≤ c0_1) (h : spec_l2Near.f k a0_0 l0_1 a1 a2 = some r) :
 Calls Try.prog 57 #[.agg #[.int .i64 a0_0, .slice A0_1 l0_1.length c0_1], .int .i64 a1, .int .i64 a2] w fun e w' => e = .returned (.bool r) ∧ Below w.heap.size w w' := by
 have hu27 := Try.underlying27
 have hu68 := Try.underlying68
 have HR0_1 := Aside0.mk hr0_1
 have HC0_1 := Aside0.mk hc0_1
 clear hr0_1 hc0_1
 have HB := zM (Below.refl w.heap.size w)
 have H : (spec_l2Near.l0 k a1 a2 0 a0_0 l0_1) = some r := h
 clear h
 have H' := Aside0.mk H
 clear H
 go_enter Try.func57, Try.ntmps57
 go_wp2_with (first | ((with_reducible refine gate_dst (N := 3) rfl ?_); refine zb (w := w) 3 #[.int .i64 a0_0, .slice A0_1 l0_1.length c0_1] 27 zB ?_; clear HB; intro gb171 w4 HB BK171 GW171; have GE171 := GW171))
 go_loopg [7] k (fun kq v7 w' => ∃ (x7_1 : Int), v7 = .int .i64 x7_1 ∧ Aside0 (spec_l2Near.l0 kq a1 a2 x7_1 a0_0 l0_1 = some r) ∧ Aside0 (kq ≤ k) ∧ Aside0 (w'.heap[gb171]? = some (.cells #[.int .i64 a0_0, (.slice A0_1 l0_1.length c0_1)] 27 (0, 0))) ∧ Aside0 (Below w.heap.size w w'))
 case atStart => exact ⟨(0), (by first | rfl | (simp; done) | (simp [*]; done)), H', ⟨Nat.le_refl _⟩, ⟨zK BK171.out⟩, ⟨zB⟩⟩
 case round =>
  clear H'
  try clear p2
  obtain ⟨x7_1, rfl, HA, HK1, BK171, HB⟩ := hrel
  cases gk with
  | zero => exact absurd HA.out (by simp [spec_l2Near.l0])
  | succ k1 =>
   have H := HA.out
   clear HA
   simp only [spec_l2Near.l0] at H
   by_cases c5 : x7_1 < (l0_1.length : Int)
   · rw [if_pos c5] at H
     have c5b0 := decide_eq_true c5
     clear c5
     by_cases c6 : 0 ≤ x7_1
     · rw [if_pos c6] at H
       have c6b0 := decide_eq_true c6
       clear c6
       by_cases c7 : ((rd_T68 l0_1 x7_1).f0) = a1
       · rw [if_pos c7] at H
         have c7b0 : (((rd_T68 l0_1 x7_1).f0) == a1) = true := beq_iff_eq.mpr c7
         have c7b1 : (((rd_T68 l0_1 x7_1).f0) != a1) = false := bne_eq_false_iff_eq.mpr c7
         clear c7
         by_cases c8 : ((rd_T68 l0_1 x7_1).f1) = a2
         · rw [if_pos c8] at H
           have c8b0 : (((rd_T68 l0_1 x7_1).f1) == a2) = true := beq_iff_eq.mpr c8
           have c8b1 : (((rd_T68 l0_1 x7_1).f1) != a2) = false := bne_eq_false_iff_eq.mpr c8
           clear c8
           obtain rfl := Option.some.inj H
           have hcz9_0 := zy BK171 0
           have hcz9_1 := zy BK171 1
           have hfz9_0 := blk_frozen BK171.out 0
           have hfz9_1 := blk_frozen BK171.out 1
           have p172 : 0 ≤ (x7_1 : Int) := of_decide_eq_true zA
           have q172 : x7_1 < (l0_1.length : Int) := of_decide_eq_true zA
           obtain ⟨ad172, e172, hx172_0, hx172_1⟩ := at_T68 HR0_1.out x7_1 p172 q172
           cases e172
           (try replace hx172_0 := (HB.out.cell (World.block_lt_of_cell? w _ hx172_0)).trans hx172_0)
           (try replace hx172_1 := (HB.out.cell (World.block_lt_of_cell? w _ hx172_1)).trans hx172_1)
           replace p172 := eq_true p172
           replace q172 := eq_true q172
           go_wp2_with (first | ((with_reducible refine gate_dst (N := 8) rfl ?_); refine ze 8 #[.int .i64 0, .int .i64 0] 68 ?_; intro gb173 hg w10 hbox hb; have BK173 := zM (hbox); have GW173 := zM ((by rw [hg]; exact (below_size zB) : w.heap.size ≤ gb173)); have GE173 := zM ((by rw [hg]; exact (below_size zB) : w.heap.size ≤ gb173)); replace HB := zM (below_step zB hb); have NB171_173 := zM ((by rw [hg]; exact Nat.ne_of_lt (blk_lt (g := gb171) (o := .cells #[.int .i64 a0_0, .slice (some ad172) l0_1.length c0_1] 27 (0, 0)) (zK BK171.out)) : gb171 ≠ gb173)); have NB173_171 := zM ((by rw [hg]; exact Nat.ne_of_gt (blk_lt (g := gb171) (o := .cells #[.int .i64 a0_0, .slice (some ad172) l0_1.length c0_1] 27 (0, 0)) (zK BK171.out)) : gb173 ≠ gb171)); replace BK171 := zM (blk_below (g := gb171) (o := .cells #[.int .i64 a0_0, .slice (some ad172) l0_1.length c0_1] 27 (0, 0)) (zK BK171.out) hb); clear hb hbox hg; have hnb11 := NB173_171.out; have hnc11 := NB171_173.out; have hcz12_0 := zy BK173 0; have hcz12_1 := zy BK173 1; have hfz12_0 := blk_frozen BK173.out 0; have hfz12_1 := blk_frozen BK173.out 1))
           go_ret
           exact ⟨by first | rfl | (simp [errW_none, errW_some] <;> rfl) | (simp [*, errW_none, errW_some] <;> rfl), zB⟩
         · rw [if_neg c8] at H
           have c8b0 : (((rd_T68 l0_1 x7_1).f1) == a2) = false := beq_eq_false_iff_ne.mpr c8
           have c8b1 : (((rd_T68 l0_1 x7_1).f1) != a2) = true := bne_iff_ne.mpr c8
           by_cases c13 : ((rd_T68 l0_1 x7_1).f0) = a2
           · rw [if_pos c13] at H
             have c13b0 : (((rd_T68 l0_1 x7_1).f0) == a2) = true := beq_iff_eq.mpr c13
             have c13b1 : (((rd_T68 l0_1 x7_1).f0) != a2) = false := bne_eq_false_iff_eq.mpr c13
             clear c13
             by_cases c14 : ((rd_T68 l0_1 x7_1).f1) = a1
             · rw [if_pos c14] at H
               have c14b0 : (((rd_T68 l0_1 x7_1).f1) == a1) = true := beq_iff_eq.mpr c14
               have c14b1 : (((rd_T68 l0_1 x7_1).f1) != a1) = false := bne_eq_false_iff_eq.mpr c14
               clear c14
               obtain rfl := Option.some.inj H
               have hcz15_0 := zy BK171 0
               have hcz15_1 := zy BK171 1
               have hfz15_0 := blk_frozen BK171.out 0
               have hfz15_1 := blk_frozen BK171.out 1
               have p172 : 0 ≤ (x7_1 : Int) := of_decide_eq_true zA
               have q172 : x7_1 < (l0_1.length : Int) := of_decide_eq_true zA
               obtain ⟨ad172, e172, hx172_0, hx172_1⟩ := at_T68 HR0_1.out x7_1 p172 q172
               cases e172
               (try replace hx172_0 := (HB.out.cell (World.block_lt_of_cell? w _ hx172_0)).trans hx172_0)
               (try replace hx172_1 := (HB.out.cell (World.block_lt_of_cell? w _ hx172_1)).trans hx172_1)
               replace p172 := eq_true p172
               replace q172 := eq_true q172
               go_wp2_with (first | ((with_reducible refine gate_dst (N := 8) rfl ?_); refine ze 8 #[.int .i64 0, .int .i64 0] 68 ?_; intro gb173 hg w16 hbox hb; have BK173 := zM (hbox); have GW173 := zM ((by rw [hg]; exact (below_size zB) : w.heap.size ≤ gb173)); have GE173 := zM ((by rw [hg]; exact (below_size zB) : w.heap.size ≤ gb173)); replace HB := zM (below_step zB hb); have NB171_173 := zM ((by rw [hg]; exact Nat.ne_of_lt (blk_lt (g := gb171) (o := .cells #[.int .i64 a0_0, .slice (some ad172) l0_1.length c0_1] 27 (0, 0)) (zK BK171.out)) : gb171 ≠ gb173)); have NB173_171 := zM ((by rw [hg]; exact Nat.ne_of_gt (blk_lt (g := gb171) (o := .cells #[.int .i64 a0_0, .slice (some ad172) l0_1.length c0_1] 27 (0, 0)) (zK BK171.out)) : gb173 ≠ gb171)); replace BK171 := zM (blk_below (g := gb171) (o := .cells #[.int .i64 a0_0, .slice (some ad172) l0_1.length c0_1] 27 (0, 0)) (zK BK171.out) hb); clear hb hbox hg; have hnb17 := NB173_171.out; have hnc17 := NB171_173.out; have hcz18_0 := zy BK173 0; have hcz18_1 := zy BK173 1; have hfz18_0 := blk_frozen BK173.out 0; have hfz18_1 := blk_frozen BK173.out 1))
               go_ret
               exact ⟨by first | rfl | (simp [errW_none, errW_some] <;> rfl) | (simp [*, errW_none, errW_some] <;> rfl), zB⟩
             · rw [if_neg c14] at H
               have c14b0 : (((rd_T68 l0_1 x7_1).f1) == a1) = false := beq_eq_false_iff_ne.mpr c14
               have c14b1 : (((rd_T68 l0_1 x7_1).f1) != a1) = true := bne_iff_ne.mpr c14
               have H' := Aside0.mk H
               clear H
               have hcz19_0 := zy BK171 0
               have hcz19_1 := zy BK171 1
               have hfz19_0 := blk_frozen BK171.out 0
               have hfz19_1 := blk_frozen BK171.out 1
               have p172 : 0 ≤ (x7_1 : Int) := of_decide_eq_true zA
               have q172 : x7_1 < (l0_1.length : Int) := of_decide_eq_true zA
               obtain ⟨ad172, e172, hx172_0, hx172_1⟩ := at_T68 HR0_1.out x7_1 p172 q172
               cases e172
               (try replace hx172_0 := (HB.out.cell (World.block_lt_of_cell? w _ hx172_0)).trans hx172_0)
               (try replace hx172_1 := (HB.out.cell (World.block_lt_of_cell? w _ hx172_1)).trans hx172_1)
               replace p172 := eq_true p172
               replace q172 := eq_true q172
               go_wp2_with (first | ((with_reducible refine gate_dst (N := 8) rfl ?_); refine ze 8 #[.int .i64 0, .int .i64 0] 68 ?_; intro gb173 hg w20 hbox hb; have BK173 := zM (hbox); have GW173 := zM ((by rw [hg]; exact (below_size zB) : w.heap.size ≤ gb173)); have GE173 := zM ((by rw [hg]; exact (below_size zB) : w.heap.size ≤ gb173)); replace HB := zM (below_step zB hb); have NB171_173 := zM ((by rw [hg]; exact Nat.ne_of_lt (blk_lt (g := gb171) (o := .cells #[.int .i64 a0_0, .slice (some ad172) l0_1.length c0_1] 27 (0, 0)) (zK BK171.out)) : gb171 ≠ gb173)); have NB173_171 := zM ((by rw [hg]; exact Nat.ne_of_gt (blk_lt (g := gb171) (o := .cells #[.int .i64 a0_0, .slice (some ad172) l0_1.length c0_1] 27 (0, 0)) (zK BK171.out)) : gb173 ≠ gb171)); replace BK171 := zM (blk_below (g := gb171) (o := .cells #[.int .i64 a0_0, .slice (some ad172) l0_1.length c0_1] 27 (0, 0)) (zK BK171.out) hb); clear hb hbox hg; have hnb21 := NB173_171.out; have hnc21 := NB171_173.out; have hcz22_0 := zy BK173 0; have hcz22_1 := zy BK173 1; have hfz22_0 := blk_frozen BK173.out 0; have hfz22_1 := blk_frozen BK173.out 1))
               go_roundg k1
               case measure => have := HK1.out; omega
               case rel => exact ⟨(wrap64 (x7_1 + 1)), (by first | rfl | (simp; done) | (simp [*]; done)), H', ⟨by have := HK1.out; omega⟩, ⟨by (with_reducible repeat (first | refine blk_drewN ?_ _ | refine blk_drew ?_ | refine blk_alloc ?_ _)); refine blk_far ?_ NB171_173.out _; (with_reducible repeat (first | refine blk_drewN ?_ _ | refine blk_drew ?_ | refine blk_alloc ?_ _)); refine blk_far ?_ NB171_173.out _; (with_reducible repeat (first | refine blk_drewN ?_ _ | refine blk_drew ?_ | refine blk_alloc ?_ _)); exact BK171.out⟩, ⟨zB⟩⟩
           · rw [if_neg c13] at H
             have c13b0 : (((rd_T68 l0_1 x7_1).f0) == a2) = false := beq_eq_false_iff_ne.mpr c13
             have c13b1 : (((rd_T68 l0_1 x7_1).f0) != a2) = true := bne_iff_ne.mpr c13
             have H' := Aside0.mk H
             clear H
             have hcz23_0 := zy BK171 0
             have hcz23_1 := zy BK171 1
             have hfz23_0 := blk_frozen BK171.out 0
             have hfz23_1 := blk_frozen BK171.out 1
             have p172 : 0 ≤ (x7_1 : Int) := of_decide_eq_true zA
             have q172 : x7_1 < (l0_1.length : Int) := of_decide_eq_true zA
             obtain ⟨ad172, e172, hx172_0, hx172_1⟩ := at_T68 HR0_1.out x7_1 p172 q172
             cases e172
             (try replace hx172_0 := (HB.out.cell (World.block_lt_of_cell? w _ hx172_0)).trans hx172_0)
             (try replace hx172_1 := (HB.out.cell (World.block_lt_of_cell? w _ hx172_1)).trans hx172_1)
             replace p172 := eq_true p172
             replace q172 := eq_true q172
             go_wp2_with (first | ((with_reducible refine gate_dst (N := 8) rfl ?_); refine ze 8 #[.int .i64 0, .int .i64 0] 68 ?_; intro gb173 hg w24 hbox hb; have BK173 := zM (hbox); have GW173 := zM ((by rw [hg]; exact (below_size zB) : w.heap.size ≤ gb173)); have GE173 := zM ((by rw [hg]; exact (below_size zB) : w.heap.size ≤ gb173)); replace HB := zM (below_step zB hb); have NB171_173 := zM ((by rw [hg]; exact Nat.ne_of_lt (blk_lt (g := gb171) (o := .cells #[.int .i64 a0_0, .slice (some ad172) l0_1.length c0_1] 27 (0, 0)) (zK BK171.out)) : gb171 ≠ gb173)); have NB173_171 := zM ((by rw [hg]; exact Nat.ne_of_gt (blk_lt (g := gb171) (o := .cells #[.int .i64 a0_0, .slice (some ad172) l0_1.length c0_1] 27 (0, 0)) (zK BK171.out)) : gb173 ≠ gb171)); replace BK171 := zM (blk_below (g := gb171) (o := .cells #[.int .i64 a0_0, .slice (some ad172) l0_1.length c0_1] 27 (0, 0)) (zK BK171.out) hb); clear hb hbox hg; have hnb25 := NB173_171.out; have hnc25 := NB171_173.out; have hcz26_0 := zy BK173 0; have hcz26_1 := zy BK173 1; have hfz26_0 := blk_frozen BK173.out 0; have hfz26_1 := blk_frozen BK173.out 1))
             go_roundg k1
             case measure => have := HK1.out; omega
             case rel => exact ⟨(wrap64 (x7_1 + 1)), (by first | rfl | (simp; done) | (simp [*]; done)), H', ⟨by have := HK1.out; omega⟩, ⟨by (with_reducible repeat (first | refine blk_drewN ?_ _ | refine blk_drew ?_ | refine blk_alloc ?_ _)); refine blk_far ?_ NB171_173.out _; (with_reducible repeat (first | refine blk_drewN ?_ _ | refine blk_drew ?_ | refine blk_alloc ?_ _)); refine blk_far ?_ NB171_173.out _; (with_reducible repeat (first | refine blk_drewN ?_ _ | refine blk_drew ?_ | refine blk_alloc ?_ _)); exact BK171.out⟩, ⟨zB⟩⟩
       · rw [if_neg c7] at H
         have c7b0 : (((rd_T68 l0_1 x7_1).f0) == a1) = false := beq_eq_false_iff_ne.mpr c7
         have c7b1 : (((rd_T68 l0_1 x7_1).f0) != a1) = true := bne_iff_ne.mpr c7
         by_cases c27 : ((rd_T68 l0_1 x7_1).f0) = a2
         · rw [if_pos c27] at H
           have c27b0 : (((rd_T68 l0_1 x7_1).f0) == a2) = true := beq_iff_eq.mpr c27
           have c27b1 : (((rd_T68 l0_1 x7_1).f0) != a2) = false := bne_eq_false_iff_eq.mpr c27
           clear c27
           by_cases c28 : ((rd_T68 l0_1 x7_1).f1) = a1
           · rw [if_pos c28] at H
             have c28b0 : (((rd_T68 l0_1 x7_1).f1) == a1) = true := beq_iff_eq.mpr c28
             have c28b1 : (((rd_T68 l0_1 x7_1).f1) != a1) = false := bne_eq_false_iff_eq.mpr c28
             clear c28
             obtain rfl := Option.some.inj H
             have hcz29_0 := zy BK171 0
             have hcz29_1 := zy BK171 1
             have hfz29_0 := blk_frozen BK171.out 0
             have hfz29_1 := blk_frozen BK171.out 1
             have p172 : 0 ≤ (x7_1 : Int) := of_decide_eq_true zA
             have q172 : x7_1 < (l0_1.length : Int) := of_decide_eq_true zA
             obtain ⟨ad172, e172, hx172_0, hx172_1⟩ := at_T68 HR0_1.out x7_1 p172 q172
             cases e172
             (try replace hx172_0 := (HB.out.cell (World.block_lt_of_cell? w _ hx172_0)).trans hx172_0)
             (try replace hx172_1 := (HB.out.cell (World.block_lt_of_cell? w _ hx172_1)).trans hx172_1)
             replace p172 := eq_true p172
             replace q172 := eq_true q172
             go_wp2_with (first | ((with_reducible refine gate_dst (N := 8) rfl ?_); refine ze 8 #[.int .i64 0, .int .i64 0] 68 ?_; intro gb173 hg w30 hbox hb; have BK173 := zM (hbox); have GW173 := zM ((by rw [hg]; exact (below_size zB) : w.heap.size ≤ gb173)); have GE173 := zM ((by rw [hg]; exact (below_size zB) : w.heap.size ≤ gb173)); replace HB := zM (below_step zB hb); have NB171_173 := zM ((by rw [hg]; exact Nat.ne_of_lt (blk_lt (g := gb171) (o := .cells #[.int .i64 a0_0, .slice (some ad172) l0_1.length c0_1] 27 (0, 0)) (zK BK171.out)) : gb171 ≠ gb173)); have NB173_171 := zM ((by rw [hg]; exact Nat.ne_of_gt (blk_lt (g := gb171) (o := .cells #[.int .i64 a0_0, .slice (some ad172) l0_1.length c0_1] 27 (0, 0)) (zK BK171.out)) : gb173 ≠ gb171)); replace BK171 := zM (blk_below (g := gb171) (o := .cells #[.int .i64 a0_0, .slice (some ad172) l0_1.length c0_1] 27 (0, 0)) (zK BK171.out) hb); clear hb hbox hg; have hnb31 := NB173_171.out; have hnc31 := NB171_173.out; have hcz32_0 := zy BK173 0; have hcz32_1 := zy BK173 1; have hfz32_0 := blk_frozen BK173.out 0; have hfz32_1 := blk_frozen BK173.out 1))
             go_ret
             exact ⟨by first | rfl | (simp [errW_none, errW_some] <;> rfl) | (simp [*, errW_none, errW_some] <;> rfl), zB⟩
           · rw [if_neg c28] at H
             have c28b0 : (((rd_T68 l0_1 x7_1).f1) == a1) = false := beq_eq_false_iff_ne.mpr c28
             have c28b1 : (((rd_T68 l0_1 x7_1).f1) != a1) = true := bne_iff_ne.mpr c28
             have H' := Aside0.mk H
             clear H
             have hcz33_0 := zy BK171 0
             have hcz33_1 := zy BK171 1
             have hfz33_0 := blk_frozen BK171.out 0
             have hfz33_1 := blk_frozen BK171.out 1
             have p172 : 0 ≤ (x7_1 : Int) := of_decide_eq_true zA
             have q172 : x7_1 < (l0_1.length : Int) := of_decide_eq_true zA
             obtain ⟨ad172, e172, hx172_0, hx172_1⟩ := at_T68 HR0_1.out x7_1 p172 q172
             cases e172
             (try replace hx172_0 := (HB.out.cell (World.block_lt_of_cell? w _ hx172_0)).trans hx172_0)
             (try replace hx172_1 := (HB.out.cell (World.block_lt_of_cell? w _ hx172_1)).trans hx172_1)
             replace p172 := eq_true p172
             replace q172 := eq_true q172
             go_wp2_with (first | ((with_reducible refine gate_dst (N := 8) rfl ?_); refine ze 8 #[.int .i64 0, .int .i64 0] 68 ?_; intro gb173 hg w34 hbox hb; have BK173 := zM (hbox); have GW173 := zM ((by rw [hg]; exact (below_size zB) : w.heap.size ≤ gb173)); have GE173 := zM ((by rw [hg]; exact (below_size zB) : w.heap.size ≤ gb173)); replace HB := zM (below_step zB hb); have NB171_173 := zM ((by rw [hg]; exact Nat.ne_of_lt (blk_lt (g := gb171) (o := .cells #[.int .i64 a0_0, .slice (some ad172) l0_1.length c0_1] 27 (0, 0)) (zK BK171.out)) : gb171 ≠ gb173)); have NB173_171 := zM ((by rw [hg]; exact Nat.ne_of_gt (blk_lt (g := gb171) (o := .cells #[.int .i64 a0_0, .slice (some ad172) l0_1.length c0_1] 27 (0, 0)) (zK BK171.out)) : gb173 ≠ gb171)); replace BK171 := zM (blk_below (g := gb171) (o := .cells #[.int .i64 a0_0, .slice (some ad172) l0_1.length c0_1] 27 (0, 0)) (zK BK171.out) hb); clear hb hbox hg; have hnb35 := NB173_171.out; have hnc35 := NB171_173.out; have hcz36_0 := zy BK173 0; have hcz36_1 := zy BK173 1; have hfz36_0 := blk_frozen BK173.out 0; have hfz36_1 := blk_frozen BK173.out 1))
             go_roundg k1
             case measure => have := HK1.out; omega
             case rel => exact ⟨(wrap64 (x7_1 + 1)), (by first | rfl | (simp; done) | (simp [*]; done)), H', ⟨by have := HK1.out; omega⟩, ⟨by (with_reducible repeat (first | refine blk_drewN ?_ _ | refine blk_drew ?_ | refine blk_alloc ?_ _)); refine blk_far ?_ NB171_173.out _; (with_reducible repeat (first | refine blk_drewN ?_ _ | refine blk_drew ?_ | refine blk_alloc ?_ _)); refine blk_far ?_ NB171_173.out _; (with_reducible repeat (first | refine blk_drewN ?_ _ | refine blk_drew ?_ | refine blk_alloc ?_ _)); exact BK171.out⟩, ⟨zB⟩⟩
         · rw [if_neg c27] at H
           have c27b0 : (((rd_T68 l0_1 x7_1).f0) == a2) = false := beq_eq_false_iff_ne.mpr c27
           have c27b1 : (((rd_T68 l0_1 x7_1).f0) != a2) = true := bne_iff_ne.mpr c27
           have H' := Aside0.mk H
           clear H
           have hcz37_0 := zy BK171 0
           have hcz37_1 := zy BK171 1
           have hfz37_0 := blk_frozen BK171.out 0
           have hfz37_1 := blk_frozen BK171.out 1
           have p172 : 0 ≤ (x7_1 : Int) := of_decide_eq_true zA
           have q172 : x7_1 < (l0_1.length : Int) := of_decide_eq_true zA
           obtain ⟨ad172, e172, hx172_0, hx172_1⟩ := at_T68 HR0_1.out x7_1 p172 q172
           cases e172
           (try replace hx172_0 := (HB.out.cell (World.block_lt_of_cell? w _ hx172_0)).trans hx172_0)
           (try replace hx172_1 := (HB.out.cell (World.block_lt_of_cell? w _ hx172_1)).trans hx172_1)
           replace p172 := eq_true p172
           replace q172 := eq_true q172
           go_wp2_with (first | ((with_reducible refine gate_dst (N := 8) rfl ?_); refine ze 8 #[.int .i64 0, .int .i64 0] 68 ?_; intro gb173 hg w38 hbox hb; have BK173 := zM (hbox); have GW173 := zM ((by rw [hg]; exact (below_size zB) : w.heap.size ≤ gb173)); have GE173 := zM ((by rw [hg]; exact (below_size zB) : w.heap.size ≤ gb173)); replace HB := zM (below_step zB hb); have NB171_173 := zM ((by rw [hg]; exact Nat.ne_of_lt (blk_lt (g := gb171) (o := .cells #[.int .i64 a0_0, .slice (some ad172) l0_1.length c0_1] 27 (0, 0)) (zK BK171.out)) : gb171 ≠ gb173)); have NB173_171 := zM ((by rw [hg]; exact Nat.ne_of_gt (blk_lt (g := gb171) (o := .cells #[.int .i64 a0_0, .slice (some ad172) l0_1.length c0_1] 27 (0, 0)) (zK BK171.out)) : gb173 ≠ gb171)); replace BK171 := zM (blk_below (g := gb171) (o := .cells #[.int .i64 a0_0, .slice (some ad172) l0_1.length c0_1] 27 (0, 0)) (zK BK171.out) hb); clear hb hbox hg; have hnb39 := NB173_171.out; have hnc39 := NB171_173.out; have hcz40_0 := zy BK173 0; have hcz40_1 := zy BK173 1; have hfz40_0 := blk_frozen BK173.out 0; have hfz40_1 := blk_frozen BK173.out 1))
           go_roundg k1
           case measure => have := HK1.out; omega
           case rel => exact ⟨(wrap64 (x7_1 + 1)), (by first | rfl | (simp; done) | (simp [*]; done)), H', ⟨by have := HK1.out; omega⟩, ⟨by (with_reducible repeat (first | refine blk_drewN ?_ _ | refine blk_drew ?_ | refine blk_alloc ?_ _)); refine blk_far ?_ NB171_173.out _; (with_reducible repeat (first | refine blk_drewN ?_ _ | refine blk_drew ?_ | refine blk_alloc ?_ _)); refine blk_far ?_ NB171_173.out _; (with_reducible repeat (first | refine blk_drewN ?_ _ | refine blk_drew ?_ | refine blk_alloc ?_ _)); exact BK171.out⟩, ⟨zB⟩⟩
     · rw [if_neg c6] at H
       exact absurd H (by simp)
   · rw [if_neg c5] at H
     have c5b0 : decide (x7_1 < (l0_1.length : Int)) = false := decide_eq_false c5
     clear c5
     obtain rfl := Option.some.inj H
     have hcz41_0 := zy BK171 0
     have hcz41_1 := zy BK171 1
     have hfz41_0 := blk_frozen BK171.out 0
     have hfz41_1 := blk_frozen BK171.out 1
     go_wp2
     go_ret
     exact ⟨by first | rfl | (simp [errW_none, errW_some] <;> rfl) | (simp [*, errW_none, errW_some] <;> rfl), zB⟩

/-! ### spec_CliqueGraph: function 20 -/
mutual
def spec_CliqueGraph.l0 : Nat → Int → Int → List (S68) → Int → List (S68) → Option (Int × (List (S68)) × Bool)
 | 0, _, _, _, _, _ => none
 | k + 1, x5, x175000, x175001, x181000, x181001 => if x5 < x175000 then (spec_CliqueGraph.l1 k x5 (wrap64 (x5 + 1)) x175000 x175001 x181000 x181001) else (some (x181000, x181001, true))
def spec_CliqueGraph.l1 : Nat → Int → Int → Int → List (S68) → Int → List (S68) → Option (Int × (List (S68)) × Bool)
 | 0, _, _, _, _, _, _ => none
 | k + 1, x5, x6, x175000, x175001, x181000, x181001 => if x6 < x175000 then ((spec_l2Near.f k x175000 x175001 x5 x6).bind fun t181 => (if t181 = true then (spec_CliqueGraph.l1 k x5 (wrap64 (x6 + 1)) x175000 x175001 x181000 x181001) else (if x181001.length < 8796093022208 then (spec_CliqueGraph.l1 k x5 (wrap64 (x6 + 1)) x175000 x175001 x181000 (x181001 ++ [(⟨x5, x6⟩ : S68)])) else (none)))) else (spec_CliqueGraph.l0 k (wrap64 (x5 + 1)) x175000 x175001 x181000 x181001)
end
def spec_CliqueGraph.f (k : Nat) (a0_0 : Int) (l0_1 : List (S68)) : Option (Int × (List (S68)) × Bool) := (spec_l2Good.f k a0_0 l0_1).bind fun t176 => (if t176 = true then (spec_CliqueGraph.l0 k 0 a0_0 l0_1 a0_0 (([] : List (S68)))) else (some (0, ([] : List (S68)), false)))
theorem spec_CliqueGraph.mono_l : ∀ k, (∀ y0 y1 y2 y3 y4, LeO (spec_CliqueGraph.l0 k y0 y1 y2 y3 y4) (spec_CliqueGraph.l0 (k + 1) y0 y1 y2 y3 y4)) ∧ (∀ y0 y1 y2 y3 y4 y5, LeO (spec_CliqueGraph.l1 k y0 y1 y2 y3 y4 y5) (spec_CliqueGraph.l1 (k + 1) y0 y1 y2 y3 y4 y5))
 | 0 => ⟨fun _ _ _ _ _ r h => by simp [spec_CliqueGraph.l0] at h, fun _ _ _ _ _ _ r h => by simp [spec_CliqueGraph.l1] at h⟩
 | k + 1 => by
  obtain ⟨ih0, ih1⟩ := spec_CliqueGraph.mono_l k
  refine ⟨?_, ?_⟩
  · intro y0 y1 y2 y3 y4
    unfold spec_CliqueGraph.l0
    repeat' first
    | (with_reducible exact ih0 _ _ _ _ _)
    | (with_reducible exact ih1 _ _ _ _ _ _)
    | (with_reducible exact spec_l2Good.mono _ _ _)
    | (with_reducible exact spec_l2Near.mono _ _ _ _ _)
    | (with_reducible exact LeO.refl _)
    | (with_reducible exact LeO.none _)
    | (with_reducible refine LeO.ite ?_ ?_)
    | (with_reducible refine LeO.bind ?_ (fun _ => ?_))
    | exact ih0 _ _ _ _ _
    | exact ih1 _ _ _ _ _ _
    | exact spec_l2Good.mono _ _ _
    | exact spec_l2Near.mono _ _ _ _ _
    | exact LeO.none _
    | refine LeO.ite ?_ ?_
    | refine LeO.bind ?_ (fun _ => ?_)
  · intro y0 y1 y2 y3 y4 y5
    unfold spec_CliqueGraph.l1
    repeat' first
    | (with_reducible exact ih0 _ _ _ _ _)
    | (with_reducible exact ih1 _ _ _ _ _ _)
    | (with_reducible exact spec_l2Good.mono _ _ _)
    | (with_reducible exact spec_l2Near.mono _ _ _ _ _)
    | (with_reducible exact LeO.refl _)
    | (with_reducible exact LeO.none _)
    | (with_reducible refine LeO.ite ?_ ?_)
    | (with_reducible refine LeO.bind ?_ (fun _ => ?_))
    | exact ih0 _ _ _ _ _
    | exact ih1 _ _ _ _ _ _
    | exact spec_l2Good.mono _ _ _
    | exact spec_l2Near.mono _ _ _ _ _
    | exact LeO.none _
    | refine LeO.ite ?_ ?_
    | refine LeO.bind ?_ (fun _ => ?_)
theorem spec_CliqueGraph.mono : ∀ a0 a1 k, LeO (spec_CliqueGraph.f k a0 a1) (spec_CliqueGraph.f (k + 1) a0 a1) := by
 intro a0 a1 k
 obtain ⟨ih0, ih1⟩ := spec_CliqueGraph.mono_l k
 unfold spec_CliqueGraph.f
 repeat' first
  | (with_reducible exact ih0 _ _ _ _ _)
  | (with_reducible exact ih1 _ _ _ _ _ _)
  | (with_reducible exact spec_l2Good.mono _ _ _)
  | (with_reducible exact spec_l2Near.mono _ _ _ _ _)
  | (with_reducible exact LeO.refl _)
  | (with_reducible exact LeO.none _)
  | (with_reducible refine LeO.ite ?_ ?_)
  | (with_reducible refine LeO.bind ?_ (fun _ => ?_))
  | exact ih0 _ _ _ _ _
  | exact ih1 _ _ _ _ _ _
  | exact spec_l2Good.mono _ _ _
  | exact spec_l2Near.mono _ _ _ _ _
  | exact LeO.none _
  | refine LeO.ite ?_ ?_
  | refine LeO.bind ?_ (fun _ => ?_)
set_option maxHeartbeats 8000000 in
set_option maxRecDepth 100000 in
theorem spec_CliqueGraph.calls (k : Nat) (a0_0 : Int) (A0_1 : Option Addr) (c0_1 : Nat) (l0_1 : List (S68)) (r1 : Int) (r2 : List (S68)) (r3 : Bool) (w : World) (hr0_1 : Kd.C k68 w A0_1 l0_1.length l0_1) (hc0_1 : l0_1.length ≤ c0_1) (h : spec_CliqueGraph.f k a0_0 l0_1 = some (r1, r2, r3)) :
 Calls Try.prog 20 #[.agg #[.int .i64 a0_0, .slice A0_1 l0_1.length c0_1]] w fun e w' => ∃ v1_ : Value, e = .returned (.tuple #[.agg #[.int .i64 r1, v1_], .bool r3]) ∧ Kd.R k68 68 w' w.heap.size (fun _ => True) v1_ r2 ∧ Below w.heap.size w w' := by
 have hu27 := Try.underlying27
 have hu68 := Try.underlying68
 have HR0_1 := Aside0.mk hr0_1
 have HC0_1 := Aside0.mk hc0_1
 clear hr0_1 hc0_1
 have HB := zM (Below.refl w.heap.size w)
 have H : ((spec_l2Good.f k a0_0 l0_1).bind fun t176 => (if t176 = true then (spec_CliqueGraph.l0 k 0 a0_0 l0_1 a0_0 (([] : List (S68)))) else (some (0, ([] : List (S68)), false)))) = some (r1, r2, r3) := h
 clear h
 replace H := Option.bind_eq_some_iff.mp H
 obtain ⟨t176, A20, H⟩ := H
 replace H : (if t176 = true then (spec_CliqueGraph.l0 k 0 a0_0 l0_1 a0_0 (([] : List (S68)))) else (some (0, ([] : List (S68)), false))) = some (r1, r2, r3) := H
 have A2 := Aside0.mk A20
 clear A20
 by_cases c3 : t176 = true
 · subst c3
   have H1 : (spec_CliqueGraph.l0 k 0 a0_0 l0_1 a0_0 (([] : List (S68)))) = some (r1, r2, r3) := by rw [if_pos rfl] at H; exact H
   clear H
   have H := H1
   clear H1
   obtain ⟨y177, hy177⟩ : ∃ y_ : List (S68), y_ = (([] : List (S68))) := ⟨_, rfl⟩
   replace H : (spec_CliqueGraph.l0 k 0 a0_0 l0_1 a0_0 y177) = some (r1, r2, r3) := by first | (rw [hy177]; with_reducible exact H) | (have H2_ := (Option.bind_some _ _).symm.trans H; rw [hy177]; with_reducible exact H2_) | (have H2_ := (Option.bind_some _ _).symm.trans H; with_reducible exact H2_) | with_reducible exact H | (rw [hy177]; exact H) | exact H
   have Ny177 := Aside0.mk hy177
   clear hy177
   have H' := Aside0.mk H
   clear H
   go_enter Try.func20, Try.ntmps20
   go_wp2_with (first | ((with_reducible refine gate_dst (N := 1) rfl ?_); refine zb (w := w) 1 #[.int .i64 a0_0, .slice A0_1 l0_1.length c0_1] 27 zB ?_; clear HB; intro gb174 w4 HB BK174 GW174; have GE174 := GW174) | ((with_reducible refine gate_dst (N := 2) rfl ?_); refine ze 2 #[.int .i64 0, .slice none 0 0] 27 ?_; intro gb175 hg w5 hbox hb; have BK175 := zM (hbox); have GW175 := zM ((by rw [hg]; exact (below_size zB) : w.heap.size ≤ gb175)); have GE175 := zM ((by rw [hg]; exact (below_size zB) : w.heap.size ≤ gb175)); replace HB := zM (below_step zB hb); have NB174_175 := zM ((by rw [hg]; exact Nat.ne_of_lt (blk_lt (g := gb174) (o := .cells #[.int .i64 a0_0, .slice A0_1 l0_1.length c0_1] 27 (0, 0)) (zK BK174.out)) : gb174 ≠ gb175)); have NB175_174 := zM ((by rw [hg]; exact Nat.ne_of_gt (blk_lt (g := gb174) (o := .cells #[.int .i64 a0_0, .slice A0_1 l0_1.length c0_1] 27 (0, 0)) (zK BK174.out)) : gb175 ≠ gb174)); replace BK174 := zM (blk_below (g := gb174) (o := .cells #[.int .i64 a0_0, .slice A0_1 l0_1.length c0_1] 27 (0, 0)) (zK BK174.out) hb); clear hb hbox hg; have hnb6 := NB174_175.out; have hnc6 := NB175_174.out; have hcz7_0 := zy BK174 0; have hcz7_1 := zy BK174 1; have hfz7_0 := blk_frozen BK174.out 0; have hfz7_1 := blk_frozen BK174.out 1) | ((with_reducible refine gate_callee (f := 52) rfl ?_); refine zc 8 Try.func52 #[.agg #[.int .i64 a0_0, .slice A0_1 l0_1.length c0_1]] ?_; (with_reducible refine (spec_l2Good.calls k a0_0 _ _ l0_1 true _ ?side1 ?side2 A2.out).mono ?_); (case side1 => exact zC (Kd.C_below HR0_1.out HB.out)); (case side2 => exact HC0_1.out); rintro e w8 ⟨rfl, hb⟩; refine ⟨_, rfl, ?_⟩; replace BK174 := zM (blk_below (g := gb174) (o := .cells #[.int .i64 a0_0, .slice A0_1 l0_1.length c0_1] 27 (0, 0)) (zK BK174.out) hb); replace BK175 := zM (blk_below (g := gb175) (o := .cells #[.int .i64 0, .slice none 0 0] 27 (0, 0)) (zK BK175.out) hb); replace HB := zM (below_step zB hb); (try clear hb); (try clear hb2); (try clear hk); (try clear hi); have hcz9_0 := zy BK174 0; have hcz9_1 := zy BK174 1; have hfz9_0 := blk_frozen BK174.out 0; have hfz9_1 := blk_frozen BK174.out 1) | ((with_reducible refine gate_dst (N := 13) rfl ?_); refine Kd.R_lit k68 _ 68 ?hg (N := 13) ?hd (xs := ([] : List (S68))) (inner := []) (ok := fun _ => True) (okp := fun _ => True) ?hr ?hp (fun _ hk => hk) trivial (Below.refl _ _) (Nat.le_refl _) (by simp) ?_; (case hd => rfl); (case hg => rfl); (case hr => first | (go_simp; done) | (go_simp; rfl)); (case hp => exact (Reps.none _ _)); intro v178 w10 ho11 hb hg_ hnew_; clear hg_ hnew_; (first | rw [← Ny177.out] at ho11 | (simp only [Int.reduceToNat] at ho11; rw [← Ny177.out] at ho11)); have HO179 := zM (Kd.R_lower ho11 (below_size zB)); replace BK174 := zM (blk_below (g := gb174) (o := .cells #[.int .i64 a0_0, .slice A0_1 l0_1.length c0_1] 27 (0, 0)) (zK BK174.out) hb); replace BK175 := zM (blk_below (g := gb175) (o := .cells #[.int .i64 0, .slice none 0 0] 27 (0, 0)) (zK BK175.out) hb); replace HB := zM (below_step zB hb); clear hb ho11; obtain ⟨Ao12, co12, eo12⟩ := Kd.R_slice HO179.out; subst eo12) | ((with_reducible refine gate_dst (N := 4) rfl ?_); refine ze 4 #[.int .i64 0, .slice none 0 0] 27 ?_; intro gb180 hg w13 hbox hb; replace HO179 := zM (Kd.R_below (zR HO179.out) hb); have BK180 := zM (hbox); have GW180 := zM ((by rw [hg]; exact (below_size zB) : w.heap.size ≤ gb180)); have GE180 := zM ((by rw [hg]; exact (below_size zB) : w.heap.size ≤ gb180)); replace HB := zM (below_step zB hb); have NB174_180 := zM ((by rw [hg]; exact Nat.ne_of_lt (blk_lt (g := gb174) (o := .cells #[.int .i64 a0_0, .slice A0_1 l0_1.length c0_1] 27 (0, 0)) (zK BK174.out)) : gb174 ≠ gb180)); have NB180_174 := zM ((by rw [hg]; exact Nat.ne_of_gt (blk_lt (g := gb174) (o := .cells #[.int .i64 a0_0, .slice A0_1 l0_1.length c0_1] 27 (0, 0)) (zK BK174.out)) : gb180 ≠ gb174)); replace BK174 := zM (blk_below (g := gb174) (o := .cells #[.int .i64 a0_0, .slice A0_1 l0_1.length c0_1] 27 (0, 0)) (zK BK174.out) hb); have NB175_180 := zM ((by rw [hg]; exact Nat.ne_of_lt (blk_lt (g := gb175) (o := .cells #[.int .i64 0, .slice none 0 0] 27 (0, 0)) (zK BK175.out)) : gb175 ≠ gb180)); have NB180_175 := zM ((by rw [hg]; exact Nat.ne_of_gt (blk_lt (g := gb175) (o := .cells #[.int .i64 0, .slice none 0 0] 27 (0, 0)) (zK BK175.out)) : gb180 ≠ gb175)); replace BK175 := zM (blk_below (g := gb175) (o := .cells #[.int .i64 0, .slice none 0 0] 27 (0, 0)) (zK BK175.out) hb); clear hb hbox hg; have hnb14 := NB180_174.out; have hnc14 := NB174_180.out; have hnb15 := NB180_175.out; have hnc15 := NB175_180.out; have hcz16_0 := zy BK180 0; have hcz16_1 := zy BK180 1; have hfz16_0 := blk_frozen BK180.out 0; have hfz16_1 := blk_frozen BK180.out 1))
   go_loopg [5] k (fun kq v5 w' => ∃ (x5_1 : Int) (x181001_1 : List (S68)) (u181001 : Value), v5 = .int .i64 x5_1 ∧ Aside0 (spec_CliqueGraph.l0 kq x5_1 a0_0 l0_1 a0_0 x181001_1 = some (r1, r2, r3)) ∧ Aside0 (kq ≤ k) ∧ Aside0 (Kd.R k68 68 w' w.heap.size (fun _ => True) u181001 x181001_1) ∧ Aside0 (w'.heap[gb174]? = some (.cells #[.int .i64 a0_0, (.slice A0_1 l0_1.length c0_1)] 27 (0, 0))) ∧ Aside0 (w'.heap[gb175]? = some (.cells #[.int .i64 0, (.slice none 0 0)] 27 (0, 0))) ∧ Aside0 (w'.heap[gb180]? = some (.cells #[.int .i64 a0_0, u181001] 27 (0, 0))) ∧ Aside0 (Below w.heap.size w w'))
   case atStart => exact ⟨(0), (y177), (.slice Ao12 y177.length co12), (by first | rfl | (simp; done) | (simp [*]; done)), H', ⟨Nat.le_refl _⟩, ⟨by (with_reducible repeat (first | apply Kd.R_alloc | apply Kd.R_drewN | apply Kd.R_drew)); exact Kd.R_mono (Kd.R_far (p := ⟨gb180, 1, none⟩) (Kd.R_far (p := ⟨gb180, 0, none⟩) (Kd.R_types HO179.out BK180.out (by decide)) (fun _ hk => hk.2) (.int .i64 a0_0)) (fun _ hk => hk.2) (.slice Ao12 y177.length co12)) (fun _ hk => trivial)⟩, ⟨by (with_reducible repeat (first | refine blk_drewN ?_ _ | refine blk_drew ?_ | refine blk_alloc ?_ _)); refine blk_far ?_ NB174_180.out _; (with_reducible repeat (first | refine blk_drewN ?_ _ | refine blk_drew ?_ | refine blk_alloc ?_ _)); refine blk_far ?_ NB174_180.out _; (with_reducible repeat (first | refine blk_drewN ?_ _ | refine blk_drew ?_ | refine blk_alloc ?_ _)); exact BK174.out⟩, ⟨by (with_reducible repeat (first | refine blk_drewN ?_ _ | refine blk_drew ?_ | refine blk_alloc ?_ _)); refine blk_far ?_ NB175_180.out _; (with_reducible repeat (first | refine blk_drewN ?_ _ | refine blk_drew ?_ | refine blk_alloc ?_ _)); refine blk_far ?_ NB175_180.out _; (with_reducible repeat (first | refine blk_drewN ?_ _ | refine blk_drew ?_ | refine blk_alloc ?_ _)); exact BK175.out⟩, ⟨by (with_reducible repeat (first | refine blk_drewN ?_ _ | refine blk_drew ?_ | refine blk_alloc ?_ _)); refine blk_put (cs := #[.int .i64 a0_0, .slice none 0 0]) ?_ 1 _ rfl; (with_reducible repeat (first | refine blk_drewN ?_ _ | refine blk_drew ?_ | refine blk_alloc ?_ _)); refine blk_put (cs := #[.int .i64 0, .slice none 0 0]) ?_ 0 _ rfl; (with_reducible repeat (first | refine blk_drewN ?_ _ | refine blk_drew ?_ | refine blk_alloc ?_ _)); exact BK180.out⟩, ⟨zB⟩⟩
   case round =>
    clear H'
    try clear c1
    try clear c2
    try clear p2
    try clear c3
    try clear c5
    try clear c6
    try clear c14
    try clear c15
    try clear hcz16_0
    try clear hcz16_1
    try clear hcz7_0
    try clear hcz7_1
    try clear hcz9_0
    try clear hcz9_1
    try clear hfz16_0
    try clear hfz16_1
    try clear hfz7_0
    try clear hfz7_1
    try clear hfz9_0
    try clear hfz9_1
    obtain ⟨x5_1, x181001_1, u181001, rfl, HA, HK1, HO_181001, BK174, BK175, BK180, HB⟩ := hrel
    cases gk with
    | zero => exact absurd HA.out (by simp [spec_CliqueGraph.l0])
    | succ k1 =>
     have H := HA.out
     clear HA
     simp only [spec_CliqueGraph.l0] at H
     by_cases c17 : x5_1 < a0_0
     · rw [if_pos c17] at H
       have c17b0 := decide_eq_true c17
       clear c17
       have H' := Aside0.mk H
       clear H
       have hnb18 := NB174_175.out
       have hnc18 := NB175_174.out
       have hnb19 := NB174_180.out
       have hnc19 := NB180_174.out
       have hcz20_0 := zy BK174 0
       have hcz20_1 := zy BK174 1
       have hfz20_0 := blk_frozen BK174.out 0
       have hfz20_1 := blk_frozen BK174.out 1
       go_wp2
       go_loopg [6] k1 (fun kq v6 w' => ∃ (x6_2 : Int) (x181001_2 : List (S68)) (u181001 : Value), v6 = .int .i64 x6_2 ∧ Aside0 (spec_CliqueGraph.l1 kq x5_1 x6_2 a0_0 l0_1 a0_0 x181001_2 = some (r1, r2, r3)) ∧ Aside0 (kq ≤ k1) ∧ Aside0 (Kd.R k68 68 w' w.heap.size (fun _ => True) u181001 x181001_2) ∧ Aside0 (w'.heap[gb174]? = some (.cells #[.int .i64 a0_0, (.slice A0_1 l0_1.length c0_1)] 27 (0, 0))) ∧ Aside0 (w'.heap[gb175]? = some (.cells #[.int .i64 0, (.slice none 0 0)] 27 (0, 0))) ∧ Aside0 (w'.heap[gb180]? = some (.cells #[.int .i64 a0_0, u181001] 27 (0, 0))) ∧ Aside0 (Below w.heap.size w w'))
       case atStart => exact ⟨(wrap64 (x5_1 + 1)), (x181001_1), (u181001), (by first | rfl | (simp; done) | (simp [*]; done)), H', ⟨Nat.le_refl _⟩, ⟨zR HO_181001.out⟩, ⟨zK BK174.out⟩, ⟨zK BK175.out⟩, ⟨zK BK180.out⟩, ⟨zB⟩⟩
       case round =>
        clear H'
        try clear c1
        try clear c2
        try clear p2
        try clear c3
        try clear c5
        try clear c6
        try clear p6
        try clear c14
        try clear c15
        try clear c17
        try clear c17b0
        try clear c18
        try clear c19
        try clear c20
        try clear hcz16_0
        try clear hcz16_1
        try clear hcz20_0
        try clear hcz20_1
        try clear hcz7_0
        try clear hcz7_1
        try clear hcz9_0
        try clear hcz9_1
        try clear hfz16_0
        try clear hfz16_1
        try clear hfz20_0
        try clear hfz20_1
        try clear hfz7_0
        try clear hfz7_1
        try clear hfz9_0
        try clear hfz9_1
        try clear p2
        obtain ⟨x6_2, x181001_2, u181001, rfl, HA, HK2, HO_181001, BK174, BK175, BK180, HB⟩ := hrel
        cases gk with
        | zero => exact absurd HA.out (by simp [spec_CliqueGraph.l1])
        | succ k2 =>
         have H := HA.out
         clear HA
         simp only [spec_CliqueGraph.l1] at H
         by_cases c21 : x6_2 < a0_0
         · rw [if_pos c21] at H
           have c21b0 := decide_eq_true c21
           clear c21
           replace H := Option.bind_eq_some_iff.mp H
           obtain ⟨t181, A220, H⟩ := H
           replace H : (if t181 = true then (spec_CliqueGraph.l1 k2 x5_1 (wrap64 (x6_2 + 1)) a0_0 l0_1 a0_0 x181001_2) else (if x181001_2.length < 8796093022208 then (spec_CliqueGraph.l1 k2 x5_1 (wrap64 (x6_2 + 1)) a0_0 l0_1 a0_0 (x181001_2 ++ [(⟨x5_1, x6_2⟩ : S68)])) else (none))) = some (r1, r2, r3) := H
           have A22 := Aside0.mk A220
           clear A220
           by_cases c23 : t181 = true
           · subst c23
             have H1 : (spec_CliqueGraph.l1 k2 x5_1 (wrap64 (x6_2 + 1)) a0_0 l0_1 a0_0 x181001_2) = some (r1, r2, r3) := by rw [if_pos rfl] at H; exact H
             clear H
             have H := H1
             clear H1
             have H' := Aside0.mk H
             clear H
             have hnb24 := NB174_175.out
             have hnc24 := NB175_174.out
             have hnb25 := NB174_180.out
             have hnc25 := NB180_174.out
             have hcz26_0 := zy BK174 0
             have hcz26_1 := zy BK174 1
             have hfz26_0 := blk_frozen BK174.out 0
             have hfz26_1 := blk_frozen BK174.out 1
             go_wp2_with (first | ((with_reducible refine gate_callee (f := 57) rfl ?_); refine zc 32 Try.func57 #[.agg #[.int .i64 a0_0, .slice A0_1 l0_1.length c0_1], .int .i64 x5_1, .int .i64 x6_2] ?_; (with_reducible refine (spec_l2Near.calls k2 a0_0 _ _ l0_1 x5_1 x6_2 true _ ?side1 ?side2 A22.out).mono ?_); (case side1 => exact zC (Kd.C_below HR0_1.out HB.out)); (case side2 => exact HC0_1.out); rintro e w27 ⟨rfl, hb⟩; refine ⟨_, rfl, ?_⟩; replace HO_181001 := zM (Kd.R_below (zR HO_181001.out) hb); replace BK174 := zM (blk_below (g := gb174) (o := .cells #[.int .i64 a0_0, .slice A0_1 l0_1.length c0_1] 27 (0, 0)) (zK BK174.out) hb); replace BK175 := zM (blk_below (g := gb175) (o := .cells #[.int .i64 0, .slice none 0 0] 27 (0, 0)) (zK BK175.out) hb); replace BK180 := zM (blk_below (g := gb180) (o := .cells #[.int .i64 a0_0, u181001] 27 (0, 0)) (zK BK180.out) hb); replace HB := zM (below_step zB hb); (try clear hb); (try clear hb2); (try clear hk); (try clear hi)))
             go_roundg k2
             case measure => have := HK1.out; have := HK2.out; omega
             case rel => exact ⟨(wrap64 (x6_2 + 1)), (x181001_2), (u181001), (by first | rfl | (simp; done) | (simp [*]; done)), H', ⟨by have := HK1.out; have := HK2.out; omega⟩, ⟨zR HO_181001.out⟩, ⟨zK BK174.out⟩, ⟨zK BK175.out⟩, ⟨zK BK180.out⟩, ⟨zB⟩⟩
           · replace c23 := Bool.eq_false_iff.mpr c23
             subst c23
             have H1 : (if x181001_2.length < 8796093022208 then (spec_CliqueGraph.l1 k2 x5_1 (wrap64 (x6_2 + 1)) a0_0 l0_1 a0_0 (x181001_2 ++ [(⟨x5_1, x6_2⟩ : S68)])) else (none)) = some (r1, r2, r3) := by rw [if_neg (show ¬ (false = true) by decide)] at H; exact H
             clear H
             have H := H1
             clear H1
             by_cases c28 : x181001_2.length < 8796093022208
             · rw [if_pos c28] at H
               have LMc28 := Aside0.mk c28
               clear c28
               obtain ⟨y182, hy182⟩ : ∃ y_ : List (S68), y_ = (x181001_2 ++ [(⟨x5_1, x6_2⟩ : S68)]) := ⟨_, rfl⟩
               replace H : (spec_CliqueGraph.l1 k2 x5_1 (wrap64 (x6_2 + 1)) a0_0 l0_1 a0_0 y182) = some (r1, r2, r3) := by first | (rw [hy182]; with_reducible exact H) | (have H2_ := (Option.bind_some _ _).symm.trans H; rw [hy182]; with_reducible exact H2_) | (have H2_ := (Option.bind_some _ _).symm.trans H; with_reducible exact H2_) | with_reducible exact H | (rw [hy182]; exact H) | exact H
               have Ny182 := Aside0.mk hy182
               clear hy182
               have H' := Aside0.mk H
               clear H
               have hnb29 := NB174_175.out
               have hnc29 := NB175_174.out
               have hnb30 := NB174_180.out
               have hnc30 := NB180_174.out
               have hcz31_0 := zy BK174 0
               have hcz31_1 := zy BK174 1
               have hfz31_0 := blk_frozen BK174.out 0
               have hfz31_1 := blk_frozen BK174.out 1
               go_wp2_with (first | ((with_reducible refine gate_callee (f := 57) rfl ?_); refine zc 32 Try.func57 #[.agg #[.int .i64 a0_0, .slice A0_1 l0_1.length c0_1], .int .i64 x5_1, .int .i64 x6_2] ?_; (with_reducible refine (spec_l2Near.calls k2 a0_0 _ _ l0_1 x5_1 x6_2 false _ ?side1 ?side2 A22.out).mono ?_); (case side1 => exact zC (Kd.C_below HR0_1.out HB.out)); (case side2 => exact HC0_1.out); rintro e w32 ⟨rfl, hb⟩; refine ⟨_, rfl, ?_⟩; replace HO_181001 := zM (Kd.R_below (zR HO_181001.out) hb); replace BK174 := zM (blk_below (g := gb174) (o := .cells #[.int .i64 a0_0, .slice A0_1 l0_1.length c0_1] 27 (0, 0)) (zK BK174.out) hb); replace BK175 := zM (blk_below (g := gb175) (o := .cells #[.int .i64 0, .slice none 0 0] 27 (0, 0)) (zK BK175.out) hb); replace BK180 := zM (blk_below (g := gb180) (o := .cells #[.int .i64 a0_0, u181001] 27 (0, 0)) (zK BK180.out) hb); replace HB := zM (below_step zB hb); (try clear hb); (try clear hb2); (try clear hk); (try clear hi); have hnb33 := NB180_175.out; have hnc33 := NB175_180.out; have hcz34_0 := zy BK180 0; have hcz34_1 := zy BK180 1; have hfz34_0 := blk_frozen BK180.out 0; have hfz34_1 := blk_frozen BK180.out 1) | ((with_reducible refine gate_builtin (b := .append) (xs := #[.tmp 35, .tmp 39]) rfl ?_); at_builtin; refine Kd.R_append k68 (w0 := w) w.heap.size rfl (.tmp 35) (.tmp 39) 22 68 (.agg #[(.int .i64 0), (.int .i64 0)]) 16 rfl Try.underlying22 info68 rfl (by decide) (by omega) u181001 x181001_2 (⟨x5_1, x6_2⟩ : S68) [.int .i64 x5_1, .int .i64 x6_2] (fun _ => True) (fun _ => False) rfl rfl ?aP (fun _ hk => hk.elim) ?aF ?aO ?aB ?aS ?aL ?_; (case aP => exact k68_mkM _ _ _ (⟨x5_1, x6_2⟩ : S68)); (case aB => exact zB); (case aF => exact (fun _ _ => trivial)); (case aO => exact (zR HO_181001.out)); (case aS => exact (below_size zB)); (case aL => have := LMc28.out; omega); intro v183 w35 ho hb hg hat; rw [← Ny182.out] at ho; replace BK174 := zM (blk_grown (g := gb174) (o := .cells #[.int .i64 a0_0, .slice A0_1 l0_1.length c0_1] 27 (0, 0)) (zK BK174.out) hg (Kd.R_ne HO_181001.out BK174.out (by decide))); replace BK175 := zM (blk_grown (g := gb175) (o := .cells #[.int .i64 0, .slice none 0 0] 27 (0, 0)) (zK BK175.out) hg (Kd.R_ne HO_181001.out BK175.out (by decide))); replace BK180 := zM (blk_grown (g := gb180) (o := .cells #[.int .i64 a0_0, u181001] 27 (0, 0)) (zK BK180.out) hg (Kd.R_ne HO_181001.out BK180.out (by decide))); replace HB := zM (hb); have HO184 := zM (ho); clear HO_181001; clear ho hb hg hat; obtain ⟨Ao36, co36, eo36⟩ := Kd.R_slice HO184.out; subst eo36; have hcz37_0 := zy BK180 0; have hcz37_1 := zy BK180 1; have hfz37_0 := blk_frozen BK180.out 0; have hfz37_1 := blk_frozen BK180.out 1))
               go_roundg k2
               case measure => have := HK1.out; have := HK2.out; omega
               case rel => exact ⟨(wrap64 (x6_2 + 1)), (y182), (.slice Ao36 y182.length co36), (by first | rfl | (simp; done) | (simp [*]; done)), H', ⟨by have := HK1.out; have := HK2.out; omega⟩, ⟨by (with_reducible repeat (first | apply Kd.R_alloc | apply Kd.R_drewN | apply Kd.R_drew)); exact Kd.R_mono (Kd.R_far (p := ⟨gb180, 1, none⟩) (Kd.R_types HO184.out BK180.out (by decide)) (fun _ hk => hk.2) (.slice Ao36 y182.length co36)) (fun _ hk => trivial)⟩, ⟨by (with_reducible repeat (first | refine blk_drewN ?_ _ | refine blk_drew ?_ | refine blk_alloc ?_ _)); refine blk_far ?_ NB174_180.out _; (with_reducible repeat (first | refine blk_drewN ?_ _ | refine blk_drew ?_ | refine blk_alloc ?_ _)); exact BK174.out⟩, ⟨by (with_reducible repeat (first | refine blk_drewN ?_ _ | refine blk_drew ?_ | refine blk_alloc ?_ _)); refine blk_far ?_ NB175_180.out _; (with_reducible repeat (first | refine blk_drewN ?_ _ | refine blk_drew ?_ | refine blk_alloc ?_ _)); exact BK175.out⟩, ⟨by (with_reducible repeat (first | refine blk_drewN ?_ _ | refine blk_drew ?_ | refine blk_alloc ?_ _)); refine blk_put (cs := #[.int .i64 a0_0, u181001]) ?_ 1 _ rfl; (with_reducible repeat (first | refine blk_drewN ?_ _ | refine blk_drew ?_ | refine blk_alloc ?_ _)); exact BK180.out⟩, ⟨zB⟩⟩
             · rw [if_neg c28] at H
               exact absurd H (by simp)
         · rw [if_neg c21] at H
           have c21b0 : decide (x6_2 < a0_0) = false := decide_eq_false c21
           clear c21
           have H' := Aside0.mk H
           clear H
           have hnb38 := NB174_175.out
           have hnc38 := NB175_174.out
           have hnb39 := NB174_180.out
           have hnc39 := NB180_174.out
           have hcz40_0 := zy BK174 0
           have hcz40_1 := zy BK174 1
           have hfz40_0 := blk_frozen BK174.out 0
           have hfz40_1 := blk_frozen BK174.out 1
           go_wp2
           go_roundg k2
           case measure => have := HK1.out; have := HK2.out; omega
           case rel => exact ⟨(wrap64 (x5_1 + 1)), (x181001_2), (u181001), (by first | rfl | (simp; done) | (simp [*]; done)), H', ⟨by have := HK1.out; have := HK2.out; omega⟩, ⟨zR HO_181001.out⟩, ⟨zK BK174.out⟩, ⟨zK BK175.out⟩, ⟨zK BK180.out⟩, ⟨zB⟩⟩
     · rw [if_neg c17] at H
       have c17b0 : decide (x5_1 < a0_0) = false := decide_eq_false c17
       clear c17
       simp only [Option.some.injEq, Prod.mk.injEq] at H
       obtain ⟨rfl, rfl, rfl⟩ := H
       have hnb41 := NB174_175.out
       have hnc41 := NB175_174.out
       have hnb42 := NB174_180.out
       have hnc42 := NB180_174.out
       have hcz43_0 := zy BK174 0
       have hcz43_1 := zy BK174 1
       have hfz43_0 := blk_frozen BK174.out 0
       have hfz43_1 := blk_frozen BK174.out 1
       have hnb44 := NB180_175.out
       have hnc44 := NB175_180.out
       have hcz45_0 := zy BK180 0
       have hcz45_1 := zy BK180 1
       have hfz45_0 := blk_frozen BK180.out 0
       have hfz45_1 := blk_frozen BK180.out 1
       have hcz46_0 := zy BK175 0
       have hcz46_1 := zy BK175 1
       have hfz46_0 := blk_frozen BK175.out 0
       have hfz46_1 := blk_frozen BK175.out 1
       obtain ⟨Ao47, co47, eo47⟩ := Kd.R_slice HO_181001.out
       subst eo47
       go_wp2
       refine bodyPost_ret (results_ct rfl _ _ gb175 27 #[.int .i64 a0_0, .slice Ao47 x181001_1.length co47] (0, 0) _ rfl (by (with_reducible repeat (first | refine blk_drewN ?_ _ | refine blk_drew ?_ | refine blk_alloc ?_ _)); refine blk_put (cs := #[.int .i64 a0_0, .slice none 0 0]) ?_ 1 _ rfl; (with_reducible repeat (first | refine blk_drewN ?_ _ | refine blk_drew ?_ | refine blk_alloc ?_ _)); refine blk_put (cs := #[.int .i64 0, .slice none 0 0]) ?_ 0 _ rfl; (with_reducible repeat (first | refine blk_drewN ?_ _ | refine blk_drew ?_ | refine blk_alloc ?_ _)); exact BK175.out) Try.underlying27 rfl (by kernel_rfl)) rfl ?_
       exact ⟨_, by first | rfl | (simp [errW_none, errW_some] <;> rfl) | (simp [*, errW_none, errW_some] <;> rfl), by (with_reducible repeat (first | apply Kd.R_alloc | apply Kd.R_drewN | apply Kd.R_drew)); exact Kd.R_mono (Kd.R_far (p := ⟨gb175, 1, none⟩) (Kd.R_far (p := ⟨gb175, 0, none⟩) (Kd.R_types HO_181001.out BK175.out (by decide)) (fun _ hk => hk.2) (.int .i64 a0_0)) (fun _ hk => hk.2) (.slice Ao47 x181001_1.length co47)) (fun _ hk => trivial), zB⟩
 · replace c3 := Bool.eq_false_iff.mpr c3
   subst c3
   have H1 : (some (0, ([] : List (S68)), false)) = some (r1, r2, r3) := by rw [if_neg (show ¬ (false = true) by decide)] at H; exact H
   clear H
   have H := H1
   clear H1
   simp only [Option.some.injEq, Prod.mk.injEq] at H
   obtain ⟨rfl, rfl, rfl⟩ := H
   go_enter Try.func20, Try.ntmps20
   go_wp2_with (first | ((with_reducible refine gate_dst (N := 1) rfl ?_); refine zb (w := w) 1 #[.int .i64 a0_0, .slice A0_1 l0_1.length c0_1] 27 zB ?_; clear HB; intro gb174 w48 HB BK174 GW174; have GE174 := GW174) | ((with_reducible refine gate_dst (N := 2) rfl ?_); refine ze 2 #[.int .i64 0, .slice none 0 0] 27 ?_; intro gb175 hg w49 hbox hb; have BK175 := zM (hbox); have GW175 := zM ((by rw [hg]; exact (below_size zB) : w.heap.size ≤ gb175)); have GE175 := zM ((by rw [hg]; exact (below_size zB) : w.heap.size ≤ gb175)); replace HB := zM (below_step zB hb); have NB174_175 := zM ((by rw [hg]; exact Nat.ne_of_lt (blk_lt (g := gb174) (o := .cells #[.int .i64 a0_0, .slice A0_1 l0_1.length c0_1] 27 (0, 0)) (zK BK174.out)) : gb174 ≠ gb175)); have NB175_174 := zM ((by rw [hg]; exact Nat.ne_of_gt (blk_lt (g := gb174) (o := .cells #[.int .i64 a0_0, .slice A0_1 l0_1.length c0_1] 27 (0, 0)) (zK BK174.out)) : gb175 ≠ gb174)); replace BK174 := zM (blk_below (g := gb174) (o := .cells #[.int .i64 a0_0, .slice A0_1 l0_1.length c0_1] 27 (0, 0)) (zK BK174.out) hb); clear hb hbox hg; have hnb50 := NB174_175.out; have hnc50 := NB175_174.out; have hcz51_0 := zy BK174 0; have hcz51_1 := zy BK174 1; have hfz51_0 := blk_frozen BK174.out 0; have hfz51_1 := blk_frozen BK174.out 1) | ((with_reducible refine gate_callee (f := 52) rfl ?_); refine zc 8 Try.func52 #[.agg #[.int .i64 a0_0, .slice A0_1 l0_1.length c0_1]] ?_; (with_reducible refine (spec_l2Good.calls k a0_0 _ _ l0_1 false _ ?side1 ?side2 A2.out).mono ?_); (case side1 => exact zC (Kd.C_below HR0_1.out HB.out)); (case side2 => exact HC0_1.out); rintro e w52 ⟨rfl, hb⟩; refine ⟨_, rfl, ?_⟩; replace BK174 := zM (blk_below (g := gb174) (o := .cells #[.int .i64 a0_0, .slice A0_1 l0_1.length c0_1] 27 (0, 0)) (zK BK174.out) hb); replace BK175 := zM (blk_below (g := gb175) (o := .cells #[.int .i64 0, .slice none 0 0] 27 (0, 0)) (zK BK175.out) hb); replace HB := zM (below_step zB hb); (try clear hb); (try clear hb2); (try clear hk); (try clear hi); have hcz53_0 := zy BK175 0; have hcz53_1 := zy BK175 1; have hfz53_0 := blk_frozen BK175.out 0; have hfz53_1 := blk_frozen BK175.out 1))
   refine bodyPost_ret (results_ct rfl _ _ gb175 27 #[.int .i64 0, .slice none 0 0] (0, 0) _ rfl (by (with_reducible repeat (first | refine blk_drewN ?_ _ | refine blk_drew ?_ | refine blk_alloc ?_ _)); refine blk_put (cs := #[.int .i64 0, .slice none 0 0]) ?_ 1 _ rfl; (with_reducible repeat (first | refine blk_drewN ?_ _ | refine blk_drew ?_ | refine blk_alloc ?_ _)); refine blk_put (cs := #[.int .i64 0, .slice none 0 0]) ?_ 0 _ rfl; (with_reducible repeat (first | refine blk_drewN ?_ _ | refine blk_drew ?_ | refine blk_alloc ?_ _)); exact BK175.out) Try.underlying27 rfl (by kernel_rfl)) rfl ?_
   exact ⟨_, by first | rfl | (simp [errW_none, errW_some] <;> rfl) | (simp [*, errW_none, errW_some] <;> rfl), by first | exact Kd.R_nil _ _ _ _ _ | exact Kd.N_nil _ _ _ _ _ | exact Kd.V_nil _ _ _ _ _ | exact Kd.Q_nil _ _ _ _ _ | exact Kd.S_nil _ _ _ _ _, zB⟩

/-! ### slices_Index_2_int_2_int: function 121 -/
def slices_Index_2_int_2_int.l0 : Nat → List (S68) → Int → Int → Int → Int → Option (Int)
 | 0, _, _, _, _, _ => none
 | k + 1, x0, x7, x8, x186000, x186001 => if x8 < x7 then (if 0 ≤ x8 then (if x8 < (x0.length : Int) then (if (x186000 == ((rd_T68 x0 x8).f0) && (x186001 == ((rd_T68 x0 x8).f1))) = true then (some x8) else (slices_Index_2_int_2_int.l0 k x0 x7 (wrap64 (x8 + 1)) x186000 x186001)) else (none)) else (none)) else (some (-1))
def slices_Index_2_int_2_int.f (k : Nat) (l0 : List (S68)) (a1_0 : Int) (a1_1 : Int) : Option (Int) := slices_Index_2_int_2_int.l0 k l0 (l0.length : Int) 0 a1_0 a1_1
theorem slices_Index_2_int_2_int.mono_l : ∀ k, (∀ y0 y1 y2 y3 y4, LeO (slices_Index_2_int_2_int.l0 k y0 y1 y2 y3 y4) (slices_Index_2_int_2_int.l0 (k + 1) y0 y1 y2 y3 y4))
 | 0 => fun _ _ _ _ _ r h => by simp [slices_Index_2_int_2_int.l0] at h
 | k + 1 => by
  have ih0 := slices_Index_2_int_2_int.mono_l k
  · intro y0 y1 y2 y3 y4
    unfold slices_Index_2_int_2_int.l0
    repeat' first
    | (with_reducible exact ih0 _ _ _ _ _)
    | (with_reducible exact LeO.refl _)
    | (with_reducible exact LeO.none _)
    | (with_reducible refine LeO.ite ?_ ?_)
    | (with_reducible refine LeO.bind ?_ (fun _ => ?_))
    | exact ih0 _ _ _ _ _
    | exact LeO.none _
    | refine LeO.ite ?_ ?_
    | refine LeO.bind ?_ (fun _ => ?_)
theorem slices_Index_2_int_2_int.mono : ∀ a0 a1 a2 k, LeO (slices_Index_2_int_2_int.f k a0 a1 a2) (slices_Index_2_int_2_int.f (k + 1) a0 a1 a2) := by
 intro a0 a1 a2 k
 have ih0 := slices_Index_2_int_2_int.mono_l k
 unfold slices_Index_2_int_2_int.f
 repeat' first
  | (with_reducible exact ih0 _ _ _ _ _)
  | (with_reducible exact LeO.refl _)
  | (with_reducible exact LeO.none _)
  | (with_reducible refine LeO.ite ?_ ?_)
  | (with_reducible refine LeO.bind ?_ (fun _ => ?_))
  | exact ih0 _ _ _ _ _
  | exact LeO.none _
  | refine LeO.ite ?_ ?_
  | refine LeO.bind ?_ (fun _ => ?_)
set_option maxHeartbeats 8000000 in
set_option maxRecDepth 100000 in
theorem slices_Index_2_int_2_int.calls (k : Nat) (A0 : Option Addr) (c0 : Nat) (l0 : List (S68)) (a1_0 : Int) (a1_1 : Int) (r : Int) (w : World) (hr0 : Kd.C k68 w A0 l0.length l0) (hc0 : l0.length ≤ c0) (h : slices_Index_2_int_2_int.f k l0 a1_0 a1_1 = some r) :
 Calls Try.prog 121 #[.slice A0 l0.length c0, .agg #[.int .i64 a1_0, .int .i64 a1_1]] w fun e w' => e = .returned (.int .i64 r) ∧ Below w.heap.size w w' := by
 have hu68 := Try.underlying68
 have HR0 := Aside0.mk hr0
 have HC0 := Aside0.mk hc0
 clear hr0 hc0
 have HB := zM (Below.refl w.heap.size w)
 have H : (slices_Index_2_int_2_int.l0 k l0 (l0.length : Int) 0 a1_0 a1_1) = some r := h
 clear h
 have H' := Aside0.mk H
 clear H
 go_enter Try.func121, Try.ntmps121
 go_wp2_with (first | ((with_reducible refine gate_dst (N := 3) rfl ?_); refine zb (w := w) 3 #[.int .i64 a1_0, .int .i64 a1_1] 68 zB ?_; clear HB; intro gb185 w3 HB BK185 GW185; have GE185 := GW185))
 repeat (go_quiet (first | ((with_reducible refine gate_dst (N := 3) rfl ?_); refine zb (w := w) 3 #[.int .i64 a1_0, .int .i64 a1_1] 68 zB ?_; clear HB; intro gb185 w3 HB BK185 GW185; have GE185 := GW185)); try go_wp2_with (first | ((with_reducible refine gate_dst (N := 3) rfl ?_); refine zb (w := w) 3 #[.int .i64 a1_0, .int .i64 a1_1] 68 zB ?_; clear HB; intro gb185 w3 HB BK185 GW185; have GE185 := GW185)))
 go_loopg [8] k (fun kq v8 w' => ∃ (x8_1 : Int), v8 = .int .i64 x8_1 ∧ Aside0 (slices_Index_2_int_2_int.l0 kq l0 (l0.length : Int) x8_1 a1_0 a1_1 = some r) ∧ Aside0 (kq ≤ k) ∧ Aside0 (w'.heap[gb185]? = some (.cells #[.int .i64 a1_0, .int .i64 a1_1] 68 (0, 0))) ∧ Aside0 (Below w.heap.size w w'))
 case atStart => exact ⟨(0), (by first | rfl | (simp; done) | (simp [*]; done)), H', ⟨Nat.le_refl _⟩, ⟨zK BK185.out⟩, ⟨zB⟩⟩
 case round =>
  clear H'
  try clear c1
  try clear p2
  obtain ⟨x8_1, rfl, HA, HK1, BK185, HB⟩ := hrel
  cases gk with
  | zero => exact absurd HA.out (by simp [slices_Index_2_int_2_int.l0])
  | succ k1 =>
   have H := HA.out
   clear HA
   simp only [slices_Index_2_int_2_int.l0] at H
   by_cases c4 : x8_1 < (l0.length : Int)
   · rw [if_pos c4] at H
     have c4b0 := decide_eq_true c4
     clear c4
     by_cases c5 : 0 ≤ x8_1
     · rw [if_pos c5] at H
       have c5b0 := decide_eq_true c5
       clear c5
       by_cases c6 : x8_1 < (l0.length : Int)
       · rw [if_pos c6] at H
         have c6b0 := decide_eq_true c6
         clear c6
         by_cases c7 : (a1_0 == ((rd_T68 l0 x8_1).f0) && (a1_1 == ((rd_T68 l0 x8_1).f1))) = true
         · rw [if_pos c7] at H
           have c7b0 : (a1_0 == ((rd_T68 l0 x8_1).f0) && (a1_1 == ((rd_T68 l0 x8_1).f1))) = true := c7
           (try (have c7b1 : decide (a1_0 = ((rd_T68 l0 x8_1).f0) && (a1_1 == ((rd_T68 l0 x8_1).f1))) = true := by simpa using c7))
           (try (have c7b2 : (a1_0 == ((rd_T68 l0 x8_1).f0) && (a1_1 == ((rd_T68 l0 x8_1).f1))) = true := by simpa using c7))
           clear c7
           obtain rfl := Option.some.inj H
           have hcz8_0 := zy BK185 0
           have hcz8_1 := zy BK185 1
           have hfz8_0 := blk_frozen BK185.out 0
           have hfz8_1 := blk_frozen BK185.out 1
           have p186 : 0 ≤ (x8_1 : Int) := of_decide_eq_true zA
           have q186 : x8_1 < (l0.length : Int) := of_decide_eq_true zA
           obtain ⟨ad186, e186, hx186_0, hx186_1⟩ := at_T68 HR0.out x8_1 p186 q186
           cases e186
           (try replace hx186_0 := (HB.out.cell (World.block_lt_of_cell? w _ hx186_0)).trans hx186_0)
           (try replace hx186_1 := (HB.out.cell (World.block_lt_of_cell? w _ hx186_1)).trans hx186_1)
           replace p186 := eq_true p186
           replace q186 := eq_true q186
           go_wp2
           repeat (go_quiet (fail); try go_wp2)
           go_ret
           exact ⟨by first | rfl | (simp [errW_none, errW_some] <;> rfl) | (simp [*, errW_none, errW_some] <;> rfl), zB⟩
         · rw [if_neg c7] at H
           have c7b0 : (a1_0 == ((rd_T68 l0 x8_1).f0) && (a1_1 == ((rd_T68 l0 x8_1).f1))) = false := by simpa using c7
           (try (have c7b1 : decide (a1_0 = ((rd_T68 l0 x8_1).f0) && (a1_1 == ((rd_T68 l0 x8_1).f1))) = false := by simpa using c7))
           (try (have c7b2 : (a1_0 == ((rd_T68 l0 x8_1).f0) && (a1_1 == ((rd_T68 l0 x8_1).f1))) = false := by simpa using c7))
           (try (have c7b3 : ¬ (a1_0 = ((rd_T68 l0 x8_1).f0) && (a1_1 == ((rd_T68 l0 x8_1).f1))) := by simpa using c7))
           clear c7
           have H' := Aside0.mk H
           clear H
           have hcz9_0 := zy BK185 0
           have hcz9_1 := zy BK185 1
           have hfz9_0 := blk_frozen BK185.out 0
           have hfz9_1 := blk_frozen BK185.out 1
           have p186 : 0 ≤ (x8_1 : Int) := of_decide_eq_true zA
           have q186 : x8_1 < (l0.length : Int) := of_decide_eq_true zA
           obtain ⟨ad186, e186, hx186_0, hx186_1⟩ := at_T68 HR0.out x8_1 p186 q186
           cases e186
           (try replace hx186_0 := (HB.out.cell (World.block_lt_of_cell? w _ hx186_0)).trans hx186_0)
           (try replace hx186_1 := (HB.out.cell (World.block_lt_of_cell? w _ hx186_1)).trans hx186_1)
           replace p186 := eq_true p186
           replace q186 := eq_true q186
           go_wp2
           repeat (go_quiet (fail); try go_wp2)
           go_roundg k1
           case measure => have := HK1.out; omega
           case rel => exact ⟨(wrap64 (x8_1 + 1)), (by first | rfl | (simp; done) | (simp [*]; done)), H', ⟨by have := HK1.out; omega⟩, ⟨zK BK185.out⟩, ⟨zB⟩⟩
       · rw [if_neg c6] at H
         exact absurd H (by simp)
     · rw [if_neg c5] at H
       exact absurd H (by simp)
   · rw [if_neg c4] at H
     have c4b0 : decide (x8_1 < (l0.length : Int)) = false := decide_eq_false c4
     clear c4
     obtain rfl := Option.some.inj H
     go_wp2
     repeat (go_quiet (fail); try go_wp2)
     go_ret
     exact ⟨by first | rfl | (simp [errW_none, errW_some] <;> rfl) | (simp [*, errW_none, errW_some] <;> rfl), zB⟩

/-! ### slices_Contains_2_int_2_int: function 98 -/
def slices_Contains_2_int_2_int.f (k : Nat) (l0 : List (S68)) (a1_0 : Int) (a1_1 : Int) : Option (Bool) := (slices_Index_2_int_2_int.f k l0 a1_0 a1_1).bind fun t188 => (some (decide (t188 ≥ 0)))
theorem slices_Contains_2_int_2_int.mono : ∀ a0 a1 a2 k, LeO (slices_Contains_2_int_2_int.f k a0 a1 a2) (slices_Contains_2_int_2_int.f (k + 1) a0 a1 a2) := by
 intro a0 a1 a2 k
 unfold slices_Contains_2_int_2_int.f
 repeat' first
  | (with_reducible exact slices_Index_2_int_2_int.mono _ _ _ _)
  | (with_reducible exact LeO.refl _)
  | (with_reducible exact LeO.none _)
  | (with_reducible refine LeO.ite ?_ ?_)
  | (with_reducible refine LeO.bind ?_ (fun _ => ?_))
  | exact slices_Index_2_int_2_int.mono _ _ _ _
  | exact LeO.none _
  | refine LeO.ite ?_ ?_
  | refine LeO.bind ?_ (fun _ => ?_)
set_option maxHeartbeats 8000000 in
set_option maxRecDepth 100000 in
theorem slices_Contains_2_int_2_int.calls (k : Nat) (A0 : Option Addr) (c0 : Nat) (l0 : List (S68)) (a1_0 : Int) (a1_1 : Int) (r : Bool) (w : World) (hr0 : Kd.C k68 w A0 l0.length l0) (hc0 : l0.length ≤ c0) (h : slices_Contains_2_int_2_int.f k l0 a1_0 a1_1 = some r) :
 Calls Try.prog 98 #[.slice A0 l0.length c0, .agg #[.int .i64 a1_0, .int .i64 a1_1]] w fun e w' => e = .returned (.bool r) ∧ Below w.heap.size w w' := by
 have hu68 := Try.underlying68
 have HR0 := Aside0.mk hr0
 have HC0 := Aside0.mk hc0
 clear hr0 hc0
 have HB := zM (Below.refl w.heap.size w)
 have H : ((slices_Index_2_int_2_int.f k l0 a1_0 a1_1).bind fun t188 => (some (decide (t188 ≥ 0)))) = some r := h
 clear h
 replace H := Option.bind_eq_some_iff.mp H
 obtain ⟨t188, A30, H⟩ := H
 have A3 := Aside0.mk A30
 clear A30
 obtain rfl := Option.some.inj H
 go_enter Try.func98, Try.ntmps98
 go_wp2_with (first | ((with_reducible refine gate_dst (N := 3) rfl ?_); refine zb (w := w) 3 #[.int .i64 a1_0, .int .i64 a1_1] 68 zB ?_; clear HB; intro gb187 w4 HB BK187 GW187; have GE187 := GW187; have hcz5_0 := zy BK187 0; have hcz5_1 := zy BK187 1; have hfz5_0 := blk_frozen BK187.out 0; have hfz5_1 := blk_frozen BK187.out 1) | ((with_reducible refine gate_callee (f := 121) rfl ?_); refine zc 7 Try.func121 #[.slice A0 l0.length c0, .agg #[.int .i64 a1_0, .int .i64 a1_1]] ?_; (with_reducible refine (slices_Index_2_int_2_int.calls k _ _ l0 a1_0 a1_1 t188 _ ?side1 ?side2 A3.out).mono ?_); (case side1 => exact zC (Kd.C_below HR0.out HB.out)); (case side2 => exact HC0.out); rintro e w6 ⟨rfl, hb⟩; refine ⟨_, rfl, ?_⟩; replace BK187 := zM (blk_below (g := gb187) (o := .cells #[.int .i64 a1_0, .int .i64 a1_1] 68 (0, 0)) (zK BK187.out) hb); replace HB := zM (below_step zB hb); (try clear hb); (try clear hb2); (try clear hk); (try clear hi)))
 go_ret
 exact ⟨by first | rfl | (simp [errW_none, errW_some] <;> rfl) | (simp [*, errW_none, errW_some] <;> rfl), zB⟩

end Go.Proofs.Ytpbngmkhpcgpkaa.P
