-- Written by a program of this session (the kit's print, turned: wip/print/patch.py) out of the translation. Not trusted: Lean checks it.
import Derived.Test.YtmhoemdclnlgaaaFirstWayG5
import Derived.Test.YtmhoemdclnlgaaaFirstWayG8
import Derived.Test.YtmhoemdclnlgaaaFirstWayG9
import Derived.Test.YtmhoemdclnlgaaaFirstWayG11
import Derived.Test.YtmhoemdclnlgaaaFirstWayG12
namespace Go.Proofs.Ytmhoemdclnlgaaa.P
open Go.RowKit Go.Proofs.YtmhoemdclnlgaaaW.PrintWords Go.Proofs.YtmhoemdclnlgaaaW.PrintLast Go.Proofs.YtmhoemdclnlgaaaW.PrintMore
attribute [local go_sem] max2_int min2_int max_two min_two max_three min_three max_four min_four   -- for this text's walks alone
set_option linter.unusedVariables false
set_option linter.unusedSimpArgs false

/-! ### spec_l2Walk: function 86 -/
mutual
def spec_l2Walk.l0 : Nat → Int → Int → List (List Int) → List Int → List Int → Option (List Int)
 | 0, _, _, _, _, _ => none
 | k + 1, x1, x2, x7, x8, x9 => if x1 = x2 then (some x9) else (spec_l2Walk.l1 k x1 x2 x7 x8 x9 0)
def spec_l2Walk.l1 : Nat → Int → Int → List (List Int) → List Int → List Int → Int → Option (List Int)
 | 0, _, _, _, _, _, _ => none
 | k + 1, x1, x2, x7, x8, x9, x10 => if 0 ≤ x1 then (if x1 < (x7.length : Int) then (if 0 ≤ x10 then (if x10 < ((rd_L1 x7 x1).length : Int) then (if 0 ≤ (rd (rd_L1 x7 x1) x10) then (if (rd (rd_L1 x7 x1) x10) < (x8.length : Int) then (if x1 < (x8.length : Int) then (if (rd x8 (rd (rd_L1 x7 x1) x10)) = (wrap64 ((rd x8 x1) - 1)) then (if x9.length < 17592186044416 then (spec_l2Walk.l0 k (rd (rd_L1 x7 x1) x10) x2 x7 x8 (x9 ++ [rd (rd_L1 x7 x1) x10])) else (none)) else (spec_l2Walk.l1 k x1 x2 x7 x8 x9 (wrap64 (x10 + 1)))) else (none)) else (none)) else (none)) else (none)) else (none)) else (none)) else (none)
end
def spec_l2Walk.f (k : Nat) (l0_0 : List (List Int)) (l0_1 : List (S79)) (a1 : Int) (a2 : Int) : Option (List Int) := (spec_l2Lists.f k l0_0 l0_1).bind fun t785 => ((spec_l2Spread.f k t785 a2).bind fun t788 => (if 0 ≤ a1 then (if a1 < (t788.length : Int) then (if (rd t788 a1) < 0 then (some (([] : List Int))) else (spec_l2Walk.l0 k a1 a2 t785 t788 (([a1] : List Int)))) else (none)) else (none)))
set_option maxHeartbeats 8000000 in
set_option maxRecDepth 100000 in
theorem spec_l2Walk.calls (k : Nat) (A0_0 : Option Addr) (c0_0 : Nat) (l0_0 : List (List Int)) (A0_1 : Option Addr) (c0_1 : Nat) (l0_1 : List (S79)) (a1 : Int) (a2 : Int) (r : List Int) (w : World) (hr0_0 : Kd.C (Kd.slice 3 (Kd.int .i64)) w A0_0 l0_0.length l0_0) (hc0_0 : l0_0.length ≤ c0_0) (hr0_1 : Kd.C k79 w A0_1 l0_1.length l0_1) (hc0_1 : l0_1.length ≤ c0_1) (h : spec_l2Walk.f k l0_0 l0_1 a1 a2 = some r) :
 Calls Try.prog 86 #[.agg #[.slice A0_0 l0_0.length c0_0, .slice A0_1 l0_1.length c0_1], .int .i64 a1, .int .i64 a2] w fun e w' => ∃ v0_ : Value, e = .returned (v0_) ∧ Kd.R (Kd.int .i64) 3 w' w.heap.size (fun _ => True) v0_ r ∧ Below w.heap.size w w' := by
 have hu30 := Try.underlying30
 have HR0_0 := Aside0.mk hr0_0
 have HC0_0 := Aside0.mk hc0_0
 clear hr0_0 hc0_0
 have HR0_1 := Aside0.mk hr0_1
 have HC0_1 := Aside0.mk hc0_1
 clear hr0_1 hc0_1
 have HB := zM (Below.refl w.heap.size w)
 have H : ((spec_l2Lists.f k l0_0 l0_1).bind fun t785 => ((spec_l2Spread.f k t785 a2).bind fun t788 => (if 0 ≤ a1 then (if a1 < (t788.length : Int) then (if (rd t788 a1) < 0 then (some (([] : List Int))) else (spec_l2Walk.l0 k a1 a2 t785 t788 (([a1] : List Int)))) else (none)) else (none)))) = some r := h
 clear h
 replace H := Option.bind_eq_some_iff.mp H
 obtain ⟨t785, A40, H⟩ := H
 have A4 := Aside0.mk A40
 clear A40
 replace H := Option.bind_eq_some_iff.mp H
 obtain ⟨t788, A50, H⟩ := H
 have A5 := Aside0.mk A50
 clear A50
 by_cases c6 : 0 ≤ a1
 · rw [if_pos c6] at H
   have c6b0 := decide_eq_true c6
   clear c6
   by_cases c7 : a1 < (t788.length : Int)
   · rw [if_pos c7] at H
     have c7b0 := decide_eq_true c7
     clear c7
     by_cases c8 : (rd t788 a1) < 0
     · rw [if_pos c8] at H
       have c8b0 := decide_eq_true c8
       clear c8
       obtain ⟨y792, hy792⟩ : ∃ y_ : List Int, y_ = (([] : List Int)) := ⟨_, rfl⟩
       replace H : (some y792) = some r := by first | (rw [hy792]; with_reducible exact H) | (have H2_ := (Option.bind_some _ _).symm.trans H; rw [hy792]; with_reducible exact H2_) | (have H2_ := (Option.bind_some _ _).symm.trans H; with_reducible exact H2_) | with_reducible exact H | (rw [hy792]; exact H) | exact H
       have Ny792 := Aside0.mk hy792
       clear hy792
       obtain rfl := Option.some.inj H
       go_enter Try.func86, Try.ntmps86
       go_wp2_with (first | ((with_reducible refine gate_dst (N := 3) rfl ?_); refine zb (w := w) 3 #[.slice A0_0 l0_0.length c0_0, .slice A0_1 l0_1.length c0_1] 30 zB ?_; clear HB; intro gb784 w9 HB BK784 GW784; have GE784 := GW784; have hcz10_0 := zy BK784 0; have hcz10_1 := zy BK784 1; have hfz10_0 := blk_frozen BK784.out 0; have hfz10_1 := blk_frozen BK784.out 1) | (go_at_call 78; (with_reducible refine (spec_l2Lists.calls k _ _ l0_0 _ _ l0_1 t785 _ ?side1 ?side2 ?side3 ?side4 A4.out).mono ?_); (case side1 => exact zC (Kd.C_below HR0_0.out HB.out)); (case side2 => exact HC0_0.out); (case side3 => exact zC (Kd.C_below HR0_1.out HB.out)); (case side4 => exact HC0_1.out); rintro e w11 ⟨v786, rfl, ho0, hb⟩; have HO787 := zM (Kd.S_lower ho0 (below_size zB)); replace BK784 := zM (blk_below (g := gb784) (o := .cells #[.slice A0_0 l0_0.length c0_0, .slice A0_1 l0_1.length c0_1] 30 (0, 0)) (zK BK784.out) hb); replace HB := zM (below_step zB hb); (try clear hb); (try clear hb2); (try clear hk); (try clear hi); (try clear ho0); obtain ⟨Ao12, co12, eo12⟩ := Kd.S_slice HO787.out; subst eo12) | (go_at_call 88; (with_reducible refine (spec_l2Spread.calls k _ _ t785 a2 t788 _ ?side1 ?side2 A5.out).mono ?_); (case side1 => exact zC (Kd.S_reads' HO787.out).2.2); (case side2 => exact (Kd.S_reads' HO787.out).2.1); rintro e w13 ⟨v789, rfl, ho0, hb⟩; replace HO787 := zM (Kd.S_elder' (by (with_reducible repeat (first | apply Kd.S_alloc | apply Kd.S_drewN | apply Kd.S_drew)); exact HO787.out) (Kd.R_base ho0) hb); have HO790 := zM (Kd.R_lower ho0 (below_size zB)); replace BK784 := zM (blk_below (g := gb784) (o := .cells #[.slice A0_0 l0_0.length c0_0, .slice A0_1 l0_1.length c0_1] 30 (0, 0)) (zK BK784.out) hb); replace HB := zM (below_step zB hb); (try clear hb); (try clear hb2); (try clear hk); (try clear hi); (try clear ho0); obtain ⟨Ao14, co14, eo14⟩ := Kd.R_slice HO790.out; subst eo14; have p791 : 0 ≤ (a1 : Int) := of_decide_eq_true zA; have q791 : a1 < (t788.length : Int) := of_decide_eq_true zA; obtain ⟨ad791, e791, hx791_0⟩ := Kd.at_int (Kd.R_reads' HO790.out).2.2 a1 p791 q791; cases e791; replace p791 := eq_true p791; replace q791 := eq_true q791) | ((with_reducible refine gate_dst (N := 21) rfl ?_); refine Kd.R_lit (Kd.int .i64) _ 3 ?hg (N := 21) ?hd (xs := ([] : List Int)) (inner := []) (ok := fun _ => True) (okp := fun _ => True) ?hr ?hp (fun _ hk => hk) trivial (Below.refl _ _) (Nat.le_refl _) (by simp) ?_; (case hd => rfl); (case hg => rfl); (case hr => first | (go_simp; done) | (go_simp; rfl)); (case hp => exact (Reps.none _ _)); intro v793 w15 ho16 hb hg_ hnew_; clear hg_ hnew_; (first | rw [← Ny792.out] at ho16 | (simp only [Int.reduceToNat] at ho16; rw [← Ny792.out] at ho16)); replace HO787 := zM (Kd.S_elder' (by (with_reducible repeat (first | apply Kd.S_alloc | apply Kd.S_drewN | apply Kd.S_drew)); exact HO787.out) (Kd.R_base ho16) hb); have HO794 := zM (Kd.R_lower (Kd.R_new' ho16 (Kd.R_lt (zR HO790.out))) (below_size zB)); replace HO790 := zM (Kd.R_elder' (zR HO790.out) (Kd.R_base ho16) hb); replace BK784 := zM (blk_below (g := gb784) (o := .cells #[.slice A0_0 l0_0.length c0_0, .slice A0_1 l0_1.length c0_1] 30 (0, 0)) (zK BK784.out) hb); replace HB := zM (below_step zB hb); clear hb ho16))
       repeat (go_quiet (first | ((with_reducible refine gate_dst (N := 3) rfl ?_); refine zb (w := w) 3 #[.slice A0_0 l0_0.length c0_0, .slice A0_1 l0_1.length c0_1] 30 zB ?_; clear HB; intro gb784 w9 HB BK784 GW784; have GE784 := GW784; have hcz10_0 := zy BK784 0; have hcz10_1 := zy BK784 1; have hfz10_0 := blk_frozen BK784.out 0; have hfz10_1 := blk_frozen BK784.out 1) | (go_at_call 78; (with_reducible refine (spec_l2Lists.calls k _ _ l0_0 _ _ l0_1 t785 _ ?side1 ?side2 ?side3 ?side4 A4.out).mono ?_); (case side1 => exact zC (Kd.C_below HR0_0.out HB.out)); (case side2 => exact HC0_0.out); (case side3 => exact zC (Kd.C_below HR0_1.out HB.out)); (case side4 => exact HC0_1.out); rintro e w11 ⟨v786, rfl, ho0, hb⟩; have HO787 := zM (Kd.S_lower ho0 (below_size zB)); replace BK784 := zM (blk_below (g := gb784) (o := .cells #[.slice A0_0 l0_0.length c0_0, .slice A0_1 l0_1.length c0_1] 30 (0, 0)) (zK BK784.out) hb); replace HB := zM (below_step zB hb); (try clear hb); (try clear hb2); (try clear hk); (try clear hi); (try clear ho0); obtain ⟨Ao12, co12, eo12⟩ := Kd.S_slice HO787.out; subst eo12) | (go_at_call 88; (with_reducible refine (spec_l2Spread.calls k _ _ t785 a2 t788 _ ?side1 ?side2 A5.out).mono ?_); (case side1 => exact zC (Kd.S_reads' HO787.out).2.2); (case side2 => exact (Kd.S_reads' HO787.out).2.1); rintro e w13 ⟨v789, rfl, ho0, hb⟩; replace HO787 := zM (Kd.S_elder' (by (with_reducible repeat (first | apply Kd.S_alloc | apply Kd.S_drewN | apply Kd.S_drew)); exact HO787.out) (Kd.R_base ho0) hb); have HO790 := zM (Kd.R_lower ho0 (below_size zB)); replace BK784 := zM (blk_below (g := gb784) (o := .cells #[.slice A0_0 l0_0.length c0_0, .slice A0_1 l0_1.length c0_1] 30 (0, 0)) (zK BK784.out) hb); replace HB := zM (below_step zB hb); (try clear hb); (try clear hb2); (try clear hk); (try clear hi); (try clear ho0); obtain ⟨Ao14, co14, eo14⟩ := Kd.R_slice HO790.out; subst eo14; have p791 : 0 ≤ (a1 : Int) := of_decide_eq_true zA; have q791 : a1 < (t788.length : Int) := of_decide_eq_true zA; obtain ⟨ad791, e791, hx791_0⟩ := Kd.at_int (Kd.R_reads' HO790.out).2.2 a1 p791 q791; cases e791; replace p791 := eq_true p791; replace q791 := eq_true q791) | ((with_reducible refine gate_dst (N := 21) rfl ?_); refine Kd.R_lit (Kd.int .i64) _ 3 ?hg (N := 21) ?hd (xs := ([] : List Int)) (inner := []) (ok := fun _ => True) (okp := fun _ => True) ?hr ?hp (fun _ hk => hk) trivial (Below.refl _ _) (Nat.le_refl _) (by simp) ?_; (case hd => rfl); (case hg => rfl); (case hr => first | (go_simp; done) | (go_simp; rfl)); (case hp => exact (Reps.none _ _)); intro v793 w15 ho16 hb hg_ hnew_; clear hg_ hnew_; (first | rw [← Ny792.out] at ho16 | (simp only [Int.reduceToNat] at ho16; rw [← Ny792.out] at ho16)); replace HO787 := zM (Kd.S_elder' (by (with_reducible repeat (first | apply Kd.S_alloc | apply Kd.S_drewN | apply Kd.S_drew)); exact HO787.out) (Kd.R_base ho16) hb); have HO794 := zM (Kd.R_lower (Kd.R_new' ho16 (Kd.R_lt (zR HO790.out))) (below_size zB)); replace HO790 := zM (Kd.R_elder' (zR HO790.out) (Kd.R_base ho16) hb); replace BK784 := zM (blk_below (g := gb784) (o := .cells #[.slice A0_0 l0_0.length c0_0, .slice A0_1 l0_1.length c0_1] 30 (0, 0)) (zK BK784.out) hb); replace HB := zM (below_step zB hb); clear hb ho16)); try go_wp2_with (first | ((with_reducible refine gate_dst (N := 3) rfl ?_); refine zb (w := w) 3 #[.slice A0_0 l0_0.length c0_0, .slice A0_1 l0_1.length c0_1] 30 zB ?_; clear HB; intro gb784 w9 HB BK784 GW784; have GE784 := GW784; have hcz10_0 := zy BK784 0; have hcz10_1 := zy BK784 1; have hfz10_0 := blk_frozen BK784.out 0; have hfz10_1 := blk_frozen BK784.out 1) | (go_at_call 78; (with_reducible refine (spec_l2Lists.calls k _ _ l0_0 _ _ l0_1 t785 _ ?side1 ?side2 ?side3 ?side4 A4.out).mono ?_); (case side1 => exact zC (Kd.C_below HR0_0.out HB.out)); (case side2 => exact HC0_0.out); (case side3 => exact zC (Kd.C_below HR0_1.out HB.out)); (case side4 => exact HC0_1.out); rintro e w11 ⟨v786, rfl, ho0, hb⟩; have HO787 := zM (Kd.S_lower ho0 (below_size zB)); replace BK784 := zM (blk_below (g := gb784) (o := .cells #[.slice A0_0 l0_0.length c0_0, .slice A0_1 l0_1.length c0_1] 30 (0, 0)) (zK BK784.out) hb); replace HB := zM (below_step zB hb); (try clear hb); (try clear hb2); (try clear hk); (try clear hi); (try clear ho0); obtain ⟨Ao12, co12, eo12⟩ := Kd.S_slice HO787.out; subst eo12) | (go_at_call 88; (with_reducible refine (spec_l2Spread.calls k _ _ t785 a2 t788 _ ?side1 ?side2 A5.out).mono ?_); (case side1 => exact zC (Kd.S_reads' HO787.out).2.2); (case side2 => exact (Kd.S_reads' HO787.out).2.1); rintro e w13 ⟨v789, rfl, ho0, hb⟩; replace HO787 := zM (Kd.S_elder' (by (with_reducible repeat (first | apply Kd.S_alloc | apply Kd.S_drewN | apply Kd.S_drew)); exact HO787.out) (Kd.R_base ho0) hb); have HO790 := zM (Kd.R_lower ho0 (below_size zB)); replace BK784 := zM (blk_below (g := gb784) (o := .cells #[.slice A0_0 l0_0.length c0_0, .slice A0_1 l0_1.length c0_1] 30 (0, 0)) (zK BK784.out) hb); replace HB := zM (below_step zB hb); (try clear hb); (try clear hb2); (try clear hk); (try clear hi); (try clear ho0); obtain ⟨Ao14, co14, eo14⟩ := Kd.R_slice HO790.out; subst eo14; have p791 : 0 ≤ (a1 : Int) := of_decide_eq_true zA; have q791 : a1 < (t788.length : Int) := of_decide_eq_true zA; obtain ⟨ad791, e791, hx791_0⟩ := Kd.at_int (Kd.R_reads' HO790.out).2.2 a1 p791 q791; cases e791; replace p791 := eq_true p791; replace q791 := eq_true q791) | ((with_reducible refine gate_dst (N := 21) rfl ?_); refine Kd.R_lit (Kd.int .i64) _ 3 ?hg (N := 21) ?hd (xs := ([] : List Int)) (inner := []) (ok := fun _ => True) (okp := fun _ => True) ?hr ?hp (fun _ hk => hk) trivial (Below.refl _ _) (Nat.le_refl _) (by simp) ?_; (case hd => rfl); (case hg => rfl); (case hr => first | (go_simp; done) | (go_simp; rfl)); (case hp => exact (Reps.none _ _)); intro v793 w15 ho16 hb hg_ hnew_; clear hg_ hnew_; (first | rw [← Ny792.out] at ho16 | (simp only [Int.reduceToNat] at ho16; rw [← Ny792.out] at ho16)); replace HO787 := zM (Kd.S_elder' (by (with_reducible repeat (first | apply Kd.S_alloc | apply Kd.S_drewN | apply Kd.S_drew)); exact HO787.out) (Kd.R_base ho16) hb); have HO794 := zM (Kd.R_lower (Kd.R_new' ho16 (Kd.R_lt (zR HO790.out))) (below_size zB)); replace HO790 := zM (Kd.R_elder' (zR HO790.out) (Kd.R_base ho16) hb); replace BK784 := zM (blk_below (g := gb784) (o := .cells #[.slice A0_0 l0_0.length c0_0, .slice A0_1 l0_1.length c0_1] 30 (0, 0)) (zK BK784.out) hb); replace HB := zM (below_step zB hb); clear hb ho16)))
       go_ret
       exact ⟨_, by first | rfl | (simp [errW_none, errW_some] <;> rfl) | (simp [*, errW_none, errW_some] <;> rfl), by (with_reducible repeat (first | apply Kd.R_alloc | apply Kd.R_drewN | apply Kd.R_drew)); exact Kd.R_mono HO794.out (fun _ hk => trivial), zB⟩
     · rw [if_neg c8] at H
       have c8b0 : decide ((rd t788 a1) < 0) = false := decide_eq_false c8
       clear c8
       obtain ⟨y795, hy795⟩ : ∃ y_ : List Int, y_ = (([a1] : List Int)) := ⟨_, rfl⟩
       replace H : (spec_l2Walk.l0 k a1 a2 t785 t788 y795) = some r := by first | (rw [hy795]; with_reducible exact H) | (have H2_ := (Option.bind_some _ _).symm.trans H; rw [hy795]; with_reducible exact H2_) | (have H2_ := (Option.bind_some _ _).symm.trans H; with_reducible exact H2_) | with_reducible exact H | (rw [hy795]; exact H) | exact H
       have Ny795 := Aside0.mk hy795
       clear hy795
       have H' := Aside0.mk H
       clear H
       go_enter Try.func86, Try.ntmps86
       go_wp2_with (first | ((with_reducible refine gate_dst (N := 3) rfl ?_); refine zb (w := w) 3 #[.slice A0_0 l0_0.length c0_0, .slice A0_1 l0_1.length c0_1] 30 zB ?_; clear HB; intro gb784 w17 HB BK784 GW784; have GE784 := GW784; have hcz18_0 := zy BK784 0; have hcz18_1 := zy BK784 1; have hfz18_0 := blk_frozen BK784.out 0; have hfz18_1 := blk_frozen BK784.out 1) | (go_at_call 78; (with_reducible refine (spec_l2Lists.calls k _ _ l0_0 _ _ l0_1 t785 _ ?side1 ?side2 ?side3 ?side4 A4.out).mono ?_); (case side1 => exact zC (Kd.C_below HR0_0.out HB.out)); (case side2 => exact HC0_0.out); (case side3 => exact zC (Kd.C_below HR0_1.out HB.out)); (case side4 => exact HC0_1.out); rintro e w19 ⟨v786, rfl, ho0, hb⟩; have HO787 := zM (Kd.S_lower ho0 (below_size zB)); replace BK784 := zM (blk_below (g := gb784) (o := .cells #[.slice A0_0 l0_0.length c0_0, .slice A0_1 l0_1.length c0_1] 30 (0, 0)) (zK BK784.out) hb); replace HB := zM (below_step zB hb); (try clear hb); (try clear hb2); (try clear hk); (try clear hi); (try clear ho0); obtain ⟨Ao20, co20, eo20⟩ := Kd.S_slice HO787.out; subst eo20) | (go_at_call 88; (with_reducible refine (spec_l2Spread.calls k _ _ t785 a2 t788 _ ?side1 ?side2 A5.out).mono ?_); (case side1 => exact zC (Kd.S_reads' HO787.out).2.2); (case side2 => exact (Kd.S_reads' HO787.out).2.1); rintro e w21 ⟨v789, rfl, ho0, hb⟩; replace HO787 := zM (Kd.S_elder' (by (with_reducible repeat (first | apply Kd.S_alloc | apply Kd.S_drewN | apply Kd.S_drew)); exact HO787.out) (Kd.R_base ho0) hb); have HO790 := zM (Kd.R_lower ho0 (below_size zB)); replace BK784 := zM (blk_below (g := gb784) (o := .cells #[.slice A0_0 l0_0.length c0_0, .slice A0_1 l0_1.length c0_1] 30 (0, 0)) (zK BK784.out) hb); replace HB := zM (below_step zB hb); (try clear hb); (try clear hb2); (try clear hk); (try clear hi); (try clear ho0); obtain ⟨Ao22, co22, eo22⟩ := Kd.R_slice HO790.out; subst eo22; have p791 : 0 ≤ (a1 : Int) := of_decide_eq_true zA; have q791 : a1 < (t788.length : Int) := of_decide_eq_true zA; obtain ⟨ad791, e791, hx791_0⟩ := Kd.at_int (Kd.R_reads' HO790.out).2.2 a1 p791 q791; cases e791; replace p791 := eq_true p791; replace q791 := eq_true q791) | ((with_reducible refine gate_dst (N := 23) rfl ?_); refine Kd.R_lit (Kd.int .i64) _ 3 ?hg (N := 23) ?hd (xs := ([a1] : List Int)) (inner := [.int .i64 a1]) (ok := fun _ => True) (okp := fun _ => True) ?hr ?hp (fun _ hk => hk) trivial (Below.refl _ _) (Nat.le_refl _) (by simp) ?_; (case hd => rfl); (case hg => rfl); (case hr => first | (go_simp; done) | (go_simp; rfl)); (case hp => exact (Reps.one (show Kd.M (Kd.int .i64) _ _ _ a1 [.int .i64 a1] from rfl) (Reps.none _ _))); intro v796 w23 ho24 hb hg_ hnew_; clear hg_ hnew_; (first | rw [← Ny795.out] at ho24 | (simp only [Int.reduceToNat] at ho24; rw [← Ny795.out] at ho24)); replace HO787 := zM (Kd.S_elder' (by (with_reducible repeat (first | apply Kd.S_alloc | apply Kd.S_drewN | apply Kd.S_drew)); exact HO787.out) (Kd.R_base ho24) hb); have HO797 := zM (Kd.R_lower (Kd.R_new' ho24 (Kd.R_lt (zR HO790.out))) (below_size zB)); replace HO790 := zM (Kd.R_elder' (zR HO790.out) (Kd.R_base ho24) hb); replace BK784 := zM (blk_below (g := gb784) (o := .cells #[.slice A0_0 l0_0.length c0_0, .slice A0_1 l0_1.length c0_1] 30 (0, 0)) (zK BK784.out) hb); replace HB := zM (below_step zB hb); clear hb ho24))
       repeat (go_quiet (first | ((with_reducible refine gate_dst (N := 3) rfl ?_); refine zb (w := w) 3 #[.slice A0_0 l0_0.length c0_0, .slice A0_1 l0_1.length c0_1] 30 zB ?_; clear HB; intro gb784 w17 HB BK784 GW784; have GE784 := GW784; have hcz18_0 := zy BK784 0; have hcz18_1 := zy BK784 1; have hfz18_0 := blk_frozen BK784.out 0; have hfz18_1 := blk_frozen BK784.out 1) | (go_at_call 78; (with_reducible refine (spec_l2Lists.calls k _ _ l0_0 _ _ l0_1 t785 _ ?side1 ?side2 ?side3 ?side4 A4.out).mono ?_); (case side1 => exact zC (Kd.C_below HR0_0.out HB.out)); (case side2 => exact HC0_0.out); (case side3 => exact zC (Kd.C_below HR0_1.out HB.out)); (case side4 => exact HC0_1.out); rintro e w19 ⟨v786, rfl, ho0, hb⟩; have HO787 := zM (Kd.S_lower ho0 (below_size zB)); replace BK784 := zM (blk_below (g := gb784) (o := .cells #[.slice A0_0 l0_0.length c0_0, .slice A0_1 l0_1.length c0_1] 30 (0, 0)) (zK BK784.out) hb); replace HB := zM (below_step zB hb); (try clear hb); (try clear hb2); (try clear hk); (try clear hi); (try clear ho0); obtain ⟨Ao20, co20, eo20⟩ := Kd.S_slice HO787.out; subst eo20) | (go_at_call 88; (with_reducible refine (spec_l2Spread.calls k _ _ t785 a2 t788 _ ?side1 ?side2 A5.out).mono ?_); (case side1 => exact zC (Kd.S_reads' HO787.out).2.2); (case side2 => exact (Kd.S_reads' HO787.out).2.1); rintro e w21 ⟨v789, rfl, ho0, hb⟩; replace HO787 := zM (Kd.S_elder' (by (with_reducible repeat (first | apply Kd.S_alloc | apply Kd.S_drewN | apply Kd.S_drew)); exact HO787.out) (Kd.R_base ho0) hb); have HO790 := zM (Kd.R_lower ho0 (below_size zB)); replace BK784 := zM (blk_below (g := gb784) (o := .cells #[.slice A0_0 l0_0.length c0_0, .slice A0_1 l0_1.length c0_1] 30 (0, 0)) (zK BK784.out) hb); replace HB := zM (below_step zB hb); (try clear hb); (try clear hb2); (try clear hk); (try clear hi); (try clear ho0); obtain ⟨Ao22, co22, eo22⟩ := Kd.R_slice HO790.out; subst eo22; have p791 : 0 ≤ (a1 : Int) := of_decide_eq_true zA; have q791 : a1 < (t788.length : Int) := of_decide_eq_true zA; obtain ⟨ad791, e791, hx791_0⟩ := Kd.at_int (Kd.R_reads' HO790.out).2.2 a1 p791 q791; cases e791; replace p791 := eq_true p791; replace q791 := eq_true q791) | ((with_reducible refine gate_dst (N := 23) rfl ?_); refine Kd.R_lit (Kd.int .i64) _ 3 ?hg (N := 23) ?hd (xs := ([a1] : List Int)) (inner := [.int .i64 a1]) (ok := fun _ => True) (okp := fun _ => True) ?hr ?hp (fun _ hk => hk) trivial (Below.refl _ _) (Nat.le_refl _) (by simp) ?_; (case hd => rfl); (case hg => rfl); (case hr => first | (go_simp; done) | (go_simp; rfl)); (case hp => exact (Reps.one (show Kd.M (Kd.int .i64) _ _ _ a1 [.int .i64 a1] from rfl) (Reps.none _ _))); intro v796 w23 ho24 hb hg_ hnew_; clear hg_ hnew_; (first | rw [← Ny795.out] at ho24 | (simp only [Int.reduceToNat] at ho24; rw [← Ny795.out] at ho24)); replace HO787 := zM (Kd.S_elder' (by (with_reducible repeat (first | apply Kd.S_alloc | apply Kd.S_drewN | apply Kd.S_drew)); exact HO787.out) (Kd.R_base ho24) hb); have HO797 := zM (Kd.R_lower (Kd.R_new' ho24 (Kd.R_lt (zR HO790.out))) (below_size zB)); replace HO790 := zM (Kd.R_elder' (zR HO790.out) (Kd.R_base ho24) hb); replace BK784 := zM (blk_below (g := gb784) (o := .cells #[.slice A0_0 l0_0.length c0_0, .slice A0_1 l0_1.length c0_1] 30 (0, 0)) (zK BK784.out) hb); replace HB := zM (below_step zB hb); clear hb ho24)); try go_wp2_with (first | ((with_reducible refine gate_dst (N := 3) rfl ?_); refine zb (w := w) 3 #[.slice A0_0 l0_0.length c0_0, .slice A0_1 l0_1.length c0_1] 30 zB ?_; clear HB; intro gb784 w17 HB BK784 GW784; have GE784 := GW784; have hcz18_0 := zy BK784 0; have hcz18_1 := zy BK784 1; have hfz18_0 := blk_frozen BK784.out 0; have hfz18_1 := blk_frozen BK784.out 1) | (go_at_call 78; (with_reducible refine (spec_l2Lists.calls k _ _ l0_0 _ _ l0_1 t785 _ ?side1 ?side2 ?side3 ?side4 A4.out).mono ?_); (case side1 => exact zC (Kd.C_below HR0_0.out HB.out)); (case side2 => exact HC0_0.out); (case side3 => exact zC (Kd.C_below HR0_1.out HB.out)); (case side4 => exact HC0_1.out); rintro e w19 ⟨v786, rfl, ho0, hb⟩; have HO787 := zM (Kd.S_lower ho0 (below_size zB)); replace BK784 := zM (blk_below (g := gb784) (o := .cells #[.slice A0_0 l0_0.length c0_0, .slice A0_1 l0_1.length c0_1] 30 (0, 0)) (zK BK784.out) hb); replace HB := zM (below_step zB hb); (try clear hb); (try clear hb2); (try clear hk); (try clear hi); (try clear ho0); obtain ⟨Ao20, co20, eo20⟩ := Kd.S_slice HO787.out; subst eo20) | (go_at_call 88; (with_reducible refine (spec_l2Spread.calls k _ _ t785 a2 t788 _ ?side1 ?side2 A5.out).mono ?_); (case side1 => exact zC (Kd.S_reads' HO787.out).2.2); (case side2 => exact (Kd.S_reads' HO787.out).2.1); rintro e w21 ⟨v789, rfl, ho0, hb⟩; replace HO787 := zM (Kd.S_elder' (by (with_reducible repeat (first | apply Kd.S_alloc | apply Kd.S_drewN | apply Kd.S_drew)); exact HO787.out) (Kd.R_base ho0) hb); have HO790 := zM (Kd.R_lower ho0 (below_size zB)); replace BK784 := zM (blk_below (g := gb784) (o := .cells #[.slice A0_0 l0_0.length c0_0, .slice A0_1 l0_1.length c0_1] 30 (0, 0)) (zK BK784.out) hb); replace HB := zM (below_step zB hb); (try clear hb); (try clear hb2); (try clear hk); (try clear hi); (try clear ho0); obtain ⟨Ao22, co22, eo22⟩ := Kd.R_slice HO790.out; subst eo22; have p791 : 0 ≤ (a1 : Int) := of_decide_eq_true zA; have q791 : a1 < (t788.length : Int) := of_decide_eq_true zA; obtain ⟨ad791, e791, hx791_0⟩ := Kd.at_int (Kd.R_reads' HO790.out).2.2 a1 p791 q791; cases e791; replace p791 := eq_true p791; replace q791 := eq_true q791) | ((with_reducible refine gate_dst (N := 23) rfl ?_); refine Kd.R_lit (Kd.int .i64) _ 3 ?hg (N := 23) ?hd (xs := ([a1] : List Int)) (inner := [.int .i64 a1]) (ok := fun _ => True) (okp := fun _ => True) ?hr ?hp (fun _ hk => hk) trivial (Below.refl _ _) (Nat.le_refl _) (by simp) ?_; (case hd => rfl); (case hg => rfl); (case hr => first | (go_simp; done) | (go_simp; rfl)); (case hp => exact (Reps.one (show Kd.M (Kd.int .i64) _ _ _ a1 [.int .i64 a1] from rfl) (Reps.none _ _))); intro v796 w23 ho24 hb hg_ hnew_; clear hg_ hnew_; (first | rw [← Ny795.out] at ho24 | (simp only [Int.reduceToNat] at ho24; rw [← Ny795.out] at ho24)); replace HO787 := zM (Kd.S_elder' (by (with_reducible repeat (first | apply Kd.S_alloc | apply Kd.S_drewN | apply Kd.S_drew)); exact HO787.out) (Kd.R_base ho24) hb); have HO797 := zM (Kd.R_lower (Kd.R_new' ho24 (Kd.R_lt (zR HO790.out))) (below_size zB)); replace HO790 := zM (Kd.R_elder' (zR HO790.out) (Kd.R_base ho24) hb); replace BK784 := zM (blk_below (g := gb784) (o := .cells #[.slice A0_0 l0_0.length c0_0, .slice A0_1 l0_1.length c0_1] 30 (0, 0)) (zK BK784.out) hb); replace HB := zM (below_step zB hb); clear hb ho24)))
       go_loopg [1, 9] k (fun kq v1 v9 w' => ∃ (x1_1 : Int) (x9_1 : List Int), v1 = .int .i64 x1_1 ∧ Aside0 (spec_l2Walk.l0 kq x1_1 a2 t785 t788 x9_1 = some r) ∧ Aside0 (kq ≤ k) ∧ Aside0 (Kd.S (Kd.slice 3 (Kd.int .i64)) 27 w' w.heap.size (fun k_ => some k_ ≠ ((.slice (some ad791) t788.length co22) : Value).ownBlock ∧ some k_ ≠ (v9 : Value).ownBlock) (.slice Ao20 t785.length co20) t785) ∧ Aside0 (Kd.R (Kd.int .i64) 3 w' w.heap.size (fun k_ => some k_ ≠ (v9 : Value).ownBlock) (.slice (some ad791) t788.length co22) t788) ∧ Aside0 (Kd.R (Kd.int .i64) 3 w' w.heap.size (fun k_ => some k_ ≠ ((.slice (some ad791) t788.length co22) : Value).ownBlock) v9 x9_1) ∧ Aside0 (w'.heap[gb784]? = some (.cells #[(.slice A0_0 l0_0.length c0_0), (.slice A0_1 l0_1.length c0_1)] 30 (0, 0))) ∧ Aside0 (Below w.heap.size w w'))
       case atStart => exact ⟨(a1), (y795), (by first | rfl | (simp; done) | (simp [*]; done)), H', ⟨Nat.le_refl _⟩, ⟨by (with_reducible repeat (first | apply Kd.S_alloc | apply Kd.S_drewN | apply Kd.S_drew)); exact Kd.S_mono HO787.out (fun _ hk => ⟨hk.1.2, hk.2⟩)⟩, ⟨by (with_reducible repeat (first | apply Kd.R_alloc | apply Kd.R_drewN | apply Kd.R_drew)); exact Kd.R_mono HO790.out (fun _ hk => hk.2)⟩, ⟨by (with_reducible repeat (first | apply Kd.R_alloc | apply Kd.R_drewN | apply Kd.R_drew)); exact Kd.R_mono HO797.out (fun _ hk => hk.2)⟩, ⟨zK BK784.out⟩, ⟨zB⟩⟩
       case round =>
        clear H'
        try clear p2
        try clear c6
        try clear c6b0
        try clear c7
        try clear c7b0
        try clear p7
        try clear q7
        try clear hx7
        try clear c8
        try clear c8b0
        try clear hcz10_0
        try clear hcz10_1
        try clear hcz18_0
        try clear hcz18_1
        try clear hfz10_0
        try clear hfz10_1
        try clear hfz18_0
        try clear hfz18_1
        try clear hx791_0
        try clear p791
        try clear q791
        obtain ⟨x1_1, x9_1, rfl, HA, HK1, HO_7, HO_8, HO_9, BK784, HB⟩ := hrel
        cases gk with
        | zero => exact absurd HA.out (by simp [spec_l2Walk.l0])
        | succ k1 =>
         have H := HA.out
         clear HA
         simp only [spec_l2Walk.l0] at H
         by_cases c25 : x1_1 = a2
         · rw [if_pos c25] at H
           have c25b0 : (x1_1 == a2) = true := beq_iff_eq.mpr c25
           have c25b1 : (x1_1 != a2) = false := bne_eq_false_iff_eq.mpr c25
           clear c25
           obtain rfl := Option.some.inj H
           go_wp2
           repeat (go_quiet (fail); try go_wp2)
           go_ret
           exact ⟨_, by first | rfl | (simp [errW_none, errW_some] <;> rfl) | (simp [*, errW_none, errW_some] <;> rfl), by (with_reducible repeat (first | apply Kd.R_alloc | apply Kd.R_drewN | apply Kd.R_drew)); exact Kd.R_mono HO_9.out (fun _ hk => trivial), zB⟩
         · rw [if_neg c25] at H
           have c25b0 : (x1_1 == a2) = false := beq_eq_false_iff_ne.mpr c25
           have c25b1 : (x1_1 != a2) = true := bne_iff_ne.mpr c25
           have H' := Aside0.mk H
           clear H
           go_wp2
           repeat (go_quiet (fail); try go_wp2)
           go_loopg [10] k1 (fun kq v10 w' => ∃ (x10_2 : Int), v10 = .int .i64 x10_2 ∧ Aside0 (spec_l2Walk.l1 kq x1_1 a2 t785 t788 x9_1 x10_2 = some r) ∧ Aside0 (kq ≤ k1) ∧ Aside0 (Kd.S (Kd.slice 3 (Kd.int .i64)) 27 w' w.heap.size (fun k_ => some k_ ≠ ((.slice (some ad791) t788.length co22) : Value).ownBlock ∧ some k_ ≠ (u9 : Value).ownBlock) (.slice Ao20 t785.length co20) t785) ∧ Aside0 (Kd.R (Kd.int .i64) 3 w' w.heap.size (fun k_ => some k_ ≠ (u9 : Value).ownBlock) (.slice (some ad791) t788.length co22) t788) ∧ Aside0 (Kd.R (Kd.int .i64) 3 w' w.heap.size (fun k_ => some k_ ≠ ((.slice (some ad791) t788.length co22) : Value).ownBlock) u9 x9_1) ∧ Aside0 (w'.heap[gb784]? = some (.cells #[(.slice A0_0 l0_0.length c0_0), (.slice A0_1 l0_1.length c0_1)] 30 (0, 0))) ∧ Aside0 (Below w.heap.size w w'))
           case atStart => exact ⟨(0), (by first | rfl | (simp; done) | (simp [*]; done)), H', ⟨Nat.le_refl _⟩, ⟨by (with_reducible repeat (first | apply Kd.S_alloc | apply Kd.S_drewN | apply Kd.S_drew)); exact HO_7.out⟩, ⟨zR HO_8.out⟩, ⟨zR HO_9.out⟩, ⟨zK BK784.out⟩, ⟨zB⟩⟩
           case round =>
            clear H'
            try clear c2
            try clear p2
            try clear c6
            try clear c6b0
            try clear c7
            try clear c7b0
            try clear p7
            try clear q7
            try clear hx7
            try clear c8
            try clear c8b0
            try clear c25
            try clear c25b0
            try clear c25b1
            try clear hcz10_0
            try clear hcz10_1
            try clear hcz18_0
            try clear hcz18_1
            try clear hfz10_0
            try clear hfz10_1
            try clear hfz18_0
            try clear hfz18_1
            try clear hx791_0
            try clear p2
            try clear p7
            try clear p791
            try clear q7
            try clear q791
            obtain ⟨x10_2, rfl, HA, HK2, HO_7, HO_8, HO_9, BK784, HB⟩ := hrel
            cases gk with
            | zero => exact absurd HA.out (by simp [spec_l2Walk.l1])
            | succ k2 =>
             have H := HA.out
             clear HA
             simp only [spec_l2Walk.l1] at H
             by_cases c26 : 0 ≤ x1_1
             · rw [if_pos c26] at H
               have c26b0 := decide_eq_true c26
               clear c26
               by_cases c27 : x1_1 < (t785.length : Int)
               · rw [if_pos c27] at H
                 have c27b0 := decide_eq_true c27
                 clear c27
                 by_cases c28 : 0 ≤ x10_2
                 · rw [if_pos c28] at H
                   have c28b0 := decide_eq_true c28
                   clear c28
                   by_cases c29 : x10_2 < ((rd_L1 t785 x1_1).length : Int)
                   · rw [if_pos c29] at H
                     have c29b0 := decide_eq_true c29
                     clear c29
                     by_cases c30 : 0 ≤ (rd (rd_L1 t785 x1_1) x10_2)
                     · rw [if_pos c30] at H
                       have c30b0 := decide_eq_true c30
                       clear c30
                       by_cases c31 : (rd (rd_L1 t785 x1_1) x10_2) < (t788.length : Int)
                       · rw [if_pos c31] at H
                         have c31b0 := decide_eq_true c31
                         clear c31
                         by_cases c32 : x1_1 < (t788.length : Int)
                         · rw [if_pos c32] at H
                           have c32b0 := decide_eq_true c32
                           clear c32
                           by_cases c33 : (rd t788 (rd (rd_L1 t785 x1_1) x10_2)) = (wrap64 ((rd t788 x1_1) - 1))
                           · rw [if_pos c33] at H
                             have c33b0 : ((rd t788 (rd (rd_L1 t785 x1_1) x10_2)) == (wrap64 ((rd t788 x1_1) - 1))) = true := beq_iff_eq.mpr c33
                             have c33b1 : ((rd t788 (rd (rd_L1 t785 x1_1) x10_2)) != (wrap64 ((rd t788 x1_1) - 1))) = false := bne_eq_false_iff_eq.mpr c33
                             clear c33
                             by_cases c34 : x9_1.length < 17592186044416
                             · rw [if_pos c34] at H
                               have LMc34 := Aside0.mk c34
                               clear c34
                               obtain ⟨y804, hy804⟩ : ∃ y_ : List Int, y_ = (x9_1 ++ [rd (rd_L1 t785 x1_1) x10_2]) := ⟨_, rfl⟩
                               replace H : (spec_l2Walk.l0 k2 (rd (rd_L1 t785 x1_1) x10_2) a2 t785 t788 y804) = some r := by first | (rw [hy804]; with_reducible exact H) | (have H2_ := (Option.bind_some _ _).symm.trans H; rw [hy804]; with_reducible exact H2_) | (have H2_ := (Option.bind_some _ _).symm.trans H; with_reducible exact H2_) | with_reducible exact H | (rw [hy804]; exact H) | exact H
                               have Ny804 := Aside0.mk hy804
                               clear hy804
                               have H' := Aside0.mk H
                               clear H
                               have p798 : 0 ≤ (x1_1 : Int) := of_decide_eq_true zA
                               have q798 : x1_1 < (t785.length : Int) := of_decide_eq_true zA
                               obtain ⟨ad798, A798_0, c798_0, e798, hx798_0, hl798_0, hi798_0⟩ := at_L1 (Kd.S_reads' HO_7.out).2.2 x1_1 p798 q798
                               cases e798
                               obtain ⟨ce798, hce798, hMe798, hcc798⟩ := Kd.S_get HO_7.out [] x1_1 p798 (by first | exact q798 | exact of_decide_eq_true zA | (have e_ := (Kd.S_reads' HO_7.out).1; omega))
                               obtain ⟨ve798_0, rfl, ge798_0⟩ := hMe798
                               have hv798_0 := hcc798 0 _ rfl
                               rw [Nat.add_zero, show ((Kd.slice 3 (Kd.int .i64))).sz = 1 from rfl, Nat.mul_one] at hv798_0
                               replace hv798_0 := Option.some.inj (hv798_0.symm.trans hx798_0)
                               rw [hv798_0] at ge798_0
                               have HL798_0 := zM (show Kd.R (Kd.int .i64) 3 _ _ _ _ (rd_L1 t785 x1_1) from ge798_0)
                               clear hv798_0 ge798_0
                               clear hcc798 hce798
                               have HR798_0 := Aside0.mk hi798_0
                               have HC798_0 := Aside0.mk hl798_0
                               clear hi798_0 hl798_0
                               replace p798 := eq_true p798
                               replace q798 := eq_true q798
                               have p799 : 0 ≤ (x10_2 : Int) := of_decide_eq_true zA
                               have q799 : x10_2 < ((rd_L1 t785 x1_1).length : Int) := of_decide_eq_true zA
                               obtain ⟨ad799, e799, hx799_0⟩ := Kd.at_int (by repeat (first | (with_reducible exact HR798_0.out) | (with_reducible refine Kd.C_alloc ?_ _) | (with_reducible refine Kd.C_drewN ?_ _) | (with_reducible refine Kd.C_drew ?_) | exact HR798_0.out)) x10_2 p799 q799
                               cases e799
                               replace p799 := eq_true p799
                               replace q799 := eq_true q799
                               have p800 : 0 ≤ ((rd (rd_L1 t785 x1_1) x10_2) : Int) := of_decide_eq_true zA
                               have q800 : (rd (rd_L1 t785 x1_1) x10_2) < (t788.length : Int) := of_decide_eq_true zA
                               obtain ⟨ad800, e800, hx800_0⟩ := Kd.at_int (Kd.R_reads' HO_8.out).2.2 (rd (rd_L1 t785 x1_1) x10_2) p800 q800
                               obtain rfl : ad791 = ad800 := (by injection e800)
                               replace p800 := eq_true p800
                               replace q800 := eq_true q800
                               have p801 : 0 ≤ (x1_1 : Int) := of_decide_eq_true zA
                               have q801 : x1_1 < (t788.length : Int) := of_decide_eq_true zA
                               obtain ⟨ad801, e801, hx801_0⟩ := Kd.at_int (Kd.R_reads' HO_8.out).2.2 x1_1 p801 q801
                               obtain rfl : ad791 = ad801 := (by injection e801)
                               replace p801 := eq_true p801
                               replace q801 := eq_true q801
                               have p802 : 0 ≤ (x1_1 : Int) := of_decide_eq_true zA
                               have q802 : x1_1 < (t785.length : Int) := of_decide_eq_true zA
                               obtain ⟨ad802, A802_0, c802_0, e802, hx802_0, hl802_0, hi802_0⟩ := at_L1 (Kd.S_reads' HO_7.out).2.2 x1_1 p802 q802
                               obtain rfl : ad798 = ad802 := (by injection e802)
                               obtain ⟨ce802, hce802, hMe802, hcc802⟩ := Kd.S_get HO_7.out [] x1_1 p802 (by first | exact q802 | exact of_decide_eq_true zA | (have e_ := (Kd.S_reads' HO_7.out).1; omega))
                               obtain ⟨ve802_0, rfl, ge802_0⟩ := hMe802
                               have hv802_0 := hcc802 0 _ rfl
                               rw [Nat.add_zero, show ((Kd.slice 3 (Kd.int .i64))).sz = 1 from rfl, Nat.mul_one] at hv802_0
                               replace hv802_0 := Option.some.inj (hv802_0.symm.trans hx802_0)
                               rw [hv802_0] at ge802_0
                               have HL802_0 := zM (show Kd.R (Kd.int .i64) 3 _ _ _ _ (rd_L1 t785 x1_1) from ge802_0)
                               clear hv802_0 ge802_0
                               clear hcc802 hce802
                               have HR802_0 := Aside0.mk hi802_0
                               have HC802_0 := Aside0.mk hl802_0
                               clear hi802_0 hl802_0
                               replace p802 := eq_true p802
                               replace q802 := eq_true q802
                               have ea_ := Option.some.inj (hx798_0.symm.trans hx802_0)
                               injection ea_ with ea_ en_ ec_
                               subst ea_
                               subst ec_
                               clear en_
                               have p803 : 0 ≤ (x10_2 : Int) := of_decide_eq_true zA
                               have q803 : x10_2 < ((rd_L1 t785 x1_1).length : Int) := of_decide_eq_true zA
                               obtain ⟨ad803, e803, hx803_0⟩ := Kd.at_int (by repeat (first | (with_reducible exact HR802_0.out) | (with_reducible refine Kd.C_alloc ?_ _) | (with_reducible refine Kd.C_drewN ?_ _) | (with_reducible refine Kd.C_drew ?_) | exact HR802_0.out)) x10_2 p803 q803
                               cases e803
                               replace p803 := eq_true p803
                               replace q803 := eq_true q803
                               go_wp2_with (first | ((with_reducible refine gate_builtin (b := .append) (xs := #[.tmp 52, .tmp 54]) rfl ?_); at_builtin; refine Kd.R_append (Kd.int .i64) (w0 := w) w.heap.size rfl (.tmp 52) (.tmp 54) 27 3 (.int .i64 0) 8 rfl Try.underlying27 info3 rfl (by decide) (by omega) u9 x9_1 (rd (rd_L1 t785 x1_1) x10_2) [.int .i64 (rd (rd_L1 t785 x1_1) x10_2)] (fun k_ => some k_ ≠ (.slice (some ad791) t788.length co22 : Value).ownBlock) (fun _ => False) rfl rfl ?aP (fun _ hk => hk.elim) ?aF ?aO ?aB ?aS ?aL ?_; (case aP => exact rfl); (case aB => exact zB); (case aF => exact (fun k_ hk => Kd.fresh' (Kd.R_lt (zR HO_8.out)) k_ hk)); (case aO => exact (zR HO_9.out)); (case aS => exact (below_size zB)); (case aL => have := LMc34.out; omega); intro v805 w35 ho hb hg hat; rw [← Ny804.out] at ho; replace HO_7 := zM (Kd.S_after (ok := (fun k_ => some k_ ≠ (.slice (some ad791) t788.length co22 : Value).ownBlock)) (by (with_reducible repeat (first | apply Kd.S_alloc | apply Kd.S_drewN | apply Kd.S_drew)); exact HO_7.out) hg hat); replace HO_8 := zM (Kd.R_after (ok := (fun _ => True)) (by (with_reducible repeat (first | apply Kd.R_alloc | apply Kd.R_drewN | apply Kd.R_drew)); exact Kd.R_mono HO_8.out (fun _ hk => ⟨trivial, hk⟩)) hg hat); replace BK784 := zM (blk_grown (g := gb784) (o := .cells #[.slice A0_0 l0_0.length c0_0, .slice A0_1 l0_1.length c0_1] 30 (0, 0)) (zK BK784.out) hg (Kd.R_ne HO_9.out BK784.out (by decide))); replace HL798_0 := zM (Kd.R_after (ok := (fun k_ => some k_ ≠ (.slice (some ad798) t785.length co20 : Value).ownBlock ∧ some k_ ≠ (.slice (some ad791) t788.length co22 : Value).ownBlock)) (by (with_reducible repeat (first | apply Kd.R_alloc | apply Kd.R_drewN | apply Kd.R_drew)); exact Kd.R_mono HL798_0.out (fun _ hk => ⟨⟨hk.2, hk.1.1⟩, hk.1.2⟩)) hg hat); replace HL802_0 := zM (Kd.R_after (ok := (fun k_ => some k_ ≠ (.slice (some ad798) t785.length co20 : Value).ownBlock ∧ some k_ ≠ (.slice (some ad791) t788.length co22 : Value).ownBlock)) (by (with_reducible repeat (first | apply Kd.R_alloc | apply Kd.R_drewN | apply Kd.R_drew)); exact Kd.R_mono HL802_0.out (fun _ hk => ⟨⟨hk.2, hk.1.1⟩, hk.1.2⟩)) hg hat); replace HB := zM (hb); have HO806 := zM (ho); clear HO_9; clear ho hb hg hat))
                               repeat (go_quiet (first | ((with_reducible refine gate_builtin (b := .append) (xs := #[.tmp 52, .tmp 54]) rfl ?_); at_builtin; refine Kd.R_append (Kd.int .i64) (w0 := w) w.heap.size rfl (.tmp 52) (.tmp 54) 27 3 (.int .i64 0) 8 rfl Try.underlying27 info3 rfl (by decide) (by omega) u9 x9_1 (rd (rd_L1 t785 x1_1) x10_2) [.int .i64 (rd (rd_L1 t785 x1_1) x10_2)] (fun k_ => some k_ ≠ (.slice (some ad791) t788.length co22 : Value).ownBlock) (fun _ => False) rfl rfl ?aP (fun _ hk => hk.elim) ?aF ?aO ?aB ?aS ?aL ?_; (case aP => exact rfl); (case aB => exact zB); (case aF => exact (fun k_ hk => Kd.fresh' (Kd.R_lt (zR HO_8.out)) k_ hk)); (case aO => exact (zR HO_9.out)); (case aS => exact (below_size zB)); (case aL => have := LMc34.out; omega); intro v805 w35 ho hb hg hat; rw [← Ny804.out] at ho; replace HO_7 := zM (Kd.S_after (ok := (fun k_ => some k_ ≠ (.slice (some ad791) t788.length co22 : Value).ownBlock)) (by (with_reducible repeat (first | apply Kd.S_alloc | apply Kd.S_drewN | apply Kd.S_drew)); exact HO_7.out) hg hat); replace HO_8 := zM (Kd.R_after (ok := (fun _ => True)) (by (with_reducible repeat (first | apply Kd.R_alloc | apply Kd.R_drewN | apply Kd.R_drew)); exact Kd.R_mono HO_8.out (fun _ hk => ⟨trivial, hk⟩)) hg hat); replace BK784 := zM (blk_grown (g := gb784) (o := .cells #[.slice A0_0 l0_0.length c0_0, .slice A0_1 l0_1.length c0_1] 30 (0, 0)) (zK BK784.out) hg (Kd.R_ne HO_9.out BK784.out (by decide))); replace HL798_0 := zM (Kd.R_after (ok := (fun k_ => some k_ ≠ (.slice (some ad798) t785.length co20 : Value).ownBlock ∧ some k_ ≠ (.slice (some ad791) t788.length co22 : Value).ownBlock)) (by (with_reducible repeat (first | apply Kd.R_alloc | apply Kd.R_drewN | apply Kd.R_drew)); exact Kd.R_mono HL798_0.out (fun _ hk => ⟨⟨hk.2, hk.1.1⟩, hk.1.2⟩)) hg hat); replace HL802_0 := zM (Kd.R_after (ok := (fun k_ => some k_ ≠ (.slice (some ad798) t785.length co20 : Value).ownBlock ∧ some k_ ≠ (.slice (some ad791) t788.length co22 : Value).ownBlock)) (by (with_reducible repeat (first | apply Kd.R_alloc | apply Kd.R_drewN | apply Kd.R_drew)); exact Kd.R_mono HL802_0.out (fun _ hk => ⟨⟨hk.2, hk.1.1⟩, hk.1.2⟩)) hg hat); replace HB := zM (hb); have HO806 := zM (ho); clear HO_9; clear ho hb hg hat)); try go_wp2_with (first | ((with_reducible refine gate_builtin (b := .append) (xs := #[.tmp 52, .tmp 54]) rfl ?_); at_builtin; refine Kd.R_append (Kd.int .i64) (w0 := w) w.heap.size rfl (.tmp 52) (.tmp 54) 27 3 (.int .i64 0) 8 rfl Try.underlying27 info3 rfl (by decide) (by omega) u9 x9_1 (rd (rd_L1 t785 x1_1) x10_2) [.int .i64 (rd (rd_L1 t785 x1_1) x10_2)] (fun k_ => some k_ ≠ (.slice (some ad791) t788.length co22 : Value).ownBlock) (fun _ => False) rfl rfl ?aP (fun _ hk => hk.elim) ?aF ?aO ?aB ?aS ?aL ?_; (case aP => exact rfl); (case aB => exact zB); (case aF => exact (fun k_ hk => Kd.fresh' (Kd.R_lt (zR HO_8.out)) k_ hk)); (case aO => exact (zR HO_9.out)); (case aS => exact (below_size zB)); (case aL => have := LMc34.out; omega); intro v805 w35 ho hb hg hat; rw [← Ny804.out] at ho; replace HO_7 := zM (Kd.S_after (ok := (fun k_ => some k_ ≠ (.slice (some ad791) t788.length co22 : Value).ownBlock)) (by (with_reducible repeat (first | apply Kd.S_alloc | apply Kd.S_drewN | apply Kd.S_drew)); exact HO_7.out) hg hat); replace HO_8 := zM (Kd.R_after (ok := (fun _ => True)) (by (with_reducible repeat (first | apply Kd.R_alloc | apply Kd.R_drewN | apply Kd.R_drew)); exact Kd.R_mono HO_8.out (fun _ hk => ⟨trivial, hk⟩)) hg hat); replace BK784 := zM (blk_grown (g := gb784) (o := .cells #[.slice A0_0 l0_0.length c0_0, .slice A0_1 l0_1.length c0_1] 30 (0, 0)) (zK BK784.out) hg (Kd.R_ne HO_9.out BK784.out (by decide))); replace HL798_0 := zM (Kd.R_after (ok := (fun k_ => some k_ ≠ (.slice (some ad798) t785.length co20 : Value).ownBlock ∧ some k_ ≠ (.slice (some ad791) t788.length co22 : Value).ownBlock)) (by (with_reducible repeat (first | apply Kd.R_alloc | apply Kd.R_drewN | apply Kd.R_drew)); exact Kd.R_mono HL798_0.out (fun _ hk => ⟨⟨hk.2, hk.1.1⟩, hk.1.2⟩)) hg hat); replace HL802_0 := zM (Kd.R_after (ok := (fun k_ => some k_ ≠ (.slice (some ad798) t785.length co20 : Value).ownBlock ∧ some k_ ≠ (.slice (some ad791) t788.length co22 : Value).ownBlock)) (by (with_reducible repeat (first | apply Kd.R_alloc | apply Kd.R_drewN | apply Kd.R_drew)); exact Kd.R_mono HL802_0.out (fun _ hk => ⟨⟨hk.2, hk.1.1⟩, hk.1.2⟩)) hg hat); replace HB := zM (hb); have HO806 := zM (ho); clear HO_9; clear ho hb hg hat)))
                               go_roundg k2
                               case measure => have := HK1.out; have := HK2.out; omega
                               case rel => exact ⟨(rd (rd_L1 t785 x1_1) x10_2), (y804), (by first | rfl | (simp; done) | (simp [*]; done)), H', ⟨by have := HK1.out; have := HK2.out; omega⟩, ⟨by (with_reducible repeat (first | apply Kd.S_alloc | apply Kd.S_drewN | apply Kd.S_drew)); exact HO_7.out⟩, ⟨by (with_reducible repeat (first | apply Kd.R_alloc | apply Kd.R_drewN | apply Kd.R_drew)); exact Kd.R_mono HO_8.out (fun _ hk => hk.2)⟩, ⟨zR HO806.out⟩, ⟨zK BK784.out⟩, ⟨zB⟩⟩
                             · rw [if_neg c34] at H
                               exact absurd H (by simp)
                           · rw [if_neg c33] at H
                             have c33b0 : ((rd t788 (rd (rd_L1 t785 x1_1) x10_2)) == (wrap64 ((rd t788 x1_1) - 1))) = false := beq_eq_false_iff_ne.mpr c33
                             have c33b1 : ((rd t788 (rd (rd_L1 t785 x1_1) x10_2)) != (wrap64 ((rd t788 x1_1) - 1))) = true := bne_iff_ne.mpr c33
                             have H' := Aside0.mk H
                             clear H
                             have p798 : 0 ≤ (x1_1 : Int) := of_decide_eq_true zA
                             have q798 : x1_1 < (t785.length : Int) := of_decide_eq_true zA
                             obtain ⟨ad798, A798_0, c798_0, e798, hx798_0, hl798_0, hi798_0⟩ := at_L1 (Kd.S_reads' HO_7.out).2.2 x1_1 p798 q798
                             cases e798
                             obtain ⟨ce798, hce798, hMe798, hcc798⟩ := Kd.S_get HO_7.out [] x1_1 p798 (by first | exact q798 | exact of_decide_eq_true zA | (have e_ := (Kd.S_reads' HO_7.out).1; omega))
                             obtain ⟨ve798_0, rfl, ge798_0⟩ := hMe798
                             have hv798_0 := hcc798 0 _ rfl
                             rw [Nat.add_zero, show ((Kd.slice 3 (Kd.int .i64))).sz = 1 from rfl, Nat.mul_one] at hv798_0
                             replace hv798_0 := Option.some.inj (hv798_0.symm.trans hx798_0)
                             rw [hv798_0] at ge798_0
                             have HL798_0 := zM (show Kd.R (Kd.int .i64) 3 _ _ _ _ (rd_L1 t785 x1_1) from ge798_0)
                             clear hv798_0 ge798_0
                             clear hcc798 hce798
                             have HR798_0 := Aside0.mk hi798_0
                             have HC798_0 := Aside0.mk hl798_0
                             clear hi798_0 hl798_0
                             replace p798 := eq_true p798
                             replace q798 := eq_true q798
                             have p799 : 0 ≤ (x10_2 : Int) := of_decide_eq_true zA
                             have q799 : x10_2 < ((rd_L1 t785 x1_1).length : Int) := of_decide_eq_true zA
                             obtain ⟨ad799, e799, hx799_0⟩ := Kd.at_int (by repeat (first | (with_reducible exact HR798_0.out) | (with_reducible refine Kd.C_alloc ?_ _) | (with_reducible refine Kd.C_drewN ?_ _) | (with_reducible refine Kd.C_drew ?_) | exact HR798_0.out)) x10_2 p799 q799
                             cases e799
                             replace p799 := eq_true p799
                             replace q799 := eq_true q799
                             have p800 : 0 ≤ ((rd (rd_L1 t785 x1_1) x10_2) : Int) := of_decide_eq_true zA
                             have q800 : (rd (rd_L1 t785 x1_1) x10_2) < (t788.length : Int) := of_decide_eq_true zA
                             obtain ⟨ad800, e800, hx800_0⟩ := Kd.at_int (Kd.R_reads' HO_8.out).2.2 (rd (rd_L1 t785 x1_1) x10_2) p800 q800
                             obtain rfl : ad791 = ad800 := (by injection e800)
                             replace p800 := eq_true p800
                             replace q800 := eq_true q800
                             have p801 : 0 ≤ (x1_1 : Int) := of_decide_eq_true zA
                             have q801 : x1_1 < (t788.length : Int) := of_decide_eq_true zA
                             obtain ⟨ad801, e801, hx801_0⟩ := Kd.at_int (Kd.R_reads' HO_8.out).2.2 x1_1 p801 q801
                             obtain rfl : ad791 = ad801 := (by injection e801)
                             replace p801 := eq_true p801
                             replace q801 := eq_true q801
                             go_wp2
                             repeat (go_quiet (fail); try go_wp2)
                             go_roundg k2
                             case measure => have := HK1.out; have := HK2.out; omega
                             case rel => exact ⟨(wrap64 (x10_2 + 1)), (by first | rfl | (simp; done) | (simp [*]; done)), H', ⟨by have := HK1.out; have := HK2.out; omega⟩, ⟨by (with_reducible repeat (first | apply Kd.S_alloc | apply Kd.S_drewN | apply Kd.S_drew)); exact HO_7.out⟩, ⟨zR HO_8.out⟩, ⟨zR HO_9.out⟩, ⟨zK BK784.out⟩, ⟨zB⟩⟩
                         · rw [if_neg c32] at H
                           exact absurd H (by simp)
                       · rw [if_neg c31] at H
                         exact absurd H (by simp)
                     · rw [if_neg c30] at H
                       exact absurd H (by simp)
                   · rw [if_neg c29] at H
                     exact absurd H (by simp)
                 · rw [if_neg c28] at H
                   exact absurd H (by simp)
               · rw [if_neg c27] at H
                 exact absurd H (by simp)
             · rw [if_neg c26] at H
               exact absurd H (by simp)
   · rw [if_neg c7] at H
     exact absurd H (by simp)
 · rw [if_neg c6] at H
   exact absurd H (by simp)

/-! ### spec_FirstWay: function 35 -/
def spec_FirstWay.f (k : Nat) (l0_0 : List (List Int)) (l0_1 : List (S79)) (a1 : Int) (a2 : Int) : Option (List Int × Bool) := (spec_l2Place.f k l0_0 l0_1 a1).bind fun t808 => (if t808 = true then ((spec_l2Place.f k l0_0 l0_1 a2).bind fun t809 => (if t809 = true then ((spec_l2Walk.f k l0_0 l0_1 a1 a2).bind fun t810 => (some (t810, decide ((t810.length : Int) > 0)))) else (some ((([] : List Int)), false)))) else (some ((([] : List Int)), false)))
set_option maxHeartbeats 8000000 in
set_option maxRecDepth 100000 in
theorem spec_FirstWay.calls (k : Nat) (A0_0 : Option Addr) (c0_0 : Nat) (l0_0 : List (List Int)) (A0_1 : Option Addr) (c0_1 : Nat) (l0_1 : List (S79)) (a1 : Int) (a2 : Int) (r1 : List Int) (r2 : Bool) (w : World) (hr0_0 : Kd.C (Kd.slice 3 (Kd.int .i64)) w A0_0 l0_0.length l0_0) (hc0_0 : l0_0.length ≤ c0_0) (hr0_1 : Kd.C k79 w A0_1 l0_1.length l0_1) (hc0_1 : l0_1.length ≤ c0_1) (h : spec_FirstWay.f k l0_0 l0_1 a1 a2 = some (r1, r2)) :
 Calls Try.prog 35 #[.agg #[.slice A0_0 l0_0.length c0_0, .slice A0_1 l0_1.length c0_1], .int .i64 a1, .int .i64 a2] w fun e w' => ∃ v0_ : Value, e = .returned (.tuple #[v0_, .bool r2]) ∧ Kd.R (Kd.int .i64) 3 w' w.heap.size (fun _ => True) v0_ r1 ∧ Below w.heap.size w w' := by
 have hu30 := Try.underlying30
 have HR0_0 := Aside0.mk hr0_0
 have HC0_0 := Aside0.mk hc0_0
 clear hr0_0 hc0_0
 have HR0_1 := Aside0.mk hr0_1
 have HC0_1 := Aside0.mk hc0_1
 clear hr0_1 hc0_1
 have HB := zM (Below.refl w.heap.size w)
 have H : ((spec_l2Place.f k l0_0 l0_1 a1).bind fun t808 => (if t808 = true then ((spec_l2Place.f k l0_0 l0_1 a2).bind fun t809 => (if t809 = true then ((spec_l2Walk.f k l0_0 l0_1 a1 a2).bind fun t810 => (some (t810, decide ((t810.length : Int) > 0)))) else (some ((([] : List Int)), false)))) else (some ((([] : List Int)), false)))) = some (r1, r2) := h
 clear h
 replace H := Option.bind_eq_some_iff.mp H
 obtain ⟨t808, A40, H⟩ := H
 replace H : (if t808 = true then ((spec_l2Place.f k l0_0 l0_1 a2).bind fun t809 => (if t809 = true then ((spec_l2Walk.f k l0_0 l0_1 a1 a2).bind fun t810 => (some (t810, decide ((t810.length : Int) > 0)))) else (some ((([] : List Int)), false)))) else (some ((([] : List Int)), false))) = some (r1, r2) := H
 have A4 := Aside0.mk A40
 clear A40
 by_cases c5 : t808 = true
 · subst c5
   have H1 : ((spec_l2Place.f k l0_0 l0_1 a2).bind fun t809 => (if t809 = true then ((spec_l2Walk.f k l0_0 l0_1 a1 a2).bind fun t810 => (some (t810, decide ((t810.length : Int) > 0)))) else (some ((([] : List Int)), false)))) = some (r1, r2) := by rw [if_pos rfl] at H; exact H
   clear H
   have H := H1
   clear H1
   replace H := Option.bind_eq_some_iff.mp H
   obtain ⟨t809, A60, H⟩ := H
   replace H : (if t809 = true then ((spec_l2Walk.f k l0_0 l0_1 a1 a2).bind fun t810 => (some (t810, decide ((t810.length : Int) > 0)))) else (some ((([] : List Int)), false))) = some (r1, r2) := H
   have A6 := Aside0.mk A60
   clear A60
   by_cases c7 : t809 = true
   · subst c7
     have H1 : ((spec_l2Walk.f k l0_0 l0_1 a1 a2).bind fun t810 => (some (t810, decide ((t810.length : Int) > 0)))) = some (r1, r2) := by rw [if_pos rfl] at H; exact H
     clear H
     have H := H1
     clear H1
     replace H := Option.bind_eq_some_iff.mp H
     obtain ⟨t810, A80, H⟩ := H
     replace H : (some (t810, decide ((t810.length : Int) > 0))) = some (r1, r2) := H
     have A8 := Aside0.mk A80
     clear A80
     simp only [Option.some.injEq, Prod.mk.injEq] at H
     obtain ⟨rfl, rfl⟩ := H
     go_enter Try.func35, Try.ntmps35
     go_wp2_with (first | ((with_reducible refine gate_dst (N := 3) rfl ?_); refine zb (w := w) 3 #[.slice A0_0 l0_0.length c0_0, .slice A0_1 l0_1.length c0_1] 30 zB ?_; clear HB; intro gb807 w9 HB BK807 GW807; have GE807 := GW807; have hcz10_0 := zy BK807 0; have hcz10_1 := zy BK807 1; have hfz10_0 := blk_frozen BK807.out 0; have hfz10_1 := blk_frozen BK807.out 1) | ((with_reducible refine gate_callee (f := 53) rfl ?_); refine zc 11 Try.func53 #[.agg #[.slice A0_0 l0_0.length c0_0, .slice A0_1 l0_1.length c0_1], .int .i64 a1] ?_; (with_reducible refine (spec_l2Place.calls k _ _ l0_0 _ _ l0_1 a1 true _ ?side1 ?side2 ?side3 ?side4 A4.out).mono ?_); (case side1 => exact zC (Kd.C_below HR0_0.out HB.out)); (case side2 => exact HC0_0.out); (case side3 => exact zC (Kd.C_below HR0_1.out HB.out)); (case side4 => exact HC0_1.out); rintro e w11 ⟨rfl, hb⟩; refine ⟨_, rfl, ?_⟩; replace BK807 := zM (blk_below (g := gb807) (o := .cells #[.slice A0_0 l0_0.length c0_0, .slice A0_1 l0_1.length c0_1] 30 (0, 0)) (zK BK807.out) hb); replace HB := zM (below_step zB hb); (try clear hb); (try clear hb2); (try clear hk); (try clear hi); have hcz12_0 := zy BK807 0; have hcz12_1 := zy BK807 1; have hfz12_0 := blk_frozen BK807.out 0; have hfz12_1 := blk_frozen BK807.out 1) | (go_at_call 53; (with_reducible refine (spec_l2Place.calls k _ _ l0_0 _ _ l0_1 a2 true _ ?side1 ?side2 ?side3 ?side4 A6.out).mono ?_); (case side1 => exact zC (Kd.C_below HR0_0.out HB.out)); (case side2 => exact HC0_0.out); (case side3 => exact zC (Kd.C_below HR0_1.out HB.out)); (case side4 => exact HC0_1.out); rintro e w13 ⟨rfl, hb⟩; replace BK807 := zM (blk_below (g := gb807) (o := .cells #[.slice A0_0 l0_0.length c0_0, .slice A0_1 l0_1.length c0_1] 30 (0, 0)) (zK BK807.out) hb); replace HB := zM (below_step zB hb); (try clear hb); (try clear hb2); (try clear hk); (try clear hi); have hcz14_0 := zy BK807 0; have hcz14_1 := zy BK807 1; have hfz14_0 := blk_frozen BK807.out 0; have hfz14_1 := blk_frozen BK807.out 1) | ((with_reducible refine gate_callee (f := 86) rfl ?_); refine zc 23 Try.func86 #[.agg #[.slice A0_0 l0_0.length c0_0, .slice A0_1 l0_1.length c0_1], .int .i64 a1, .int .i64 a2] ?_; (with_reducible refine (spec_l2Walk.calls k _ _ l0_0 _ _ l0_1 a1 a2 t810 _ ?side1 ?side2 ?side3 ?side4 A8.out).mono ?_); (case side1 => exact zC (Kd.C_below HR0_0.out HB.out)); (case side2 => exact HC0_0.out); (case side3 => exact zC (Kd.C_below HR0_1.out HB.out)); (case side4 => exact HC0_1.out); rintro e w15 ⟨v811, rfl, ho0, hb⟩; refine ⟨_, rfl, ?_⟩; have HO812 := zM (Kd.R_lower ho0 (below_size zB)); replace BK807 := zM (blk_below (g := gb807) (o := .cells #[.slice A0_0 l0_0.length c0_0, .slice A0_1 l0_1.length c0_1] 30 (0, 0)) (zK BK807.out) hb); replace HB := zM (below_step zB hb); (try clear hb); (try clear hb2); (try clear hk); (try clear hi); (try clear ho0); obtain ⟨Ao16, co16, eo16⟩ := Kd.R_slice HO812.out; subst eo16))
     go_ret2
     exact ⟨_, by first | rfl | (simp [errW_none, errW_some] <;> rfl) | (simp [*, errW_none, errW_some] <;> rfl), by (with_reducible repeat (first | apply Kd.R_alloc | apply Kd.R_drewN | apply Kd.R_drew)); exact HO812.out, zB⟩
   · replace c7 := Bool.eq_false_iff.mpr c7
     subst c7
     have H1 : (some ((([] : List Int)), false)) = some (r1, r2) := by rw [if_neg (show ¬ (false = true) by decide)] at H; exact H
     clear H
     have H := H1
     clear H1
     obtain ⟨y813, hy813⟩ : ∃ y_ : List Int, y_ = (([] : List Int)) := ⟨_, rfl⟩
     replace H : (some (y813, false)) = some (r1, r2) := by first | (rw [hy813]; with_reducible exact H) | (have H2_ := (Option.bind_some _ _).symm.trans H; rw [hy813]; with_reducible exact H2_) | (have H2_ := (Option.bind_some _ _).symm.trans H; with_reducible exact H2_) | with_reducible exact H | (rw [hy813]; exact H) | exact H
     have Ny813 := Aside0.mk hy813
     clear hy813
     simp only [Option.some.injEq, Prod.mk.injEq] at H
     obtain ⟨rfl, rfl⟩ := H
     go_enter Try.func35, Try.ntmps35
     go_wp2_with (first | ((with_reducible refine gate_dst (N := 3) rfl ?_); refine zb (w := w) 3 #[.slice A0_0 l0_0.length c0_0, .slice A0_1 l0_1.length c0_1] 30 zB ?_; clear HB; intro gb807 w17 HB BK807 GW807; have GE807 := GW807; have hcz18_0 := zy BK807 0; have hcz18_1 := zy BK807 1; have hfz18_0 := blk_frozen BK807.out 0; have hfz18_1 := blk_frozen BK807.out 1) | ((with_reducible refine gate_callee (f := 53) rfl ?_); refine zc 11 Try.func53 #[.agg #[.slice A0_0 l0_0.length c0_0, .slice A0_1 l0_1.length c0_1], .int .i64 a1] ?_; (with_reducible refine (spec_l2Place.calls k _ _ l0_0 _ _ l0_1 a1 true _ ?side1 ?side2 ?side3 ?side4 A4.out).mono ?_); (case side1 => exact zC (Kd.C_below HR0_0.out HB.out)); (case side2 => exact HC0_0.out); (case side3 => exact zC (Kd.C_below HR0_1.out HB.out)); (case side4 => exact HC0_1.out); rintro e w19 ⟨rfl, hb⟩; refine ⟨_, rfl, ?_⟩; replace BK807 := zM (blk_below (g := gb807) (o := .cells #[.slice A0_0 l0_0.length c0_0, .slice A0_1 l0_1.length c0_1] 30 (0, 0)) (zK BK807.out) hb); replace HB := zM (below_step zB hb); (try clear hb); (try clear hb2); (try clear hk); (try clear hi); have hcz20_0 := zy BK807 0; have hcz20_1 := zy BK807 1; have hfz20_0 := blk_frozen BK807.out 0; have hfz20_1 := blk_frozen BK807.out 1) | (go_at_call 53; (with_reducible refine (spec_l2Place.calls k _ _ l0_0 _ _ l0_1 a2 false _ ?side1 ?side2 ?side3 ?side4 A6.out).mono ?_); (case side1 => exact zC (Kd.C_below HR0_0.out HB.out)); (case side2 => exact HC0_0.out); (case side3 => exact zC (Kd.C_below HR0_1.out HB.out)); (case side4 => exact HC0_1.out); rintro e w21 ⟨rfl, hb⟩; replace BK807 := zM (blk_below (g := gb807) (o := .cells #[.slice A0_0 l0_0.length c0_0, .slice A0_1 l0_1.length c0_1] 30 (0, 0)) (zK BK807.out) hb); replace HB := zM (below_step zB hb); (try clear hb); (try clear hb2); (try clear hk); (try clear hi)) | ((with_reducible refine gate_dst (N := 19) rfl ?_); refine Kd.R_lit (Kd.int .i64) _ 3 ?hg (N := 19) ?hd (xs := ([] : List Int)) (inner := []) (ok := fun _ => True) (okp := fun _ => True) ?hr ?hp (fun _ hk => hk) trivial (Below.refl _ _) (Nat.le_refl _) (by simp) ?_; (case hd => rfl); (case hg => rfl); (case hr => first | (go_simp; done) | (go_simp; rfl)); (case hp => exact (Reps.none _ _)); intro v814 w22 ho23 hb hg_ hnew_; clear hg_ hnew_; (first | rw [← Ny813.out] at ho23 | (simp only [Int.reduceToNat] at ho23; rw [← Ny813.out] at ho23)); have HO815 := zM (Kd.R_lower ho23 (below_size zB)); replace BK807 := zM (blk_below (g := gb807) (o := .cells #[.slice A0_0 l0_0.length c0_0, .slice A0_1 l0_1.length c0_1] 30 (0, 0)) (zK BK807.out) hb); replace HB := zM (below_step zB hb); clear hb ho23))
     go_ret2
     exact ⟨_, by first | rfl | (simp [errW_none, errW_some] <;> rfl) | (simp [*, errW_none, errW_some] <;> rfl), by (with_reducible repeat (first | apply Kd.R_alloc | apply Kd.R_drewN | apply Kd.R_drew)); exact HO815.out, zB⟩
 · replace c5 := Bool.eq_false_iff.mpr c5
   subst c5
   have H1 : (some ((([] : List Int)), false)) = some (r1, r2) := by rw [if_neg (show ¬ (false = true) by decide)] at H; exact H
   clear H
   have H := H1
   clear H1
   obtain ⟨y816, hy816⟩ : ∃ y_ : List Int, y_ = (([] : List Int)) := ⟨_, rfl⟩
   replace H : (some (y816, false)) = some (r1, r2) := by first | (rw [hy816]; with_reducible exact H) | (have H2_ := (Option.bind_some _ _).symm.trans H; rw [hy816]; with_reducible exact H2_) | (have H2_ := (Option.bind_some _ _).symm.trans H; with_reducible exact H2_) | with_reducible exact H | (rw [hy816]; exact H) | exact H
   have Ny816 := Aside0.mk hy816
   clear hy816
   simp only [Option.some.injEq, Prod.mk.injEq] at H
   obtain ⟨rfl, rfl⟩ := H
   go_enter Try.func35, Try.ntmps35
   go_wp2_with (first | ((with_reducible refine gate_dst (N := 3) rfl ?_); refine zb (w := w) 3 #[.slice A0_0 l0_0.length c0_0, .slice A0_1 l0_1.length c0_1] 30 zB ?_; clear HB; intro gb807 w24 HB BK807 GW807; have GE807 := GW807; have hcz25_0 := zy BK807 0; have hcz25_1 := zy BK807 1; have hfz25_0 := blk_frozen BK807.out 0; have hfz25_1 := blk_frozen BK807.out 1) | ((with_reducible refine gate_callee (f := 53) rfl ?_); refine zc 11 Try.func53 #[.agg #[.slice A0_0 l0_0.length c0_0, .slice A0_1 l0_1.length c0_1], .int .i64 a1] ?_; (with_reducible refine (spec_l2Place.calls k _ _ l0_0 _ _ l0_1 a1 false _ ?side1 ?side2 ?side3 ?side4 A4.out).mono ?_); (case side1 => exact zC (Kd.C_below HR0_0.out HB.out)); (case side2 => exact HC0_0.out); (case side3 => exact zC (Kd.C_below HR0_1.out HB.out)); (case side4 => exact HC0_1.out); rintro e w26 ⟨rfl, hb⟩; refine ⟨_, rfl, ?_⟩; replace BK807 := zM (blk_below (g := gb807) (o := .cells #[.slice A0_0 l0_0.length c0_0, .slice A0_1 l0_1.length c0_1] 30 (0, 0)) (zK BK807.out) hb); replace HB := zM (below_step zB hb); (try clear hb); (try clear hb2); (try clear hk); (try clear hi)) | ((with_reducible refine gate_dst (N := 19) rfl ?_); refine Kd.R_lit (Kd.int .i64) _ 3 ?hg (N := 19) ?hd (xs := ([] : List Int)) (inner := []) (ok := fun _ => True) (okp := fun _ => True) ?hr ?hp (fun _ hk => hk) trivial (Below.refl _ _) (Nat.le_refl _) (by simp) ?_; (case hd => rfl); (case hg => rfl); (case hr => first | (go_simp; done) | (go_simp; rfl)); (case hp => exact (Reps.none _ _)); intro v817 w27 ho28 hb hg_ hnew_; clear hg_ hnew_; (first | rw [← Ny816.out] at ho28 | (simp only [Int.reduceToNat] at ho28; rw [← Ny816.out] at ho28)); have HO818 := zM (Kd.R_lower ho28 (below_size zB)); replace BK807 := zM (blk_below (g := gb807) (o := .cells #[.slice A0_0 l0_0.length c0_0, .slice A0_1 l0_1.length c0_1] 30 (0, 0)) (zK BK807.out) hb); replace HB := zM (below_step zB hb); clear hb ho28))
   go_ret2
   exact ⟨_, by first | rfl | (simp [errW_none, errW_some] <;> rfl) | (simp [*, errW_none, errW_some] <;> rfl), by (with_reducible repeat (first | apply Kd.R_alloc | apply Kd.R_drewN | apply Kd.R_drew)); exact HO818.out, zB⟩

end Go.Proofs.Ytmhoemdclnlgaaa.P
namespace Go.Proofs.Ytmhoemdclnlgaaa.P
open Go.RowKit Go.Proofs.YtmhoemdclnlgaaaW.PrintWords Go.Proofs.YtmhoemdclnlgaaaW.PrintLast Go.Proofs.YtmhoemdclnlgaaaW.PrintMore
attribute [local go_sem] max2_int min2_int max_two min_two max_three min_three max_four min_four   -- for this text's walks alone
set_option linter.unusedVariables false
set_option linter.unusedSimpArgs false

/-! ### impl_between: function 96 -/
def impl_between.f (a0 : Int) (a1 : Int) (a2 : Int) : Option (Bool) := if a0 ≥ a1 then (some (decide (a0 ≤ a2))) else (some false)
set_option maxHeartbeats 8000000 in
set_option maxRecDepth 100000 in
theorem impl_between.calls (a0 : Int) (a1 : Int) (a2 : Int) (r : Bool) (w : World) (h : impl_between.f a0 a1 a2 = some r) :
 Calls Try.prog 96 #[.int .i64 a0, .int .i64 a1, .int .i64 a2] w fun e w' => e = .returned (.bool r) ∧ Drawn0 w w' := by
 have H : (if a0 ≥ a1 then (some (decide (a0 ≤ a2))) else (some false)) = some r := h
 clear h
 by_cases c4 : a0 ≥ a1
 · rw [if_pos c4] at H
   have c4b0 : decide (a1 ≤ a0) = true := decide_eq_true c4
   clear c4
   obtain rfl := Option.some.inj H
   go_enter Try.func96, Try.ntmps96
   go_wp2
   go_ret
   exact ⟨by first | rfl | (simp; done) | (simp [*]; done), by repeat (first | exact Drawn0.refl _ | apply Drawn0.step)⟩
 · rw [if_neg c4] at H
   have c4b0 : decide (a1 ≤ a0) = false := decide_eq_false c4
   clear c4
   obtain rfl := Option.some.inj H
   go_enter Try.func96, Try.ntmps96
   go_wp2
   go_ret
   exact ⟨by first | rfl | (simp; done) | (simp [*]; done), by repeat (first | exact Drawn0.refl _ | apply Drawn0.step)⟩

end Go.Proofs.Ytmhoemdclnlgaaa.P
