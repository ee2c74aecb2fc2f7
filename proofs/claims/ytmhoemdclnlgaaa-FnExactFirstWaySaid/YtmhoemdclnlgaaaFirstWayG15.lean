-- Written by a program of this session (the kit's print, turned: wip/print/patch.py) out of the translation. Not trusted: Lean checks it.
import Derived.Test.YtmhoemdclnlgaaaFirstWayG5
import Derived.Test.YtmhoemdclnlgaaaFirstWayG11
import Derived.Test.YtmhoemdclnlgaaaFirstWayG14
import Derived.Test.YtmhoemdclnlgaaaFirstWayG12
namespace Go.Proofs.Ytmhoemdclnlgaaa.P
open Go.RowKit Go.Proofs.YtmhoemdclnlgaaaW.PrintWords Go.Proofs.YtmhoemdclnlgaaaW.PrintLast Go.Proofs.YtmhoemdclnlgaaaW.PrintMore
attribute [local go_sem] max2_int min2_int max_two min_two max_three min_three max_four min_four   -- for this text's walks alone
set_option linter.unusedVariables false
set_option linter.unusedSimpArgs false

/-! ### impl_Space_firstWay: function 87 -/
mutual
def impl_Space_firstWay.l0 : Nat → Int → Int → List (List Int) → List Int → List Int → Option (List Int × Bool)
 | 0, _, _, _, _, _ => none
 | k + 1, x1, x2, x8, x9, x10 => if x1 = x2 then (some (x10, true)) else (if 0 ≤ x1 then (if x1 < (x8.length : Int) then (impl_Space_firstWay.l1 k x1 x2 x8 x9 x10 (rd_L1 x8 x1) ((rd_L1 x8 x1).length : Int) 0) else (none)) else (none))
def impl_Space_firstWay.l1 : Nat → Int → Int → List (List Int) → List Int → List Int → List Int → Int → Int → Option (List Int × Bool)
 | 0, _, _, _, _, _, _, _, _ => none
 | k + 1, x1, x2, x8, x9, x10, x31, x32, x33 => if x33 < x32 then (if 0 ≤ x33 then (if x33 < (x31.length : Int) then (if 0 ≤ (rd x31 x33) then (if (rd x31 x33) < (x9.length : Int) then (if 0 ≤ x1 then (if x1 < (x9.length : Int) then (if (rd x9 (rd x31 x33)) = (wrap64 ((rd x9 x1) - 1)) then (if x10.length < 17592186044416 then (impl_Space_firstWay.l0 k (rd x31 x33) x2 x8 x9 (x10 ++ [rd x31 x33])) else (none)) else (impl_Space_firstWay.l1 k x1 x2 x8 x9 x10 x31 x32 (wrap64 (x33 + 1)))) else (none)) else (none)) else (none)) else (none)) else (none)) else (none)) else (if x10.length < 17592186044416 then (impl_Space_firstWay.l0 k x1 x2 x8 x9 (x10 ++ [x1])) else (none))
end
def impl_Space_firstWay.f (k : Nat) (l0_0 : List (List Int)) (l0_1 : List (S79)) (a1 : Int) (a2 : Int) : Option (List Int × Bool) := (impl_Space_roads.f k l0_0 l0_1).bind fun t820 => ((impl_spread.f k t820 a2).bind fun t823 => (if 0 ≤ a1 then (if a1 < (t823.length : Int) then (if (rd t823 a1) < 0 then (some (([] : List Int), false)) else (impl_Space_firstWay.l0 k a1 a2 t820 t823 (([a1] : List Int)))) else (none)) else (none)))
set_option maxHeartbeats 8000000 in
set_option maxRecDepth 100000 in
theorem impl_Space_firstWay.calls (k : Nat) (A0_0 : Option Addr) (c0_0 : Nat) (l0_0 : List (List Int)) (A0_1 : Option Addr) (c0_1 : Nat) (l0_1 : List (S79)) (a1 : Int) (a2 : Int) (r1 : List Int) (r2 : Bool) (w : World) (hr0_0 : Kd.C (Kd.slice 3 (Kd.int .i64)) w A0_0 l0_0.length l0_0) (hc0_0 : l0_0.length ≤ c0_0) (hr0_1 : Kd.C k79 w A0_1 l0_1.length l0_1) (hc0_1 : l0_1.length ≤ c0_1) (h : impl_Space_firstWay.f k l0_0 l0_1 a1 a2 = some (r1, r2)) :
 Calls Try.prog 87 #[.agg #[.slice A0_0 l0_0.length c0_0, .slice A0_1 l0_1.length c0_1], .int .i64 a1, .int .i64 a2] w fun e w' => ∃ v0_ : Value, e = .returned (.tuple #[v0_, .bool r2]) ∧ Kd.R (Kd.int .i64) 3 w' w.heap.size (fun _ => True) v0_ r1 ∧ Below w.heap.size w w' := by
 have hu30 := Try.underlying30
 have HR0_0 := Aside0.mk hr0_0
 have HC0_0 := Aside0.mk hc0_0
 clear hr0_0 hc0_0
 have HR0_1 := Aside0.mk hr0_1
 have HC0_1 := Aside0.mk hc0_1
 clear hr0_1 hc0_1
 have HB := zM (Below.refl w.heap.size w)
 have H : ((impl_Space_roads.f k l0_0 l0_1).bind fun t820 => ((impl_spread.f k t820 a2).bind fun t823 => (if 0 ≤ a1 then (if a1 < (t823.length : Int) then (if (rd t823 a1) < 0 then (some (([] : List Int), false)) else (impl_Space_firstWay.l0 k a1 a2 t820 t823 (([a1] : List Int)))) else (none)) else (none)))) = some (r1, r2) := h
 clear h
 replace H := Option.bind_eq_some_iff.mp H
 obtain ⟨t820, A40, H⟩ := H
 replace H : ((impl_spread.f k t820 a2).bind fun t823 => (if 0 ≤ a1 then (if a1 < (t823.length : Int) then (if (rd t823 a1) < 0 then (some (([] : List Int), false)) else (impl_Space_firstWay.l0 k a1 a2 t820 t823 (([a1] : List Int)))) else (none)) else (none))) = some (r1, r2) := H
 have A4 := Aside0.mk A40
 clear A40
 replace H := Option.bind_eq_some_iff.mp H
 obtain ⟨t823, A50, H⟩ := H
 replace H : (if 0 ≤ a1 then (if a1 < (t823.length : Int) then (if (rd t823 a1) < 0 then (some (([] : List Int), false)) else (impl_Space_firstWay.l0 k a1 a2 t820 t823 (([a1] : List Int)))) else (none)) else (none)) = some (r1, r2) := H
 have A5 := Aside0.mk A50
 clear A50
 by_cases c6 : 0 ≤ a1
 · rw [if_pos c6] at H
   have c6b0 := decide_eq_true c6
   clear c6
   by_cases c7 : a1 < (t823.length : Int)
   · rw [if_pos c7] at H
     have c7b0 := decide_eq_true c7
     clear c7
     by_cases c8 : (rd t823 a1) < 0
     · rw [if_pos c8] at H
       have c8b0 := decide_eq_true c8
       clear c8
       simp only [Option.some.injEq, Prod.mk.injEq] at H
       obtain ⟨rfl, rfl⟩ := H
       go_enter Try.func87, Try.ntmps87
       go_wp2_with (first | ((with_reducible refine gate_dst (N := 3) rfl ?_); refine zb (w := w) 3 #[.slice A0_0 l0_0.length c0_0, .slice A0_1 l0_1.length c0_1] 30 zB ?_; clear HB; intro gb819 w9 HB BK819 GW819; have GE819 := GW819; have hcz10_0 := zy BK819 0; have hcz10_1 := zy BK819 1; have hfz10_0 := blk_frozen BK819.out 0; have hfz10_1 := blk_frozen BK819.out 1) | (go_at_call 60; (with_reducible refine (impl_Space_roads.calls k _ _ l0_0 _ _ l0_1 t820 _ ?side1 ?side2 ?side3 ?side4 A4.out).mono ?_); (case side1 => exact zC (Kd.C_below HR0_0.out HB.out)); (case side2 => exact HC0_0.out); (case side3 => exact zC (Kd.C_below HR0_1.out HB.out)); (case side4 => exact HC0_1.out); rintro e w11 ⟨v821, rfl, ho0, hb⟩; have HO822 := zM (Kd.S_lower ho0 (below_size zB)); replace BK819 := zM (blk_below (g := gb819) (o := .cells #[.slice A0_0 l0_0.length c0_0, .slice A0_1 l0_1.length c0_1] 30 (0, 0)) (zK BK819.out) hb); replace HB := zM (below_step zB hb); (try clear hb); (try clear hb2); (try clear hk); (try clear hi); (try clear ho0); obtain ⟨Ao12, co12, eo12⟩ := Kd.S_slice HO822.out; subst eo12) | (go_at_call 59; (with_reducible refine (impl_spread.calls k _ _ t820 a2 t823 _ ?side1 ?side2 A5.out).mono ?_); (case side1 => exact zC (Kd.S_reads' HO822.out).2.2); (case side2 => exact (Kd.S_reads' HO822.out).2.1); rintro e w13 ⟨v824, rfl, ho0, hb⟩; replace HO822 := zM (Kd.S_elder' (by (with_reducible repeat (first | apply Kd.S_alloc | apply Kd.S_drewN | apply Kd.S_drew)); exact HO822.out) (Kd.R_base ho0) hb); have HO825 := zM (Kd.R_lower ho0 (below_size zB)); replace BK819 := zM (blk_below (g := gb819) (o := .cells #[.slice A0_0 l0_0.length c0_0, .slice A0_1 l0_1.length c0_1] 30 (0, 0)) (zK BK819.out) hb); replace HB := zM (below_step zB hb); (try clear hb); (try clear hb2); (try clear hk); (try clear hi); (try clear ho0); obtain ⟨Ao14, co14, eo14⟩ := Kd.R_slice HO825.out; subst eo14; have p826 : 0 ≤ (a1 : Int) := of_decide_eq_true zA; have q826 : a1 < (t823.length : Int) := of_decide_eq_true zA; obtain ⟨ad826, e826, hx826_0⟩ := Kd.at_int (Kd.R_reads' HO825.out).2.2 a1 p826 q826; cases e826; replace p826 := eq_true p826; replace q826 := eq_true q826))
       repeat (go_quiet (first | ((with_reducible refine gate_dst (N := 3) rfl ?_); refine zb (w := w) 3 #[.slice A0_0 l0_0.length c0_0, .slice A0_1 l0_1.length c0_1] 30 zB ?_; clear HB; intro gb819 w9 HB BK819 GW819; have GE819 := GW819; have hcz10_0 := zy BK819 0; have hcz10_1 := zy BK819 1; have hfz10_0 := blk_frozen BK819.out 0; have hfz10_1 := blk_frozen BK819.out 1) | (go_at_call 60; (with_reducible refine (impl_Space_roads.calls k _ _ l0_0 _ _ l0_1 t820 _ ?side1 ?side2 ?side3 ?side4 A4.out).mono ?_); (case side1 => exact zC (Kd.C_below HR0_0.out HB.out)); (case side2 => exact HC0_0.out); (case side3 => exact zC (Kd.C_below HR0_1.out HB.out)); (case side4 => exact HC0_1.out); rintro e w11 ⟨v821, rfl, ho0, hb⟩; have HO822 := zM (Kd.S_lower ho0 (below_size zB)); replace BK819 := zM (blk_below (g := gb819) (o := .cells #[.slice A0_0 l0_0.length c0_0, .slice A0_1 l0_1.length c0_1] 30 (0, 0)) (zK BK819.out) hb); replace HB := zM (below_step zB hb); (try clear hb); (try clear hb2); (try clear hk); (try clear hi); (try clear ho0); obtain ⟨Ao12, co12, eo12⟩ := Kd.S_slice HO822.out; subst eo12) | (go_at_call 59; (with_reducible refine (impl_spread.calls k _ _ t820 a2 t823 _ ?side1 ?side2 A5.out).mono ?_); (case side1 => exact zC (Kd.S_reads' HO822.out).2.2); (case side2 => exact (Kd.S_reads' HO822.out).2.1); rintro e w13 ⟨v824, rfl, ho0, hb⟩; replace HO822 := zM (Kd.S_elder' (by (with_reducible repeat (first | apply Kd.S_alloc | apply Kd.S_drewN | apply Kd.S_drew)); exact HO822.out) (Kd.R_base ho0) hb); have HO825 := zM (Kd.R_lower ho0 (below_size zB)); replace BK819 := zM (blk_below (g := gb819) (o := .cells #[.slice A0_0 l0_0.length c0_0, .slice A0_1 l0_1.length c0_1] 30 (0, 0)) (zK BK819.out) hb); replace HB := zM (below_step zB hb); (try clear hb); (try clear hb2); (try clear hk); (try clear hi); (try clear ho0); obtain ⟨Ao14, co14, eo14⟩ := Kd.R_slice HO825.out; subst eo14; have p826 : 0 ≤ (a1 : Int) := of_decide_eq_true zA; have q826 : a1 < (t823.length : Int) := of_decide_eq_true zA; obtain ⟨ad826, e826, hx826_0⟩ := Kd.at_int (Kd.R_reads' HO825.out).2.2 a1 p826 q826; cases e826; replace p826 := eq_true p826; replace q826 := eq_true q826)); try go_wp2_with (first | ((with_reducible refine gate_dst (N := 3) rfl ?_); refine zb (w := w) 3 #[.slice A0_0 l0_0.length c0_0, .slice A0_1 l0_1.length c0_1] 30 zB ?_; clear HB; intro gb819 w9 HB BK819 GW819; have GE819 := GW819; have hcz10_0 := zy BK819 0; have hcz10_1 := zy BK819 1; have hfz10_0 := blk_frozen BK819.out 0; have hfz10_1 := blk_frozen BK819.out 1) | (go_at_call 60; (with_reducible refine (impl_Space_roads.calls k _ _ l0_0 _ _ l0_1 t820 _ ?side1 ?side2 ?side3 ?side4 A4.out).mono ?_); (case side1 => exact zC (Kd.C_below HR0_0.out HB.out)); (case side2 => exact HC0_0.out); (case side3 => exact zC (Kd.C_below HR0_1.out HB.out)); (case side4 => exact HC0_1.out); rintro e w11 ⟨v821, rfl, ho0, hb⟩; have HO822 := zM (Kd.S_lower ho0 (below_size zB)); replace BK819 := zM (blk_below (g := gb819) (o := .cells #[.slice A0_0 l0_0.length c0_0, .slice A0_1 l0_1.length c0_1] 30 (0, 0)) (zK BK819.out) hb); replace HB := zM (below_step zB hb); (try clear hb); (try clear hb2); (try clear hk); (try clear hi); (try clear ho0); obtain ⟨Ao12, co12, eo12⟩ := Kd.S_slice HO822.out; subst eo12) | (go_at_call 59; (with_reducible refine (impl_spread.calls k _ _ t820 a2 t823 _ ?side1 ?side2 A5.out).mono ?_); (case side1 => exact zC (Kd.S_reads' HO822.out).2.2); (case side2 => exact (Kd.S_reads' HO822.out).2.1); rintro e w13 ⟨v824, rfl, ho0, hb⟩; replace HO822 := zM (Kd.S_elder' (by (with_reducible repeat (first | apply Kd.S_alloc | apply Kd.S_drewN | apply Kd.S_drew)); exact HO822.out) (Kd.R_base ho0) hb); have HO825 := zM (Kd.R_lower ho0 (below_size zB)); replace BK819 := zM (blk_below (g := gb819) (o := .cells #[.slice A0_0 l0_0.length c0_0, .slice A0_1 l0_1.length c0_1] 30 (0, 0)) (zK BK819.out) hb); replace HB := zM (below_step zB hb); (try clear hb); (try clear hb2); (try clear hk); (try clear hi); (try clear ho0); obtain ⟨Ao14, co14, eo14⟩ := Kd.R_slice HO825.out; subst eo14; have p826 : 0 ≤ (a1 : Int) := of_decide_eq_true zA; have q826 : a1 < (t823.length : Int) := of_decide_eq_true zA; obtain ⟨ad826, e826, hx826_0⟩ := Kd.at_int (Kd.R_reads' HO825.out).2.2 a1 p826 q826; cases e826; replace p826 := eq_true p826; replace q826 := eq_true q826)))
       go_ret2
       exact ⟨_, by first | rfl | (simp [errW_none, errW_some] <;> rfl) | (simp [*, errW_none, errW_some] <;> rfl), by first | exact Kd.R_nil _ _ _ _ _ | exact Kd.N_nil _ _ _ _ _ | exact Kd.V_nil _ _ _ _ _ | exact Kd.Q_nil _ _ _ _ _ | exact Kd.S_nil _ _ _ _ _, zB⟩
     · rw [if_neg c8] at H
       have c8b0 : decide ((rd t823 a1) < 0) = false := decide_eq_false c8
       clear c8
       obtain ⟨y827, hy827⟩ : ∃ y_ : List Int, y_ = (([a1] : List Int)) := ⟨_, rfl⟩
       replace H : (impl_Space_firstWay.l0 k a1 a2 t820 t823 y827) = some (r1, r2) := by first | (rw [hy827]; with_reducible exact H) | (have H2_ := (Option.bind_some _ _).symm.trans H; rw [hy827]; with_reducible exact H2_) | (have H2_ := (Option.bind_some _ _).symm.trans H; with_reducible exact H2_) | with_reducible exact H | (rw [hy827]; exact H) | exact H
       have Ny827 := Aside0.mk hy827
       clear hy827
       have H' := Aside0.mk H
       clear H
       go_enter Try.func87, Try.ntmps87
       go_wp2_with (first | ((with_reducible refine gate_dst (N := 3) rfl ?_); refine zb (w := w) 3 #[.slice A0_0 l0_0.length c0_0, .slice A0_1 l0_1.length c0_1] 30 zB ?_; clear HB; intro gb819 w15 HB BK819 GW819; have GE819 := GW819; have hcz16_0 := zy BK819 0; have hcz16_1 := zy BK819 1; have hfz16_0 := blk_frozen BK819.out 0; have hfz16_1 := blk_frozen BK819.out 1) | (go_at_call 60; (with_reducible refine (impl_Space_roads.calls k _ _ l0_0 _ _ l0_1 t820 _ ?side1 ?side2 ?side3 ?side4 A4.out).mono ?_); (case side1 => exact zC (Kd.C_below HR0_0.out HB.out)); (case side2 => exact HC0_0.out); (case side3 => exact zC (Kd.C_below HR0_1.out HB.out)); (case side4 => exact HC0_1.out); rintro e w17 ⟨v821, rfl, ho0, hb⟩; have HO822 := zM (Kd.S_lower ho0 (below_size zB)); replace BK819 := zM (blk_below (g := gb819) (o := .cells #[.slice A0_0 l0_0.length c0_0, .slice A0_1 l0_1.length c0_1] 30 (0, 0)) (zK BK819.out) hb); replace HB := zM (below_step zB hb); (try clear hb); (try clear hb2); (try clear hk); (try clear hi); (try clear ho0); obtain ⟨Ao18, co18, eo18⟩ := Kd.S_slice HO822.out; subst eo18) | (go_at_call 59; (with_reducible refine (impl_spread.calls k _ _ t820 a2 t823 _ ?side1 ?side2 A5.out).mono ?_); (case side1 => exact zC (Kd.S_reads' HO822.out).2.2); (case side2 => exact (Kd.S_reads' HO822.out).2.1); rintro e w19 ⟨v824, rfl, ho0, hb⟩; replace HO822 := zM (Kd.S_elder' (by (with_reducible repeat (first | apply Kd.S_alloc | apply Kd.S_drewN | apply Kd.S_drew)); exact HO822.out) (Kd.R_base ho0) hb); have HO825 := zM (Kd.R_lower ho0 (below_size zB)); replace BK819 := zM (blk_below (g := gb819) (o := .cells #[.slice A0_0 l0_0.length c0_0, .slice A0_1 l0_1.length c0_1] 30 (0, 0)) (zK BK819.out) hb); replace HB := zM (below_step zB hb); (try clear hb); (try clear hb2); (try clear hk); (try clear hi); (try clear ho0); obtain ⟨Ao20, co20, eo20⟩ := Kd.R_slice HO825.out; subst eo20; have p826 : 0 ≤ (a1 : Int) := of_decide_eq_true zA; have q826 : a1 < (t823.length : Int) := of_decide_eq_true zA; obtain ⟨ad826, e826, hx826_0⟩ := Kd.at_int (Kd.R_reads' HO825.out).2.2 a1 p826 q826; cases e826; replace p826 := eq_true p826; replace q826 := eq_true q826) | ((with_reducible refine gate_dst (N := 24) rfl ?_); refine Kd.R_lit (Kd.int .i64) _ 3 ?hg (N := 24) ?hd (xs := ([a1] : List Int)) (inner := [.int .i64 a1]) (ok := fun _ => True) (okp := fun _ => True) ?hr ?hp (fun _ hk => hk) trivial (Below.refl _ _) (Nat.le_refl _) (by simp) ?_; (case hd => rfl); (case hg => rfl); (case hr => first | (go_simp; done) | (go_simp; rfl)); (case hp => exact (Reps.one (show Kd.M (Kd.int .i64) _ _ _ a1 [.int .i64 a1] from rfl) (Reps.none _ _))); intro v828 w21 ho22 hb hg_ hnew_; clear hg_ hnew_; (first | rw [← Ny827.out] at ho22 | (simp only [Int.reduceToNat] at ho22; rw [← Ny827.out] at ho22)); replace HO822 := zM (Kd.S_elder' (by (with_reducible repeat (first | apply Kd.S_alloc | apply Kd.S_drewN | apply Kd.S_drew)); exact HO822.out) (Kd.R_base ho22) hb); have HO829 := zM (Kd.R_lower (Kd.R_new' ho22 (Kd.R_lt (zR HO825.out))) (below_size zB)); replace HO825 := zM (Kd.R_elder' (zR HO825.out) (Kd.R_base ho22) hb); replace BK819 := zM (blk_below (g := gb819) (o := .cells #[.slice A0_0 l0_0.length c0_0, .slice A0_1 l0_1.length c0_1] 30 (0, 0)) (zK BK819.out) hb); replace HB := zM (below_step zB hb); clear hb ho22))
       repeat (go_quiet (first | ((with_reducible refine gate_dst (N := 3) rfl ?_); refine zb (w := w) 3 #[.slice A0_0 l0_0.length c0_0, .slice A0_1 l0_1.length c0_1] 30 zB ?_; clear HB; intro gb819 w15 HB BK819 GW819; have GE819 := GW819; have hcz16_0 := zy BK819 0; have hcz16_1 := zy BK819 1; have hfz16_0 := blk_frozen BK819.out 0; have hfz16_1 := blk_frozen BK819.out 1) | (go_at_call 60; (with_reducible refine (impl_Space_roads.calls k _ _ l0_0 _ _ l0_1 t820 _ ?side1 ?side2 ?side3 ?side4 A4.out).mono ?_); (case side1 => exact zC (Kd.C_below HR0_0.out HB.out)); (case side2 => exact HC0_0.out); (case side3 => exact zC (Kd.C_below HR0_1.out HB.out)); (case side4 => exact HC0_1.out); rintro e w17 ⟨v821, rfl, ho0, hb⟩; have HO822 := zM (Kd.S_lower ho0 (below_size zB)); replace BK819 := zM (blk_below (g := gb819) (o := .cells #[.slice A0_0 l0_0.length c0_0, .slice A0_1 l0_1.length c0_1] 30 (0, 0)) (zK BK819.out) hb); replace HB := zM (below_step zB hb); (try clear hb); (try clear hb2); (try clear hk); (try clear hi); (try clear ho0); obtain ⟨Ao18, co18, eo18⟩ := Kd.S_slice HO822.out; subst eo18) | (go_at_call 59; (with_reducible refine (impl_spread.calls k _ _ t820 a2 t823 _ ?side1 ?side2 A5.out).mono ?_); (case side1 => exact zC (Kd.S_reads' HO822.out).2.2); (case side2 => exact (Kd.S_reads' HO822.out).2.1); rintro e w19 ⟨v824, rfl, ho0, hb⟩; replace HO822 := zM (Kd.S_elder' (by (with_reducible repeat (first | apply Kd.S_alloc | apply Kd.S_drewN | apply Kd.S_drew)); exact HO822.out) (Kd.R_base ho0) hb); have HO825 := zM (Kd.R_lower ho0 (below_size zB)); replace BK819 := zM (blk_below (g := gb819) (o := .cells #[.slice A0_0 l0_0.length c0_0, .slice A0_1 l0_1.length c0_1] 30 (0, 0)) (zK BK819.out) hb); replace HB := zM (below_step zB hb); (try clear hb); (try clear hb2); (try clear hk); (try clear hi); (try clear ho0); obtain ⟨Ao20, co20, eo20⟩ := Kd.R_slice HO825.out; subst eo20; have p826 : 0 ≤ (a1 : Int) := of_decide_eq_true zA; have q826 : a1 < (t823.length : Int) := of_decide_eq_true zA; obtain ⟨ad826, e826, hx826_0⟩ := Kd.at_int (Kd.R_reads' HO825.out).2.2 a1 p826 q826; cases e826; replace p826 := eq_true p826; replace q826 := eq_true q826) | ((with_reducible refine gate_dst (N := 24) rfl ?_); refine Kd.R_lit (Kd.int .i64) _ 3 ?hg (N := 24) ?hd (xs := ([a1] : List Int)) (inner := [.int .i64 a1]) (ok := fun _ => True) (okp := fun _ => True) ?hr ?hp (fun _ hk => hk) trivial (Below.refl _ _) (Nat.le_refl _) (by simp) ?_; (case hd => rfl); (case hg => rfl); (case hr => first | (go_simp; done) | (go_simp; rfl)); (case hp => exact (Reps.one (show Kd.M (Kd.int .i64) _ _ _ a1 [.int .i64 a1] from rfl) (Reps.none _ _))); intro v828 w21 ho22 hb hg_ hnew_; clear hg_ hnew_; (first | rw [← Ny827.out] at ho22 | (simp only [Int.reduceToNat] at ho22; rw [← Ny827.out] at ho22)); replace HO822 := zM (Kd.S_elder' (by (with_reducible repeat (first | apply Kd.S_alloc | apply Kd.S_drewN | apply Kd.S_drew)); exact HO822.out) (Kd.R_base ho22) hb); have HO829 := zM (Kd.R_lower (Kd.R_new' ho22 (Kd.R_lt (zR HO825.out))) (below_size zB)); replace HO825 := zM (Kd.R_elder' (zR HO825.out) (Kd.R_base ho22) hb); replace BK819 := zM (blk_below (g := gb819) (o := .cells #[.slice A0_0 l0_0.length c0_0, .slice A0_1 l0_1.length c0_1] 30 (0, 0)) (zK BK819.out) hb); replace HB := zM (below_step zB hb); clear hb ho22)); try go_wp2_with (first | ((with_reducible refine gate_dst (N := 3) rfl ?_); refine zb (w := w) 3 #[.slice A0_0 l0_0.length c0_0, .slice A0_1 l0_1.length c0_1] 30 zB ?_; clear HB; intro gb819 w15 HB BK819 GW819; have GE819 := GW819; have hcz16_0 := zy BK819 0; have hcz16_1 := zy BK819 1; have hfz16_0 := blk_frozen BK819.out 0; have hfz16_1 := blk_frozen BK819.out 1) | (go_at_call 60; (with_reducible refine (impl_Space_roads.calls k _ _ l0_0 _ _ l0_1 t820 _ ?side1 ?side2 ?side3 ?side4 A4.out).mono ?_); (case side1 => exact zC (Kd.C_below HR0_0.out HB.out)); (case side2 => exact HC0_0.out); (case side3 => exact zC (Kd.C_below HR0_1.out HB.out)); (case side4 => exact HC0_1.out); rintro e w17 ⟨v821, rfl, ho0, hb⟩; have HO822 := zM (Kd.S_lower ho0 (below_size zB)); replace BK819 := zM (blk_below (g := gb819) (o := .cells #[.slice A0_0 l0_0.length c0_0, .slice A0_1 l0_1.length c0_1] 30 (0, 0)) (zK BK819.out) hb); replace HB := zM (below_step zB hb); (try clear hb); (try clear hb2); (try clear hk); (try clear hi); (try clear ho0); obtain ⟨Ao18, co18, eo18⟩ := Kd.S_slice HO822.out; subst eo18) | (go_at_call 59; (with_reducible refine (impl_spread.calls k _ _ t820 a2 t823 _ ?side1 ?side2 A5.out).mono ?_); (case side1 => exact zC (Kd.S_reads' HO822.out).2.2); (case side2 => exact (Kd.S_reads' HO822.out).2.1); rintro e w19 ⟨v824, rfl, ho0, hb⟩; replace HO822 := zM (Kd.S_elder' (by (with_reducible repeat (first | apply Kd.S_alloc | apply Kd.S_drewN | apply Kd.S_drew)); exact HO822.out) (Kd.R_base ho0) hb); have HO825 := zM (Kd.R_lower ho0 (below_size zB)); replace BK819 := zM (blk_below (g := gb819) (o := .cells #[.slice A0_0 l0_0.length c0_0, .slice A0_1 l0_1.length c0_1] 30 (0, 0)) (zK BK819.out) hb); replace HB := zM (below_step zB hb); (try clear hb); (try clear hb2); (try clear hk); (try clear hi); (try clear ho0); obtain ⟨Ao20, co20, eo20⟩ := Kd.R_slice HO825.out; subst eo20; have p826 : 0 ≤ (a1 : Int) := of_decide_eq_true zA; have q826 : a1 < (t823.length : Int) := of_decide_eq_true zA; obtain ⟨ad826, e826, hx826_0⟩ := Kd.at_int (Kd.R_reads' HO825.out).2.2 a1 p826 q826; cases e826; replace p826 := eq_true p826; replace q826 := eq_true q826) | ((with_reducible refine gate_dst (N := 24) rfl ?_); refine Kd.R_lit (Kd.int .i64) _ 3 ?hg (N := 24) ?hd (xs := ([a1] : List Int)) (inner := [.int .i64 a1]) (ok := fun _ => True) (okp := fun _ => True) ?hr ?hp (fun _ hk => hk) trivial (Below.refl _ _) (Nat.le_refl _) (by simp) ?_; (case hd => rfl); (case hg => rfl); (case hr => first | (go_simp; done) | (go_simp; rfl)); (case hp => exact (Reps.one (show Kd.M (Kd.int .i64) _ _ _ a1 [.int .i64 a1] from rfl) (Reps.none _ _))); intro v828 w21 ho22 hb hg_ hnew_; clear hg_ hnew_; (first | rw [← Ny827.out] at ho22 | (simp only [Int.reduceToNat] at ho22; rw [← Ny827.out] at ho22)); replace HO822 := zM (Kd.S_elder' (by (with_reducible repeat (first | apply Kd.S_alloc | apply Kd.S_drewN | apply Kd.S_drew)); exact HO822.out) (Kd.R_base ho22) hb); have HO829 := zM (Kd.R_lower (Kd.R_new' ho22 (Kd.R_lt (zR HO825.out))) (below_size zB)); replace HO825 := zM (Kd.R_elder' (zR HO825.out) (Kd.R_base ho22) hb); replace BK819 := zM (blk_below (g := gb819) (o := .cells #[.slice A0_0 l0_0.length c0_0, .slice A0_1 l0_1.length c0_1] 30 (0, 0)) (zK BK819.out) hb); replace HB := zM (below_step zB hb); clear hb ho22)))
       go_loopg [1, 10] k (fun kq v1 v10 w' => ∃ (x1_1 : Int) (x10_1 : List Int), v1 = .int .i64 x1_1 ∧ Aside0 (impl_Space_firstWay.l0 kq x1_1 a2 t820 t823 x10_1 = some (r1, r2)) ∧ Aside0 (kq ≤ k) ∧ Aside0 (Kd.S (Kd.slice 3 (Kd.int .i64)) 27 w' w.heap.size (fun k_ => some k_ ≠ ((.slice (some ad826) t823.length co20) : Value).ownBlock ∧ some k_ ≠ (v10 : Value).ownBlock) (.slice Ao18 t820.length co18) t820) ∧ Aside0 (Kd.R (Kd.int .i64) 3 w' w.heap.size (fun k_ => some k_ ≠ (v10 : Value).ownBlock) (.slice (some ad826) t823.length co20) t823) ∧ Aside0 (Kd.R (Kd.int .i64) 3 w' w.heap.size (fun k_ => some k_ ≠ ((.slice (some ad826) t823.length co20) : Value).ownBlock) v10 x10_1) ∧ Aside0 (w'.heap[gb819]? = some (.cells #[(.slice A0_0 l0_0.length c0_0), (.slice A0_1 l0_1.length c0_1)] 30 (0, 0))) ∧ Aside0 (Below w.heap.size w w'))
       case atStart => exact ⟨(a1), (y827), (by first | rfl | (simp; done) | (simp [*]; done)), H', ⟨Nat.le_refl _⟩, ⟨by (with_reducible repeat (first | apply Kd.S_alloc | apply Kd.S_drewN | apply Kd.S_drew)); exact Kd.S_mono HO822.out (fun _ hk => ⟨hk.1.2, hk.2⟩)⟩, ⟨by (with_reducible repeat (first | apply Kd.R_alloc | apply Kd.R_drewN | apply Kd.R_drew)); exact Kd.R_mono HO825.out (fun _ hk => hk.2)⟩, ⟨by (with_reducible repeat (first | apply Kd.R_alloc | apply Kd.R_drewN | apply Kd.R_drew)); exact Kd.R_mono HO829.out (fun _ hk => hk.2)⟩, ⟨zK BK819.out⟩, ⟨zB⟩⟩
       case round =>
        clear H'
        try clear p2
        try clear c6
        try clear c6b0
        try clear c7
        try clear c7b0
        try clear c8
        try clear c8b0
        try clear p8
        try clear q8
        try clear hx8
        try clear hcz10_0
        try clear hcz10_1
        try clear hcz16_0
        try clear hcz16_1
        try clear hfz10_0
        try clear hfz10_1
        try clear hfz16_0
        try clear hfz16_1
        try clear hx826_0
        try clear p826
        try clear q826
        obtain ⟨x1_1, x10_1, rfl, HA, HK1, HO_8, HO_9, HO_10, BK819, HB⟩ := hrel
        cases gk with
        | zero => exact absurd HA.out (by simp [impl_Space_firstWay.l0])
        | succ k1 =>
         have H := HA.out
         clear HA
         simp only [impl_Space_firstWay.l0] at H
         by_cases c23 : x1_1 = a2
         · rw [if_pos c23] at H
           have c23b0 : (x1_1 == a2) = true := beq_iff_eq.mpr c23
           have c23b1 : (x1_1 != a2) = false := bne_eq_false_iff_eq.mpr c23
           clear c23
           simp only [Option.some.injEq, Prod.mk.injEq] at H
           obtain ⟨rfl, rfl⟩ := H
           go_wp2
           repeat (go_quiet (fail); try go_wp2)
           go_ret2
           exact ⟨_, by first | rfl | (simp [errW_none, errW_some] <;> rfl) | (simp [*, errW_none, errW_some] <;> rfl), by (with_reducible repeat (first | apply Kd.R_alloc | apply Kd.R_drewN | apply Kd.R_drew)); exact Kd.R_mono HO_10.out (fun _ hk => trivial), zB⟩
         · rw [if_neg c23] at H
           have c23b0 : (x1_1 == a2) = false := beq_eq_false_iff_ne.mpr c23
           have c23b1 : (x1_1 != a2) = true := bne_iff_ne.mpr c23
           by_cases c24 : 0 ≤ x1_1
           · rw [if_pos c24] at H
             have c24b0 := decide_eq_true c24
             clear c24
             by_cases c25 : x1_1 < (t820.length : Int)
             · rw [if_pos c25] at H
               have c25b0 := decide_eq_true c25
               clear c25
               have H' := Aside0.mk H
               clear H
               have p830 : 0 ≤ (x1_1 : Int) := of_decide_eq_true zA
               have q830 : x1_1 < (t820.length : Int) := of_decide_eq_true zA
               obtain ⟨ad830, A830_0, c830_0, e830, hx830_0, hl830_0, hi830_0⟩ := at_L1 (Kd.S_reads' HO_8.out).2.2 x1_1 p830 q830
               cases e830
               obtain ⟨ce830, hce830, hMe830, hcc830⟩ := Kd.S_get HO_8.out [] x1_1 p830 (by first | exact q830 | exact of_decide_eq_true zA | (have e_ := (Kd.S_reads' HO_8.out).1; omega))
               obtain ⟨ve830_0, rfl, ge830_0⟩ := hMe830
               have hv830_0 := hcc830 0 _ rfl
               rw [Nat.add_zero, show ((Kd.slice 3 (Kd.int .i64))).sz = 1 from rfl, Nat.mul_one] at hv830_0
               replace hv830_0 := Option.some.inj (hv830_0.symm.trans hx830_0)
               rw [hv830_0] at ge830_0
               have HL830_0 := zM (show Kd.R (Kd.int .i64) 3 _ _ _ _ (rd_L1 t820 x1_1) from ge830_0)
               clear hv830_0 ge830_0
               clear hcc830 hce830
               have HR830_0 := Aside0.mk hi830_0
               have HC830_0 := Aside0.mk hl830_0
               clear hi830_0 hl830_0
               replace p830 := eq_true p830
               replace q830 := eq_true q830
               go_wp2
               repeat (go_quiet (fail); try go_wp2)
               go_loopg [1, 33] k1 (fun kq v1 v33 w' => ∃ (x1_2 : Int) (x33_2 : Int), v1 = .int .i64 x1_2 ∧ v33 = .int .i64 x33_2 ∧ Aside0 (impl_Space_firstWay.l1 kq x1_2 a2 t820 t823 x10_1 (rd_L1 t820 x1_1) ((rd_L1 t820 x1_1).length : Int) x33_2 = some (r1, r2)) ∧ Aside0 (kq ≤ k1) ∧ Aside0 (Kd.S (Kd.slice 3 (Kd.int .i64)) 27 w' w.heap.size (fun k_ => some k_ ≠ ((.slice (some ad826) t823.length co20) : Value).ownBlock ∧ some k_ ≠ (u10 : Value).ownBlock) (.slice (some ad830) t820.length co18) t820) ∧ Aside0 (Kd.R (Kd.int .i64) 3 w' w.heap.size (fun k_ => some k_ ≠ (u10 : Value).ownBlock) (.slice (some ad826) t823.length co20) t823) ∧ Aside0 (Kd.R (Kd.int .i64) 3 w' w.heap.size (fun k_ => some k_ ≠ ((.slice (some ad826) t823.length co20) : Value).ownBlock) u10 x10_1) ∧ Aside0 (w'.heap[gb819]? = some (.cells #[(.slice A0_0 l0_0.length c0_0), (.slice A0_1 l0_1.length c0_1)] 30 (0, 0))) ∧ Aside0 (Kd.C (Kd.int .i64) w' A830_0 (rd_L1 t820 x1_1).length (rd_L1 t820 x1_1)) ∧ Aside0 (Below w.heap.size w w'))
               case atStart => exact ⟨(x1_1), (0), (by first | rfl | (simp; done) | (simp [*]; done)), (by first | rfl | (simp; done) | (simp [*]; done)), H', ⟨Nat.le_refl _⟩, ⟨by (with_reducible repeat (first | apply Kd.S_alloc | apply Kd.S_drewN | apply Kd.S_drew)); exact HO_8.out⟩, ⟨zR HO_9.out⟩, ⟨zR HO_10.out⟩, ⟨zK BK819.out⟩, ⟨zC HR830_0.out⟩, ⟨zB⟩⟩
               case round =>
                clear H'
                try clear c2
                try clear p2
                try clear c6
                try clear c6b0
                try clear c7
                try clear c7b0
                try clear c8
                try clear c8b0
                try clear p8
                try clear q8
                try clear hx8
                try clear c23
                try clear c23b0
                try clear c23b1
                try clear c24
                try clear c24b0
                try clear c25
                try clear c25b0
                try clear hcz10_0
                try clear hcz10_1
                try clear hcz16_0
                try clear hcz16_1
                try clear hfz10_0
                try clear hfz10_1
                try clear hfz16_0
                try clear hfz16_1
                try clear hx826_0
                try clear hx830_0
                try clear p2
                try clear p8
                try clear p826
                try clear p830
                try clear q8
                try clear q826
                try clear q830
                obtain ⟨x1_2, x33_2, rfl, rfl, HA, HK2, HO_8, HO_9, HO_10, BK819, HR830_0, HB⟩ := hrel
                cases gk with
                | zero => exact absurd HA.out (by simp [impl_Space_firstWay.l1])
                | succ k2 =>
                 have H := HA.out
                 clear HA
                 simp only [impl_Space_firstWay.l1] at H
                 by_cases c26 : x33_2 < ((rd_L1 t820 x1_1).length : Int)
                 · rw [if_pos c26] at H
                   have c26b0 := decide_eq_true c26
                   clear c26
                   by_cases c27 : 0 ≤ x33_2
                   · rw [if_pos c27] at H
                     have c27b0 := decide_eq_true c27
                     clear c27
                     by_cases c28 : x33_2 < ((rd_L1 t820 x1_1).length : Int)
                     · rw [if_pos c28] at H
                       have c28b0 := decide_eq_true c28
                       clear c28
                       by_cases c29 : 0 ≤ (rd (rd_L1 t820 x1_1) x33_2)
                       · rw [if_pos c29] at H
                         have c29b0 := decide_eq_true c29
                         clear c29
                         by_cases c30 : (rd (rd_L1 t820 x1_1) x33_2) < (t823.length : Int)
                         · rw [if_pos c30] at H
                           have c30b0 := decide_eq_true c30
                           clear c30
                           by_cases c31 : 0 ≤ x1_2
                           · rw [if_pos c31] at H
                             have c31b0 := decide_eq_true c31
                             clear c31
                             by_cases c32 : x1_2 < (t823.length : Int)
                             · rw [if_pos c32] at H
                               have c32b0 := decide_eq_true c32
                               clear c32
                               by_cases c33 : (rd t823 (rd (rd_L1 t820 x1_1) x33_2)) = (wrap64 ((rd t823 x1_2) - 1))
                               · rw [if_pos c33] at H
                                 have c33b0 : ((rd t823 (rd (rd_L1 t820 x1_1) x33_2)) == (wrap64 ((rd t823 x1_2) - 1))) = true := beq_iff_eq.mpr c33
                                 have c33b1 : ((rd t823 (rd (rd_L1 t820 x1_1) x33_2)) != (wrap64 ((rd t823 x1_2) - 1))) = false := bne_eq_false_iff_eq.mpr c33
                                 clear c33
                                 by_cases c34 : x10_1.length < 17592186044416
                                 · rw [if_pos c34] at H
                                   have LMc34 := Aside0.mk c34
                                   clear c34
                                   obtain ⟨y834, hy834⟩ : ∃ y_ : List Int, y_ = (x10_1 ++ [rd (rd_L1 t820 x1_1) x33_2]) := ⟨_, rfl⟩
                                   replace H : (impl_Space_firstWay.l0 k2 (rd (rd_L1 t820 x1_1) x33_2) a2 t820 t823 y834) = some (r1, r2) := by first | (rw [hy834]; with_reducible exact H) | (have H2_ := (Option.bind_some _ _).symm.trans H; rw [hy834]; with_reducible exact H2_) | (have H2_ := (Option.bind_some _ _).symm.trans H; with_reducible exact H2_) | with_reducible exact H | (rw [hy834]; exact H) | exact H
                                   have Ny834 := Aside0.mk hy834
                                   clear hy834
                                   have H' := Aside0.mk H
                                   clear H
                                   have p831 : 0 ≤ (x33_2 : Int) := of_decide_eq_true zA
                                   have q831 : x33_2 < ((rd_L1 t820 x1_1).length : Int) := of_decide_eq_true zA
                                   obtain ⟨ad831, e831, hx831_0⟩ := Kd.at_int HR830_0.out x33_2 p831 q831
                                   cases e831
                                   (try replace hx831_0 := (HB.out.cell (World.block_lt_of_cell? w _ hx831_0)).trans hx831_0)
                                   replace p831 := eq_true p831
                                   replace q831 := eq_true q831
                                   have p832 : 0 ≤ ((rd (rd_L1 t820 x1_1) x33_2) : Int) := of_decide_eq_true zA
                                   have q832 : (rd (rd_L1 t820 x1_1) x33_2) < (t823.length : Int) := of_decide_eq_true zA
                                   obtain ⟨ad832, e832, hx832_0⟩ := Kd.at_int (Kd.R_reads' HO_9.out).2.2 (rd (rd_L1 t820 x1_1) x33_2) p832 q832
                                   obtain rfl : ad826 = ad832 := (by injection e832)
                                   replace p832 := eq_true p832
                                   replace q832 := eq_true q832
                                   have p833 : 0 ≤ (x1_2 : Int) := of_decide_eq_true zA
                                   have q833 : x1_2 < (t823.length : Int) := of_decide_eq_true zA
                                   obtain ⟨ad833, e833, hx833_0⟩ := Kd.at_int (Kd.R_reads' HO_9.out).2.2 x1_2 p833 q833
                                   obtain rfl : ad826 = ad833 := (by injection e833)
                                   replace p833 := eq_true p833
                                   replace q833 := eq_true q833
                                   go_wp2_with (first | ((with_reducible refine gate_builtin (b := .append) (xs := #[.tmp 49, .tmp 51]) rfl ?_); at_builtin; refine Kd.R_append (Kd.int .i64) (w0 := w) w.heap.size rfl (.tmp 49) (.tmp 51) 27 3 (.int .i64 0) 8 rfl Try.underlying27 info3 rfl (by decide) (by omega) u10 x10_1 (rd (rd_L1 t820 x1_1) x33_2) [.int .i64 (rd (rd_L1 t820 x1_1) x33_2)] (fun k_ => some k_ ≠ (.slice (some ad826) t823.length co20 : Value).ownBlock) (fun _ => False) rfl rfl ?aP (fun _ hk => hk.elim) ?aF ?aO ?aB ?aS ?aL ?_; (case aP => exact rfl); (case aB => exact zB); (case aF => exact (fun k_ hk => Kd.fresh' (Kd.R_lt (zR HO_9.out)) k_ hk)); (case aO => exact (zR HO_10.out)); (case aS => exact (below_size zB)); (case aL => have := LMc34.out; omega); intro v835 w35 ho hb hg hat; rw [← Ny834.out] at ho; replace HO_8 := zM (Kd.S_after (ok := (fun k_ => some k_ ≠ (.slice (some ad826) t823.length co20 : Value).ownBlock)) (by (with_reducible repeat (first | apply Kd.S_alloc | apply Kd.S_drewN | apply Kd.S_drew)); exact HO_8.out) hg hat); replace HO_9 := zM (Kd.R_after (ok := (fun _ => True)) (by (with_reducible repeat (first | apply Kd.R_alloc | apply Kd.R_drewN | apply Kd.R_drew)); exact Kd.R_mono HO_9.out (fun _ hk => ⟨trivial, hk⟩)) hg hat); replace BK819 := zM (blk_grown (g := gb819) (o := .cells #[.slice A0_0 l0_0.length c0_0, .slice A0_1 l0_1.length c0_1] 30 (0, 0)) (zK BK819.out) hg (Kd.R_ne HO_10.out BK819.out (by decide))); replace HB := zM (hb); have HO836 := zM (ho); clear HO_10; clear ho hb hg hat))
                                   repeat (go_quiet (first | ((with_reducible refine gate_builtin (b := .append) (xs := #[.tmp 49, .tmp 51]) rfl ?_); at_builtin; refine Kd.R_append (Kd.int .i64) (w0 := w) w.heap.size rfl (.tmp 49) (.tmp 51) 27 3 (.int .i64 0) 8 rfl Try.underlying27 info3 rfl (by decide) (by omega) u10 x10_1 (rd (rd_L1 t820 x1_1) x33_2) [.int .i64 (rd (rd_L1 t820 x1_1) x33_2)] (fun k_ => some k_ ≠ (.slice (some ad826) t823.length co20 : Value).ownBlock) (fun _ => False) rfl rfl ?aP (fun _ hk => hk.elim) ?aF ?aO ?aB ?aS ?aL ?_; (case aP => exact rfl); (case aB => exact zB); (case aF => exact (fun k_ hk => Kd.fresh' (Kd.R_lt (zR HO_9.out)) k_ hk)); (case aO => exact (zR HO_10.out)); (case aS => exact (below_size zB)); (case aL => have := LMc34.out; omega); intro v835 w35 ho hb hg hat; rw [← Ny834.out] at ho; replace HO_8 := zM (Kd.S_after (ok := (fun k_ => some k_ ≠ (.slice (some ad826) t823.length co20 : Value).ownBlock)) (by (with_reducible repeat (first | apply Kd.S_alloc | apply Kd.S_drewN | apply Kd.S_drew)); exact HO_8.out) hg hat); replace HO_9 := zM (Kd.R_after (ok := (fun _ => True)) (by (with_reducible repeat (first | apply Kd.R_alloc | apply Kd.R_drewN | apply Kd.R_drew)); exact Kd.R_mono HO_9.out (fun _ hk => ⟨trivial, hk⟩)) hg hat); replace BK819 := zM (blk_grown (g := gb819) (o := .cells #[.slice A0_0 l0_0.length c0_0, .slice A0_1 l0_1.length c0_1] 30 (0, 0)) (zK BK819.out) hg (Kd.R_ne HO_10.out BK819.out (by decide))); replace HB := zM (hb); have HO836 := zM (ho); clear HO_10; clear ho hb hg hat)); try go_wp2_with (first | ((with_reducible refine gate_builtin (b := .append) (xs := #[.tmp 49, .tmp 51]) rfl ?_); at_builtin; refine Kd.R_append (Kd.int .i64) (w0 := w) w.heap.size rfl (.tmp 49) (.tmp 51) 27 3 (.int .i64 0) 8 rfl Try.underlying27 info3 rfl (by decide) (by omega) u10 x10_1 (rd (rd_L1 t820 x1_1) x33_2) [.int .i64 (rd (rd_L1 t820 x1_1) x33_2)] (fun k_ => some k_ ≠ (.slice (some ad826) t823.length co20 : Value).ownBlock) (fun _ => False) rfl rfl ?aP (fun _ hk => hk.elim) ?aF ?aO ?aB ?aS ?aL ?_; (case aP => exact rfl); (case aB => exact zB); (case aF => exact (fun k_ hk => Kd.fresh' (Kd.R_lt (zR HO_9.out)) k_ hk)); (case aO => exact (zR HO_10.out)); (case aS => exact (below_size zB)); (case aL => have := LMc34.out; omega); intro v835 w35 ho hb hg hat; rw [← Ny834.out] at ho; replace HO_8 := zM (Kd.S_after (ok := (fun k_ => some k_ ≠ (.slice (some ad826) t823.length co20 : Value).ownBlock)) (by (with_reducible repeat (first | apply Kd.S_alloc | apply Kd.S_drewN | apply Kd.S_drew)); exact HO_8.out) hg hat); replace HO_9 := zM (Kd.R_after (ok := (fun _ => True)) (by (with_reducible repeat (first | apply Kd.R_alloc | apply Kd.R_drewN | apply Kd.R_drew)); exact Kd.R_mono HO_9.out (fun _ hk => ⟨trivial, hk⟩)) hg hat); replace BK819 := zM (blk_grown (g := gb819) (o := .cells #[.slice A0_0 l0_0.length c0_0, .slice A0_1 l0_1.length c0_1] 30 (0, 0)) (zK BK819.out) hg (Kd.R_ne HO_10.out BK819.out (by decide))); replace HB := zM (hb); have HO836 := zM (ho); clear HO_10; clear ho hb hg hat)))
                                   go_roundg k2
                                   case measure => have := HK1.out; have := HK2.out; omega
                                   case rel => exact ⟨(rd (rd_L1 t820 x1_1) x33_2), (y834), (by first | rfl | (simp; done) | (simp [*]; done)), H', ⟨by have := HK1.out; have := HK2.out; omega⟩, ⟨by (with_reducible repeat (first | apply Kd.S_alloc | apply Kd.S_drewN | apply Kd.S_drew)); exact HO_8.out⟩, ⟨by (with_reducible repeat (first | apply Kd.R_alloc | apply Kd.R_drewN | apply Kd.R_drew)); exact Kd.R_mono HO_9.out (fun _ hk => hk.2)⟩, ⟨zR HO836.out⟩, ⟨zK BK819.out⟩, ⟨zB⟩⟩
                                 · rw [if_neg c34] at H
                                   exact absurd H (by simp)
                               · rw [if_neg c33] at H
                                 have c33b0 : ((rd t823 (rd (rd_L1 t820 x1_1) x33_2)) == (wrap64 ((rd t823 x1_2) - 1))) = false := beq_eq_false_iff_ne.mpr c33
                                 have c33b1 : ((rd t823 (rd (rd_L1 t820 x1_1) x33_2)) != (wrap64 ((rd t823 x1_2) - 1))) = true := bne_iff_ne.mpr c33
                                 have H' := Aside0.mk H
                                 clear H
                                 have p831 : 0 ≤ (x33_2 : Int) := of_decide_eq_true zA
                                 have q831 : x33_2 < ((rd_L1 t820 x1_1).length : Int) := of_decide_eq_true zA
                                 obtain ⟨ad831, e831, hx831_0⟩ := Kd.at_int HR830_0.out x33_2 p831 q831
                                 cases e831
                                 (try replace hx831_0 := (HB.out.cell (World.block_lt_of_cell? w _ hx831_0)).trans hx831_0)
                                 replace p831 := eq_true p831
                                 replace q831 := eq_true q831
                                 have p832 : 0 ≤ ((rd (rd_L1 t820 x1_1) x33_2) : Int) := of_decide_eq_true zA
                                 have q832 : (rd (rd_L1 t820 x1_1) x33_2) < (t823.length : Int) := of_decide_eq_true zA
                                 obtain ⟨ad832, e832, hx832_0⟩ := Kd.at_int (Kd.R_reads' HO_9.out).2.2 (rd (rd_L1 t820 x1_1) x33_2) p832 q832
                                 obtain rfl : ad826 = ad832 := (by injection e832)
                                 replace p832 := eq_true p832
                                 replace q832 := eq_true q832
                                 have p833 : 0 ≤ (x1_2 : Int) := of_decide_eq_true zA
                                 have q833 : x1_2 < (t823.length : Int) := of_decide_eq_true zA
                                 obtain ⟨ad833, e833, hx833_0⟩ := Kd.at_int (Kd.R_reads' HO_9.out).2.2 x1_2 p833 q833
                                 obtain rfl : ad826 = ad833 := (by injection e833)
                                 replace p833 := eq_true p833
                                 replace q833 := eq_true q833
                                 go_wp2
                                 repeat (go_quiet (fail); try go_wp2)
                                 go_roundg k2
                                 case measure => have := HK1.out; have := HK2.out; omega
                                 case rel => exact ⟨(x1_2), (wrap64 (x33_2 + 1)), (by first | rfl | (simp; done) | (simp [*]; done)), (by first | rfl | (simp; done) | (simp [*]; done)), H', ⟨by have := HK1.out; have := HK2.out; omega⟩, ⟨by (with_reducible repeat (first | apply Kd.S_alloc | apply Kd.S_drewN | apply Kd.S_drew)); exact HO_8.out⟩, ⟨zR HO_9.out⟩, ⟨zR HO_10.out⟩, ⟨zK BK819.out⟩, ⟨zC HR830_0.out⟩, ⟨zB⟩⟩
                             · rw [if_neg c32] at H
                               exact absurd H (by simp)
                           · rw [if_neg c31] at H
                             exact absurd H (by simp)
                         · rw [if_neg c30] at H
                           exact absurd H (by simp)
                       · rw [if_neg c29] at H
                         exact absurd H (by simp)
                     · rw [if_neg c28] at H
                       exact absurd H (by simp)
                   · rw [if_neg c27] at H
                     exact absurd H (by simp)
                 · rw [if_neg c26] at H
                   have c26b0 : decide (x33_2 < ((rd_L1 t820 x1_1).length : Int)) = false := decide_eq_false c26
                   clear c26
                   by_cases c36 : x10_1.length < 17592186044416
                   · rw [if_pos c36] at H
                     have LMc36 := Aside0.mk c36
                     clear c36
                     obtain ⟨y837, hy837⟩ : ∃ y_ : List Int, y_ = (x10_1 ++ [x1_2]) := ⟨_, rfl⟩
                     replace H : (impl_Space_firstWay.l0 k2 x1_2 a2 t820 t823 y837) = some (r1, r2) := by first | (rw [hy837]; with_reducible exact H) | (have H2_ := (Option.bind_some _ _).symm.trans H; rw [hy837]; with_reducible exact H2_) | (have H2_ := (Option.bind_some _ _).symm.trans H; with_reducible exact H2_) | with_reducible exact H | (rw [hy837]; exact H) | exact H
                     have Ny837 := Aside0.mk hy837
                     clear hy837
                     have H' := Aside0.mk H
                     clear H
                     go_wp2_with (first | ((with_reducible refine gate_builtin (b := .append) (xs := #[.tmp 49, .tmp 51]) rfl ?_); at_builtin; refine Kd.R_append (Kd.int .i64) (w0 := w) w.heap.size rfl (.tmp 49) (.tmp 51) 27 3 (.int .i64 0) 8 rfl Try.underlying27 info3 rfl (by decide) (by omega) u10 x10_1 x1_2 [.int .i64 x1_2] (fun k_ => some k_ ≠ (.slice (some ad826) t823.length co20 : Value).ownBlock) (fun _ => False) rfl rfl ?aP (fun _ hk => hk.elim) ?aF ?aO ?aB ?aS ?aL ?_; (case aP => exact rfl); (case aB => exact zB); (case aF => exact (fun k_ hk => Kd.fresh' (Kd.R_lt (zR HO_9.out)) k_ hk)); (case aO => exact (zR HO_10.out)); (case aS => exact (below_size zB)); (case aL => have := LMc36.out; omega); intro v838 w37 ho hb hg hat; rw [← Ny837.out] at ho; replace HO_8 := zM (Kd.S_after (ok := (fun k_ => some k_ ≠ (.slice (some ad826) t823.length co20 : Value).ownBlock)) (by (with_reducible repeat (first | apply Kd.S_alloc | apply Kd.S_drewN | apply Kd.S_drew)); exact HO_8.out) hg hat); replace HO_9 := zM (Kd.R_after (ok := (fun _ => True)) (by (with_reducible repeat (first | apply Kd.R_alloc | apply Kd.R_drewN | apply Kd.R_drew)); exact Kd.R_mono HO_9.out (fun _ hk => ⟨trivial, hk⟩)) hg hat); replace BK819 := zM (blk_grown (g := gb819) (o := .cells #[.slice A0_0 l0_0.length c0_0, .slice A0_1 l0_1.length c0_1] 30 (0, 0)) (zK BK819.out) hg (Kd.R_ne HO_10.out BK819.out (by decide))); replace HB := zM (hb); have HO839 := zM (ho); clear HO_10; clear ho hb hg hat))
                     repeat (go_quiet (first | ((with_reducible refine gate_builtin (b := .append) (xs := #[.tmp 49, .tmp 51]) rfl ?_); at_builtin; refine Kd.R_append (Kd.int .i64) (w0 := w) w.heap.size rfl (.tmp 49) (.tmp 51) 27 3 (.int .i64 0) 8 rfl Try.underlying27 info3 rfl (by decide) (by omega) u10 x10_1 x1_2 [.int .i64 x1_2] (fun k_ => some k_ ≠ (.slice (some ad826) t823.length co20 : Value).ownBlock) (fun _ => False) rfl rfl ?aP (fun _ hk => hk.elim) ?aF ?aO ?aB ?aS ?aL ?_; (case aP => exact rfl); (case aB => exact zB); (case aF => exact (fun k_ hk => Kd.fresh' (Kd.R_lt (zR HO_9.out)) k_ hk)); (case aO => exact (zR HO_10.out)); (case aS => exact (below_size zB)); (case aL => have := LMc36.out; omega); intro v838 w37 ho hb hg hat; rw [← Ny837.out] at ho; replace HO_8 := zM (Kd.S_after (ok := (fun k_ => some k_ ≠ (.slice (some ad826) t823.length co20 : Value).ownBlock)) (by (with_reducible repeat (first | apply Kd.S_alloc | apply Kd.S_drewN | apply Kd.S_drew)); exact HO_8.out) hg hat); replace HO_9 := zM (Kd.R_after (ok := (fun _ => True)) (by (with_reducible repeat (first | apply Kd.R_alloc | apply Kd.R_drewN | apply Kd.R_drew)); exact Kd.R_mono HO_9.out (fun _ hk => ⟨trivial, hk⟩)) hg hat); replace BK819 := zM (blk_grown (g := gb819) (o := .cells #[.slice A0_0 l0_0.length c0_0, .slice A0_1 l0_1.length c0_1] 30 (0, 0)) (zK BK819.out) hg (Kd.R_ne HO_10.out BK819.out (by decide))); replace HB := zM (hb); have HO839 := zM (ho); clear HO_10; clear ho hb hg hat)); try go_wp2_with (first | ((with_reducible refine gate_builtin (b := .append) (xs := #[.tmp 49, .tmp 51]) rfl ?_); at_builtin; refine Kd.R_append (Kd.int .i64) (w0 := w) w.heap.size rfl (.tmp 49) (.tmp 51) 27 3 (.int .i64 0) 8 rfl Try.underlying27 info3 rfl (by decide) (by omega) u10 x10_1 x1_2 [.int .i64 x1_2] (fun k_ => some k_ ≠ (.slice (some ad826) t823.length co20 : Value).ownBlock) (fun _ => False) rfl rfl ?aP (fun _ hk => hk.elim) ?aF ?aO ?aB ?aS ?aL ?_; (case aP => exact rfl); (case aB => exact zB); (case aF => exact (fun k_ hk => Kd.fresh' (Kd.R_lt (zR HO_9.out)) k_ hk)); (case aO => exact (zR HO_10.out)); (case aS => exact (below_size zB)); (case aL => have := LMc36.out; omega); intro v838 w37 ho hb hg hat; rw [← Ny837.out] at ho; replace HO_8 := zM (Kd.S_after (ok := (fun k_ => some k_ ≠ (.slice (some ad826) t823.length co20 : Value).ownBlock)) (by (with_reducible repeat (first | apply Kd.S_alloc | apply Kd.S_drewN | apply Kd.S_drew)); exact HO_8.out) hg hat); replace HO_9 := zM (Kd.R_after (ok := (fun _ => True)) (by (with_reducible repeat (first | apply Kd.R_alloc | apply Kd.R_drewN | apply Kd.R_drew)); exact Kd.R_mono HO_9.out (fun _ hk => ⟨trivial, hk⟩)) hg hat); replace BK819 := zM (blk_grown (g := gb819) (o := .cells #[.slice A0_0 l0_0.length c0_0, .slice A0_1 l0_1.length c0_1] 30 (0, 0)) (zK BK819.out) hg (Kd.R_ne HO_10.out BK819.out (by decide))); replace HB := zM (hb); have HO839 := zM (ho); clear HO_10; clear ho hb hg hat)))
                     go_roundg k2
                     case measure => have := HK1.out; have := HK2.out; omega
                     case rel => exact ⟨(x1_2), (y837), (by first | rfl | (simp; done) | (simp [*]; done)), H', ⟨by have := HK1.out; have := HK2.out; omega⟩, ⟨by (with_reducible repeat (first | apply Kd.S_alloc | apply Kd.S_drewN | apply Kd.S_drew)); exact HO_8.out⟩, ⟨by (with_reducible repeat (first | apply Kd.R_alloc | apply Kd.R_drewN | apply Kd.R_drew)); exact Kd.R_mono HO_9.out (fun _ hk => hk.2)⟩, ⟨zR HO839.out⟩, ⟨zK BK819.out⟩, ⟨zB⟩⟩
                   · rw [if_neg c36] at H
                     exact absurd H (by simp)
             · rw [if_neg c25] at H
               exact absurd H (by simp)
           · rw [if_neg c24] at H
             exact absurd H (by simp)
   · rw [if_neg c7] at H
     exact absurd H (by simp)
 · rw [if_neg c6] at H
   exact absurd H (by simp)

/-! ### impl_FirstWay: function 36 -/
def impl_FirstWay.f (k : Nat) (l0_0 : List (List Int)) (l0_1 : List (S79)) (a1 : Int) (a2 : Int) : Option (List Int × Bool) := (impl_IsSpace.f k l0_0 l0_1).bind fun t841 => (if t841 = true then ((impl_Space_isPlace.f l0_0 l0_1 a1).bind fun t842 => (if t842 = true then ((impl_Space_isPlace.f l0_0 l0_1 a2).bind fun t843 => (if t843 = true then ((impl_Space_firstWay.f k l0_0 l0_1 a1 a2).bind fun bt844 => (some (bt844.1, bt844.2))) else (some (([] : List Int), false)))) else (some (([] : List Int), false)))) else (some (([] : List Int), false)))
set_option maxHeartbeats 8000000 in
set_option maxRecDepth 100000 in
theorem impl_FirstWay.calls (k : Nat) (A0_0 : Option Addr) (c0_0 : Nat) (l0_0 : List (List Int)) (A0_1 : Option Addr) (c0_1 : Nat) (l0_1 : List (S79)) (a1 : Int) (a2 : Int) (r1 : List Int) (r2 : Bool) (w : World) (hr0_0 : Kd.C (Kd.slice 3 (Kd.int .i64)) w A0_0 l0_0.length l0_0) (hc0_0 : l0_0.length ≤ c0_0) (hr0_1 : Kd.C k79 w A0_1 l0_1.length l0_1) (hc0_1 : l0_1.length ≤ c0_1) (h : impl_FirstWay.f k l0_0 l0_1 a1 a2 = some (r1, r2)) :
 Calls Try.prog 36 #[.agg #[.slice A0_0 l0_0.length c0_0, .slice A0_1 l0_1.length c0_1], .int .i64 a1, .int .i64 a2] w fun e w' => ∃ v0_ : Value, e = .returned (.tuple #[v0_, .bool r2]) ∧ Kd.R (Kd.int .i64) 3 w' w.heap.size (fun _ => True) v0_ r1 ∧ Below w.heap.size w w' := by
 have hu30 := Try.underlying30
 have HR0_0 := Aside0.mk hr0_0
 have HC0_0 := Aside0.mk hc0_0
 clear hr0_0 hc0_0
 have HR0_1 := Aside0.mk hr0_1
 have HC0_1 := Aside0.mk hc0_1
 clear hr0_1 hc0_1
 have HB := zM (Below.refl w.heap.size w)
 have H : ((impl_IsSpace.f k l0_0 l0_1).bind fun t841 => (if t841 = true then ((impl_Space_isPlace.f l0_0 l0_1 a1).bind fun t842 => (if t842 = true then ((impl_Space_isPlace.f l0_0 l0_1 a2).bind fun t843 => (if t843 = true then ((impl_Space_firstWay.f k l0_0 l0_1 a1 a2).bind fun bt844 => (some (bt844.1, bt844.2))) else (some (([] : List Int), false)))) else (some (([] : List Int), false)))) else (some (([] : List Int), false)))) = some (r1, r2) := h
 clear h
 replace H := Option.bind_eq_some_iff.mp H
 obtain ⟨t841, A40, H⟩ := H
 replace H : (if t841 = true then ((impl_Space_isPlace.f l0_0 l0_1 a1).bind fun t842 => (if t842 = true then ((impl_Space_isPlace.f l0_0 l0_1 a2).bind fun t843 => (if t843 = true then ((impl_Space_firstWay.f k l0_0 l0_1 a1 a2).bind fun bt844 => (some (bt844.1, bt844.2))) else (some (([] : List Int), false)))) else (some (([] : List Int), false)))) else (some (([] : List Int), false))) = some (r1, r2) := H
 have A4 := Aside0.mk A40
 clear A40
 by_cases c5 : t841 = true
 · subst c5
   have H1 : ((impl_Space_isPlace.f l0_0 l0_1 a1).bind fun t842 => (if t842 = true then ((impl_Space_isPlace.f l0_0 l0_1 a2).bind fun t843 => (if t843 = true then ((impl_Space_firstWay.f k l0_0 l0_1 a1 a2).bind fun bt844 => (some (bt844.1, bt844.2))) else (some (([] : List Int), false)))) else (some (([] : List Int), false)))) = some (r1, r2) := by rw [if_pos rfl] at H; exact H
   clear H
   have H := H1
   clear H1
   replace H := Option.bind_eq_some_iff.mp H
   obtain ⟨t842, A60, H⟩ := H
   replace H : (if t842 = true then ((impl_Space_isPlace.f l0_0 l0_1 a2).bind fun t843 => (if t843 = true then ((impl_Space_firstWay.f k l0_0 l0_1 a1 a2).bind fun bt844 => (some (bt844.1, bt844.2))) else (some (([] : List Int), false)))) else (some (([] : List Int), false))) = some (r1, r2) := H
   have A6 := Aside0.mk A60
   clear A60
   by_cases c7 : t842 = true
   · subst c7
     have H1 : ((impl_Space_isPlace.f l0_0 l0_1 a2).bind fun t843 => (if t843 = true then ((impl_Space_firstWay.f k l0_0 l0_1 a1 a2).bind fun bt844 => (some (bt844.1, bt844.2))) else (some (([] : List Int), false)))) = some (r1, r2) := by rw [if_pos rfl] at H; exact H
     clear H
     have H := H1
     clear H1
     replace H := Option.bind_eq_some_iff.mp H
     obtain ⟨t843, A80, H⟩ := H
     replace H : (if t843 = true then ((impl_Space_firstWay.f k l0_0 l0_1 a1 a2).bind fun bt844 => (some (bt844.1, bt844.2))) else (some (([] : List Int), false))) = some (r1, r2) := H
     have A8 := Aside0.mk A80
     clear A80
     by_cases c9 : t843 = true
     · subst c9
       have H1 : ((impl_Space_firstWay.f k l0_0 l0_1 a1 a2).bind fun bt844 => (some (bt844.1, bt844.2))) = some (r1, r2) := by rw [if_pos rfl] at H; exact H
       clear H
       have H := H1
       clear H1
       replace H := Option.bind_eq_some_iff.mp H
       obtain ⟨⟨t844, t847⟩, A100, H⟩ := H
       replace H : (some (t844, t847)) = some (r1, r2) := H
       have A10 := Aside0.mk A100
       clear A100
       simp only [Option.some.injEq, Prod.mk.injEq] at H
       obtain ⟨rfl, rfl⟩ := H
       go_enter Try.func36, Try.ntmps36
       go_wp2_with (first | ((with_reducible refine gate_dst (N := 3) rfl ?_); refine zb (w := w) 3 #[.slice A0_0 l0_0.length c0_0, .slice A0_1 l0_1.length c0_1] 30 zB ?_; clear HB; intro gb840 w11 HB BK840 GW840; have GE840 := GW840; have hcz12_0 := zy BK840 0; have hcz12_1 := zy BK840 1; have hfz12_0 := blk_frozen BK840.out 0; have hfz12_1 := blk_frozen BK840.out 1) | ((with_reducible refine gate_callee (f := 57) rfl ?_); refine zc 9 Try.func57 #[.agg #[.slice A0_0 l0_0.length c0_0, .slice A0_1 l0_1.length c0_1]] ?_; (with_reducible refine (impl_IsSpace.calls k _ _ l0_0 _ _ l0_1 true _ ?side1 ?side2 ?side3 ?side4 A4.out).mono ?_); (case side1 => exact zC (Kd.C_below HR0_0.out HB.out)); (case side2 => exact HC0_0.out); (case side3 => exact zC (Kd.C_below HR0_1.out HB.out)); (case side4 => exact HC0_1.out); rintro e w13 ⟨rfl, hb⟩; refine ⟨_, rfl, ?_⟩; replace BK840 := zM (blk_below (g := gb840) (o := .cells #[.slice A0_0 l0_0.length c0_0, .slice A0_1 l0_1.length c0_1] 30 (0, 0)) (zK BK840.out) hb); replace HB := zM (below_step zB hb); (try clear hb); (try clear hb2); (try clear hk); (try clear hi); have hcz14_0 := zy BK840 0; have hcz14_1 := zy BK840 1; have hfz14_0 := blk_frozen BK840.out 0; have hfz14_1 := blk_frozen BK840.out 1) | (go_at_call 58; (with_reducible refine (impl_Space_isPlace.calls _ _ l0_0 _ _ l0_1 a1 true _ ?side1 ?side2 ?side3 ?side4 A6.out).mono ?_); (case side1 => exact zC (Kd.C_below HR0_0.out HB.out)); (case side2 => exact HC0_0.out); (case side3 => exact zC (Kd.C_below HR0_1.out HB.out)); (case side4 => exact HC0_1.out); rintro e w15 ⟨rfl, hb⟩; replace BK840 := zM (blk_below (g := gb840) (o := .cells #[.slice A0_0 l0_0.length c0_0, .slice A0_1 l0_1.length c0_1] 30 (0, 0)) (zK BK840.out) hb); replace HB := zM (below_step zB hb); (try clear hb); (try clear hb2); (try clear hk); (try clear hi); have hcz16_0 := zy BK840 0; have hcz16_1 := zy BK840 1; have hfz16_0 := blk_frozen BK840.out 0; have hfz16_1 := blk_frozen BK840.out 1) | (go_at_call 58; (with_reducible refine (impl_Space_isPlace.calls _ _ l0_0 _ _ l0_1 a2 true _ ?side1 ?side2 ?side3 ?side4 A8.out).mono ?_); (case side1 => exact zC (Kd.C_below HR0_0.out HB.out)); (case side2 => exact HC0_0.out); (case side3 => exact zC (Kd.C_below HR0_1.out HB.out)); (case side4 => exact HC0_1.out); rintro e w17 ⟨rfl, hb⟩; replace BK840 := zM (blk_below (g := gb840) (o := .cells #[.slice A0_0 l0_0.length c0_0, .slice A0_1 l0_1.length c0_1] 30 (0, 0)) (zK BK840.out) hb); replace HB := zM (below_step zB hb); (try clear hb); (try clear hb2); (try clear hk); (try clear hi); have hcz18_0 := zy BK840 0; have hcz18_1 := zy BK840 1; have hfz18_0 := blk_frozen BK840.out 0; have hfz18_1 := blk_frozen BK840.out 1) | ((with_reducible refine gate_callee (f := 87) rfl ?_); refine zc 26 Try.func87 #[.agg #[.slice A0_0 l0_0.length c0_0, .slice A0_1 l0_1.length c0_1], .int .i64 a1, .int .i64 a2] ?_; (with_reducible refine (impl_Space_firstWay.calls k _ _ l0_0 _ _ l0_1 a1 a2 t844 t847 _ ?side1 ?side2 ?side3 ?side4 A10.out).mono ?_); (case side1 => exact zC (Kd.C_below HR0_0.out HB.out)); (case side2 => exact HC0_0.out); (case side3 => exact zC (Kd.C_below HR0_1.out HB.out)); (case side4 => exact HC0_1.out); rintro e w19 ⟨v845, rfl, ho0, hb⟩; refine ⟨_, rfl, ?_⟩; have HO846 := zM (Kd.R_lower ho0 (below_size zB)); replace BK840 := zM (blk_below (g := gb840) (o := .cells #[.slice A0_0 l0_0.length c0_0, .slice A0_1 l0_1.length c0_1] 30 (0, 0)) (zK BK840.out) hb); replace HB := zM (below_step zB hb); (try clear hb); (try clear hb2); (try clear hk); (try clear hi); (try clear ho0)))
       go_ret2
       exact ⟨_, by first | rfl | (simp [errW_none, errW_some] <;> rfl) | (simp [*, errW_none, errW_some] <;> rfl), by (with_reducible repeat (first | apply Kd.R_alloc | apply Kd.R_drewN | apply Kd.R_drew)); exact HO846.out, zB⟩
     · replace c9 := Bool.eq_false_iff.mpr c9
       subst c9
       have H1 : (some (([] : List Int), false)) = some (r1, r2) := by rw [if_neg (show ¬ (false = true) by decide)] at H; exact H
       clear H
       have H := H1
       clear H1
       simp only [Option.some.injEq, Prod.mk.injEq] at H
       obtain ⟨rfl, rfl⟩ := H
       go_enter Try.func36, Try.ntmps36
       go_wp2_with (first | ((with_reducible refine gate_dst (N := 3) rfl ?_); refine zb (w := w) 3 #[.slice A0_0 l0_0.length c0_0, .slice A0_1 l0_1.length c0_1] 30 zB ?_; clear HB; intro gb840 w20 HB BK840 GW840; have GE840 := GW840; have hcz21_0 := zy BK840 0; have hcz21_1 := zy BK840 1; have hfz21_0 := blk_frozen BK840.out 0; have hfz21_1 := blk_frozen BK840.out 1) | ((with_reducible refine gate_callee (f := 57) rfl ?_); refine zc 9 Try.func57 #[.agg #[.slice A0_0 l0_0.length c0_0, .slice A0_1 l0_1.length c0_1]] ?_; (with_reducible refine (impl_IsSpace.calls k _ _ l0_0 _ _ l0_1 true _ ?side1 ?side2 ?side3 ?side4 A4.out).mono ?_); (case side1 => exact zC (Kd.C_below HR0_0.out HB.out)); (case side2 => exact HC0_0.out); (case side3 => exact zC (Kd.C_below HR0_1.out HB.out)); (case side4 => exact HC0_1.out); rintro e w22 ⟨rfl, hb⟩; refine ⟨_, rfl, ?_⟩; replace BK840 := zM (blk_below (g := gb840) (o := .cells #[.slice A0_0 l0_0.length c0_0, .slice A0_1 l0_1.length c0_1] 30 (0, 0)) (zK BK840.out) hb); replace HB := zM (below_step zB hb); (try clear hb); (try clear hb2); (try clear hk); (try clear hi); have hcz23_0 := zy BK840 0; have hcz23_1 := zy BK840 1; have hfz23_0 := blk_frozen BK840.out 0; have hfz23_1 := blk_frozen BK840.out 1) | (go_at_call 58; (with_reducible refine (impl_Space_isPlace.calls _ _ l0_0 _ _ l0_1 a1 true _ ?side1 ?side2 ?side3 ?side4 A6.out).mono ?_); (case side1 => exact zC (Kd.C_below HR0_0.out HB.out)); (case side2 => exact HC0_0.out); (case side3 => exact zC (Kd.C_below HR0_1.out HB.out)); (case side4 => exact HC0_1.out); rintro e w24 ⟨rfl, hb⟩; replace BK840 := zM (blk_below (g := gb840) (o := .cells #[.slice A0_0 l0_0.length c0_0, .slice A0_1 l0_1.length c0_1] 30 (0, 0)) (zK BK840.out) hb); replace HB := zM (below_step zB hb); (try clear hb); (try clear hb2); (try clear hk); (try clear hi); have hcz25_0 := zy BK840 0; have hcz25_1 := zy BK840 1; have hfz25_0 := blk_frozen BK840.out 0; have hfz25_1 := blk_frozen BK840.out 1) | (go_at_call 58; (with_reducible refine (impl_Space_isPlace.calls _ _ l0_0 _ _ l0_1 a2 false _ ?side1 ?side2 ?side3 ?side4 A8.out).mono ?_); (case side1 => exact zC (Kd.C_below HR0_0.out HB.out)); (case side2 => exact HC0_0.out); (case side3 => exact zC (Kd.C_below HR0_1.out HB.out)); (case side4 => exact HC0_1.out); rintro e w26 ⟨rfl, hb⟩; replace BK840 := zM (blk_below (g := gb840) (o := .cells #[.slice A0_0 l0_0.length c0_0, .slice A0_1 l0_1.length c0_1] 30 (0, 0)) (zK BK840.out) hb); replace HB := zM (below_step zB hb); (try clear hb); (try clear hb2); (try clear hk); (try clear hi)))
       go_ret2
       exact ⟨_, by first | rfl | (simp [errW_none, errW_some] <;> rfl) | (simp [*, errW_none, errW_some] <;> rfl), by first | exact Kd.R_nil _ _ _ _ _ | exact Kd.N_nil _ _ _ _ _ | exact Kd.V_nil _ _ _ _ _ | exact Kd.Q_nil _ _ _ _ _ | exact Kd.S_nil _ _ _ _ _, zB⟩
   · replace c7 := Bool.eq_false_iff.mpr c7
     subst c7
     have H1 : (some (([] : List Int), false)) = some (r1, r2) := by rw [if_neg (show ¬ (false = true) by decide)] at H; exact H
     clear H
     have H := H1
     clear H1
     simp only [Option.some.injEq, Prod.mk.injEq] at H
     obtain ⟨rfl, rfl⟩ := H
     go_enter Try.func36, Try.ntmps36
     go_wp2_with (first | ((with_reducible refine gate_dst (N := 3) rfl ?_); refine zb (w := w) 3 #[.slice A0_0 l0_0.length c0_0, .slice A0_1 l0_1.length c0_1] 30 zB ?_; clear HB; intro gb840 w27 HB BK840 GW840; have GE840 := GW840; have hcz28_0 := zy BK840 0; have hcz28_1 := zy BK840 1; have hfz28_0 := blk_frozen BK840.out 0; have hfz28_1 := blk_frozen BK840.out 1) | ((with_reducible refine gate_callee (f := 57) rfl ?_); refine zc 9 Try.func57 #[.agg #[.slice A0_0 l0_0.length c0_0, .slice A0_1 l0_1.length c0_1]] ?_; (with_reducible refine (impl_IsSpace.calls k _ _ l0_0 _ _ l0_1 true _ ?side1 ?side2 ?side3 ?side4 A4.out).mono ?_); (case side1 => exact zC (Kd.C_below HR0_0.out HB.out)); (case side2 => exact HC0_0.out); (case side3 => exact zC (Kd.C_below HR0_1.out HB.out)); (case side4 => exact HC0_1.out); rintro e w29 ⟨rfl, hb⟩; refine ⟨_, rfl, ?_⟩; replace BK840 := zM (blk_below (g := gb840) (o := .cells #[.slice A0_0 l0_0.length c0_0, .slice A0_1 l0_1.length c0_1] 30 (0, 0)) (zK BK840.out) hb); replace HB := zM (below_step zB hb); (try clear hb); (try clear hb2); (try clear hk); (try clear hi); have hcz30_0 := zy BK840 0; have hcz30_1 := zy BK840 1; have hfz30_0 := blk_frozen BK840.out 0; have hfz30_1 := blk_frozen BK840.out 1) | (go_at_call 58; (with_reducible refine (impl_Space_isPlace.calls _ _ l0_0 _ _ l0_1 a1 false _ ?side1 ?side2 ?side3 ?side4 A6.out).mono ?_); (case side1 => exact zC (Kd.C_below HR0_0.out HB.out)); (case side2 => exact HC0_0.out); (case side3 => exact zC (Kd.C_below HR0_1.out HB.out)); (case side4 => exact HC0_1.out); rintro e w31 ⟨rfl, hb⟩; replace BK840 := zM (blk_below (g := gb840) (o := .cells #[.slice A0_0 l0_0.length c0_0, .slice A0_1 l0_1.length c0_1] 30 (0, 0)) (zK BK840.out) hb); replace HB := zM (below_step zB hb); (try clear hb); (try clear hb2); (try clear hk); (try clear hi)))
     go_ret2
     exact ⟨_, by first | rfl | (simp [errW_none, errW_some] <;> rfl) | (simp [*, errW_none, errW_some] <;> rfl), by first | exact Kd.R_nil _ _ _ _ _ | exact Kd.N_nil _ _ _ _ _ | exact Kd.V_nil _ _ _ _ _ | exact Kd.Q_nil _ _ _ _ _ | exact Kd.S_nil _ _ _ _ _, zB⟩
 · replace c5 := Bool.eq_false_iff.mpr c5
   subst c5
   have H1 : (some (([] : List Int), false)) = some (r1, r2) := by rw [if_neg (show ¬ (false = true) by decide)] at H; exact H
   clear H
   have H := H1
   clear H1
   simp only [Option.some.injEq, Prod.mk.injEq] at H
   obtain ⟨rfl, rfl⟩ := H
   go_enter Try.func36, Try.ntmps36
   go_wp2_with (first | ((with_reducible refine gate_dst (N := 3) rfl ?_); refine zb (w := w) 3 #[.slice A0_0 l0_0.length c0_0, .slice A0_1 l0_1.length c0_1] 30 zB ?_; clear HB; intro gb840 w32 HB BK840 GW840; have GE840 := GW840; have hcz33_0 := zy BK840 0; have hcz33_1 := zy BK840 1; have hfz33_0 := blk_frozen BK840.out 0; have hfz33_1 := blk_frozen BK840.out 1) | ((with_reducible refine gate_callee (f := 57) rfl ?_); refine zc 9 Try.func57 #[.agg #[.slice A0_0 l0_0.length c0_0, .slice A0_1 l0_1.length c0_1]] ?_; (with_reducible refine (impl_IsSpace.calls k _ _ l0_0 _ _ l0_1 false _ ?side1 ?side2 ?side3 ?side4 A4.out).mono ?_); (case side1 => exact zC (Kd.C_below HR0_0.out HB.out)); (case side2 => exact HC0_0.out); (case side3 => exact zC (Kd.C_below HR0_1.out HB.out)); (case side4 => exact HC0_1.out); rintro e w34 ⟨rfl, hb⟩; refine ⟨_, rfl, ?_⟩; replace BK840 := zM (blk_below (g := gb840) (o := .cells #[.slice A0_0 l0_0.length c0_0, .slice A0_1 l0_1.length c0_1] 30 (0, 0)) (zK BK840.out) hb); replace HB := zM (below_step zB hb); (try clear hb); (try clear hb2); (try clear hk); (try clear hi)))
   go_ret2
   exact ⟨_, by first | rfl | (simp [errW_none, errW_some] <;> rfl) | (simp [*, errW_none, errW_some] <;> rfl), by first | exact Kd.R_nil _ _ _ _ _ | exact Kd.N_nil _ _ _ _ _ | exact Kd.V_nil _ _ _ _ _ | exact Kd.Q_nil _ _ _ _ _ | exact Kd.S_nil _ _ _ _ _, zB⟩

-- NOT PRINTED: function 7 (laws_FnExactFirstWay)

-- NOT PRINTED: function 37 (spec_ParityOf)

end Go.Proofs.Ytmhoemdclnlgaaa.P
