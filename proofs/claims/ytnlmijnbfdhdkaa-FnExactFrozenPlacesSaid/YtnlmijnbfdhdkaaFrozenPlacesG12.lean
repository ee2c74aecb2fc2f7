-- Written by a program of this session (the kit's print, turned: wip/print/patch.py) out of the translation. Not trusted: Lean checks it.
import Derived.Test.YtnlmijnbfdhdkaaFrozenPlacesG4
import Derived.Test.YtnlmijnbfdhdkaaFrozenPlacesG6
import Derived.Test.YtnlmijnbfdhdkaaFrozenPlacesG8
import Derived.Test.YtnlmijnbfdhdkaaFrozenPlacesG11
import Derived.Test.YtnlmijnbfdhdkaaFrozenPlacesG10
import Derived.Handy
namespace Go.Proofs.Ytnlmijnbfdhdkaa.P
open Go.RowKit Go.Proofs.YtnlmijnbfdhdkaaW.PrintWords Go.Proofs.YtnlmijnbfdhdkaaW.PrintLast Go.Proofs.YtnlmijnbfdhdkaaW.PrintMore
attribute [local go_sem] max2_int min2_int max_two min_two max_three min_three max_four min_four   -- for this text's walks alone
set_option linter.unusedVariables false
set_option linter.unusedSimpArgs false

/-! ### spec_FrozenPlaces: function 42 -/
def spec_FrozenPlaces.l0 : Nat → List Int → List (List Int) → Int → Option (List Int × Bool)
 | 0, _, _, _ => none
 | k + 1, x4, x5, x6 => if x6 < (x5.length : Int) then (if 0 ≤ x6 then (if ((rd_L4 x5 x6).length : Int) = 0 then (if x4.length < 17592186044416 then (spec_FrozenPlaces.l0 k (x4 ++ [x6]) x5 (wrap64 (x6 + 1))) else (none)) else (spec_FrozenPlaces.l0 k x4 x5 (wrap64 (x6 + 1)))) else (none)) else (some (x4, true))
def spec_FrozenPlaces.f (k : Nat) (l0_0 : List (List Int)) (l0_1 : List (S88)) : Option (List Int × Bool) := (some (([] : List Int) : List Int)).bind fun y881 => ((spec_l2Space.f k l0_0 l0_1).bind fun t884 => (if t884 = true then ((spec_l2Lists.f k l0_0 l0_1).bind fun t885 => (spec_FrozenPlaces.l0 k y881 t885 0)) else (some (y881, false))))
set_option maxHeartbeats 8000000 in
set_option maxRecDepth 100000 in
theorem spec_FrozenPlaces.calls (k : Nat) (A0_0 : Option Addr) (c0_0 : Nat) (l0_0 : List (List Int)) (A0_1 : Option Addr) (c0_1 : Nat) (l0_1 : List (S88)) (r1 : List Int) (r2 : Bool) (w : World) (hr0_0 : Kd.C (Kd.slice 3 (Kd.int .i64)) w A0_0 l0_0.length l0_0) (hc0_0 : l0_0.length ≤ c0_0) (hr0_1 : Kd.C k88 w A0_1 l0_1.length l0_1) (hc0_1 : l0_1.length ≤ c0_1) (h : spec_FrozenPlaces.f k l0_0 l0_1 = some (r1, r2)) :
 Calls Try.prog 42 #[.agg #[.slice A0_0 l0_0.length c0_0, .slice A0_1 l0_1.length c0_1]] w fun e w' => ∃ v0_ : Value, e = .returned (.tuple #[v0_, .bool r2]) ∧ Kd.R (Kd.int .i64) 3 w' w.heap.size (fun _ => True) v0_ r1 ∧ Below w.heap.size w w' := by
 have hu46 := Try.underlying46
 have HR0_0 := Aside0.mk hr0_0
 have HC0_0 := Aside0.mk hc0_0
 clear hr0_0 hc0_0
 have HR0_1 := Aside0.mk hr0_1
 have HC0_1 := Aside0.mk hc0_1
 clear hr0_1 hc0_1
 have HB := zM (Below.refl w.heap.size w)
 have H : ((some (([] : List Int) : List Int)).bind fun y881 => ((spec_l2Space.f k l0_0 l0_1).bind fun t884 => (if t884 = true then ((spec_l2Lists.f k l0_0 l0_1).bind fun t885 => (spec_FrozenPlaces.l0 k y881 t885 0)) else (some (y881, false))))) = some (r1, r2) := h
 clear h
 obtain ⟨y881, hy881⟩ : ∃ y_ : List Int, y_ = (([] : List Int)) := ⟨_, rfl⟩
 replace H : ((spec_l2Space.f k l0_0 l0_1).bind fun t884 => (if t884 = true then ((spec_l2Lists.f k l0_0 l0_1).bind fun t885 => (spec_FrozenPlaces.l0 k y881 t885 0)) else (some (y881, false)))) = some (r1, r2) := by first | (rw [hy881]; with_reducible exact H) | (have H2_ := (Option.bind_some _ _).symm.trans H; rw [hy881]; with_reducible exact H2_) | (have H2_ := (Option.bind_some _ _).symm.trans H; with_reducible exact H2_) | with_reducible exact H | (rw [hy881]; exact H) | exact H
 have Ny881 := Aside0.mk hy881
 clear hy881
 replace H := Option.bind_eq_some_iff.mp H
 obtain ⟨t884, A20, H⟩ := H
 replace H : (if t884 = true then ((spec_l2Lists.f k l0_0 l0_1).bind fun t885 => (spec_FrozenPlaces.l0 k y881 t885 0)) else (some (y881, false))) = some (r1, r2) := H
 have A2 := Aside0.mk A20
 clear A20
 by_cases c3 : t884 = true
 · subst c3
   have H1 : ((spec_l2Lists.f k l0_0 l0_1).bind fun t885 => (spec_FrozenPlaces.l0 k y881 t885 0)) = some (r1, r2) := by rw [if_pos rfl] at H; exact H
   clear H
   have H := H1
   clear H1
   replace H := Option.bind_eq_some_iff.mp H
   obtain ⟨t885, A40, H⟩ := H
   replace H : (spec_FrozenPlaces.l0 k y881 t885 0) = some (r1, r2) := H
   have A4 := Aside0.mk A40
   clear A40
   have H' := Aside0.mk H
   clear H
   go_enter Try.func42, Try.ntmps42
   go_wp2_with (first | ((with_reducible refine gate_dst (N := 1) rfl ?_); refine zb (w := w) 1 #[.slice A0_0 l0_0.length c0_0, .slice A0_1 l0_1.length c0_1] 46 zB ?_; clear HB; intro gb880 w5 HB BK880 GW880; have GE880 := GW880) | ((with_reducible refine gate_dst (N := 7) rfl ?_); refine Kd.R_lit (Kd.int .i64) _ 3 ?hg (N := 7) ?hd (xs := ([] : List Int)) (inner := []) (ok := fun _ => True) (okp := fun _ => True) ?hr ?hp (fun _ hk => hk) trivial (Below.refl _ _) (Nat.le_refl _) (by simp) ?_; (case hd => rfl); (case hg => rfl); (case hr => first | (go_simp; done) | (go_simp; rfl)); (case hp => exact (Reps.none _ _)); intro v882 w6 ho7 hb hg_ hnew_; clear hg_ hnew_; (first | rw [← Ny881.out] at ho7 | (simp only [Int.reduceToNat] at ho7; rw [← Ny881.out] at ho7)); have HO883 := zM (Kd.R_lower ho7 (below_size zB)); replace BK880 := zM (blk_below (g := gb880) (o := .cells #[.slice A0_0 l0_0.length c0_0, .slice A0_1 l0_1.length c0_1] 46 (0, 0)) (zK BK880.out) hb); replace HB := zM (below_step zB hb); clear hb ho7; have hcz8_0 := zy BK880 0; have hcz8_1 := zy BK880 1; have hfz8_0 := blk_frozen BK880.out 0; have hfz8_1 := blk_frozen BK880.out 1) | ((with_reducible refine gate_callee (f := 79) rfl ?_); refine zc 9 Try.func79 #[.agg #[.slice A0_0 l0_0.length c0_0, .slice A0_1 l0_1.length c0_1]] ?_; (with_reducible refine (spec_l2Space.calls k _ _ l0_0 _ _ l0_1 true _ ?side1 ?side2 ?side3 ?side4 A2.out).mono ?_); (case side1 => exact zC (Kd.C_below HR0_0.out HB.out)); (case side2 => exact HC0_0.out); (case side3 => exact zC (Kd.C_below HR0_1.out HB.out)); (case side4 => exact HC0_1.out); rintro e w9 ⟨rfl, hb⟩; refine ⟨_, rfl, ?_⟩; replace HO883 := zM (Kd.R_below (zR HO883.out) hb); replace BK880 := zM (blk_below (g := gb880) (o := .cells #[.slice A0_0 l0_0.length c0_0, .slice A0_1 l0_1.length c0_1] 46 (0, 0)) (zK BK880.out) hb); replace HB := zM (below_step zB hb); (try clear hb); (try clear hb2); (try clear hk); (try clear hi); have hcz10_0 := zy BK880 0; have hcz10_1 := zy BK880 1; have hfz10_0 := blk_frozen BK880.out 0; have hfz10_1 := blk_frozen BK880.out 1) | ((with_reducible refine gate_callee (f := 97) rfl ?_); refine zc 13 Try.func97 #[.agg #[.slice A0_0 l0_0.length c0_0, .slice A0_1 l0_1.length c0_1]] ?_; (with_reducible refine (spec_l2Lists.calls k _ _ l0_0 _ _ l0_1 t885 _ ?side1 ?side2 ?side3 ?side4 A4.out).mono ?_); (case side1 => exact zC (Kd.C_below HR0_0.out HB.out)); (case side2 => exact HC0_0.out); (case side3 => exact zC (Kd.C_below HR0_1.out HB.out)); (case side4 => exact HC0_1.out); rintro e w11 ⟨v886, rfl, ho0, hb⟩; refine ⟨_, rfl, ?_⟩; have HO887 := zM (Kd.S_lower (Kd.S_new' ho0 (Kd.R_lt (zR HO883.out))) (below_size zB)); replace HO883 := zM (Kd.R_below (zR HO883.out) hb); replace BK880 := zM (blk_below (g := gb880) (o := .cells #[.slice A0_0 l0_0.length c0_0, .slice A0_1 l0_1.length c0_1] 46 (0, 0)) (zK BK880.out) hb); replace HB := zM (below_step zB hb); (try clear hb); (try clear hb2); (try clear hk); (try clear hi); (try clear ho0)))
   go_loopg [4, 6] k (fun kq v4 v6 w' => ∃ (x4_1 : List Int) (x6_1 : Int), v6 = .int .i64 x6_1 ∧ Aside0 (spec_FrozenPlaces.l0 kq x4_1 t885 x6_1 = some (r1, r2)) ∧ Aside0 (kq ≤ k) ∧ Aside0 (Kd.R (Kd.int .i64) 3 w' w.heap.size (fun _ => True) v4 x4_1) ∧ Aside0 (Kd.S (Kd.slice 3 (Kd.int .i64)) 25 w' w.heap.size (fun k_ => some k_ ≠ (v4 : Value).ownBlock) v886 t885) ∧ Aside0 (w'.heap[gb880]? = some (.cells #[(.slice A0_0 l0_0.length c0_0), (.slice A0_1 l0_1.length c0_1)] 46 (0, 0))) ∧ Aside0 (Below w.heap.size w w'))
   case atStart => exact ⟨(y881), (0), (by first | rfl | (simp; done) | (simp [*]; done)), H', ⟨Nat.le_refl _⟩, ⟨zR HO883.out⟩, ⟨by (with_reducible repeat (first | apply Kd.S_alloc | apply Kd.S_drewN | apply Kd.S_drew)); exact Kd.S_mono HO887.out (fun _ hk => hk.2)⟩, ⟨zK BK880.out⟩, ⟨zB⟩⟩
   case round =>
    clear H'
    try clear p2
    try clear c3
    try clear c4
    try clear c7
    try clear c9
    try clear hcz10_0
    try clear hcz10_1
    try clear hcz8_0
    try clear hcz8_1
    try clear hfz10_0
    try clear hfz10_1
    try clear hfz8_0
    try clear hfz8_1
    obtain ⟨x4_1, x6_1, rfl, HA, HK1, HO_4, HO_5, BK880, HB⟩ := hrel
    cases gk with
    | zero => exact absurd HA.out (by simp [spec_FrozenPlaces.l0])
    | succ k1 =>
     have H := HA.out
     clear HA
     simp only [spec_FrozenPlaces.l0] at H
     by_cases c12 : x6_1 < (t885.length : Int)
     · rw [if_pos c12] at H
       have c12b0 := decide_eq_true c12
       clear c12
       by_cases c13 : 0 ≤ x6_1
       · rw [if_pos c13] at H
         have c13b0 := decide_eq_true c13
         clear c13
         by_cases c14 : ((rd_L4 t885 x6_1).length : Int) = 0
         · rw [if_pos c14] at H
           have c14b0 : (((rd_L4 t885 x6_1).length : Int) == 0) = true := beq_iff_eq.mpr c14
           have c14b1 : (((rd_L4 t885 x6_1).length : Int) != 0) = false := bne_eq_false_iff_eq.mpr c14
           clear c14
           by_cases c15 : x4_1.length < 17592186044416
           · rw [if_pos c15] at H
             have LMc15 := Aside0.mk c15
             clear c15
             obtain ⟨y889, hy889⟩ : ∃ y_ : List Int, y_ = (x4_1 ++ [x6_1]) := ⟨_, rfl⟩
             replace H : (spec_FrozenPlaces.l0 k1 y889 t885 (wrap64 (x6_1 + 1))) = some (r1, r2) := by first | (rw [hy889]; with_reducible exact H) | (have H2_ := (Option.bind_some _ _).symm.trans H; rw [hy889]; with_reducible exact H2_) | (have H2_ := (Option.bind_some _ _).symm.trans H; with_reducible exact H2_) | with_reducible exact H | (rw [hy889]; exact H) | exact H
             have Ny889 := Aside0.mk hy889
             clear hy889
             have H' := Aside0.mk H
             clear H
             obtain ⟨Ao16, co16, eo16⟩ := Kd.S_slice HO_5.out
             subst eo16
             have p888 : 0 ≤ (x6_1 : Int) := of_decide_eq_true zA
             have q888 : x6_1 < (t885.length : Int) := of_decide_eq_true zA
             obtain ⟨ad888, A888_0, c888_0, e888, hx888_0, hl888_0, hi888_0⟩ := at_L4 (Kd.S_reads' HO_5.out).2.2 x6_1 p888 q888
             cases e888
             obtain ⟨ce888, hce888, hMe888, hcc888⟩ := Kd.S_get HO_5.out [] x6_1 p888 (by first | exact q888 | exact of_decide_eq_true zA | (have e_ := (Kd.S_reads' HO_5.out).1; omega))
             obtain ⟨ve888_0, rfl, ge888_0⟩ := hMe888
             have hv888_0 := hcc888 0 _ rfl
             rw [Nat.add_zero, show ((Kd.slice 3 (Kd.int .i64))).sz = 1 from rfl, Nat.mul_one] at hv888_0
             replace hv888_0 := Option.some.inj (hv888_0.symm.trans hx888_0)
             rw [hv888_0] at ge888_0
             have HL888_0 := zM (show Kd.R (Kd.int .i64) 3 _ _ _ _ (rd_L4 t885 x6_1) from ge888_0)
             clear hv888_0 ge888_0
             clear hcc888 hce888
             have HR888_0 := Aside0.mk hi888_0
             have HC888_0 := Aside0.mk hl888_0
             clear hi888_0 hl888_0
             replace p888 := eq_true p888
             replace q888 := eq_true q888
             go_wp2_with (first | ((with_reducible refine gate_builtin (b := .append) (xs := #[.tmp 26, .tmp 28]) rfl ?_); at_builtin; refine Kd.R_append (Kd.int .i64) (w0 := w) w.heap.size rfl (.tmp 26) (.tmp 28) 25 3 (.int .i64 0) 8 rfl Try.underlying25 info3 rfl (by decide) (by omega) u4 x4_1 x6_1 [.int .i64 x6_1] (fun _ => True) (fun _ => False) rfl rfl ?aP (fun _ hk => hk.elim) ?aF ?aO ?aB ?aS ?aL ?_; (case aP => exact rfl); (case aB => exact zB); (case aF => exact (fun _ _ => trivial)); (case aO => exact (zR HO_4.out)); (case aS => exact (below_size zB)); (case aL => have := LMc15.out; omega); intro v890 w17 ho hb hg hat; rw [← Ny889.out] at ho; replace HO_5 := zM (Kd.S_after (ok := (fun _ => True)) (by (with_reducible repeat (first | apply Kd.S_alloc | apply Kd.S_drewN | apply Kd.S_drew)); exact Kd.S_mono HO_5.out (fun _ hk => ⟨trivial, hk⟩)) hg hat); replace BK880 := zM (blk_grown (g := gb880) (o := .cells #[.slice A0_0 l0_0.length c0_0, .slice A0_1 l0_1.length c0_1] 46 (0, 0)) (zK BK880.out) hg (Kd.R_ne HO_4.out BK880.out (by decide))); replace HL888_0 := zM (Kd.R_after (ok := (fun k_ => some k_ ≠ (.slice (some ad888) t885.length co16 : Value).ownBlock)) (by (with_reducible repeat (first | apply Kd.R_alloc | apply Kd.R_drewN | apply Kd.R_drew)); exact Kd.R_mono HL888_0.out (fun _ hk => ⟨hk.2, hk.1⟩)) hg hat); replace HB := zM (hb); have HO891 := zM (ho); clear HO_4; clear ho hb hg hat))
             go_roundg k1
             case measure => have := HK1.out; omega
             case rel => exact ⟨(y889), (wrap64 (x6_1 + 1)), (by first | rfl | (simp; done) | (simp [*]; done)), H', ⟨by have := HK1.out; omega⟩, ⟨zR HO891.out⟩, ⟨by (with_reducible repeat (first | apply Kd.S_alloc | apply Kd.S_drewN | apply Kd.S_drew)); exact Kd.S_mono HO_5.out (fun _ hk => hk.2)⟩, ⟨zK BK880.out⟩, ⟨zB⟩⟩
           · rw [if_neg c15] at H
             exact absurd H (by simp)
         · rw [if_neg c14] at H
           have c14b0 : (((rd_L4 t885 x6_1).length : Int) == 0) = false := beq_eq_false_iff_ne.mpr c14
           have c14b1 : (((rd_L4 t885 x6_1).length : Int) != 0) = true := bne_iff_ne.mpr c14
           have c14b2 : ¬ ((rd_L4 t885 x6_1) = []) := fun h_ => c14 (by rw [h_]; rfl)
           have H' := Aside0.mk H
           clear H
           obtain ⟨Ao18, co18, eo18⟩ := Kd.S_slice HO_5.out
           subst eo18
           have p888 : 0 ≤ (x6_1 : Int) := of_decide_eq_true zA
           have q888 : x6_1 < (t885.length : Int) := of_decide_eq_true zA
           obtain ⟨ad888, A888_0, c888_0, e888, hx888_0, hl888_0, hi888_0⟩ := at_L4 (Kd.S_reads' HO_5.out).2.2 x6_1 p888 q888
           cases e888
           obtain ⟨ce888, hce888, hMe888, hcc888⟩ := Kd.S_get HO_5.out [] x6_1 p888 (by first | exact q888 | exact of_decide_eq_true zA | (have e_ := (Kd.S_reads' HO_5.out).1; omega))
           obtain ⟨ve888_0, rfl, ge888_0⟩ := hMe888
           have hv888_0 := hcc888 0 _ rfl
           rw [Nat.add_zero, show ((Kd.slice 3 (Kd.int .i64))).sz = 1 from rfl, Nat.mul_one] at hv888_0
           replace hv888_0 := Option.some.inj (hv888_0.symm.trans hx888_0)
           rw [hv888_0] at ge888_0
           have HL888_0 := zM (show Kd.R (Kd.int .i64) 3 _ _ _ _ (rd_L4 t885 x6_1) from ge888_0)
           clear hv888_0 ge888_0
           clear hcc888 hce888
           have HR888_0 := Aside0.mk hi888_0
           have HC888_0 := Aside0.mk hl888_0
           clear hi888_0 hl888_0
           replace p888 := eq_true p888
           replace q888 := eq_true q888
           go_wp2
           go_roundg k1
           case measure => have := HK1.out; omega
           case rel => exact ⟨(x4_1), (wrap64 (x6_1 + 1)), (by first | rfl | (simp; done) | (simp [*]; done)), H', ⟨by have := HK1.out; omega⟩, ⟨zR HO_4.out⟩, ⟨by (with_reducible repeat (first | apply Kd.S_alloc | apply Kd.S_drewN | apply Kd.S_drew)); exact HO_5.out⟩, ⟨zK BK880.out⟩, ⟨zB⟩⟩
       · rw [if_neg c13] at H
         exact absurd H (by simp)
     · rw [if_neg c12] at H
       have c12b0 : decide (x6_1 < (t885.length : Int)) = false := decide_eq_false c12
       clear c12
       simp only [Option.some.injEq, Prod.mk.injEq] at H
       obtain ⟨rfl, rfl⟩ := H
       obtain ⟨Ao19, co19, eo19⟩ := Kd.S_slice HO_5.out
       subst eo19
       go_wp2
       go_ret2
       exact ⟨_, by first | rfl | (simp [errW_none, errW_some] <;> rfl) | (simp [*, errW_none, errW_some] <;> rfl), by (with_reducible repeat (first | apply Kd.R_alloc | apply Kd.R_drewN | apply Kd.R_drew)); exact HO_4.out, zB⟩
 · replace c3 := Bool.eq_false_iff.mpr c3
   subst c3
   have H1 : (some (y881, false)) = some (r1, r2) := by rw [if_neg (show ¬ (false = true) by decide)] at H; exact H
   clear H
   have H := H1
   clear H1
   simp only [Option.some.injEq, Prod.mk.injEq] at H
   obtain ⟨rfl, rfl⟩ := H
   go_enter Try.func42, Try.ntmps42
   go_wp2_with (first | ((with_reducible refine gate_dst (N := 1) rfl ?_); refine zb (w := w) 1 #[.slice A0_0 l0_0.length c0_0, .slice A0_1 l0_1.length c0_1] 46 zB ?_; clear HB; intro gb880 w20 HB BK880 GW880; have GE880 := GW880) | ((with_reducible refine gate_dst (N := 7) rfl ?_); refine Kd.R_lit (Kd.int .i64) _ 3 ?hg (N := 7) ?hd (xs := ([] : List Int)) (inner := []) (ok := fun _ => True) (okp := fun _ => True) ?hr ?hp (fun _ hk => hk) trivial (Below.refl _ _) (Nat.le_refl _) (by simp) ?_; (case hd => rfl); (case hg => rfl); (case hr => first | (go_simp; done) | (go_simp; rfl)); (case hp => exact (Reps.none _ _)); intro v882 w21 ho22 hb hg_ hnew_; clear hg_ hnew_; (first | rw [← Ny881.out] at ho22 | (simp only [Int.reduceToNat] at ho22; rw [← Ny881.out] at ho22)); have HO883 := zM (Kd.R_lower ho22 (below_size zB)); replace BK880 := zM (blk_below (g := gb880) (o := .cells #[.slice A0_0 l0_0.length c0_0, .slice A0_1 l0_1.length c0_1] 46 (0, 0)) (zK BK880.out) hb); replace HB := zM (below_step zB hb); clear hb ho22; have hcz23_0 := zy BK880 0; have hcz23_1 := zy BK880 1; have hfz23_0 := blk_frozen BK880.out 0; have hfz23_1 := blk_frozen BK880.out 1) | ((with_reducible refine gate_callee (f := 79) rfl ?_); refine zc 9 Try.func79 #[.agg #[.slice A0_0 l0_0.length c0_0, .slice A0_1 l0_1.length c0_1]] ?_; (with_reducible refine (spec_l2Space.calls k _ _ l0_0 _ _ l0_1 false _ ?side1 ?side2 ?side3 ?side4 A2.out).mono ?_); (case side1 => exact zC (Kd.C_below HR0_0.out HB.out)); (case side2 => exact HC0_0.out); (case side3 => exact zC (Kd.C_below HR0_1.out HB.out)); (case side4 => exact HC0_1.out); rintro e w24 ⟨rfl, hb⟩; refine ⟨_, rfl, ?_⟩; replace HO883 := zM (Kd.R_below (zR HO883.out) hb); replace BK880 := zM (blk_below (g := gb880) (o := .cells #[.slice A0_0 l0_0.length c0_0, .slice A0_1 l0_1.length c0_1] 46 (0, 0)) (zK BK880.out) hb); replace HB := zM (below_step zB hb); (try clear hb); (try clear hb2); (try clear hk); (try clear hi)))
   go_ret2
   exact ⟨_, by first | rfl | (simp [errW_none, errW_some] <;> rfl) | (simp [*, errW_none, errW_some] <;> rfl), by (with_reducible repeat (first | apply Kd.R_alloc | apply Kd.R_drewN | apply Kd.R_drew)); exact HO883.out, zB⟩

/-! ### impl_FrozenPlaces: function 43 -/
def impl_FrozenPlaces.l0 : Nat → List Int → List (List Int) → Int → Int → Option (List Int × Bool)
 | 0, _, _, _, _ => none
 | k + 1, x4, x12, x13, x14 => if x14 < x13 then (if 0 ≤ x14 then (if x14 < (x12.length : Int) then (if ((rd_L4 x12 x14).length : Int) = 0 then (if x4.length < 17592186044416 then (impl_FrozenPlaces.l0 k (x4 ++ [x14]) x12 x13 (wrap64 (x14 + 1))) else (none)) else (impl_FrozenPlaces.l0 k x4 x12 x13 (wrap64 (x14 + 1)))) else (none)) else (none)) else (some (x4, true))
def impl_FrozenPlaces.f (k : Nat) (l0_0 : List (List Int)) (l0_1 : List (S88)) : Option (List Int × Bool) := (impl_IsSpace.f k l0_0 l0_1).bind fun t893 => (if t893 = true then ((impl_Space_roads.f k l0_0 l0_1).bind fun t897 => (impl_FrozenPlaces.l0 k (([] : List Int)) t897 (t897.length : Int) 0)) else (some (([] : List Int), false)))
set_option maxHeartbeats 8000000 in
set_option maxRecDepth 100000 in
theorem impl_FrozenPlaces.calls (k : Nat) (A0_0 : Option Addr) (c0_0 : Nat) (l0_0 : List (List Int)) (A0_1 : Option Addr) (c0_1 : Nat) (l0_1 : List (S88)) (r1 : List Int) (r2 : Bool) (w : World) (hr0_0 : Kd.C (Kd.slice 3 (Kd.int .i64)) w A0_0 l0_0.length l0_0) (hc0_0 : l0_0.length ≤ c0_0) (hr0_1 : Kd.C k88 w A0_1 l0_1.length l0_1) (hc0_1 : l0_1.length ≤ c0_1) (h : impl_FrozenPlaces.f k l0_0 l0_1 = some (r1, r2)) :
 Calls Try.prog 43 #[.agg #[.slice A0_0 l0_0.length c0_0, .slice A0_1 l0_1.length c0_1]] w fun e w' => ∃ v0_ : Value, e = .returned (.tuple #[v0_, .bool r2]) ∧ Kd.R (Kd.int .i64) 3 w' w.heap.size (fun _ => True) v0_ r1 ∧ Below w.heap.size w w' := by
 have hu46 := Try.underlying46
 have HR0_0 := Aside0.mk hr0_0
 have HC0_0 := Aside0.mk hc0_0
 clear hr0_0 hc0_0
 have HR0_1 := Aside0.mk hr0_1
 have HC0_1 := Aside0.mk hc0_1
 clear hr0_1 hc0_1
 have HB := zM (Below.refl w.heap.size w)
 have H : ((impl_IsSpace.f k l0_0 l0_1).bind fun t893 => (if t893 = true then ((impl_Space_roads.f k l0_0 l0_1).bind fun t897 => (impl_FrozenPlaces.l0 k (([] : List Int)) t897 (t897.length : Int) 0)) else (some (([] : List Int), false)))) = some (r1, r2) := h
 clear h
 replace H := Option.bind_eq_some_iff.mp H
 obtain ⟨t893, A20, H⟩ := H
 replace H : (if t893 = true then ((impl_Space_roads.f k l0_0 l0_1).bind fun t897 => (impl_FrozenPlaces.l0 k (([] : List Int)) t897 (t897.length : Int) 0)) else (some (([] : List Int), false))) = some (r1, r2) := H
 have A2 := Aside0.mk A20
 clear A20
 by_cases c3 : t893 = true
 · subst c3
   have H1 : ((impl_Space_roads.f k l0_0 l0_1).bind fun t897 => (impl_FrozenPlaces.l0 k (([] : List Int)) t897 (t897.length : Int) 0)) = some (r1, r2) := by rw [if_pos rfl] at H; exact H
   clear H
   have H := H1
   clear H1
   obtain ⟨y894, hy894⟩ : ∃ y_ : List Int, y_ = (([] : List Int)) := ⟨_, rfl⟩
   replace H : ((impl_Space_roads.f k l0_0 l0_1).bind fun t897 => (impl_FrozenPlaces.l0 k y894 t897 (t897.length : Int) 0)) = some (r1, r2) := by first | (rw [hy894]; with_reducible exact H) | (have H2_ := (Option.bind_some _ _).symm.trans H; rw [hy894]; with_reducible exact H2_) | (have H2_ := (Option.bind_some _ _).symm.trans H; with_reducible exact H2_) | with_reducible exact H | (rw [hy894]; exact H) | exact H
   have Ny894 := Aside0.mk hy894
   clear hy894
   replace H := Option.bind_eq_some_iff.mp H
   obtain ⟨t897, A40, H⟩ := H
   replace H : (impl_FrozenPlaces.l0 k y894 t897 (t897.length : Int) 0) = some (r1, r2) := H
   have A4 := Aside0.mk A40
   clear A40
   have H' := Aside0.mk H
   clear H
   go_enter Try.func43, Try.ntmps43
   go_wp2_with (first | ((with_reducible refine gate_dst (N := 1) rfl ?_); refine zb (w := w) 1 #[.slice A0_0 l0_0.length c0_0, .slice A0_1 l0_1.length c0_1] 46 zB ?_; clear HB; intro gb892 w5 HB BK892 GW892; have GE892 := GW892; have hcz6_0 := zy BK892 0; have hcz6_1 := zy BK892 1; have hfz6_0 := blk_frozen BK892.out 0; have hfz6_1 := blk_frozen BK892.out 1) | ((with_reducible refine gate_callee (f := 83) rfl ?_); refine zc 8 Try.func83 #[.agg #[.slice A0_0 l0_0.length c0_0, .slice A0_1 l0_1.length c0_1]] ?_; (with_reducible refine (impl_IsSpace.calls k _ _ l0_0 _ _ l0_1 true _ ?side1 ?side2 ?side3 ?side4 A2.out).mono ?_); (case side1 => exact zC (Kd.C_below HR0_0.out HB.out)); (case side2 => exact HC0_0.out); (case side3 => exact zC (Kd.C_below HR0_1.out HB.out)); (case side4 => exact HC0_1.out); rintro e w7 ⟨rfl, hb⟩; refine ⟨_, rfl, ?_⟩; replace BK892 := zM (blk_below (g := gb892) (o := .cells #[.slice A0_0 l0_0.length c0_0, .slice A0_1 l0_1.length c0_1] 46 (0, 0)) (zK BK892.out) hb); replace HB := zM (below_step zB hb); (try clear hb); (try clear hb2); (try clear hk); (try clear hi)) | ((with_reducible refine gate_dst (N := 10) rfl ?_); refine Kd.R_lit (Kd.int .i64) _ 3 ?hg (N := 10) ?hd (xs := ([] : List Int)) (inner := []) (ok := fun _ => True) (okp := fun _ => True) ?hr ?hp (fun _ hk => hk) trivial (Below.refl _ _) (Nat.le_refl _) (by simp) ?_; (case hd => rfl); (case hg => rfl); (case hr => first | (go_simp; done) | (go_simp; rfl)); (case hp => exact (Reps.none _ _)); intro v895 w8 ho9 hb hg_ hnew_; clear hg_ hnew_; (first | rw [← Ny894.out] at ho9 | (simp only [Int.reduceToNat] at ho9; rw [← Ny894.out] at ho9)); have HO896 := zM (Kd.R_lower ho9 (below_size zB)); replace BK892 := zM (blk_below (g := gb892) (o := .cells #[.slice A0_0 l0_0.length c0_0, .slice A0_1 l0_1.length c0_1] 46 (0, 0)) (zK BK892.out) hb); replace HB := zM (below_step zB hb); clear hb ho9; have hcz10_0 := zy BK892 0; have hcz10_1 := zy BK892 1; have hfz10_0 := blk_frozen BK892.out 0; have hfz10_1 := blk_frozen BK892.out 1) | ((with_reducible refine gate_callee (f := 91) rfl ?_); refine zc 12 Try.func91 #[.agg #[.slice A0_0 l0_0.length c0_0, .slice A0_1 l0_1.length c0_1]] ?_; (with_reducible refine (impl_Space_roads.calls k _ _ l0_0 _ _ l0_1 t897 _ ?side1 ?side2 ?side3 ?side4 A4.out).mono ?_); (case side1 => exact zC (Kd.C_below HR0_0.out HB.out)); (case side2 => exact HC0_0.out); (case side3 => exact zC (Kd.C_below HR0_1.out HB.out)); (case side4 => exact HC0_1.out); rintro e w11 ⟨v898, rfl, ho0, hb⟩; refine ⟨_, rfl, ?_⟩; have HO899 := zM (Kd.S_lower (Kd.S_new' ho0 (Kd.R_lt (zR HO896.out))) (below_size zB)); replace HO896 := zM (Kd.R_below (zR HO896.out) hb); replace BK892 := zM (blk_below (g := gb892) (o := .cells #[.slice A0_0 l0_0.length c0_0, .slice A0_1 l0_1.length c0_1] 46 (0, 0)) (zK BK892.out) hb); replace HB := zM (below_step zB hb); (try clear hb); (try clear hb2); (try clear hk); (try clear hi); (try clear ho0); obtain ⟨Ao12, co12, eo12⟩ := Kd.S_slice HO899.out; subst eo12))
   go_loopg [4, 14] k (fun kq v4 v14 w' => ∃ (x4_1 : List Int) (x14_1 : Int), v14 = .int .i64 x14_1 ∧ Aside0 (impl_FrozenPlaces.l0 kq x4_1 t897 (t897.length : Int) x14_1 = some (r1, r2)) ∧ Aside0 (kq ≤ k) ∧ Aside0 (Kd.R (Kd.int .i64) 3 w' w.heap.size (fun _ => True) v4 x4_1) ∧ Aside0 (Kd.S (Kd.slice 3 (Kd.int .i64)) 25 w' w.heap.size (fun k_ => some k_ ≠ (v4 : Value).ownBlock) (.slice Ao12 t897.length co12) t897) ∧ Aside0 (w'.heap[gb892]? = some (.cells #[(.slice A0_0 l0_0.length c0_0), (.slice A0_1 l0_1.length c0_1)] 46 (0, 0))) ∧ Aside0 (Below w.heap.size w w'))
   case atStart => exact ⟨(y894), (0), (by first | rfl | (simp; done) | (simp [*]; done)), H', ⟨Nat.le_refl _⟩, ⟨zR HO896.out⟩, ⟨by (with_reducible repeat (first | apply Kd.S_alloc | apply Kd.S_drewN | apply Kd.S_drew)); exact Kd.S_mono HO899.out (fun _ hk => hk.2)⟩, ⟨zK BK892.out⟩, ⟨zB⟩⟩
   case round =>
    clear H'
    try clear p2
    try clear c3
    try clear c4
    try clear c8
    try clear c9
    try clear hcz10_0
    try clear hcz10_1
    try clear hcz6_0
    try clear hcz6_1
    try clear hfz10_0
    try clear hfz10_1
    try clear hfz6_0
    try clear hfz6_1
    obtain ⟨x4_1, x14_1, rfl, HA, HK1, HO_4, HO_12, BK892, HB⟩ := hrel
    cases gk with
    | zero => exact absurd HA.out (by simp [impl_FrozenPlaces.l0])
    | succ k1 =>
     have H := HA.out
     clear HA
     simp only [impl_FrozenPlaces.l0] at H
     by_cases c13 : x14_1 < (t897.length : Int)
     · rw [if_pos c13] at H
       have c13b0 := decide_eq_true c13
       clear c13
       by_cases c14 : 0 ≤ x14_1
       · rw [if_pos c14] at H
         have c14b0 := decide_eq_true c14
         clear c14
         by_cases c15 : x14_1 < (t897.length : Int)
         · rw [if_pos c15] at H
           have c15b0 := decide_eq_true c15
           clear c15
           by_cases c16 : ((rd_L4 t897 x14_1).length : Int) = 0
           · rw [if_pos c16] at H
             have c16b0 : (((rd_L4 t897 x14_1).length : Int) == 0) = true := beq_iff_eq.mpr c16
             have c16b1 : (((rd_L4 t897 x14_1).length : Int) != 0) = false := bne_eq_false_iff_eq.mpr c16
             clear c16
             by_cases c17 : x4_1.length < 17592186044416
             · rw [if_pos c17] at H
               have LMc17 := Aside0.mk c17
               clear c17
               obtain ⟨y901, hy901⟩ : ∃ y_ : List Int, y_ = (x4_1 ++ [x14_1]) := ⟨_, rfl⟩
               replace H : (impl_FrozenPlaces.l0 k1 y901 t897 (t897.length : Int) (wrap64 (x14_1 + 1))) = some (r1, r2) := by first | (rw [hy901]; with_reducible exact H) | (have H2_ := (Option.bind_some _ _).symm.trans H; rw [hy901]; with_reducible exact H2_) | (have H2_ := (Option.bind_some _ _).symm.trans H; with_reducible exact H2_) | with_reducible exact H | (rw [hy901]; exact H) | exact H
               have Ny901 := Aside0.mk hy901
               clear hy901
               have H' := Aside0.mk H
               clear H
               have p900 : 0 ≤ (x14_1 : Int) := of_decide_eq_true zA
               have q900 : x14_1 < (t897.length : Int) := of_decide_eq_true zA
               obtain ⟨ad900, A900_0, c900_0, e900, hx900_0, hl900_0, hi900_0⟩ := at_L4 (Kd.S_reads' HO_12.out).2.2 x14_1 p900 q900
               cases e900
               obtain ⟨ce900, hce900, hMe900, hcc900⟩ := Kd.S_get HO_12.out [] x14_1 p900 (by first | exact q900 | exact of_decide_eq_true zA | (have e_ := (Kd.S_reads' HO_12.out).1; omega))
               obtain ⟨ve900_0, rfl, ge900_0⟩ := hMe900
               have hv900_0 := hcc900 0 _ rfl
               rw [Nat.add_zero, show ((Kd.slice 3 (Kd.int .i64))).sz = 1 from rfl, Nat.mul_one] at hv900_0
               replace hv900_0 := Option.some.inj (hv900_0.symm.trans hx900_0)
               rw [hv900_0] at ge900_0
               have HL900_0 := zM (show Kd.R (Kd.int .i64) 3 _ _ _ _ (rd_L4 t897 x14_1) from ge900_0)
               clear hv900_0 ge900_0
               clear hcc900 hce900
               have HR900_0 := Aside0.mk hi900_0
               have HC900_0 := Aside0.mk hl900_0
               clear hi900_0 hl900_0
               replace p900 := eq_true p900
               replace q900 := eq_true q900
               go_wp2_with (first | ((with_reducible refine gate_builtin (b := .append) (xs := #[.tmp 22, .tmp 24]) rfl ?_); at_builtin; refine Kd.R_append (Kd.int .i64) (w0 := w) w.heap.size rfl (.tmp 22) (.tmp 24) 25 3 (.int .i64 0) 8 rfl Try.underlying25 info3 rfl (by decide) (by omega) u4 x4_1 x14_1 [.int .i64 x14_1] (fun _ => True) (fun _ => False) rfl rfl ?aP (fun _ hk => hk.elim) ?aF ?aO ?aB ?aS ?aL ?_; (case aP => exact rfl); (case aB => exact zB); (case aF => exact (fun _ _ => trivial)); (case aO => exact (zR HO_4.out)); (case aS => exact (below_size zB)); (case aL => have := LMc17.out; omega); intro v902 w18 ho hb hg hat; rw [← Ny901.out] at ho; replace HO_12 := zM (Kd.S_after (ok := (fun _ => True)) (by (with_reducible repeat (first | apply Kd.S_alloc | apply Kd.S_drewN | apply Kd.S_drew)); exact Kd.S_mono HO_12.out (fun _ hk => ⟨trivial, hk⟩)) hg hat); replace BK892 := zM (blk_grown (g := gb892) (o := .cells #[.slice A0_0 l0_0.length c0_0, .slice A0_1 l0_1.length c0_1] 46 (0, 0)) (zK BK892.out) hg (Kd.R_ne HO_4.out BK892.out (by decide))); replace HL900_0 := zM (Kd.R_after (ok := (fun k_ => some k_ ≠ (.slice (some ad900) t897.length co12 : Value).ownBlock)) (by (with_reducible repeat (first | apply Kd.R_alloc | apply Kd.R_drewN | apply Kd.R_drew)); exact Kd.R_mono HL900_0.out (fun _ hk => ⟨hk.2, hk.1⟩)) hg hat); replace HB := zM (hb); have HO903 := zM (ho); clear HO_4; clear ho hb hg hat))
               go_roundg k1
               case measure => have := HK1.out; omega
               case rel => exact ⟨(y901), (wrap64 (x14_1 + 1)), (by first | rfl | (simp; done) | (simp [*]; done)), H', ⟨by have := HK1.out; omega⟩, ⟨zR HO903.out⟩, ⟨by (with_reducible repeat (first | apply Kd.S_alloc | apply Kd.S_drewN | apply Kd.S_drew)); exact Kd.S_mono HO_12.out (fun _ hk => hk.2)⟩, ⟨zK BK892.out⟩, ⟨zB⟩⟩
             · rw [if_neg c17] at H
               exact absurd H (by simp)
           · rw [if_neg c16] at H
             have c16b0 : (((rd_L4 t897 x14_1).length : Int) == 0) = false := beq_eq_false_iff_ne.mpr c16
             have c16b1 : (((rd_L4 t897 x14_1).length : Int) != 0) = true := bne_iff_ne.mpr c16
             have c16b2 : ¬ ((rd_L4 t897 x14_1) = []) := fun h_ => c16 (by rw [h_]; rfl)
             have H' := Aside0.mk H
             clear H
             have p900 : 0 ≤ (x14_1 : Int) := of_decide_eq_true zA
             have q900 : x14_1 < (t897.length : Int) := of_decide_eq_true zA
             obtain ⟨ad900, A900_0, c900_0, e900, hx900_0, hl900_0, hi900_0⟩ := at_L4 (Kd.S_reads' HO_12.out).2.2 x14_1 p900 q900
             cases e900
             obtain ⟨ce900, hce900, hMe900, hcc900⟩ := Kd.S_get HO_12.out [] x14_1 p900 (by first | exact q900 | exact of_decide_eq_true zA | (have e_ := (Kd.S_reads' HO_12.out).1; omega))
             obtain ⟨ve900_0, rfl, ge900_0⟩ := hMe900
             have hv900_0 := hcc900 0 _ rfl
             rw [Nat.add_zero, show ((Kd.slice 3 (Kd.int .i64))).sz = 1 from rfl, Nat.mul_one] at hv900_0
             replace hv900_0 := Option.some.inj (hv900_0.symm.trans hx900_0)
             rw [hv900_0] at ge900_0
             have HL900_0 := zM (show Kd.R (Kd.int .i64) 3 _ _ _ _ (rd_L4 t897 x14_1) from ge900_0)
             clear hv900_0 ge900_0
             clear hcc900 hce900
             have HR900_0 := Aside0.mk hi900_0
             have HC900_0 := Aside0.mk hl900_0
             clear hi900_0 hl900_0
             replace p900 := eq_true p900
             replace q900 := eq_true q900
             go_wp2
             go_roundg k1
             case measure => have := HK1.out; omega
             case rel => exact ⟨(x4_1), (wrap64 (x14_1 + 1)), (by first | rfl | (simp; done) | (simp [*]; done)), H', ⟨by have := HK1.out; omega⟩, ⟨zR HO_4.out⟩, ⟨by (with_reducible repeat (first | apply Kd.S_alloc | apply Kd.S_drewN | apply Kd.S_drew)); exact HO_12.out⟩, ⟨zK BK892.out⟩, ⟨zB⟩⟩
         · rw [if_neg c15] at H
           exact absurd H (by simp)
       · rw [if_neg c14] at H
         exact absurd H (by simp)
     · rw [if_neg c13] at H
       have c13b0 : decide (x14_1 < (t897.length : Int)) = false := decide_eq_false c13
       clear c13
       simp only [Option.some.injEq, Prod.mk.injEq] at H
       obtain ⟨rfl, rfl⟩ := H
       go_wp2
       go_ret2
       exact ⟨_, by first | rfl | (simp [errW_none, errW_some] <;> rfl) | (simp [*, errW_none, errW_some] <;> rfl), by (with_reducible repeat (first | apply Kd.R_alloc | apply Kd.R_drewN | apply Kd.R_drew)); exact HO_4.out, zB⟩
 · replace c3 := Bool.eq_false_iff.mpr c3
   subst c3
   have H1 : (some (([] : List Int), false)) = some (r1, r2) := by rw [if_neg (show ¬ (false = true) by decide)] at H; exact H
   clear H
   have H := H1
   clear H1
   simp only [Option.some.injEq, Prod.mk.injEq] at H
   obtain ⟨rfl, rfl⟩ := H
   go_enter Try.func43, Try.ntmps43
   go_wp2_with (first | ((with_reducible refine gate_dst (N := 1) rfl ?_); refine zb (w := w) 1 #[.slice A0_0 l0_0.length c0_0, .slice A0_1 l0_1.length c0_1] 46 zB ?_; clear HB; intro gb892 w19 HB BK892 GW892; have GE892 := GW892; have hcz20_0 := zy BK892 0; have hcz20_1 := zy BK892 1; have hfz20_0 := blk_frozen BK892.out 0; have hfz20_1 := blk_frozen BK892.out 1) | ((with_reducible refine gate_callee (f := 83) rfl ?_); refine zc 8 Try.func83 #[.agg #[.slice A0_0 l0_0.length c0_0, .slice A0_1 l0_1.length c0_1]] ?_; (with_reducible refine (impl_IsSpace.calls k _ _ l0_0 _ _ l0_1 false _ ?side1 ?side2 ?side3 ?side4 A2.out).mono ?_); (case side1 => exact zC (Kd.C_below HR0_0.out HB.out)); (case side2 => exact HC0_0.out); (case side3 => exact zC (Kd.C_below HR0_1.out HB.out)); (case side4 => exact HC0_1.out); rintro e w21 ⟨rfl, hb⟩; refine ⟨_, rfl, ?_⟩; replace BK892 := zM (blk_below (g := gb892) (o := .cells #[.slice A0_0 l0_0.length c0_0, .slice A0_1 l0_1.length c0_1] 46 (0, 0)) (zK BK892.out) hb); replace HB := zM (below_step zB hb); (try clear hb); (try clear hb2); (try clear hk); (try clear hi)))
   go_ret2
   exact ⟨_, by first | rfl | (simp [errW_none, errW_some] <;> rfl) | (simp [*, errW_none, errW_some] <;> rfl), by first | exact Kd.R_nil _ _ _ _ _ | exact Kd.N_nil _ _ _ _ _ | exact Kd.V_nil _ _ _ _ _ | exact Kd.Q_nil _ _ _ _ _ | exact Kd.S_nil _ _ _ _ _, zB⟩

-- NOT PRINTED: function 10 (laws_FnExactFrozenPlaces)

end Go.Proofs.Ytnlmijnbfdhdkaa.P
namespace Go.Proofs.Ytnlmijnbfdhdkaa.P
open Go.RowKit Go.Proofs.YtnlmijnbfdhdkaaW.PrintWords Go.Proofs.YtnlmijnbfdhdkaaW.PrintLast Go.Proofs.YtnlmijnbfdhdkaaW.PrintMore
attribute [local go_sem] max2_int min2_int max_two min_two max_three min_three max_four min_four   -- for this text's walks alone
set_option linter.unusedVariables false
set_option linter.unusedSimpArgs false

/-! ### laws_markIntS: function 25 -/
def laws_markIntS.l0 : Nat → List Int → Int → Int → Option (Int × List Int)
 | 0, _, _, _ => none
 | k + 1, x0, x1, x5 => if x5 < (x0.length : Int) then (if 0 ≤ x5 then (laws_markIntS.l0 k (x0.set (x5 : Int).toNat x1) (wrap64 (x1 + 1)) (wrap64 (x5 + 1))) else (none)) else (some (x1, x0))
def laws_markIntS.f (k : Nat) (l0 : List Int) (a1 : Int) : Option (Int × List Int) := laws_markIntS.l0 k l0 a1 0
set_option maxHeartbeats 8000000 in
set_option maxRecDepth 100000 in
theorem laws_markIntS.calls (k : Nat) (P0_ : Nat → Prop) (u9000_ : Value) (l0 : List Int) (a1 : Int) (r1 : Int) (r2 : List Int) (w0 w : World) (hB : Below w0.heap.size w0 w) (ho0 : Kd.R (Kd.int .i64) 3 w w0.heap.size P0_ u9000_ l0) (h : laws_markIntS.f k l0 a1 = some (r1, r2)) :
 Calls Try.prog 25 #[u9000_, .int .i64 a1] w fun e w' => e = .returned (.int .i64 r1) ∧ Kd.R (Kd.int .i64) 3 w' w0.heap.size (fun k_ => (P0_ k_ ∨ w.heap.size ≤ k_)) u9000_ r2 ∧ Below w0.heap.size w0 w' ∧ Kept w w' (fun k_ => P0_ k_) := by
 have HO0 := zM (show Kd.R (Kd.int .i64) 3 w w0.heap.size (fun k_ => (P0_ k_ ∨ w.heap.size ≤ k_)) u9000_ l0 from Kd.R_mono ho0 (fun k_ hk => (.inl hk)))
 have HK := zM (Kept.refl w (fun k_ => P0_ k_))
 have HW0 := Aside0.mk hB.size
 have HB := Aside0.mk hB
 clear hB
 have H : (laws_markIntS.l0 k l0 a1 0) = some (r1, r2) := h
 clear h
 have H' := Aside0.mk H
 clear H
 go_enter Try.func25, Try.ntmps25
 go_wp2
 go_loopg [1, 5] k (fun kq v1 v5 w' => ∃ (x0_1 : List Int) (x1_1 : Int) (x5_1 : Int), v1 = .int .i64 x1_1 ∧ v5 = .int .i64 x5_1 ∧ Aside0 (laws_markIntS.l0 kq x0_1 x1_1 x5_1 = some (r1, r2)) ∧ Aside0 (kq ≤ k) ∧ Aside0 (Kd.R (Kd.int .i64) 3 w' w0.heap.size (fun k_ => (P0_ k_ ∨ w.heap.size ≤ k_)) u9000_ x0_1) ∧ Aside0 (Kept w w' (fun k_ => P0_ k_)) ∧ Aside0 (Below w0.heap.size w0 w'))
 case atStart => exact ⟨(l0), (a1), (0), (by first | rfl | (simp; done) | (simp [*]; done)), (by first | rfl | (simp; done) | (simp [*]; done)), H', ⟨Nat.le_refl _⟩, ⟨zR HO0.out⟩, ⟨by repeat (first | (with_reducible first | exact HK.out | apply Kept.alloc | apply Kept.drewN | apply Kept.drew) | exact HK.out)⟩, ⟨zB⟩⟩
 case round =>
  clear H'
  try clear c2
  try clear p2
  obtain ⟨x0_1, x1_1, x5_1, rfl, rfl, HA, HK1, HO_0, HK, HB⟩ := hrel
  cases gk with
  | zero => exact absurd HA.out (by simp [laws_markIntS.l0])
  | succ k1 =>
   have H := HA.out
   clear HA
   simp only [laws_markIntS.l0] at H
   by_cases c3 : x5_1 < (x0_1.length : Int)
   · rw [if_pos c3] at H
     have c3b0 := decide_eq_true c3
     clear c3
     by_cases c4 : 0 ≤ x5_1
     · rw [if_pos c4] at H
       have c4b0 := decide_eq_true c4
       clear c4
       obtain ⟨y346, hy346⟩ : ∃ y_ : List Int, y_ = (x0_1.set (x5_1 : Int).toNat x1_1) := ⟨_, rfl⟩
       replace H : (laws_markIntS.l0 k1 y346 (wrap64 (x1_1 + 1)) (wrap64 (x5_1 + 1))) = some (r1, r2) := by first | (rw [hy346]; with_reducible exact H) | (have H2_ := (Option.bind_some _ _).symm.trans H; rw [hy346]; with_reducible exact H2_) | (have H2_ := (Option.bind_some _ _).symm.trans H; with_reducible exact H2_) | with_reducible exact H | (rw [hy346]; exact H) | exact H
       have Ny346 := Aside0.mk hy346
       clear hy346
       have H' := Aside0.mk H
       clear H
       obtain ⟨Ao6, co6, eo6⟩ := Kd.R_slice HO_0.out
       subst eo6
       have p5 : 0 ≤ (x5_1 : Int) := of_decide_eq_true zA
       have q5 : (x5_1 : Int) < ((x0_1.length : Int) : Int) := of_decide_eq_true zA
       obtain ⟨go5, co5, eo5, gb5, gl5, cl5, HG5⟩ := Kd.R_form HO_0.out (by omega)
       (first | cases eo5 | (injection eo5 with ea_ en_ ec_; (first | subst ea_ | (injection ea_ with ea_; subst ea_)); subst ec_; clear en_))
       have GB5 := Aside0.mk gb5
       have GG5 := Aside0.mk HG5
       clear gb5 gl5 HG5
       have HMgo5 := zM (show (P0_ go5 ∨ w.heap.size ≤ go5) from (HO_0.out.1 _ rfl))
       obtain ⟨hx5_0, hf5_0⟩ := Kd.R_celln 0 HO_0.out (x5_1 : Int) p5 q5
       replace p5 := eq_true p5
       replace q5 := eq_true q5
       have HP7 := Kd.R_putg HO_0.out (x5_1 : Int) x1_1
       go_wp2_with (first | ((with_reducible refine gate_store (t := 3) (p := 15) rfl ?_); refine store_event (t := 3) (p := 15) (v := ?vo_w8) (w1 := (wr.setCell ⟨go5, (x5_1 : Int).toNat, none⟩ (.int .i64 x1_1))) ?hg ?ho ?hn ?hr ?_; (case ho => rfl); (case hg => rfl); (case hn => rfl); (case hr => first | (go_simp; done) | (go_simp; rfl)); intro w8 hw; have hg : wr.grownBy w8 (some go5) := (by rw [hw]; exact HP7.2); have hp_ : Kd.R (Kd.int .i64) 3 w8 w0.heap.size (fun k_ => (P0_ k_ ∨ w.heap.size ≤ k_)) (.slice (some ⟨go5, 0, none⟩) x0_1.length co6) y346 := (by rw [hw, Ny346.out]; exact HP7.1); clear HP7; replace HB := zM ((by rw [hw]; exact below_set (HB.out) GB5.out : Below w0.heap.size w0 w8)); replace HK := zM (Kept.of_grown (S := (fun k_ => P0_ k_)) hg (by repeat (first | (with_reducible first | exact HK.out | apply Kept.alloc | apply Kept.drewN | apply Kept.drew) | exact HK.out)) (fun k_ e_ => (HO_0.out.1 k_ e_))); replace HO_0 := zM (hp_); clear hg hw hp_))
       go_roundg k1
       case measure => have := HK1.out; omega
       case rel => exact ⟨(y346), (wrap64 (x1_1 + 1)), (wrap64 (x5_1 + 1)), (by first | rfl | (simp; done) | (simp [*]; done)), (by first | rfl | (simp; done) | (simp [*]; done)), H', ⟨by have := HK1.out; omega⟩, ⟨zR HO_0.out⟩, ⟨by repeat (first | (with_reducible first | exact HK.out | apply Kept.alloc | apply Kept.drewN | apply Kept.drew) | exact HK.out)⟩, ⟨zB⟩⟩
     · rw [if_neg c4] at H
       exact absurd H (by simp)
   · rw [if_neg c3] at H
     have c3b0 : decide (x5_1 < (x0_1.length : Int)) = false := decide_eq_false c3
     clear c3
     simp only [Option.some.injEq, Prod.mk.injEq] at H
     obtain ⟨rfl, rfl⟩ := H
     obtain ⟨Ao9, co9, eo9⟩ := Kd.R_slice HO_0.out
     subst eo9
     go_wp2
     go_ret
     exact ⟨by first | rfl | (simp [errW_none, errW_some] <;> rfl) | (simp [*, errW_none, errW_some] <;> rfl), by (with_reducible repeat (first | apply Kd.R_alloc | apply Kd.R_drewN | apply Kd.R_drew)); exact HO_0.out, by repeat (first | (with_reducible first | exact HB.out | apply below_alloc | apply pw_below_drewN | apply below_drew1) | exact HB.out), by repeat (first | (with_reducible first | exact HK.out | apply Kept.alloc | apply Kept.drewN | apply Kept.drew) | exact HK.out)⟩

end Go.Proofs.Ytnlmijnbfdhdkaa.P
namespace Go.Proofs.Ytnlmijnbfdhdkaa.P
open Go.RowKit Go.Proofs.YtnlmijnbfdhdkaaW.PrintWords Go.Proofs.YtnlmijnbfdhdkaaW.PrintLast Go.Proofs.YtnlmijnbfdhdkaaW.PrintMore
set_option linter.unusedVariables false
set_option linter.unusedSimpArgs false

def seqS : Nat → Int → List Int
  | 0, _ => []
  | n + 1, k => k :: seqS n (wrap64 (k + 1))
def endS : Nat → Int → Int
  | 0, k => k
  | n + 1, k => endS n (wrap64 (k + 1))
theorem markS_loop (d : Nat) : ∀ (done rest : List Int) (c : Int), rest.length = d → done.length + d ≤ 9223372036854775807 →
    ∃ k, laws_markIntS.l0 k (done ++ rest) c (done.length : Int) = some (endS d c, done ++ seqS d c) := by
  induction d with
  | zero =>
    intro done rest c h0 h1
    have : rest = [] := List.eq_nil_of_length_eq_zero h0
    subst this
    refine ⟨1, ?_⟩
    rw [laws_markIntS.l0, if_neg (by simp)]
    rfl
  | succ d ih =>
    intro done rest c h0 h1
    obtain ⟨x, t, rfl⟩ : ∃ x t, rest = x :: t := by
      cases rest with
      | nil => simp at h0
      | cons x t => exact ⟨x, t, rfl⟩
    have h2 : t.length = d := by simpa using h0
    obtain ⟨k, hk⟩ := ih (done ++ [c]) t (wrap64 (c + 1)) h2 (by rw [List.length_append, List.length_singleton]; omega)
    refine ⟨k + 1, ?_⟩
    have e : (done ++ x :: t).set ((done.length : Int)).toNat c = (done ++ [c]) ++ t := by
      rw [Int.toNat_natCast]
      simp
    have hw : wrap64 ((done.length : Int) + 1) = ((done ++ [c]).length : Int) := by
      rw [List.length_append, List.length_singleton]
      unfold wrap64
      omega
    rw [laws_markIntS.l0, if_pos (by simp; omega), if_pos (by omega), e, hw, hk]
    simp only [seqS, endS, List.append_assoc, List.singleton_append]
theorem markS_some (l : List Int) (c : Int) (hl : l.length ≤ 9223372036854775807) : ∃ k, laws_markIntS.f k l c = some (endS l.length c, seqS l.length c) := by
  obtain ⟨k, hk⟩ := markS_loop l.length [] l c rfl (by simpa using hl)
  exact ⟨k, by unfold laws_markIntS.f; simpa only [List.nil_append, List.length_nil, Int.natCast_zero] using hk⟩
def markSS : List (List Int) → Int → Int × List (List Int)
  | [], k => (k, [])
  | l :: t, k => ((markSS t (endS l.length k)).1, seqS l.length k :: (markSS t (endS l.length k)).2)
def laws_markIntSS.f (l0 : List (List Int)) (a1 : Int) : Option (Int × List (List Int)) := some (markSS l0 a1)
theorem set_midS {α : Type} (done : List α) (l : List α) (m : Nat) (hd : done.length = m) (hm : m < l.length) (x : α) : (done ++ l.drop m).set m x = (done ++ [x]) ++ l.drop (m + 1) := by
  subst hd
  rw [List.drop_eq_getElem_cons hm, List.set_append_right _ _ (Nat.le_refl _), Nat.sub_self, List.set_cons_zero, List.append_assoc, List.singleton_append]
set_option maxRecDepth 100000 in
set_option maxHeartbeats 2000000 in
theorem laws_markIntSS.calls (P0_ : Nat → Prop) (u9000_ : Value) (l0 : List (List Int)) (a1 : Int) (r1 : Int) (r2 : List (List Int)) (w0 w : World) (hB : Below w0.heap.size w0 w) (ho0 : Kd.S (Kd.slice 3 (Kd.int .i64)) 25 w w0.heap.size P0_ u9000_ l0) (h : laws_markIntSS.f l0 a1 = some (r1, r2)) :
    Calls Try.prog 47 #[u9000_, .int .i64 a1] w fun e w' => e = .returned (.int .i64 r1) ∧ Kd.S (Kd.slice 3 (Kd.int .i64)) 25 w' w0.heap.size (fun k_ => (P0_ k_ ∨ w.heap.size ≤ k_)) u9000_ r2 ∧ Below w0.heap.size w0 w' ∧ Kept w w' (fun k_ => P0_ k_) := by
  have HO := Aside0.mk (show Kd.S (Kd.slice 3 (Kd.int .i64)) 25 w w0.heap.size (fun k_ => (P0_ k_ ∨ w.heap.size ≤ k_)) u9000_ l0 from Kd.S_mono ho0 (fun k_ hk => (.inl hk)))
  unfold laws_markIntSS.f at h
  have H' := Aside0.mk (Option.some.inj h)
  obtain ⟨A, c, e0⟩ := Kd.S_slice ho0
  have HL := Aside0.mk (show l0.length ≤ 9223372036854775807 by
    obtain ⟨A', c', _, _, hc⟩ := Kd.S_reads ho0
    exact hc.2.1)
  have HB0 := Aside0.mk hB
  clear h hB ho0
  subst e0
  go_enter Try.func47, Try.ntmps47
  go_wp2
  go_loopg [5, 1, 6] (l0.length + 1) (fun kq v5 v1 v6 w' => ∃ (m : Nat) (kk : Int) (done : List (List Int)), v5 = .int .i64 m ∧ v1 = .int .i64 kk ∧ Aside0 (m ≤ l0.length) ∧ Aside0 (kq = l0.length - m + 1) ∧ Aside0 (done.length = m) ∧ Aside0 ((markSS (l0.drop m) kk).1 = r1 ∧ done ++ (markSS (l0.drop m) kk).2 = r2) ∧ Aside0 (Kd.S (Kd.slice 3 (Kd.int .i64)) 25 w' w0.heap.size (fun k_ => (P0_ k_ ∨ w.heap.size ≤ k_)) (.slice A l0.length c) (done ++ l0.drop m)) ∧ Aside0 (Below w0.heap.size w0 w') ∧ Aside0 (Kept w w' (fun k_ => P0_ k_)))
  case atStart => exact ⟨0, a1, [], rfl, rfl, ⟨Nat.zero_le _⟩, ⟨by omega⟩, ⟨rfl⟩, ⟨by rw [List.drop_zero, H'.out]; exact ⟨rfl, rfl⟩⟩, ⟨by rw [List.drop_zero]; exact HO.out⟩, HB0, ⟨Kept.refl _ _⟩⟩
  case round =>
    clear H' HO HB0
    obtain ⟨m, kk, done, rfl, rfl, HM, HK1, HD, HA, HO, HB, HK⟩ := hrel
    have HN := Aside0.mk (show (done ++ l0.drop m).length = l0.length by rw [List.length_append, List.length_drop, HD.out]; have := HM.out; omega)
    by_cases c1 : m < l0.length
    · have q1 : (m : Int) < (l0.length : Int) := by omega
      obtain ⟨g, cap, eg, gb, gl, HG⟩ := Kd.S_form HO.out (by rw [HN.out]; omega)
      rw [HN.out] at eg
      injection eg with eA _ ec
      subst eA; subst ec
      obtain ⟨oki, cs, hcl, hM, hcc, hoki, HH⟩ := Kd.S_lend HO.out ([] : List Int) (m : Int) (by omega) q1
      obtain ⟨v, rfl, hR⟩ := hM
      have hrow : (done ++ l0.drop m).getD (m : Int).toNat [] = l0[m] := by
        rw [Int.toNat_natCast, List.getD_eq_getElem?_getD, List.getElem?_append_right (by rw [HD.out]; exact Nat.le_refl _), HD.out, Nat.sub_self, List.getElem?_drop, Nat.add_zero, List.getElem?_eq_getElem c1, Option.getD_some]
      rw [hrow] at hR
      have hx0 := hcc 0 _ rfl
      rw [Int.toNat_natCast, show (Kd.slice 3 (Kd.int .i64)).sz = 1 from rfl, Nat.mul_one, Nat.add_zero] at hx0
      have hll : (l0[m]).length ≤ 9223372036854775807 := by
        obtain ⟨A', c', _, _, hc⟩ := Kd.R_reads hR
        exact hc.2.1
      obtain ⟨kf, hf⟩ := markS_some l0[m] kk hll
      have HF := Aside0.mk hf
      have HRo := Aside0.mk hR
      have HHo := Aside0.mk HH
      have HOk := Aside0.mk hoki
      have HE := Aside0.mk (set_midS done l0 m HD.out c1 (seqS (l0[m]).length kk))
      have H2 : Aside0 ((markSS (l0.drop (m + 1)) (endS (l0[m]).length kk)).1 = r1 ∧ (done ++ [seqS (l0[m]).length kk]) ++ (markSS (l0.drop (m + 1)) (endS (l0[m]).length kk)).2 = r2) := ⟨by
        have e_ := HA.out
        rw [List.drop_eq_getElem_cons c1] at e_
        simp only [markSS] at e_
        rw [List.append_assoc, List.singleton_append]
        exact e_⟩
      obtain ⟨Av, cv, ev⟩ := Kd.R_slice hR
      subst ev
      generalize hk2 : endS (l0[m]).length kk = k2 at HF H2
      generalize hs2 : seqS (l0[m]).length kk = s2 at HF H2 HE
      generalize l0[m] = row at HF HRo hx0 HHo
      clear HA hcc hcl gl HG gb hR HH hoki hf hk2 hs2 hrow hll
      have c1b : decide ((m : Int) < (l0.length : Int)) = true := decide_eq_true q1
      have c1c : decide (m < l0.length) = true := decide_eq_true c1
      have p1 : (0 : Int) ≤ (m : Int) := by omega
      have hw1 : (m : Int) + 1 ≤ 9223372036854775807 := by have := HL.out; omega
      replace p1 := eq_true p1
      replace q1 := eq_true q1
      clear c1
      go_wp2_with (go_at_call 25; refine (laws_markIntS.calls kf oki _ row kk _ _ w0 wr HB.out HRo.out HF.out).mono ?_; rintro e w2 ⟨rfl, hy, hb, hkp⟩; have HS := Aside0.mk (Kd.H_back (Kd.H_kept HHo.out hkp (fun _ _ hn => hn)) (x' := s2) ⟨_, rfl, Kd.R_reok rfl hy (fun k_ e_ => HRo.out.1 k_ e_)⟩ (fun _ hk => hk)); have HB2 := Aside0.mk hb; have HK2 : Aside0 (Kept w w2 (fun k_ => P0_ k_)) := ⟨⟨Nat.le_trans HK.out.1 hkp.1, fun i hi hn => (hkp.2 i (Nat.lt_of_lt_of_le hi HK.out.1) (fun ho => (HOk.out i ho).1.elim hn (fun h3 => by omega))).trans (HK.out.2 i hi hn)⟩⟩; clear hy hb hkp)
      go_roundg (l0.length - m)
      case measure => have := HK1.out; have := HM.out; omega
      case rel => exact ⟨m + 1, _, done ++ [s2], by first | rfl | (simp; done) | go_num, rfl, ⟨by have := of_eq_true q1; omega⟩, ⟨by have := of_eq_true q1; omega⟩, ⟨by rw [List.length_append, HD.out]; rfl⟩, H2, ⟨by rw [← HE.out]; rw [← Int.toNat_natCast m]; exact HS.out⟩, HB2, HK2⟩
    · have q1 : ¬ (m : Int) < (l0.length : Int) := by omega
      have c1b : decide ((m : Int) < (l0.length : Int)) = false := decide_eq_false q1
      have c1c : decide (m < l0.length) = false := decide_eq_false c1
      have H3 : Aside0 (kk = r1 ∧ done ++ l0.drop m = r2) := ⟨by
        have e_ := HA.out
        rw [List.drop_eq_nil_of_le (show l0.length ≤ m by omega)] at e_ ⊢
        exact e_⟩
      clear HA c1 q1
      go_wp2
      go_ret
      exact ⟨by have e_ := H3.out.1; subst e_; rfl, by rw [← H3.out.2]; exact HO.out, HB.out, HK.out⟩
end Go.Proofs.Ytnlmijnbfdhdkaa.P
namespace Go.Proofs.Ytnlmijnbfdhdkaa.P
open Go.RowKit Go.Proofs.YtnlmijnbfdhdkaaW.PrintWords Go.Proofs.YtnlmijnbfdhdkaaW.PrintLast Go.Proofs.YtnlmijnbfdhdkaaW.PrintMore
set_option linter.unusedVariables false
set_option linter.unusedSimpArgs false

def mark2 : List S88 → Int → Int × List S88
  | [], k => (k, [])
  | _ :: t, k => ((mark2 t (wrap64 (wrap64 (k + 1) + 1))).1, ⟨k, wrap64 (k + 1)⟩ :: (mark2 t (wrap64 (wrap64 (k + 1) + 1))).2)
def laws_markIntA2S.f (l0 : List S88) (a1 : Int) : Option (Int × (List S88)) := some (mark2 l0 a1)
/-- One pair is written. -/
theorem mark_step {W : World} {base g n cap : Nat} {ok : Nat → Prop} {xs : List S88} (h : Kd.R k88 88 W base ok (.slice (some ⟨g, 0, none⟩) n cap) xs) (m : Nat) (hm : m < n) (p q : Int) :
    Kd.R k88 88 ((W.setCell ⟨g, m * 2, none⟩ (.int .i64 p)).setCell ⟨g, m * 2 + 1, none⟩ (.int .i64 q)) base ok (.slice (some ⟨g, 0, none⟩) n cap) (xs.set m ⟨p, q⟩) ∧ W.grownBy ((W.setCell ⟨g, m * 2, none⟩ (.int .i64 p)).setCell ⟨g, m * 2 + 1, none⟩ (.int .i64 q)) (some g) := by
  obtain ⟨c, hcl, hM, hcc, hfz⟩ := Kd.R_elem h (z88) (m : Int) (by omega) (by omega)
  have hs := Kd.R_seg h (m : Int) (by omega) (by omega) (seg := [.int .i64 p, .int .i64 q]) (j := 0) hcl hcc (by show 0 + 2 ≤ 2; omega) (x' := (⟨p, q⟩ : S88)) (okp := fun k => ok k ∧ k ≠ g)
    (by rw [List.take_zero, List.nil_append, List.drop_eq_nil_of_le (by rw [hcl]; show 2 ≤ 0 + 2; omega), List.append_nil]; exact k88_mkM _ _ _ _) (fun k hk => hk)
  rw [Int.toNat_natCast, show k88.sz = 2 from rfl, Nat.add_zero] at hs
  exact hs
theorem set_mid {α : Type} (done : List α) (l : List α) (m : Nat) (hd : done.length = m) (hm : m < l.length) (x : α) : (done ++ l.drop m).set m x = (done ++ [x]) ++ l.drop (m + 1) := by
  subst hd
  rw [List.drop_eq_getElem_cons hm, List.set_append_right _ _ (Nat.le_refl _), Nat.sub_self, List.set_cons_zero, List.append_assoc, List.singleton_append]
set_option maxRecDepth 100000 in
set_option maxHeartbeats 2000000 in
theorem laws_markIntA2S.calls (P0_ : Nat → Prop) (u9000_ : Value) (l0 : List S88) (a1 : Int) (r1 : Int) (r2 : List S88) (w0 w : World) (hB : Below w0.heap.size w0 w) (ho0 : Kd.R k88 88 w w0.heap.size P0_ u9000_ l0) (h : laws_markIntA2S.f l0 a1 = some (r1, r2)) :
    Calls Try.prog 66 #[u9000_, .int .i64 a1] w fun e w' => e = .returned (.int .i64 r1) ∧ Kd.R k88 88 w' w0.heap.size (fun k_ => (P0_ k_ ∨ w.heap.size ≤ k_)) u9000_ r2 ∧ Below w0.heap.size w0 w' ∧ Kept w w' (fun k_ => P0_ k_) := by
  have HO := Aside0.mk (show Kd.R k88 88 w w0.heap.size (fun k_ => (P0_ k_ ∨ w.heap.size ≤ k_)) u9000_ l0 from Kd.R_mono ho0 (fun k_ hk => (.inl hk)))
  have HP := Aside0.mk ho0.1
  unfold laws_markIntA2S.f at h
  have H' := Aside0.mk (Option.some.inj h)
  obtain ⟨A, c, e0⟩ := Kd.R_slice ho0
  have HL := Aside0.mk (show l0.length ≤ 9223372036854775807 by
    obtain ⟨A', c', _, _, hc⟩ := Kd.R_reads ho0
    exact hc.2.1)
  have HB0 := Aside0.mk hB
  clear h hB ho0
  subst e0
  go_enter Try.func66, Try.ntmps66
  go_wp2
  go_loopg [5, 1, 6] (l0.length + 1) (fun kq v5 v1 v6 w' => ∃ (m : Nat) (kk : Int) (done : List S88), v5 = .int .i64 m ∧ v1 = .int .i64 kk ∧ Aside0 (m ≤ l0.length) ∧ Aside0 (kq = l0.length - m + 1) ∧ Aside0 (done.length = m) ∧ Aside0 ((mark2 (l0.drop m) kk).1 = r1 ∧ done ++ (mark2 (l0.drop m) kk).2 = r2) ∧ Aside0 (Kd.R k88 88 w' w0.heap.size (fun k_ => (P0_ k_ ∨ w.heap.size ≤ k_)) (.slice A l0.length c) (done ++ l0.drop m)) ∧ Aside0 (Below w0.heap.size w0 w') ∧ Aside0 (Kept w w' (fun k_ => P0_ k_)))
  case atStart => exact ⟨0, a1, [], rfl, rfl, ⟨Nat.zero_le _⟩, ⟨by omega⟩, ⟨rfl⟩, ⟨by rw [List.drop_zero, H'.out]; exact ⟨rfl, rfl⟩⟩, ⟨by rw [List.drop_zero]; exact HO.out⟩, HB0, ⟨Kept.refl _ _⟩⟩
  case round =>
    clear H' HO HB0
    obtain ⟨m, kk, done, rfl, rfl, HM, HK1, HD, HA, HO, HB, HK⟩ := hrel
    have HN := Aside0.mk (show (done ++ l0.drop m).length = l0.length by rw [List.length_append, List.length_drop, HD.out]; have := HM.out; omega)
    by_cases c1 : m < l0.length
    · have q1 : (m : Int) < (l0.length : Int) := by omega
      obtain ⟨g, cap, eg, gb, gl, HG⟩ := Kd.R_form HO.out (by rw [HN.out]; omega)
      rw [HN.out] at eg
      injection eg with eA _ ec
      subst eA; subst ec
      have GB := Aside0.mk gb
      have HPg := Aside0.mk (HP.out g rfl)
      obtain ⟨cs, hcl, hM, hcc, hfz⟩ := Kd.R_elem HO.out (z88) (m : Int) (by omega) q1
      obtain rfl := k88_openM hM
      have hx0 := hcc 0 _ rfl
      have hx1 := hcc 1 _ rfl
      have hf0 := hfz 0
      have hf1 := hfz 1
      rw [Int.toNat_natCast, show k88.sz = 2 from rfl] at hx0 hx1 hf0 hf1
      rw [Nat.add_zero] at hx0 hf0
      have HS := Aside0.mk (mark_step HO.out m c1 kk (wrap64 (kk + 1)))
      have hx1' : (wr.setCell ⟨g, m * 2, none⟩ (.int .i64 kk)).cell? ⟨g, m * 2 + 1, none⟩ = _ := (World.cell?_setCell_other wr _ _ _ (by simp)).trans hx1
      have HE := Aside0.mk (set_mid done l0 m HD.out c1 (⟨kk, wrap64 (kk + 1)⟩ : S88))
      have H2 : Aside0 ((mark2 (l0.drop (m + 1)) (wrap64 (wrap64 (kk + 1) + 1))).1 = r1 ∧ (done ++ [⟨kk, wrap64 (kk + 1)⟩]) ++ (mark2 (l0.drop (m + 1)) (wrap64 (wrap64 (kk + 1) + 1))).2 = r2) := ⟨by
        have e_ := HA.out
        rw [List.drop_eq_getElem_cons c1] at e_
        simp only [mark2] at e_
        rw [List.append_assoc, List.singleton_append]
        exact e_⟩
      clear HA hM hcc hfz hcl gl HG gb
      have c1b : decide ((m : Int) < (l0.length : Int)) = true := decide_eq_true q1
      have c1c : decide (m < l0.length) = true := decide_eq_true c1
      have p1 : (0 : Int) ≤ (m : Int) := by omega
      have hw1 : (m : Int) + 1 ≤ 9223372036854775807 := by have := HL.out; omega
      replace p1 := eq_true p1
      replace q1 := eq_true q1
      clear c1
      go_wp2
      refine wp_loop_rounds 3 ?_
      rw [rounds_succ]; go_wp2
      rw [rounds_succ]; go_wp2
      rw [rounds_succ]; go_wp2
      go_roundg (l0.length - m)
      case measure => have := HK1.out; have := HM.out; omega
      case rel => exact ⟨m + 1, _, done ++ [⟨kk, wrap64 (kk + 1)⟩], by first | rfl | (simp; done) | go_num, rfl, ⟨by have := of_eq_true q1; omega⟩, ⟨by have := of_eq_true q1; omega⟩, ⟨by rw [List.length_append, HD.out]; rfl⟩, H2, ⟨by rw [← HE.out]; exact HS.out.1⟩, ⟨pw_below_grown HB.out (some g) HB.out.size HS.out.2 (fun k_ e_ => by injection e_ with e_; subst e_; exact GB.out)⟩, ⟨Kept.of_grown HS.out.2 HK.out (fun k_ e_ => by injection e_ with e_; subst e_; exact .inl HPg.out)⟩⟩
    · have q1 : ¬ (m : Int) < (l0.length : Int) := by omega
      have c1b : decide ((m : Int) < (l0.length : Int)) = false := decide_eq_false q1
      have c1c : decide (m < l0.length) = false := decide_eq_false c1
      have H3 : Aside0 (kk = r1 ∧ done ++ l0.drop m = r2) := ⟨by
        have e_ := HA.out
        rw [List.drop_eq_nil_of_le (show l0.length ≤ m by omega)] at e_ ⊢
        exact e_⟩
      clear HA c1 q1
      go_wp2
      go_ret
      exact ⟨by have e_ := H3.out.1; subst e_; rfl, by rw [← H3.out.2]; exact HO.out, HB.out, HK.out⟩

end Go.Proofs.Ytnlmijnbfdhdkaa.P
namespace Go.Proofs.Ytnlmijnbfdhdkaa.P
open Go.RowKit Go.Proofs.YtnlmijnbfdhdkaaW.PrintWords Go.Proofs.YtnlmijnbfdhdkaaW.PrintLast Go.Proofs.YtnlmijnbfdhdkaaW.PrintMore
set_option linter.unusedVariables false
set_option linter.unusedSimpArgs false

/-- What a row of rows leads to is none of a row of another type. -/
theorem S_off {W : World} {base : Nat} {ok : Nat → Prop} {u v : Value} {l : List (List Int)} (h : Kd.S (Kd.slice 3 (Kd.int .i64)) 25 W base ok u l) {base' : Nat} {ok' : Nat → Prop} {m : List S88} (h' : Kd.R k88 88 W base' ok' v m) :
    Kd.S (Kd.slice 3 (Kd.int .i64)) 25 W base (fun k => ok k ∧ some k ≠ v.ownBlock) u l := Kd.S_apart' h (Kd.R_typed h') (by decide)
set_option maxRecDepth 100000 in
set_option maxHeartbeats 2000000 in
theorem laws_markSpace.calls (P0_ P1_ : Nat → Prop) (u0 u1 : Value) (l0 : List (List Int)) (l1 : List S88) (a1 : Int) (w0 w : World) (hB : Below w0.heap.size w0 w) (ho0 : Kd.S (Kd.slice 3 (Kd.int .i64)) 25 w w0.heap.size P0_ u0 l0) (ho1 : Kd.R k88 88 w w0.heap.size P1_ u1 l1) :
    Calls Try.prog 36 #[.agg #[u0, u1], .int .i64 a1] w fun e w' => e = .returned (.int .i64 (mark2 l1 (markSS l0 a1).1).1) ∧ Kd.S (Kd.slice 3 (Kd.int .i64)) 25 w' w0.heap.size (fun k_ => (P0_ k_ ∨ w.heap.size ≤ k_)) u0 (markSS l0 a1).2 ∧ Kd.R k88 88 w' w0.heap.size (fun k_ => (P1_ k_ ∨ w.heap.size ≤ k_)) u1 (mark2 l1 (markSS l0 a1).1).2 ∧ Below w0.heap.size w0 w' ∧ Kept w w' (fun k_ => P0_ k_ ∨ P1_ k_) := by
  have HS0 := Aside0.mk (Kd.S_mono (Kd.S_bound (S_off ho0 ho1)) (fun k hk => (⟨hk.1.1, hk.1.2, hk.2.2.1⟩ : P0_ k ∧ some k ≠ u1.ownBlock ∧ k < w.heap.size)))
  have HR0 := Aside0.mk (Kd.R_mono (Kd.R_bound (Kd.R_tight2 rfl ho1)) (fun k hk => (⟨hk.1.1, hk.1.2, hk.2.2.1⟩ : some k = u1.ownBlock ∧ P1_ k ∧ k < w.heap.size)))
  have HB := Aside0.mk hB
  clear ho0 ho1 hB
  obtain ⟨A0, c0, e0⟩ := Kd.S_slice HS0.out
  obtain ⟨A1, c1, e1⟩ := Kd.R_slice HR0.out
  subst e0
  subst e1
  generalize hu1 : (Value.slice A1 l1.length c1).ownBlock = b1 at HS0 HR0
  have HU := Aside0.mk hu1
  clear hu1
  generalize hm : markSS l0 a1 = M
  obtain ⟨k1, m0⟩ := M
  have HM := Aside0.mk hm
  clear hm
  go_enter Try.func36, Try.ntmps36
  go_wp2_with (first
    | ((with_reducible refine gate_dst (N := 2) rfl ?_); refine ze 2 #[.slice A0 l0.length c0, .slice A1 l1.length c1] 46 ?_; intro gb hg w5 hbox hb; have HB1 := Aside0.mk (below_step HB.out hb); have HS1 := Aside0.mk (Kd.S_below HS0.out hb); have HR1 := Aside0.mk (Kd.R_below HR0.out hb); have HK1 := Aside0.mk hb; have BK := Aside0.mk hbox; have GE := Aside0.mk hg; clear hb hbox hg HB HS0 HR0; have hc0 := zy BK 0; have hc1 := zy BK 1; have hf0 := blk_frozen BK.out 0; have hf1 := blk_frozen BK.out 1)
    | (go_at_call 47; refine (laws_markIntSS.calls _ _ l0 a1 k1 m0 w0 w5 HB1.out HS1.out (by unfold laws_markIntSS.f; rw [HM.out])).mono ?_; rintro e w6 ⟨rfl, hy, hb6, hkp6⟩; have HB2 := Aside0.mk hb6; have HS2 := Aside0.mk hy; have HR2 := Aside0.mk (Kd.R_kept HR1.out hkp6 (fun k hk hs => hs.2.1 hk.1)); have HK2 := Aside0.mk hkp6; have BK2 := Aside0.mk (blk_kept BK.out hkp6 (fun hs => by have := hs.2.2; have := GE.out; omega)); clear hy hb6 hkp6 hc0 hc1 hf0 hf1; have hc0 := zy BK2 0; have hc1 := zy BK2 1; have hf0 := blk_frozen BK2.out 0; have hf1 := blk_frozen BK2.out 1)
    | (go_at_call 66; refine (laws_markIntA2S.calls _ _ l1 k1 _ _ w0 w6 HB2.out HR2.out rfl).mono ?_; rintro e w7 ⟨rfl, hy, hb7, hkp7⟩; have HB3 := Aside0.mk hb7; have HR3 := Aside0.mk hy; have HS3 := Aside0.mk (Kd.S_kept HS2.out hkp7 (fun k hk hs => hk.elim (fun h => h.2.1 hs.1) (fun h => by have := hs.2.2; have := HK1.out.size; omega))); have HK3 := Aside0.mk hkp7; clear hy hb7 hkp7))
  go_ret
  refine ⟨rfl, Kd.S_mono HS3.out (fun k hk => hk.elim (fun h => .inl h.1) (fun h => .inr (Nat.le_trans HK1.out.size h))), Kd.R_mono HR3.out (fun k hk => hk.elim (fun h => .inl h.2.1) (fun h => .inr (Nat.le_trans (Nat.le_trans HK1.out.size HK2.out.1) h))), HB3.out, Nat.le_trans (Nat.le_trans HK1.out.size HK2.out.1) HK3.out.1, fun i hi hn => ?_⟩
  have h1 := HK1.out.block i hi
  have h5 : i < w5.heap.size := Nat.lt_of_lt_of_le hi HK1.out.size
  have h2 := HK2.out.2 i h5 (fun hs => hn (.inl hs.1))
  have h3 := HK3.out.2 i (Nat.lt_of_lt_of_le h5 HK2.out.1) (fun hs => hn (.inr hs.2.1))
  exact h3.trans (h2.trans h1)
/-- The same, with the result under names. -/
def laws_markSpace.f (l0 : List (List Int)) (l1 : List S88) (a1 : Int) : Option (Int × List (List Int) × List S88) := some ((mark2 l1 (markSS l0 a1).1).1, (markSS l0 a1).2, (mark2 l1 (markSS l0 a1).1).2)
theorem laws_markSpace.callsf (P0_ P1_ : Nat → Prop) (u0 u1 : Value) (l0 : List (List Int)) (l1 : List S88) (a1 : Int) (r1 : Int) (r2 : List (List Int)) (r3 : List S88) (w0 w : World) (hB : Below w0.heap.size w0 w) (ho0 : Kd.S (Kd.slice 3 (Kd.int .i64)) 25 w w0.heap.size P0_ u0 l0) (ho1 : Kd.R k88 88 w w0.heap.size P1_ u1 l1) (h : laws_markSpace.f l0 l1 a1 = some (r1, r2, r3)) :
    Calls Try.prog 36 #[.agg #[u0, u1], .int .i64 a1] w fun e w' => e = .returned (.int .i64 r1) ∧ Kd.S (Kd.slice 3 (Kd.int .i64)) 25 w' w0.heap.size (fun k_ => (P0_ k_ ∨ w.heap.size ≤ k_)) u0 r2 ∧ Kd.R k88 88 w' w0.heap.size (fun k_ => (P1_ k_ ∨ w.heap.size ≤ k_)) u1 r3 ∧ Below w0.heap.size w0 w' ∧ Kept w w' (fun k_ => P0_ k_ ∨ P1_ k_) := by
  have h' := Option.some.inj h
  injection h' with h1 h2
  injection h2 with h2 h3
  subst h1; subst h2; subst h3
  exact laws_markSpace.calls P0_ P1_ u0 u1 l0 l1 a1 w0 w hB ho0 ho1
end Go.Proofs.Ytnlmijnbfdhdkaa.P
namespace Go.Proofs.Ytnlmijnbfdhdkaa.P
open Go.RowKit Go.Proofs.YtnlmijnbfdhdkaaW.PrintWords Go.Proofs.YtnlmijnbfdhdkaaW.PrintLast Go.Proofs.YtnlmijnbfdhdkaaW.PrintMore
set_option linter.unusedVariables false
section
variable {α : Type} {d : Kd α} {e base : Nat} {ok S : Nat → Prop} {w W W1 : World} {v : Value} {xs : List α} {g : Nat} {o : Obj}
theorem uR (hB : Below w.heap.size w W) (h : d.R e W1 W.heap.size (fun _ => True) v xs) : Aside0 (d.R e W1 w.heap.size (fun k => W.heap.size ≤ k ∧ k < W1.heap.size) v xs) :=
  ⟨Kd.R_mono (Kd.R_lower (Kd.R_bound h) (below_size hB)) (fun k hk => ⟨hk.2.1, hk.2.2.1⟩)⟩
theorem uS (hB : Below w.heap.size w W) (h : Kd.S d e W1 W.heap.size (fun _ => True) v xs) : Aside0 (Kd.S d e W1 w.heap.size (fun k => W.heap.size ≤ k ∧ k < W1.heap.size) v xs) :=
  ⟨Kd.S_mono (Kd.S_lower (Kd.S_bound h) (below_size hB)) (fun k hk => ⟨hk.2.1, hk.2.2.1⟩)⟩
theorem uRb (h : Aside0 (d.R e W base ok v xs)) (hb : Below W.heap.size W W1) : Aside0 (d.R e W1 base ok v xs) := ⟨Kd.R_below h.out hb⟩
theorem uSb (h : Aside0 (Kd.S d e W base ok v xs)) (hb : Below W.heap.size W W1) : Aside0 (Kd.S d e W1 base ok v xs) := ⟨Kd.S_below h.out hb⟩
theorem uKb (h : Aside0 (W.heap[g]? = some o)) (hb : Below W.heap.size W W1) : Aside0 (W1.heap[g]? = some o) := ⟨blk_below h.out hb⟩
theorem uRk (h : Aside0 (d.R e W base ok v xs)) (hk : Kept W W1 S) (hne : ∀ k, ok k → ¬ S k) : Aside0 (d.R e W1 base ok v xs) := ⟨Kd.R_kept h.out hk hne⟩
theorem uSk (h : Aside0 (Kd.S d e W base ok v xs)) (hk : Kept W W1 S) (hne : ∀ k, ok k → ¬ S k) : Aside0 (Kd.S d e W1 base ok v xs) := ⟨Kd.S_kept h.out hk hne⟩
theorem uKk (h : Aside0 (W.heap[g]? = some o)) (hk : Kept W W1 S) (hne : ¬ S g) : Aside0 (W1.heap[g]? = some o) := ⟨blk_kept h.out hk hne⟩
/-- A struct of two cells is stored into the call's own block. -/
theorem uBox {P : Program} {f : FuncId} {args : Array Value} {Q : Ending → World → Prop} {t : TypeId} {x y a b : Value} (hb : Aside0 (W.heap[g]? = some (.cells #[x, y] t (0, 0)))) (hB : Aside0 (Below w.heap.size w W)) (hg : w.heap.size ≤ g)
    (h : ∀ W', Aside0 (W'.heap[g]? = some (.cells #[a, b] t (0, 0))) → Kept W W' (fun k => k = g) → Aside0 (Below w.heap.size w W') → Calls P f args W' Q) : Calls P f args ((W.setCell ⟨g, 0, none⟩ a).setCell ⟨g, 1, none⟩ b) Q :=
  h _ ⟨blk_put (cs := #[a, y]) (blk_put (cs := #[x, y]) hb.out 0 a rfl) 1 b rfl⟩ (Kept.setCell (Kept.setCell (Kept.refl W (fun k => k = g)) (p := ⟨g, 0, none⟩) (.inl rfl) a) (p := ⟨g, 1, none⟩) (.inl rfl) b) ⟨below_set (below_set hB.out hg) hg⟩
theorem uArgs {P : Program} {f : FuncId} {args args' : Array Value} {Q : Ending → World → Prop} (h : args = args') (k : Calls P f args' W Q) : Calls P f args W Q := h ▸ k
end
end Go.Proofs.Ytnlmijnbfdhdkaa.P
