-- Written by a program of this session (the kit's print, turned: wip/print/patch.py) out of the translation. Not trusted: Lean checks it.
import Derived.Test.YtfaeopmofgnbdaaWideNumberG5
import Derived.Test.YtfaeopmofgnbdaaWideNumberG12
import Derived.Test.YtfaeopmofgnbdaaWideNumberG14
import Derived.Shelf.SlSortCmp.NoneTotal
import Derived.Handy
namespace Go.Proofs.Ytfaeopmofgnbdaa.P
open Go.RowKit Go.Proofs.YtfaeopmofgnbdaaW.PrintWords Go.Proofs.YtfaeopmofgnbdaaW.PrintLast Go.Proofs.YtfaeopmofgnbdaaW.PrintMore
attribute [local go_sem] max2_int min2_int max_two min_two max_three min_three max_four min_four   -- for this text's walks alone
set_option linter.unusedVariables false
set_option linter.unusedSimpArgs false

/-! ### spec_l4Best: function 12 -/
def spec_l4Best.l0 : Nat → Int → List (List Int) → List Int → Int → Option (List Int)
 | 0, _, _, _, _ => none
 | k + 1, x1, x5, x6, x7 => if x7 < (x5.length : Int) then (if x1 = 2 then (if 0 ≤ x7 then (if ((rd_L2 x5 x7).length : Int) > (x6.length : Int) then (spec_l4Best.l0 k x1 x5 (rd_L2 x5 x7) (wrap64 (x7 + 1))) else (spec_l4Best.l0 k x1 x5 x6 (wrap64 (x7 + 1)))) else (none)) else (spec_l4Best.l0 k x1 x5 x6 (wrap64 (x7 + 1)))) else (some x6)
def spec_l4Best.f (k : Nat) (a0_0 : Int) (l0_1 : List (S48)) (a1 : Int) : Option (List Int) := (spec_l4Sets.f k a0_0 l0_1 a1).bind fun t396 => (if 0 < (t396.length : Int) then (spec_l4Best.l0 k a1 t396 (rd_L2 t396 0) 1) else (none))
set_option maxHeartbeats 8000000 in
set_option maxRecDepth 100000 in
theorem spec_l4Best.calls (k : Nat) (a0_0 : Int) (A0_1 : Option Addr) (c0_1 : Nat) (l0_1 : List (S48)) (a1 : Int) (r : List Int) (w : World) (hr0_1 : Kd.C k48 w A0_1 l0_1.length l0_1) (hc0_1 : l0_1.length ≤ c0_1) (h : spec_l4Best.f k a0_0 l0_1 a1 = some r) :
 Calls Try.prog 12 #[.agg #[.int .i64 a0_0, .slice A0_1 l0_1.length c0_1], .int .i64 a1] w fun e w' => ∃ v0_ : Value, e = .returned (v0_) ∧ Kd.V (Kd.int .i64) 3 w' w.heap.size (fun k_ => (w.heap.size ≤ k_)) v0_ r ∧ Below w.heap.size w w' := by
 have hu28 := Try.underlying28
 have HR0_1 := Aside0.mk hr0_1
 have HC0_1 := Aside0.mk hc0_1
 clear hr0_1 hc0_1
 have HB := zM (Below.refl w.heap.size w)
 have H : ((spec_l4Sets.f k a0_0 l0_1 a1).bind fun t396 => (if 0 < (t396.length : Int) then (spec_l4Best.l0 k a1 t396 (rd_L2 t396 0) 1) else (none))) = some r := h
 clear h
 replace H := Option.bind_eq_some_iff.mp H
 obtain ⟨t396, A30, H⟩ := H
 have A3 := Aside0.mk A30
 clear A30
 by_cases c4 : 0 < (t396.length : Int)
 · rw [if_pos c4] at H
   have c4b0 := decide_eq_true c4
   have c4b1 : decide (0 < t396.length) = true := decide_eq_true (by omega)
   clear c4
   have H' := Aside0.mk H
   clear H
   go_enter Try.func12, Try.ntmps12
   go_wp2_with (first | ((with_reducible refine gate_dst (N := 2) rfl ?_); (try (refine gate_guard (by rfl) ?_; dsimp only)); refine zb (w := w) 2 #[.int .i64 a0_0, .slice A0_1 l0_1.length c0_1] 28 zB ?_; clear HB; intro gb395 w5 HB BK395 GW395; have GE395 := GW395; have hcz6_0 := zy BK395 0; have hcz6_1 := zy BK395 1; have hfz6_0 := blk_frozen BK395.out 0; have hfz6_1 := blk_frozen BK395.out 1) | ((with_reducible refine gate_callee (f := 23) rfl ?_); refine zc 10 Try.func23 #[.agg #[.int .i64 a0_0, .slice A0_1 l0_1.length c0_1], .int .i64 a1] ?_; (with_reducible refine (spec_l4Sets.calls k a0_0 _ _ l0_1 a1 t396 _ ?side1 ?side2 A3.out).mono ?_); (case side1 => exact zC (Kd.C_below HR0_1.out HB.out)); (case side2 => exact HC0_1.out); rintro e w7 ⟨v397, rfl, ho0, hb⟩; refine ⟨_, rfl, ?_⟩; have HO398 := zM (Kd.N_lower (Kd.N_mono (ok' := fun k_ => (w.heap.size ≤ k_) ∧ k_ ≠ gb395) ho0 (fun k_ hk_ => ⟨(Nat.le_trans (below_size zB) hk_), (Kd.freshB (g := gb395) (o := .cells #[.int .i64 a0_0, .slice A0_1 l0_1.length c0_1] 28 (0, 0)) (zK BK395.out) k_ hk_)⟩)) (below_size zB)); replace BK395 := zM (blk_below (g := gb395) (o := .cells #[.int .i64 a0_0, .slice A0_1 l0_1.length c0_1] 28 (0, 0)) (zK BK395.out) hb); replace HB := zM (below_step zB hb); (try clear hb); (try clear hb2); (try clear hk); (try clear hi); (try clear ho0); obtain ⟨Ao8, co8, eo8⟩ := Kd.N_slice HO398.out; subst eo8; have p399 : 0 ≤ (0 : Int) := (by omega); have q399 : 0 < (t396.length : Int) := of_decide_eq_true zA; obtain ⟨ad399, A399_0, c399_0, e399, hx399_0, hl399_0, hi399_0⟩ := at_L2 (Kd.N_reads' HO398.out).2.2 0 p399 q399; cases e399; obtain ⟨ce399, hce399, hMe399, hcc399⟩ := Kd.N_get HO398.out [] 0 p399 (by first | exact q399 | exact of_decide_eq_true zA | (have e_ := (Kd.N_reads' HO398.out).1; omega)); obtain ⟨ua399_0, uc399_0, rfl, ul399_0, ge399_0⟩ := Kd.FK_slice_open hMe399; have hv399_0 := hcc399 0 _ rfl; rw [Nat.add_zero, show ((Kd.slice 3 (Kd.int .i64))).sz = 1 from rfl, Nat.mul_one] at hv399_0; replace hv399_0 := Option.some.inj (hv399_0.symm.trans hx399_0); injection hv399_0 with hva_ hvn_ hvc_; rw [hva_] at ge399_0; rw [hvc_] at ul399_0; have HL399_0 := zM (show Kd.V (Kd.int .i64) 3 _ w.heap.size _ _ (rd_L2 t396 0) from Kd.V_mk ul399_0 ge399_0); clear hva_ hvn_ hvc_ ge399_0 ul399_0; clear hcc399 hce399; have qi399 : (0 < t396.length) = True := eq_true (by omega); (try rw [show ((0 : Int)).toNat = 0 from rfl] at hx399_0); (try rw [Addr.add_zero'] at hx399_0); have HR399_0 := Aside0.mk hi399_0; have HC399_0 := Aside0.mk hl399_0; clear hi399_0 hl399_0; replace p399 := eq_true p399; replace q399 := eq_true q399))
   go_loopg [6, 7] k (fun kq v6 v7 w' => ∃ (x6_1 : List Int) (x7_1 : Int), v7 = .int .i64 x7_1 ∧ Aside0 (spec_l4Best.l0 kq a1 t396 x6_1 x7_1 = some r) ∧ Aside0 (kq ≤ k) ∧ Aside0 (Kd.N (Kd.slice 3 (Kd.int .i64)) 37 w' w.heap.size (fun k_ => (w.heap.size ≤ k_) ∧ k_ ≠ gb395) (.slice (some ad399) t396.length co8) t396) ∧ Aside0 (Kd.V (Kd.int .i64) 3 w' w.heap.size (fun k_ => (w.heap.size ≤ k_) ∧ some k_ ≠ ((.slice (some ad399) t396.length co8) : Value).ownBlock ∧ k_ ≠ gb395) v6 x6_1) ∧ Aside0 (w'.heap[gb395]? = some (.cells #[.int .i64 a0_0, (.slice A0_1 l0_1.length c0_1)] 28 (0, 0))) ∧ Aside0 (Kd.C (Kd.int .i64) w' A399_0 (rd_L2 t396 0).length (rd_L2 t396 0)) ∧ Aside0 (Below w.heap.size w w'))
   case atStart => exact ⟨(rd_L2 t396 0), (1), (by first | rfl | (simp; done) | (simp [*]; done)), H', ⟨Nat.le_refl _⟩, ⟨by (with_reducible repeat (first | apply Kd.N_alloc | apply Kd.N_drewN | apply Kd.N_drew)); exact HO398.out⟩, ⟨by (with_reducible repeat (first | apply Kd.V_alloc | apply Kd.V_drewN | apply Kd.V_drew)); exact Kd.V_mono HL399_0.out (fun _ hk => ⟨hk.1.1, ⟨hk.2, hk.1.2⟩⟩)⟩, ⟨zK BK395.out⟩, ⟨zC HR399_0.out⟩, ⟨zB⟩⟩
   case round =>
    clear H'
    try clear c1
    try clear c2
    try clear p2
    try clear c3
    try clear p3
    try clear q3
    try clear hx3
    try clear qi3
    try clear c4
    try clear c4b0
    try clear c4b1
    try clear hcz6_0
    try clear hcz6_1
    try clear hfz6_0
    try clear hfz6_1
    try clear hx399_0
    try clear p399
    try clear q399
    obtain ⟨x6_1, x7_1, rfl, HA, HK1, HO_5, HO_6, BK395, HR399_0, HB⟩ := hrel
    cases gk with
    | zero => exact absurd HA.out (by simp [spec_l4Best.l0])
    | succ k1 =>
     have H := HA.out
     clear HA
     simp only [spec_l4Best.l0] at H
     by_cases c9 : x7_1 < (t396.length : Int)
     · rw [if_pos c9] at H
       have c9b0 := decide_eq_true c9
       clear c9
       by_cases c10 : a1 = 2
       · rw [if_pos c10] at H
         have c10b0 : (a1 == 2) = true := beq_iff_eq.mpr c10
         have c10b1 : (a1 != 2) = false := bne_eq_false_iff_eq.mpr c10
         clear c10
         by_cases c11 : 0 ≤ x7_1
         · rw [if_pos c11] at H
           have c11b0 := decide_eq_true c11
           clear c11
           by_cases c12 : ((rd_L2 t396 x7_1).length : Int) > (x6_1.length : Int)
           · rw [if_pos c12] at H
             have c12b0 : decide ((x6_1.length : Int) < ((rd_L2 t396 x7_1).length : Int)) = true := decide_eq_true c12
             have c12b1 : decide (x6_1.length < (rd_L2 t396 x7_1).length) = true := decide_eq_true (Int.ofNat_lt.mp c12)
             clear c12
             have H' := Aside0.mk H
             clear H
             have p400 : 0 ≤ (x7_1 : Int) := of_decide_eq_true zA
             have q400 : x7_1 < (t396.length : Int) := of_decide_eq_true zA
             obtain ⟨ad400, A400_0, c400_0, e400, hx400_0, hl400_0, hi400_0⟩ := at_L2 (Kd.N_reads' HO_5.out).2.2 x7_1 p400 q400
             obtain rfl : ad399 = ad400 := (by injection e400)
             obtain ⟨ce400, hce400, hMe400, hcc400⟩ := Kd.N_get HO_5.out [] x7_1 p400 (by first | exact q400 | exact of_decide_eq_true zA | (have e_ := (Kd.N_reads' HO_5.out).1; omega))
             obtain ⟨ua400_0, uc400_0, rfl, ul400_0, ge400_0⟩ := Kd.FK_slice_open hMe400
             have hv400_0 := hcc400 0 _ rfl
             rw [Nat.add_zero, show ((Kd.slice 3 (Kd.int .i64))).sz = 1 from rfl, Nat.mul_one] at hv400_0
             replace hv400_0 := Option.some.inj (hv400_0.symm.trans hx400_0)
             injection hv400_0 with hva_ hvn_ hvc_
             rw [hva_] at ge400_0
             rw [hvc_] at ul400_0
             have HL400_0 := zM (show Kd.V (Kd.int .i64) 3 _ w.heap.size _ _ (rd_L2 t396 x7_1) from Kd.V_mk ul400_0 ge400_0)
             clear hva_ hvn_ hvc_ ge400_0 ul400_0
             clear hcc400 hce400
             have HR400_0 := Aside0.mk hi400_0
             have HC400_0 := Aside0.mk hl400_0
             clear hi400_0 hl400_0
             replace p400 := eq_true p400
             replace q400 := eq_true q400
             obtain ⟨Ao13, co13, eo13⟩ := Kd.V_slice HO_6.out
             subst eo13
             have p401 : 0 ≤ (x7_1 : Int) := of_decide_eq_true zA
             have q401 : x7_1 < (t396.length : Int) := of_decide_eq_true zA
             obtain ⟨ad401, A401_0, c401_0, e401, hx401_0, hl401_0, hi401_0⟩ := at_L2 (Kd.N_reads' HO_5.out).2.2 x7_1 p401 q401
             obtain rfl : ad399 = ad401 := (by injection e401)
             obtain ⟨ce401, hce401, hMe401, hcc401⟩ := Kd.N_get HO_5.out [] x7_1 p401 (by first | exact q401 | exact of_decide_eq_true zA | (have e_ := (Kd.N_reads' HO_5.out).1; omega))
             obtain ⟨ua401_0, uc401_0, rfl, ul401_0, ge401_0⟩ := Kd.FK_slice_open hMe401
             have hv401_0 := hcc401 0 _ rfl
             rw [Nat.add_zero, show ((Kd.slice 3 (Kd.int .i64))).sz = 1 from rfl, Nat.mul_one] at hv401_0
             replace hv401_0 := Option.some.inj (hv401_0.symm.trans hx401_0)
             injection hv401_0 with hva_ hvn_ hvc_
             rw [hva_] at ge401_0
             rw [hvc_] at ul401_0
             have HL401_0 := zM (show Kd.V (Kd.int .i64) 3 _ w.heap.size _ _ (rd_L2 t396 x7_1) from Kd.V_mk ul401_0 ge401_0)
             clear hva_ hvn_ hvc_ ge401_0 ul401_0
             clear hcc401 hce401
             have HR401_0 := Aside0.mk hi401_0
             have HC401_0 := Aside0.mk hl401_0
             clear hi401_0 hl401_0
             replace p401 := eq_true p401
             replace q401 := eq_true q401
             have ea_ := Option.some.inj (hx400_0.symm.trans hx401_0)
             injection ea_ with ea_ en_ ec_
             subst ea_
             subst ec_
             clear en_
             go_wp2
             go_roundg k1
             case measure => have := HK1.out; omega
             case rel => exact ⟨(rd_L2 t396 x7_1), (wrap64 (x7_1 + 1)), (by first | rfl | (simp; done) | (simp [*]; done)), H', ⟨by have := HK1.out; omega⟩, ⟨by (with_reducible repeat (first | apply Kd.N_alloc | apply Kd.N_drewN | apply Kd.N_drew)); exact HO_5.out⟩, ⟨by (with_reducible repeat (first | apply Kd.V_alloc | apply Kd.V_drewN | apply Kd.V_drew)); exact Kd.V_mono HL401_0.out (fun _ hk => ⟨hk.1.1, ⟨hk.2, hk.1.2⟩⟩)⟩, ⟨zK BK395.out⟩, ⟨zC HR399_0.out⟩, ⟨zB⟩⟩
           · rw [if_neg c12] at H
             have c12b0 : decide ((x6_1.length : Int) < ((rd_L2 t396 x7_1).length : Int)) = false := decide_eq_false c12
             have c12b1 : decide (x6_1.length < (rd_L2 t396 x7_1).length) = false := decide_eq_false (fun h => c12 (Int.ofNat_lt.mpr h))
             clear c12
             have H' := Aside0.mk H
             clear H
             have p400 : 0 ≤ (x7_1 : Int) := of_decide_eq_true zA
             have q400 : x7_1 < (t396.length : Int) := of_decide_eq_true zA
             obtain ⟨ad400, A400_0, c400_0, e400, hx400_0, hl400_0, hi400_0⟩ := at_L2 (Kd.N_reads' HO_5.out).2.2 x7_1 p400 q400
             obtain rfl : ad399 = ad400 := (by injection e400)
             obtain ⟨ce400, hce400, hMe400, hcc400⟩ := Kd.N_get HO_5.out [] x7_1 p400 (by first | exact q400 | exact of_decide_eq_true zA | (have e_ := (Kd.N_reads' HO_5.out).1; omega))
             obtain ⟨ua400_0, uc400_0, rfl, ul400_0, ge400_0⟩ := Kd.FK_slice_open hMe400
             have hv400_0 := hcc400 0 _ rfl
             rw [Nat.add_zero, show ((Kd.slice 3 (Kd.int .i64))).sz = 1 from rfl, Nat.mul_one] at hv400_0
             replace hv400_0 := Option.some.inj (hv400_0.symm.trans hx400_0)
             injection hv400_0 with hva_ hvn_ hvc_
             rw [hva_] at ge400_0
             rw [hvc_] at ul400_0
             have HL400_0 := zM (show Kd.V (Kd.int .i64) 3 _ w.heap.size _ _ (rd_L2 t396 x7_1) from Kd.V_mk ul400_0 ge400_0)
             clear hva_ hvn_ hvc_ ge400_0 ul400_0
             clear hcc400 hce400
             have HR400_0 := Aside0.mk hi400_0
             have HC400_0 := Aside0.mk hl400_0
             clear hi400_0 hl400_0
             replace p400 := eq_true p400
             replace q400 := eq_true q400
             obtain ⟨Ao14, co14, eo14⟩ := Kd.V_slice HO_6.out
             subst eo14
             go_wp2
             go_roundg k1
             case measure => have := HK1.out; omega
             case rel => exact ⟨(x6_1), (wrap64 (x7_1 + 1)), (by first | rfl | (simp; done) | (simp [*]; done)), H', ⟨by have := HK1.out; omega⟩, ⟨by (with_reducible repeat (first | apply Kd.N_alloc | apply Kd.N_drewN | apply Kd.N_drew)); exact HO_5.out⟩, ⟨by (with_reducible repeat (first | apply Kd.V_alloc | apply Kd.V_drewN | apply Kd.V_drew)); exact HO_6.out⟩, ⟨zK BK395.out⟩, ⟨zC HR399_0.out⟩, ⟨zB⟩⟩
         · rw [if_neg c11] at H
           exact absurd H (by simp)
       · rw [if_neg c10] at H
         have c10b0 : (a1 == 2) = false := beq_eq_false_iff_ne.mpr c10
         have c10b1 : (a1 != 2) = true := bne_iff_ne.mpr c10
         have H' := Aside0.mk H
         clear H
         go_wp2
         go_roundg k1
         case measure => have := HK1.out; omega
         case rel => exact ⟨(x6_1), (wrap64 (x7_1 + 1)), (by first | rfl | (simp; done) | (simp [*]; done)), H', ⟨by have := HK1.out; omega⟩, ⟨by (with_reducible repeat (first | apply Kd.N_alloc | apply Kd.N_drewN | apply Kd.N_drew)); exact HO_5.out⟩, ⟨by (with_reducible repeat (first | apply Kd.V_alloc | apply Kd.V_drewN | apply Kd.V_drew)); exact HO_6.out⟩, ⟨zK BK395.out⟩, ⟨zC HR399_0.out⟩, ⟨zB⟩⟩
     · rw [if_neg c9] at H
       have c9b0 : decide (x7_1 < (t396.length : Int)) = false := decide_eq_false c9
       clear c9
       obtain rfl := Option.some.inj H
       go_wp2
       go_ret
       exact ⟨_, by first | rfl | (simp [errW_none, errW_some] <;> rfl) | (simp [*, errW_none, errW_some] <;> rfl), by (with_reducible repeat (first | apply Kd.V_alloc | apply Kd.V_drewN | apply Kd.V_drew)); exact Kd.V_mono HO_6.out (fun _ hk => hk.1), zB⟩
 · rw [if_neg c4] at H
   exact absurd H (by simp)

/-! ### spec_l1Most: function 13 -/
def spec_l1Most.f (a0 : Int) (a1 : Int) : Option (Int) := if a0 > a1 then (some a0) else (some a1)
set_option maxHeartbeats 8000000 in
set_option maxRecDepth 100000 in
theorem spec_l1Most.calls (a0 : Int) (a1 : Int) (r : Int) (w : World) (h : spec_l1Most.f a0 a1 = some r) :
 Calls Try.prog 13 #[.int .i64 a0, .int .i64 a1] w fun e w' => e = .returned (.int .i64 r) ∧ Drawn0 w w' := by
 have H : (if a0 > a1 then (some a0) else (some a1)) = some r := h
 clear h
 by_cases c3 : a0 > a1
 · rw [if_pos c3] at H
   have c3b0 : decide (a1 < a0) = true := decide_eq_true c3
   clear c3
   obtain rfl := Option.some.inj H
   go_enter Try.func13, Try.ntmps13
   go_wp2
   go_ret
   exact ⟨by first | rfl | (simp; done) | (simp [*]; done), by repeat (first | exact Drawn0.refl _ | apply Drawn0.step)⟩
 · rw [if_neg c3] at H
   have c3b0 : decide (a1 < a0) = false := decide_eq_false c3
   clear c3
   obtain rfl := Option.some.inj H
   go_enter Try.func13, Try.ntmps13
   go_wp2
   go_ret
   exact ⟨by first | rfl | (simp; done) | (simp [*]; done), by repeat (first | exact Drawn0.refl _ | apply Drawn0.step)⟩

/-! ### spec_l1Least: function 14 -/
def spec_l1Least.f (a0 : Int) (a1 : Int) : Option (Int) := if a0 < a1 then (some a0) else (some a1)
set_option maxHeartbeats 8000000 in
set_option maxRecDepth 100000 in
theorem spec_l1Least.calls (a0 : Int) (a1 : Int) (r : Int) (w : World) (h : spec_l1Least.f a0 a1 = some r) :
 Calls Try.prog 14 #[.int .i64 a0, .int .i64 a1] w fun e w' => e = .returned (.int .i64 r) ∧ Drawn0 w w' := by
 have H : (if a0 < a1 then (some a0) else (some a1)) = some r := h
 clear h
 by_cases c3 : a0 < a1
 · rw [if_pos c3] at H
   have c3b0 := decide_eq_true c3
   clear c3
   obtain rfl := Option.some.inj H
   go_enter Try.func14, Try.ntmps14
   go_wp2
   go_ret
   exact ⟨by first | rfl | (simp; done) | (simp [*]; done), by repeat (first | exact Drawn0.refl _ | apply Drawn0.step)⟩
 · rw [if_neg c3] at H
   have c3b0 : decide (a0 < a1) = false := decide_eq_false c3
   clear c3
   obtain rfl := Option.some.inj H
   go_enter Try.func14, Try.ntmps14
   go_wp2
   go_ret
   exact ⟨by first | rfl | (simp; done) | (simp [*]; done), by repeat (first | exact Drawn0.refl _ | apply Drawn0.step)⟩

/-! ### spec_WideNumber: function 5 -/
def spec_WideNumber.f (k : Nat) (a0_0 : Int) (l0_1 : List (S48)) (a1 : Int) : Option (Int × Bool) := (spec_l4Good.f k a0_0 l0_1 a1).bind fun t403 => (if t403 = true then ((spec_TightSets.f k a0_0 l0_1 a1).bind fun bt404 => ((spec_l4Best.f k a0_0 l0_1 a1).bind fun t408 => (if a1 = 2 then (if 0 < (bt404.1.length : Int) then ((spec_l1Most.f (wrap64 ((wrap64 (((rd_L2 bt404.1 0).length : Int) + (t408.length : Int))) - a0_0)) 0).bind fun t412 => (some (t412, true))) else (none)) else (if 0 ≤ (wrap64 ((bt404.1.length : Int) - 1)) then (if (wrap64 ((bt404.1.length : Int) - 1)) < (bt404.1.length : Int) then ((spec_l1Least.f (wrap64 (((rd_L2 bt404.1 (wrap64 ((bt404.1.length : Int) - 1))).length : Int) + (t408.length : Int))) a0_0).bind fun t414 => (some (t414, true))) else (none)) else (none))))) else (some (0, false)))
set_option maxHeartbeats 8000000 in
set_option maxRecDepth 100000 in
theorem spec_WideNumber.calls (k : Nat) (a0_0 : Int) (A0_1 : Option Addr) (c0_1 : Nat) (l0_1 : List (S48)) (a1 : Int) (r1 : Int) (r2 : Bool) (w : World) (hr0_1 : Kd.C k48 w A0_1 l0_1.length l0_1) (hc0_1 : l0_1.length ≤ c0_1) (h : spec_WideNumber.f k a0_0 l0_1 a1 = some (r1, r2)) :
 Calls Try.prog 5 #[.agg #[.int .i64 a0_0, .slice A0_1 l0_1.length c0_1], .int .i64 a1] w fun e w' => e = .returned (.tuple #[.int .i64 r1, .bool r2]) ∧ Below w.heap.size w w' := by
 have hu28 := Try.underlying28
 have HR0_1 := Aside0.mk hr0_1
 have HC0_1 := Aside0.mk hc0_1
 clear hr0_1 hc0_1
 have HB := zM (Below.refl w.heap.size w)
 have H : ((spec_l4Good.f k a0_0 l0_1 a1).bind fun t403 => (if t403 = true then ((spec_TightSets.f k a0_0 l0_1 a1).bind fun bt404 => ((spec_l4Best.f k a0_0 l0_1 a1).bind fun t408 => (if a1 = 2 then (if 0 < (bt404.1.length : Int) then ((spec_l1Most.f (wrap64 ((wrap64 (((rd_L2 bt404.1 0).length : Int) + (t408.length : Int))) - a0_0)) 0).bind fun t412 => (some (t412, true))) else (none)) else (if 0 ≤ (wrap64 ((bt404.1.length : Int) - 1)) then (if (wrap64 ((bt404.1.length : Int) - 1)) < (bt404.1.length : Int) then ((spec_l1Least.f (wrap64 (((rd_L2 bt404.1 (wrap64 ((bt404.1.length : Int) - 1))).length : Int) + (t408.length : Int))) a0_0).bind fun t414 => (some (t414, true))) else (none)) else (none))))) else (some (0, false)))) = some (r1, r2) := h
 clear h
 replace H := Option.bind_eq_some_iff.mp H
 obtain ⟨t403, A30, H⟩ := H
 replace H : (if t403 = true then ((spec_TightSets.f k a0_0 l0_1 a1).bind fun bt404 => ((spec_l4Best.f k a0_0 l0_1 a1).bind fun t408 => (if a1 = 2 then (if 0 < (bt404.1.length : Int) then ((spec_l1Most.f (wrap64 ((wrap64 (((rd_L2 bt404.1 0).length : Int) + (t408.length : Int))) - a0_0)) 0).bind fun t412 => (some (t412, true))) else (none)) else (if 0 ≤ (wrap64 ((bt404.1.length : Int) - 1)) then (if (wrap64 ((bt404.1.length : Int) - 1)) < (bt404.1.length : Int) then ((spec_l1Least.f (wrap64 (((rd_L2 bt404.1 (wrap64 ((bt404.1.length : Int) - 1))).length : Int) + (t408.length : Int))) a0_0).bind fun t414 => (some (t414, true))) else (none)) else (none))))) else (some (0, false))) = some (r1, r2) := H
 have A3 := Aside0.mk A30
 clear A30
 by_cases c4 : t403 = true
 · subst c4
   have H1 : ((spec_TightSets.f k a0_0 l0_1 a1).bind fun bt404 => ((spec_l4Best.f k a0_0 l0_1 a1).bind fun t408 => (if a1 = 2 then (if 0 < (bt404.1.length : Int) then ((spec_l1Most.f (wrap64 ((wrap64 (((rd_L2 bt404.1 0).length : Int) + (t408.length : Int))) - a0_0)) 0).bind fun t412 => (some (t412, true))) else (none)) else (if 0 ≤ (wrap64 ((bt404.1.length : Int) - 1)) then (if (wrap64 ((bt404.1.length : Int) - 1)) < (bt404.1.length : Int) then ((spec_l1Least.f (wrap64 (((rd_L2 bt404.1 (wrap64 ((bt404.1.length : Int) - 1))).length : Int) + (t408.length : Int))) a0_0).bind fun t414 => (some (t414, true))) else (none)) else (none))))) = some (r1, r2) := by rw [if_pos rfl] at H; exact H
   clear H
   have H := H1
   clear H1
   replace H := Option.bind_eq_some_iff.mp H
   obtain ⟨⟨t404, t407⟩, A50, H⟩ := H
   replace H : ((spec_l4Best.f k a0_0 l0_1 a1).bind fun t408 => (if a1 = 2 then (if 0 < (t404.length : Int) then ((spec_l1Most.f (wrap64 ((wrap64 (((rd_L2 t404 0).length : Int) + (t408.length : Int))) - a0_0)) 0).bind fun t412 => (some (t412, true))) else (none)) else (if 0 ≤ (wrap64 ((t404.length : Int) - 1)) then (if (wrap64 ((t404.length : Int) - 1)) < (t404.length : Int) then ((spec_l1Least.f (wrap64 (((rd_L2 t404 (wrap64 ((t404.length : Int) - 1))).length : Int) + (t408.length : Int))) a0_0).bind fun t414 => (some (t414, true))) else (none)) else (none)))) = some (r1, r2) := H
   have A5 := Aside0.mk A50
   clear A50
   replace H := Option.bind_eq_some_iff.mp H
   obtain ⟨t408, A60, H⟩ := H
   replace H : (if a1 = 2 then (if 0 < (t404.length : Int) then ((spec_l1Most.f (wrap64 ((wrap64 (((rd_L2 t404 0).length : Int) + (t408.length : Int))) - a0_0)) 0).bind fun t412 => (some (t412, true))) else (none)) else (if 0 ≤ (wrap64 ((t404.length : Int) - 1)) then (if (wrap64 ((t404.length : Int) - 1)) < (t404.length : Int) then ((spec_l1Least.f (wrap64 (((rd_L2 t404 (wrap64 ((t404.length : Int) - 1))).length : Int) + (t408.length : Int))) a0_0).bind fun t414 => (some (t414, true))) else (none)) else (none))) = some (r1, r2) := H
   have A6 := Aside0.mk A60
   clear A60
   by_cases c7 : a1 = 2
   · rw [if_pos c7] at H
     have c7b0 : (a1 == 2) = true := beq_iff_eq.mpr c7
     have c7b1 : (a1 != 2) = false := bne_eq_false_iff_eq.mpr c7
     clear c7
     by_cases c8 : 0 < (t404.length : Int)
     · rw [if_pos c8] at H
       have c8b0 := decide_eq_true c8
       have c8b1 : decide (0 < t404.length) = true := decide_eq_true (by omega)
       clear c8
       replace H := Option.bind_eq_some_iff.mp H
       obtain ⟨t412, A90, H⟩ := H
       replace H : (some (t412, true)) = some (r1, r2) := H
       have A9 := Aside0.mk A90
       clear A90
       simp only [Option.some.injEq, Prod.mk.injEq] at H
       obtain ⟨rfl, rfl⟩ := H
       go_enter Try.func5, Try.ntmps5
       go_wp2_with (first | ((with_reducible refine gate_dst (N := 2) rfl ?_); refine zb (w := w) 2 #[.int .i64 a0_0, .slice A0_1 l0_1.length c0_1] 28 zB ?_; clear HB; intro gb402 w10 HB BK402 GW402; have GE402 := GW402; have hcz11_0 := zy BK402 0; have hcz11_1 := zy BK402 1; have hfz11_0 := blk_frozen BK402.out 0; have hfz11_1 := blk_frozen BK402.out 1) | (go_at_call 10; (with_reducible refine (spec_l4Good.calls k a0_0 _ _ l0_1 a1 true _ ?side1 ?side2 A3.out).mono ?_); (case side1 => exact zC (Kd.C_below HR0_1.out HB.out)); (case side2 => exact HC0_1.out); rintro e w12 ⟨rfl, hb⟩; replace BK402 := zM (blk_below (g := gb402) (o := .cells #[.int .i64 a0_0, .slice A0_1 l0_1.length c0_1] 28 (0, 0)) (zK BK402.out) hb); replace HB := zM (below_step zB hb); (try clear hb); (try clear hb2); (try clear hk); (try clear hi); have hcz13_0 := zy BK402 0; have hcz13_1 := zy BK402 1; have hfz13_0 := blk_frozen BK402.out 0; have hfz13_1 := blk_frozen BK402.out 1) | (go_at_call 11; (with_reducible refine (spec_TightSets.calls k a0_0 _ _ l0_1 a1 t404 t407 _ ?side1 ?side2 A5.out).mono ?_); (case side1 => exact zC (Kd.C_below HR0_1.out HB.out)); (case side2 => exact HC0_1.out); rintro e w14 ⟨v405, rfl, ho0, hb⟩; have HO406 := zM (Kd.N_lower (Kd.N_mono (ok' := fun k_ => k_ ≠ gb402) ho0 (fun k_ hk_ => (Kd.freshB (g := gb402) (o := .cells #[.int .i64 a0_0, .slice A0_1 l0_1.length c0_1] 28 (0, 0)) (zK BK402.out) k_ hk_))) (below_size zB)); replace BK402 := zM (blk_below (g := gb402) (o := .cells #[.int .i64 a0_0, .slice A0_1 l0_1.length c0_1] 28 (0, 0)) (zK BK402.out) hb); replace HB := zM (below_step zB hb); (try clear hb); (try clear hb2); (try clear hk); (try clear hi); (try clear ho0); have hcz15_0 := zy BK402 0; have hcz15_1 := zy BK402 1; have hfz15_0 := blk_frozen BK402.out 0; have hfz15_1 := blk_frozen BK402.out 1) | (go_at_call 12; (with_reducible refine (spec_l4Best.calls k a0_0 _ _ l0_1 a1 t408 _ ?side1 ?side2 A6.out).mono ?_); (case side1 => exact zC (Kd.C_below HR0_1.out HB.out)); (case side2 => exact HC0_1.out); rintro e w16 ⟨v409, rfl, ho0, hb⟩; have HO410 := zM (Kd.V_lower (Kd.V_mono (ok' := fun k_ => some k_ ≠ (v405 : Value).ownBlock ∧ k_ ≠ gb402) ho0 (fun k_ hk_ => ⟨(Kd.fresh' (Kd.N_lt (by (with_reducible repeat (first | apply Kd.N_alloc | apply Kd.N_drewN | apply Kd.N_drew)); exact HO406.out)) k_ hk_), (Kd.freshB (g := gb402) (o := .cells #[.int .i64 a0_0, .slice A0_1 l0_1.length c0_1] 28 (0, 0)) (zK BK402.out) k_ hk_)⟩)) (below_size zB)); replace HO406 := zM (Kd.N_below (by (with_reducible repeat (first | apply Kd.N_alloc | apply Kd.N_drewN | apply Kd.N_drew)); exact HO406.out) hb); replace BK402 := zM (blk_below (g := gb402) (o := .cells #[.int .i64 a0_0, .slice A0_1 l0_1.length c0_1] 28 (0, 0)) (zK BK402.out) hb); replace HB := zM (below_step zB hb); (try clear hb); (try clear hb2); (try clear hk); (try clear hi); (try clear ho0); obtain ⟨Ao17, co17, eo17⟩ := Kd.V_slice HO410.out; subst eo17; obtain ⟨Ao18, co18, eo18⟩ := Kd.N_slice HO406.out; subst eo18; have p411 : 0 ≤ (0 : Int) := (by omega); have q411 : 0 < (t404.length : Int) := of_decide_eq_true zA; obtain ⟨ad411, A411_0, c411_0, e411, hx411_0, hl411_0, hi411_0⟩ := at_L2 (Kd.N_reads' HO406.out).2.2 0 p411 q411; cases e411; obtain ⟨ce411, hce411, hMe411, hcc411⟩ := Kd.N_get HO406.out [] 0 p411 (by first | exact q411 | exact of_decide_eq_true zA | (have e_ := (Kd.N_reads' HO406.out).1; omega)); obtain ⟨ua411_0, uc411_0, rfl, ul411_0, ge411_0⟩ := Kd.FK_slice_open hMe411; have hv411_0 := hcc411 0 _ rfl; rw [Nat.add_zero, show ((Kd.slice 3 (Kd.int .i64))).sz = 1 from rfl, Nat.mul_one] at hv411_0; replace hv411_0 := Option.some.inj (hv411_0.symm.trans hx411_0); injection hv411_0 with hva_ hvn_ hvc_; rw [hva_] at ge411_0; rw [hvc_] at ul411_0; have HL411_0 := zM (show Kd.V (Kd.int .i64) 3 _ w.heap.size _ _ (rd_L2 t404 0) from Kd.V_mk ul411_0 ge411_0); clear hva_ hvn_ hvc_ ge411_0 ul411_0; clear hcc411 hce411; have qi411 : (0 < t404.length) = True := eq_true (by omega); (try rw [show ((0 : Int)).toNat = 0 from rfl] at hx411_0); (try rw [Addr.add_zero'] at hx411_0); have HR411_0 := Aside0.mk hi411_0; have HC411_0 := Aside0.mk hl411_0; clear hi411_0 hl411_0; replace p411 := eq_true p411; replace q411 := eq_true q411; have hcz19_0 := zy BK402 0; have hcz19_1 := zy BK402 1; have hfz19_0 := blk_frozen BK402.out 0; have hfz19_1 := blk_frozen BK402.out 1) | (go_at_call 13; (with_reducible refine (spec_l1Most.calls (wrap64 ((wrap64 (((rd_L2 t404 0).length : Int) + (t408.length : Int))) - a0_0)) 0 t412 _ A9.out).mono ?_); rintro e w' ⟨rfl, ⟨nd, rfl⟩⟩; (try exact zD)))
       repeat (go_quiet (first | ((with_reducible refine gate_dst (N := 2) rfl ?_); refine zb (w := w) 2 #[.int .i64 a0_0, .slice A0_1 l0_1.length c0_1] 28 zB ?_; clear HB; intro gb402 w10 HB BK402 GW402; have GE402 := GW402; have hcz11_0 := zy BK402 0; have hcz11_1 := zy BK402 1; have hfz11_0 := blk_frozen BK402.out 0; have hfz11_1 := blk_frozen BK402.out 1) | (go_at_call 10; (with_reducible refine (spec_l4Good.calls k a0_0 _ _ l0_1 a1 true _ ?side1 ?side2 A3.out).mono ?_); (case side1 => exact zC (Kd.C_below HR0_1.out HB.out)); (case side2 => exact HC0_1.out); rintro e w12 ⟨rfl, hb⟩; replace BK402 := zM (blk_below (g := gb402) (o := .cells #[.int .i64 a0_0, .slice A0_1 l0_1.length c0_1] 28 (0, 0)) (zK BK402.out) hb); replace HB := zM (below_step zB hb); (try clear hb); (try clear hb2); (try clear hk); (try clear hi); have hcz13_0 := zy BK402 0; have hcz13_1 := zy BK402 1; have hfz13_0 := blk_frozen BK402.out 0; have hfz13_1 := blk_frozen BK402.out 1) | (go_at_call 11; (with_reducible refine (spec_TightSets.calls k a0_0 _ _ l0_1 a1 t404 t407 _ ?side1 ?side2 A5.out).mono ?_); (case side1 => exact zC (Kd.C_below HR0_1.out HB.out)); (case side2 => exact HC0_1.out); rintro e w14 ⟨v405, rfl, ho0, hb⟩; have HO406 := zM (Kd.N_lower (Kd.N_mono (ok' := fun k_ => k_ ≠ gb402) ho0 (fun k_ hk_ => (Kd.freshB (g := gb402) (o := .cells #[.int .i64 a0_0, .slice A0_1 l0_1.length c0_1] 28 (0, 0)) (zK BK402.out) k_ hk_))) (below_size zB)); replace BK402 := zM (blk_below (g := gb402) (o := .cells #[.int .i64 a0_0, .slice A0_1 l0_1.length c0_1] 28 (0, 0)) (zK BK402.out) hb); replace HB := zM (below_step zB hb); (try clear hb); (try clear hb2); (try clear hk); (try clear hi); (try clear ho0); have hcz15_0 := zy BK402 0; have hcz15_1 := zy BK402 1; have hfz15_0 := blk_frozen BK402.out 0; have hfz15_1 := blk_frozen BK402.out 1) | (go_at_call 12; (with_reducible refine (spec_l4Best.calls k a0_0 _ _ l0_1 a1 t408 _ ?side1 ?side2 A6.out).mono ?_); (case side1 => exact zC (Kd.C_below HR0_1.out HB.out)); (case side2 => exact HC0_1.out); rintro e w16 ⟨v409, rfl, ho0, hb⟩; have HO410 := zM (Kd.V_lower (Kd.V_mono (ok' := fun k_ => some k_ ≠ (v405 : Value).ownBlock ∧ k_ ≠ gb402) ho0 (fun k_ hk_ => ⟨(Kd.fresh' (Kd.N_lt (by (with_reducible repeat (first | apply Kd.N_alloc | apply Kd.N_drewN | apply Kd.N_drew)); exact HO406.out)) k_ hk_), (Kd.freshB (g := gb402) (o := .cells #[.int .i64 a0_0, .slice A0_1 l0_1.length c0_1] 28 (0, 0)) (zK BK402.out) k_ hk_)⟩)) (below_size zB)); replace HO406 := zM (Kd.N_below (by (with_reducible repeat (first | apply Kd.N_alloc | apply Kd.N_drewN | apply Kd.N_drew)); exact HO406.out) hb); replace BK402 := zM (blk_below (g := gb402) (o := .cells #[.int .i64 a0_0, .slice A0_1 l0_1.length c0_1] 28 (0, 0)) (zK BK402.out) hb); replace HB := zM (below_step zB hb); (try clear hb); (try clear hb2); (try clear hk); (try clear hi); (try clear ho0); obtain ⟨Ao17, co17, eo17⟩ := Kd.V_slice HO410.out; subst eo17; obtain ⟨Ao18, co18, eo18⟩ := Kd.N_slice HO406.out; subst eo18; have p411 : 0 ≤ (0 : Int) := (by omega); have q411 : 0 < (t404.length : Int) := of_decide_eq_true zA; obtain ⟨ad411, A411_0, c411_0, e411, hx411_0, hl411_0, hi411_0⟩ := at_L2 (Kd.N_reads' HO406.out).2.2 0 p411 q411; cases e411; obtain ⟨ce411, hce411, hMe411, hcc411⟩ := Kd.N_get HO406.out [] 0 p411 (by first | exact q411 | exact of_decide_eq_true zA | (have e_ := (Kd.N_reads' HO406.out).1; omega)); obtain ⟨ua411_0, uc411_0, rfl, ul411_0, ge411_0⟩ := Kd.FK_slice_open hMe411; have hv411_0 := hcc411 0 _ rfl; rw [Nat.add_zero, show ((Kd.slice 3 (Kd.int .i64))).sz = 1 from rfl, Nat.mul_one] at hv411_0; replace hv411_0 := Option.some.inj (hv411_0.symm.trans hx411_0); injection hv411_0 with hva_ hvn_ hvc_; rw [hva_] at ge411_0; rw [hvc_] at ul411_0; have HL411_0 := zM (show Kd.V (Kd.int .i64) 3 _ w.heap.size _ _ (rd_L2 t404 0) from Kd.V_mk ul411_0 ge411_0); clear hva_ hvn_ hvc_ ge411_0 ul411_0; clear hcc411 hce411; have qi411 : (0 < t404.length) = True := eq_true (by omega); (try rw [show ((0 : Int)).toNat = 0 from rfl] at hx411_0); (try rw [Addr.add_zero'] at hx411_0); have HR411_0 := Aside0.mk hi411_0; have HC411_0 := Aside0.mk hl411_0; clear hi411_0 hl411_0; replace p411 := eq_true p411; replace q411 := eq_true q411; have hcz19_0 := zy BK402 0; have hcz19_1 := zy BK402 1; have hfz19_0 := blk_frozen BK402.out 0; have hfz19_1 := blk_frozen BK402.out 1) | (go_at_call 13; (with_reducible refine (spec_l1Most.calls (wrap64 ((wrap64 (((rd_L2 t404 0).length : Int) + (t408.length : Int))) - a0_0)) 0 t412 _ A9.out).mono ?_); rintro e w' ⟨rfl, ⟨nd, rfl⟩⟩; (try exact zD))); try go_wp2_with (first | ((with_reducible refine gate_dst (N := 2) rfl ?_); refine zb (w := w) 2 #[.int .i64 a0_0, .slice A0_1 l0_1.length c0_1] 28 zB ?_; clear HB; intro gb402 w10 HB BK402 GW402; have GE402 := GW402; have hcz11_0 := zy BK402 0; have hcz11_1 := zy BK402 1; have hfz11_0 := blk_frozen BK402.out 0; have hfz11_1 := blk_frozen BK402.out 1) | (go_at_call 10; (with_reducible refine (spec_l4Good.calls k a0_0 _ _ l0_1 a1 true _ ?side1 ?side2 A3.out).mono ?_); (case side1 => exact zC (Kd.C_below HR0_1.out HB.out)); (case side2 => exact HC0_1.out); rintro e w12 ⟨rfl, hb⟩; replace BK402 := zM (blk_below (g := gb402) (o := .cells #[.int .i64 a0_0, .slice A0_1 l0_1.length c0_1] 28 (0, 0)) (zK BK402.out) hb); replace HB := zM (below_step zB hb); (try clear hb); (try clear hb2); (try clear hk); (try clear hi); have hcz13_0 := zy BK402 0; have hcz13_1 := zy BK402 1; have hfz13_0 := blk_frozen BK402.out 0; have hfz13_1 := blk_frozen BK402.out 1) | (go_at_call 11; (with_reducible refine (spec_TightSets.calls k a0_0 _ _ l0_1 a1 t404 t407 _ ?side1 ?side2 A5.out).mono ?_); (case side1 => exact zC (Kd.C_below HR0_1.out HB.out)); (case side2 => exact HC0_1.out); rintro e w14 ⟨v405, rfl, ho0, hb⟩; have HO406 := zM (Kd.N_lower (Kd.N_mono (ok' := fun k_ => k_ ≠ gb402) ho0 (fun k_ hk_ => (Kd.freshB (g := gb402) (o := .cells #[.int .i64 a0_0, .slice A0_1 l0_1.length c0_1] 28 (0, 0)) (zK BK402.out) k_ hk_))) (below_size zB)); replace BK402 := zM (blk_below (g := gb402) (o := .cells #[.int .i64 a0_0, .slice A0_1 l0_1.length c0_1] 28 (0, 0)) (zK BK402.out) hb); replace HB := zM (below_step zB hb); (try clear hb); (try clear hb2); (try clear hk); (try clear hi); (try clear ho0); have hcz15_0 := zy BK402 0; have hcz15_1 := zy BK402 1; have hfz15_0 := blk_frozen BK402.out 0; have hfz15_1 := blk_frozen BK402.out 1) | (go_at_call 12; (with_reducible refine (spec_l4Best.calls k a0_0 _ _ l0_1 a1 t408 _ ?side1 ?side2 A6.out).mono ?_); (case side1 => exact zC (Kd.C_below HR0_1.out HB.out)); (case side2 => exact HC0_1.out); rintro e w16 ⟨v409, rfl, ho0, hb⟩; have HO410 := zM (Kd.V_lower (Kd.V_mono (ok' := fun k_ => some k_ ≠ (v405 : Value).ownBlock ∧ k_ ≠ gb402) ho0 (fun k_ hk_ => ⟨(Kd.fresh' (Kd.N_lt (by (with_reducible repeat (first | apply Kd.N_alloc | apply Kd.N_drewN | apply Kd.N_drew)); exact HO406.out)) k_ hk_), (Kd.freshB (g := gb402) (o := .cells #[.int .i64 a0_0, .slice A0_1 l0_1.length c0_1] 28 (0, 0)) (zK BK402.out) k_ hk_)⟩)) (below_size zB)); replace HO406 := zM (Kd.N_below (by (with_reducible repeat (first | apply Kd.N_alloc | apply Kd.N_drewN | apply Kd.N_drew)); exact HO406.out) hb); replace BK402 := zM (blk_below (g := gb402) (o := .cells #[.int .i64 a0_0, .slice A0_1 l0_1.length c0_1] 28 (0, 0)) (zK BK402.out) hb); replace HB := zM (below_step zB hb); (try clear hb); (try clear hb2); (try clear hk); (try clear hi); (try clear ho0); obtain ⟨Ao17, co17, eo17⟩ := Kd.V_slice HO410.out; subst eo17; obtain ⟨Ao18, co18, eo18⟩ := Kd.N_slice HO406.out; subst eo18; have p411 : 0 ≤ (0 : Int) := (by omega); have q411 : 0 < (t404.length : Int) := of_decide_eq_true zA; obtain ⟨ad411, A411_0, c411_0, e411, hx411_0, hl411_0, hi411_0⟩ := at_L2 (Kd.N_reads' HO406.out).2.2 0 p411 q411; cases e411; obtain ⟨ce411, hce411, hMe411, hcc411⟩ := Kd.N_get HO406.out [] 0 p411 (by first | exact q411 | exact of_decide_eq_true zA | (have e_ := (Kd.N_reads' HO406.out).1; omega)); obtain ⟨ua411_0, uc411_0, rfl, ul411_0, ge411_0⟩ := Kd.FK_slice_open hMe411; have hv411_0 := hcc411 0 _ rfl; rw [Nat.add_zero, show ((Kd.slice 3 (Kd.int .i64))).sz = 1 from rfl, Nat.mul_one] at hv411_0; replace hv411_0 := Option.some.inj (hv411_0.symm.trans hx411_0); injection hv411_0 with hva_ hvn_ hvc_; rw [hva_] at ge411_0; rw [hvc_] at ul411_0; have HL411_0 := zM (show Kd.V (Kd.int .i64) 3 _ w.heap.size _ _ (rd_L2 t404 0) from Kd.V_mk ul411_0 ge411_0); clear hva_ hvn_ hvc_ ge411_0 ul411_0; clear hcc411 hce411; have qi411 : (0 < t404.length) = True := eq_true (by omega); (try rw [show ((0 : Int)).toNat = 0 from rfl] at hx411_0); (try rw [Addr.add_zero'] at hx411_0); have HR411_0 := Aside0.mk hi411_0; have HC411_0 := Aside0.mk hl411_0; clear hi411_0 hl411_0; replace p411 := eq_true p411; replace q411 := eq_true q411; have hcz19_0 := zy BK402 0; have hcz19_1 := zy BK402 1; have hfz19_0 := blk_frozen BK402.out 0; have hfz19_1 := blk_frozen BK402.out 1) | (go_at_call 13; (with_reducible refine (spec_l1Most.calls (wrap64 ((wrap64 (((rd_L2 t404 0).length : Int) + (t408.length : Int))) - a0_0)) 0 t412 _ A9.out).mono ?_); rintro e w' ⟨rfl, ⟨nd, rfl⟩⟩; (try exact zD))))
       go_ret2
       exact ⟨by first | rfl | (simp [errW_none, errW_some] <;> rfl) | (simp [*, errW_none, errW_some] <;> rfl), zB⟩
     · rw [if_neg c8] at H
       exact absurd H (by simp)
   · rw [if_neg c7] at H
     have c7b0 : (a1 == 2) = false := beq_eq_false_iff_ne.mpr c7
     have c7b1 : (a1 != 2) = true := bne_iff_ne.mpr c7
     obtain ⟨ji20, hji20⟩ : ∃ j_ : Int, (wrap64 ((t404.length : Int) - 1)) = j_ := ⟨_, rfl⟩
     replace H : (if 0 ≤ (ji20) then (if (ji20) < (t404.length : Int) then ((spec_l1Least.f (wrap64 (((rd_L2 t404 (ji20)).length : Int) + (t408.length : Int))) a0_0).bind fun t414 => (some (t414, true))) else (none)) else (none)) = some (r1, r2) := by first | (rw [hji20] at H; exact H) | (simp only [hji20] at H ⊢; exact H)
     (try rw [hji20] at A3)
     (try rw [hji20] at A5)
     (try rw [hji20] at A6)
     have hji20w : (IntKind.i64.wrap ((t404.length : Int) - 1)) = ji20 := (i64_w _).trans hji20
     by_cases c21 : 0 ≤ (ji20)
     · rw [if_pos c21] at H
       have c21b0 := decide_eq_true c21
       clear c21
       by_cases c22 : (ji20) < (t404.length : Int)
       · rw [if_pos c22] at H
         have c22b0 := decide_eq_true c22
         clear c22
         replace H := Option.bind_eq_some_iff.mp H
         obtain ⟨t414, A230, H⟩ := H
         replace H : (some (t414, true)) = some (r1, r2) := H
         have A23 := Aside0.mk A230
         clear A230
         simp only [Option.some.injEq, Prod.mk.injEq] at H
         obtain ⟨rfl, rfl⟩ := H
         go_enter Try.func5, Try.ntmps5
         go_wp2_with (first | ((with_reducible refine gate_dst (N := 2) rfl ?_); refine zb (w := w) 2 #[.int .i64 a0_0, .slice A0_1 l0_1.length c0_1] 28 zB ?_; clear HB; intro gb402 w24 HB BK402 GW402; have GE402 := GW402; have hcz25_0 := zy BK402 0; have hcz25_1 := zy BK402 1; have hfz25_0 := blk_frozen BK402.out 0; have hfz25_1 := blk_frozen BK402.out 1) | (go_at_call 10; (with_reducible refine (spec_l4Good.calls k a0_0 _ _ l0_1 a1 true _ ?side1 ?side2 A3.out).mono ?_); (case side1 => exact zC (Kd.C_below HR0_1.out HB.out)); (case side2 => exact HC0_1.out); rintro e w26 ⟨rfl, hb⟩; replace BK402 := zM (blk_below (g := gb402) (o := .cells #[.int .i64 a0_0, .slice A0_1 l0_1.length c0_1] 28 (0, 0)) (zK BK402.out) hb); replace HB := zM (below_step zB hb); (try clear hb); (try clear hb2); (try clear hk); (try clear hi); have hcz27_0 := zy BK402 0; have hcz27_1 := zy BK402 1; have hfz27_0 := blk_frozen BK402.out 0; have hfz27_1 := blk_frozen BK402.out 1) | (go_at_call 11; (with_reducible refine (spec_TightSets.calls k a0_0 _ _ l0_1 a1 t404 t407 _ ?side1 ?side2 A5.out).mono ?_); (case side1 => exact zC (Kd.C_below HR0_1.out HB.out)); (case side2 => exact HC0_1.out); rintro e w28 ⟨v405, rfl, ho0, hb⟩; have HO406 := zM (Kd.N_lower (Kd.N_mono (ok' := fun k_ => k_ ≠ gb402) ho0 (fun k_ hk_ => (Kd.freshB (g := gb402) (o := .cells #[.int .i64 a0_0, .slice A0_1 l0_1.length c0_1] 28 (0, 0)) (zK BK402.out) k_ hk_))) (below_size zB)); replace BK402 := zM (blk_below (g := gb402) (o := .cells #[.int .i64 a0_0, .slice A0_1 l0_1.length c0_1] 28 (0, 0)) (zK BK402.out) hb); replace HB := zM (below_step zB hb); (try clear hb); (try clear hb2); (try clear hk); (try clear hi); (try clear ho0); have hcz29_0 := zy BK402 0; have hcz29_1 := zy BK402 1; have hfz29_0 := blk_frozen BK402.out 0; have hfz29_1 := blk_frozen BK402.out 1) | (go_at_call 12; (with_reducible refine (spec_l4Best.calls k a0_0 _ _ l0_1 a1 t408 _ ?side1 ?side2 A6.out).mono ?_); (case side1 => exact zC (Kd.C_below HR0_1.out HB.out)); (case side2 => exact HC0_1.out); rintro e w30 ⟨v409, rfl, ho0, hb⟩; have HO410 := zM (Kd.V_lower (Kd.V_mono (ok' := fun k_ => some k_ ≠ (v405 : Value).ownBlock ∧ k_ ≠ gb402) ho0 (fun k_ hk_ => ⟨(Kd.fresh' (Kd.N_lt (by (with_reducible repeat (first | apply Kd.N_alloc | apply Kd.N_drewN | apply Kd.N_drew)); exact HO406.out)) k_ hk_), (Kd.freshB (g := gb402) (o := .cells #[.int .i64 a0_0, .slice A0_1 l0_1.length c0_1] 28 (0, 0)) (zK BK402.out) k_ hk_)⟩)) (below_size zB)); replace HO406 := zM (Kd.N_below (by (with_reducible repeat (first | apply Kd.N_alloc | apply Kd.N_drewN | apply Kd.N_drew)); exact HO406.out) hb); replace BK402 := zM (blk_below (g := gb402) (o := .cells #[.int .i64 a0_0, .slice A0_1 l0_1.length c0_1] 28 (0, 0)) (zK BK402.out) hb); replace HB := zM (below_step zB hb); (try clear hb); (try clear hb2); (try clear hk); (try clear hi); (try clear ho0); obtain ⟨Ao31, co31, eo31⟩ := Kd.V_slice HO410.out; subst eo31; obtain ⟨Ao32, co32, eo32⟩ := Kd.N_slice HO406.out; subst eo32; have p413 : 0 ≤ ((ji20) : Int) := of_decide_eq_true zA; have q413 : (ji20) < (t404.length : Int) := of_decide_eq_true zA; obtain ⟨ad413, A413_0, c413_0, e413, hx413_0, hl413_0, hi413_0⟩ := at_L2 (Kd.N_reads' HO406.out).2.2 (ji20) p413 q413; cases e413; obtain ⟨ce413, hce413, hMe413, hcc413⟩ := Kd.N_get HO406.out [] (ji20) p413 (by first | exact q413 | exact of_decide_eq_true zA | (have e_ := (Kd.N_reads' HO406.out).1; omega)); obtain ⟨ua413_0, uc413_0, rfl, ul413_0, ge413_0⟩ := Kd.FK_slice_open hMe413; have hv413_0 := hcc413 0 _ rfl; rw [Nat.add_zero, show ((Kd.slice 3 (Kd.int .i64))).sz = 1 from rfl, Nat.mul_one] at hv413_0; replace hv413_0 := Option.some.inj (hv413_0.symm.trans hx413_0); injection hv413_0 with hva_ hvn_ hvc_; rw [hva_] at ge413_0; rw [hvc_] at ul413_0; have HL413_0 := zM (show Kd.V (Kd.int .i64) 3 _ w.heap.size _ _ (rd_L2 t404 (ji20)) from Kd.V_mk ul413_0 ge413_0); clear hva_ hvn_ hvc_ ge413_0 ul413_0; clear hcc413 hce413; have HR413_0 := Aside0.mk hi413_0; have HC413_0 := Aside0.mk hl413_0; clear hi413_0 hl413_0; replace p413 := eq_true p413; replace q413 := eq_true q413; have hcz33_0 := zy BK402 0; have hcz33_1 := zy BK402 1; have hfz33_0 := blk_frozen BK402.out 0; have hfz33_1 := blk_frozen BK402.out 1) | (go_at_call 14; (with_reducible refine (spec_l1Least.calls (wrap64 (((rd_L2 t404 (ji20)).length : Int) + (t408.length : Int))) a0_0 t414 _ A23.out).mono ?_); rintro e w' ⟨rfl, ⟨nd, rfl⟩⟩; (try exact zD)))
         repeat (go_quiet (first | ((with_reducible refine gate_dst (N := 2) rfl ?_); refine zb (w := w) 2 #[.int .i64 a0_0, .slice A0_1 l0_1.length c0_1] 28 zB ?_; clear HB; intro gb402 w24 HB BK402 GW402; have GE402 := GW402; have hcz25_0 := zy BK402 0; have hcz25_1 := zy BK402 1; have hfz25_0 := blk_frozen BK402.out 0; have hfz25_1 := blk_frozen BK402.out 1) | (go_at_call 10; (with_reducible refine (spec_l4Good.calls k a0_0 _ _ l0_1 a1 true _ ?side1 ?side2 A3.out).mono ?_); (case side1 => exact zC (Kd.C_below HR0_1.out HB.out)); (case side2 => exact HC0_1.out); rintro e w26 ⟨rfl, hb⟩; replace BK402 := zM (blk_below (g := gb402) (o := .cells #[.int .i64 a0_0, .slice A0_1 l0_1.length c0_1] 28 (0, 0)) (zK BK402.out) hb); replace HB := zM (below_step zB hb); (try clear hb); (try clear hb2); (try clear hk); (try clear hi); have hcz27_0 := zy BK402 0; have hcz27_1 := zy BK402 1; have hfz27_0 := blk_frozen BK402.out 0; have hfz27_1 := blk_frozen BK402.out 1) | (go_at_call 11; (with_reducible refine (spec_TightSets.calls k a0_0 _ _ l0_1 a1 t404 t407 _ ?side1 ?side2 A5.out).mono ?_); (case side1 => exact zC (Kd.C_below HR0_1.out HB.out)); (case side2 => exact HC0_1.out); rintro e w28 ⟨v405, rfl, ho0, hb⟩; have HO406 := zM (Kd.N_lower (Kd.N_mono (ok' := fun k_ => k_ ≠ gb402) ho0 (fun k_ hk_ => (Kd.freshB (g := gb402) (o := .cells #[.int .i64 a0_0, .slice A0_1 l0_1.length c0_1] 28 (0, 0)) (zK BK402.out) k_ hk_))) (below_size zB)); replace BK402 := zM (blk_below (g := gb402) (o := .cells #[.int .i64 a0_0, .slice A0_1 l0_1.length c0_1] 28 (0, 0)) (zK BK402.out) hb); replace HB := zM (below_step zB hb); (try clear hb); (try clear hb2); (try clear hk); (try clear hi); (try clear ho0); have hcz29_0 := zy BK402 0; have hcz29_1 := zy BK402 1; have hfz29_0 := blk_frozen BK402.out 0; have hfz29_1 := blk_frozen BK402.out 1) | (go_at_call 12; (with_reducible refine (spec_l4Best.calls k a0_0 _ _ l0_1 a1 t408 _ ?side1 ?side2 A6.out).mono ?_); (case side1 => exact zC (Kd.C_below HR0_1.out HB.out)); (case side2 => exact HC0_1.out); rintro e w30 ⟨v409, rfl, ho0, hb⟩; have HO410 := zM (Kd.V_lower (Kd.V_mono (ok' := fun k_ => some k_ ≠ (v405 : Value).ownBlock ∧ k_ ≠ gb402) ho0 (fun k_ hk_ => ⟨(Kd.fresh' (Kd.N_lt (by (with_reducible repeat (first | apply Kd.N_alloc | apply Kd.N_drewN | apply Kd.N_drew)); exact HO406.out)) k_ hk_), (Kd.freshB (g := gb402) (o := .cells #[.int .i64 a0_0, .slice A0_1 l0_1.length c0_1] 28 (0, 0)) (zK BK402.out) k_ hk_)⟩)) (below_size zB)); replace HO406 := zM (Kd.N_below (by (with_reducible repeat (first | apply Kd.N_alloc | apply Kd.N_drewN | apply Kd.N_drew)); exact HO406.out) hb); replace BK402 := zM (blk_below (g := gb402) (o := .cells #[.int .i64 a0_0, .slice A0_1 l0_1.length c0_1] 28 (0, 0)) (zK BK402.out) hb); replace HB := zM (below_step zB hb); (try clear hb); (try clear hb2); (try clear hk); (try clear hi); (try clear ho0); obtain ⟨Ao31, co31, eo31⟩ := Kd.V_slice HO410.out; subst eo31; obtain ⟨Ao32, co32, eo32⟩ := Kd.N_slice HO406.out; subst eo32; have p413 : 0 ≤ ((ji20) : Int) := of_decide_eq_true zA; have q413 : (ji20) < (t404.length : Int) := of_decide_eq_true zA; obtain ⟨ad413, A413_0, c413_0, e413, hx413_0, hl413_0, hi413_0⟩ := at_L2 (Kd.N_reads' HO406.out).2.2 (ji20) p413 q413; cases e413; obtain ⟨ce413, hce413, hMe413, hcc413⟩ := Kd.N_get HO406.out [] (ji20) p413 (by first | exact q413 | exact of_decide_eq_true zA | (have e_ := (Kd.N_reads' HO406.out).1; omega)); obtain ⟨ua413_0, uc413_0, rfl, ul413_0, ge413_0⟩ := Kd.FK_slice_open hMe413; have hv413_0 := hcc413 0 _ rfl; rw [Nat.add_zero, show ((Kd.slice 3 (Kd.int .i64))).sz = 1 from rfl, Nat.mul_one] at hv413_0; replace hv413_0 := Option.some.inj (hv413_0.symm.trans hx413_0); injection hv413_0 with hva_ hvn_ hvc_; rw [hva_] at ge413_0; rw [hvc_] at ul413_0; have HL413_0 := zM (show Kd.V (Kd.int .i64) 3 _ w.heap.size _ _ (rd_L2 t404 (ji20)) from Kd.V_mk ul413_0 ge413_0); clear hva_ hvn_ hvc_ ge413_0 ul413_0; clear hcc413 hce413; have HR413_0 := Aside0.mk hi413_0; have HC413_0 := Aside0.mk hl413_0; clear hi413_0 hl413_0; replace p413 := eq_true p413; replace q413 := eq_true q413; have hcz33_0 := zy BK402 0; have hcz33_1 := zy BK402 1; have hfz33_0 := blk_frozen BK402.out 0; have hfz33_1 := blk_frozen BK402.out 1) | (go_at_call 14; (with_reducible refine (spec_l1Least.calls (wrap64 (((rd_L2 t404 (ji20)).length : Int) + (t408.length : Int))) a0_0 t414 _ A23.out).mono ?_); rintro e w' ⟨rfl, ⟨nd, rfl⟩⟩; (try exact zD))); try go_wp2_with (first | ((with_reducible refine gate_dst (N := 2) rfl ?_); refine zb (w := w) 2 #[.int .i64 a0_0, .slice A0_1 l0_1.length c0_1] 28 zB ?_; clear HB; intro gb402 w24 HB BK402 GW402; have GE402 := GW402; have hcz25_0 := zy BK402 0; have hcz25_1 := zy BK402 1; have hfz25_0 := blk_frozen BK402.out 0; have hfz25_1 := blk_frozen BK402.out 1) | (go_at_call 10; (with_reducible refine (spec_l4Good.calls k a0_0 _ _ l0_1 a1 true _ ?side1 ?side2 A3.out).mono ?_); (case side1 => exact zC (Kd.C_below HR0_1.out HB.out)); (case side2 => exact HC0_1.out); rintro e w26 ⟨rfl, hb⟩; replace BK402 := zM (blk_below (g := gb402) (o := .cells #[.int .i64 a0_0, .slice A0_1 l0_1.length c0_1] 28 (0, 0)) (zK BK402.out) hb); replace HB := zM (below_step zB hb); (try clear hb); (try clear hb2); (try clear hk); (try clear hi); have hcz27_0 := zy BK402 0; have hcz27_1 := zy BK402 1; have hfz27_0 := blk_frozen BK402.out 0; have hfz27_1 := blk_frozen BK402.out 1) | (go_at_call 11; (with_reducible refine (spec_TightSets.calls k a0_0 _ _ l0_1 a1 t404 t407 _ ?side1 ?side2 A5.out).mono ?_); (case side1 => exact zC (Kd.C_below HR0_1.out HB.out)); (case side2 => exact HC0_1.out); rintro e w28 ⟨v405, rfl, ho0, hb⟩; have HO406 := zM (Kd.N_lower (Kd.N_mono (ok' := fun k_ => k_ ≠ gb402) ho0 (fun k_ hk_ => (Kd.freshB (g := gb402) (o := .cells #[.int .i64 a0_0, .slice A0_1 l0_1.length c0_1] 28 (0, 0)) (zK BK402.out) k_ hk_))) (below_size zB)); replace BK402 := zM (blk_below (g := gb402) (o := .cells #[.int .i64 a0_0, .slice A0_1 l0_1.length c0_1] 28 (0, 0)) (zK BK402.out) hb); replace HB := zM (below_step zB hb); (try clear hb); (try clear hb2); (try clear hk); (try clear hi); (try clear ho0); have hcz29_0 := zy BK402 0; have hcz29_1 := zy BK402 1; have hfz29_0 := blk_frozen BK402.out 0; have hfz29_1 := blk_frozen BK402.out 1) | (go_at_call 12; (with_reducible refine (spec_l4Best.calls k a0_0 _ _ l0_1 a1 t408 _ ?side1 ?side2 A6.out).mono ?_); (case side1 => exact zC (Kd.C_below HR0_1.out HB.out)); (case side2 => exact HC0_1.out); rintro e w30 ⟨v409, rfl, ho0, hb⟩; have HO410 := zM (Kd.V_lower (Kd.V_mono (ok' := fun k_ => some k_ ≠ (v405 : Value).ownBlock ∧ k_ ≠ gb402) ho0 (fun k_ hk_ => ⟨(Kd.fresh' (Kd.N_lt (by (with_reducible repeat (first | apply Kd.N_alloc | apply Kd.N_drewN | apply Kd.N_drew)); exact HO406.out)) k_ hk_), (Kd.freshB (g := gb402) (o := .cells #[.int .i64 a0_0, .slice A0_1 l0_1.length c0_1] 28 (0, 0)) (zK BK402.out) k_ hk_)⟩)) (below_size zB)); replace HO406 := zM (Kd.N_below (by (with_reducible repeat (first | apply Kd.N_alloc | apply Kd.N_drewN | apply Kd.N_drew)); exact HO406.out) hb); replace BK402 := zM (blk_below (g := gb402) (o := .cells #[.int .i64 a0_0, .slice A0_1 l0_1.length c0_1] 28 (0, 0)) (zK BK402.out) hb); replace HB := zM (below_step zB hb); (try clear hb); (try clear hb2); (try clear hk); (try clear hi); (try clear ho0); obtain ⟨Ao31, co31, eo31⟩ := Kd.V_slice HO410.out; subst eo31; obtain ⟨Ao32, co32, eo32⟩ := Kd.N_slice HO406.out; subst eo32; have p413 : 0 ≤ ((ji20) : Int) := of_decide_eq_true zA; have q413 : (ji20) < (t404.length : Int) := of_decide_eq_true zA; obtain ⟨ad413, A413_0, c413_0, e413, hx413_0, hl413_0, hi413_0⟩ := at_L2 (Kd.N_reads' HO406.out).2.2 (ji20) p413 q413; cases e413; obtain ⟨ce413, hce413, hMe413, hcc413⟩ := Kd.N_get HO406.out [] (ji20) p413 (by first | exact q413 | exact of_decide_eq_true zA | (have e_ := (Kd.N_reads' HO406.out).1; omega)); obtain ⟨ua413_0, uc413_0, rfl, ul413_0, ge413_0⟩ := Kd.FK_slice_open hMe413; have hv413_0 := hcc413 0 _ rfl; rw [Nat.add_zero, show ((Kd.slice 3 (Kd.int .i64))).sz = 1 from rfl, Nat.mul_one] at hv413_0; replace hv413_0 := Option.some.inj (hv413_0.symm.trans hx413_0); injection hv413_0 with hva_ hvn_ hvc_; rw [hva_] at ge413_0; rw [hvc_] at ul413_0; have HL413_0 := zM (show Kd.V (Kd.int .i64) 3 _ w.heap.size _ _ (rd_L2 t404 (ji20)) from Kd.V_mk ul413_0 ge413_0); clear hva_ hvn_ hvc_ ge413_0 ul413_0; clear hcc413 hce413; have HR413_0 := Aside0.mk hi413_0; have HC413_0 := Aside0.mk hl413_0; clear hi413_0 hl413_0; replace p413 := eq_true p413; replace q413 := eq_true q413; have hcz33_0 := zy BK402 0; have hcz33_1 := zy BK402 1; have hfz33_0 := blk_frozen BK402.out 0; have hfz33_1 := blk_frozen BK402.out 1) | (go_at_call 14; (with_reducible refine (spec_l1Least.calls (wrap64 (((rd_L2 t404 (ji20)).length : Int) + (t408.length : Int))) a0_0 t414 _ A23.out).mono ?_); rintro e w' ⟨rfl, ⟨nd, rfl⟩⟩; (try exact zD))))
         go_ret2
         exact ⟨by first | rfl | (simp [errW_none, errW_some] <;> rfl) | (simp only [← hji20]; first | rfl | (simp [errW_none, errW_some] <;> rfl)) | (simp [*, errW_none, errW_some] <;> rfl), zB⟩
       · rw [if_neg c22] at H
         exact absurd H (by simp)
     · rw [if_neg c21] at H
       exact absurd H (by simp)
 · replace c4 := Bool.eq_false_iff.mpr c4
   subst c4
   have H1 : (some (0, false)) = some (r1, r2) := by rw [if_neg (show ¬ (false = true) by decide)] at H; exact H
   clear H
   have H := H1
   clear H1
   simp only [Option.some.injEq, Prod.mk.injEq] at H
   obtain ⟨rfl, rfl⟩ := H
   go_enter Try.func5, Try.ntmps5
   go_wp2_with (first | ((with_reducible refine gate_dst (N := 2) rfl ?_); refine zb (w := w) 2 #[.int .i64 a0_0, .slice A0_1 l0_1.length c0_1] 28 zB ?_; clear HB; intro gb402 w34 HB BK402 GW402; have GE402 := GW402; have hcz35_0 := zy BK402 0; have hcz35_1 := zy BK402 1; have hfz35_0 := blk_frozen BK402.out 0; have hfz35_1 := blk_frozen BK402.out 1) | (go_at_call 10; (with_reducible refine (spec_l4Good.calls k a0_0 _ _ l0_1 a1 false _ ?side1 ?side2 A3.out).mono ?_); (case side1 => exact zC (Kd.C_below HR0_1.out HB.out)); (case side2 => exact HC0_1.out); rintro e w36 ⟨rfl, hb⟩; replace BK402 := zM (blk_below (g := gb402) (o := .cells #[.int .i64 a0_0, .slice A0_1 l0_1.length c0_1] 28 (0, 0)) (zK BK402.out) hb); replace HB := zM (below_step zB hb); (try clear hb); (try clear hb2); (try clear hk); (try clear hi)))
   repeat (go_quiet (first | ((with_reducible refine gate_dst (N := 2) rfl ?_); refine zb (w := w) 2 #[.int .i64 a0_0, .slice A0_1 l0_1.length c0_1] 28 zB ?_; clear HB; intro gb402 w34 HB BK402 GW402; have GE402 := GW402; have hcz35_0 := zy BK402 0; have hcz35_1 := zy BK402 1; have hfz35_0 := blk_frozen BK402.out 0; have hfz35_1 := blk_frozen BK402.out 1) | (go_at_call 10; (with_reducible refine (spec_l4Good.calls k a0_0 _ _ l0_1 a1 false _ ?side1 ?side2 A3.out).mono ?_); (case side1 => exact zC (Kd.C_below HR0_1.out HB.out)); (case side2 => exact HC0_1.out); rintro e w36 ⟨rfl, hb⟩; replace BK402 := zM (blk_below (g := gb402) (o := .cells #[.int .i64 a0_0, .slice A0_1 l0_1.length c0_1] 28 (0, 0)) (zK BK402.out) hb); replace HB := zM (below_step zB hb); (try clear hb); (try clear hb2); (try clear hk); (try clear hi))); try go_wp2_with (first | ((with_reducible refine gate_dst (N := 2) rfl ?_); refine zb (w := w) 2 #[.int .i64 a0_0, .slice A0_1 l0_1.length c0_1] 28 zB ?_; clear HB; intro gb402 w34 HB BK402 GW402; have GE402 := GW402; have hcz35_0 := zy BK402 0; have hcz35_1 := zy BK402 1; have hfz35_0 := blk_frozen BK402.out 0; have hfz35_1 := blk_frozen BK402.out 1) | (go_at_call 10; (with_reducible refine (spec_l4Good.calls k a0_0 _ _ l0_1 a1 false _ ?side1 ?side2 A3.out).mono ?_); (case side1 => exact zC (Kd.C_below HR0_1.out HB.out)); (case side2 => exact HC0_1.out); rintro e w36 ⟨rfl, hb⟩; replace BK402 := zM (blk_below (g := gb402) (o := .cells #[.int .i64 a0_0, .slice A0_1 l0_1.length c0_1] 28 (0, 0)) (zK BK402.out) hb); replace HB := zM (below_step zB hb); (try clear hb); (try clear hb2); (try clear hk); (try clear hi))))
   go_ret2
   exact ⟨by first | rfl | (simp [errW_none, errW_some] <;> rfl) | (simp [*, errW_none, errW_some] <;> rfl), zB⟩

/-! ### impl_isKind: function 17 -/
def impl_isKind.f (a0 : Int) : Option (Bool) := (impl_between.f a0 1 3).bind fun t415 => (some t415)
set_option maxHeartbeats 8000000 in
set_option maxRecDepth 100000 in
theorem impl_isKind.calls (a0 : Int) (r : Bool) (w : World) (h : impl_isKind.f a0 = some r) :
 Calls Try.prog 17 #[.int .i64 a0] w fun e w' => e = .returned (.bool r) ∧ Drawn0 w w' := by
 have H : ((impl_between.f a0 1 3).bind fun t415 => (some t415)) = some r := h
 clear h
 replace H := Option.bind_eq_some_iff.mp H
 obtain ⟨t415, A20, H⟩ := H
 have A2 := Aside0.mk A20
 clear A20
 obtain rfl := Option.some.inj H
 go_enter Try.func17, Try.ntmps17
 go_wp2_with (first | ((with_reducible refine gate_callee (f := 26) rfl ?_); refine zc 4 Try.func26 #[.int .i64 a0, .int .i64 1, .int .i64 3] ?_; (with_reducible refine (impl_between.calls a0 1 3 t415 _ A2.out).mono ?_); rintro e w' ⟨rfl, ⟨nd, rfl⟩⟩; refine ⟨_, rfl, ?_⟩))
 go_ret
 exact ⟨by first | rfl | (simp; done) | (simp [*]; done), by repeat (first | exact Drawn0.refl _ | apply Drawn0.step)⟩

end Go.Proofs.Ytfaeopmofgnbdaa.P
namespace Go.Proofs.Ytfaeopmofgnbdaa.P
open Go.RowKit Go.Proofs.YtfaeopmofgnbdaaW.PrintWords Go.Proofs.YtfaeopmofgnbdaaW.PrintLast Go.Proofs.YtfaeopmofgnbdaaW.PrintMore
open Go.Sort (SWO Holds PermIn SortedIn putRow putCells mapBlock onCells sorted_unique_holds)
set_option linter.unusedVariables false
set_option linter.unusedSimpArgs false

/-- Rows in another order are rows still. -/
theorem S_perm {α : Type} {d : Kd α} {e : Nat} {w : World} {base : Nat} {ok : Nat → Prop} {v : Value} {f : Nat → Nat} {zs : List (α × Nat)} (h : (Kd.tag f d).R e w base ok v zs) (hn : (zs.map Prod.snd).Nodup) : Kd.S d e w base ok v (zs.map Prod.fst) := by
  obtain ⟨h0, inner, ho, hr⟩ := h
  refine ⟨fun b => (zs.map Prod.snd).idxOf (f b), h0, inner, by rw [List.length_zipIdx, List.length_map]; exact ho, by rw [List.length_zipIdx, List.length_map]; exact hr.1, fun j p hj => ?_⟩
  rw [List.getElem?_zipIdx, Nat.zero_add] at hj
  obtain ⟨x, hx, rfl⟩ := Option.map_eq_some_iff.1 hj
  rw [List.getElem?_map] at hx
  obtain ⟨z, hz, rfl⟩ := Option.map_eq_some_iff.1 hx
  refine d.M_mono (fun b hb => ⟨hb.1, ?_⟩) (hr.2 j z hz)
  have h2 : f b = z.2 := hb.2
  show (zs.map Prod.snd).idxOf (f b) = j
  obtain ⟨hlt, he⟩ := List.getElem?_eq_some_iff.1 hz
  have e2 : (zs.map Prod.snd)[j]'(by rw [List.length_map]; exact hlt) = z.2 := by rw [List.getElem_map, he]
  rw [h2, ← e2]
  exact hn.idxOf_getElem j _
section
variable {α : Type} [Inhabited α] (enc : α → Value)
theorem heap_sortedG {w : World} {g n : Nat} {os : Array Obj} {cur : Array Value} {e : TypeId} {fr : Nat × Nat} (d : Array α) (hb : w.heap[g]? = some (.cells cur e fr)) :
    (Sort.grow (putRow enc (Sort.ahead w n) g 0 d) os).heap[g]? = some (.cells (putCells enc 0 d cur) e fr) := by
  have hg : g < w.heap.size := (Array.getElem?_eq_some_iff.1 hb).1
  rw [Sort.heap_grow_old _ _ (by simpa using hg)]
  simp [putRow, mapBlock, Sort.ahead, Array.getElem?_modify, hb, onCells]
theorem grownBy_sortedG {w : World} {g n : Nat} {os : Array Obj} (d : Array α) : w.grownBy (Sort.grow (putRow enc (Sort.ahead w n) g 0 d) os) (some g) := by
  refine ⟨rfl, rfl, rfl, by simp, fun k hk hne => ?_⟩
  rw [Sort.heap_grow_old _ _ (by simpa using hk)]
  have : g ≠ k := fun e => hne (by rw [e])
  simp [putRow, mapBlock, Sort.ahead, Array.getElem?_modify, this]
theorem take_putCellsG (cur : Array Value) (ts : List α) (h : ts.length ≤ cur.size) : (putCells enc 0 ts.toArray cur).toList.take ts.length = ts.map enc := by
  apply List.ext_getElem?
  intro j
  by_cases hj : j < ts.length
  · rw [List.getElem?_take_of_lt hj, Array.getElem?_toList]
    simp [putCells, hj, show j < cur.size by omega]
  · rw [List.getElem?_take_eq_none (by omega), List.getElem?_eq_none (by simp; omega)]
theorem ownsRow_sortedG {w : World} {base g cap n m : Nat} {e : TypeId} {os : Array Obj} {cur : Array Value} {ts : List α} (hl : ts.length = m) (hbase : base ≤ g) (hb : w.heap[g]? = some (.cells cur e (0, 0)))
    (h1 : m ≤ cap) (h2 : cap ≤ maxLen) (h3 : cur.size = cap * 1) :
    (Sort.grow (putRow enc (Sort.ahead w n) g 0 ts.toArray) os).ownsRow base e 1 (.slice (some ⟨g, 0, none⟩) m cap) m (ts.map enc) :=
  ⟨by simp [hl], .inr ⟨g, cap, _, rfl, hbase, heap_sortedG enc _ hb, h1, h2, by simp [putCells, h3], by rw [Nat.mul_one, ← hl]; exact take_putCellsG enc cur ts (by omega)⟩⟩
end
theorem fin_get {n : Nat} (hn : 0 < n) [Inhabited (Fin n)] (j : Nat) (hj : j < n) : ((List.finRange n).toArray)[j]! = ⟨j, hj⟩ := by
  rw [getElem!_pos _ j (by simpa using hj)]
  simp
/-- A comparison of lists: what it answers where it is called; it draws and lays blocks, and turns nothing. -/
def CmpL (g : Nat) (cf : List Int → List Int → Int) : Prop :=
  ∀ (W : World) (x y : List Int) (A B : Option Addr) (c c' : Nat), Kd.C (Kd.int .i64) W A x.length x → x.length ≤ c → Kd.C (Kd.int .i64) W B y.length y → y.length ≤ c' →
    Calls Try.prog g #[.slice A x.length c, .slice B y.length c'] W fun e w' => e = .returned (.int .i64 (cf x y)) ∧ ∃ q os, w' = Sort.grow (W.drewN q) os
set_option maxHeartbeats 2000000 in
theorem sortFunc_lists {ρ ρ' : Shelf.Ren} (L : SlLaysF.n6 Try.prog ρ) (L0 : SlLaysF0.n6 Try.prog ρ') (F : Nat) (e1 : ρ.f 6 = F) (e2 : ρ'.f 6 = F) (cf : List Int → List Int → Int) (hO : SWO (ltOf cf)) (hT : ∀ x y, ltOf cf x y = false → ltOf cf y x = false → x = y) (g : Nat)
    (eg : ∀ (args : Array Value) (w : World), (callFunc g args).run Try.prog w = .ok (.enter g args) w) (hcmp : CmpL g cf)
    (P0_ : Nat → Prop) (u9000_ : Value) (l0 : List (List Int)) (w0 w : World) (hB : Below w0.heap.size w0 w) (ho0 : Kd.S (Kd.slice 3 (Kd.int .i64)) 37 w w0.heap.size P0_ u9000_ l0) (hlen : l0.length < 4611686018427387904) :
    Calls Try.prog F #[u9000_, .func (.func g) #[] #[]] w fun e w' => e = .returned (.tuple #[]) ∧ Kd.S (Kd.slice 3 (Kd.int .i64)) 37 w' w0.heap.size (fun k_ => (P0_ k_ ∨ w.heap.size ≤ k_)) u9000_ (l0.mergeSort fun x y => !ltOf cf y x) ∧ Below w0.heap.size w0 w' ∧ Kept w w' (fun k_ => P0_ k_) := by
  obtain ⟨f, h0, inner, hown, hr⟩ := ho0
  rw [List.length_zipIdx] at hown
  replace hown : w.ownsRow w0.heap.size 37 1 u9000_ l0.length inner := hown
  have hS : Kd.S (Kd.slice 3 (Kd.int .i64)) 37 w w0.heap.size P0_ u9000_ l0 := ⟨f, h0, inner, by rw [List.length_zipIdx]; exact hown, hr⟩
  by_cases hn : 0 < l0.length
  case neg =>
    have hnil : l0 = [] := List.eq_nil_of_length_eq_zero (by omega)
    subst hnil
    obtain ⟨A, c, rfl⟩ := Kd.S_slice hS
    rw [← e2]
    refine (AnyF.slices_SortFunc_none L0 A c _ w).mono ?_
    rintro e w' ⟨rfl, rfl⟩
    have e0 : ([] : List (List Int)).mergeSort (fun x y => !ltOf cf y x) = [] := by simp
    rw [e0]
    exact ⟨rfl, Kd.S_mono hS (fun k hk => .inl hk), hB, Kept.refl _ _⟩
  rcases hown.2 with ⟨hnil, hz⟩ | ⟨gb, cap, cur, rfl, hbase, hb, h1, h2, h3, h4⟩
  · exact absurd hz (by omega)
  haveI : Inhabited (Fin l0.length) := ⟨⟨0, hn⟩⟩
  have hin : inner.length = l0.length := by have h9 : inner.length = l0.zipIdx.length * 1 := hr.1; rw [List.length_zipIdx] at h9; omega
  have hgl : gb < w.heap.size := (Array.getElem?_eq_some_iff.1 hb).1
  obtain ⟨enc, henc⟩ : ∃ enc : Fin l0.length → Value, ∀ i, enc i = inner[i.val]'(by rw [hin]; exact i.isLt) := ⟨_, fun _ => rfl⟩
  have hrow : ∀ i : Fin l0.length, ∃ v, enc i = v ∧ Kd.R (Kd.int .i64) 3 w w0.heap.size (fun k => (P0_ k ∧ some k ≠ (Value.slice (some ⟨gb, 0, none⟩) l0.length cap).ownBlock) ∧ f k = i.val) v l0[i.val] := by
    intro i
    have h5 := hr.2 i.val (l0[i.val], i.val) (Kd.zip_at (List.getElem?_eq_getElem i.isLt))
    obtain ⟨v, hv, hR⟩ := h5
    refine ⟨v, ?_, hR⟩
    rw [henc i]
    have hl' : i.val < inner.length := by rw [hin]; exact i.isLt
    have h6 : (inner.drop (i.val * 1)).take 1 = [v] := hv
    rw [Nat.mul_one, List.drop_eq_getElem_cons hl', List.take_succ_cons] at h6
    injection h6
  have hone : OneCell enc := fun i => by
    obtain ⟨v, hv, hR⟩ := hrow i
    rw [hv]
    exact (Kd.R_val hR).2
  have hH : Holds enc w gb 0 (List.finRange l0.length).toArray := by
    intro j hj
    have hj' : j < l0.length := by simpa using hj
    refine ⟨?_, by simp [World.frozen?, hb]⟩
    rw [fin_get hn j hj', henc]
    have h5 : (cur.toList.take (l0.length * 1))[j]? = inner[j]? := by rw [h4]
    rw [Nat.mul_one, List.getElem?_take_of_lt hj', Array.getElem?_toList, List.getElem?_eq_getElem (by rw [hin]; exact hj')] at h5
    simp [World.cell?, hb, h5]
  have hcl : CmpLays1 Try.prog g #[] enc (fun i j => cf l0[i.val] l0[j.val]) gb 0 (List.finRange l0.length).toArray.size w := by
    intro m os dk _ x y
    obtain ⟨v, hv, hR⟩ := hrow x
    obtain ⟨u, hu, hQ⟩ := hrow y
    have hgr := grownBy_sortedG enc (w := w) (g := gb) (n := m) (os := os) dk
    have hR2 := Kd.R_grown hR hgr (fun k hk => by have := hk.1.2; simpa [Value.ownBlock] using this)
    have hQ2 := Kd.R_grown hQ hgr (fun k hk => by have := hk.1.2; simpa [Value.ownBlock] using this)
    obtain ⟨A, c, rfl, hc, hC⟩ := Kd.R_reads hR2
    obtain ⟨B, c', rfl, hc', hC'⟩ := Kd.R_reads hQ2
    rw [hv, hu]
    exact hcmp _ _ _ A B c c' hC hc hC' hc'
  have hO' : SWO (ltOf (fun i j : Fin l0.length => cf l0[i.val] l0[j.val])) := ⟨fun x => hO.irrefl _, fun x y z => hO.trans _ _ _, fun x y z => hO.ntrans _ _ _⟩
  have hd : (List.finRange l0.length).toArray.size = l0.length := by simp
  have hcon := Any.slices_SortFunc L enc hone _ hO' g #[] gb 0 cap _ w eg hcl hH hgl (by rw [hd]; exact hlen)
  rw [hd, e1] at hcon
  refine hcon.mono ?_
  rintro e w' ⟨rfl, d', nn, os, hp, hs, rfl⟩
  have hgr := grownBy_sortedG enc (w := w) (g := gb) (n := nn) (os := os) d'
  have hdl : d'.toList.length = l0.length := by rw [Array.length_toList, hp.1, hd]
  have hds : d'.size = l0.length := by rw [← Array.length_toList]; exact hdl
  have hperm : d'.toList.Perm (List.finRange l0.length) := by
    have h5 := hp.2.2
    rw [Array.extract_eq_self_of_le (by rw [← Array.length_toList, hdl]; exact Nat.le_refl _), Array.extract_eq_self_of_le (by rw [hd]; exact Nat.le_refl _)] at h5
    simpa using h5
  have hown2 : (sortWorld enc w gb 0 nn d' os).ownsRow w0.heap.size 37 1 (.slice (some ⟨gb, 0, none⟩) l0.length cap) l0.length (d'.toList.map enc) := by
    have := ownsRow_sortedG enc (w := w) (n := nn) (os := os) (ts := d'.toList) hdl hbase hb h1 h2 h3
    exact this
  have hmap : (d'.toList.map fun i => (l0[i.val], i.val)).map Prod.fst = d'.toList.map fun i => l0[i.val] := by rw [List.map_map]; rfl
  have hsorted : (d'.toList.map fun i => l0[i.val]) = l0.mergeSort fun x y => !ltOf cf y x := by
    have h6 := sorted_unique_holds hO hT l0.toArray (d'.toList.map fun i => l0[i.val]).toArray ?_ ?_
    · simpa using h6
    · refine ⟨by simpa using hdl, fun i hi => ?_, ?_⟩
      · rw [getElem!_neg _ i (by simp only [List.size_toArray, List.length_map]; simp only [List.size_toArray] at hi; omega), getElem!_neg _ i (by simp only [List.size_toArray] at hi ⊢; omega)]
      · rw [Array.extract_eq_self_of_le (by simp [hdl]), Array.extract_eq_self_of_le (Nat.le_refl _)]
        refine (hperm.map _).trans ?_
        have : (List.finRange l0.length).map (fun i => l0[i.val]) = l0 := by
          apply List.ext_getElem (by simp)
          intro j h1 h2
          simp
        rw [this]
    · intro i j _ hij hj
      have hj' : j < l0.length := by simpa using hj
      have h7 := hs i j (Nat.zero_le _) hij hj'
      rw [getElem!_pos (d'.toList.map fun i => l0[i.val]).toArray j (by rw [List.size_toArray, List.length_map, hdl]; exact hj'), getElem!_pos (d'.toList.map fun i => l0[i.val]).toArray i (by rw [List.size_toArray, List.length_map, hdl]; omega)]
      rw [getElem!_pos d' j (by rw [hds]; exact hj'), getElem!_pos d' i (by rw [hds]; omega)] at h7
      simp only [List.getElem_toArray, List.getElem_map, Array.getElem_toList]
      exact h7
  refine ⟨rfl, ?_, hB.grown hgr hB.size (fun k hk => by injection hk with hk; omega), Kept.of_grown hgr (Kept.refl w _) (fun k hk => .inl (h0 k hk))⟩
  rw [← hsorted, ← hmap]
  refine S_perm (f := f) ?_ ?_
  · refine ⟨fun k hk => .inl (h0 k hk), d'.toList.map enc, ?_, ?_, ?_⟩
    · rw [List.length_map, hdl]
      exact hown2
    · rw [List.length_map, List.length_map]
      show _ = _ * 1
      rw [Nat.mul_one]
    · intro j p hj
      rw [List.getElem?_map] at hj
      obtain ⟨i, hi, rfl⟩ := Option.map_eq_some_iff.1 hj
      obtain ⟨v, hv, hR⟩ := hrow i
      refine ⟨v, ?_, ?_⟩
      · have hj' : j < (d'.toList.map enc).length := by rw [List.length_map]; exact (List.getElem?_eq_some_iff.1 hi).1
        show ((d'.toList.map enc).drop (j * 1)).take 1 = [v]
        rw [Nat.mul_one, List.drop_eq_getElem_cons hj', List.take_succ_cons, List.getElem_map, (List.getElem?_eq_some_iff.1 hi).2, hv]
        rfl
      · exact Kd.R_mono (Kd.R_grown hR hgr (fun k hk => by have := hk.1.2; simpa [Value.ownBlock] using this)) (fun k hk => ⟨⟨.inl hk.1.1, hk.1.2⟩, hk.2⟩)
  · rw [List.map_map]
    refine (hperm.map _).nodup_iff.2 ?_
    have : ((List.finRange l0.length).map (Prod.snd ∘ fun i => (l0[i.val], i.val))) = List.range l0.length := by
      apply List.ext_getElem (by simp)
      intro j h1 h2
      simp
    rw [this]
    exact List.nodup_range
end Go.Proofs.Ytfaeopmofgnbdaa.P
