-- Written by a program of this session (the kit's print, turned: wip/print/patch.py) out of the translation. Not trusted: Lean checks it.
import Derived.Test.YtnlmijnbfdhdkaaGreedyTightG3
namespace Go.Proofs.Ytnlmijnbfdhdkaa.P
open Go.RowKit Go.Proofs.YtnlmijnbfdhdkaaW.PrintWords Go.Proofs.YtnlmijnbfdhdkaaW.PrintLast Go.Proofs.YtnlmijnbfdhdkaaW.PrintMore
attribute [local go_sem] max2_int min2_int max_two min_two max_three min_three max_four min_four   -- for this text's walks alone
set_option linter.unusedVariables false
set_option linter.unusedSimpArgs false

/-! ### spec_l4Has: function 63 -/
mutual
def spec_l4Has.l0 : Nat → List Int → Int → Int → List (S88) → Option (Bool)
 | 0, _, _, _, _ => none
 | k + 1, x2, x7, x108000, x108001 => if x7 < (x108001.length : Int) then (if 0 ≤ x7 then ((spec_l1Has.f k x2 ((rd_T88 x108001 x7).f0)).bind fun t109 => (if t109 = true then (spec_l4Has.l0 k x2 (wrap64 (x7 + 1)) x108000 x108001) else ((spec_l1Has.f k x2 ((rd_T88 x108001 x7).f1)).bind fun t111 => (if t111 = true then (spec_l4Has.l0 k x2 (wrap64 (x7 + 1)) x108000 x108001) else (some false))))) else (none)) else (some true)
def spec_l4Has.l1 : Nat → List Int → Int → Int → List (S88) → Option (Bool)
 | 0, _, _, _, _ => none
 | k + 1, x2, x8, x108000, x108001 => if x8 < (x2.length : Int) then (spec_l4Has.l2 k x2 x8 0 x108000 x108001) else (some true)
def spec_l4Has.l2 : Nat → List Int → Int → Int → Int → List (S88) → Option (Bool)
 | 0, _, _, _, _, _ => none
 | k + 1, x2, x8, x9, x108000, x108001 => if x9 < x8 then (if 0 ≤ x8 then (if x8 < (x2.length : Int) then (if 0 ≤ x9 then (if x9 < (x2.length : Int) then ((spec_l2Near.f k x108000 x108001 (rd x2 x8) (rd x2 x9)).bind fun t114 => (if t114 = true then (spec_l4Has.l2 k x2 x8 (wrap64 (x9 + 1)) x108000 x108001) else (some false))) else (none)) else (none)) else (none)) else (none)) else (spec_l4Has.l1 k x2 (wrap64 (x8 + 1)) x108000 x108001)
def spec_l4Has.l3 : Nat → List Int → Int → Int → List (S88) → Option (Bool)
 | 0, _, _, _, _ => none
 | k + 1, x2, x10, x108000, x108001 => if x10 < x108000 then ((spec_l1Has.f k x2 x10).bind fun t115 => (spec_l4Has.l4 k x2 x10 t115 0 x108000 x108001)) else (some true)
def spec_l4Has.l4 : Nat → List Int → Int → Bool → Int → Int → List (S88) → Option (Bool)
 | 0, _, _, _, _, _, _ => none
 | k + 1, x2, x10, x11, x12, x108000, x108001 => if x12 < (x2.length : Int) then (if x11 = true then (spec_l4Has.l4 k x2 x10 true (wrap64 (x12 + 1)) x108000 x108001) else (if 0 ≤ x12 then ((spec_l2Near.f k x108000 x108001 (rd x2 x12) x10).bind fun t117 => (spec_l4Has.l4 k x2 x10 t117 (wrap64 (x12 + 1)) x108000 x108001)) else (none))) else (if x11 = true then (spec_l4Has.l3 k x2 (wrap64 (x10 + 1)) x108000 x108001) else (some false))
end
def spec_l4Has.f (k : Nat) (a0_0 : Int) (l0_1 : List (S88)) (a1 : Int) (l2 : List Int) : Option (Bool) := if a1 = 1 then (spec_l4Has.l0 k l2 0 a0_0 l0_1) else (if a1 = 2 then (spec_l4Has.l1 k l2 0 a0_0 l0_1) else (spec_l4Has.l3 k l2 0 a0_0 l0_1))
def spec_l4Has.T16 : Bool × List (List Nat × List Nat) := (true, [([], []), ([], []), ([], []), ([1, 2], [1, 2]), ([3], [3]), ([], []), ([], []), ([5, 6], [5, 6]), ([7], [7]), ([0, 4, 8], [0, 4, 8]), ([9], [9])])
def spec_l4Has.B16 : List Nat := [0, 0, 0, 6, 14, 0, 0, 96, 224, 511, 1023]
theorem spec_l4Has.tab16 : rtab .any (opsOf Try.f63 16) = spec_l4Has.T16 := by kernel_rfl
theorem spec_l4Has.bits16 : waitsOk spec_l4Has.T16.2 spec_l4Has.B16 = true := by kernel_rfl
def spec_l4Has.T26 : Bool × List (List Nat × List Nat) := (true, [([], []), ([0], [0]), ([1], [1]), ([1], [1]), ([1], [1]), ([3, 4, 1], [1, 3, 4]), ([5, 1], [1, 5]), ([1], [1]), ([2, 6, 7, 1, 1], [1, 2, 6, 7]), ([1, 8], [1, 8]), ([9, 8, 0, 1, 2, 3, 4, 5, 6, 7, 8, 9], [0, 9])])
def spec_l4Has.B26 : List Nat := [0, 1, 3, 3, 3, 27, 59, 3, 255, 511, 1023]
theorem spec_l4Has.tab26 : rtab .any (opsOf Try.f63 26) = spec_l4Has.T26 := by kernel_rfl
theorem spec_l4Has.bits26 : waitsOk spec_l4Has.T26.2 spec_l4Has.B26 = true := by kernel_rfl
set_option maxHeartbeats 8000000 in
set_option maxRecDepth 100000 in
theorem spec_l4Has.calls (k : Nat) (a0_0 : Int) (A0_1 : Option Addr) (c0_1 : Nat) (l0_1 : List (S88)) (a1 : Int) (A2 : Option Addr) (c2 : Nat) (l2 : List Int) (r : Bool) (w : World) (hr0_1 : Kd.C k88 w A0_1 l0_1.length l0_1) (hc0_1 : l0_1.length ≤ c0_1) (hr2 : Kd.C (Kd.int .i64) w A2 l2.length l2) (hc2 : l2.length ≤ c2) (h : spec_l4Has.f k a0_0 l0_1 a1 l2 = some r) :
 Calls Try.prog 63 #[.agg #[.int .i64 a0_0, .slice A0_1 l0_1.length c0_1], .int .i64 a1, .slice A2 l2.length c2] w fun e w' => e = .returned (.bool r) ∧ Below w.heap.size w w' := by
 have hu29 := Try.underlying29
 have HR0_1 := Aside0.mk hr0_1
 have HC0_1 := Aside0.mk hc0_1
 clear hr0_1 hc0_1
 have HR2 := Aside0.mk hr2
 have HC2 := Aside0.mk hc2
 clear hr2 hc2
 have HB := zM (Below.refl w.heap.size w)
 have H : (if a1 = 1 then (spec_l4Has.l0 k l2 0 a0_0 l0_1) else (if a1 = 2 then (spec_l4Has.l1 k l2 0 a0_0 l0_1) else (spec_l4Has.l3 k l2 0 a0_0 l0_1))) = some r := h
 clear h
 by_cases c4 : a1 = 1
 · rw [if_pos c4] at H
   have c4b0 : (a1 == 1) = true := beq_iff_eq.mpr c4
   have c4b1 : (a1 != 1) = false := bne_eq_false_iff_eq.mpr c4
   clear c4
   have H' := Aside0.mk H
   clear H
   go_enter Try.func63, Try.ntmps63
   go_wp2_with (first | ((with_reducible refine gate_dst (N := 3) rfl ?_); refine zb (w := w) 3 #[.int .i64 a0_0, .slice A0_1 l0_1.length c0_1] 29 zB ?_; clear HB; intro gb107 w5 HB BK107 GW107; have GE107 := GW107))
   go_loopg [7] k (fun kq v7 w' => ∃ (x7_1 : Int), v7 = .int .i64 x7_1 ∧ Aside0 (spec_l4Has.l0 kq l2 x7_1 a0_0 l0_1 = some r) ∧ Aside0 (kq ≤ k) ∧ Aside0 (w'.heap[gb107]? = some (.cells #[.int .i64 a0_0, (.slice A0_1 l0_1.length c0_1)] 29 (0, 0))) ∧ Aside0 (Below w.heap.size w w'))
   case atStart => exact ⟨(0), (by first | rfl | (simp; done) | (simp [*]; done)), H', ⟨Nat.le_refl _⟩, ⟨zK BK107.out⟩, ⟨zB⟩⟩
   case round =>
    clear H'
    try clear c2
    try clear p2
    try clear c4
    try clear c4b0
    try clear c4b1
    obtain ⟨x7_1, rfl, HA, HK1, BK107, HB⟩ := hrel
    cases gk with
    | zero => exact absurd HA.out (by simp [spec_l4Has.l0])
    | succ k1 =>
     have H := HA.out
     clear HA
     simp only [spec_l4Has.l0] at H
     by_cases c6 : x7_1 < (l0_1.length : Int)
     · rw [if_pos c6] at H
       have c6b0 := decide_eq_true c6
       clear c6
       by_cases c7 : 0 ≤ x7_1
       · rw [if_pos c7] at H
         have c7b0 := decide_eq_true c7
         clear c7
         replace H := Option.bind_eq_some_iff.mp H
         obtain ⟨t109, A80, H⟩ := H
         have A8 := Aside0.mk A80
         clear A80
         by_cases c9 : t109 = true
         · subst c9
           rw [if_pos rfl] at H
           have H' := Aside0.mk H
           clear H
           have hcz10_0 := zy BK107 0
           have hcz10_1 := zy BK107 1
           have hfz10_0 := blk_frozen BK107.out 0
           have hfz10_1 := blk_frozen BK107.out 1
           have p108 : 0 ≤ (x7_1 : Int) := of_decide_eq_true zA
           have q108 : x7_1 < (l0_1.length : Int) := of_decide_eq_true zA
           obtain ⟨ad108, e108, hx108_0, hx108_1⟩ := at_T88 HR0_1.out x7_1 p108 q108
           cases e108
           (try replace hx108_0 := (HB.out.cell (World.block_lt_of_cell? w _ hx108_0)).trans hx108_0)
           (try replace hx108_1 := (HB.out.cell (World.block_lt_of_cell? w _ hx108_1)).trans hx108_1)
           replace p108 := eq_true p108
           replace q108 := eq_true q108
           go_wp2_with (first | ((with_reducible refine gate_callee (f := 68) rfl ?_); refine zc 30 Try.func68 #[.slice A2 l2.length c2, .int .i64 ((rd_T88 l0_1 x7_1).f0)] ?_; (with_reducible refine (spec_l1Has.calls k1 _ _ l2 ((rd_T88 l0_1 x7_1).f0) true _ ?side1 ?side2 A8.out).mono ?_); (case side1 => exact zC (Kd.C_below HR2.out HB.out)); (case side2 => exact HC2.out); rintro e w' ⟨rfl, ⟨nd, rfl⟩⟩; refine ⟨_, rfl, ?_⟩))
           go_roundg k1
           case measure => have := HK1.out; omega
           case rel => exact ⟨(wrap64 (x7_1 + 1)), (by first | rfl | (simp; done) | (simp [*]; done)), H', ⟨by have := HK1.out; omega⟩, ⟨zK BK107.out⟩, ⟨zB⟩⟩
         · replace c9 := Bool.eq_false_iff.mpr c9
           subst c9
           have H1 : ((spec_l1Has.f k1 l2 ((rd_T88 l0_1 x7_1).f1)).bind fun t111 => (if t111 = true then (spec_l4Has.l0 k1 l2 (wrap64 (x7_1 + 1)) a0_0 l0_1) else (some false))) = some r := by rw [if_neg (show ¬ (false = true) by decide)] at H; exact H
           clear H
           have H := H1
           clear H1
           replace H := Option.bind_eq_some_iff.mp H
           obtain ⟨t111, A110, H⟩ := H
           have A11 := Aside0.mk A110
           clear A110
           by_cases c12 : t111 = true
           · subst c12
             rw [if_pos rfl] at H
             have H' := Aside0.mk H
             clear H
             have hcz13_0 := zy BK107 0
             have hcz13_1 := zy BK107 1
             have hfz13_0 := blk_frozen BK107.out 0
             have hfz13_1 := blk_frozen BK107.out 1
             have p108 : 0 ≤ (x7_1 : Int) := of_decide_eq_true zA
             have q108 : x7_1 < (l0_1.length : Int) := of_decide_eq_true zA
             obtain ⟨ad108, e108, hx108_0, hx108_1⟩ := at_T88 HR0_1.out x7_1 p108 q108
             cases e108
             (try replace hx108_0 := (HB.out.cell (World.block_lt_of_cell? w _ hx108_0)).trans hx108_0)
             (try replace hx108_1 := (HB.out.cell (World.block_lt_of_cell? w _ hx108_1)).trans hx108_1)
             replace p108 := eq_true p108
             replace q108 := eq_true q108
             go_wp2_with (first | ((with_reducible refine gate_callee (f := 68) rfl ?_); refine zc 30 Try.func68 #[.slice A2 l2.length c2, .int .i64 ((rd_T88 l0_1 x7_1).f0)] ?_; (with_reducible refine (spec_l1Has.calls k1 _ _ l2 ((rd_T88 l0_1 x7_1).f0) false _ ?side1 ?side2 A8.out).mono ?_); (case side1 => exact zC (Kd.C_below HR2.out HB.out)); (case side2 => exact HC2.out); rintro e w' ⟨rfl, ⟨nd, rfl⟩⟩; refine ⟨_, rfl, ?_⟩; have p110 : 0 ≤ (x7_1 : Int) := of_decide_eq_true zA; have q110 : x7_1 < (l0_1.length : Int) := of_decide_eq_true zA; obtain ⟨ad110, e110, hx110_0, hx110_1⟩ := at_T88 HR0_1.out x7_1 p110 q110; obtain rfl : ad108 = ad110 := (by injection e110); (try replace hx110_0 := (HB.out.cell (World.block_lt_of_cell? w _ hx110_0)).trans hx110_0); (try replace hx110_1 := (HB.out.cell (World.block_lt_of_cell? w _ hx110_1)).trans hx110_1); replace p110 := eq_true p110; replace q110 := eq_true q110) | (go_at_call 68; (with_reducible refine (spec_l1Has.calls k1 _ _ l2 ((rd_T88 l0_1 x7_1).f1) true _ ?side1 ?side2 A11.out).mono ?_); (case side1 => exact zC (Kd.C_below HR2.out zB)); (case side2 => exact HC2.out); rintro e w' ⟨rfl, ⟨nd, rfl⟩⟩))
             go_roundg k1
             case measure => have := HK1.out; omega
             case rel => exact ⟨(wrap64 (x7_1 + 1)), (by first | rfl | (simp; done) | (simp [*]; done)), H', ⟨by have := HK1.out; omega⟩, ⟨zK BK107.out⟩, ⟨zB⟩⟩
           · replace c12 := Bool.eq_false_iff.mpr c12
             subst c12
             have H1 : (some false) = some r := by rw [if_neg (show ¬ (false = true) by decide)] at H; exact H
             clear H
             have H := H1
             clear H1
             obtain rfl := Option.some.inj H
             have hcz14_0 := zy BK107 0
             have hcz14_1 := zy BK107 1
             have hfz14_0 := blk_frozen BK107.out 0
             have hfz14_1 := blk_frozen BK107.out 1
             have p108 : 0 ≤ (x7_1 : Int) := of_decide_eq_true zA
             have q108 : x7_1 < (l0_1.length : Int) := of_decide_eq_true zA
             obtain ⟨ad108, e108, hx108_0, hx108_1⟩ := at_T88 HR0_1.out x7_1 p108 q108
             cases e108
             (try replace hx108_0 := (HB.out.cell (World.block_lt_of_cell? w _ hx108_0)).trans hx108_0)
             (try replace hx108_1 := (HB.out.cell (World.block_lt_of_cell? w _ hx108_1)).trans hx108_1)
             replace p108 := eq_true p108
             replace q108 := eq_true q108
             go_wp2_with (first | ((with_reducible refine gate_callee (f := 68) rfl ?_); refine zc 30 Try.func68 #[.slice A2 l2.length c2, .int .i64 ((rd_T88 l0_1 x7_1).f0)] ?_; (with_reducible refine (spec_l1Has.calls k1 _ _ l2 ((rd_T88 l0_1 x7_1).f0) false _ ?side1 ?side2 A8.out).mono ?_); (case side1 => exact zC (Kd.C_below HR2.out HB.out)); (case side2 => exact HC2.out); rintro e w' ⟨rfl, ⟨nd, rfl⟩⟩; refine ⟨_, rfl, ?_⟩; have p110 : 0 ≤ (x7_1 : Int) := of_decide_eq_true zA; have q110 : x7_1 < (l0_1.length : Int) := of_decide_eq_true zA; obtain ⟨ad110, e110, hx110_0, hx110_1⟩ := at_T88 HR0_1.out x7_1 p110 q110; obtain rfl : ad108 = ad110 := (by injection e110); (try replace hx110_0 := (HB.out.cell (World.block_lt_of_cell? w _ hx110_0)).trans hx110_0); (try replace hx110_1 := (HB.out.cell (World.block_lt_of_cell? w _ hx110_1)).trans hx110_1); replace p110 := eq_true p110; replace q110 := eq_true q110) | (go_at_call 68; (with_reducible refine (spec_l1Has.calls k1 _ _ l2 ((rd_T88 l0_1 x7_1).f1) false _ ?side1 ?side2 A11.out).mono ?_); (case side1 => exact zC (Kd.C_below HR2.out zB)); (case side2 => exact HC2.out); rintro e w' ⟨rfl, ⟨nd, rfl⟩⟩))
             go_ret
             exact ⟨by first | rfl | (simp [errW_none, errW_some] <;> rfl) | (simp [*, errW_none, errW_some] <;> rfl), zB⟩
       · rw [if_neg c7] at H
         exact absurd H (by simp)
     · rw [if_neg c6] at H
       have c6b0 : decide (x7_1 < (l0_1.length : Int)) = false := decide_eq_false c6
       clear c6
       obtain rfl := Option.some.inj H
       have hcz15_0 := zy BK107 0
       have hcz15_1 := zy BK107 1
       have hfz15_0 := blk_frozen BK107.out 0
       have hfz15_1 := blk_frozen BK107.out 1
       go_wp2
       go_ret
       exact ⟨by first | rfl | (simp [errW_none, errW_some] <;> rfl) | (simp [*, errW_none, errW_some] <;> rfl), zB⟩
 · rw [if_neg c4] at H
   have c4b0 : (a1 == 1) = false := beq_eq_false_iff_ne.mpr c4
   have c4b1 : (a1 != 1) = true := bne_iff_ne.mpr c4
   by_cases c16 : a1 = 2
   · rw [if_pos c16] at H
     have c16b0 : (a1 == 2) = true := beq_iff_eq.mpr c16
     have c16b1 : (a1 != 2) = false := bne_eq_false_iff_eq.mpr c16
     clear c16
     have H' := Aside0.mk H
     clear H
     go_enter Try.func63, Try.ntmps63
     go_wp2_with (first | ((with_reducible refine gate_dst (N := 3) rfl ?_); refine zb (w := w) 3 #[.int .i64 a0_0, .slice A0_1 l0_1.length c0_1] 29 zB ?_; clear HB; intro gb107 w17 HB BK107 GW107; have GE107 := GW107))
     go_loopg [8] k (fun kq v8 w' => ∃ (x8_1 : Int), v8 = .int .i64 x8_1 ∧ Aside0 (spec_l4Has.l1 kq l2 x8_1 a0_0 l0_1 = some r) ∧ Aside0 (kq ≤ k) ∧ Aside0 (w'.heap[gb107]? = some (.cells #[.int .i64 a0_0, (.slice A0_1 l0_1.length c0_1)] 29 (0, 0))) ∧ Aside0 (Below w.heap.size w w'))
     case atStart => exact ⟨(0), (by first | rfl | (simp; done) | (simp [*]; done)), H', ⟨Nat.le_refl _⟩, ⟨zK BK107.out⟩, ⟨zB⟩⟩
     case round =>
      clear H'
      try clear c1
      try clear p1
      try clear q1
      try clear hx1
      try clear c2
      try clear p2
      try clear c4
      try clear c4b0
      try clear c4b1
      try clear c6
      try clear c6b0
      try clear p6
      try clear c7
      try clear c7b0
      try clear c9
      try clear p10
      try clear q10
      try clear hx10
      try clear p11
      try clear q11
      try clear hx11
      try clear c12
      try clear c16
      try clear c16b0
      try clear c16b1
      try clear hcz10_0
      try clear hcz10_1
      try clear hcz13_0
      try clear hcz13_1
      try clear hcz14_0
      try clear hcz14_1
      try clear hcz15_0
      try clear hcz15_1
      try clear hfz10_0
      try clear hfz10_1
      try clear hfz13_0
      try clear hfz13_1
      try clear hfz14_0
      try clear hfz14_1
      try clear hfz15_0
      try clear hfz15_1
      try clear hx108_0
      try clear hx108_1
      try clear hx110_0
      try clear hx110_1
      try clear p108
      try clear p110
      try clear p2
      try clear q108
      try clear q110
      obtain ⟨x8_1, rfl, HA, HK1, BK107, HB⟩ := hrel
      cases gk with
      | zero => exact absurd HA.out (by simp [spec_l4Has.l1])
      | succ k1 =>
       have H := HA.out
       clear HA
       simp only [spec_l4Has.l1] at H
       by_cases c18 : x8_1 < (l2.length : Int)
       · rw [if_pos c18] at H
         have c18b0 := decide_eq_true c18
         clear c18
         have H' := Aside0.mk H
         clear H
         go_wp2
         go_loopg [9] k1 (fun kq v9 w' => ∃ (x9_2 : Int), v9 = .int .i64 x9_2 ∧ Aside0 (spec_l4Has.l2 kq l2 x8_1 x9_2 a0_0 l0_1 = some r) ∧ Aside0 (kq ≤ k1) ∧ Aside0 (w'.heap[gb107]? = some (.cells #[.int .i64 a0_0, (.slice A0_1 l0_1.length c0_1)] 29 (0, 0))) ∧ Aside0 (Below w.heap.size w w'))
         case atStart => exact ⟨(0), (by first | rfl | (simp; done) | (simp [*]; done)), H', ⟨Nat.le_refl _⟩, ⟨zK BK107.out⟩, ⟨zB⟩⟩
         case round =>
          clear H'
          try clear c1
          try clear p1
          try clear q1
          try clear hx1
          try clear c2
          try clear p2
          try clear c4
          try clear c4b0
          try clear c4b1
          try clear c6
          try clear c6b0
          try clear p6
          try clear c7
          try clear c7b0
          try clear c9
          try clear p10
          try clear q10
          try clear hx10
          try clear p11
          try clear q11
          try clear hx11
          try clear c12
          try clear c16
          try clear c16b0
          try clear c16b1
          try clear c18
          try clear c18b0
          try clear hcz10_0
          try clear hcz10_1
          try clear hcz13_0
          try clear hcz13_1
          try clear hcz14_0
          try clear hcz14_1
          try clear hcz15_0
          try clear hcz15_1
          try clear hfz10_0
          try clear hfz10_1
          try clear hfz13_0
          try clear hfz13_1
          try clear hfz14_0
          try clear hfz14_1
          try clear hfz15_0
          try clear hfz15_1
          try clear hx108_0
          try clear hx108_1
          try clear hx110_0
          try clear hx110_1
          try clear p1
          try clear p10
          try clear p108
          try clear p11
          try clear p110
          try clear p2
          try clear p6
          try clear q1
          try clear q10
          try clear q108
          try clear q11
          try clear q110
          obtain ⟨x9_2, rfl, HA, HK2, BK107, HB⟩ := hrel
          cases gk with
          | zero => exact absurd HA.out (by simp [spec_l4Has.l2])
          | succ k2 =>
           have H := HA.out
           clear HA
           simp only [spec_l4Has.l2] at H
           by_cases c19 : x9_2 < x8_1
           · rw [if_pos c19] at H
             have c19b0 := decide_eq_true c19
             clear c19
             by_cases c20 : 0 ≤ x8_1
             · rw [if_pos c20] at H
               have c20b0 := decide_eq_true c20
               clear c20
               by_cases c21 : x8_1 < (l2.length : Int)
               · rw [if_pos c21] at H
                 have c21b0 := decide_eq_true c21
                 clear c21
                 by_cases c22 : 0 ≤ x9_2
                 · rw [if_pos c22] at H
                   have c22b0 := decide_eq_true c22
                   clear c22
                   by_cases c23 : x9_2 < (l2.length : Int)
                   · rw [if_pos c23] at H
                     have c23b0 := decide_eq_true c23
                     clear c23
                     replace H := Option.bind_eq_some_iff.mp H
                     obtain ⟨t114, A240, H⟩ := H
                     have A24 := Aside0.mk A240
                     clear A240
                     by_cases c25 : t114 = true
                     · subst c25
                       rw [if_pos rfl] at H
                       have H' := Aside0.mk H
                       clear H
                       try go_wp2
                       replace BK107 := zM (blk_drew BK107.out)
                       replace HB := zM (below_drew1 HB.out)
                       have p112 : 0 ≤ (x8_1 : Int) := of_decide_eq_true zA
                       have q112 : x8_1 < (l2.length : Int) := of_decide_eq_true zA
                       obtain ⟨ad112, e112, hx112_0⟩ := Kd.at_int HR2.out x8_1 p112 q112
                       have hw112_0 := hx112_0
                       cases e112
                       (try replace hx112_0 := (HB.out.cell (World.block_lt_of_cell? w _ hx112_0)).trans hx112_0)
                       replace p112 := eq_true p112
                       replace q112 := eq_true q112
                       have p113 : 0 ≤ (x9_2 : Int) := of_decide_eq_true zA
                       have q113 : x9_2 < (l2.length : Int) := of_decide_eq_true zA
                       obtain ⟨ad113, e113, hx113_0⟩ := Kd.at_int HR2.out x9_2 p113 q113
                       have hw113_0 := hx113_0
                       obtain rfl : ad112 = ad113 := (by injection e113)
                       (try replace hx113_0 := (HB.out.cell (World.block_lt_of_cell? w _ hx113_0)).trans hx113_0)
                       replace p113 := eq_true p113
                       replace q113 := eq_true q113
                       refine zs (n := 11) (fun w' => w'.cell? ⟨gb107, 0, none⟩ = some (.int .i64 a0_0) ∧ w'.cell? ⟨gb107, 1, none⟩ = some (.slice A0_1 l0_1.length c0_1) ∧ w'.cell? (ad112.add (x8_1).toNat) = some (.int .i64 (rd l2 x8_1)) ∧ w'.cell? (ad112.add (x9_2).toNat) = some (.int .i64 (rd l2 x9_2))) ⟨(blk_cell BK107.out 0).trans rfl, (blk_cell BK107.out 1).trans rfl, ((HB.out.cell (World.block_lt_of_cell? w _ hw112_0)).trans hw112_0), ((HB.out.cell (World.block_lt_of_cell? w _ hw113_0)).trans hw113_0)⟩ (fun hHeld => ?_); refine with_tabW spec_l4Has.tab16 spec_l4Has.bits16 (fun HT_ HW_ => ?_)
                       generalize wr.drew = w26 at BK107 HB hx112_0 hx113_0 hHeld ⊢
                       refine zp HT_ 1 57 ?_
                       refine zp HT_ 2 58 ?_
                       refine zp HT_ 3 59 ?_
                       refine zp HT_ 5 61 ?_
                       refine zp HT_ 6 62 ?_
                       refine zp HT_ 7 63 ?_
                       refine zt HT_ HW_ 0 56 hHeld ?_ (hy := by rintro w' ⟨s0, s1, s2, s3⟩; go_simp; with_reducible rfl)
                       refine zt HT_ HW_ 4 60 hHeld ?_ (hy := by rintro w' ⟨s0, s1, s2, s3⟩; go_simp; with_reducible rfl)
                       refine zt HT_ HW_ 8 64 hHeld ?_ (hy := by rintro w' ⟨s0, s1, s2, s3⟩; go_simp; with_reducible rfl)
                       refine zg HT_ 9 65 Try.func109 #[.agg #[.int .i64 a0_0, .slice A0_1 l0_1.length c0_1], .int .i64 (rd l2 x8_1), .int .i64 (rd l2 x9_2)] (fun K hK => ?_)
                       with_reducible refine (spec_l2Near.calls k2 a0_0 _ _ l0_1 (rd l2 x8_1) (rd l2 x9_2) true _ ?side1 ?side2 A24.out).mono ?_
                       (case side1 => exact zC (Kd.C_below HR0_1.out HB.out))
                       (case side2 => exact HC0_1.out)
                       rintro e w27 ⟨rfl, hb⟩
                       refine ⟨_, rfl, ?_⟩
                       replace BK107 := zM (blk_below (g := gb107) (o := .cells #[.int .i64 a0_0, .slice A0_1 l0_1.length c0_1] 29 (0, 0)) (zK BK107.out) hb)
                       replace HB := zM (below_step zB hb)
                       (try clear hb)
                       (try clear hb2)
                       (try clear hk)
                       (try clear hi)
                       refine hK.out _ _ ⟨(blk_cell BK107.out 0).trans rfl, (blk_cell BK107.out 1).trans rfl, ((HB.out.cell (World.block_lt_of_cell? w _ hw112_0)).trans hw112_0), ((HB.out.cell (World.block_lt_of_cell? w _ hw113_0)).trans hw113_0)⟩ (fun hHeld => ?_)
                       clear hK K
                       refine zn 65 ?_
                       refine zp HT_ 10 66 ?_
                       refine zo HT_ ?_
                       try go_wp2
                       go_roundg k2
                       case measure => have := HK1.out; have := HK2.out; omega
                       case rel => exact ⟨(wrap64 (x9_2 + 1)), (by first | rfl | (simp; done) | (simp [*]; done)), H', ⟨by have := HK1.out; have := HK2.out; omega⟩, ⟨zK BK107.out⟩, ⟨zB⟩⟩
                     · replace c25 := Bool.eq_false_iff.mpr c25
                       subst c25
                       have H1 : (some false) = some r := by rw [if_neg (show ¬ (false = true) by decide)] at H; exact H
                       clear H
                       have H := H1
                       clear H1
                       obtain rfl := Option.some.inj H
                       try go_wp2
                       replace BK107 := zM (blk_drew BK107.out)
                       replace HB := zM (below_drew1 HB.out)
                       have p112 : 0 ≤ (x8_1 : Int) := of_decide_eq_true zA
                       have q112 : x8_1 < (l2.length : Int) := of_decide_eq_true zA
                       obtain ⟨ad112, e112, hx112_0⟩ := Kd.at_int HR2.out x8_1 p112 q112
                       have hw112_0 := hx112_0
                       cases e112
                       (try replace hx112_0 := (HB.out.cell (World.block_lt_of_cell? w _ hx112_0)).trans hx112_0)
                       replace p112 := eq_true p112
                       replace q112 := eq_true q112
                       have p113 : 0 ≤ (x9_2 : Int) := of_decide_eq_true zA
                       have q113 : x9_2 < (l2.length : Int) := of_decide_eq_true zA
                       obtain ⟨ad113, e113, hx113_0⟩ := Kd.at_int HR2.out x9_2 p113 q113
                       have hw113_0 := hx113_0
                       obtain rfl : ad112 = ad113 := (by injection e113)
                       (try replace hx113_0 := (HB.out.cell (World.block_lt_of_cell? w _ hx113_0)).trans hx113_0)
                       replace p113 := eq_true p113
                       replace q113 := eq_true q113
                       refine zs (n := 11) (fun w' => w'.cell? ⟨gb107, 0, none⟩ = some (.int .i64 a0_0) ∧ w'.cell? ⟨gb107, 1, none⟩ = some (.slice A0_1 l0_1.length c0_1) ∧ w'.cell? (ad112.add (x8_1).toNat) = some (.int .i64 (rd l2 x8_1)) ∧ w'.cell? (ad112.add (x9_2).toNat) = some (.int .i64 (rd l2 x9_2))) ⟨(blk_cell BK107.out 0).trans rfl, (blk_cell BK107.out 1).trans rfl, ((HB.out.cell (World.block_lt_of_cell? w _ hw112_0)).trans hw112_0), ((HB.out.cell (World.block_lt_of_cell? w _ hw113_0)).trans hw113_0)⟩ (fun hHeld => ?_); refine with_tabW spec_l4Has.tab16 spec_l4Has.bits16 (fun HT_ HW_ => ?_)
                       generalize wr.drew = w28 at BK107 HB hx112_0 hx113_0 hHeld ⊢
                       refine zp HT_ 1 57 ?_
                       refine zp HT_ 2 58 ?_
                       refine zp HT_ 3 59 ?_
                       refine zp HT_ 5 61 ?_
                       refine zp HT_ 6 62 ?_
                       refine zp HT_ 7 63 ?_
                       refine zt HT_ HW_ 0 56 hHeld ?_ (hy := by rintro w' ⟨s0, s1, s2, s3⟩; go_simp; with_reducible rfl)
                       refine zt HT_ HW_ 4 60 hHeld ?_ (hy := by rintro w' ⟨s0, s1, s2, s3⟩; go_simp; with_reducible rfl)
                       refine zt HT_ HW_ 8 64 hHeld ?_ (hy := by rintro w' ⟨s0, s1, s2, s3⟩; go_simp; with_reducible rfl)
                       refine zg HT_ 9 65 Try.func109 #[.agg #[.int .i64 a0_0, .slice A0_1 l0_1.length c0_1], .int .i64 (rd l2 x8_1), .int .i64 (rd l2 x9_2)] (fun K hK => ?_)
                       with_reducible refine (spec_l2Near.calls k2 a0_0 _ _ l0_1 (rd l2 x8_1) (rd l2 x9_2) false _ ?side1 ?side2 A24.out).mono ?_
                       (case side1 => exact zC (Kd.C_below HR0_1.out HB.out))
                       (case side2 => exact HC0_1.out)
                       rintro e w29 ⟨rfl, hb⟩
                       refine ⟨_, rfl, ?_⟩
                       replace BK107 := zM (blk_below (g := gb107) (o := .cells #[.int .i64 a0_0, .slice A0_1 l0_1.length c0_1] 29 (0, 0)) (zK BK107.out) hb)
                       replace HB := zM (below_step zB hb)
                       (try clear hb)
                       (try clear hb2)
                       (try clear hk)
                       (try clear hi)
                       refine hK.out _ _ ⟨(blk_cell BK107.out 0).trans rfl, (blk_cell BK107.out 1).trans rfl, ((HB.out.cell (World.block_lt_of_cell? w _ hw112_0)).trans hw112_0), ((HB.out.cell (World.block_lt_of_cell? w _ hw113_0)).trans hw113_0)⟩ (fun hHeld => ?_)
                       clear hK K
                       refine zn 65 ?_
                       refine zp HT_ 10 66 ?_
                       refine zo HT_ ?_
                       try go_wp2
                       go_ret
                       exact ⟨by first | rfl | (simp [errW_none, errW_some] <;> rfl) | (simp [*, errW_none, errW_some] <;> rfl), zB⟩
                   · rw [if_neg c23] at H
                     exact absurd H (by simp)
                 · rw [if_neg c22] at H
                   exact absurd H (by simp)
               · rw [if_neg c21] at H
                 exact absurd H (by simp)
             · rw [if_neg c20] at H
               exact absurd H (by simp)
           · rw [if_neg c19] at H
             have c19b0 : decide (x9_2 < x8_1) = false := decide_eq_false c19
             clear c19
             have H' := Aside0.mk H
             clear H
             go_wp2
             go_roundg k2
             case measure => have := HK1.out; have := HK2.out; omega
             case rel => exact ⟨(wrap64 (x8_1 + 1)), (by first | rfl | (simp; done) | (simp [*]; done)), H', ⟨by have := HK1.out; have := HK2.out; omega⟩, ⟨zK BK107.out⟩, ⟨zB⟩⟩
       · rw [if_neg c18] at H
         have c18b0 : decide (x8_1 < (l2.length : Int)) = false := decide_eq_false c18
         clear c18
         obtain rfl := Option.some.inj H
         go_wp2
         go_ret
         exact ⟨by first | rfl | (simp [errW_none, errW_some] <;> rfl) | (simp [*, errW_none, errW_some] <;> rfl), zB⟩
   · rw [if_neg c16] at H
     have c16b0 : (a1 == 2) = false := beq_eq_false_iff_ne.mpr c16
     have c16b1 : (a1 != 2) = true := bne_iff_ne.mpr c16
     have H' := Aside0.mk H
     clear H
     go_enter Try.func63, Try.ntmps63
     go_wp2_with (first | ((with_reducible refine gate_dst (N := 3) rfl ?_); refine zb (w := w) 3 #[.int .i64 a0_0, .slice A0_1 l0_1.length c0_1] 29 zB ?_; clear HB; intro gb107 w30 HB BK107 GW107; have GE107 := GW107))
     go_loopg [10] k (fun kq v10 w' => ∃ (x10_1 : Int), v10 = .int .i64 x10_1 ∧ Aside0 (spec_l4Has.l3 kq l2 x10_1 a0_0 l0_1 = some r) ∧ Aside0 (kq ≤ k) ∧ Aside0 (w'.heap[gb107]? = some (.cells #[.int .i64 a0_0, (.slice A0_1 l0_1.length c0_1)] 29 (0, 0))) ∧ Aside0 (Below w.heap.size w w'))
     case atStart => exact ⟨(0), (by first | rfl | (simp; done) | (simp [*]; done)), H', ⟨Nat.le_refl _⟩, ⟨zK BK107.out⟩, ⟨zB⟩⟩
     case round =>
      clear H'
      try clear c1
      try clear p1
      try clear q1
      try clear hx1
      try clear c2
      try clear p2
      try clear c4
      try clear c4b0
      try clear c4b1
      try clear c6
      try clear c6b0
      try clear p6
      try clear c7
      try clear c7b0
      try clear c9
      try clear c10
      try clear p10
      try clear q10
      try clear hx10
      try clear p11
      try clear q11
      try clear hx11
      try clear c12
      try clear c16
      try clear c16b0
      try clear c16b1
      try clear c18
      try clear c18b0
      try clear c19
      try clear c19b0
      try clear c20
      try clear c20b0
      try clear c21
      try clear c21b0
      try clear c22
      try clear c22b0
      try clear c23
      try clear c23b0
      try clear c25
      try clear hcz10_0
      try clear hcz10_1
      try clear hcz13_0
      try clear hcz13_1
      try clear hcz14_0
      try clear hcz14_1
      try clear hcz15_0
      try clear hcz15_1
      try clear hfz10_0
      try clear hfz10_1
      try clear hfz13_0
      try clear hfz13_1
      try clear hfz14_0
      try clear hfz14_1
      try clear hfz15_0
      try clear hfz15_1
      try clear hx108_0
      try clear hx108_1
      try clear hx110_0
      try clear hx110_1
      try clear hx112_0
      try clear hx113_0
      try clear p1
      try clear p10
      try clear p108
      try clear p11
      try clear p110
      try clear p112
      try clear p113
      try clear p2
      try clear p6
      try clear q1
      try clear q10
      try clear q108
      try clear q11
      try clear q110
      try clear q112
      try clear q113
      obtain ⟨x10_1, rfl, HA, HK1, BK107, HB⟩ := hrel
      cases gk with
      | zero => exact absurd HA.out (by simp [spec_l4Has.l3])
      | succ k1 =>
       have H := HA.out
       clear HA
       simp only [spec_l4Has.l3] at H
       by_cases c31 : x10_1 < a0_0
       · rw [if_pos c31] at H
         have c31b0 := decide_eq_true c31
         clear c31
         replace H := Option.bind_eq_some_iff.mp H
         obtain ⟨t115, A320, H⟩ := H
         have A32 := Aside0.mk A320
         clear A320
         have H' := Aside0.mk H
         clear H
         have hcz33_0 := zy BK107 0
         have hcz33_1 := zy BK107 1
         have hfz33_0 := blk_frozen BK107.out 0
         have hfz33_1 := blk_frozen BK107.out 1
         go_wp2_with (first | ((with_reducible refine gate_callee (f := 68) rfl ?_); refine zc 75 Try.func68 #[.slice A2 l2.length c2, .int .i64 x10_1] ?_; (with_reducible refine (spec_l1Has.calls k1 _ _ l2 x10_1 t115 _ ?side1 ?side2 A32.out).mono ?_); (case side1 => exact zC (Kd.C_below HR2.out HB.out)); (case side2 => exact HC2.out); rintro e w' ⟨rfl, ⟨nd, rfl⟩⟩; refine ⟨_, rfl, ?_⟩))
         go_loopg [11, 12] k1 (fun kq v11 v12 w' => ∃ (x11_2 : Bool) (x12_2 : Int), v11 = .bool x11_2 ∧ v12 = .int .i64 x12_2 ∧ Aside0 (spec_l4Has.l4 kq l2 x10_1 x11_2 x12_2 a0_0 l0_1 = some r) ∧ Aside0 (kq ≤ k1) ∧ Aside0 (w'.heap[gb107]? = some (.cells #[.int .i64 a0_0, (.slice A0_1 l0_1.length c0_1)] 29 (0, 0))) ∧ Aside0 (Below w.heap.size w w'))
         case atStart => exact ⟨(t115), (0), (by first | rfl | (simp; done) | (simp [*]; done)), (by first | rfl | (simp; done) | (simp [*]; done)), H', ⟨Nat.le_refl _⟩, ⟨zK BK107.out⟩, ⟨zB⟩⟩
         case round =>
          clear H'
          try clear c1
          try clear p1
          try clear q1
          try clear hx1
          try clear c2
          try clear p2
          try clear c3
          try clear c4
          try clear c4b0
          try clear c4b1
          try clear c6
          try clear c6b0
          try clear p6
          try clear c7
          try clear c7b0
          try clear c9
          try clear c10
          try clear p10
          try clear q10
          try clear hx10
          try clear p11
          try clear q11
          try clear hx11
          try clear c12
          try clear c16
          try clear c16b0
          try clear c16b1
          try clear c18
          try clear c18b0
          try clear c19
          try clear c19b0
          try clear c20
          try clear c20b0
          try clear c21
          try clear c21b0
          try clear c22
          try clear c22b0
          try clear c23
          try clear c23b0
          try clear c25
          try clear c31
          try clear c31b0
          try clear hcz10_0
          try clear hcz10_1
          try clear hcz13_0
          try clear hcz13_1
          try clear hcz14_0
          try clear hcz14_1
          try clear hcz15_0
          try clear hcz15_1
          try clear hcz33_0
          try clear hcz33_1
          try clear hfz10_0
          try clear hfz10_1
          try clear hfz13_0
          try clear hfz13_1
          try clear hfz14_0
          try clear hfz14_1
          try clear hfz15_0
          try clear hfz15_1
          try clear hfz33_0
          try clear hfz33_1
          try clear hx108_0
          try clear hx108_1
          try clear hx110_0
          try clear hx110_1
          try clear hx112_0
          try clear hx113_0
          try clear p1
          try clear p10
          try clear p108
          try clear p11
          try clear p110
          try clear p112
          try clear p113
          try clear p2
          try clear p6
          try clear q1
          try clear q10
          try clear q108
          try clear q11
          try clear q110
          try clear q112
          try clear q113
          obtain ⟨x11_2, x12_2, rfl, rfl, HA, HK2, BK107, HB⟩ := hrel
          cases gk with
          | zero => exact absurd HA.out (by simp [spec_l4Has.l4])
          | succ k2 =>
           have H := HA.out
           clear HA
           simp only [spec_l4Has.l4] at H
           by_cases c34 : x12_2 < (l2.length : Int)
           · rw [if_pos c34] at H
             have c34b0 := decide_eq_true c34
             clear c34
             by_cases c35 : x11_2 = true
             · subst c35
               rw [if_pos rfl] at H
               have H' := Aside0.mk H
               clear H
               try go_wp2
               replace BK107 := zM (blk_drew BK107.out)
               replace HB := zM (below_drew1 HB.out)
               refine zs (n := 11) (fun w' => True) trivial (fun hHeld => ?_); refine with_tabW spec_l4Has.tab26 spec_l4Has.bits26 (fun HT_ HW_ => ?_)
               generalize wr.drew = w36 at BK107 HB hHeld ⊢
               refine zp HT_ 0 82 ?_
               refine zp HT_ 1 83 ?_
               refine zu HT_ 2 84 ?_
               refine zu HT_ 3 85 ?_
               refine zu HT_ 4 86 ?_
               refine zu HT_ 5 87 ?_
               refine zu HT_ 6 88 ?_
               refine zu HT_ 7 89 ?_
               refine zu HT_ 8 90 ?_
               refine zp HT_ 9 91 ?_
               refine zp HT_ 10 11 ?_
               refine zo HT_ ?_
               try go_wp2
               go_roundg k2
               case measure => have := HK1.out; have := HK2.out; omega
               case rel => exact ⟨(true), (wrap64 (x12_2 + 1)), (by first | rfl | (simp; done) | (simp [*]; done)), (by first | rfl | (simp; done) | (simp [*]; done)), H', ⟨by have := HK1.out; have := HK2.out; omega⟩, ⟨zK BK107.out⟩, ⟨zB⟩⟩
             · replace c35 := Bool.eq_false_iff.mpr c35
               subst c35
               have H1 : (if 0 ≤ x12_2 then ((spec_l2Near.f k2 a0_0 l0_1 (rd l2 x12_2) x10_1).bind fun t117 => (spec_l4Has.l4 k2 l2 x10_1 t117 (wrap64 (x12_2 + 1)) a0_0 l0_1)) else (none)) = some r := by rw [if_neg (show ¬ (false = true) by decide)] at H; exact H
               clear H
               have H := H1
               clear H1
               by_cases c37 : 0 ≤ x12_2
               · rw [if_pos c37] at H
                 have c37b0 := decide_eq_true c37
                 clear c37
                 replace H := Option.bind_eq_some_iff.mp H
                 obtain ⟨t117, A380, H⟩ := H
                 have A38 := Aside0.mk A380
                 clear A380
                 have H' := Aside0.mk H
                 clear H
                 try go_wp2
                 replace BK107 := zM (blk_drew BK107.out)
                 replace HB := zM (below_drew1 HB.out)
                 have p116 : 0 ≤ (x12_2 : Int) := of_decide_eq_true zA
                 have q116 : x12_2 < (l2.length : Int) := of_decide_eq_true zA
                 obtain ⟨ad116, e116, hx116_0⟩ := Kd.at_int HR2.out x12_2 p116 q116
                 have hw116_0 := hx116_0
                 cases e116
                 (try replace hx116_0 := (HB.out.cell (World.block_lt_of_cell? w _ hx116_0)).trans hx116_0)
                 replace p116 := eq_true p116
                 replace q116 := eq_true q116
                 refine zs (n := 11) (fun w' => w'.cell? ⟨gb107, 0, none⟩ = some (.int .i64 a0_0) ∧ w'.cell? ⟨gb107, 1, none⟩ = some (.slice A0_1 l0_1.length c0_1) ∧ w'.cell? (ad116.add (x12_2).toNat) = some (.int .i64 (rd l2 x12_2))) ⟨(blk_cell BK107.out 0).trans rfl, (blk_cell BK107.out 1).trans rfl, ((HB.out.cell (World.block_lt_of_cell? w _ hw116_0)).trans hw116_0)⟩ (fun hHeld => ?_); refine with_tabW spec_l4Has.tab26 spec_l4Has.bits26 (fun HT_ HW_ => ?_)
                 generalize wr.drew = w39 at BK107 HB hx116_0 hHeld ⊢
                 refine zp HT_ 0 82 ?_
                 refine zp HT_ 1 83 ?_
                 refine zp HT_ 3 85 ?_
                 refine zp HT_ 4 86 ?_
                 refine zp HT_ 5 87 ?_
                 refine zp HT_ 7 89 ?_
                 refine zt HT_ HW_ 2 84 hHeld ?_ (hy := by rintro w' ⟨s0, s1, s2⟩; go_simp; with_reducible rfl)
                 refine zt HT_ HW_ 6 88 hHeld ?_ (hy := by rintro w' ⟨s0, s1, s2⟩; go_simp; with_reducible rfl)
                 refine zg HT_ 8 90 Try.func109 #[.agg #[.int .i64 a0_0, .slice A0_1 l0_1.length c0_1], .int .i64 (rd l2 x12_2), .int .i64 x10_1] (fun K hK => ?_)
                 with_reducible refine (spec_l2Near.calls k2 a0_0 _ _ l0_1 (rd l2 x12_2) x10_1 t117 _ ?side1 ?side2 A38.out).mono ?_
                 (case side1 => exact zC (Kd.C_below HR0_1.out HB.out))
                 (case side2 => exact HC0_1.out)
                 rintro e w40 ⟨rfl, hb⟩
                 refine ⟨_, rfl, ?_⟩
                 replace BK107 := zM (blk_below (g := gb107) (o := .cells #[.int .i64 a0_0, .slice A0_1 l0_1.length c0_1] 29 (0, 0)) (zK BK107.out) hb)
                 replace HB := zM (below_step zB hb)
                 (try clear hb)
                 (try clear hb2)
                 (try clear hk)
                 (try clear hi)
                 refine hK.out _ _ ⟨(blk_cell BK107.out 0).trans rfl, (blk_cell BK107.out 1).trans rfl, ((HB.out.cell (World.block_lt_of_cell? w _ hw116_0)).trans hw116_0)⟩ (fun hHeld => ?_)
                 clear hK K
                 refine zn 90 ?_
                 refine zp HT_ 9 91 ?_
                 refine zp HT_ 10 11 ?_
                 refine zo HT_ ?_
                 try go_wp2
                 go_roundg k2
                 case measure => have := HK1.out; have := HK2.out; omega
                 case rel => exact ⟨(t117), (wrap64 (x12_2 + 1)), (by first | rfl | (simp; done) | (simp [*]; done)), (by first | rfl | (simp; done) | (simp [*]; done)), H', ⟨by have := HK1.out; have := HK2.out; omega⟩, ⟨zK BK107.out⟩, ⟨zB⟩⟩
               · rw [if_neg c37] at H
                 exact absurd H (by simp)
           · rw [if_neg c34] at H
             have c34b0 : decide (x12_2 < (l2.length : Int)) = false := decide_eq_false c34
             clear c34
             by_cases c41 : x11_2 = true
             · subst c41
               rw [if_pos rfl] at H
               have H' := Aside0.mk H
               clear H
               go_wp2
               go_roundg k2
               case measure => have := HK1.out; have := HK2.out; omega
               case rel => exact ⟨(wrap64 (x10_1 + 1)), (by first | rfl | (simp; done) | (simp [*]; done)), H', ⟨by have := HK1.out; have := HK2.out; omega⟩, ⟨zK BK107.out⟩, ⟨zB⟩⟩
             · replace c41 := Bool.eq_false_iff.mpr c41
               subst c41
               have H1 : (some false) = some r := by rw [if_neg (show ¬ (false = true) by decide)] at H; exact H
               clear H
               have H := H1
               clear H1
               obtain rfl := Option.some.inj H
               go_wp2
               go_ret
               exact ⟨by first | rfl | (simp [errW_none, errW_some] <;> rfl) | (simp [*, errW_none, errW_some] <;> rfl), zB⟩
       · rw [if_neg c31] at H
         have c31b0 : decide (x10_1 < a0_0) = false := decide_eq_false c31
         clear c31
         obtain rfl := Option.some.inj H
         have hcz42_0 := zy BK107 0
         have hcz42_1 := zy BK107 1
         have hfz42_0 := blk_frozen BK107.out 0
         have hfz42_1 := blk_frozen BK107.out 1
         go_wp2
         go_ret
         exact ⟨by first | rfl | (simp [errW_none, errW_some] <;> rfl) | (simp [*, errW_none, errW_some] <;> rfl), zB⟩

end Go.Proofs.Ytnlmijnbfdhdkaa.P
namespace Go.Proofs.Ytnlmijnbfdhdkaa.P
open Go.RowKit Go.Proofs.YtnlmijnbfdhdkaaW.PrintWords Go.Proofs.YtnlmijnbfdhdkaaW.PrintLast Go.Proofs.YtnlmijnbfdhdkaaW.PrintMore
attribute [local go_sem] max2_int min2_int max_two min_two max_three min_three max_four min_four   -- for this text's walks alone
set_option linter.unusedVariables false
set_option linter.unusedSimpArgs false

/-! ### spec_l1In: function 125 -/
def spec_l1In.f (a0 : Int) (a1 : Int) (a2 : Int) : Option (Bool) := if a0 ≥ a1 then (some (decide (a0 ≤ a2))) else (some false)
set_option maxHeartbeats 8000000 in
set_option maxRecDepth 100000 in
theorem spec_l1In.calls (a0 : Int) (a1 : Int) (a2 : Int) (r : Bool) (w : World) (h : spec_l1In.f a0 a1 a2 = some r) :
 Calls Try.prog 125 #[.int .i64 a0, .int .i64 a1, .int .i64 a2] w fun e w' => e = .returned (.bool r) ∧ Drawn0 w w' := by
 have H : (if a0 ≥ a1 then (some (decide (a0 ≤ a2))) else (some false)) = some r := h
 clear h
 by_cases c4 : a0 ≥ a1
 · rw [if_pos c4] at H
   have c4b0 : decide (a1 ≤ a0) = true := decide_eq_true c4
   clear c4
   obtain rfl := Option.some.inj H
   go_enter Try.func125, Try.ntmps125
   go_wp2
   go_ret
   exact ⟨by first | rfl | (simp; done) | (simp [*]; done), by repeat (first | exact Drawn0.refl _ | apply Drawn0.step)⟩
 · rw [if_neg c4] at H
   have c4b0 : decide (a1 ≤ a0) = false := decide_eq_false c4
   clear c4
   obtain rfl := Option.some.inj H
   go_enter Try.func125, Try.ntmps125
   go_wp2
   go_ret
   exact ⟨by first | rfl | (simp; done) | (simp [*]; done), by repeat (first | exact Drawn0.refl _ | apply Drawn0.step)⟩

/-! ### spec_l2Edge: function 145 -/
def spec_l2Edge.f (a0_0 : Int) (a0_1 : Int) (a1_0 : Int) (a1_1 : Int) : Option (Bool) := if a0_0 < a1_0 then (some true) else (if a0_0 = a1_0 then (some (decide (a0_1 < a1_1))) else (some false))
set_option maxHeartbeats 8000000 in
set_option maxRecDepth 100000 in
theorem spec_l2Edge.calls (a0_0 : Int) (a0_1 : Int) (a1_0 : Int) (a1_1 : Int) (r : Bool) (w : World) (h : spec_l2Edge.f a0_0 a0_1 a1_0 a1_1 = some r) :
 Calls Try.prog 145 #[.agg #[.int .i64 a0_0, .int .i64 a0_1], .agg #[.int .i64 a1_0, .int .i64 a1_1]] w fun e w' => e = .returned (.bool r) ∧ Below w.heap.size w w' := by
 have hu88 := Try.underlying88
 have HB := zM (Below.refl w.heap.size w)
 have H : (if a0_0 < a1_0 then (some true) else (if a0_0 = a1_0 then (some (decide (a0_1 < a1_1))) else (some false))) = some r := h
 clear h
 by_cases c3 : a0_0 < a1_0
 · rw [if_pos c3] at H
   have c3b0 := decide_eq_true c3
   clear c3
   obtain rfl := Option.some.inj H
   go_enter Try.func145, Try.ntmps145
   go_wp2_with (first | ((with_reducible refine gate_dst (N := 2) rfl ?_); refine zb (w := w) 2 #[.int .i64 a0_0, .int .i64 a0_1] 88 zB ?_; clear HB; intro gb118 w4 HB BK118 GW118; have GE118 := GW118) | ((with_reducible refine gate_dst (N := 3) rfl ?_); refine ze 3 #[.int .i64 a1_0, .int .i64 a1_1] 88 ?_; intro gb119 hg w5 hbox hb; have BK119 := zM (hbox); have GW119 := zM ((by rw [hg]; exact (below_size zB) : w.heap.size ≤ gb119)); have GE119 := zM ((by rw [hg]; exact (below_size zB) : w.heap.size ≤ gb119)); replace HB := zM (below_step zB hb); have NB118_119 := zM ((by rw [hg]; exact Nat.ne_of_lt (blk_lt (g := gb118) (o := .cells #[.int .i64 a0_0, .int .i64 a0_1] 88 (0, 0)) (zK BK118.out)) : gb118 ≠ gb119)); have NB119_118 := zM ((by rw [hg]; exact Nat.ne_of_gt (blk_lt (g := gb118) (o := .cells #[.int .i64 a0_0, .int .i64 a0_1] 88 (0, 0)) (zK BK118.out)) : gb119 ≠ gb118)); replace BK118 := zM (blk_below (g := gb118) (o := .cells #[.int .i64 a0_0, .int .i64 a0_1] 88 (0, 0)) (zK BK118.out) hb); clear hb hbox hg; have hnb6 := NB118_119.out; have hnc6 := NB119_118.out; have hcz7_0 := zy BK118 0; have hcz7_1 := zy BK118 1; have hfz7_0 := blk_frozen BK118.out 0; have hfz7_1 := blk_frozen BK118.out 1; have hcz8_0 := zy BK119 0; have hcz8_1 := zy BK119 1; have hfz8_0 := blk_frozen BK119.out 0; have hfz8_1 := blk_frozen BK119.out 1))
   go_ret
   exact ⟨by first | rfl | (simp [errW_none, errW_some] <;> rfl) | (simp [*, errW_none, errW_some] <;> rfl), zB⟩
 · rw [if_neg c3] at H
   have c3b0 : decide (a0_0 < a1_0) = false := decide_eq_false c3
   clear c3
   by_cases c9 : a0_0 = a1_0
   · rw [if_pos c9] at H
     have c9b0 : (a0_0 == a1_0) = true := beq_iff_eq.mpr c9
     have c9b1 : (a0_0 != a1_0) = false := bne_eq_false_iff_eq.mpr c9
     clear c9
     obtain rfl := Option.some.inj H
     go_enter Try.func145, Try.ntmps145
     go_wp2_with (first | ((with_reducible refine gate_dst (N := 2) rfl ?_); refine zb (w := w) 2 #[.int .i64 a0_0, .int .i64 a0_1] 88 zB ?_; clear HB; intro gb118 w10 HB BK118 GW118; have GE118 := GW118) | ((with_reducible refine gate_dst (N := 3) rfl ?_); refine ze 3 #[.int .i64 a1_0, .int .i64 a1_1] 88 ?_; intro gb119 hg w11 hbox hb; have BK119 := zM (hbox); have GW119 := zM ((by rw [hg]; exact (below_size zB) : w.heap.size ≤ gb119)); have GE119 := zM ((by rw [hg]; exact (below_size zB) : w.heap.size ≤ gb119)); replace HB := zM (below_step zB hb); have NB118_119 := zM ((by rw [hg]; exact Nat.ne_of_lt (blk_lt (g := gb118) (o := .cells #[.int .i64 a0_0, .int .i64 a0_1] 88 (0, 0)) (zK BK118.out)) : gb118 ≠ gb119)); have NB119_118 := zM ((by rw [hg]; exact Nat.ne_of_gt (blk_lt (g := gb118) (o := .cells #[.int .i64 a0_0, .int .i64 a0_1] 88 (0, 0)) (zK BK118.out)) : gb119 ≠ gb118)); replace BK118 := zM (blk_below (g := gb118) (o := .cells #[.int .i64 a0_0, .int .i64 a0_1] 88 (0, 0)) (zK BK118.out) hb); clear hb hbox hg; have hnb12 := NB118_119.out; have hnc12 := NB119_118.out; have hcz13_0 := zy BK118 0; have hcz13_1 := zy BK118 1; have hfz13_0 := blk_frozen BK118.out 0; have hfz13_1 := blk_frozen BK118.out 1; have hcz14_0 := zy BK119 0; have hcz14_1 := zy BK119 1; have hfz14_0 := blk_frozen BK119.out 0; have hfz14_1 := blk_frozen BK119.out 1))
     go_ret
     exact ⟨by first | rfl | (simp [errW_none, errW_some] <;> rfl) | (simp [*, errW_none, errW_some] <;> rfl), zB⟩
   · rw [if_neg c9] at H
     have c9b0 : (a0_0 == a1_0) = false := beq_eq_false_iff_ne.mpr c9
     have c9b1 : (a0_0 != a1_0) = true := bne_iff_ne.mpr c9
     obtain rfl := Option.some.inj H
     go_enter Try.func145, Try.ntmps145
     go_wp2_with (first | ((with_reducible refine gate_dst (N := 2) rfl ?_); refine zb (w := w) 2 #[.int .i64 a0_0, .int .i64 a0_1] 88 zB ?_; clear HB; intro gb118 w15 HB BK118 GW118; have GE118 := GW118) | ((with_reducible refine gate_dst (N := 3) rfl ?_); refine ze 3 #[.int .i64 a1_0, .int .i64 a1_1] 88 ?_; intro gb119 hg w16 hbox hb; have BK119 := zM (hbox); have GW119 := zM ((by rw [hg]; exact (below_size zB) : w.heap.size ≤ gb119)); have GE119 := zM ((by rw [hg]; exact (below_size zB) : w.heap.size ≤ gb119)); replace HB := zM (below_step zB hb); have NB118_119 := zM ((by rw [hg]; exact Nat.ne_of_lt (blk_lt (g := gb118) (o := .cells #[.int .i64 a0_0, .int .i64 a0_1] 88 (0, 0)) (zK BK118.out)) : gb118 ≠ gb119)); have NB119_118 := zM ((by rw [hg]; exact Nat.ne_of_gt (blk_lt (g := gb118) (o := .cells #[.int .i64 a0_0, .int .i64 a0_1] 88 (0, 0)) (zK BK118.out)) : gb119 ≠ gb118)); replace BK118 := zM (blk_below (g := gb118) (o := .cells #[.int .i64 a0_0, .int .i64 a0_1] 88 (0, 0)) (zK BK118.out) hb); clear hb hbox hg; have hnb17 := NB118_119.out; have hnc17 := NB119_118.out; have hcz18_0 := zy BK118 0; have hcz18_1 := zy BK118 1; have hfz18_0 := blk_frozen BK118.out 0; have hfz18_1 := blk_frozen BK118.out 1; have hcz19_0 := zy BK119 0; have hcz19_1 := zy BK119 1; have hfz19_0 := blk_frozen BK119.out 0; have hfz19_1 := blk_frozen BK119.out 1))
     go_ret
     exact ⟨by first | rfl | (simp [errW_none, errW_some] <;> rfl) | (simp [*, errW_none, errW_some] <;> rfl), zB⟩

end Go.Proofs.Ytnlmijnbfdhdkaa.P
