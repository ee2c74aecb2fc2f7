-- Written by a program of this session (the kit's print, turned: wip/print/patch.py) out of the translation. Not trusted: Lean checks it.
import Derived.Test.YtfaeopmofgnbdaaWideNumberG5
import Derived.Test.YtfaeopmofgnbdaaWideNumberG10
namespace Go.Proofs.Ytfaeopmofgnbdaa.P
open Go.RowKit Go.Proofs.YtfaeopmofgnbdaaW.PrintWords Go.Proofs.YtfaeopmofgnbdaaW.PrintLast Go.Proofs.YtfaeopmofgnbdaaW.PrintMore
attribute [local go_sem] max2_int min2_int max_two min_two max_three min_three max_four min_four   -- for this text's walks alone
set_option linter.unusedVariables false
set_option linter.unusedSimpArgs false

/-! ### spec_l4Has: function 37 -/
mutual
def spec_l4Has.l0 : Nat → List Int → Int → Int → List (S48) → Option (Bool)
 | 0, _, _, _, _ => none
 | k + 1, x2, x7, x252000, x252001 => if x7 < (x252001.length : Int) then (if 0 ≤ x7 then ((spec_l1Has.f k x2 ((rd_T48 x252001 x7).f0)).bind fun t253 => (if t253 = true then (spec_l4Has.l0 k x2 (wrap64 (x7 + 1)) x252000 x252001) else ((spec_l1Has.f k x2 ((rd_T48 x252001 x7).f1)).bind fun t255 => (if t255 = true then (spec_l4Has.l0 k x2 (wrap64 (x7 + 1)) x252000 x252001) else (some false))))) else (none)) else (some true)
def spec_l4Has.l1 : Nat → List Int → Int → Int → List (S48) → Option (Bool)
 | 0, _, _, _, _ => none
 | k + 1, x2, x8, x252000, x252001 => if x8 < (x2.length : Int) then (spec_l4Has.l2 k x2 x8 0 x252000 x252001) else (some true)
def spec_l4Has.l2 : Nat → List Int → Int → Int → Int → List (S48) → Option (Bool)
 | 0, _, _, _, _, _ => none
 | k + 1, x2, x8, x9, x252000, x252001 => if x9 < x8 then (if 0 ≤ x8 then (if x8 < (x2.length : Int) then (if 0 ≤ x9 then (if x9 < (x2.length : Int) then ((spec_l2Near.f k x252000 x252001 (rd x2 x8) (rd x2 x9)).bind fun t258 => (if t258 = true then (spec_l4Has.l2 k x2 x8 (wrap64 (x9 + 1)) x252000 x252001) else (some false))) else (none)) else (none)) else (none)) else (none)) else (spec_l4Has.l1 k x2 (wrap64 (x8 + 1)) x252000 x252001)
def spec_l4Has.l3 : Nat → List Int → Int → Int → List (S48) → Option (Bool)
 | 0, _, _, _, _ => none
 | k + 1, x2, x10, x252000, x252001 => if x10 < x252000 then ((spec_l1Has.f k x2 x10).bind fun t259 => (spec_l4Has.l4 k x2 x10 t259 0 x252000 x252001)) else (some true)
def spec_l4Has.l4 : Nat → List Int → Int → Bool → Int → Int → List (S48) → Option (Bool)
 | 0, _, _, _, _, _, _ => none
 | k + 1, x2, x10, x11, x12, x252000, x252001 => if x12 < (x2.length : Int) then (if x11 = true then (spec_l4Has.l4 k x2 x10 true (wrap64 (x12 + 1)) x252000 x252001) else (if 0 ≤ x12 then ((spec_l2Near.f k x252000 x252001 (rd x2 x12) x10).bind fun t261 => (spec_l4Has.l4 k x2 x10 t261 (wrap64 (x12 + 1)) x252000 x252001)) else (none))) else (if x11 = true then (spec_l4Has.l3 k x2 (wrap64 (x10 + 1)) x252000 x252001) else (some false))
end
def spec_l4Has.f (k : Nat) (a0_0 : Int) (l0_1 : List (S48)) (a1 : Int) (l2 : List Int) : Option (Bool) := if a1 = 1 then (spec_l4Has.l0 k l2 0 a0_0 l0_1) else (if a1 = 2 then (spec_l4Has.l1 k l2 0 a0_0 l0_1) else (spec_l4Has.l3 k l2 0 a0_0 l0_1))
def spec_l4Has.T16 : Bool × List (List Nat × List Nat) := (true, [([], []), ([], []), ([], []), ([1, 2], [1, 2]), ([3], [3]), ([], []), ([], []), ([5, 6], [5, 6]), ([7], [7]), ([0, 4, 8], [0, 4, 8]), ([9], [9])])
def spec_l4Has.B16 : List Nat := [0, 0, 0, 6, 14, 0, 0, 96, 224, 511, 1023]
theorem spec_l4Has.tab16 : rtab .any (opsOf Try.f37 16) = spec_l4Has.T16 := by kernel_rfl
theorem spec_l4Has.bits16 : waitsOk spec_l4Has.T16.2 spec_l4Has.B16 = true := by kernel_rfl
def spec_l4Has.T26 : Bool × List (List Nat × List Nat) := (true, [([], []), ([0], [0]), ([1], [1]), ([1], [1]), ([1], [1]), ([3, 4, 1], [1, 3, 4]), ([5, 1], [1, 5]), ([1], [1]), ([2, 6, 7, 1, 1], [1, 2, 6, 7]), ([1, 8], [1, 8]), ([9, 8, 0, 1, 2, 3, 4, 5, 6, 7, 8, 9], [0, 9])])
def spec_l4Has.B26 : List Nat := [0, 1, 3, 3, 3, 27, 59, 3, 255, 511, 1023]
theorem spec_l4Has.tab26 : rtab .any (opsOf Try.f37 26) = spec_l4Has.T26 := by kernel_rfl
theorem spec_l4Has.bits26 : waitsOk spec_l4Has.T26.2 spec_l4Has.B26 = true := by kernel_rfl
set_option maxHeartbeats 8000000 in
set_option maxRecDepth 100000 in
theorem spec_l4Has.calls (k : Nat) (a0_0 : Int) (A0_1 : Option Addr) (c0_1 : Nat) (l0_1 : List (S48)) (a1 : Int) (A2 : Option Addr) (c2 : Nat) (l2 : List Int) (r : Bool) (w : World) (hr0_1 : Kd.C k48 w A0_1 l0_1.length l0_1) (hc0_1 : l0_1.length ≤ c0_1) (hr2 : Kd.C (Kd.int .i64) w A2 l2.length l2) (hc2 : l2.length ≤ c2) (h : spec_l4Has.f k a0_0 l0_1 a1 l2 = some r) :
 Calls Try.prog 37 #[.agg #[.int .i64 a0_0, .slice A0_1 l0_1.length c0_1], .int .i64 a1, .slice A2 l2.length c2] w fun e w' => e = .returned (.bool r) ∧ Below w.heap.size w w' := by
 have hu28 := Try.underlying28
 have HR0_1 := Aside0.mk hr0_1
 have HC0_1 := Aside0.mk hc0_1
 clear hr0_1 hc0_1
 have HR2 := Aside0.mk hr2
 have HC2 := Aside0.mk hc2
 clear hr2 hc2
 have HB := zM (Below.refl w.heap.size w)
 have H : (if a1 = 1 then (spec_l4Has.l0 k l2 0 a0_0 l0_1) else (if a1 = 2 then (spec_l4Has.l1 k l2 0 a0_0 l0_1) else (spec_l4Has.l3 k l2 0 a0_0 l0_1))) = some r := h
 clear h
 by_cases c4 : a1 = 1
 · rw [if_pos c4] at H
   have c4b0 : (a1 == 1) = true := beq_iff_eq.mpr c4
   have c4b1 : (a1 != 1) = false := bne_eq_false_iff_eq.mpr c4
   clear c4
   have H' := Aside0.mk H
   clear H
   go_enter Try.func37, Try.ntmps37
   go_wp2_with (first | ((with_reducible refine gate_dst (N := 3) rfl ?_); refine zb (w := w) 3 #[.int .i64 a0_0, .slice A0_1 l0_1.length c0_1] 28 zB ?_; clear HB; intro gb251 w5 HB BK251 GW251; have GE251 := GW251))
   go_loopg [7] k (fun kq v7 w' => ∃ (x7_1 : Int), v7 = .int .i64 x7_1 ∧ Aside0 (spec_l4Has.l0 kq l2 x7_1 a0_0 l0_1 = some r) ∧ Aside0 (kq ≤ k) ∧ Aside0 (w'.heap[gb251]? = some (.cells #[.int .i64 a0_0, (.slice A0_1 l0_1.length c0_1)] 28 (0, 0))) ∧ Aside0 (Below w.heap.size w w'))
   case atStart => exact ⟨(0), (by first | rfl | (simp; done) | (simp [*]; done)), H', ⟨Nat.le_refl _⟩, ⟨zK BK251.out⟩, ⟨zB⟩⟩
   case round =>
    clear H'
    try clear c2
    try clear p2
    try clear c3
    try clear c4
    try clear c4b0
    try clear c4b1
    obtain ⟨x7_1, rfl, HA, HK1, BK251, HB⟩ := hrel
    cases gk with
    | zero => exact absurd HA.out (by simp [spec_l4Has.l0])
    | succ k1 =>
     have H := HA.out
     clear HA
     simp only [spec_l4Has.l0] at H
     by_cases c6 : x7_1 < (l0_1.length : Int)
     · rw [if_pos c6] at H
       have c6b0 := decide_eq_true c6
       clear c6
       by_cases c7 : 0 ≤ x7_1
       · rw [if_pos c7] at H
         have c7b0 := decide_eq_true c7
         clear c7
         replace H := Option.bind_eq_some_iff.mp H
         obtain ⟨t253, A80, H⟩ := H
         have A8 := Aside0.mk A80
         clear A80
         by_cases c9 : t253 = true
         · subst c9
           rw [if_pos rfl] at H
           have H' := Aside0.mk H
           clear H
           have hcz10_0 := zy BK251 0
           have hcz10_1 := zy BK251 1
           have hfz10_0 := blk_frozen BK251.out 0
           have hfz10_1 := blk_frozen BK251.out 1
           have p252 : 0 ≤ (x7_1 : Int) := of_decide_eq_true zA
           have q252 : x7_1 < (l0_1.length : Int) := of_decide_eq_true zA
           obtain ⟨ad252, e252, hx252_0, hx252_1⟩ := at_T48 HR0_1.out x7_1 p252 q252
           cases e252
           (try replace hx252_0 := (HB.out.cell (World.block_lt_of_cell? w _ hx252_0)).trans hx252_0)
           (try replace hx252_1 := (HB.out.cell (World.block_lt_of_cell? w _ hx252_1)).trans hx252_1)
           replace p252 := eq_true p252
           replace q252 := eq_true q252
           go_wp2_with (first | ((with_reducible refine gate_callee (f := 39) rfl ?_); refine zc 30 Try.func39 #[.slice A2 l2.length c2, .int .i64 ((rd_T48 l0_1 x7_1).f0)] ?_; (with_reducible refine (spec_l1Has.calls k1 _ _ l2 ((rd_T48 l0_1 x7_1).f0) true _ ?side1 ?side2 A8.out).mono ?_); (case side1 => exact zC (Kd.C_below HR2.out HB.out)); (case side2 => exact HC2.out); rintro e w' ⟨rfl, ⟨nd, rfl⟩⟩; refine ⟨_, rfl, ?_⟩))
           go_roundg k1
           case measure => have := HK1.out; omega
           case rel => exact ⟨(wrap64 (x7_1 + 1)), (by first | rfl | (simp; done) | (simp [*]; done)), H', ⟨by have := HK1.out; omega⟩, ⟨zK BK251.out⟩, ⟨zB⟩⟩
         · replace c9 := Bool.eq_false_iff.mpr c9
           subst c9
           have H1 : ((spec_l1Has.f k1 l2 ((rd_T48 l0_1 x7_1).f1)).bind fun t255 => (if t255 = true then (spec_l4Has.l0 k1 l2 (wrap64 (x7_1 + 1)) a0_0 l0_1) else (some false))) = some r := by rw [if_neg (show ¬ (false = true) by decide)] at H; exact H
           clear H
           have H := H1
           clear H1
           replace H := Option.bind_eq_some_iff.mp H
           obtain ⟨t255, A110, H⟩ := H
           have A11 := Aside0.mk A110
           clear A110
           by_cases c12 : t255 = true
           · subst c12
             rw [if_pos rfl] at H
             have H' := Aside0.mk H
             clear H
             have hcz13_0 := zy BK251 0
             have hcz13_1 := zy BK251 1
             have hfz13_0 := blk_frozen BK251.out 0
             have hfz13_1 := blk_frozen BK251.out 1
             have p252 : 0 ≤ (x7_1 : Int) := of_decide_eq_true zA
             have q252 : x7_1 < (l0_1.length : Int) := of_decide_eq_true zA
             obtain ⟨ad252, e252, hx252_0, hx252_1⟩ := at_T48 HR0_1.out x7_1 p252 q252
             cases e252
             (try replace hx252_0 := (HB.out.cell (World.block_lt_of_cell? w _ hx252_0)).trans hx252_0)
             (try replace hx252_1 := (HB.out.cell (World.block_lt_of_cell? w _ hx252_1)).trans hx252_1)
             replace p252 := eq_true p252
             replace q252 := eq_true q252
             go_wp2_with (first | ((with_reducible refine gate_callee (f := 39) rfl ?_); refine zc 30 Try.func39 #[.slice A2 l2.length c2, .int .i64 ((rd_T48 l0_1 x7_1).f0)] ?_; (with_reducible refine (spec_l1Has.calls k1 _ _ l2 ((rd_T48 l0_1 x7_1).f0) false _ ?side1 ?side2 A8.out).mono ?_); (case side1 => exact zC (Kd.C_below HR2.out HB.out)); (case side2 => exact HC2.out); rintro e w' ⟨rfl, ⟨nd, rfl⟩⟩; refine ⟨_, rfl, ?_⟩; have p254 : 0 ≤ (x7_1 : Int) := of_decide_eq_true zA; have q254 : x7_1 < (l0_1.length : Int) := of_decide_eq_true zA; obtain ⟨ad254, e254, hx254_0, hx254_1⟩ := at_T48 HR0_1.out x7_1 p254 q254; obtain rfl : ad252 = ad254 := (by injection e254); (try replace hx254_0 := (HB.out.cell (World.block_lt_of_cell? w _ hx254_0)).trans hx254_0); (try replace hx254_1 := (HB.out.cell (World.block_lt_of_cell? w _ hx254_1)).trans hx254_1); replace p254 := eq_true p254; replace q254 := eq_true q254) | (go_at_call 39; (with_reducible refine (spec_l1Has.calls k1 _ _ l2 ((rd_T48 l0_1 x7_1).f1) true _ ?side1 ?side2 A11.out).mono ?_); (case side1 => exact zC (Kd.C_below HR2.out zB)); (case side2 => exact HC2.out); rintro e w' ⟨rfl, ⟨nd, rfl⟩⟩))
             go_roundg k1
             case measure => have := HK1.out; omega
             case rel => exact ⟨(wrap64 (x7_1 + 1)), (by first | rfl | (simp; done) | (simp [*]; done)), H', ⟨by have := HK1.out; omega⟩, ⟨zK BK251.out⟩, ⟨zB⟩⟩
           · replace c12 := Bool.eq_false_iff.mpr c12
             subst c12
             have H1 : (some false) = some r := by rw [if_neg (show ¬ (false = true) by decide)] at H; exact H
             clear H
             have H := H1
             clear H1
             obtain rfl := Option.some.inj H
             have hcz14_0 := zy BK251 0
             have hcz14_1 := zy BK251 1
             have hfz14_0 := blk_frozen BK251.out 0
             have hfz14_1 := blk_frozen BK251.out 1
             have p252 : 0 ≤ (x7_1 : Int) := of_decide_eq_true zA
             have q252 : x7_1 < (l0_1.length : Int) := of_decide_eq_true zA
             obtain ⟨ad252, e252, hx252_0, hx252_1⟩ := at_T48 HR0_1.out x7_1 p252 q252
             cases e252
             (try replace hx252_0 := (HB.out.cell (World.block_lt_of_cell? w _ hx252_0)).trans hx252_0)
             (try replace hx252_1 := (HB.out.cell (World.block_lt_of_cell? w _ hx252_1)).trans hx252_1)
             replace p252 := eq_true p252
             replace q252 := eq_true q252
             go_wp2_with (first | ((with_reducible refine gate_callee (f := 39) rfl ?_); refine zc 30 Try.func39 #[.slice A2 l2.length c2, .int .i64 ((rd_T48 l0_1 x7_1).f0)] ?_; (with_reducible refine (spec_l1Has.calls k1 _ _ l2 ((rd_T48 l0_1 x7_1).f0) false _ ?side1 ?side2 A8.out).mono ?_); (case side1 => exact zC (Kd.C_below HR2.out HB.out)); (case side2 => exact HC2.out); rintro e w' ⟨rfl, ⟨nd, rfl⟩⟩; refine ⟨_, rfl, ?_⟩; have p254 : 0 ≤ (x7_1 : Int) := of_decide_eq_true zA; have q254 : x7_1 < (l0_1.length : Int) := of_decide_eq_true zA; obtain ⟨ad254, e254, hx254_0, hx254_1⟩ := at_T48 HR0_1.out x7_1 p254 q254; obtain rfl : ad252 = ad254 := (by injection e254); (try replace hx254_0 := (HB.out.cell (World.block_lt_of_cell? w _ hx254_0)).trans hx254_0); (try replace hx254_1 := (HB.out.cell (World.block_lt_of_cell? w _ hx254_1)).trans hx254_1); replace p254 := eq_true p254; replace q254 := eq_true q254) | (go_at_call 39; (with_reducible refine (spec_l1Has.calls k1 _ _ l2 ((rd_T48 l0_1 x7_1).f1) false _ ?side1 ?side2 A11.out).mono ?_); (case side1 => exact zC (Kd.C_below HR2.out zB)); (case side2 => exact HC2.out); rintro e w' ⟨rfl, ⟨nd, rfl⟩⟩))
             go_ret
             exact ⟨by first | rfl | (simp [errW_none, errW_some] <;> rfl) | (simp [*, errW_none, errW_some] <;> rfl), zB⟩
       · rw [if_neg c7] at H
         exact absurd H (by simp)
     · rw [if_neg c6] at H
       have c6b0 : decide (x7_1 < (l0_1.length : Int)) = false := decide_eq_false c6
       clear c6
       obtain rfl := Option.some.inj H
       have hcz15_0 := zy BK251 0
       have hcz15_1 := zy BK251 1
       have hfz15_0 := blk_frozen BK251.out 0
       have hfz15_1 := blk_frozen BK251.out 1
       go_wp2
       go_ret
       exact ⟨by first | rfl | (simp [errW_none, errW_some] <;> rfl) | (simp [*, errW_none, errW_some] <;> rfl), zB⟩
 · rw [if_neg c4] at H
   have c4b0 : (a1 == 1) = false := beq_eq_false_iff_ne.mpr c4
   have c4b1 : (a1 != 1) = true := bne_iff_ne.mpr c4
   by_cases c16 : a1 = 2
   · rw [if_pos c16] at H
     have c16b0 : (a1 == 2) = true := beq_iff_eq.mpr c16
     have c16b1 : (a1 != 2) = false := bne_eq_false_iff_eq.mpr c16
     clear c16
     have H' := Aside0.mk H
     clear H
     go_enter Try.func37, Try.ntmps37
     go_wp2_with (first | ((with_reducible refine gate_dst (N := 3) rfl ?_); refine zb (w := w) 3 #[.int .i64 a0_0, .slice A0_1 l0_1.length c0_1] 28 zB ?_; clear HB; intro gb251 w17 HB BK251 GW251; have GE251 := GW251))
     go_loopg [8] k (fun kq v8 w' => ∃ (x8_1 : Int), v8 = .int .i64 x8_1 ∧ Aside0 (spec_l4Has.l1 kq l2 x8_1 a0_0 l0_1 = some r) ∧ Aside0 (kq ≤ k) ∧ Aside0 (w'.heap[gb251]? = some (.cells #[.int .i64 a0_0, (.slice A0_1 l0_1.length c0_1)] 28 (0, 0))) ∧ Aside0 (Below w.heap.size w w'))
     case atStart => exact ⟨(0), (by first | rfl | (simp; done) | (simp [*]; done)), H', ⟨Nat.le_refl _⟩, ⟨zK BK251.out⟩, ⟨zB⟩⟩
     case round =>
      clear H'
      try clear c1
      try clear c2
      try clear p2
      try clear q2
      try clear hx2
      try clear c3
      try clear c4
      try clear c4b0
      try clear c4b1
      try clear c6
      try clear c6b0
      try clear p6
      try clear c7
      try clear c7b0
      try clear c9
      try clear c12
      try clear c16
      try clear c16b0
      try clear c16b1
      try clear hcz10_0
      try clear hcz10_1
      try clear hcz13_0
      try clear hcz13_1
      try clear hcz14_0
      try clear hcz14_1
      try clear hcz15_0
      try clear hcz15_1
      try clear hfz10_0
      try clear hfz10_1
      try clear hfz13_0
      try clear hfz13_1
      try clear hfz14_0
      try clear hfz14_1
      try clear hfz15_0
      try clear hfz15_1
      try clear hx252_0
      try clear hx252_1
      try clear hx254_0
      try clear hx254_1
      try clear p2
      try clear p252
      try clear p254
      try clear q252
      try clear q254
      obtain ⟨x8_1, rfl, HA, HK1, BK251, HB⟩ := hrel
      cases gk with
      | zero => exact absurd HA.out (by simp [spec_l4Has.l1])
      | succ k1 =>
       have H := HA.out
       clear HA
       simp only [spec_l4Has.l1] at H
       by_cases c18 : x8_1 < (l2.length : Int)
       · rw [if_pos c18] at H
         have c18b0 := decide_eq_true c18
         clear c18
         have H' := Aside0.mk H
         clear H
         go_wp2
         go_loopg [9] k1 (fun kq v9 w' => ∃ (x9_2 : Int), v9 = .int .i64 x9_2 ∧ Aside0 (spec_l4Has.l2 kq l2 x8_1 x9_2 a0_0 l0_1 = some r) ∧ Aside0 (kq ≤ k1) ∧ Aside0 (w'.heap[gb251]? = some (.cells #[.int .i64 a0_0, (.slice A0_1 l0_1.length c0_1)] 28 (0, 0))) ∧ Aside0 (Below w.heap.size w w'))
         case atStart => exact ⟨(0), (by first | rfl | (simp; done) | (simp [*]; done)), H', ⟨Nat.le_refl _⟩, ⟨zK BK251.out⟩, ⟨zB⟩⟩
         case round =>
          clear H'
          try clear c1
          try clear c2
          try clear p2
          try clear q2
          try clear hx2
          try clear c3
          try clear c4
          try clear c4b0
          try clear c4b1
          try clear c6
          try clear c6b0
          try clear p6
          try clear c7
          try clear c7b0
          try clear c9
          try clear c12
          try clear c16
          try clear c16b0
          try clear c16b1
          try clear c18
          try clear c18b0
          try clear hcz10_0
          try clear hcz10_1
          try clear hcz13_0
          try clear hcz13_1
          try clear hcz14_0
          try clear hcz14_1
          try clear hcz15_0
          try clear hcz15_1
          try clear hfz10_0
          try clear hfz10_1
          try clear hfz13_0
          try clear hfz13_1
          try clear hfz14_0
          try clear hfz14_1
          try clear hfz15_0
          try clear hfz15_1
          try clear hx252_0
          try clear hx252_1
          try clear hx254_0
          try clear hx254_1
          try clear p2
          try clear p252
          try clear p254
          try clear p6
          try clear q2
          try clear q252
          try clear q254
          obtain ⟨x9_2, rfl, HA, HK2, BK251, HB⟩ := hrel
          cases gk with
          | zero => exact absurd HA.out (by simp [spec_l4Has.l2])
          | succ k2 =>
           have H := HA.out
           clear HA
           simp only [spec_l4Has.l2] at H
           by_cases c19 : x9_2 < x8_1
           · rw [if_pos c19] at H
             have c19b0 := decide_eq_true c19
             clear c19
             by_cases c20 : 0 ≤ x8_1
             · rw [if_pos c20] at H
               have c20b0 := decide_eq_true c20
               clear c20
               by_cases c21 : x8_1 < (l2.length : Int)
               · rw [if_pos c21] at H
                 have c21b0 := decide_eq_true c21
                 clear c21
                 by_cases c22 : 0 ≤ x9_2
                 · rw [if_pos c22] at H
                   have c22b0 := decide_eq_true c22
                   clear c22
                   by_cases c23 : x9_2 < (l2.length : Int)
                   · rw [if_pos c23] at H
                     have c23b0 := decide_eq_true c23
                     clear c23
                     replace H := Option.bind_eq_some_iff.mp H
                     obtain ⟨t258, A240, H⟩ := H
                     have A24 := Aside0.mk A240
                     clear A240
                     by_cases c25 : t258 = true
                     · subst c25
                       rw [if_pos rfl] at H
                       have H' := Aside0.mk H
                       clear H
                       try go_wp2
                       replace BK251 := zM (blk_drew BK251.out)
                       replace HB := zM (below_drew1 HB.out)
                       have p256 : 0 ≤ (x8_1 : Int) := of_decide_eq_true zA
                       have q256 : x8_1 < (l2.length : Int) := of_decide_eq_true zA
                       obtain ⟨ad256, e256, hx256_0⟩ := Kd.at_int HR2.out x8_1 p256 q256
                       have hw256_0 := hx256_0
                       cases e256
                       (try replace hx256_0 := (HB.out.cell (World.block_lt_of_cell? w _ hx256_0)).trans hx256_0)
                       replace p256 := eq_true p256
                       replace q256 := eq_true q256
                       have p257 : 0 ≤ (x9_2 : Int) := of_decide_eq_true zA
                       have q257 : x9_2 < (l2.length : Int) := of_decide_eq_true zA
                       obtain ⟨ad257, e257, hx257_0⟩ := Kd.at_int HR2.out x9_2 p257 q257
                       have hw257_0 := hx257_0
                       obtain rfl : ad256 = ad257 := (by injection e257)
                       (try replace hx257_0 := (HB.out.cell (World.block_lt_of_cell? w _ hx257_0)).trans hx257_0)
                       replace p257 := eq_true p257
                       replace q257 := eq_true q257
                       refine zs (n := 11) (fun w' => w'.cell? ⟨gb251, 0, none⟩ = some (.int .i64 a0_0) ∧ w'.cell? ⟨gb251, 1, none⟩ = some (.slice A0_1 l0_1.length c0_1) ∧ w'.cell? (ad256.add (x8_1).toNat) = some (.int .i64 (rd l2 x8_1)) ∧ w'.cell? (ad256.add (x9_2).toNat) = some (.int .i64 (rd l2 x9_2))) ⟨(blk_cell BK251.out 0).trans rfl, (blk_cell BK251.out 1).trans rfl, ((HB.out.cell (World.block_lt_of_cell? w _ hw256_0)).trans hw256_0), ((HB.out.cell (World.block_lt_of_cell? w _ hw257_0)).trans hw257_0)⟩ (fun hHeld => ?_); refine with_tabW spec_l4Has.tab16 spec_l4Has.bits16 (fun HT_ HW_ => ?_)
                       generalize wr.drew = w26 at BK251 HB hx256_0 hx257_0 hHeld ⊢
                       refine zp HT_ 1 57 ?_
                       refine zp HT_ 2 58 ?_
                       refine zp HT_ 3 59 ?_
                       refine zp HT_ 5 61 ?_
                       refine zp HT_ 6 62 ?_
                       refine zp HT_ 7 63 ?_
                       refine zt HT_ HW_ 0 56 hHeld ?_ (hy := by rintro w' ⟨s0, s1, s2, s3⟩; go_simp; with_reducible rfl)
                       refine zt HT_ HW_ 4 60 hHeld ?_ (hy := by rintro w' ⟨s0, s1, s2, s3⟩; go_simp; with_reducible rfl)
                       refine zt HT_ HW_ 8 64 hHeld ?_ (hy := by rintro w' ⟨s0, s1, s2, s3⟩; go_simp; with_reducible rfl)
                       refine zg HT_ 9 65 Try.func50 #[.agg #[.int .i64 a0_0, .slice A0_1 l0_1.length c0_1], .int .i64 (rd l2 x8_1), .int .i64 (rd l2 x9_2)] (fun K hK => ?_)
                       with_reducible refine (spec_l2Near.calls k2 a0_0 _ _ l0_1 (rd l2 x8_1) (rd l2 x9_2) true _ ?side1 ?side2 A24.out).mono ?_
                       (case side1 => exact zC (Kd.C_below HR0_1.out HB.out))
                       (case side2 => exact HC0_1.out)
                       rintro e w27 ⟨rfl, hb⟩
                       refine ⟨_, rfl, ?_⟩
                       replace BK251 := zM (blk_below (g := gb251) (o := .cells #[.int .i64 a0_0, .slice A0_1 l0_1.length c0_1] 28 (0, 0)) (zK BK251.out) hb)
                       replace HB := zM (below_step zB hb)
                       (try clear hb)
                       (try clear hb2)
                       (try clear hk)
                       (try clear hi)
                       refine hK.out _ _ ⟨(blk_cell BK251.out 0).trans rfl, (blk_cell BK251.out 1).trans rfl, ((HB.out.cell (World.block_lt_of_cell? w _ hw256_0)).trans hw256_0), ((HB.out.cell (World.block_lt_of_cell? w _ hw257_0)).trans hw257_0)⟩ (fun hHeld => ?_)
                       clear hK K
                       refine zn 65 ?_
                       refine zp HT_ 10 66 ?_
                       refine zo HT_ ?_
                       try go_wp2
                       go_roundg k2
                       case measure => have := HK1.out; have := HK2.out; omega
                       case rel => exact ⟨(wrap64 (x9_2 + 1)), (by first | rfl | (simp; done) | (simp [*]; done)), H', ⟨by have := HK1.out; have := HK2.out; omega⟩, ⟨zK BK251.out⟩, ⟨zB⟩⟩
                     · replace c25 := Bool.eq_false_iff.mpr c25
                       subst c25
                       have H1 : (some false) = some r := by rw [if_neg (show ¬ (false = true) by decide)] at H; exact H
                       clear H
                       have H := H1
                       clear H1
                       obtain rfl := Option.some.inj H
                       try go_wp2
                       replace BK251 := zM (blk_drew BK251.out)
                       replace HB := zM (below_drew1 HB.out)
                       have p256 : 0 ≤ (x8_1 : Int) := of_decide_eq_true zA
                       have q256 : x8_1 < (l2.length : Int) := of_decide_eq_true zA
                       obtain ⟨ad256, e256, hx256_0⟩ := Kd.at_int HR2.out x8_1 p256 q256
                       have hw256_0 := hx256_0
                       cases e256
                       (try replace hx256_0 := (HB.out.cell (World.block_lt_of_cell? w _ hx256_0)).trans hx256_0)
                       replace p256 := eq_true p256
                       replace q256 := eq_true q256
                       have p257 : 0 ≤ (x9_2 : Int) := of_decide_eq_true zA
                       have q257 : x9_2 < (l2.length : Int) := of_decide_eq_true zA
                       obtain ⟨ad257, e257, hx257_0⟩ := Kd.at_int HR2.out x9_2 p257 q257
                       have hw257_0 := hx257_0
                       obtain rfl : ad256 = ad257 := (by injection e257)
                       (try replace hx257_0 := (HB.out.cell (World.block_lt_of_cell? w _ hx257_0)).trans hx257_0)
                       replace p257 := eq_true p257
                       replace q257 := eq_true q257
                       refine zs (n := 11) (fun w' => w'.cell? ⟨gb251, 0, none⟩ = some (.int .i64 a0_0) ∧ w'.cell? ⟨gb251, 1, none⟩ = some (.slice A0_1 l0_1.length c0_1) ∧ w'.cell? (ad256.add (x8_1).toNat) = some (.int .i64 (rd l2 x8_1)) ∧ w'.cell? (ad256.add (x9_2).toNat) = some (.int .i64 (rd l2 x9_2))) ⟨(blk_cell BK251.out 0).trans rfl, (blk_cell BK251.out 1).trans rfl, ((HB.out.cell (World.block_lt_of_cell? w _ hw256_0)).trans hw256_0), ((HB.out.cell (World.block_lt_of_cell? w _ hw257_0)).trans hw257_0)⟩ (fun hHeld => ?_); refine with_tabW spec_l4Has.tab16 spec_l4Has.bits16 (fun HT_ HW_ => ?_)
                       generalize wr.drew = w28 at BK251 HB hx256_0 hx257_0 hHeld ⊢
                       refine zp HT_ 1 57 ?_
                       refine zp HT_ 2 58 ?_
                       refine zp HT_ 3 59 ?_
                       refine zp HT_ 5 61 ?_
                       refine zp HT_ 6 62 ?_
                       refine zp HT_ 7 63 ?_
                       refine zt HT_ HW_ 0 56 hHeld ?_ (hy := by rintro w' ⟨s0, s1, s2, s3⟩; go_simp; with_reducible rfl)
                       refine zt HT_ HW_ 4 60 hHeld ?_ (hy := by rintro w' ⟨s0, s1, s2, s3⟩; go_simp; with_reducible rfl)
                       refine zt HT_ HW_ 8 64 hHeld ?_ (hy := by rintro w' ⟨s0, s1, s2, s3⟩; go_simp; with_reducible rfl)
                       refine zg HT_ 9 65 Try.func50 #[.agg #[.int .i64 a0_0, .slice A0_1 l0_1.length c0_1], .int .i64 (rd l2 x8_1), .int .i64 (rd l2 x9_2)] (fun K hK => ?_)
                       with_reducible refine (spec_l2Near.calls k2 a0_0 _ _ l0_1 (rd l2 x8_1) (rd l2 x9_2) false _ ?side1 ?side2 A24.out).mono ?_
                       (case side1 => exact zC (Kd.C_below HR0_1.out HB.out))
                       (case side2 => exact HC0_1.out)
                       rintro e w29 ⟨rfl, hb⟩
                       refine ⟨_, rfl, ?_⟩
                       replace BK251 := zM (blk_below (g := gb251) (o := .cells #[.int .i64 a0_0, .slice A0_1 l0_1.length c0_1] 28 (0, 0)) (zK BK251.out) hb)
                       replace HB := zM (below_step zB hb)
                       (try clear hb)
                       (try clear hb2)
                       (try clear hk)
                       (try clear hi)
                       refine hK.out _ _ ⟨(blk_cell BK251.out 0).trans rfl, (blk_cell BK251.out 1).trans rfl, ((HB.out.cell (World.block_lt_of_cell? w _ hw256_0)).trans hw256_0), ((HB.out.cell (World.block_lt_of_cell? w _ hw257_0)).trans hw257_0)⟩ (fun hHeld => ?_)
                       clear hK K
                       refine zn 65 ?_
                       refine zp HT_ 10 66 ?_
                       refine zo HT_ ?_
                       try go_wp2
                       go_ret
                       exact ⟨by first | rfl | (simp [errW_none, errW_some] <;> rfl) | (simp [*, errW_none, errW_some] <;> rfl), zB⟩
                   · rw [if_neg c23] at H
                     exact absurd H (by simp)
                 · rw [if_neg c22] at H
                   exact absurd H (by simp)
               · rw [if_neg c21] at H
                 exact absurd H (by simp)
             · rw [if_neg c20] at H
               exact absurd H (by simp)
           · rw [if_neg c19] at H
             have c19b0 : decide (x9_2 < x8_1) = false := decide_eq_false c19
             clear c19
             have H' := Aside0.mk H
             clear H
             go_wp2
             go_roundg k2
             case measure => have := HK1.out; have := HK2.out; omega
             case rel => exact ⟨(wrap64 (x8_1 + 1)), (by first | rfl | (simp; done) | (simp [*]; done)), H', ⟨by have := HK1.out; have := HK2.out; omega⟩, ⟨zK BK251.out⟩, ⟨zB⟩⟩
       · rw [if_neg c18] at H
         have c18b0 : decide (x8_1 < (l2.length : Int)) = false := decide_eq_false c18
         clear c18
         obtain rfl := Option.some.inj H
         go_wp2
         go_ret
         exact ⟨by first | rfl | (simp [errW_none, errW_some] <;> rfl) | (simp [*, errW_none, errW_some] <;> rfl), zB⟩
   · rw [if_neg c16] at H
     have c16b0 : (a1 == 2) = false := beq_eq_false_iff_ne.mpr c16
     have c16b1 : (a1 != 2) = true := bne_iff_ne.mpr c16
     have H' := Aside0.mk H
     clear H
     go_enter Try.func37, Try.ntmps37
     go_wp2_with (first | ((with_reducible refine gate_dst (N := 3) rfl ?_); refine zb (w := w) 3 #[.int .i64 a0_0, .slice A0_1 l0_1.length c0_1] 28 zB ?_; clear HB; intro gb251 w30 HB BK251 GW251; have GE251 := GW251))
     go_loopg [10] k (fun kq v10 w' => ∃ (x10_1 : Int), v10 = .int .i64 x10_1 ∧ Aside0 (spec_l4Has.l3 kq l2 x10_1 a0_0 l0_1 = some r) ∧ Aside0 (kq ≤ k) ∧ Aside0 (w'.heap[gb251]? = some (.cells #[.int .i64 a0_0, (.slice A0_1 l0_1.length c0_1)] 28 (0, 0))) ∧ Aside0 (Below w.heap.size w w'))
     case atStart => exact ⟨(0), (by first | rfl | (simp; done) | (simp [*]; done)), H', ⟨Nat.le_refl _⟩, ⟨zK BK251.out⟩, ⟨zB⟩⟩
     case round =>
      clear H'
      try clear c1
      try clear c2
      try clear p2
      try clear q2
      try clear hx2
      try clear c3
      try clear c4
      try clear c4b0
      try clear c4b1
      try clear c5
      try clear c6
      try clear c6b0
      try clear p6
      try clear c7
      try clear c7b0
      try clear c9
      try clear c12
      try clear c16
      try clear c16b0
      try clear c16b1
      try clear c18
      try clear c18b0
      try clear c19
      try clear c19b0
      try clear c20
      try clear c20b0
      try clear c21
      try clear c21b0
      try clear c22
      try clear c22b0
      try clear c23
      try clear c23b0
      try clear c25
      try clear p25
      try clear q25
      try clear hx25
      try clear hcz10_0
      try clear hcz10_1
      try clear hcz13_0
      try clear hcz13_1
      try clear hcz14_0
      try clear hcz14_1
      try clear hcz15_0
      try clear hcz15_1
      try clear hfz10_0
      try clear hfz10_1
      try clear hfz13_0
      try clear hfz13_1
      try clear hfz14_0
      try clear hfz14_1
      try clear hfz15_0
      try clear hfz15_1
      try clear hx252_0
      try clear hx252_1
      try clear hx254_0
      try clear hx254_1
      try clear hx256_0
      try clear hx257_0
      try clear p2
      try clear p252
      try clear p254
      try clear p256
      try clear p257
      try clear p6
      try clear q2
      try clear q252
      try clear q254
      try clear q256
      try clear q257
      obtain ⟨x10_1, rfl, HA, HK1, BK251, HB⟩ := hrel
      cases gk with
      | zero => exact absurd HA.out (by simp [spec_l4Has.l3])
      | succ k1 =>
       have H := HA.out
       clear HA
       simp only [spec_l4Has.l3] at H
       by_cases c31 : x10_1 < a0_0
       · rw [if_pos c31] at H
         have c31b0 := decide_eq_true c31
         clear c31
         replace H := Option.bind_eq_some_iff.mp H
         obtain ⟨t259, A320, H⟩ := H
         have A32 := Aside0.mk A320
         clear A320
         have H' := Aside0.mk H
         clear H
         have hcz33_0 := zy BK251 0
         have hcz33_1 := zy BK251 1
         have hfz33_0 := blk_frozen BK251.out 0
         have hfz33_1 := blk_frozen BK251.out 1
         go_wp2_with (first | ((with_reducible refine gate_callee (f := 39) rfl ?_); refine zc 75 Try.func39 #[.slice A2 l2.length c2, .int .i64 x10_1] ?_; (with_reducible refine (spec_l1Has.calls k1 _ _ l2 x10_1 t259 _ ?side1 ?side2 A32.out).mono ?_); (case side1 => exact zC (Kd.C_below HR2.out HB.out)); (case side2 => exact HC2.out); rintro e w' ⟨rfl, ⟨nd, rfl⟩⟩; refine ⟨_, rfl, ?_⟩))
         go_loopg [11, 12] k1 (fun kq v11 v12 w' => ∃ (x11_2 : Bool) (x12_2 : Int), v11 = .bool x11_2 ∧ v12 = .int .i64 x12_2 ∧ Aside0 (spec_l4Has.l4 kq l2 x10_1 x11_2 x12_2 a0_0 l0_1 = some r) ∧ Aside0 (kq ≤ k1) ∧ Aside0 (w'.heap[gb251]? = some (.cells #[.int .i64 a0_0, (.slice A0_1 l0_1.length c0_1)] 28 (0, 0))) ∧ Aside0 (Below w.heap.size w w'))
         case atStart => exact ⟨(t259), (0), (by first | rfl | (simp; done) | (simp [*]; done)), (by first | rfl | (simp; done) | (simp [*]; done)), H', ⟨Nat.le_refl _⟩, ⟨zK BK251.out⟩, ⟨zB⟩⟩
         case round =>
          clear H'
          try clear c1
          try clear c2
          try clear p2
          try clear q2
          try clear hx2
          try clear c3
          try clear c4
          try clear c4b0
          try clear c4b1
          try clear c5
          try clear c6
          try clear c6b0
          try clear p6
          try clear c7
          try clear c7b0
          try clear c9
          try clear c12
          try clear c16
          try clear c16b0
          try clear c16b1
          try clear c18
          try clear c18b0
          try clear c19
          try clear c19b0
          try clear c20
          try clear c20b0
          try clear c21
          try clear c21b0
          try clear c22
          try clear c22b0
          try clear c23
          try clear c23b0
          try clear c25
          try clear p25
          try clear q25
          try clear hx25
          try clear c31
          try clear c31b0
          try clear hcz10_0
          try clear hcz10_1
          try clear hcz13_0
          try clear hcz13_1
          try clear hcz14_0
          try clear hcz14_1
          try clear hcz15_0
          try clear hcz15_1
          try clear hcz33_0
          try clear hcz33_1
          try clear hfz10_0
          try clear hfz10_1
          try clear hfz13_0
          try clear hfz13_1
          try clear hfz14_0
          try clear hfz14_1
          try clear hfz15_0
          try clear hfz15_1
          try clear hfz33_0
          try clear hfz33_1
          try clear hx252_0
          try clear hx252_1
          try clear hx254_0
          try clear hx254_1
          try clear hx256_0
          try clear hx257_0
          try clear p2
          try clear p25
          try clear p252
          try clear p254
          try clear p256
          try clear p257
          try clear p6
          try clear q2
          try clear q25
          try clear q252
          try clear q254
          try clear q256
          try clear q257
          obtain ⟨x11_2, x12_2, rfl, rfl, HA, HK2, BK251, HB⟩ := hrel
          cases gk with
          | zero => exact absurd HA.out (by simp [spec_l4Has.l4])
          | succ k2 =>
           have H := HA.out
           clear HA
           simp only [spec_l4Has.l4] at H
           by_cases c34 : x12_2 < (l2.length : Int)
           · rw [if_pos c34] at H
             have c34b0 := decide_eq_true c34
             clear c34
             by_cases c35 : x11_2 = true
             · subst c35
               rw [if_pos rfl] at H
               have H' := Aside0.mk H
               clear H
               try go_wp2
               replace BK251 := zM (blk_drew BK251.out)
               replace HB := zM (below_drew1 HB.out)
               refine zs (n := 11) (fun w' => True) trivial (fun hHeld => ?_); refine with_tabW spec_l4Has.tab26 spec_l4Has.bits26 (fun HT_ HW_ => ?_)
               generalize wr.drew = w36 at BK251 HB hHeld ⊢
               refine zp HT_ 0 82 ?_
               refine zp HT_ 1 83 ?_
               refine zu HT_ 2 84 ?_
               refine zu HT_ 3 85 ?_
               refine zu HT_ 4 86 ?_
               refine zu HT_ 5 87 ?_
               refine zu HT_ 6 88 ?_
               refine zu HT_ 7 89 ?_
               refine zu HT_ 8 90 ?_
               refine zp HT_ 9 91 ?_
               refine zp HT_ 10 11 ?_
               refine zo HT_ ?_
               try go_wp2
               go_roundg k2
               case measure => have := HK1.out; have := HK2.out; omega
               case rel => exact ⟨(true), (wrap64 (x12_2 + 1)), (by first | rfl | (simp; done) | (simp [*]; done)), (by first | rfl | (simp; done) | (simp [*]; done)), H', ⟨by have := HK1.out; have := HK2.out; omega⟩, ⟨zK BK251.out⟩, ⟨zB⟩⟩
             · replace c35 := Bool.eq_false_iff.mpr c35
               subst c35
               have H1 : (if 0 ≤ x12_2 then ((spec_l2Near.f k2 a0_0 l0_1 (rd l2 x12_2) x10_1).bind fun t261 => (spec_l4Has.l4 k2 l2 x10_1 t261 (wrap64 (x12_2 + 1)) a0_0 l0_1)) else (none)) = some r := by rw [if_neg (show ¬ (false = true) by decide)] at H; exact H
               clear H
               have H := H1
               clear H1
               by_cases c37 : 0 ≤ x12_2
               · rw [if_pos c37] at H
                 have c37b0 := decide_eq_true c37
                 clear c37
                 replace H := Option.bind_eq_some_iff.mp H
                 obtain ⟨t261, A380, H⟩ := H
                 have A38 := Aside0.mk A380
                 clear A380
                 have H' := Aside0.mk H
                 clear H
                 try go_wp2
                 replace BK251 := zM (blk_drew BK251.out)
                 replace HB := zM (below_drew1 HB.out)
                 have p260 : 0 ≤ (x12_2 : Int) := of_decide_eq_true zA
                 have q260 : x12_2 < (l2.length : Int) := of_decide_eq_true zA
                 obtain ⟨ad260, e260, hx260_0⟩ := Kd.at_int HR2.out x12_2 p260 q260
                 have hw260_0 := hx260_0
                 cases e260
                 (try replace hx260_0 := (HB.out.cell (World.block_lt_of_cell? w _ hx260_0)).trans hx260_0)
                 replace p260 := eq_true p260
                 replace q260 := eq_true q260
                 refine zs (n := 11) (fun w' => w'.cell? ⟨gb251, 0, none⟩ = some (.int .i64 a0_0) ∧ w'.cell? ⟨gb251, 1, none⟩ = some (.slice A0_1 l0_1.length c0_1) ∧ w'.cell? (ad260.add (x12_2).toNat) = some (.int .i64 (rd l2 x12_2))) ⟨(blk_cell BK251.out 0).trans rfl, (blk_cell BK251.out 1).trans rfl, ((HB.out.cell (World.block_lt_of_cell? w _ hw260_0)).trans hw260_0)⟩ (fun hHeld => ?_); refine with_tabW spec_l4Has.tab26 spec_l4Has.bits26 (fun HT_ HW_ => ?_)
                 generalize wr.drew = w39 at BK251 HB hx260_0 hHeld ⊢
                 refine zp HT_ 0 82 ?_
                 refine zp HT_ 1 83 ?_
                 refine zp HT_ 3 85 ?_
                 refine zp HT_ 4 86 ?_
                 refine zp HT_ 5 87 ?_
                 refine zp HT_ 7 89 ?_
                 refine zt HT_ HW_ 2 84 hHeld ?_ (hy := by rintro w' ⟨s0, s1, s2⟩; go_simp; with_reducible rfl)
                 refine zt HT_ HW_ 6 88 hHeld ?_ (hy := by rintro w' ⟨s0, s1, s2⟩; go_simp; with_reducible rfl)
                 refine zg HT_ 8 90 Try.func50 #[.agg #[.int .i64 a0_0, .slice A0_1 l0_1.length c0_1], .int .i64 (rd l2 x12_2), .int .i64 x10_1] (fun K hK => ?_)
                 with_reducible refine (spec_l2Near.calls k2 a0_0 _ _ l0_1 (rd l2 x12_2) x10_1 t261 _ ?side1 ?side2 A38.out).mono ?_
                 (case side1 => exact zC (Kd.C_below HR0_1.out HB.out))
                 (case side2 => exact HC0_1.out)
                 rintro e w40 ⟨rfl, hb⟩
                 refine ⟨_, rfl, ?_⟩
                 replace BK251 := zM (blk_below (g := gb251) (o := .cells #[.int .i64 a0_0, .slice A0_1 l0_1.length c0_1] 28 (0, 0)) (zK BK251.out) hb)
                 replace HB := zM (below_step zB hb)
                 (try clear hb)
                 (try clear hb2)
                 (try clear hk)
                 (try clear hi)
                 refine hK.out _ _ ⟨(blk_cell BK251.out 0).trans rfl, (blk_cell BK251.out 1).trans rfl, ((HB.out.cell (World.block_lt_of_cell? w _ hw260_0)).trans hw260_0)⟩ (fun hHeld => ?_)
                 clear hK K
                 refine zn 90 ?_
                 refine zp HT_ 9 91 ?_
                 refine zp HT_ 10 11 ?_
                 refine zo HT_ ?_
                 try go_wp2
                 go_roundg k2
                 case measure => have := HK1.out; have := HK2.out; omega
                 case rel => exact ⟨(t261), (wrap64 (x12_2 + 1)), (by first | rfl | (simp; done) | (simp [*]; done)), (by first | rfl | (simp; done) | (simp [*]; done)), H', ⟨by have := HK1.out; have := HK2.out; omega⟩, ⟨zK BK251.out⟩, ⟨zB⟩⟩
               · rw [if_neg c37] at H
                 exact absurd H (by simp)
           · rw [if_neg c34] at H
             have c34b0 : decide (x12_2 < (l2.length : Int)) = false := decide_eq_false c34
             clear c34
             by_cases c41 : x11_2 = true
             · subst c41
               rw [if_pos rfl] at H
               have H' := Aside0.mk H
               clear H
               go_wp2
               go_roundg k2
               case measure => have := HK1.out; have := HK2.out; omega
               case rel => exact ⟨(wrap64 (x10_1 + 1)), (by first | rfl | (simp; done) | (simp [*]; done)), H', ⟨by have := HK1.out; have := HK2.out; omega⟩, ⟨zK BK251.out⟩, ⟨zB⟩⟩
             · replace c41 := Bool.eq_false_iff.mpr c41
               subst c41
               have H1 : (some false) = some r := by rw [if_neg (show ¬ (false = true) by decide)] at H; exact H
               clear H
               have H := H1
               clear H1
               obtain rfl := Option.some.inj H
               go_wp2
               go_ret
               exact ⟨by first | rfl | (simp [errW_none, errW_some] <;> rfl) | (simp [*, errW_none, errW_some] <;> rfl), zB⟩
       · rw [if_neg c31] at H
         have c31b0 : decide (x10_1 < a0_0) = false := decide_eq_false c31
         clear c31
         obtain rfl := Option.some.inj H
         have hcz42_0 := zy BK251 0
         have hcz42_1 := zy BK251 1
         have hfz42_0 := blk_frozen BK251.out 0
         have hfz42_1 := blk_frozen BK251.out 1
         go_wp2
         go_ret
         exact ⟨by first | rfl | (simp [errW_none, errW_some] <;> rfl) | (simp [*, errW_none, errW_some] <;> rfl), zB⟩

end Go.Proofs.Ytfaeopmofgnbdaa.P
