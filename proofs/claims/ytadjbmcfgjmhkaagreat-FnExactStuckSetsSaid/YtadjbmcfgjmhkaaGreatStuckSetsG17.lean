-- Written by a program of this session (the kit's print, turned: wip/print/patch.py) out of the translation. Not trusted: Lean checks it.
import Derived.Test.YtadjbmcfgjmhkaaGreatStuckSetsG5
import Derived.Test.YtadjbmcfgjmhkaaGreatStuckSetsG16
import Derived.Test.YtadjbmcfgjmhkaaGreatStuckSetsG12
import Derived.Test.YtadjbmcfgjmhkaaGreatStuckSetsG9
import Derived.Test.YtadjbmcfgjmhkaaGreatStuckSetsG15
import Derived.Test.YtadjbmcfgjmhkaaGreatStuckSetsG8
import Derived.Test.YtadjbmcfgjmhkaaGreatStuckSetsG6
namespace Go.Proofs.YtadjbmcfgjmhkaaGreat.P
open Go.RowKit Go.Proofs.YtadjbmcfgjmhkaaGreatW.PrintWords Go.Proofs.YtadjbmcfgjmhkaaGreatW.PrintLast Go.Proofs.YtadjbmcfgjmhkaaGreatW.PrintMore
attribute [local go_sem] max2_int min2_int max_two min_two max_three min_three max_four min_four   -- for this text's walks alone
set_option linter.unusedVariables false
set_option linter.unusedSimpArgs false

attribute [local go_sem high] eqA69
/-! ### impl_moves: function 88 -/
def impl_moves.f (k : Nat) (l0 : List Int) (l1 : List Int) : Option (Int × Int) := (impl_bagOf.f k l0).bind fun t278 => ((impl_bagOf.f k l1).bind fun t279 => (some (Go.bits .andNot .u64 t278 t279, Go.bits .andNot .u64 t279 t278)))
set_option maxHeartbeats 8000000 in
set_option maxRecDepth 100000 in
theorem impl_moves.calls (k : Nat) (A0 : Option Addr) (c0 : Nat) (l0 : List Int) (A1 : Option Addr) (c1 : Nat) (l1 : List Int) (r1 : Int) (r2 : Int) (w : World) (hr0 : Kd.C (Kd.int .i64) w A0 l0.length l0) (hc0 : l0.length ≤ c0) (hr1 : Kd.C (Kd.int .i64) w A1 l1.length l1) (hc1 : l1.length ≤ c1) (h : impl_moves.f k l0 l1 = some (r1, r2)) :
 Calls Tryz.prog 88 #[.slice A0 l0.length c0, .slice A1 l1.length c1] w fun e w' => e = .returned (.tuple #[.int .u64 r1, .int .u64 r2]) ∧ Drawn0 w w' := by
 have HR0 := Aside0.mk hr0
 have HC0 := Aside0.mk hc0
 clear hr0 hc0
 have HR1 := Aside0.mk hr1
 have HC1 := Aside0.mk hc1
 clear hr1 hc1
 have H : ((impl_bagOf.f k l0).bind fun t278 => ((impl_bagOf.f k l1).bind fun t279 => (some (Go.bits .andNot .u64 t278 t279, Go.bits .andNot .u64 t279 t278)))) = some (r1, r2) := h
 clear h
 replace H := Option.bind_eq_some_iff.mp H
 obtain ⟨t278, A30, H⟩ := H
 replace H : ((impl_bagOf.f k l1).bind fun t279 => (some (Go.bits .andNot .u64 t278 t279, Go.bits .andNot .u64 t279 t278))) = some (r1, r2) := H
 have A3 := Aside0.mk A30
 clear A30
 replace H := Option.bind_eq_some_iff.mp H
 obtain ⟨t279, A40, H⟩ := H
 replace H : (some (Go.bits .andNot .u64 t278 t279, Go.bits .andNot .u64 t279 t278)) = some (r1, r2) := H
 have A4 := Aside0.mk A40
 clear A40
 simp only [Option.some.injEq, Prod.mk.injEq] at H
 obtain ⟨rfl, rfl⟩ := H
 go_enter Tryz.func88, Tryz.ntmps88
 go_wp2_with (first | ((with_reducible refine gate_callee (f := 74) rfl ?_); refine zc 9 Tryz.func74 #[.slice A0 l0.length c0] ?_; (with_reducible refine (impl_bagOf.calls k _ _ l0 t278 _ ?side1 ?side2 A3.out).mono ?_); (case side1 => exact zC HR0.out); (case side2 => exact HC0.out); rintro e w' ⟨rfl, ⟨nd, rfl⟩⟩; refine ⟨_, rfl, ?_⟩) | ((with_reducible refine gate_callee (f := 74) rfl ?_); refine zc 11 Tryz.func74 #[.slice A1 l1.length c1] ?_; (with_reducible refine (impl_bagOf.calls k _ _ l1 t279 _ ?side1 ?side2 A4.out).mono ?_); (case side1 => exact zC HR1.out); (case side2 => exact HC1.out); rintro e w' ⟨rfl, ⟨nd, rfl⟩⟩; refine ⟨_, rfl, ?_⟩))
 go_ret2
 exact ⟨by first | rfl | (simp; done) | (simp [*]; done), by repeat (first | exact Drawn0.refl _ | apply Drawn0.step)⟩

/-! ### impl_isAdding: function 79 -/
def impl_isAdding.f (k : Nat) (l0 : List Int) (l1 : List Int) : Option (Bool) := (impl_moves.f k l0 l1).bind fun bt284 => ((impl_bag_size.f bt284.1).bind fun t286 => ((impl_bag_size.f bt284.2).bind fun t287 => (some ((wrap64 (t286 + t287)) == 1))))
set_option maxHeartbeats 8000000 in
set_option maxRecDepth 100000 in
theorem impl_isAdding.calls (k : Nat) (A0 : Option Addr) (c0 : Nat) (l0 : List Int) (A1 : Option Addr) (c1 : Nat) (l1 : List Int) (r : Bool) (w : World) (hr0 : Kd.C (Kd.int .i64) w A0 l0.length l0) (hc0 : l0.length ≤ c0) (hr1 : Kd.C (Kd.int .i64) w A1 l1.length l1) (hc1 : l1.length ≤ c1) (h : impl_isAdding.f k l0 l1 = some r) :
 Calls Tryz.prog 79 #[.slice A0 l0.length c0, .slice A1 l1.length c1] w fun e w' => e = .returned (.bool r) ∧ Below w.heap.size w w' := by
 have HR0 := Aside0.mk hr0
 have HC0 := Aside0.mk hc0
 clear hr0 hc0
 have HR1 := Aside0.mk hr1
 have HC1 := Aside0.mk hc1
 clear hr1 hc1
 have HB := zM (Below.refl w.heap.size w)
 have H : ((impl_moves.f k l0 l1).bind fun bt284 => ((impl_bag_size.f bt284.1).bind fun t286 => ((impl_bag_size.f bt284.2).bind fun t287 => (some ((wrap64 (t286 + t287)) == 1))))) = some r := h
 clear h
 replace H := Option.bind_eq_some_iff.mp H
 obtain ⟨⟨t284, t285⟩, A30, H⟩ := H
 replace H : ((impl_bag_size.f t284).bind fun t286 => ((impl_bag_size.f t285).bind fun t287 => (some ((wrap64 (t286 + t287)) == 1)))) = some r := H
 have A3 := Aside0.mk A30
 clear A30
 replace H := Option.bind_eq_some_iff.mp H
 obtain ⟨t286, A40, H⟩ := H
 have A4 := Aside0.mk A40
 clear A40
 replace H := Option.bind_eq_some_iff.mp H
 obtain ⟨t287, A50, H⟩ := H
 have A5 := Aside0.mk A50
 clear A50
 obtain rfl := Option.some.inj H
 go_enter Tryz.func79, Tryz.ntmps79
 go_wp2_with (first | ((with_reducible refine gate_callee (f := 88) rfl ?_); refine zc 10 Tryz.func88 #[.slice A0 l0.length c0, .slice A1 l1.length c1] ?_; (with_reducible refine (impl_moves.calls k _ _ l0 _ _ l1 t284 t285 _ ?side1 ?side2 ?side3 ?side4 A3.out).mono ?_); (case side1 => exact zC HR0.out); (case side2 => exact HC0.out); (case side3 => exact zC HR1.out); (case side4 => exact HC1.out); rintro e w' ⟨rfl, ⟨nd, rfl⟩⟩; refine ⟨_, rfl, ?_⟩) | ((with_reducible refine gate_callee (f := 89) rfl ?_); refine zc 14 Tryz.func89 #[.int .u64 t284] ?_; (with_reducible refine (impl_bag_size.calls t284 t286 _ A4.out).mono ?_); rintro e w6 ⟨rfl, hb⟩; refine ⟨_, rfl, ?_⟩; replace HB := zM (below_step zB hb); (try clear hb); (try clear hb2); (try clear hk); (try clear hi)) | ((with_reducible refine gate_callee (f := 89) rfl ?_); refine zc 16 Tryz.func89 #[.int .u64 t285] ?_; (with_reducible refine (impl_bag_size.calls t285 t287 _ A5.out).mono ?_); rintro e w7 ⟨rfl, hb⟩; refine ⟨_, rfl, ?_⟩; replace HB := zM (below_step zB hb); (try clear hb); (try clear hb2); (try clear hk); (try clear hi)))
 go_ret
 exact ⟨by first | rfl | (simp [errW_none, errW_some] <;> rfl) | (simp [*, errW_none, errW_some] <;> rfl), zB⟩

/-! ### slices_Index_2_int_2_int: function 136 -/
def slices_Index_2_int_2_int.l0 : Nat → List (S69) → Int → Int → Int → Int → Option (Int)
 | 0, _, _, _, _, _ => none
 | k + 1, x0, x7, x8, x289000, x289001 => if x8 < x7 then (if 0 ≤ x8 then (if x8 < (x0.length : Int) then (if (x289000 == ((rd_T69 x0 x8).f0) && (x289001 == ((rd_T69 x0 x8).f1))) = true then (some x8) else (slices_Index_2_int_2_int.l0 k x0 x7 (wrap64 (x8 + 1)) x289000 x289001)) else (none)) else (none)) else (some (-1))
def slices_Index_2_int_2_int.f (k : Nat) (l0 : List (S69)) (a1_0 : Int) (a1_1 : Int) : Option (Int) := slices_Index_2_int_2_int.l0 k l0 (l0.length : Int) 0 a1_0 a1_1
set_option maxHeartbeats 8000000 in
set_option maxRecDepth 100000 in
theorem slices_Index_2_int_2_int.calls (k : Nat) (A0 : Option Addr) (c0 : Nat) (l0 : List (S69)) (a1_0 : Int) (a1_1 : Int) (r : Int) (w : World) (hr0 : Kd.C k69 w A0 l0.length l0) (hc0 : l0.length ≤ c0) (h : slices_Index_2_int_2_int.f k l0 a1_0 a1_1 = some r) :
 Calls Tryz.prog 136 #[.slice A0 l0.length c0, .agg #[.int .i64 a1_0, .int .i64 a1_1]] w fun e w' => e = .returned (.int .i64 r) ∧ Below w.heap.size w w' := by
 have hu69 := Tryz.underlying69
 have HR0 := Aside0.mk hr0
 have HC0 := Aside0.mk hc0
 clear hr0 hc0
 have HB := zM (Below.refl w.heap.size w)
 have H : (slices_Index_2_int_2_int.l0 k l0 (l0.length : Int) 0 a1_0 a1_1) = some r := h
 clear h
 have H' := Aside0.mk H
 clear H
 go_enter Tryz.func136, Tryz.ntmps136
 go_wp2_with (first | ((with_reducible refine gate_dst (N := 3) rfl ?_); refine zb (w := w) 3 #[.int .i64 a1_0, .int .i64 a1_1] 69 zB ?_; clear HB; intro gb288 w3 HB BK288 GW288; have GE288 := GW288))
 repeat (go_quiet (first | ((with_reducible refine gate_dst (N := 3) rfl ?_); refine zb (w := w) 3 #[.int .i64 a1_0, .int .i64 a1_1] 69 zB ?_; clear HB; intro gb288 w3 HB BK288 GW288; have GE288 := GW288)); try go_wp2_with (first | ((with_reducible refine gate_dst (N := 3) rfl ?_); refine zb (w := w) 3 #[.int .i64 a1_0, .int .i64 a1_1] 69 zB ?_; clear HB; intro gb288 w3 HB BK288 GW288; have GE288 := GW288)))
 go_loopg [8] k (fun kq v8 w' => ∃ (x8_1 : Int), v8 = .int .i64 x8_1 ∧ Aside0 (slices_Index_2_int_2_int.l0 kq l0 (l0.length : Int) x8_1 a1_0 a1_1 = some r) ∧ Aside0 (kq ≤ k) ∧ Aside0 (w'.heap[gb288]? = some (.cells #[.int .i64 a1_0, .int .i64 a1_1] 69 (0, 0))) ∧ Aside0 (Below w.heap.size w w'))
 case atStart => exact ⟨(0), (by first | rfl | (simp; done) | (simp [*]; done)), H', ⟨Nat.le_refl _⟩, ⟨zK BK288.out⟩, ⟨zB⟩⟩
 case round =>
  clear H'
  try clear c1
  try clear p2
  obtain ⟨x8_1, rfl, HA, HK1, BK288, HB⟩ := hrel
  cases gk with
  | zero => exact absurd HA.out (by simp [slices_Index_2_int_2_int.l0])
  | succ k1 =>
   have H := HA.out
   clear HA
   simp only [slices_Index_2_int_2_int.l0] at H
   by_cases c4 : x8_1 < (l0.length : Int)
   · rw [if_pos c4] at H
     have c4b0 := decide_eq_true c4
     clear c4
     by_cases c5 : 0 ≤ x8_1
     · rw [if_pos c5] at H
       have c5b0 := decide_eq_true c5
       clear c5
       by_cases c6 : x8_1 < (l0.length : Int)
       · rw [if_pos c6] at H
         have c6b0 := decide_eq_true c6
         clear c6
         by_cases c7 : (a1_0 == ((rd_T69 l0 x8_1).f0) && (a1_1 == ((rd_T69 l0 x8_1).f1))) = true
         · rw [if_pos c7] at H
           have c7b0 : (a1_0 == ((rd_T69 l0 x8_1).f0) && (a1_1 == ((rd_T69 l0 x8_1).f1))) = true := c7
           (try (have c7b1 : decide (a1_0 = ((rd_T69 l0 x8_1).f0) && (a1_1 == ((rd_T69 l0 x8_1).f1))) = true := by simpa using c7))
           (try (have c7b2 : (a1_0 == ((rd_T69 l0 x8_1).f0) && (a1_1 == ((rd_T69 l0 x8_1).f1))) = true := by simpa using c7))
           clear c7
           obtain rfl := Option.some.inj H
           have hcz8_0 := zy BK288 0
           have hcz8_1 := zy BK288 1
           have hfz8_0 := blk_frozen BK288.out 0
           have hfz8_1 := blk_frozen BK288.out 1
           have p289 : 0 ≤ (x8_1 : Int) := of_decide_eq_true zA
           have q289 : x8_1 < (l0.length : Int) := of_decide_eq_true zA
           obtain ⟨ad289, e289, hx289_0, hx289_1⟩ := at_T69 HR0.out x8_1 p289 q289
           cases e289
           (try replace hx289_0 := (HB.out.cell (World.block_lt_of_cell? w _ hx289_0)).trans hx289_0)
           (try replace hx289_1 := (HB.out.cell (World.block_lt_of_cell? w _ hx289_1)).trans hx289_1)
           replace p289 := eq_true p289
           replace q289 := eq_true q289
           go_wp2
           repeat (go_quiet (fail); try go_wp2)
           go_ret
           exact ⟨by first | rfl | (simp [errW_none, errW_some] <;> rfl) | (simp [*, errW_none, errW_some] <;> rfl), zB⟩
         · rw [if_neg c7] at H
           have c7b0 : (a1_0 == ((rd_T69 l0 x8_1).f0) && (a1_1 == ((rd_T69 l0 x8_1).f1))) = false := by simpa using c7
           (try (have c7b1 : decide (a1_0 = ((rd_T69 l0 x8_1).f0) && (a1_1 == ((rd_T69 l0 x8_1).f1))) = false := by simpa using c7))
           (try (have c7b2 : (a1_0 == ((rd_T69 l0 x8_1).f0) && (a1_1 == ((rd_T69 l0 x8_1).f1))) = false := by simpa using c7))
           (try (have c7b3 : ¬ (a1_0 = ((rd_T69 l0 x8_1).f0) && (a1_1 == ((rd_T69 l0 x8_1).f1))) := by simpa using c7))
           clear c7
           have H' := Aside0.mk H
           clear H
           have hcz9_0 := zy BK288 0
           have hcz9_1 := zy BK288 1
           have hfz9_0 := blk_frozen BK288.out 0
           have hfz9_1 := blk_frozen BK288.out 1
           have p289 : 0 ≤ (x8_1 : Int) := of_decide_eq_true zA
           have q289 : x8_1 < (l0.length : Int) := of_decide_eq_true zA
           obtain ⟨ad289, e289, hx289_0, hx289_1⟩ := at_T69 HR0.out x8_1 p289 q289
           cases e289
           (try replace hx289_0 := (HB.out.cell (World.block_lt_of_cell? w _ hx289_0)).trans hx289_0)
           (try replace hx289_1 := (HB.out.cell (World.block_lt_of_cell? w _ hx289_1)).trans hx289_1)
           replace p289 := eq_true p289
           replace q289 := eq_true q289
           go_wp2
           repeat (go_quiet (fail); try go_wp2)
           go_roundg k1
           case measure => have := HK1.out; omega
           case rel => exact ⟨(wrap64 (x8_1 + 1)), (by first | rfl | (simp; done) | (simp [*]; done)), H', ⟨by have := HK1.out; omega⟩, ⟨zK BK288.out⟩, ⟨zB⟩⟩
       · rw [if_neg c6] at H
         exact absurd H (by simp)
     · rw [if_neg c5] at H
       exact absurd H (by simp)
   · rw [if_neg c4] at H
     have c4b0 : decide (x8_1 < (l0.length : Int)) = false := decide_eq_false c4
     clear c4
     obtain rfl := Option.some.inj H
     go_wp2
     repeat (go_quiet (fail); try go_wp2)
     go_ret
     exact ⟨by first | rfl | (simp [errW_none, errW_some] <;> rfl) | (simp [*, errW_none, errW_some] <;> rfl), zB⟩

/-! ### slices_Contains_2_int_2_int: function 107 -/
def slices_Contains_2_int_2_int.f (k : Nat) (l0 : List (S69)) (a1_0 : Int) (a1_1 : Int) : Option (Bool) := (slices_Index_2_int_2_int.f k l0 a1_0 a1_1).bind fun t291 => (some (decide (t291 ≥ 0)))
set_option maxHeartbeats 8000000 in
set_option maxRecDepth 100000 in
theorem slices_Contains_2_int_2_int.calls (k : Nat) (A0 : Option Addr) (c0 : Nat) (l0 : List (S69)) (a1_0 : Int) (a1_1 : Int) (r : Bool) (w : World) (hr0 : Kd.C k69 w A0 l0.length l0) (hc0 : l0.length ≤ c0) (h : slices_Contains_2_int_2_int.f k l0 a1_0 a1_1 = some r) :
 Calls Tryz.prog 107 #[.slice A0 l0.length c0, .agg #[.int .i64 a1_0, .int .i64 a1_1]] w fun e w' => e = .returned (.bool r) ∧ Below w.heap.size w w' := by
 have hu69 := Tryz.underlying69
 have HR0 := Aside0.mk hr0
 have HC0 := Aside0.mk hc0
 clear hr0 hc0
 have HB := zM (Below.refl w.heap.size w)
 have H : ((slices_Index_2_int_2_int.f k l0 a1_0 a1_1).bind fun t291 => (some (decide (t291 ≥ 0)))) = some r := h
 clear h
 replace H := Option.bind_eq_some_iff.mp H
 obtain ⟨t291, A30, H⟩ := H
 have A3 := Aside0.mk A30
 clear A30
 obtain rfl := Option.some.inj H
 go_enter Tryz.func107, Tryz.ntmps107
 go_wp2_with (first | ((with_reducible refine gate_dst (N := 3) rfl ?_); refine zb (w := w) 3 #[.int .i64 a1_0, .int .i64 a1_1] 69 zB ?_; clear HB; intro gb290 w4 HB BK290 GW290; have GE290 := GW290; have hcz5_0 := zy BK290 0; have hcz5_1 := zy BK290 1; have hfz5_0 := blk_frozen BK290.out 0; have hfz5_1 := blk_frozen BK290.out 1) | ((with_reducible refine gate_callee (f := 136) rfl ?_); refine zc 7 Tryz.func136 #[.slice A0 l0.length c0, .agg #[.int .i64 a1_0, .int .i64 a1_1]] ?_; (with_reducible refine (slices_Index_2_int_2_int.calls k _ _ l0 a1_0 a1_1 t291 _ ?side1 ?side2 A3.out).mono ?_); (case side1 => exact zC (Kd.C_below HR0.out HB.out)); (case side2 => exact HC0.out); rintro e w6 ⟨rfl, hb⟩; refine ⟨_, rfl, ?_⟩; replace BK290 := zM (blk_below (g := gb290) (o := .cells #[.int .i64 a1_0, .int .i64 a1_1] 69 (0, 0)) (zK BK290.out) hb); replace HB := zM (below_step zB hb); (try clear hb); (try clear hb2); (try clear hk); (try clear hi)))
 go_ret
 exact ⟨by first | rfl | (simp [errW_none, errW_some] <;> rfl) | (simp [*, errW_none, errW_some] <;> rfl), zB⟩

end Go.Proofs.YtadjbmcfgjmhkaaGreat.P
namespace Go.Proofs.YtadjbmcfgjmhkaaGreat.P
open Go.RowKit Go.Proofs.YtadjbmcfgjmhkaaGreatW.PrintWords Go.Proofs.YtadjbmcfgjmhkaaGreatW.PrintLast Go.Proofs.YtadjbmcfgjmhkaaGreatW.PrintMore
attribute [local go_sem] max2_int min2_int max_two min_two max_three min_three max_four min_four   -- for this text's walks alone
set_option linter.unusedVariables false
set_option linter.unusedSimpArgs false

/-! ### impl_pair: function 108 -/
def impl_pair.f (a0 : Int) (a1 : Int) : Option (Int × Int) := some (mn a0 a1, mx a0 a1)
set_option maxHeartbeats 8000000 in
set_option maxRecDepth 100000 in
theorem impl_pair.calls (a0 : Int) (a1 : Int) (r1 : Int) (r2 : Int) (w : World) (h : impl_pair.f a0 a1 = some (r1, r2)) :
 Calls Tryz.prog 108 #[.int .i64 a0, .int .i64 a1] w fun e w' => e = .returned (.agg #[.int .i64 r1, .int .i64 r2]) ∧ Below w.heap.size w w' := by
 have hu69 := Tryz.underlying69
 have HB := zM (Below.refl w.heap.size w)
 have H : (some (mn a0 a1, mx a0 a1)) = some (r1, r2) := h
 clear h
 obtain ⟨ji3, hji3⟩ : ∃ j_ : Int, (mn a0 a1) = j_ := ⟨_, rfl⟩
 replace H : (some (ji3, mx a0 a1)) = some (r1, r2) := by first | (rw [hji3] at H; exact H) | (simp only [hji3] at H ⊢; exact H)
 have hji3_ : (if a1 < a0 then a1 else a0) = ji3 := hji3
 obtain ⟨ji4, hji4⟩ : ∃ j_ : Int, (mx a0 a1) = j_ := ⟨_, rfl⟩
 replace H : (some (ji3, ji4)) = some (r1, r2) := by first | (rw [hji4] at H; exact H) | (simp only [hji4] at H ⊢; exact H)
 have hji4_ : (if a0 < a1 then a1 else a0) = ji4 := hji4
 simp only [Option.some.injEq, Prod.mk.injEq] at H
 obtain ⟨rfl, rfl⟩ := H
 go_enter Tryz.func108, Tryz.ntmps108
 go_wp2_with (first | ((with_reducible refine gate_dst (N := 4) rfl ?_); refine zb (w := w) 4 #[.int .i64 0, .int .i64 0] 69 zB ?_; clear HB; intro gb292 w5 HB BK292 GW292; have GE292 := GW292; have hcz6_0 := zy BK292 0; have hcz6_1 := zy BK292 1; have hfz6_0 := blk_frozen BK292.out 0; have hfz6_1 := blk_frozen BK292.out 1))
 refine bodyPost_ret (results_cell_row rfl _ _ gb292 69 #[.int .i64 ji3, .int .i64 ji4] (0, 0) _ rfl (by (with_reducible repeat (first | refine blk_drewN ?_ _ | refine blk_drew ?_ | refine blk_alloc ?_ _)); refine blk_put (cs := #[.int .i64 ji3, .int .i64 0]) ?_ 1 _ rfl; (with_reducible repeat (first | refine blk_drewN ?_ _ | refine blk_drew ?_ | refine blk_alloc ?_ _)); refine blk_put (cs := #[.int .i64 0, .int .i64 0]) ?_ 0 _ rfl; (with_reducible repeat (first | refine blk_drewN ?_ _ | refine blk_drew ?_ | refine blk_alloc ?_ _)); exact BK292.out) Tryz.underlying69 rfl (by kernel_rfl)) rfl ?_
 exact ⟨by first | rfl | (simp [errW_none, errW_some] <;> rfl) | (simp only [← hji3, ← hji4]; first | rfl | (simp [errW_none, errW_some] <;> rfl)) | (simp [*, errW_none, errW_some] <;> rfl), zB⟩

end Go.Proofs.YtadjbmcfgjmhkaaGreat.P
namespace Go.Proofs.YtadjbmcfgjmhkaaGreat.P
open Go.RowKit Go.Proofs.YtadjbmcfgjmhkaaGreatW.PrintWords Go.Proofs.YtadjbmcfgjmhkaaGreatW.PrintLast Go.Proofs.YtadjbmcfgjmhkaaGreatW.PrintMore
attribute [local go_sem] max2_int min2_int max_two min_two max_three min_three max_four min_four   -- for this text's walks alone
set_option linter.unusedVariables false
set_option linter.unusedSimpArgs false

/-! ### impl_Graph_has: function 91 -/
def impl_Graph_has.f (k : Nat) (a0_0 : Int) (l0_1 : List (S69)) (a1 : Int) (a2 : Int) : Option (Bool) := (impl_pair.f a1 a2).bind fun bt294 => ((slices_Contains_2_int_2_int.f k l0_1 bt294.1 bt294.2).bind fun t296 => (some t296))
set_option maxHeartbeats 8000000 in
set_option maxRecDepth 100000 in
theorem impl_Graph_has.calls (k : Nat) (a0_0 : Int) (A0_1 : Option Addr) (c0_1 : Nat) (l0_1 : List (S69)) (a1 : Int) (a2 : Int) (r : Bool) (w : World) (hr0_1 : Kd.C k69 w A0_1 l0_1.length l0_1) (hc0_1 : l0_1.length ≤ c0_1) (h : impl_Graph_has.f k a0_0 l0_1 a1 a2 = some r) :
 Calls Tryz.prog 91 #[.agg #[.int .i64 a0_0, .slice A0_1 l0_1.length c0_1], .int .i64 a1, .int .i64 a2] w fun e w' => e = .returned (.bool r) ∧ Below w.heap.size w w' := by
 have hu30 := Tryz.underlying30
 have HR0_1 := Aside0.mk hr0_1
 have HC0_1 := Aside0.mk hc0_1
 clear hr0_1 hc0_1
 have HB := zM (Below.refl w.heap.size w)
 have H : ((impl_pair.f a1 a2).bind fun bt294 => ((slices_Contains_2_int_2_int.f k l0_1 bt294.1 bt294.2).bind fun t296 => (some t296))) = some r := h
 clear h
 replace H := Option.bind_eq_some_iff.mp H
 obtain ⟨⟨t294, t295⟩, A40, H⟩ := H
 replace H : ((slices_Contains_2_int_2_int.f k l0_1 t294 t295).bind fun t296 => (some t296)) = some r := H
 have A4 := Aside0.mk A40
 clear A40
 replace H := Option.bind_eq_some_iff.mp H
 obtain ⟨t296, A50, H⟩ := H
 have A5 := Aside0.mk A50
 clear A50
 obtain rfl := Option.some.inj H
 go_enter Tryz.func91, Tryz.ntmps91
 try go_wp2_with (first | ((with_reducible refine gate_dst (N := 3) rfl ?_); refine zb (w := w) 3 #[.int .i64 a0_0, .slice A0_1 l0_1.length c0_1] 30 zB ?_; clear HB; intro gb293 w6 HB BK293 GW293; have GE293 := GW293))
 replace BK293 := zM (blk_drew BK293.out)
 replace HB := zM (below_drew1 HB.out)
 refine zs (n := 7) (fun w' => w'.cell? ⟨gb293, 0, none⟩ = some (.int .i64 a0_0) ∧ w'.cell? ⟨gb293, 1, none⟩ = some (.slice A0_1 l0_1.length c0_1)) ⟨(blk_cell BK293.out 0).trans rfl, (blk_cell BK293.out 1).trans rfl⟩ (fun hHeld => ?_)
 generalize w6.drew = w7 at BK293 HB hHeld ⊢
 refine zq 0 7 ?_
 refine zq 2 9 ?_
 refine zq 3 10 ?_
 refine zl 1 8 hHeld ?_ (hy := by rintro w' ⟨s0, s1⟩; go_simp; with_reducible rfl)
 refine zh 4 11 Tryz.func108 #[.int .i64 a1, .int .i64 a2] (fun K hK => ?_)
 with_reducible refine (impl_pair.calls a1 a2 t294 t295 _ A4.out).mono ?_
 rintro e w8 ⟨rfl, hb⟩
 refine ⟨_, rfl, ?_⟩
 replace BK293 := zM (blk_below (g := gb293) (o := .cells #[.int .i64 a0_0, .slice A0_1 l0_1.length c0_1] 30 (0, 0)) (zK BK293.out) hb)
 replace HB := zM (below_step zB hb)
 (try clear hb)
 (try clear hb2)
 (try clear hk)
 (try clear hi)
 refine hK.out _ _ ⟨(blk_cell BK293.out 0).trans rfl, (blk_cell BK293.out 1).trans rfl⟩ (fun hHeld => ?_)
 clear hK K
 refine zn 11 ?_
 refine zh 5 12 Tryz.func107 #[.slice A0_1 l0_1.length c0_1, .agg #[.int .i64 t294, .int .i64 t295]] (fun K hK => ?_)
 with_reducible refine (slices_Contains_2_int_2_int.calls k _ _ l0_1 t294 t295 t296 _ ?side1 ?side2 A5.out).mono ?_
 (case side1 => exact zC (Kd.C_below HR0_1.out HB.out))
 (case side2 => exact HC0_1.out)
 rintro e w9 ⟨rfl, hb⟩
 refine ⟨_, rfl, ?_⟩
 replace BK293 := zM (blk_below (g := gb293) (o := .cells #[.int .i64 a0_0, .slice A0_1 l0_1.length c0_1] 30 (0, 0)) (zK BK293.out) hb)
 replace HB := zM (below_step zB hb)
 (try clear hb)
 (try clear hb2)
 (try clear hk)
 (try clear hi)
 refine hK.out _ _ ⟨(blk_cell BK293.out 0).trans rfl, (blk_cell BK293.out 1).trans rfl⟩ (fun hHeld => ?_)
 clear hK K
 refine zn 12 ?_
 refine zq 6 6 ?_
 refine zx ?_
 try go_wp2
 go_ret
 exact ⟨by first | rfl | (simp [errW_none, errW_some] <;> rfl) | (simp [*, errW_none, errW_some] <;> rfl), zB⟩

/-! ### impl_Graph_isSlide: function 68 -/
/-- What is held in a region may grow. -/
theorem any_moreG17 {P : Program} {md : Region.Mode} {ops : Array Oper} {Q : Exit → Act → World → Prop} {S1 S2 : World → Prop} {fuel : Nat} {l : Array Bool} {a : Act} {w : World} (hsub : ∀ w, S2 w → S1 w) (h2 : S2 w) (H : wpAnyLast P md ops Q S2 [] fuel l a w) : wpAnyLast P md ops Q S1 [] fuel l a w := by
  induction fuel generalizing l a w with
  | zero => exact H
  | succ fuel ih => exact ⟨H.1, fun i hi => wpOp_mono (fun a' w' h => ⟨fun hd _ => hsub _ (h.1 hd h2), ih (h.1 (by simp) h2) h.2⟩) (H.2 i hi)⟩
def impl_Graph_isSlide.f (k : Nat) (a0_0 : Int) (l0_1 : List (S69)) (l1 : List Int) (l2 : List Int) : Option (Bool) := (impl_moves.f k l1 l2).bind fun bt298 => ((impl_bag_size.f bt298.1).bind fun t300 => (if t300 = 1 then ((impl_bag_size.f bt298.2).bind fun t301 => (if t301 = 1 then ((impl_bag_list.f k bt298.1).bind fun t302 => (if 0 < (t302.length : Int) then ((impl_bag_list.f k bt298.2).bind fun t306 => (if 0 < (t306.length : Int) then ((impl_Graph_has.f k a0_0 l0_1 (rd t302 0) (rd t306 0)).bind fun t310 => (some t310)) else (none))) else (none))) else (some false))) else (some false)))
def impl_Graph_isSlide.T2 : Bool × List (List Nat × List Nat) := (true, [([], []), ([0], [0]), ([1], [1]), ([2, 1], [2]), ([3], [3]), ([4, 3, 3], [3, 4]), ([5, 3], [3, 5]), ([3, 6], [3, 6]), ([7, 5], [7]), ([8], [8]), ([8], [8]), ([10, 8, 8], [8, 10]), ([11, 8], [8, 11]), ([12, 8], [8, 12]), ([8], [8]), ([14, 11, 8], [8, 14]), ([15, 8], [8, 15]), ([16, 8], [8, 16]), ([9, 13, 17, 15, 8], [8, 9, 13, 17]), ([8, 18], [8, 18]), ([19, 18, 0, 1, 2, 3, 4, 5, 6, 7, 8, 9, 10, 11, 12, 13, 14, 15, 16, 17, 18, 19], [19])])
def impl_Graph_isSlide.B2 : List Nat := [0, 1, 3, 7, 15, 31, 63, 127, 255, 511, 511, 1535, 3583, 7679, 511, 19967, 52735, 118271, 262143, 524287, 1048575]
theorem impl_Graph_isSlide.tab2 : rtab .any (opsOf Tryz.f68 2) = impl_Graph_isSlide.T2 := by kernel_rfl
theorem impl_Graph_isSlide.bits2 : waitsOk impl_Graph_isSlide.T2.2 impl_Graph_isSlide.B2 = true := by kernel_rfl
set_option maxHeartbeats 8000000 in
set_option maxRecDepth 100000 in
theorem impl_Graph_isSlide.calls (k : Nat) (a0_0 : Int) (A0_1 : Option Addr) (c0_1 : Nat) (l0_1 : List (S69)) (A1 : Option Addr) (c1 : Nat) (l1 : List Int) (A2 : Option Addr) (c2 : Nat) (l2 : List Int) (r : Bool) (w : World) (hr0_1 : Kd.C k69 w A0_1 l0_1.length l0_1) (hc0_1 : l0_1.length ≤ c0_1) (hr1 : Kd.C (Kd.int .i64) w A1 l1.length l1) (hc1 : l1.length ≤ c1) (hr2 : Kd.C (Kd.int .i64) w A2 l2.length l2) (hc2 : l2.length ≤ c2) (h : impl_Graph_isSlide.f k a0_0 l0_1 l1 l2 = some r) :
 Calls Tryz.prog 68 #[.agg #[.int .i64 a0_0, .slice A0_1 l0_1.length c0_1], .slice A1 l1.length c1, .slice A2 l2.length c2] w fun e w' => e = .returned (.bool r) ∧ Below w.heap.size w w' := by
 have hu30 := Tryz.underlying30
 have HR0_1 := Aside0.mk hr0_1
 have HC0_1 := Aside0.mk hc0_1
 clear hr0_1 hc0_1
 have HR1 := Aside0.mk hr1
 have HC1 := Aside0.mk hc1
 clear hr1 hc1
 have HR2 := Aside0.mk hr2
 have HC2 := Aside0.mk hc2
 clear hr2 hc2
 have HB := zM (Below.refl w.heap.size w)
 have H : ((impl_moves.f k l1 l2).bind fun bt298 => ((impl_bag_size.f bt298.1).bind fun t300 => (if t300 = 1 then ((impl_bag_size.f bt298.2).bind fun t301 => (if t301 = 1 then ((impl_bag_list.f k bt298.1).bind fun t302 => (if 0 < (t302.length : Int) then ((impl_bag_list.f k bt298.2).bind fun t306 => (if 0 < (t306.length : Int) then ((impl_Graph_has.f k a0_0 l0_1 (rd t302 0) (rd t306 0)).bind fun t310 => (some t310)) else (none))) else (none))) else (some false))) else (some false)))) = some r := h
 clear h
 replace H := Option.bind_eq_some_iff.mp H
 obtain ⟨⟨t298, t299⟩, A40, H⟩ := H
 replace H : ((impl_bag_size.f t298).bind fun t300 => (if t300 = 1 then ((impl_bag_size.f t299).bind fun t301 => (if t301 = 1 then ((impl_bag_list.f k t298).bind fun t302 => (if 0 < (t302.length : Int) then ((impl_bag_list.f k t299).bind fun t306 => (if 0 < (t306.length : Int) then ((impl_Graph_has.f k a0_0 l0_1 (rd t302 0) (rd t306 0)).bind fun t310 => (some t310)) else (none))) else (none))) else (some false))) else (some false))) = some r := H
 have A4 := Aside0.mk A40
 clear A40
 replace H := Option.bind_eq_some_iff.mp H
 obtain ⟨t300, A50, H⟩ := H
 have A5 := Aside0.mk A50
 clear A50
 by_cases c6 : t300 = 1
 · rw [if_pos c6] at H
   have c6b0 : (t300 == 1) = true := beq_iff_eq.mpr c6
   have c6b1 : (t300 != 1) = false := bne_eq_false_iff_eq.mpr c6
   clear c6
   replace H := Option.bind_eq_some_iff.mp H
   obtain ⟨t301, A70, H⟩ := H
   have A7 := Aside0.mk A70
   clear A70
   by_cases c8 : t301 = 1
   · rw [if_pos c8] at H
     have c8b0 : (t301 == 1) = true := beq_iff_eq.mpr c8
     have c8b1 : (t301 != 1) = false := bne_eq_false_iff_eq.mpr c8
     clear c8
     replace H := Option.bind_eq_some_iff.mp H
     obtain ⟨t302, A90, H⟩ := H
     have A9 := Aside0.mk A90
     clear A90
     by_cases c10 : 0 < (t302.length : Int)
     · rw [if_pos c10] at H
       have c10b0 := decide_eq_true c10
       have c10b1 : decide (0 < t302.length) = true := decide_eq_true (by omega)
       clear c10
       replace H := Option.bind_eq_some_iff.mp H
       obtain ⟨t306, A110, H⟩ := H
       have A11 := Aside0.mk A110
       clear A110
       by_cases c12 : 0 < (t306.length : Int)
       · rw [if_pos c12] at H
         have c12b0 := decide_eq_true c12
         have c12b1 : decide (0 < t306.length) = true := decide_eq_true (by omega)
         clear c12
         replace H := Option.bind_eq_some_iff.mp H
         obtain ⟨t310, A130, H⟩ := H
         have A13 := Aside0.mk A130
         clear A130
         obtain rfl := Option.some.inj H
         go_enter Tryz.func68, Tryz.ntmps68
         try go_wp2_with (first | ((with_reducible refine gate_dst (N := 3) rfl ?_); refine zb (w := w) 3 #[.int .i64 a0_0, .slice A0_1 l0_1.length c0_1] 30 zB ?_; clear HB; intro gb297 w14 HB BK297 GW297; have GE297 := GW297) | ((with_reducible refine gate_callee (f := 88) rfl ?_); refine zc 12 Tryz.func88 #[.slice A1 l1.length c1, .slice A2 l2.length c2] ?_; (with_reducible refine (impl_moves.calls k _ _ l1 _ _ l2 t298 t299 _ ?side1 ?side2 ?side3 ?side4 A4.out).mono ?_); (case side1 => exact zC (Kd.C_below HR1.out HB.out)); (case side2 => exact HC1.out); (case side3 => exact zC (Kd.C_below HR2.out HB.out)); (case side4 => exact HC2.out); rintro e w' ⟨rfl, ⟨nd, rfl⟩⟩; refine ⟨_, rfl, ?_⟩))
         (try (rw [drewN_self w14]; generalize hq_ : World.drewN w14 _ = w14; have n0_ : Aside0 (w14.heap[gb297]? = some (.cells #[.int .i64 a0_0, .slice A0_1 l0_1.length c0_1] 30 (0, 0))) := ⟨by rw [← hq_]; exact (zK BK297.out)⟩; have n1_ : Aside0 (Below w.heap.size w w14) := ⟨by rw [← hq_]; exact zB⟩; clear BK297 HB hq_; have BK297 := n0_; have HB := n1_; clear n0_ n1_))
         replace BK297 := zM (blk_drew BK297.out)
         replace HB := zM (below_drew1 HB.out)
         refine zs (n := 21) (fun w' => w'.cell? ⟨gb297, 0, none⟩ = some (.int .i64 a0_0) ∧ w'.cell? ⟨gb297, 1, none⟩ = some (.slice A0_1 l0_1.length c0_1)) ⟨(blk_cell BK297.out 0).trans rfl, (blk_cell BK297.out 1).trans rfl⟩ (fun hHeld => ?_); refine with_tabW impl_Graph_isSlide.tab2 impl_Graph_isSlide.bits2 (fun HT_ HW_ => ?_)
         generalize w14.drew = w15 at BK297 HB hHeld ⊢
         refine zp HT_ 0 15 ?_
         refine zg HT_ 1 16 Tryz.func89 #[.int .u64 t298] (fun K hK => ?_)
         with_reducible refine (impl_bag_size.calls t298 t300 _ A5.out).mono ?_
         rintro e w16 ⟨rfl, hb⟩
         refine ⟨_, rfl, ?_⟩
         replace BK297 := zM (blk_below (g := gb297) (o := .cells #[.int .i64 a0_0, .slice A0_1 l0_1.length c0_1] 30 (0, 0)) (zK BK297.out) hb)
         replace HB := zM (below_step zB hb)
         (try clear hb)
         (try clear hb2)
         (try clear hk)
         (try clear hi)
         refine hK.out _ _ ⟨(blk_cell BK297.out 0).trans rfl, (blk_cell BK297.out 1).trans rfl⟩ (fun hHeld => ?_)
         clear hK K
         refine zn 16 ?_
         refine zp HT_ 2 17 ?_
         refine zp HT_ 3 18 ?_
         refine zp HT_ 4 19 ?_
         refine zg HT_ 5 20 Tryz.func89 #[.int .u64 t299] (fun K hK => ?_)
         with_reducible refine (impl_bag_size.calls t299 t301 _ A7.out).mono ?_
         rintro e w17 ⟨rfl, hb⟩
         refine ⟨_, rfl, ?_⟩
         replace BK297 := zM (blk_below (g := gb297) (o := .cells #[.int .i64 a0_0, .slice A0_1 l0_1.length c0_1] 30 (0, 0)) (zK BK297.out) hb)
         replace HB := zM (below_step zB hb)
         (try clear hb)
         (try clear hb2)
         (try clear hk)
         (try clear hi)
         refine hK.out _ _ ⟨(blk_cell BK297.out 0).trans rfl, (blk_cell BK297.out 1).trans rfl⟩ (fun hHeld => ?_)
         clear hK K
         refine zn 20 ?_
         refine zp HT_ 6 21 ?_
         refine zp HT_ 7 22 ?_
         refine zp HT_ 8 23 ?_
         refine zp HT_ 10 25 ?_
         refine zp HT_ 14 29 ?_
         refine zt HT_ HW_ 9 24 hHeld ?_ (hy := by rintro w' ⟨s0, s1⟩; go_simp; with_reducible rfl)
         refine zg HT_ 11 26 Tryz.func76 #[.int .u64 t298] (fun K hK => ?_)
         with_reducible refine (impl_bag_list.calls k t298 t302 _ A9.out).mono ?_
         rintro e w18 ⟨v303, rfl, ho0, hb⟩
         refine ⟨_, rfl, ?_⟩
         have HO304 := zM (Kd.R_lower ho0 (below_size zB))
         replace BK297 := zM (blk_below (g := gb297) (o := .cells #[.int .i64 a0_0, .slice A0_1 l0_1.length c0_1] 30 (0, 0)) (zK BK297.out) hb)
         replace HB := zM (below_step zB hb)
         (try clear hb)
         (try clear hb2)
         (try clear hk)
         (try clear hi)
         (try clear ho0)
         obtain ⟨Ao19, co19, eo19⟩ := Kd.R_slice HO304.out
         (first | subst eo19 | (injection eo19 with f1_ f2_ f3_; have f4_ := f1_.symm; have f5_ := f3_.symm; clear f1_ f2_ f3_; subst f4_; subst f5_))
         have p305 : 0 ≤ (0 : Int) := (by omega)
         have q305 : 0 < (t302.length : Int) := of_decide_eq_true zA
         obtain ⟨ad305, e305, hx305_0⟩ := Kd.at_int (Kd.R_reads' HO304.out).2.2 0 p305 q305
         cases e305
         have qi305 : (0 < t302.length) = True := eq_true (by omega)
         (try rw [show ((0 : Int)).toNat = 0 from rfl] at hx305_0)
         (try rw [Addr.add_zero'] at hx305_0)
         replace p305 := eq_true p305
         replace q305 := eq_true q305
         refine hK.out _ _ ⟨(blk_cell BK297.out 0).trans rfl, (blk_cell BK297.out 1).trans rfl⟩ (fun hHeld => ?_)
         have hMore_ := hHeld
         clear hHeld
         refine any_moreG17 (S2 := fun w' => w'.cell? ⟨gb297, 0, none⟩ = some (.int .i64 a0_0) ∧ w'.cell? ⟨gb297, 1, none⟩ = some (.slice A0_1 l0_1.length c0_1) ∧ w'.cell? ad305 = some (.int .i64 (rd t302 0))) (fun _ h => ⟨h.1, h.2.1⟩) ⟨hMore_.1, hMore_.2, hx305_0⟩ ?_
         have hHeld := (⟨hMore_.1, hMore_.2, hx305_0⟩ : _ ∧ _ ∧ _)
         clear hMore_
         clear hK K
         refine zn 26 ?_
         refine zp HT_ 12 27 ?_
         refine zt HT_ HW_ 13 28 hHeld ?_ (hy := by rintro w' ⟨s0, s1, s2⟩; go_simp; with_reducible rfl)
         refine zg HT_ 15 30 Tryz.func76 #[.int .u64 t299] (fun K hK => ?_)
         with_reducible refine (impl_bag_list.calls k t299 t306 _ A11.out).mono ?_
         rintro e w20 ⟨v307, rfl, ho0, hb⟩
         have HS2_ := (hb.cell (World.block_lt_of_cell? _ _ (hHeld.2.2))).trans (hHeld.2.2)
         refine ⟨_, rfl, ?_⟩
         have HO308 := zM (Kd.R_lower (Kd.R_new' ho0 (Kd.R_lt (zR HO304.out))) (below_size zB))
         replace HO304 := zM (Kd.R_elder' (zR HO304.out) (Kd.R_base ho0) hb)
         replace BK297 := zM (blk_below (g := gb297) (o := .cells #[.int .i64 a0_0, .slice A0_1 l0_1.length c0_1] 30 (0, 0)) (zK BK297.out) hb)
         replace HB := zM (below_step zB hb)
         (try clear hb)
         (try clear hb2)
         (try clear hk)
         (try clear hi)
         (try clear ho0)
         obtain ⟨Ao21, co21, eo21⟩ := Kd.R_slice HO308.out
         (first | subst eo21 | (injection eo21 with f1_ f2_ f3_; have f4_ := f1_.symm; have f5_ := f3_.symm; clear f1_ f2_ f3_; subst f4_; subst f5_))
         have p309 : 0 ≤ (0 : Int) := (by omega)
         have q309 : 0 < (t306.length : Int) := of_decide_eq_true zA
         obtain ⟨ad309, e309, hx309_0⟩ := Kd.at_int (Kd.R_reads' HO308.out).2.2 0 p309 q309
         cases e309
         have qi309 : (0 < t306.length) = True := eq_true (by omega)
         (try rw [show ((0 : Int)).toNat = 0 from rfl] at hx309_0)
         (try rw [Addr.add_zero'] at hx309_0)
         replace p309 := eq_true p309
         replace q309 := eq_true q309
         refine hK.out _ _ ⟨(blk_cell BK297.out 0).trans rfl, (blk_cell BK297.out 1).trans rfl, HS2_⟩ (fun hHeld => ?_)
         have hMore_ := hHeld
         clear hHeld
         refine any_moreG17 (S2 := fun w' => w'.cell? ⟨gb297, 0, none⟩ = some (.int .i64 a0_0) ∧ w'.cell? ⟨gb297, 1, none⟩ = some (.slice A0_1 l0_1.length c0_1) ∧ w'.cell? ad305 = some (.int .i64 (rd t302 0)) ∧ w'.cell? ad309 = some (.int .i64 (rd t306 0))) (fun _ h => ⟨h.1, h.2.1, h.2.2.1⟩) ⟨hMore_.1, hMore_.2.1, hMore_.2.2, hx309_0⟩ ?_
         have hHeld := (⟨hMore_.1, hMore_.2.1, hMore_.2.2, hx309_0⟩ : _ ∧ _ ∧ _ ∧ _)
         clear hMore_
         clear hK K
         refine zn 30 ?_
         refine zp HT_ 16 31 ?_
         refine zt HT_ HW_ 17 32 hHeld ?_ (hy := by rintro w' ⟨s0, s1, s2, s3⟩; go_simp; with_reducible rfl)
         refine zg HT_ 18 33 Tryz.func91 #[.agg #[.int .i64 a0_0, .slice A0_1 l0_1.length c0_1], .int .i64 (rd t302 0), .int .i64 (rd t306 0)] (fun K hK => ?_)
         with_reducible refine (impl_Graph_has.calls k a0_0 _ _ l0_1 (rd t302 0) (rd t306 0) t310 _ ?side1 ?side2 A13.out).mono ?_
         (case side1 => exact zC (Kd.C_below HR0_1.out HB.out))
         (case side2 => exact HC0_1.out)
         rintro e w22 ⟨rfl, hb⟩
         have HS2_ := (hb.cell (World.block_lt_of_cell? _ _ (hHeld.2.2.1))).trans (hHeld.2.2.1)
         have HS3_ := (hb.cell (World.block_lt_of_cell? _ _ (hHeld.2.2.2))).trans (hHeld.2.2.2)
         refine ⟨_, rfl, ?_⟩
         replace HO304 := zM (Kd.R_below (zR HO304.out) hb)
         replace HO308 := zM (Kd.R_below (zR HO308.out) hb)
         replace BK297 := zM (blk_below (g := gb297) (o := .cells #[.int .i64 a0_0, .slice A0_1 l0_1.length c0_1] 30 (0, 0)) (zK BK297.out) hb)
         replace HB := zM (below_step zB hb)
         (try clear hb)
         (try clear hb2)
         (try clear hk)
         (try clear hi)
         refine hK.out _ _ ⟨(blk_cell BK297.out 0).trans rfl, (blk_cell BK297.out 1).trans rfl, HS2_, HS3_⟩ (fun hHeld => ?_)
         clear hK K
         refine zn 33 ?_
         refine zp HT_ 19 34 ?_
         refine zp HT_ 20 6 ?_
         refine zo HT_ ?_
         try go_wp2
         go_ret
         exact ⟨by first | rfl | (simp [errW_none, errW_some] <;> rfl) | (simp [*, errW_none, errW_some] <;> rfl), zB⟩
       · rw [if_neg c12] at H
         exact absurd H (by simp)
     · rw [if_neg c10] at H
       exact absurd H (by simp)
   · rw [if_neg c8] at H
     have c8b0 : (t301 == 1) = false := beq_eq_false_iff_ne.mpr c8
     have c8b1 : (t301 != 1) = true := bne_iff_ne.mpr c8
     obtain rfl := Option.some.inj H
     go_enter Tryz.func68, Tryz.ntmps68
     try go_wp2_with (first | ((with_reducible refine gate_dst (N := 3) rfl ?_); refine zb (w := w) 3 #[.int .i64 a0_0, .slice A0_1 l0_1.length c0_1] 30 zB ?_; clear HB; intro gb297 w23 HB BK297 GW297; have GE297 := GW297) | ((with_reducible refine gate_callee (f := 88) rfl ?_); refine zc 12 Tryz.func88 #[.slice A1 l1.length c1, .slice A2 l2.length c2] ?_; (with_reducible refine (impl_moves.calls k _ _ l1 _ _ l2 t298 t299 _ ?side1 ?side2 ?side3 ?side4 A4.out).mono ?_); (case side1 => exact zC (Kd.C_below HR1.out HB.out)); (case side2 => exact HC1.out); (case side3 => exact zC (Kd.C_below HR2.out HB.out)); (case side4 => exact HC2.out); rintro e w' ⟨rfl, ⟨nd, rfl⟩⟩; refine ⟨_, rfl, ?_⟩))
     (try (rw [drewN_self w23]; generalize hq_ : World.drewN w23 _ = w23; have n0_ : Aside0 (w23.heap[gb297]? = some (.cells #[.int .i64 a0_0, .slice A0_1 l0_1.length c0_1] 30 (0, 0))) := ⟨by rw [← hq_]; exact (zK BK297.out)⟩; have n1_ : Aside0 (Below w.heap.size w w23) := ⟨by rw [← hq_]; exact zB⟩; clear BK297 HB hq_; have BK297 := n0_; have HB := n1_; clear n0_ n1_))
     replace BK297 := zM (blk_drew BK297.out)
     replace HB := zM (below_drew1 HB.out)
     refine zs (n := 21) (fun w' => True) trivial (fun hHeld => ?_); refine with_tabW impl_Graph_isSlide.tab2 impl_Graph_isSlide.bits2 (fun HT_ HW_ => ?_)
     generalize w23.drew = w24 at BK297 HB hHeld ⊢
     refine zp HT_ 0 15 ?_
     refine zg HT_ 1 16 Tryz.func89 #[.int .u64 t298] (fun K hK => ?_)
     with_reducible refine (impl_bag_size.calls t298 t300 _ A5.out).mono ?_
     rintro e w25 ⟨rfl, hb⟩
     refine ⟨_, rfl, ?_⟩
     replace BK297 := zM (blk_below (g := gb297) (o := .cells #[.int .i64 a0_0, .slice A0_1 l0_1.length c0_1] 30 (0, 0)) (zK BK297.out) hb)
     replace HB := zM (below_step zB hb)
     (try clear hb)
     (try clear hb2)
     (try clear hk)
     (try clear hi)
     refine hK.out _ _ trivial (fun hHeld => ?_)
     clear hK K
     refine zn 16 ?_
     refine zp HT_ 2 17 ?_
     refine zp HT_ 3 18 ?_
     refine zp HT_ 4 19 ?_
     refine zg HT_ 5 20 Tryz.func89 #[.int .u64 t299] (fun K hK => ?_)
     with_reducible refine (impl_bag_size.calls t299 t301 _ A7.out).mono ?_
     rintro e w26 ⟨rfl, hb⟩
     refine ⟨_, rfl, ?_⟩
     replace BK297 := zM (blk_below (g := gb297) (o := .cells #[.int .i64 a0_0, .slice A0_1 l0_1.length c0_1] 30 (0, 0)) (zK BK297.out) hb)
     replace HB := zM (below_step zB hb)
     (try clear hb)
     (try clear hb2)
     (try clear hk)
     (try clear hi)
     refine hK.out _ _ trivial (fun hHeld => ?_)
     clear hK K
     refine zn 20 ?_
     refine zp HT_ 6 21 ?_
     refine zp HT_ 7 22 ?_
     refine zp HT_ 8 23 ?_
     refine zu HT_ 9 24 ?_
     refine zu HT_ 10 25 ?_
     refine zu HT_ 11 26 ?_
     refine zu HT_ 12 27 ?_
     refine zu HT_ 13 28 ?_
     refine zu HT_ 14 29 ?_
     refine zu HT_ 15 30 ?_
     refine zu HT_ 16 31 ?_
     refine zu HT_ 17 32 ?_
     refine zu HT_ 18 33 ?_
     refine zp HT_ 19 34 ?_
     refine zp HT_ 20 6 ?_
     refine zo HT_ ?_
     try go_wp2
     go_ret
     exact ⟨by first | rfl | (simp [errW_none, errW_some] <;> rfl) | (simp [*, errW_none, errW_some] <;> rfl), zB⟩
 · rw [if_neg c6] at H
   have c6b0 : (t300 == 1) = false := beq_eq_false_iff_ne.mpr c6
   have c6b1 : (t300 != 1) = true := bne_iff_ne.mpr c6
   obtain rfl := Option.some.inj H
   go_enter Tryz.func68, Tryz.ntmps68
   try go_wp2_with (first | ((with_reducible refine gate_dst (N := 3) rfl ?_); refine zb (w := w) 3 #[.int .i64 a0_0, .slice A0_1 l0_1.length c0_1] 30 zB ?_; clear HB; intro gb297 w27 HB BK297 GW297; have GE297 := GW297) | ((with_reducible refine gate_callee (f := 88) rfl ?_); refine zc 12 Tryz.func88 #[.slice A1 l1.length c1, .slice A2 l2.length c2] ?_; (with_reducible refine (impl_moves.calls k _ _ l1 _ _ l2 t298 t299 _ ?side1 ?side2 ?side3 ?side4 A4.out).mono ?_); (case side1 => exact zC (Kd.C_below HR1.out HB.out)); (case side2 => exact HC1.out); (case side3 => exact zC (Kd.C_below HR2.out HB.out)); (case side4 => exact HC2.out); rintro e w' ⟨rfl, ⟨nd, rfl⟩⟩; refine ⟨_, rfl, ?_⟩))
   (try (rw [drewN_self w27]; generalize hq_ : World.drewN w27 _ = w27; have n0_ : Aside0 (w27.heap[gb297]? = some (.cells #[.int .i64 a0_0, .slice A0_1 l0_1.length c0_1] 30 (0, 0))) := ⟨by rw [← hq_]; exact (zK BK297.out)⟩; have n1_ : Aside0 (Below w.heap.size w w27) := ⟨by rw [← hq_]; exact zB⟩; clear BK297 HB hq_; have BK297 := n0_; have HB := n1_; clear n0_ n1_))
   replace BK297 := zM (blk_drew BK297.out)
   replace HB := zM (below_drew1 HB.out)
   refine zs (n := 21) (fun w' => True) trivial (fun hHeld => ?_); refine with_tabW impl_Graph_isSlide.tab2 impl_Graph_isSlide.bits2 (fun HT_ HW_ => ?_)
   generalize w27.drew = w28 at BK297 HB hHeld ⊢
   refine zp HT_ 0 15 ?_
   refine zg HT_ 1 16 Tryz.func89 #[.int .u64 t298] (fun K hK => ?_)
   with_reducible refine (impl_bag_size.calls t298 t300 _ A5.out).mono ?_
   rintro e w29 ⟨rfl, hb⟩
   refine ⟨_, rfl, ?_⟩
   replace BK297 := zM (blk_below (g := gb297) (o := .cells #[.int .i64 a0_0, .slice A0_1 l0_1.length c0_1] 30 (0, 0)) (zK BK297.out) hb)
   replace HB := zM (below_step zB hb)
   (try clear hb)
   (try clear hb2)
   (try clear hk)
   (try clear hi)
   refine hK.out _ _ trivial (fun hHeld => ?_)
   clear hK K
   refine zn 16 ?_
   refine zp HT_ 2 17 ?_
   refine zp HT_ 3 18 ?_
   refine zu HT_ 4 19 ?_
   refine zu HT_ 5 20 ?_
   refine zu HT_ 6 21 ?_
   refine zp HT_ 7 22 ?_
   refine zp HT_ 8 23 ?_
   refine zu HT_ 9 24 ?_
   refine zu HT_ 10 25 ?_
   refine zu HT_ 11 26 ?_
   refine zu HT_ 12 27 ?_
   refine zu HT_ 13 28 ?_
   refine zu HT_ 14 29 ?_
   refine zu HT_ 15 30 ?_
   refine zu HT_ 16 31 ?_
   refine zu HT_ 17 32 ?_
   refine zu HT_ 18 33 ?_
   refine zp HT_ 19 34 ?_
   refine zp HT_ 20 6 ?_
   refine zo HT_ ?_
   try go_wp2
   go_ret
   exact ⟨by first | rfl | (simp [errW_none, errW_some] <;> rfl) | (simp [*, errW_none, errW_some] <;> rfl), zB⟩

end Go.Proofs.YtadjbmcfgjmhkaaGreat.P
namespace Go.Proofs.YtadjbmcfgjmhkaaGreat.P
open Go.RowKit Go.Proofs.YtadjbmcfgjmhkaaGreatW.PrintWords Go.Proofs.YtadjbmcfgjmhkaaGreatW.PrintLast Go.Proofs.YtadjbmcfgjmhkaaGreatW.PrintMore
set_option linter.unusedVariables false
set_option linter.unusedSimpArgs false

/-! Marks are held, and counted from 0 on. -/
theorem mark2_fst (l : List S69) : ∀ (k : Int), 0 ≤ k → k + 2 * (l.length : Int) ≤ 4611686018427387904 → (mark2 l k).1 = k + 2 * (l.length : Int) := by
  induction l with
  | nil => intro k h1 h2; simp [mark2]
  | cons e t ih =>
    intro k h1 h2
    simp only [List.length_cons] at h2 ⊢
    simp only [mark2]
    have e1 : wrap64 (k + 1) = k + 1 := wrap_nat (by omega) (by omega)
    have e2 : wrap64 (k + 1 + 1) = k + 1 + 1 := wrap_nat (by omega) (by omega)
    rw [e1, e2, ih (k + 1 + 1) (by omega) (by omega)]
    omega
theorem markGraph_at (a : Int) (l : List S69) (k : Int) : laws_markGraph.f a l k = some ((mark2 l k).1, (mark2 l k).2) := rfl
theorem mark1_pos (l : List S69) (hl : l.length ≤ 1048576) : ¬ (mark2 l 1).1 < 0 := by rw [mark2_fst l 1 (by omega) (by omega)]; omega
/-! What a valid graph gives. -/
theorem goodP_all (n : Int) (l : List S69) : ∀ p, goodP n p l = true → ∀ e ∈ l, 0 ≤ e.f0 ∧ e.f0 < e.f1 ∧ e.f1 < n := by
  induction l with
  | nil => intro p h e he; simp at he
  | cons x t ih =>
    intro p h e he
    simp only [goodP, Bool.and_eq_true, decide_eq_true_eq] at h
    obtain ⟨⟨⟨h1, h2⟩, h3⟩, h4, h5⟩ := h
    rcases List.mem_cons.1 he with rfl | he
    · exact ⟨h1, h2, h3⟩
    · exact ih _ h5 e he
theorem okG_all {a : Int} {l : List S69} (h : okG a l = true) : 0 ≤ a ∧ a ≤ 8 ∧ ∀ e ∈ l, 0 ≤ e.f0 ∧ e.f0 < e.f1 ∧ e.f1 < a := by
  simp only [okG, Bool.and_eq_true, decide_eq_true_eq] at h
  exact ⟨h.1.1, h.1.2, goodP_all a l none h.2⟩
/-- Two nodes are neighbours. -/
def hasP (l : List S69) (x y : Int) : Bool := l.any fun e => (decide (e.f0 = x) && decide (e.f1 = y)) || (decide (e.f0 = y) && decide (e.f1 = x))
theorem near_loop (a : Int) (l : List S69) (x y : Int) (hl : l.length ≤ 1048576) (d : Nat) : ∀ (m : Nat), l.length - m = d → m ≤ l.length →
    Ev (fun k => spec_l2Near.l0 k x y (m : Int) a l) (hasP (l.drop m) x y) := by
  induction d with
  | zero =>
    intro m h0 h1
    refine Ev.step (fun k => by rw [spec_l2Near.l0]) ?_
    rw [List.drop_eq_nil_of_le (by omega)]
    exact Ev.neg (by omega) (Ev.now _)
  | succ d ih =>
    intro m h0 h1
    have hm : m < l.length := by omega
    refine Ev.step (fun k => by rw [spec_l2Near.l0]) ?_
    refine Ev.pos (by omega) (Ev.pos (by omega) ?_)
    have ihm := ih (m + 1) (by omega) (by omega)
    rw [← wrap_up hm (by omega)] at ihm
    rw [rdT_at l m hm, List.drop_eq_getElem_cons hm]
    simp only [hasP, List.any_cons] at ihm ⊢
    generalize (l.drop (m + 1)).any _ = R at ihm ⊢
    by_cases c1 : l[m].f0 = x
    · refine Ev.pos c1 ?_
      by_cases c2 : l[m].f1 = y
      · refine Ev.pos c2 ?_
        rw [decide_eq_true c1, decide_eq_true c2]
        exact Ev.now _
      · refine Ev.neg c2 ?_
        rw [decide_eq_false c2, Bool.and_false, Bool.false_or]
        by_cases c3 : l[m].f0 = y
        · refine Ev.pos c3 ?_
          by_cases c4 : l[m].f1 = x
          · refine Ev.pos c4 ?_
            rw [decide_eq_true c3, decide_eq_true c4]
            exact Ev.now _
          · refine Ev.neg c4 ?_
            rw [decide_eq_false c4, Bool.and_false, Bool.false_or]
            exact ihm
        · refine Ev.neg c3 ?_
          rw [decide_eq_false c3, Bool.false_and, Bool.false_or]
          exact ihm
    · refine Ev.neg c1 ?_
      rw [decide_eq_false c1, Bool.false_and, Bool.false_or]
      by_cases c3 : l[m].f0 = y
      · refine Ev.pos c3 ?_
        by_cases c4 : l[m].f1 = x
        · refine Ev.pos c4 ?_
          rw [decide_eq_true c3, decide_eq_true c4]
          exact Ev.now _
        · refine Ev.neg c4 ?_
          rw [decide_eq_false c4, Bool.and_false, Bool.false_or]
          exact ihm
      · refine Ev.neg c3 ?_
        rw [decide_eq_false c3, Bool.false_and, Bool.false_or]
        exact ihm
theorem near_ev (a : Int) (l : List S69) (x y : Int) (hl : l.length ≤ 1048576) : Ev (fun k => spec_l2Near.f k a l x y) (hasP l x y) :=
  near_loop a l x y hl l.length 0 (by omega) (Nat.zero_le _)
theorem index_loop (l : List S69) (p q : Int) (hl : l.length ≤ 1048576) (d : Nat) : ∀ (m : Nat), l.length - m = d → m ≤ l.length →
    ∃ i : Int, (decide (i ≥ 0)) = ((l.drop m).any fun e => p == e.f0 && q == e.f1) ∧ Ev (fun k => slices_Index_2_int_2_int.l0 k l (l.length : Int) (m : Int) p q) i := by
  induction d with
  | zero =>
    intro m h0 h1
    refine ⟨-1, by rw [List.drop_eq_nil_of_le (by omega)]; rfl, Ev.step (fun k => by rw [slices_Index_2_int_2_int.l0]) ?_⟩
    exact Ev.neg (by omega) (Ev.now _)
  | succ d ih =>
    intro m h0 h1
    have hm : m < l.length := by omega
    obtain ⟨i, hi, ihm⟩ := ih (m + 1) (by omega) (by omega)
    rw [← wrap_up hm (by omega)] at ihm
    rw [List.drop_eq_getElem_cons hm, List.any_cons, ← hi]
    cases hc : (p == l[m].f0 && q == l[m].f1) with
    | true =>
      refine ⟨(m : Int), by simp, Ev.step (fun k => by rw [slices_Index_2_int_2_int.l0]) ?_⟩
      refine Ev.pos (by omega) (Ev.pos (by omega) (Ev.pos (by omega) ?_))
      rw [rdT_at l m hm]
      exact Ev.pos hc (Ev.now _)
    | false =>
      refine ⟨i, by simp, Ev.step (fun k => by rw [slices_Index_2_int_2_int.l0]) ?_⟩
      refine Ev.pos (by omega) (Ev.pos (by omega) (Ev.pos (by omega) ?_))
      rw [rdT_at l m hm]
      exact Ev.neg (by rw [hc]; decide) ihm
theorem any_congr {α : Type} (l : List α) (f g : α → Bool) (h : ∀ e ∈ l, f e = g e) : l.any f = l.any g := by
  induction l with
  | nil => rfl
  | cons x t ih => rw [List.any_cons, List.any_cons, h x (List.mem_cons_self ..), ih fun e he => h e (List.mem_cons_of_mem _ he)]
theorem has_ev (a : Int) (l : List S69) (x y : Int) (hl : l.length ≤ 1048576) (hu : ∀ e ∈ l, e.f0 < e.f1) : Ev (fun k => impl_Graph_has.f k a l x y) (hasP l x y) := by
  unfold impl_Graph_has.f slices_Contains_2_int_2_int.f slices_Index_2_int_2_int.f
  obtain ⟨i, hi, h⟩ := index_loop l (mn x y) (mx x y) hl l.length 0 (by omega) (Nat.zero_le _)
  refine Ev.bindo rfl ?_
  refine Ev.bind (Ev.bind h (Ev.now _)) ?_
  have : hasP l x y = decide (i ≥ 0) := by
    rw [hi, List.drop_zero]
    unfold hasP
    refine any_congr l _ _ fun e he => ?_
    have := hu e he
    unfold mn mx
    by_cases c : y < x
    · have c2 : ¬ x < y := by omega
      rw [if_pos c, if_neg c2]
      rw [Bool.eq_iff_iff]
      simp only [Bool.or_eq_true, Bool.and_eq_true, decide_eq_true_eq, beq_iff_eq]
      omega
    · rw [if_neg c]
      by_cases c2 : x < y
      · rw [if_pos c2, Bool.eq_iff_iff]
        simp only [Bool.or_eq_true, Bool.and_eq_true, decide_eq_true_eq, beq_iff_eq]
        omega
      · rw [if_neg c2, Bool.eq_iff_iff]
        simp only [Bool.or_eq_true, Bool.and_eq_true, decide_eq_true_eq, beq_iff_eq]
        omega
  rw [this]
  exact Ev.now _
end Go.Proofs.YtadjbmcfgjmhkaaGreat.P
namespace Go.Proofs.YtadjbmcfgjmhkaaGreat.P
open Go.RowKit Go.Proofs.YtadjbmcfgjmhkaaGreatW.PrintWords Go.Proofs.YtadjbmcfgjmhkaaGreatW.PrintLast Go.Proofs.YtadjbmcfgjmhkaaGreatW.PrintMore
set_option linter.unusedVariables false

/-- Numbers from lo to hi, strictly ascending behind a first one. -/
def risI (lo hi : Int) : Option Int → List Int → Bool
  | _, [] => true
  | p, x :: t => (decide (lo ≤ x) && decide (x ≤ hi)) && ((match p with | none => true | some q => decide (q < x)) && risI lo hi (some x) t)
def prevI (l : List Int) : Nat → Option Int
  | 0 => none
  | m + 1 => l[m]?
theorem risI_step (l : List Int) (lo hi : Int) (m : Nat) (hm : m < l.length) : risI lo hi (prevI l m) (l.drop m) = ((decide (lo ≤ l[m]) && decide (l[m] ≤ hi)) && ((match prevI l m with | none => true | some q => decide (q < l[m])) && risI lo hi (prevI l (m + 1)) (l.drop (m + 1)))) := by
  rw [List.drop_eq_getElem_cons hm, show prevI l (m + 1) = some l[m] from List.getElem?_eq_getElem hm]
  cases prevI l m <;> rfl
theorem l1Rising_loop (l : List Int) (lo hi : Int) (hl : l.length ≤ 1048576) (d : Nat) : ∀ (m : Nat), l.length - m = d → m ≤ l.length →
    Ev (fun k => spec_l1Rising.l0 k l lo hi (m : Int)) (risI lo hi (prevI l m) (l.drop m)) := by
  induction d with
  | zero =>
    intro m h0 h1
    refine Ev.step (fun k => by rw [spec_l1Rising.l0]) ?_
    rw [List.drop_eq_nil_of_le (by omega)]
    refine Ev.neg (by omega) ?_
    cases prevI l m <;> exact Ev.now _
  | succ d ih =>
    intro m h0 h1
    have hm : m < l.length := by omega
    refine Ev.step (fun k => by rw [spec_l1Rising.l0]) ?_
    rw [risI_step l lo hi m hm]
    refine Ev.pos (by omega) (Ev.pos (by omega) ?_)
    rw [rd_at l m hm]
    have ihm := ih (m + 1) (by omega) (by omega)
    rw [← wrap_up hm (by omega)] at ihm
    generalize risI lo hi (prevI l (m + 1)) (l.drop (m + 1)) = R at ihm ⊢
    refine Ev.bindo (in_at _ _ _) ?_
    cases hc : (decide (lo ≤ l[m]) && decide (l[m] ≤ hi)) with
    | false => rw [Bool.false_and]; exact Ev.neg (by decide) (Ev.now _)
    | true =>
      rw [Bool.true_and]
      refine Ev.pos rfl ?_
      cases m with
      | zero =>
        refine Ev.neg (by omega) ?_
        simp only [prevI, Bool.true_and]
        exact ihm
      | succ q =>
        have hq : q < l.length := by omega
        have hw : wrap64 (((q + 1 : Nat) : Int) - 1) = (q : Int) := by unfold wrap64; omega
        refine Ev.pos (by omega) ?_
        rw [hw]
        refine Ev.pos (by omega) (Ev.pos (by omega) ?_)
        rw [rd_at l q hq]
        simp only [prevI, List.getElem?_eq_getElem hq]
        by_cases c : l[q] ≥ l[q + 1]
        · rw [decide_eq_false (by omega : ¬ l[q] < l[q + 1]), Bool.false_and]
          exact Ev.pos c (Ev.now _)
        · rw [decide_eq_true (by omega : l[q] < l[q + 1]), Bool.true_and]
          exact Ev.neg c ihm
theorem l1Rising_ev (l : List Int) (lo hi : Int) (hl : l.length ≤ 1048576) : Ev (fun k => spec_l1Rising.f k l lo hi) (risI lo hi none l) :=
  l1Rising_loop l lo hi hl l.length 0 (by omega) (Nat.zero_le _)
theorem l2Set_ev (a : Int) (e : List S69) (l : List Int) (hl : l.length ≤ 1048576) : Ev (fun k => spec_l2Set.f k a e l) (risI 0 (wrap64 (a - 1)) none l) := by
  unfold spec_l2Set.f
  exact Ev.bind (l1Rising_ev l _ _ hl) (Ev.now _)
theorem risI_all (lo hi : Int) (l : List Int) : ∀ p, risI lo hi p l = true → ∀ x ∈ l, lo ≤ x ∧ x ≤ hi := by
  induction l with
  | nil => intro p h x hx; simp at hx
  | cons y t ih =>
    intro p h x hx
    simp only [risI, Bool.and_eq_true, decide_eq_true_eq] at h
    rcases List.mem_cons.1 hx with rfl | hx
    · exact h.1
    · exact ih _ h.2.2 x hx
theorem risI_pw (lo hi : Int) (l : List Int) : ∀ p, risI lo hi p l = true → l.Pairwise (· < ·) ∧ ∀ q, p = some q → ∀ x ∈ l, q < x := by
  induction l with
  | nil => intro p _; exact ⟨.nil, fun _ _ x hx => by cases hx⟩
  | cons y t ih =>
    intro p h
    simp only [risI, Bool.and_eq_true, decide_eq_true_eq] at h
    obtain ⟨_, h2, h3⟩ := h
    obtain ⟨i1, i2⟩ := ih _ h3
    refine ⟨List.pairwise_cons.2 ⟨fun x hx => i2 y rfl x hx, i1⟩, fun q hq x hx => ?_⟩
    subst hq
    have h4 : q < y := by simpa using h2
    rcases List.mem_cons.1 hx with rfl | hx
    · exact h4
    · have := i2 y rfl x hx; omega
theorem risI_of (lo hi : Int) (l : List Int) : ∀ p, l.Pairwise (· < ·) → (∀ x ∈ l, lo ≤ x ∧ x ≤ hi) → (∀ q, p = some q → ∀ x ∈ l, q < x) → risI lo hi p l = true := by
  induction l with
  | nil => intro p _ _ _; cases p <;> rfl
  | cons y t ih =>
    intro p hp hb hq
    obtain ⟨h1, h2⟩ := List.pairwise_cons.1 hp
    have hy := hb y (.head _)
    have ih' := ih (some y) h2 (fun x hx => hb x (.tail _ hx)) (fun q e x hx => by injection e with e; subst e; exact h1 x hx)
    cases p with
    | none => simp only [risI, Bool.and_eq_true, decide_eq_true_eq, true_and]; exact ⟨hy, ih'⟩
    | some q => simp only [risI, Bool.and_eq_true, decide_eq_true_eq]; exact ⟨hy, hq q rfl y (.head _), ih'⟩
end Go.Proofs.YtadjbmcfgjmhkaaGreat.P
namespace Go.Proofs.YtadjbmcfgjmhkaaGreat.P
open Go.RowKit Go.Proofs.YtadjbmcfgjmhkaaGreatW.PrintWords Go.Proofs.YtadjbmcfgjmhkaaGreatW.PrintLast Go.Proofs.YtadjbmcfgjmhkaaGreatW.PrintMore
attribute [local go_sem] max2_int min2_int max_two min_two max_three min_three max_four min_four   -- for this text's walks alone
set_option linter.unusedVariables false
set_option linter.unusedSimpArgs false

/-! ### impl_bag_has: function 103 -/
def impl_bag_has.f (a0 : Int) (a1 : Int) : Option (Bool) := if 0 ≤ a1 then (some ((Go.bits .and .u64 (shr .u64 a0 a1) 1) == 1)) else (none)
set_option maxHeartbeats 8000000 in
set_option maxRecDepth 100000 in
theorem impl_bag_has.calls (a0 : Int) (a1 : Int) (r : Bool) (w : World) (h : impl_bag_has.f a0 a1 = some r) :
 Calls Tryz.prog 103 #[.int .u64 a0, .int .i64 a1] w fun e w' => e = .returned (.bool r) ∧ Drawn0 w w' := by
 have H : (if 0 ≤ a1 then (some ((Go.bits .and .u64 (shr .u64 a0 a1) 1) == 1)) else (none)) = some r := h
 clear h
 by_cases c3 : 0 ≤ a1
 · rw [if_pos c3] at H
   have c3b0 := eq_true c3
   have c3b1 : decide (0 ≤ a1) = true := decide_eq_true c3
   clear c3
   obtain ⟨ji4, hji4⟩ : ∃ j_ : Int, (shr .u64 a0 a1) = j_ := ⟨_, rfl⟩
   replace H : (some ((Go.bits .and .u64 (ji4) 1) == 1)) = some r := by first | (rw [hji4] at H; exact H) | (simp only [hji4] at H ⊢; exact H)
   have hji4_ : (a0 / 2 ^ min a1.toNat 64) = ji4 := hji4
   have hji4z : a1 ≤ 64 → (a0 / 2 ^ a1.toNat) = ji4 := shr_small hji4
   obtain rfl := Option.some.inj H
   go_enter Tryz.func103, Tryz.ntmps103
   go_wp2
   go_ret
   exact ⟨by first | rfl | (simp; done) | (simp only [← hji4] <;> (first | rfl | simp)) | (simp [*]; done), by repeat (first | exact Drawn0.refl _ | apply Drawn0.step)⟩
 · rw [if_neg c3] at H
   exact absurd H (by simp)

end Go.Proofs.YtadjbmcfgjmhkaaGreat.P
namespace Go.Proofs.YtadjbmcfgjmhkaaGreat.P
open Go.RowKit Go.Proofs.YtadjbmcfgjmhkaaGreatW.PrintWords Go.Proofs.YtadjbmcfgjmhkaaGreatW.PrintLast Go.Proofs.YtadjbmcfgjmhkaaGreatW.PrintMore
set_option linter.unusedVariables false

def hasI (b y : Int) : Bool := Go.bits .and .u64 (shr .u64 b y) 1 == 1
def addI (b x : Int) : Int := Go.bits .or .u64 b (shl .u64 1 x)
theorem addI_fin : ∀ b : Fin 256, ∀ x : Fin 8, (0 ≤ addI b x ∧ addI b x < 256) ∧ ∀ y : Fin 8, hasI (addI b x) y = (hasI b y || decide (y = x)) := by decide +kernel
theorem hasI_zero : ∀ y : Fin 8, hasI 0 y = false := by decide +kernel
theorem fin_of {n : Nat} {b : Int} (h : 0 ≤ b) (h2 : b < (n : Int)) : ∃ i : Fin n, b = ((i.val : Nat) : Int) := ⟨⟨b.toNat, by omega⟩, by show b = ((b.toNat : Nat) : Int); omega⟩
theorem addI_at {b x : Int} (hb : 0 ≤ b ∧ b < 256) (hx : 0 ≤ x ∧ x < 8) : (0 ≤ addI b x ∧ addI b x < 256) ∧ ∀ y, 0 ≤ y → y < 8 → hasI (addI b x) y = (hasI b y || decide (y = x)) := by
  obtain ⟨i, rfl⟩ := fin_of (n := 256) hb.1 hb.2
  obtain ⟨j, rfl⟩ := fin_of (n := 8) hx.1 hx.2
  have h := addI_fin i j
  refine ⟨h.1, fun y h0 h8 => ?_⟩
  obtain ⟨q, rfl⟩ := fin_of (n := 8) h0 h8
  rw [h.2 q]
  congr 1
  rw [decide_eq_decide]
  omega
theorem hasI_nil {y : Int} (h0 : 0 ≤ y) (h8 : y < 8) : hasI 0 y = false := by
  obtain ⟨q, rfl⟩ := fin_of (n := 8) h0 h8
  exact hasI_zero q
theorem bag_has_at {b y : Int} (h0 : 0 ≤ y) : impl_bag_has.f b y = some (hasI b y) := by
  unfold impl_bag_has.f
  rw [if_pos h0]
  rfl
/-- What a set's bag is. -/
def bagI (b : Int) (l : List Int) : Int := l.foldl addI b
theorem bagI_at (l : List Int) : ∀ (b : Int), 0 ≤ b ∧ b < 256 → (∀ x ∈ l, 0 ≤ x ∧ x < 8) → (0 ≤ bagI b l ∧ bagI b l < 256) ∧ ∀ y, 0 ≤ y → y < 8 → hasI (bagI b l) y = (hasI b y || decide (y ∈ l)) := by
  induction l with
  | nil => intro b hb _; exact ⟨hb, fun y _ _ => by simp [bagI]⟩
  | cons x t ih =>
    intro b hb hx
    have h1 := addI_at hb (hx x (List.mem_cons_self ..))
    have h2 := ih (addI b x) h1.1 (fun z hz => hx z (List.mem_cons_of_mem _ hz))
    refine ⟨h2.1, fun y h0 h8 => ?_⟩
    have := h2.2 y h0 h8
    rw [show bagI b (x :: t) = bagI (addI b x) t from rfl, this, h1.2 y h0 h8, Bool.or_assoc]
    congr 1
    rw [Bool.eq_iff_iff]
    simp only [Bool.or_eq_true, decide_eq_true_eq, List.mem_cons]
theorem bagOf_loop (l : List Int) (hl : l.length ≤ 1048576) (hx : ∀ x ∈ l, 0 ≤ x ∧ x < 8) (d : Nat) : ∀ (b : Int) (m : Nat), l.length - m = d → m ≤ l.length →
    Ev (fun k => impl_bagOf.l0 k b l (l.length : Int) (m : Int)) (bagI b (l.drop m)) := by
  induction d with
  | zero =>
    intro b m h0 h1
    refine Ev.step (fun k => by rw [impl_bagOf.l0]) (Ev.neg (by omega) ?_)
    rw [List.drop_eq_nil_of_le (by omega)]
    exact Ev.now _
  | succ d ih =>
    intro b m h0 h1
    have hm : m < l.length := by omega
    have := hx l[m] (List.getElem_mem hm)
    refine Ev.step (fun k => by rw [impl_bagOf.l0]) (Ev.pos (by omega) (Ev.pos (by omega) (Ev.pos (by omega) ?_)))
    rw [rd_at l m hm, List.drop_eq_getElem_cons hm, wrap_up hm (by omega)]
    exact Ev.pos this.1 (ih _ (m + 1) (by omega) (by omega))
theorem bagOf_ev (l : List Int) (hl : l.length ≤ 1048576) (hx : ∀ x ∈ l, 0 ≤ x ∧ x < 8) : Ev (fun k => impl_bagOf.f k l) (bagI 0 l) :=
  bagOf_loop l hl hx l.length 0 0 (by omega) (Nat.zero_le _)
end Go.Proofs.YtadjbmcfgjmhkaaGreat.P
namespace Go.Proofs.YtadjbmcfgjmhkaaGreat.P
open Go.RowKit Go.Proofs.YtadjbmcfgjmhkaaGreatW.PrintWords Go.Proofs.YtadjbmcfgjmhkaaGreatW.PrintLast Go.Proofs.YtadjbmcfgjmhkaaGreatW.PrintMore
set_option linter.unusedVariables false

theorem l1Has_loop (l : List Int) (x : Int) (hl : l.length ≤ 1048576) (d : Nat) : ∀ (m : Nat), l.length - m = d → m ≤ l.length → Ev (fun k => spec_l1Has.l0 k l x (m : Int)) (decide (x ∈ l.drop m)) := by
  induction d with
  | zero =>
    intro m h0 h1
    refine Ev.step (fun k => by rw [spec_l1Has.l0]) (Ev.neg (by omega) ?_)
    rw [List.drop_eq_nil_of_le (by omega), decide_eq_false (by simp)]
    exact Ev.now _
  | succ d ih =>
    intro m h0 h1
    have hm : m < l.length := by omega
    refine Ev.step (fun k => by rw [spec_l1Has.l0]) (Ev.pos (by omega) (Ev.pos (by omega) ?_))
    rw [rd_at l m hm, List.drop_eq_getElem_cons hm, wrap_up hm (by omega)]
    by_cases c : l[m] = x
    · rw [decide_eq_true (by rw [c]; exact List.mem_cons_self ..)]
      exact Ev.pos c (Ev.now _)
    · have h := ih (m + 1) (by omega) (by omega)
      rw [show decide (x ∈ l[m] :: l.drop (m + 1)) = decide (x ∈ l.drop (m + 1)) from by
        rw [decide_eq_decide, List.mem_cons]
        exact ⟨fun h => h.resolve_left (fun h => c h.symm), .inr⟩]
      exact Ev.neg c h
theorem l1Has_ev (l : List Int) (x : Int) (hl : l.length ≤ 1048576) : Ev (fun k => spec_l1Has.f k l x) (decide (x ∈ l)) := by
  have := l1Has_loop l x hl l.length 0 (by omega) (Nat.zero_le _)
  unfold spec_l1Has.f
  simpa only [List.drop_zero, Int.natCast_zero] using this
/-- The numbers of a row of d from y on that pass. -/
def selI (f : Int → Bool) : Nat → Int → List Int
  | 0, _ => []
  | d + 1, y => (if f y = true then [y] else []) ++ selI f d (y + 1)
theorem selI_len (f : Int → Bool) (d : Nat) : ∀ y, (selI f d y).length ≤ d := by
  induction d with
  | zero => intro y; simp [selI]
  | succ d ih =>
    intro y
    have := ih (y + 1)
    simp only [selI, List.length_append]
    split <;> simp only [List.length_nil, List.length_cons] <;> omega
theorem selI_congr (f g : Int → Bool) (d : Nat) : ∀ y, (∀ z, y ≤ z → z < y + (d : Int) → f z = g z) → selI f d y = selI g d y := by
  induction d with
  | zero => intro y _; rfl
  | succ d ih =>
    intro y h
    simp only [selI]
    rw [h y (by omega) (by omega), ih (y + 1) (fun z h1 h2 => h z (by omega) (by omega))]
theorem selI_none (f : Int → Bool) (d : Nat) : ∀ y, (∀ z, y ≤ z → z < y + (d : Int) → f z = false) → selI f d y = [] := by
  induction d with
  | zero => intro y _; rfl
  | succ d ih =>
    intro y h
    simp only [selI]
    rw [h y (by omega) (by omega), ih (y + 1) (fun z h1 h2 => h z (by omega) (by omega))]
    rfl
theorem selI_add (f : Int → Bool) (d e : Nat) : ∀ y, selI f (d + e) y = selI f d y ++ selI f e (y + (d : Int)) := by
  induction d with
  | zero => intro y; simp [selI]
  | succ d ih =>
    intro y
    rw [show d + 1 + e = (d + e) + 1 by omega]
    simp only [selI]
    rw [ih (y + 1), List.append_assoc, show y + 1 + (d : Int) = y + ((d + 1 : Nat) : Int) by omega]
theorem selI_mem (f : Int → Bool) (d : Nat) : ∀ y z, z ∈ selI f d y ↔ (y ≤ z ∧ z < y + (d : Int)) ∧ f z = true := by
  induction d with
  | zero => intro y z; simp only [selI, List.not_mem_nil, false_iff]; omega
  | succ d ih =>
    intro y z
    simp only [selI, List.mem_append, ih]
    by_cases c : f y = true
    · rw [if_pos c, List.mem_singleton]
      constructor
      · rintro (rfl | h)
        · exact ⟨by omega, c⟩
        · exact ⟨by omega, h.2⟩
      · rintro ⟨h, hf⟩
        by_cases hz : z = y
        · exact .inl hz
        · exact .inr ⟨by omega, hf⟩
    · rw [if_neg c]
      constructor
      · rintro (h | h)
        · simp at h
        · exact ⟨by omega, h.2⟩
      · rintro ⟨h, hf⟩
        by_cases hz : z = y
        · subst hz; exact absurd hf c
        · exact .inr ⟨by omega, hf⟩
def allI (n : Int) : Int := IntKind.u64.wrap ((shl .u64 1 n) - 1)
def lessI (b c : Int) : Int := Go.bits .andNot .u64 b c
theorem bag_list_loop (b : Int) (d : Nat) : ∀ (y : Int) (acc : List Int), (8 - y).toNat = d → 0 ≤ y → acc.length + d ≤ 1000 → Ev (fun k => impl_bag_list.l0 k b acc y) (acc ++ selI (hasI b) d y) := by
  induction d with
  | zero =>
    intro y acc h0 h1 h2
    refine Ev.step (fun k => by rw [impl_bag_list.l0]) (Ev.neg (by omega) ?_)
    simp only [selI, List.append_nil]
    exact Ev.now _
  | succ d ih =>
    intro y acc h0 h1 h2
    refine Ev.step (fun k => by rw [impl_bag_list.l0]) (Ev.pos (by omega) (Ev.pos (by omega) ?_))
    have hw : wrap64 (y + 1) = y + 1 := wrap_nat (by omega) (by omega)
    rw [hw, selI]
    by_cases c : hasI b y = true
    · rw [if_pos c, ← List.append_assoc]
      refine Ev.pos (by simpa only [hasI, beq_iff_eq] using c) (Ev.pos (by omega) ?_)
      exact ih (y + 1) _ (by omega) (by omega) (by rw [List.length_append, List.length_singleton]; omega)
    · rw [if_neg c, List.nil_append]
      exact Ev.neg (by simpa only [hasI, beq_iff_eq] using c) (ih (y + 1) acc (by omega) (by omega) (by omega))
theorem bag_list_ev (b : Int) : Ev (fun k => impl_bag_list.f k b) (selI (hasI b) 8 0) := by
  unfold impl_bag_list.f
  have := bag_list_loop b 8 0 [] (by omega) (by omega) (by simp)
  simpa only [List.nil_append] using this
end Go.Proofs.YtadjbmcfgjmhkaaGreat.P
