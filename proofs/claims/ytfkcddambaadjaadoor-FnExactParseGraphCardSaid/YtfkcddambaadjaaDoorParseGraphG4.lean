-- Written by a program of this session (the kit's print, turned: wip/print/patch.py) out of the translation. Not trusted: Lean checks it.
import Derived.Test.YtfkcddambaadjaaDoorParseGraphG3
namespace Go.Proofs.YtfkcddambaadjaaDoor.P
open Go.RowKit Go.Proofs.YtfkcddambaadjaaDoorW.PrintWords Go.Proofs.YtfkcddambaadjaaDoorW.PrintLast Go.Proofs.YtfkcddambaadjaaDoorW.PrintMore
attribute [local go_sem] max2_int min2_int max_two min_two max_three min_three max_four min_four   -- for this text's walks alone
set_option linter.unusedVariables false
set_option linter.unusedSimpArgs false

/-! ### impl_IsGraph: function 18 -/
def impl_IsGraph.f (k : Nat) (a0_0 : Int) (l0_1 : List (S41)) : Option (Bool) := (impl_between.f a0_0 0 8).bind fun t143 => (if t143 = true then ((impl_isPairs.f k l0_1 a0_0).bind fun t144 => (some t144)) else (some false))
set_option maxHeartbeats 8000000 in
set_option maxRecDepth 100000 in
theorem impl_IsGraph.calls (k : Nat) (a0_0 : Int) (A0_1 : Option Addr) (c0_1 : Nat) (l0_1 : List (S41)) (r : Bool) (w : World) (hr0_1 : Kd.C k41 w A0_1 l0_1.length l0_1) (hc0_1 : l0_1.length ≤ c0_1) (h : impl_IsGraph.f k a0_0 l0_1 = some r) :
 Calls Tryd.prog 18 #[.agg #[.int .i64 a0_0, .slice A0_1 l0_1.length c0_1]] w fun e w' => e = .returned (.bool r) ∧ Below w.heap.size w w' := by
 have hu28 := Tryd.underlying28
 have HR0_1 := Aside0.mk hr0_1
 have HC0_1 := Aside0.mk hc0_1
 clear hr0_1 hc0_1
 have HB := zM (Below.refl w.heap.size w)
 have H : ((impl_between.f a0_0 0 8).bind fun t143 => (if t143 = true then ((impl_isPairs.f k l0_1 a0_0).bind fun t144 => (some t144)) else (some false))) = some r := h
 clear h
 replace H := Option.bind_eq_some_iff.mp H
 obtain ⟨t143, A20, H⟩ := H
 have A2 := Aside0.mk A20
 clear A20
 by_cases c3 : t143 = true
 · subst c3
   rw [if_pos rfl] at H
   replace H := Option.bind_eq_some_iff.mp H
   obtain ⟨t144, A40, H⟩ := H
   have A4 := Aside0.mk A40
   clear A40
   obtain rfl := Option.some.inj H
   go_enter Tryd.func18, Tryd.ntmps18
   go_wp2_with (first | ((with_reducible refine gate_dst (N := 1) rfl ?_); refine zb (w := w) 1 #[.int .i64 a0_0, .slice A0_1 l0_1.length c0_1] 28 zB ?_; clear HB; intro gb142 w5 HB BK142 GW142; have GE142 := GW142; have hcz6_0 := zy BK142 0; have hcz6_1 := zy BK142 1; have hfz6_0 := blk_frozen BK142.out 0; have hfz6_1 := blk_frozen BK142.out 1) | ((with_reducible refine gate_callee (f := 33) rfl ?_); refine zc 5 Tryd.func33 #[.int .i64 a0_0, .int .i64 0, .int .i64 8] ?_; (with_reducible refine (impl_between.calls a0_0 0 8 true _ A2.out).mono ?_); rintro e w' ⟨rfl, ⟨nd, rfl⟩⟩; refine ⟨_, rfl, ?_⟩) | (go_at_call 34; (with_reducible refine (impl_isPairs.calls k _ _ l0_1 a0_0 t144 _ ?side1 ?side2 A4.out).mono ?_); (case side1 => exact zC (Kd.C_below HR0_1.out zB)); (case side2 => exact HC0_1.out); rintro e w7 ⟨rfl, hb⟩; replace BK142 := zM (blk_below (g := gb142) (o := .cells #[.int .i64 a0_0, .slice A0_1 l0_1.length c0_1] 28 (0, 0)) (zK BK142.out) hb); replace HB := zM (below_step zB hb); (try clear hb); (try clear hb2); (try clear hk); (try clear hi)))
   go_ret
   exact ⟨by first | rfl | (simp [errW_none, errW_some] <;> rfl) | (simp [*, errW_none, errW_some] <;> rfl), zB⟩
 · replace c3 := Bool.eq_false_iff.mpr c3
   subst c3
   have H1 : (some false) = some r := by rw [if_neg (show ¬ (false = true) by decide)] at H; exact H
   clear H
   have H := H1
   clear H1
   obtain rfl := Option.some.inj H
   go_enter Tryd.func18, Tryd.ntmps18
   go_wp2_with (first | ((with_reducible refine gate_dst (N := 1) rfl ?_); refine zb (w := w) 1 #[.int .i64 a0_0, .slice A0_1 l0_1.length c0_1] 28 zB ?_; clear HB; intro gb142 w8 HB BK142 GW142; have GE142 := GW142; have hcz9_0 := zy BK142 0; have hcz9_1 := zy BK142 1; have hfz9_0 := blk_frozen BK142.out 0; have hfz9_1 := blk_frozen BK142.out 1) | ((with_reducible refine gate_callee (f := 33) rfl ?_); refine zc 5 Tryd.func33 #[.int .i64 a0_0, .int .i64 0, .int .i64 8] ?_; (with_reducible refine (impl_between.calls a0_0 0 8 false _ A2.out).mono ?_); rintro e w' ⟨rfl, ⟨nd, rfl⟩⟩; refine ⟨_, rfl, ?_⟩))
   go_ret
   exact ⟨by first | rfl | (simp [errW_none, errW_some] <;> rfl) | (simp [*, errW_none, errW_some] <;> rfl), zB⟩

/-! ### spec_l1In: function 29 -/
def spec_l1In.f (a0 : Int) (a1 : Int) (a2 : Int) : Option (Bool) := if a0 ≥ a1 then (some (decide (a0 ≤ a2))) else (some false)
set_option maxHeartbeats 8000000 in
set_option maxRecDepth 100000 in
theorem spec_l1In.calls (a0 : Int) (a1 : Int) (a2 : Int) (r : Bool) (w : World) (h : spec_l1In.f a0 a1 a2 = some r) :
 Calls Tryd.prog 29 #[.int .i64 a0, .int .i64 a1, .int .i64 a2] w fun e w' => e = .returned (.bool r) ∧ Drawn0 w w' := by
 have H : (if a0 ≥ a1 then (some (decide (a0 ≤ a2))) else (some false)) = some r := h
 clear h
 by_cases c4 : a0 ≥ a1
 · rw [if_pos c4] at H
   have c4b0 : decide (a1 ≤ a0) = true := decide_eq_true c4
   clear c4
   obtain rfl := Option.some.inj H
   go_enter Tryd.func29, Tryd.ntmps29
   go_wp2
   go_ret
   exact ⟨by first | rfl | (simp; done) | (simp [*]; done), by repeat (first | exact Drawn0.refl _ | apply Drawn0.step)⟩
 · rw [if_neg c4] at H
   have c4b0 : decide (a1 ≤ a0) = false := decide_eq_false c4
   clear c4
   obtain rfl := Option.some.inj H
   go_enter Tryd.func29, Tryd.ntmps29
   go_wp2
   go_ret
   exact ⟨by first | rfl | (simp; done) | (simp [*]; done), by repeat (first | exact Drawn0.refl _ | apply Drawn0.step)⟩

/-! ### spec_l2Edge: function 41 -/
def spec_l2Edge.f (a0_0 : Int) (a0_1 : Int) (a1_0 : Int) (a1_1 : Int) : Option (Bool) := if a0_0 < a1_0 then (some true) else (if a0_0 = a1_0 then (some (decide (a0_1 < a1_1))) else (some false))
set_option maxHeartbeats 8000000 in
set_option maxRecDepth 100000 in
theorem spec_l2Edge.calls (a0_0 : Int) (a0_1 : Int) (a1_0 : Int) (a1_1 : Int) (r : Bool) (w : World) (h : spec_l2Edge.f a0_0 a0_1 a1_0 a1_1 = some r) :
 Calls Tryd.prog 41 #[.agg #[.int .i64 a0_0, .int .i64 a0_1], .agg #[.int .i64 a1_0, .int .i64 a1_1]] w fun e w' => e = .returned (.bool r) ∧ Below w.heap.size w w' := by
 have hu41 := Tryd.underlying41
 have HB := zM (Below.refl w.heap.size w)
 have H : (if a0_0 < a1_0 then (some true) else (if a0_0 = a1_0 then (some (decide (a0_1 < a1_1))) else (some false))) = some r := h
 clear h
 by_cases c3 : a0_0 < a1_0
 · rw [if_pos c3] at H
   have c3b0 := decide_eq_true c3
   clear c3
   obtain rfl := Option.some.inj H
   go_enter Tryd.func41, Tryd.ntmps41
   go_wp2_with (first | ((with_reducible refine gate_dst (N := 2) rfl ?_); refine zb (w := w) 2 #[.int .i64 a0_0, .int .i64 a0_1] 41 zB ?_; clear HB; intro gb145 w4 HB BK145 GW145; have GE145 := GW145) | ((with_reducible refine gate_dst (N := 3) rfl ?_); refine ze 3 #[.int .i64 a1_0, .int .i64 a1_1] 41 ?_; intro gb146 hg w5 hbox hb; have BK146 := zM (hbox); have GW146 := zM ((by rw [hg]; exact (below_size zB) : w.heap.size ≤ gb146)); have GE146 := zM ((by rw [hg]; exact (below_size zB) : w.heap.size ≤ gb146)); replace HB := zM (below_step zB hb); have NB145_146 := zM ((by rw [hg]; exact Nat.ne_of_lt (blk_lt (g := gb145) (o := .cells #[.int .i64 a0_0, .int .i64 a0_1] 41 (0, 0)) (zK BK145.out)) : gb145 ≠ gb146)); have NB146_145 := zM ((by rw [hg]; exact Nat.ne_of_gt (blk_lt (g := gb145) (o := .cells #[.int .i64 a0_0, .int .i64 a0_1] 41 (0, 0)) (zK BK145.out)) : gb146 ≠ gb145)); replace BK145 := zM (blk_below (g := gb145) (o := .cells #[.int .i64 a0_0, .int .i64 a0_1] 41 (0, 0)) (zK BK145.out) hb); clear hb hbox hg; have hnb6 := NB145_146.out; have hnc6 := NB146_145.out; have hcz7_0 := zy BK145 0; have hcz7_1 := zy BK145 1; have hfz7_0 := blk_frozen BK145.out 0; have hfz7_1 := blk_frozen BK145.out 1; have hcz8_0 := zy BK146 0; have hcz8_1 := zy BK146 1; have hfz8_0 := blk_frozen BK146.out 0; have hfz8_1 := blk_frozen BK146.out 1))
   go_ret
   exact ⟨by first | rfl | (simp [errW_none, errW_some] <;> rfl) | (simp [*, errW_none, errW_some] <;> rfl), zB⟩
 · rw [if_neg c3] at H
   have c3b0 : decide (a0_0 < a1_0) = false := decide_eq_false c3
   clear c3
   by_cases c9 : a0_0 = a1_0
   · rw [if_pos c9] at H
     have c9b0 : (a0_0 == a1_0) = true := beq_iff_eq.mpr c9
     have c9b1 : (a0_0 != a1_0) = false := bne_eq_false_iff_eq.mpr c9
     clear c9
     obtain rfl := Option.some.inj H
     go_enter Tryd.func41, Tryd.ntmps41
     go_wp2_with (first | ((with_reducible refine gate_dst (N := 2) rfl ?_); refine zb (w := w) 2 #[.int .i64 a0_0, .int .i64 a0_1] 41 zB ?_; clear HB; intro gb145 w10 HB BK145 GW145; have GE145 := GW145) | ((with_reducible refine gate_dst (N := 3) rfl ?_); refine ze 3 #[.int .i64 a1_0, .int .i64 a1_1] 41 ?_; intro gb146 hg w11 hbox hb; have BK146 := zM (hbox); have GW146 := zM ((by rw [hg]; exact (below_size zB) : w.heap.size ≤ gb146)); have GE146 := zM ((by rw [hg]; exact (below_size zB) : w.heap.size ≤ gb146)); replace HB := zM (below_step zB hb); have NB145_146 := zM ((by rw [hg]; exact Nat.ne_of_lt (blk_lt (g := gb145) (o := .cells #[.int .i64 a0_0, .int .i64 a0_1] 41 (0, 0)) (zK BK145.out)) : gb145 ≠ gb146)); have NB146_145 := zM ((by rw [hg]; exact Nat.ne_of_gt (blk_lt (g := gb145) (o := .cells #[.int .i64 a0_0, .int .i64 a0_1] 41 (0, 0)) (zK BK145.out)) : gb146 ≠ gb145)); replace BK145 := zM (blk_below (g := gb145) (o := .cells #[.int .i64 a0_0, .int .i64 a0_1] 41 (0, 0)) (zK BK145.out) hb); clear hb hbox hg; have hnb12 := NB145_146.out; have hnc12 := NB146_145.out; have hcz13_0 := zy BK145 0; have hcz13_1 := zy BK145 1; have hfz13_0 := blk_frozen BK145.out 0; have hfz13_1 := blk_frozen BK145.out 1; have hcz14_0 := zy BK146 0; have hcz14_1 := zy BK146 1; have hfz14_0 := blk_frozen BK146.out 0; have hfz14_1 := blk_frozen BK146.out 1))
     go_ret
     exact ⟨by first | rfl | (simp [errW_none, errW_some] <;> rfl) | (simp [*, errW_none, errW_some] <;> rfl), zB⟩
   · rw [if_neg c9] at H
     have c9b0 : (a0_0 == a1_0) = false := beq_eq_false_iff_ne.mpr c9
     have c9b1 : (a0_0 != a1_0) = true := bne_iff_ne.mpr c9
     obtain rfl := Option.some.inj H
     go_enter Tryd.func41, Tryd.ntmps41
     go_wp2_with (first | ((with_reducible refine gate_dst (N := 2) rfl ?_); refine zb (w := w) 2 #[.int .i64 a0_0, .int .i64 a0_1] 41 zB ?_; clear HB; intro gb145 w15 HB BK145 GW145; have GE145 := GW145) | ((with_reducible refine gate_dst (N := 3) rfl ?_); refine ze 3 #[.int .i64 a1_0, .int .i64 a1_1] 41 ?_; intro gb146 hg w16 hbox hb; have BK146 := zM (hbox); have GW146 := zM ((by rw [hg]; exact (below_size zB) : w.heap.size ≤ gb146)); have GE146 := zM ((by rw [hg]; exact (below_size zB) : w.heap.size ≤ gb146)); replace HB := zM (below_step zB hb); have NB145_146 := zM ((by rw [hg]; exact Nat.ne_of_lt (blk_lt (g := gb145) (o := .cells #[.int .i64 a0_0, .int .i64 a0_1] 41 (0, 0)) (zK BK145.out)) : gb145 ≠ gb146)); have NB146_145 := zM ((by rw [hg]; exact Nat.ne_of_gt (blk_lt (g := gb145) (o := .cells #[.int .i64 a0_0, .int .i64 a0_1] 41 (0, 0)) (zK BK145.out)) : gb146 ≠ gb145)); replace BK145 := zM (blk_below (g := gb145) (o := .cells #[.int .i64 a0_0, .int .i64 a0_1] 41 (0, 0)) (zK BK145.out) hb); clear hb hbox hg; have hnb17 := NB145_146.out; have hnc17 := NB146_145.out; have hcz18_0 := zy BK145 0; have hcz18_1 := zy BK145 1; have hfz18_0 := blk_frozen BK145.out 0; have hfz18_1 := blk_frozen BK145.out 1; have hcz19_0 := zy BK146 0; have hcz19_1 := zy BK146 1; have hfz19_0 := blk_frozen BK146.out 0; have hfz19_1 := blk_frozen BK146.out 1))
     go_ret
     exact ⟨by first | rfl | (simp [errW_none, errW_some] <;> rfl) | (simp [*, errW_none, errW_some] <;> rfl), zB⟩

end Go.Proofs.YtfkcddambaadjaaDoor.P
namespace Go.Proofs.YtfkcddambaadjaaDoor.P
open Go.RowKit Go.Proofs.YtfkcddambaadjaaDoorW.PrintWords Go.Proofs.YtfkcddambaadjaaDoorW.PrintLast Go.Proofs.YtfkcddambaadjaaDoorW.PrintMore
attribute [local go_sem] max2_int min2_int max_two min_two max_three min_three max_four min_four   -- for this text's walks alone
set_option linter.unusedVariables false
set_option linter.unusedSimpArgs false

/-! ### spec_l2Pairs: function 30 -/
def spec_l2Pairs.l0 : Nat → List (S41) → Int → Int → Option (Bool)
 | 0, _, _, _ => none
 | k + 1, x0, x1, x5 => if x5 < (x0.length : Int) then (if 0 ≤ x5 then ((spec_l1In.f ((rd_T41 x0 x5).f0) 0 (wrap64 (x1 - 1))).bind fun t149 => (if t149 = true then ((spec_l1In.f ((rd_T41 x0 x5).f1) 0 (wrap64 (x1 - 1))).bind fun t150 => (if t150 = true then (if ((rd_T41 x0 x5).f0) ≥ ((rd_T41 x0 x5).f1) then (some false) else (if x5 > 0 then (if 0 ≤ (wrap64 (x5 - 1)) then (if (wrap64 (x5 - 1)) < (x0.length : Int) then ((spec_l2Edge.f ((rd_T41 x0 (wrap64 (x5 - 1))).f0) ((rd_T41 x0 (wrap64 (x5 - 1))).f1) ((rd_T41 x0 x5).f0) ((rd_T41 x0 x5).f1)).bind fun t152 => (if t152 = true then (spec_l2Pairs.l0 k x0 x1 (wrap64 (x5 + 1))) else (some false))) else (none)) else (none)) else (spec_l2Pairs.l0 k x0 x1 (wrap64 (x5 + 1))))) else (some false))) else (some false))) else (none)) else (some true)
def spec_l2Pairs.f (k : Nat) (l0 : List (S41)) (a1 : Int) : Option (Bool) := spec_l2Pairs.l0 k l0 a1 0
def spec_l2Pairs.T5 : Bool × List (List Nat × List Nat) := (true, [([], []), ([0], [0]), ([], []), ([2], [2]), ([1, 3], [1, 3]), ([4], [4]), ([5, 4], [5]), ([6], [6]), ([7, 6], [6, 7]), ([6], [6]), ([9, 6], [6, 9]), ([8, 10, 6, 6], [6, 8, 10]), ([11, 6], [6, 11]), ([6, 12], [6, 12]), ([13, 11], [13]), ([14], [14]), ([15, 14], [14, 15]), ([14], [14]), ([17, 14], [14, 17]), ([16, 18, 14], [14, 16, 18]), ([14, 19], [14, 19]), ([20, 14], [20]), ([21], [21]), ([22, 21], [21, 22]), ([23, 21, 21], [21, 23]), ([24], [24]), ([24], [24]), ([26, 24], [24, 26]), ([25, 27, 24], [24, 25, 27]), ([28, 24], [24, 28]), ([24], [24]), ([29, 30, 24, 24], [24, 29, 30]), ([31, 24], [24, 31]), ([24, 32, 21], [21, 24, 32]), ([21, 33], [21, 33])])
def spec_l2Pairs.B5 : List Nat := [0, 1, 0, 4, 15, 31, 63, 127, 255, 127, 639, 2047, 4095, 8191, 16383, 32767, 65535, 32767, 163839, 524287, 1048575, 2097151, 4194303, 8388607, 16777215, 33554431, 33554431, 100663295, 268435455, 536870911, 33554431, 2147483647, 4294967295, 8589934591, 17179869183]
theorem spec_l2Pairs.tab5 : rtab .any (opsOf Tryd.f30 5) = spec_l2Pairs.T5 := by kernel_rfl
theorem spec_l2Pairs.bits5 : waitsOk spec_l2Pairs.T5.2 spec_l2Pairs.B5 = true := by kernel_rfl
set_option maxHeartbeats 8000000 in
set_option maxRecDepth 100000 in
theorem spec_l2Pairs.calls (k : Nat) (A0 : Option Addr) (c0 : Nat) (l0 : List (S41)) (a1 : Int) (r : Bool) (w : World) (hr0 : Kd.C k41 w A0 l0.length l0) (hc0 : l0.length ≤ c0) (h : spec_l2Pairs.f k l0 a1 = some r) :
 Calls Tryd.prog 30 #[.slice A0 l0.length c0, .int .i64 a1] w fun e w' => e = .returned (.bool r) ∧ Below w.heap.size w w' := by
 have hu41 := Tryd.underlying41
 have HR0 := Aside0.mk hr0
 have HC0 := Aside0.mk hc0
 clear hr0 hc0
 have HB := zM (Below.refl w.heap.size w)
 have H : (spec_l2Pairs.l0 k l0 a1 0) = some r := h
 clear h
 have H' := Aside0.mk H
 clear H
 go_enter Tryd.func30, Tryd.ntmps30
 go_wp2
 go_loopg [5] k (fun kq v5 w' => ∃ (x5_1 : Int), v5 = .int .i64 x5_1 ∧ Aside0 (spec_l2Pairs.l0 kq l0 a1 x5_1 = some r) ∧ Aside0 (kq ≤ k) ∧ Aside0 (Below w.heap.size w w'))
 case atStart => exact ⟨(0), (by first | rfl | (simp; done) | (simp [*]; done)), H', ⟨Nat.le_refl _⟩, ⟨zB⟩⟩
 case round =>
  clear H'
  try clear p2
  obtain ⟨x5_1, rfl, HA, HK1, HB⟩ := hrel
  cases gk with
  | zero => exact absurd HA.out (by simp [spec_l2Pairs.l0])
  | succ k1 =>
   have H := HA.out
   clear HA
   simp only [spec_l2Pairs.l0] at H
   by_cases c3 : x5_1 < (l0.length : Int)
   · rw [if_pos c3] at H
     have c3b0 := decide_eq_true c3
     clear c3
     by_cases c4 : 0 ≤ x5_1
     · rw [if_pos c4] at H
       have c4b0 := decide_eq_true c4
       clear c4
       replace H := Option.bind_eq_some_iff.mp H
       obtain ⟨t149, A50, H⟩ := H
       have A5 := Aside0.mk A50
       clear A50
       by_cases c6 : t149 = true
       · subst c6
         rw [if_pos rfl] at H
         replace H := Option.bind_eq_some_iff.mp H
         obtain ⟨t150, A70, H⟩ := H
         have A7 := Aside0.mk A70
         clear A70
         by_cases c8 : t150 = true
         · subst c8
           rw [if_pos rfl] at H
           by_cases c9 : ((rd_T41 l0 x5_1).f0) ≥ ((rd_T41 l0 x5_1).f1)
           · rw [if_pos c9] at H
             have c9b0 : decide (((rd_T41 l0 x5_1).f1) ≤ ((rd_T41 l0 x5_1).f0)) = true := decide_eq_true c9
             clear c9
             obtain rfl := Option.some.inj H
             have p147 : 0 ≤ (x5_1 : Int) := of_decide_eq_true zA
             have q147 : x5_1 < (l0.length : Int) := of_decide_eq_true zA
             obtain ⟨ad147, e147, hx147_0, hx147_1⟩ := at_T41 HR0.out x5_1 p147 q147
             cases e147
             (try replace hx147_0 := (HB.out.cell (World.block_lt_of_cell? w _ hx147_0)).trans hx147_0)
             (try replace hx147_1 := (HB.out.cell (World.block_lt_of_cell? w _ hx147_1)).trans hx147_1)
             replace p147 := eq_true p147
             replace q147 := eq_true q147
             try go_wp2_with (first | ((with_reducible refine gate_dst (N := 6) rfl ?_); refine zb (w := w) 6 #[.int .i64 0, .int .i64 0] 41 zB ?_; clear HB; intro gb148 w10 HB BK148 GW148; have GE148 := GW148; have hcz11_0 := zy BK148 0; have hcz11_1 := zy BK148 1; have hfz11_0 := blk_frozen BK148.out 0; have hfz11_1 := blk_frozen BK148.out 1))
             have n0_ : Aside0 (((w10.setCell ⟨gb148, 0, none⟩ (.int .i64 ((rd_T41 l0 x5_1).f0))).setCell ⟨gb148, 1, none⟩ (.int .i64 ((rd_T41 l0 x5_1).f1))).heap[gb148]? = some (.cells #[.int .i64 ((rd_T41 l0 x5_1).f0), .int .i64 ((rd_T41 l0 x5_1).f1)] 41 (0, 0))) := ⟨by (with_reducible repeat (first | refine blk_drewN ?_ _ | refine blk_drew ?_ | refine blk_alloc ?_ _)); refine blk_put (cs := #[.int .i64 ((rd_T41 l0 x5_1).f0), .int .i64 0]) ?_ 1 _ rfl; (with_reducible repeat (first | refine blk_drewN ?_ _ | refine blk_drew ?_ | refine blk_alloc ?_ _)); refine blk_put (cs := #[.int .i64 0, .int .i64 0]) ?_ 0 _ rfl; (with_reducible repeat (first | refine blk_drewN ?_ _ | refine blk_drew ?_ | refine blk_alloc ?_ _)); exact BK148.out⟩
             have n1_ : Aside0 (Below w.heap.size w ((w10.setCell ⟨gb148, 0, none⟩ (.int .i64 ((rd_T41 l0 x5_1).f0))).setCell ⟨gb148, 1, none⟩ (.int .i64 ((rd_T41 l0 x5_1).f1)))) := ⟨zB⟩
             (try clear BK148)
             (try clear HB)
             generalize ((w10.setCell ⟨gb148, 0, none⟩ (.int .i64 ((rd_T41 l0 x5_1).f0))).setCell ⟨gb148, 1, none⟩ (.int .i64 ((rd_T41 l0 x5_1).f1))) = w12 at n0_ n1_ ⊢
             have BK148 := n0_
             have HB := n1_
             clear n0_ n1_
             replace BK148 := zM (blk_drew BK148.out)
             replace HB := zM (below_drew1 HB.out)
             refine zs (n := 35) (fun w' => w'.cell? ⟨gb148, 0, none⟩ = some (.int .i64 ((rd_T41 l0 x5_1).f0)) ∧ w'.cell? ⟨gb148, 1, none⟩ = some (.int .i64 ((rd_T41 l0 x5_1).f1))) ⟨(blk_cell BK148.out 0).trans rfl, (blk_cell BK148.out 1).trans rfl⟩ (fun hHeld => ?_); refine with_tabW spec_l2Pairs.tab5 spec_l2Pairs.bits5 (fun HT_ HW_ => ?_)
             generalize w12.drew = w13 at BK148 HB hHeld ⊢
             refine zp HT_ 0 17 ?_
             refine zp HT_ 2 19 ?_
             refine zp HT_ 3 20 ?_
             refine zt HT_ HW_ 1 18 hHeld ?_ (hy := by rintro w' ⟨s0, s1⟩; go_simp; with_reducible rfl)
             refine zg HT_ 4 21 Tryd.func29 #[.int .i64 ((rd_T41 l0 x5_1).f0), .int .i64 0, .int .i64 (wrap64 (a1 - 1))] (fun K hK => ?_)
             with_reducible refine (spec_l1In.calls ((rd_T41 l0 x5_1).f0) 0 (wrap64 (a1 - 1)) true _ A5.out).mono ?_
             rintro e w' ⟨rfl, ⟨nd, rfl⟩⟩
             refine ⟨_, rfl, ?_⟩
             refine hK.out _ _ ⟨(blk_cell BK148.out 0).trans rfl, (blk_cell BK148.out 1).trans rfl⟩ (fun hHeld => ?_)
             clear hK K
             refine zn 21 ?_
             refine zp HT_ 5 22 ?_
             refine zp HT_ 6 23 ?_
             refine zp HT_ 7 24 ?_
             refine zp HT_ 9 26 ?_
             refine zp HT_ 10 27 ?_
             refine zt HT_ HW_ 8 25 hHeld ?_ (hy := by rintro w' ⟨s0, s1⟩; go_simp; with_reducible rfl)
             refine zg HT_ 11 28 Tryd.func29 #[.int .i64 ((rd_T41 l0 x5_1).f1), .int .i64 0, .int .i64 (wrap64 (a1 - 1))] (fun K hK => ?_)
             with_reducible refine (spec_l1In.calls ((rd_T41 l0 x5_1).f1) 0 (wrap64 (a1 - 1)) true _ A7.out).mono ?_
             rintro e w' ⟨rfl, ⟨nd, rfl⟩⟩
             refine ⟨_, rfl, ?_⟩
             refine hK.out _ _ ⟨(blk_cell BK148.out 0).trans rfl, (blk_cell BK148.out 1).trans rfl⟩ (fun hHeld => ?_)
             clear hK K
             refine zn 28 ?_
             refine zp HT_ 12 29 ?_
             refine zp HT_ 13 30 ?_
             refine zp HT_ 14 31 ?_
             refine zp HT_ 15 32 ?_
             refine zp HT_ 17 34 ?_
             refine zt HT_ HW_ 16 33 hHeld ?_ (hy := by rintro w' ⟨s0, s1⟩; go_simp; with_reducible rfl)
             refine zt HT_ HW_ 18 35 hHeld ?_ (hy := by rintro w' ⟨s0, s1⟩; go_simp; with_reducible rfl)
             refine zp HT_ 19 36 ?_
             refine zp HT_ 20 37 ?_
             refine zp HT_ 21 38 ?_
             refine zu HT_ 22 39 ?_
             refine zu HT_ 23 40 ?_
             refine zu HT_ 24 41 ?_
             refine zu HT_ 25 42 ?_
             refine zu HT_ 26 43 ?_
             refine zu HT_ 27 44 ?_
             refine zu HT_ 28 45 ?_
             refine zu HT_ 29 46 ?_
             refine zu HT_ 30 47 ?_
             refine zu HT_ 31 48 ?_
             refine zu HT_ 32 49 ?_
             refine zu HT_ 33 50 ?_
             refine zp HT_ 34 51 ?_
             refine zo HT_ ?_
             try go_wp2
             go_ret
             exact ⟨by first | rfl | (simp [errW_none, errW_some] <;> rfl) | (simp [*, errW_none, errW_some] <;> rfl), zB⟩
           · rw [if_neg c9] at H
             have c9b0 : decide (((rd_T41 l0 x5_1).f1) ≤ ((rd_T41 l0 x5_1).f0)) = false := decide_eq_false c9
             clear c9
             by_cases c14 : x5_1 > 0
             · rw [if_pos c14] at H
               have c14b0 : decide (0 < x5_1) = true := decide_eq_true c14
               clear c14
               obtain ⟨ji15, hji15⟩ : ∃ j_ : Int, (wrap64 (x5_1 - 1)) = j_ := ⟨_, rfl⟩
               replace H : (if 0 ≤ (ji15) then (if (ji15) < (l0.length : Int) then ((spec_l2Edge.f ((rd_T41 l0 (ji15)).f0) ((rd_T41 l0 (ji15)).f1) ((rd_T41 l0 x5_1).f0) ((rd_T41 l0 x5_1).f1)).bind fun t152 => (if t152 = true then (spec_l2Pairs.l0 k1 l0 a1 (wrap64 (x5_1 + 1))) else (some false))) else (none)) else (none)) = some r := by first | (rw [hji15] at H; exact H) | (simp only [hji15] at H ⊢; exact H)
               (try rw [hji15] at A5)
               (try rw [hji15] at A7)
               have hji15w : (IntKind.i64.wrap (x5_1 - 1)) = ji15 := (i64_w _).trans hji15
               by_cases c16 : 0 ≤ (ji15)
               · rw [if_pos c16] at H
                 have c16b0 := decide_eq_true c16
                 clear c16
                 by_cases c17 : (ji15) < (l0.length : Int)
                 · rw [if_pos c17] at H
                   have c17b0 := decide_eq_true c17
                   clear c17
                   replace H := Option.bind_eq_some_iff.mp H
                   obtain ⟨t152, A180, H⟩ := H
                   have A18 := Aside0.mk A180
                   clear A180
                   by_cases c19 : t152 = true
                   · subst c19
                     rw [if_pos rfl] at H
                     have H' := Aside0.mk H
                     clear H
                     have p147 : 0 ≤ (x5_1 : Int) := of_decide_eq_true zA
                     have q147 : x5_1 < (l0.length : Int) := of_decide_eq_true zA
                     obtain ⟨ad147, e147, hx147_0, hx147_1⟩ := at_T41 HR0.out x5_1 p147 q147
                     cases e147
                     (try replace hx147_0 := (HB.out.cell (World.block_lt_of_cell? w _ hx147_0)).trans hx147_0)
                     (try replace hx147_1 := (HB.out.cell (World.block_lt_of_cell? w _ hx147_1)).trans hx147_1)
                     replace p147 := eq_true p147
                     replace q147 := eq_true q147
                     try go_wp2_with (first | ((with_reducible refine gate_dst (N := 6) rfl ?_); refine zb (w := w) 6 #[.int .i64 0, .int .i64 0] 41 zB ?_; clear HB; intro gb148 w20 HB BK148 GW148; have GE148 := GW148; have hcz21_0 := zy BK148 0; have hcz21_1 := zy BK148 1; have hfz21_0 := blk_frozen BK148.out 0; have hfz21_1 := blk_frozen BK148.out 1))
                     have n0_ : Aside0 (((w20.setCell ⟨gb148, 0, none⟩ (.int .i64 ((rd_T41 l0 x5_1).f0))).setCell ⟨gb148, 1, none⟩ (.int .i64 ((rd_T41 l0 x5_1).f1))).heap[gb148]? = some (.cells #[.int .i64 ((rd_T41 l0 x5_1).f0), .int .i64 ((rd_T41 l0 x5_1).f1)] 41 (0, 0))) := ⟨by (with_reducible repeat (first | refine blk_drewN ?_ _ | refine blk_drew ?_ | refine blk_alloc ?_ _)); refine blk_put (cs := #[.int .i64 ((rd_T41 l0 x5_1).f0), .int .i64 0]) ?_ 1 _ rfl; (with_reducible repeat (first | refine blk_drewN ?_ _ | refine blk_drew ?_ | refine blk_alloc ?_ _)); refine blk_put (cs := #[.int .i64 0, .int .i64 0]) ?_ 0 _ rfl; (with_reducible repeat (first | refine blk_drewN ?_ _ | refine blk_drew ?_ | refine blk_alloc ?_ _)); exact BK148.out⟩
                     have n1_ : Aside0 (Below w.heap.size w ((w20.setCell ⟨gb148, 0, none⟩ (.int .i64 ((rd_T41 l0 x5_1).f0))).setCell ⟨gb148, 1, none⟩ (.int .i64 ((rd_T41 l0 x5_1).f1)))) := ⟨zB⟩
                     (try clear BK148)
                     (try clear HB)
                     generalize ((w20.setCell ⟨gb148, 0, none⟩ (.int .i64 ((rd_T41 l0 x5_1).f0))).setCell ⟨gb148, 1, none⟩ (.int .i64 ((rd_T41 l0 x5_1).f1))) = w22 at n0_ n1_ ⊢
                     have BK148 := n0_
                     have HB := n1_
                     clear n0_ n1_
                     replace BK148 := zM (blk_drew BK148.out)
                     replace HB := zM (below_drew1 HB.out)
                     have p151 : 0 ≤ ((ji15) : Int) := of_decide_eq_true zA
                     have q151 : (ji15) < (l0.length : Int) := of_decide_eq_true zA
                     obtain ⟨ad151, e151, hx151_0, hx151_1⟩ := at_T41 HR0.out (ji15) p151 q151
                     have hw151_1 := hx151_1
                     have hw151_0 := hx151_0
                     obtain rfl : ad147 = ad151 := (by injection e151)
                     (try replace hx151_0 := (HB.out.cell (World.block_lt_of_cell? w _ hx151_0)).trans hx151_0)
                     (try replace hx151_1 := (HB.out.cell (World.block_lt_of_cell? w _ hx151_1)).trans hx151_1)
                     replace p151 := eq_true p151
                     replace q151 := eq_true q151
                     refine zs (n := 35) (fun w' => w'.cell? ⟨gb148, 0, none⟩ = some (.int .i64 ((rd_T41 l0 x5_1).f0)) ∧ w'.cell? ⟨gb148, 1, none⟩ = some (.int .i64 ((rd_T41 l0 x5_1).f1)) ∧ w'.cell? (ad147.add (((ji15)).toNat * 2)) = some (.int .i64 ((rd_T41 l0 (ji15)).f0)) ∧ w'.cell? ⟨(ad147.add (((ji15)).toNat * 2)).block, (ad147.add (((ji15)).toNat * 2)).off + 1, none⟩ = some (.int .i64 ((rd_T41 l0 (ji15)).f1))) ⟨(blk_cell BK148.out 0).trans rfl, (blk_cell BK148.out 1).trans rfl, ((HB.out.cell (World.block_lt_of_cell? w _ hw151_0)).trans hw151_0), ((HB.out.cell (World.block_lt_of_cell? w _ hw151_1)).trans hw151_1)⟩ (fun hHeld => ?_); refine with_tabW spec_l2Pairs.tab5 spec_l2Pairs.bits5 (fun HT_ HW_ => ?_)
                     generalize w22.drew = w23 at BK148 HB hx151_0 hx151_1 hHeld ⊢
                     refine zp HT_ 0 17 ?_
                     refine zp HT_ 2 19 ?_
                     refine zp HT_ 3 20 ?_
                     refine zt HT_ HW_ 1 18 hHeld ?_ (hy := by rintro w' ⟨s0, s1, s2, s3⟩; go_simp; with_reducible rfl)
                     refine zg HT_ 4 21 Tryd.func29 #[.int .i64 ((rd_T41 l0 x5_1).f0), .int .i64 0, .int .i64 (wrap64 (a1 - 1))] (fun K hK => ?_)
                     with_reducible refine (spec_l1In.calls ((rd_T41 l0 x5_1).f0) 0 (wrap64 (a1 - 1)) true _ A5.out).mono ?_
                     rintro e w' ⟨rfl, ⟨nd, rfl⟩⟩
                     refine ⟨_, rfl, ?_⟩
                     refine hK.out _ _ ⟨(blk_cell BK148.out 0).trans rfl, (blk_cell BK148.out 1).trans rfl, ((HB.out.cell (World.block_lt_of_cell? w _ hw151_0)).trans hw151_0), ((HB.out.cell (World.block_lt_of_cell? w _ hw151_1)).trans hw151_1)⟩ (fun hHeld => ?_)
                     clear hK K
                     refine zn 21 ?_
                     refine zp HT_ 5 22 ?_
                     refine zp HT_ 6 23 ?_
                     refine zp HT_ 7 24 ?_
                     refine zp HT_ 9 26 ?_
                     refine zp HT_ 10 27 ?_
                     refine zt HT_ HW_ 8 25 hHeld ?_ (hy := by rintro w' ⟨s0, s1, s2, s3⟩; go_simp; with_reducible rfl)
                     refine zg HT_ 11 28 Tryd.func29 #[.int .i64 ((rd_T41 l0 x5_1).f1), .int .i64 0, .int .i64 (wrap64 (a1 - 1))] (fun K hK => ?_)
                     with_reducible refine (spec_l1In.calls ((rd_T41 l0 x5_1).f1) 0 (wrap64 (a1 - 1)) true _ A7.out).mono ?_
                     rintro e w' ⟨rfl, ⟨nd, rfl⟩⟩
                     refine ⟨_, rfl, ?_⟩
                     refine hK.out _ _ ⟨(blk_cell BK148.out 0).trans rfl, (blk_cell BK148.out 1).trans rfl, ((HB.out.cell (World.block_lt_of_cell? w _ hw151_0)).trans hw151_0), ((HB.out.cell (World.block_lt_of_cell? w _ hw151_1)).trans hw151_1)⟩ (fun hHeld => ?_)
                     clear hK K
                     refine zn 28 ?_
                     refine zp HT_ 12 29 ?_
                     refine zp HT_ 13 30 ?_
                     refine zp HT_ 14 31 ?_
                     refine zp HT_ 15 32 ?_
                     refine zp HT_ 17 34 ?_
                     refine zt HT_ HW_ 16 33 hHeld ?_ (hy := by rintro w' ⟨s0, s1, s2, s3⟩; go_simp; with_reducible rfl)
                     refine zt HT_ HW_ 18 35 hHeld ?_ (hy := by rintro w' ⟨s0, s1, s2, s3⟩; go_simp; with_reducible rfl)
                     refine zp HT_ 19 36 ?_
                     refine zp HT_ 20 37 ?_
                     refine zp HT_ 21 38 ?_
                     refine zp HT_ 22 39 ?_
                     refine zp HT_ 23 40 ?_
                     refine zp HT_ 24 41 ?_
                     refine zp HT_ 25 42 ?_
                     refine zp HT_ 26 43 ?_
                     refine zp HT_ 27 44 ?_
                     refine zp HT_ 28 45 ?_
                     refine zt HT_ HW_ 29 46 hHeld ?_ (hy := by rintro w' ⟨s0, s1, s2, s3⟩; go_simp; with_reducible rfl)
                     refine zt HT_ HW_ 30 47 hHeld ?_ (hy := by rintro w' ⟨s0, s1, s2, s3⟩; go_simp; with_reducible rfl)
                     refine one_ (i := 31) (N := some 48) #[true, true, true, true, true, true, true, true, true, true, true, true, true, true, true, true, true, true, true, true, true, true, true, true, true, true, true, true, true, true, true, true, false, false, false] rfl rfl (one_of HT_.out (by kernel_rfl)) (by decide) (fun K hK => ?_)
                     refine goes_ Tryd.func41 (by kernel_rfl) rfl #[.agg #[.int .i64 ((rd_T41 l0 (ji15)).f0), .int .i64 ((rd_T41 l0 (ji15)).f1)], .agg #[.int .i64 ((rd_T41 l0 x5_1).f0), .int .i64 ((rd_T41 l0 x5_1).f1)]] (by rfl) rfl rfl (by (try simp only [List.map_toArray, List.map_cons, List.map_nil]); first | done | (simp only [hji15]; rfl) | rfl | (simp only [List.length_drop, List.length_take]; rfl)) ?_
                     with_reducible refine (spec_l2Edge.calls ((rd_T41 l0 (ji15)).f0) ((rd_T41 l0 (ji15)).f1) ((rd_T41 l0 x5_1).f0) ((rd_T41 l0 x5_1).f1) true _ A18.out).mono ?_
                     rintro e w24 ⟨rfl, hb⟩
                     refine ⟨_, rfl, ?_⟩
                     replace BK148 := zM (blk_below (g := gb148) (o := .cells #[.int .i64 ((rd_T41 l0 x5_1).f0), .int .i64 ((rd_T41 l0 x5_1).f1)] 41 (0, 0)) (zK BK148.out) hb)
                     replace HB := zM (below_step zB hb)
                     (try clear hb)
                     (try clear hb2)
                     (try clear hk)
                     (try clear hi)
                     refine hK.out _ _ ⟨(blk_cell BK148.out 0).trans rfl, (blk_cell BK148.out 1).trans rfl, ((HB.out.cell (World.block_lt_of_cell? w _ hw151_0)).trans hw151_0), ((HB.out.cell (World.block_lt_of_cell? w _ hw151_1)).trans hw151_1)⟩ (fun hHeld => ?_)
                     clear hK K
                     refine zn 48 ?_
                     refine zp HT_ 32 49 ?_
                     refine zp HT_ 33 50 ?_
                     refine zp HT_ 34 51 ?_
                     refine zo HT_ ?_
                     try go_wp2
                     go_roundg k1
                     case measure => have := HK1.out; omega
                     case rel => exact ⟨(wrap64 (x5_1 + 1)), (by first | rfl | (simp; done) | (simp [*]; done)), H', ⟨by have := HK1.out; omega⟩, ⟨zB⟩⟩
                   · replace c19 := Bool.eq_false_iff.mpr c19
                     subst c19
                     have H1 : (some false) = some r := by rw [if_neg (show ¬ (false = true) by decide)] at H; exact H
                     clear H
                     have H := H1
                     clear H1
                     obtain rfl := Option.some.inj H
                     have p147 : 0 ≤ (x5_1 : Int) := of_decide_eq_true zA
                     have q147 : x5_1 < (l0.length : Int) := of_decide_eq_true zA
                     obtain ⟨ad147, e147, hx147_0, hx147_1⟩ := at_T41 HR0.out x5_1 p147 q147
                     cases e147
                     (try replace hx147_0 := (HB.out.cell (World.block_lt_of_cell? w _ hx147_0)).trans hx147_0)
                     (try replace hx147_1 := (HB.out.cell (World.block_lt_of_cell? w _ hx147_1)).trans hx147_1)
                     replace p147 := eq_true p147
                     replace q147 := eq_true q147
                     try go_wp2_with (first | ((with_reducible refine gate_dst (N := 6) rfl ?_); refine zb (w := w) 6 #[.int .i64 0, .int .i64 0] 41 zB ?_; clear HB; intro gb148 w25 HB BK148 GW148; have GE148 := GW148; have hcz26_0 := zy BK148 0; have hcz26_1 := zy BK148 1; have hfz26_0 := blk_frozen BK148.out 0; have hfz26_1 := blk_frozen BK148.out 1))
                     have n0_ : Aside0 (((w25.setCell ⟨gb148, 0, none⟩ (.int .i64 ((rd_T41 l0 x5_1).f0))).setCell ⟨gb148, 1, none⟩ (.int .i64 ((rd_T41 l0 x5_1).f1))).heap[gb148]? = some (.cells #[.int .i64 ((rd_T41 l0 x5_1).f0), .int .i64 ((rd_T41 l0 x5_1).f1)] 41 (0, 0))) := ⟨by (with_reducible repeat (first | refine blk_drewN ?_ _ | refine blk_drew ?_ | refine blk_alloc ?_ _)); refine blk_put (cs := #[.int .i64 ((rd_T41 l0 x5_1).f0), .int .i64 0]) ?_ 1 _ rfl; (with_reducible repeat (first | refine blk_drewN ?_ _ | refine blk_drew ?_ | refine blk_alloc ?_ _)); refine blk_put (cs := #[.int .i64 0, .int .i64 0]) ?_ 0 _ rfl; (with_reducible repeat (first | refine blk_drewN ?_ _ | refine blk_drew ?_ | refine blk_alloc ?_ _)); exact BK148.out⟩
                     have n1_ : Aside0 (Below w.heap.size w ((w25.setCell ⟨gb148, 0, none⟩ (.int .i64 ((rd_T41 l0 x5_1).f0))).setCell ⟨gb148, 1, none⟩ (.int .i64 ((rd_T41 l0 x5_1).f1)))) := ⟨zB⟩
                     (try clear BK148)
                     (try clear HB)
                     generalize ((w25.setCell ⟨gb148, 0, none⟩ (.int .i64 ((rd_T41 l0 x5_1).f0))).setCell ⟨gb148, 1, none⟩ (.int .i64 ((rd_T41 l0 x5_1).f1))) = w27 at n0_ n1_ ⊢
                     have BK148 := n0_
                     have HB := n1_
                     clear n0_ n1_
                     replace BK148 := zM (blk_drew BK148.out)
                     replace HB := zM (below_drew1 HB.out)
                     have p151 : 0 ≤ ((ji15) : Int) := of_decide_eq_true zA
                     have q151 : (ji15) < (l0.length : Int) := of_decide_eq_true zA
                     obtain ⟨ad151, e151, hx151_0, hx151_1⟩ := at_T41 HR0.out (ji15) p151 q151
                     have hw151_1 := hx151_1
                     have hw151_0 := hx151_0
                     obtain rfl : ad147 = ad151 := (by injection e151)
                     (try replace hx151_0 := (HB.out.cell (World.block_lt_of_cell? w _ hx151_0)).trans hx151_0)
                     (try replace hx151_1 := (HB.out.cell (World.block_lt_of_cell? w _ hx151_1)).trans hx151_1)
                     replace p151 := eq_true p151
                     replace q151 := eq_true q151
                     refine zs (n := 35) (fun w' => w'.cell? ⟨gb148, 0, none⟩ = some (.int .i64 ((rd_T41 l0 x5_1).f0)) ∧ w'.cell? ⟨gb148, 1, none⟩ = some (.int .i64 ((rd_T41 l0 x5_1).f1)) ∧ w'.cell? (ad147.add (((ji15)).toNat * 2)) = some (.int .i64 ((rd_T41 l0 (ji15)).f0)) ∧ w'.cell? ⟨(ad147.add (((ji15)).toNat * 2)).block, (ad147.add (((ji15)).toNat * 2)).off + 1, none⟩ = some (.int .i64 ((rd_T41 l0 (ji15)).f1))) ⟨(blk_cell BK148.out 0).trans rfl, (blk_cell BK148.out 1).trans rfl, ((HB.out.cell (World.block_lt_of_cell? w _ hw151_0)).trans hw151_0), ((HB.out.cell (World.block_lt_of_cell? w _ hw151_1)).trans hw151_1)⟩ (fun hHeld => ?_); refine with_tabW spec_l2Pairs.tab5 spec_l2Pairs.bits5 (fun HT_ HW_ => ?_)
                     generalize w27.drew = w28 at BK148 HB hx151_0 hx151_1 hHeld ⊢
                     refine zp HT_ 0 17 ?_
                     refine zp HT_ 2 19 ?_
                     refine zp HT_ 3 20 ?_
                     refine zt HT_ HW_ 1 18 hHeld ?_ (hy := by rintro w' ⟨s0, s1, s2, s3⟩; go_simp; with_reducible rfl)
                     refine zg HT_ 4 21 Tryd.func29 #[.int .i64 ((rd_T41 l0 x5_1).f0), .int .i64 0, .int .i64 (wrap64 (a1 - 1))] (fun K hK => ?_)
                     with_reducible refine (spec_l1In.calls ((rd_T41 l0 x5_1).f0) 0 (wrap64 (a1 - 1)) true _ A5.out).mono ?_
                     rintro e w' ⟨rfl, ⟨nd, rfl⟩⟩
                     refine ⟨_, rfl, ?_⟩
                     refine hK.out _ _ ⟨(blk_cell BK148.out 0).trans rfl, (blk_cell BK148.out 1).trans rfl, ((HB.out.cell (World.block_lt_of_cell? w _ hw151_0)).trans hw151_0), ((HB.out.cell (World.block_lt_of_cell? w _ hw151_1)).trans hw151_1)⟩ (fun hHeld => ?_)
                     clear hK K
                     refine zn 21 ?_
                     refine zp HT_ 5 22 ?_
                     refine zp HT_ 6 23 ?_
                     refine zp HT_ 7 24 ?_
                     refine zp HT_ 9 26 ?_
                     refine zp HT_ 10 27 ?_
                     refine zt HT_ HW_ 8 25 hHeld ?_ (hy := by rintro w' ⟨s0, s1, s2, s3⟩; go_simp; with_reducible rfl)
                     refine zg HT_ 11 28 Tryd.func29 #[.int .i64 ((rd_T41 l0 x5_1).f1), .int .i64 0, .int .i64 (wrap64 (a1 - 1))] (fun K hK => ?_)
                     with_reducible refine (spec_l1In.calls ((rd_T41 l0 x5_1).f1) 0 (wrap64 (a1 - 1)) true _ A7.out).mono ?_
                     rintro e w' ⟨rfl, ⟨nd, rfl⟩⟩
                     refine ⟨_, rfl, ?_⟩
                     refine hK.out _ _ ⟨(blk_cell BK148.out 0).trans rfl, (blk_cell BK148.out 1).trans rfl, ((HB.out.cell (World.block_lt_of_cell? w _ hw151_0)).trans hw151_0), ((HB.out.cell (World.block_lt_of_cell? w _ hw151_1)).trans hw151_1)⟩ (fun hHeld => ?_)
                     clear hK K
                     refine zn 28 ?_
                     refine zp HT_ 12 29 ?_
                     refine zp HT_ 13 30 ?_
                     refine zp HT_ 14 31 ?_
                     refine zp HT_ 15 32 ?_
                     refine zp HT_ 17 34 ?_
                     refine zt HT_ HW_ 16 33 hHeld ?_ (hy := by rintro w' ⟨s0, s1, s2, s3⟩; go_simp; with_reducible rfl)
                     refine zt HT_ HW_ 18 35 hHeld ?_ (hy := by rintro w' ⟨s0, s1, s2, s3⟩; go_simp; with_reducible rfl)
                     refine zp HT_ 19 36 ?_
                     refine zp HT_ 20 37 ?_
                     refine zp HT_ 21 38 ?_
                     refine zp HT_ 22 39 ?_
                     refine zp HT_ 23 40 ?_
                     refine zp HT_ 24 41 ?_
                     refine zp HT_ 25 42 ?_
                     refine zp HT_ 26 43 ?_
                     refine zp HT_ 27 44 ?_
                     refine zp HT_ 28 45 ?_
                     refine zt HT_ HW_ 29 46 hHeld ?_ (hy := by rintro w' ⟨s0, s1, s2, s3⟩; go_simp; with_reducible rfl)
                     refine zt HT_ HW_ 30 47 hHeld ?_ (hy := by rintro w' ⟨s0, s1, s2, s3⟩; go_simp; with_reducible rfl)
                     refine one_ (i := 31) (N := some 48) #[true, true, true, true, true, true, true, true, true, true, true, true, true, true, true, true, true, true, true, true, true, true, true, true, true, true, true, true, true, true, true, true, false, false, false] rfl rfl (one_of HT_.out (by kernel_rfl)) (by decide) (fun K hK => ?_)
                     refine goes_ Tryd.func41 (by kernel_rfl) rfl #[.agg #[.int .i64 ((rd_T41 l0 (ji15)).f0), .int .i64 ((rd_T41 l0 (ji15)).f1)], .agg #[.int .i64 ((rd_T41 l0 x5_1).f0), .int .i64 ((rd_T41 l0 x5_1).f1)]] (by rfl) rfl rfl (by (try simp only [List.map_toArray, List.map_cons, List.map_nil]); first | done | (simp only [hji15]; rfl) | rfl | (simp only [List.length_drop, List.length_take]; rfl)) ?_
                     with_reducible refine (spec_l2Edge.calls ((rd_T41 l0 (ji15)).f0) ((rd_T41 l0 (ji15)).f1) ((rd_T41 l0 x5_1).f0) ((rd_T41 l0 x5_1).f1) false _ A18.out).mono ?_
                     rintro e w29 ⟨rfl, hb⟩
                     refine ⟨_, rfl, ?_⟩
                     replace BK148 := zM (blk_below (g := gb148) (o := .cells #[.int .i64 ((rd_T41 l0 x5_1).f0), .int .i64 ((rd_T41 l0 x5_1).f1)] 41 (0, 0)) (zK BK148.out) hb)
                     replace HB := zM (below_step zB hb)
                     (try clear hb)
                     (try clear hb2)
                     (try clear hk)
                     (try clear hi)
                     refine hK.out _ _ ⟨(blk_cell BK148.out 0).trans rfl, (blk_cell BK148.out 1).trans rfl, ((HB.out.cell (World.block_lt_of_cell? w _ hw151_0)).trans hw151_0), ((HB.out.cell (World.block_lt_of_cell? w _ hw151_1)).trans hw151_1)⟩ (fun hHeld => ?_)
                     clear hK K
                     refine zn 48 ?_
                     refine zp HT_ 32 49 ?_
                     refine zp HT_ 33 50 ?_
                     refine zp HT_ 34 51 ?_
                     refine zo HT_ ?_
                     try go_wp2
                     go_ret
                     exact ⟨by first | rfl | (simp [errW_none, errW_some] <;> rfl) | (simp only [← hji15]; first | rfl | (simp [errW_none, errW_some] <;> rfl)) | (simp [*, errW_none, errW_some] <;> rfl), zB⟩
                 · rw [if_neg c17] at H
                   exact absurd H (by simp)
               · rw [if_neg c16] at H
                 exact absurd H (by simp)
             · rw [if_neg c14] at H
               have c14b0 : decide (0 < x5_1) = false := decide_eq_false c14
               clear c14
               have H' := Aside0.mk H
               clear H
               have p147 : 0 ≤ (x5_1 : Int) := of_decide_eq_true zA
               have q147 : x5_1 < (l0.length : Int) := of_decide_eq_true zA
               obtain ⟨ad147, e147, hx147_0, hx147_1⟩ := at_T41 HR0.out x5_1 p147 q147
               cases e147
               (try replace hx147_0 := (HB.out.cell (World.block_lt_of_cell? w _ hx147_0)).trans hx147_0)
               (try replace hx147_1 := (HB.out.cell (World.block_lt_of_cell? w _ hx147_1)).trans hx147_1)
               replace p147 := eq_true p147
               replace q147 := eq_true q147
               try go_wp2_with (first | ((with_reducible refine gate_dst (N := 6) rfl ?_); refine zb (w := w) 6 #[.int .i64 0, .int .i64 0] 41 zB ?_; clear HB; intro gb148 w30 HB BK148 GW148; have GE148 := GW148; have hcz31_0 := zy BK148 0; have hcz31_1 := zy BK148 1; have hfz31_0 := blk_frozen BK148.out 0; have hfz31_1 := blk_frozen BK148.out 1))
               have n0_ : Aside0 (((w30.setCell ⟨gb148, 0, none⟩ (.int .i64 ((rd_T41 l0 x5_1).f0))).setCell ⟨gb148, 1, none⟩ (.int .i64 ((rd_T41 l0 x5_1).f1))).heap[gb148]? = some (.cells #[.int .i64 ((rd_T41 l0 x5_1).f0), .int .i64 ((rd_T41 l0 x5_1).f1)] 41 (0, 0))) := ⟨by (with_reducible repeat (first | refine blk_drewN ?_ _ | refine blk_drew ?_ | refine blk_alloc ?_ _)); refine blk_put (cs := #[.int .i64 ((rd_T41 l0 x5_1).f0), .int .i64 0]) ?_ 1 _ rfl; (with_reducible repeat (first | refine blk_drewN ?_ _ | refine blk_drew ?_ | refine blk_alloc ?_ _)); refine blk_put (cs := #[.int .i64 0, .int .i64 0]) ?_ 0 _ rfl; (with_reducible repeat (first | refine blk_drewN ?_ _ | refine blk_drew ?_ | refine blk_alloc ?_ _)); exact BK148.out⟩
               have n1_ : Aside0 (Below w.heap.size w ((w30.setCell ⟨gb148, 0, none⟩ (.int .i64 ((rd_T41 l0 x5_1).f0))).setCell ⟨gb148, 1, none⟩ (.int .i64 ((rd_T41 l0 x5_1).f1)))) := ⟨zB⟩
               (try clear BK148)
               (try clear HB)
               generalize ((w30.setCell ⟨gb148, 0, none⟩ (.int .i64 ((rd_T41 l0 x5_1).f0))).setCell ⟨gb148, 1, none⟩ (.int .i64 ((rd_T41 l0 x5_1).f1))) = w32 at n0_ n1_ ⊢
               have BK148 := n0_
               have HB := n1_
               clear n0_ n1_
               replace BK148 := zM (blk_drew BK148.out)
               replace HB := zM (below_drew1 HB.out)
               refine zs (n := 35) (fun w' => w'.cell? ⟨gb148, 0, none⟩ = some (.int .i64 ((rd_T41 l0 x5_1).f0)) ∧ w'.cell? ⟨gb148, 1, none⟩ = some (.int .i64 ((rd_T41 l0 x5_1).f1))) ⟨(blk_cell BK148.out 0).trans rfl, (blk_cell BK148.out 1).trans rfl⟩ (fun hHeld => ?_); refine with_tabW spec_l2Pairs.tab5 spec_l2Pairs.bits5 (fun HT_ HW_ => ?_)
               generalize w32.drew = w33 at BK148 HB hHeld ⊢
               refine zp HT_ 0 17 ?_
               refine zp HT_ 2 19 ?_
               refine zp HT_ 3 20 ?_
               refine zt HT_ HW_ 1 18 hHeld ?_ (hy := by rintro w' ⟨s0, s1⟩; go_simp; with_reducible rfl)
               refine zg HT_ 4 21 Tryd.func29 #[.int .i64 ((rd_T41 l0 x5_1).f0), .int .i64 0, .int .i64 (wrap64 (a1 - 1))] (fun K hK => ?_)
               with_reducible refine (spec_l1In.calls ((rd_T41 l0 x5_1).f0) 0 (wrap64 (a1 - 1)) true _ A5.out).mono ?_
               rintro e w' ⟨rfl, ⟨nd, rfl⟩⟩
               refine ⟨_, rfl, ?_⟩
               refine hK.out _ _ ⟨(blk_cell BK148.out 0).trans rfl, (blk_cell BK148.out 1).trans rfl⟩ (fun hHeld => ?_)
               clear hK K
               refine zn 21 ?_
               refine zp HT_ 5 22 ?_
               refine zp HT_ 6 23 ?_
               refine zp HT_ 7 24 ?_
               refine zp HT_ 9 26 ?_
               refine zp HT_ 10 27 ?_
               refine zt HT_ HW_ 8 25 hHeld ?_ (hy := by rintro w' ⟨s0, s1⟩; go_simp; with_reducible rfl)
               refine zg HT_ 11 28 Tryd.func29 #[.int .i64 ((rd_T41 l0 x5_1).f1), .int .i64 0, .int .i64 (wrap64 (a1 - 1))] (fun K hK => ?_)
               with_reducible refine (spec_l1In.calls ((rd_T41 l0 x5_1).f1) 0 (wrap64 (a1 - 1)) true _ A7.out).mono ?_
               rintro e w' ⟨rfl, ⟨nd, rfl⟩⟩
               refine ⟨_, rfl, ?_⟩
               refine hK.out _ _ ⟨(blk_cell BK148.out 0).trans rfl, (blk_cell BK148.out 1).trans rfl⟩ (fun hHeld => ?_)
               clear hK K
               refine zn 28 ?_
               refine zp HT_ 12 29 ?_
               refine zp HT_ 13 30 ?_
               refine zp HT_ 14 31 ?_
               refine zp HT_ 15 32 ?_
               refine zp HT_ 17 34 ?_
               refine zt HT_ HW_ 16 33 hHeld ?_ (hy := by rintro w' ⟨s0, s1⟩; go_simp; with_reducible rfl)
               refine zt HT_ HW_ 18 35 hHeld ?_ (hy := by rintro w' ⟨s0, s1⟩; go_simp; with_reducible rfl)
               refine zp HT_ 19 36 ?_
               refine zp HT_ 20 37 ?_
               refine zp HT_ 21 38 ?_
               refine zp HT_ 22 39 ?_
               refine zp HT_ 23 40 ?_
               refine zp HT_ 24 41 ?_
               refine zu HT_ 25 42 ?_
               refine zu HT_ 26 43 ?_
               refine zu HT_ 27 44 ?_
               refine zu HT_ 28 45 ?_
               refine zu HT_ 29 46 ?_
               refine zu HT_ 30 47 ?_
               refine zu HT_ 31 48 ?_
               refine zu HT_ 32 49 ?_
               refine zp HT_ 33 50 ?_
               refine zp HT_ 34 51 ?_
               refine zo HT_ ?_
               try go_wp2
               go_roundg k1
               case measure => have := HK1.out; omega
               case rel => exact ⟨(wrap64 (x5_1 + 1)), (by first | rfl | (simp; done) | (simp [*]; done)), H', ⟨by have := HK1.out; omega⟩, ⟨zB⟩⟩
         · replace c8 := Bool.eq_false_iff.mpr c8
           subst c8
           have H1 : (some false) = some r := by rw [if_neg (show ¬ (false = true) by decide)] at H; exact H
           clear H
           have H := H1
           clear H1
           obtain rfl := Option.some.inj H
           have p147 : 0 ≤ (x5_1 : Int) := of_decide_eq_true zA
           have q147 : x5_1 < (l0.length : Int) := of_decide_eq_true zA
           obtain ⟨ad147, e147, hx147_0, hx147_1⟩ := at_T41 HR0.out x5_1 p147 q147
           cases e147
           (try replace hx147_0 := (HB.out.cell (World.block_lt_of_cell? w _ hx147_0)).trans hx147_0)
           (try replace hx147_1 := (HB.out.cell (World.block_lt_of_cell? w _ hx147_1)).trans hx147_1)
           replace p147 := eq_true p147
           replace q147 := eq_true q147
           try go_wp2_with (first | ((with_reducible refine gate_dst (N := 6) rfl ?_); refine zb (w := w) 6 #[.int .i64 0, .int .i64 0] 41 zB ?_; clear HB; intro gb148 w34 HB BK148 GW148; have GE148 := GW148; have hcz35_0 := zy BK148 0; have hcz35_1 := zy BK148 1; have hfz35_0 := blk_frozen BK148.out 0; have hfz35_1 := blk_frozen BK148.out 1))
           have n0_ : Aside0 (((w34.setCell ⟨gb148, 0, none⟩ (.int .i64 ((rd_T41 l0 x5_1).f0))).setCell ⟨gb148, 1, none⟩ (.int .i64 ((rd_T41 l0 x5_1).f1))).heap[gb148]? = some (.cells #[.int .i64 ((rd_T41 l0 x5_1).f0), .int .i64 ((rd_T41 l0 x5_1).f1)] 41 (0, 0))) := ⟨by (with_reducible repeat (first | refine blk_drewN ?_ _ | refine blk_drew ?_ | refine blk_alloc ?_ _)); refine blk_put (cs := #[.int .i64 ((rd_T41 l0 x5_1).f0), .int .i64 0]) ?_ 1 _ rfl; (with_reducible repeat (first | refine blk_drewN ?_ _ | refine blk_drew ?_ | refine blk_alloc ?_ _)); refine blk_put (cs := #[.int .i64 0, .int .i64 0]) ?_ 0 _ rfl; (with_reducible repeat (first | refine blk_drewN ?_ _ | refine blk_drew ?_ | refine blk_alloc ?_ _)); exact BK148.out⟩
           have n1_ : Aside0 (Below w.heap.size w ((w34.setCell ⟨gb148, 0, none⟩ (.int .i64 ((rd_T41 l0 x5_1).f0))).setCell ⟨gb148, 1, none⟩ (.int .i64 ((rd_T41 l0 x5_1).f1)))) := ⟨zB⟩
           (try clear BK148)
           (try clear HB)
           generalize ((w34.setCell ⟨gb148, 0, none⟩ (.int .i64 ((rd_T41 l0 x5_1).f0))).setCell ⟨gb148, 1, none⟩ (.int .i64 ((rd_T41 l0 x5_1).f1))) = w36 at n0_ n1_ ⊢
           have BK148 := n0_
           have HB := n1_
           clear n0_ n1_
           replace BK148 := zM (blk_drew BK148.out)
           replace HB := zM (below_drew1 HB.out)
           refine zs (n := 35) (fun w' => w'.cell? ⟨gb148, 0, none⟩ = some (.int .i64 ((rd_T41 l0 x5_1).f0)) ∧ w'.cell? ⟨gb148, 1, none⟩ = some (.int .i64 ((rd_T41 l0 x5_1).f1))) ⟨(blk_cell BK148.out 0).trans rfl, (blk_cell BK148.out 1).trans rfl⟩ (fun hHeld => ?_); refine with_tabW spec_l2Pairs.tab5 spec_l2Pairs.bits5 (fun HT_ HW_ => ?_)
           generalize w36.drew = w37 at BK148 HB hHeld ⊢
           refine zp HT_ 0 17 ?_
           refine zp HT_ 2 19 ?_
           refine zp HT_ 3 20 ?_
           refine zt HT_ HW_ 1 18 hHeld ?_ (hy := by rintro w' ⟨s0, s1⟩; go_simp; with_reducible rfl)
           refine zg HT_ 4 21 Tryd.func29 #[.int .i64 ((rd_T41 l0 x5_1).f0), .int .i64 0, .int .i64 (wrap64 (a1 - 1))] (fun K hK => ?_)
           with_reducible refine (spec_l1In.calls ((rd_T41 l0 x5_1).f0) 0 (wrap64 (a1 - 1)) true _ A5.out).mono ?_
           rintro e w' ⟨rfl, ⟨nd, rfl⟩⟩
           refine ⟨_, rfl, ?_⟩
           refine hK.out _ _ ⟨(blk_cell BK148.out 0).trans rfl, (blk_cell BK148.out 1).trans rfl⟩ (fun hHeld => ?_)
           clear hK K
           refine zn 21 ?_
           refine zp HT_ 5 22 ?_
           refine zp HT_ 6 23 ?_
           refine zp HT_ 7 24 ?_
           refine zp HT_ 9 26 ?_
           refine zp HT_ 10 27 ?_
           refine zt HT_ HW_ 8 25 hHeld ?_ (hy := by rintro w' ⟨s0, s1⟩; go_simp; with_reducible rfl)
           refine zg HT_ 11 28 Tryd.func29 #[.int .i64 ((rd_T41 l0 x5_1).f1), .int .i64 0, .int .i64 (wrap64 (a1 - 1))] (fun K hK => ?_)
           with_reducible refine (spec_l1In.calls ((rd_T41 l0 x5_1).f1) 0 (wrap64 (a1 - 1)) false _ A7.out).mono ?_
           rintro e w' ⟨rfl, ⟨nd, rfl⟩⟩
           refine ⟨_, rfl, ?_⟩
           refine hK.out _ _ ⟨(blk_cell BK148.out 0).trans rfl, (blk_cell BK148.out 1).trans rfl⟩ (fun hHeld => ?_)
           clear hK K
           refine zn 28 ?_
           refine zp HT_ 12 29 ?_
           refine zp HT_ 13 30 ?_
           refine zp HT_ 14 31 ?_
           refine zu HT_ 15 32 ?_
           refine zu HT_ 16 33 ?_
           refine zu HT_ 17 34 ?_
           refine zu HT_ 18 35 ?_
           refine zu HT_ 19 36 ?_
           refine zp HT_ 20 37 ?_
           refine zp HT_ 21 38 ?_
           refine zu HT_ 22 39 ?_
           refine zu HT_ 23 40 ?_
           refine zu HT_ 24 41 ?_
           refine zu HT_ 25 42 ?_
           refine zu HT_ 26 43 ?_
           refine zu HT_ 27 44 ?_
           refine zu HT_ 28 45 ?_
           refine zu HT_ 29 46 ?_
           refine zu HT_ 30 47 ?_
           refine zu HT_ 31 48 ?_
           refine zu HT_ 32 49 ?_
           refine zu HT_ 33 50 ?_
           refine zp HT_ 34 51 ?_
           refine zo HT_ ?_
           try go_wp2
           go_ret
           exact ⟨by first | rfl | (simp [errW_none, errW_some] <;> rfl) | (simp [*, errW_none, errW_some] <;> rfl), zB⟩
       · replace c6 := Bool.eq_false_iff.mpr c6
         subst c6
         have H1 : (some false) = some r := by rw [if_neg (show ¬ (false = true) by decide)] at H; exact H
         clear H
         have H := H1
         clear H1
         obtain rfl := Option.some.inj H
         have p147 : 0 ≤ (x5_1 : Int) := of_decide_eq_true zA
         have q147 : x5_1 < (l0.length : Int) := of_decide_eq_true zA
         obtain ⟨ad147, e147, hx147_0, hx147_1⟩ := at_T41 HR0.out x5_1 p147 q147
         cases e147
         (try replace hx147_0 := (HB.out.cell (World.block_lt_of_cell? w _ hx147_0)).trans hx147_0)
         (try replace hx147_1 := (HB.out.cell (World.block_lt_of_cell? w _ hx147_1)).trans hx147_1)
         replace p147 := eq_true p147
         replace q147 := eq_true q147
         try go_wp2_with (first | ((with_reducible refine gate_dst (N := 6) rfl ?_); refine zb (w := w) 6 #[.int .i64 0, .int .i64 0] 41 zB ?_; clear HB; intro gb148 w38 HB BK148 GW148; have GE148 := GW148; have hcz39_0 := zy BK148 0; have hcz39_1 := zy BK148 1; have hfz39_0 := blk_frozen BK148.out 0; have hfz39_1 := blk_frozen BK148.out 1))
         have n0_ : Aside0 (((w38.setCell ⟨gb148, 0, none⟩ (.int .i64 ((rd_T41 l0 x5_1).f0))).setCell ⟨gb148, 1, none⟩ (.int .i64 ((rd_T41 l0 x5_1).f1))).heap[gb148]? = some (.cells #[.int .i64 ((rd_T41 l0 x5_1).f0), .int .i64 ((rd_T41 l0 x5_1).f1)] 41 (0, 0))) := ⟨by (with_reducible repeat (first | refine blk_drewN ?_ _ | refine blk_drew ?_ | refine blk_alloc ?_ _)); refine blk_put (cs := #[.int .i64 ((rd_T41 l0 x5_1).f0), .int .i64 0]) ?_ 1 _ rfl; (with_reducible repeat (first | refine blk_drewN ?_ _ | refine blk_drew ?_ | refine blk_alloc ?_ _)); refine blk_put (cs := #[.int .i64 0, .int .i64 0]) ?_ 0 _ rfl; (with_reducible repeat (first | refine blk_drewN ?_ _ | refine blk_drew ?_ | refine blk_alloc ?_ _)); exact BK148.out⟩
         have n1_ : Aside0 (Below w.heap.size w ((w38.setCell ⟨gb148, 0, none⟩ (.int .i64 ((rd_T41 l0 x5_1).f0))).setCell ⟨gb148, 1, none⟩ (.int .i64 ((rd_T41 l0 x5_1).f1)))) := ⟨zB⟩
         (try clear BK148)
         (try clear HB)
         generalize ((w38.setCell ⟨gb148, 0, none⟩ (.int .i64 ((rd_T41 l0 x5_1).f0))).setCell ⟨gb148, 1, none⟩ (.int .i64 ((rd_T41 l0 x5_1).f1))) = w40 at n0_ n1_ ⊢
         have BK148 := n0_
         have HB := n1_
         clear n0_ n1_
         replace BK148 := zM (blk_drew BK148.out)
         replace HB := zM (below_drew1 HB.out)
         refine zs (n := 35) (fun w' => w'.cell? ⟨gb148, 0, none⟩ = some (.int .i64 ((rd_T41 l0 x5_1).f0)) ∧ w'.cell? ⟨gb148, 1, none⟩ = some (.int .i64 ((rd_T41 l0 x5_1).f1))) ⟨(blk_cell BK148.out 0).trans rfl, (blk_cell BK148.out 1).trans rfl⟩ (fun hHeld => ?_); refine with_tabW spec_l2Pairs.tab5 spec_l2Pairs.bits5 (fun HT_ HW_ => ?_)
         generalize w40.drew = w41 at BK148 HB hHeld ⊢
         refine zp HT_ 0 17 ?_
         refine zp HT_ 2 19 ?_
         refine zp HT_ 3 20 ?_
         refine zt HT_ HW_ 1 18 hHeld ?_ (hy := by rintro w' ⟨s0, s1⟩; go_simp; with_reducible rfl)
         refine zg HT_ 4 21 Tryd.func29 #[.int .i64 ((rd_T41 l0 x5_1).f0), .int .i64 0, .int .i64 (wrap64 (a1 - 1))] (fun K hK => ?_)
         with_reducible refine (spec_l1In.calls ((rd_T41 l0 x5_1).f0) 0 (wrap64 (a1 - 1)) false _ A5.out).mono ?_
         rintro e w' ⟨rfl, ⟨nd, rfl⟩⟩
         refine ⟨_, rfl, ?_⟩
         refine hK.out _ _ ⟨(blk_cell BK148.out 0).trans rfl, (blk_cell BK148.out 1).trans rfl⟩ (fun hHeld => ?_)
         clear hK K
         refine zn 21 ?_
         refine zp HT_ 5 22 ?_
         refine zp HT_ 6 23 ?_
         refine zu HT_ 7 24 ?_
         refine zu HT_ 8 25 ?_
         refine zu HT_ 9 26 ?_
         refine zu HT_ 10 27 ?_
         refine zu HT_ 11 28 ?_
         refine zu HT_ 12 29 ?_
         refine zp HT_ 13 30 ?_
         refine zp HT_ 14 31 ?_
         refine zu HT_ 15 32 ?_
         refine zu HT_ 16 33 ?_
         refine zu HT_ 17 34 ?_
         refine zu HT_ 18 35 ?_
         refine zu HT_ 19 36 ?_
         refine zp HT_ 20 37 ?_
         refine zp HT_ 21 38 ?_
         refine zu HT_ 22 39 ?_
         refine zu HT_ 23 40 ?_
         refine zu HT_ 24 41 ?_
         refine zu HT_ 25 42 ?_
         refine zu HT_ 26 43 ?_
         refine zu HT_ 27 44 ?_
         refine zu HT_ 28 45 ?_
         refine zu HT_ 29 46 ?_
         refine zu HT_ 30 47 ?_
         refine zu HT_ 31 48 ?_
         refine zu HT_ 32 49 ?_
         refine zu HT_ 33 50 ?_
         refine zp HT_ 34 51 ?_
         refine zo HT_ ?_
         try go_wp2
         go_ret
         exact ⟨by first | rfl | (simp [errW_none, errW_some] <;> rfl) | (simp [*, errW_none, errW_some] <;> rfl), zB⟩
     · rw [if_neg c4] at H
       exact absurd H (by simp)
   · rw [if_neg c3] at H
     have c3b0 : decide (x5_1 < (l0.length : Int)) = false := decide_eq_false c3
     clear c3
     obtain rfl := Option.some.inj H
     go_wp2
     go_ret
     exact ⟨by first | rfl | (simp [errW_none, errW_some] <;> rfl) | (simp [*, errW_none, errW_some] <;> rfl), zB⟩

end Go.Proofs.YtfkcddambaadjaaDoor.P
