-- Written by a program of this session (the kit's print, turned: wip/print/patch.py) out of the translation. Not trusted: Lean checks it.
import Derived.Test.YtihfpngolcjkiaaProductSpaceG5
namespace Go.Proofs.Ytihfpngolcjkiaa.P
open Go.RowKit Go.Proofs.YtihfpngolcjkiaaW.PrintWords Go.Proofs.YtihfpngolcjkiaaW.PrintLast Go.Proofs.YtihfpngolcjkiaaW.PrintMore
attribute [local go_sem] max2_int min2_int max_two min_two max_three min_three max_four min_four   -- for this text's walks alone
set_option linter.unusedVariables false
set_option linter.unusedSimpArgs false

/-! ### spec_l2Even: function 17 -/
def spec_l2Even.l0 : Nat → Int → List (List Int) → List (S41) → Option (Bool)
 | 0, _, _, _ => none
 | k + 1, x3, x269000, x269001 => if x3 < (x269000.length : Int) then (if 0 ≤ x3 then (if 0 < (x269000.length : Int) then (if ((rd_L1 x269000 x3).length : Int) = ((rd_L1 x269000 0).length : Int) then (spec_l2Even.l0 k (wrap64 (x3 + 1)) x269000 x269001) else (some false)) else (none)) else (none)) else (some true)
def spec_l2Even.f (k : Nat) (l0_0 : List (List Int)) (l0_1 : List (S41)) : Option (Bool) := spec_l2Even.l0 k 0 l0_0 l0_1
set_option maxHeartbeats 8000000 in
set_option maxRecDepth 100000 in
theorem spec_l2Even.calls (k : Nat) (A0_0 : Option Addr) (c0_0 : Nat) (l0_0 : List (List Int)) (A0_1 : Option Addr) (c0_1 : Nat) (l0_1 : List (S41)) (r : Bool) (w : World) (hr0_0 : Kd.C (Kd.slice 3 (Kd.int .i64)) w A0_0 l0_0.length l0_0) (hc0_0 : l0_0.length ≤ c0_0) (hr0_1 : Kd.C k41 w A0_1 l0_1.length l0_1) (hc0_1 : l0_1.length ≤ c0_1) (h : spec_l2Even.f k l0_0 l0_1 = some r) :
 Calls Try.prog 17 #[.agg #[.slice A0_0 l0_0.length c0_0, .slice A0_1 l0_1.length c0_1]] w fun e w' => e = .returned (.bool r) ∧ Below w.heap.size w w' := by
 have hu27 := Try.underlying27
 have HR0_0 := Aside0.mk hr0_0
 have HC0_0 := Aside0.mk hc0_0
 clear hr0_0 hc0_0
 have HR0_1 := Aside0.mk hr0_1
 have HC0_1 := Aside0.mk hc0_1
 clear hr0_1 hc0_1
 have HB := zM (Below.refl w.heap.size w)
 have H : (spec_l2Even.l0 k 0 l0_0 l0_1) = some r := h
 clear h
 have H' := Aside0.mk H
 clear H
 go_enter Try.func17, Try.ntmps17
 go_wp2_with (first | ((with_reducible refine gate_dst (N := 1) rfl ?_); refine zb (w := w) 1 #[.slice A0_0 l0_0.length c0_0, .slice A0_1 l0_1.length c0_1] 27 zB ?_; clear HB; intro gb268 w2 HB BK268 GW268; have GE268 := GW268))
 repeat (go_quiet (first | ((with_reducible refine gate_dst (N := 1) rfl ?_); refine zb (w := w) 1 #[.slice A0_0 l0_0.length c0_0, .slice A0_1 l0_1.length c0_1] 27 zB ?_; clear HB; intro gb268 w2 HB BK268 GW268; have GE268 := GW268)); try go_wp2_with (first | ((with_reducible refine gate_dst (N := 1) rfl ?_); refine zb (w := w) 1 #[.slice A0_0 l0_0.length c0_0, .slice A0_1 l0_1.length c0_1] 27 zB ?_; clear HB; intro gb268 w2 HB BK268 GW268; have GE268 := GW268)))
 go_loopg [3] k (fun kq v3 w' => ∃ (x3_1 : Int), v3 = .int .i64 x3_1 ∧ Aside0 (spec_l2Even.l0 kq x3_1 l0_0 l0_1 = some r) ∧ Aside0 (kq ≤ k) ∧ Aside0 (w'.heap[gb268]? = some (.cells #[(.slice A0_0 l0_0.length c0_0), (.slice A0_1 l0_1.length c0_1)] 27 (0, 0))) ∧ Aside0 (Below w.heap.size w w'))
 case atStart => exact ⟨(0), (by first | rfl | (simp; done) | (simp [*]; done)), H', ⟨Nat.le_refl _⟩, ⟨zK BK268.out⟩, ⟨zB⟩⟩
 case round =>
  clear H'
  try clear c1
  try clear p2
  obtain ⟨x3_1, rfl, HA, HK1, BK268, HB⟩ := hrel
  cases gk with
  | zero => exact absurd HA.out (by simp [spec_l2Even.l0])
  | succ k1 =>
   have H := HA.out
   clear HA
   simp only [spec_l2Even.l0] at H
   by_cases c3 : x3_1 < (l0_0.length : Int)
   · rw [if_pos c3] at H
     have c3b0 := decide_eq_true c3
     clear c3
     by_cases c4 : 0 ≤ x3_1
     · rw [if_pos c4] at H
       have c4b0 := decide_eq_true c4
       clear c4
       by_cases c5 : 0 < (l0_0.length : Int)
       · rw [if_pos c5] at H
         have c5b0 := decide_eq_true c5
         have c5b1 : decide (0 < l0_0.length) = true := decide_eq_true (by omega)
         clear c5
         by_cases c6 : ((rd_L1 l0_0 x3_1).length : Int) = ((rd_L1 l0_0 0).length : Int)
         · rw [if_pos c6] at H
           have c6b0 : (((rd_L1 l0_0 x3_1).length : Int) == ((rd_L1 l0_0 0).length : Int)) = true := beq_iff_eq.mpr c6
           have c6b1 : (((rd_L1 l0_0 x3_1).length : Int) != ((rd_L1 l0_0 0).length : Int)) = false := bne_eq_false_iff_eq.mpr c6
           have c6b2 : ((rd_L1 l0_0 x3_1).length == (rd_L1 l0_0 0).length) = true := by first | simpa using c6 | (simp at c6 ⊢; omega)
           clear c6
           have H' := Aside0.mk H
           clear H
           have hcz7_0 := zy BK268 0
           have hcz7_1 := zy BK268 1
           have hfz7_0 := blk_frozen BK268.out 0
           have hfz7_1 := blk_frozen BK268.out 1
           have p269 : 0 ≤ (x3_1 : Int) := of_decide_eq_true zA
           have q269 : x3_1 < (l0_0.length : Int) := of_decide_eq_true zA
           obtain ⟨ad269, A269_0, c269_0, e269, hx269_0, hl269_0, hi269_0⟩ := at_L1 HR0_0.out x3_1 p269 q269
           cases e269
           (try replace hx269_0 := (HB.out.cell (World.block_lt_of_cell? w _ hx269_0)).trans hx269_0)
           have HR269_0 := Aside0.mk hi269_0
           have HC269_0 := Aside0.mk hl269_0
           clear hi269_0 hl269_0
           replace p269 := eq_true p269
           replace q269 := eq_true q269
           have p270 : 0 ≤ (0 : Int) := (by omega)
           have q270 : 0 < (l0_0.length : Int) := of_decide_eq_true zA
           obtain ⟨ad270, A270_0, c270_0, e270, hx270_0, hl270_0, hi270_0⟩ := at_L1 HR0_0.out 0 p270 q270
           obtain rfl : ad269 = ad270 := (by injection e270)
           have qi270 : (0 < l0_0.length) = True := eq_true (by omega)
           (try rw [show ((0 : Int)).toNat = 0 from rfl] at hx270_0)
           (try rw [Addr.add_zero'] at hx270_0)
           (try replace hx270_0 := (HB.out.cell (World.block_lt_of_cell? w _ hx270_0)).trans hx270_0)
           have HR270_0 := Aside0.mk hi270_0
           have HC270_0 := Aside0.mk hl270_0
           clear hi270_0 hl270_0
           replace p270 := eq_true p270
           replace q270 := eq_true q270
           go_wp2
           repeat (go_quiet (fail); try go_wp2)
           go_roundg k1
           case measure => have := HK1.out; omega
           case rel => exact ⟨(wrap64 (x3_1 + 1)), (by first | rfl | (simp; done) | (simp [*]; done)), H', ⟨by have := HK1.out; omega⟩, ⟨zK BK268.out⟩, ⟨zB⟩⟩
         · rw [if_neg c6] at H
           have c6b0 : (((rd_L1 l0_0 x3_1).length : Int) == ((rd_L1 l0_0 0).length : Int)) = false := beq_eq_false_iff_ne.mpr c6
           have c6b1 : (((rd_L1 l0_0 x3_1).length : Int) != ((rd_L1 l0_0 0).length : Int)) = true := bne_iff_ne.mpr c6
           have c6b2 : ((rd_L1 l0_0 x3_1).length == (rd_L1 l0_0 0).length) = false := by first | simpa using c6 | (simp at c6 ⊢; omega)
           obtain rfl := Option.some.inj H
           have hcz8_0 := zy BK268 0
           have hcz8_1 := zy BK268 1
           have hfz8_0 := blk_frozen BK268.out 0
           have hfz8_1 := blk_frozen BK268.out 1
           have p269 : 0 ≤ (x3_1 : Int) := of_decide_eq_true zA
           have q269 : x3_1 < (l0_0.length : Int) := of_decide_eq_true zA
           obtain ⟨ad269, A269_0, c269_0, e269, hx269_0, hl269_0, hi269_0⟩ := at_L1 HR0_0.out x3_1 p269 q269
           cases e269
           (try replace hx269_0 := (HB.out.cell (World.block_lt_of_cell? w _ hx269_0)).trans hx269_0)
           have HR269_0 := Aside0.mk hi269_0
           have HC269_0 := Aside0.mk hl269_0
           clear hi269_0 hl269_0
           replace p269 := eq_true p269
           replace q269 := eq_true q269
           have p270 : 0 ≤ (0 : Int) := (by omega)
           have q270 : 0 < (l0_0.length : Int) := of_decide_eq_true zA
           obtain ⟨ad270, A270_0, c270_0, e270, hx270_0, hl270_0, hi270_0⟩ := at_L1 HR0_0.out 0 p270 q270
           obtain rfl : ad269 = ad270 := (by injection e270)
           have qi270 : (0 < l0_0.length) = True := eq_true (by omega)
           (try rw [show ((0 : Int)).toNat = 0 from rfl] at hx270_0)
           (try rw [Addr.add_zero'] at hx270_0)
           (try replace hx270_0 := (HB.out.cell (World.block_lt_of_cell? w _ hx270_0)).trans hx270_0)
           have HR270_0 := Aside0.mk hi270_0
           have HC270_0 := Aside0.mk hl270_0
           clear hi270_0 hl270_0
           replace p270 := eq_true p270
           replace q270 := eq_true q270
           go_wp2
           repeat (go_quiet (fail); try go_wp2)
           go_ret
           exact ⟨by first | rfl | (simp [errW_none, errW_some] <;> rfl) | (simp [*, errW_none, errW_some] <;> rfl), zB⟩
       · rw [if_neg c5] at H
         exact absurd H (by simp)
     · rw [if_neg c4] at H
       exact absurd H (by simp)
   · rw [if_neg c3] at H
     have c3b0 : decide (x3_1 < (l0_0.length : Int)) = false := decide_eq_false c3
     clear c3
     obtain rfl := Option.some.inj H
     have hcz9_0 := zy BK268 0
     have hcz9_1 := zy BK268 1
     have hfz9_0 := blk_frozen BK268.out 0
     have hfz9_1 := blk_frozen BK268.out 1
     go_wp2
     repeat (go_quiet (fail); try go_wp2)
     go_ret
     exact ⟨by first | rfl | (simp [errW_none, errW_some] <;> rfl) | (simp [*, errW_none, errW_some] <;> rfl), zB⟩

/-! ### spec_l1Most: function 50 -/
def spec_l1Most.f (a0 : Int) (a1 : Int) : Option (Int) := if a0 > a1 then (some a0) else (some a1)
set_option maxHeartbeats 8000000 in
set_option maxRecDepth 100000 in
theorem spec_l1Most.calls (a0 : Int) (a1 : Int) (r : Int) (w : World) (h : spec_l1Most.f a0 a1 = some r) :
 Calls Try.prog 50 #[.int .i64 a0, .int .i64 a1] w fun e w' => e = .returned (.int .i64 r) ∧ Drawn0 w w' := by
 have H : (if a0 > a1 then (some a0) else (some a1)) = some r := h
 clear h
 by_cases c3 : a0 > a1
 · rw [if_pos c3] at H
   have c3b0 : decide (a1 < a0) = true := decide_eq_true c3
   clear c3
   obtain rfl := Option.some.inj H
   go_enter Try.func50, Try.ntmps50
   go_wp2
   go_ret
   exact ⟨by first | rfl | (simp; done) | (simp [*]; done), by repeat (first | exact Drawn0.refl _ | apply Drawn0.step)⟩
 · rw [if_neg c3] at H
   have c3b0 : decide (a1 < a0) = false := decide_eq_false c3
   clear c3
   obtain rfl := Option.some.inj H
   go_enter Try.func50, Try.ntmps50
   go_wp2
   go_ret
   exact ⟨by first | rfl | (simp; done) | (simp [*]; done), by repeat (first | exact Drawn0.refl _ | apply Drawn0.step)⟩

/-! ### spec_l2Longest: function 18 -/
def spec_l2Longest.l0 : Nat → Int → Int → List (List Int) → List (S41) → Option (Int)
 | 0, _, _, _, _ => none
 | k + 1, x3, x4, x272000, x272001 => if x4 < (x272000.length : Int) then (if 0 ≤ x4 then ((spec_l1Most.f x3 ((rd_L1 x272000 x4).length : Int)).bind fun t273 => (spec_l2Longest.l0 k t273 (wrap64 (x4 + 1)) x272000 x272001)) else (none)) else (some x3)
def spec_l2Longest.f (k : Nat) (l0_0 : List (List Int)) (l0_1 : List (S41)) : Option (Int) := spec_l2Longest.l0 k 0 0 l0_0 l0_1
set_option maxHeartbeats 8000000 in
set_option maxRecDepth 100000 in
theorem spec_l2Longest.calls (k : Nat) (A0_0 : Option Addr) (c0_0 : Nat) (l0_0 : List (List Int)) (A0_1 : Option Addr) (c0_1 : Nat) (l0_1 : List (S41)) (r : Int) (w : World) (hr0_0 : Kd.C (Kd.slice 3 (Kd.int .i64)) w A0_0 l0_0.length l0_0) (hc0_0 : l0_0.length ≤ c0_0) (hr0_1 : Kd.C k41 w A0_1 l0_1.length l0_1) (hc0_1 : l0_1.length ≤ c0_1) (h : spec_l2Longest.f k l0_0 l0_1 = some r) :
 Calls Try.prog 18 #[.agg #[.slice A0_0 l0_0.length c0_0, .slice A0_1 l0_1.length c0_1]] w fun e w' => e = .returned (.int .i64 r) ∧ Below w.heap.size w w' := by
 have hu27 := Try.underlying27
 have HR0_0 := Aside0.mk hr0_0
 have HC0_0 := Aside0.mk hc0_0
 clear hr0_0 hc0_0
 have HR0_1 := Aside0.mk hr0_1
 have HC0_1 := Aside0.mk hc0_1
 clear hr0_1 hc0_1
 have HB := zM (Below.refl w.heap.size w)
 have H : (spec_l2Longest.l0 k 0 0 l0_0 l0_1) = some r := h
 clear h
 have H' := Aside0.mk H
 clear H
 go_enter Try.func18, Try.ntmps18
 go_wp2_with (first | ((with_reducible refine gate_dst (N := 1) rfl ?_); refine zb (w := w) 1 #[.slice A0_0 l0_0.length c0_0, .slice A0_1 l0_1.length c0_1] 27 zB ?_; clear HB; intro gb271 w2 HB BK271 GW271; have GE271 := GW271))
 go_loopg [3, 4] k (fun kq v3 v4 w' => ∃ (x3_1 : Int) (x4_1 : Int), v3 = .int .i64 x3_1 ∧ v4 = .int .i64 x4_1 ∧ Aside0 (spec_l2Longest.l0 kq x3_1 x4_1 l0_0 l0_1 = some r) ∧ Aside0 (kq ≤ k) ∧ Aside0 (w'.heap[gb271]? = some (.cells #[(.slice A0_0 l0_0.length c0_0), (.slice A0_1 l0_1.length c0_1)] 27 (0, 0))) ∧ Aside0 (Below w.heap.size w w'))
 case atStart => exact ⟨(0), (0), (by first | rfl | (simp; done) | (simp [*]; done)), (by first | rfl | (simp; done) | (simp [*]; done)), H', ⟨Nat.le_refl _⟩, ⟨zK BK271.out⟩, ⟨zB⟩⟩
 case round =>
  clear H'
  try clear c1
  try clear p2
  obtain ⟨x3_1, x4_1, rfl, rfl, HA, HK1, BK271, HB⟩ := hrel
  cases gk with
  | zero => exact absurd HA.out (by simp [spec_l2Longest.l0])
  | succ k1 =>
   have H := HA.out
   clear HA
   simp only [spec_l2Longest.l0] at H
   by_cases c3 : x4_1 < (l0_0.length : Int)
   · rw [if_pos c3] at H
     have c3b0 := decide_eq_true c3
     clear c3
     by_cases c4 : 0 ≤ x4_1
     · rw [if_pos c4] at H
       have c4b0 := decide_eq_true c4
       clear c4
       replace H := Option.bind_eq_some_iff.mp H
       obtain ⟨t273, A50, H⟩ := H
       have A5 := Aside0.mk A50
       clear A50
       have H' := Aside0.mk H
       clear H
       have hcz6_0 := zy BK271 0
       have hcz6_1 := zy BK271 1
       have hfz6_0 := blk_frozen BK271.out 0
       have hfz6_1 := blk_frozen BK271.out 1
       have p272 : 0 ≤ (x4_1 : Int) := of_decide_eq_true zA
       have q272 : x4_1 < (l0_0.length : Int) := of_decide_eq_true zA
       obtain ⟨ad272, A272_0, c272_0, e272, hx272_0, hl272_0, hi272_0⟩ := at_L1 HR0_0.out x4_1 p272 q272
       cases e272
       (try replace hx272_0 := (HB.out.cell (World.block_lt_of_cell? w _ hx272_0)).trans hx272_0)
       have HR272_0 := Aside0.mk hi272_0
       have HC272_0 := Aside0.mk hl272_0
       clear hi272_0 hl272_0
       replace p272 := eq_true p272
       replace q272 := eq_true q272
       go_wp2_with (first | ((with_reducible refine gate_callee (f := 50) rfl ?_); refine zc 19 Try.func50 #[.int .i64 x3_1, .int .i64 ((rd_L1 l0_0 x4_1).length : Int)] ?_; (with_reducible refine (spec_l1Most.calls x3_1 ((rd_L1 l0_0 x4_1).length : Int) t273 _ A5.out).mono ?_); rintro e w' ⟨rfl, ⟨nd, rfl⟩⟩; refine ⟨_, rfl, ?_⟩))
       go_roundg k1
       case measure => have := HK1.out; omega
       case rel => exact ⟨(t273), (wrap64 (x4_1 + 1)), (by first | rfl | (simp; done) | (simp [*]; done)), (by first | rfl | (simp; done) | (simp [*]; done)), H', ⟨by have := HK1.out; omega⟩, ⟨zK BK271.out⟩, ⟨zB⟩⟩
     · rw [if_neg c4] at H
       exact absurd H (by simp)
   · rw [if_neg c3] at H
     have c3b0 : decide (x4_1 < (l0_0.length : Int)) = false := decide_eq_false c3
     clear c3
     obtain rfl := Option.some.inj H
     have hcz7_0 := zy BK271 0
     have hcz7_1 := zy BK271 1
     have hfz7_0 := blk_frozen BK271.out 0
     have hfz7_1 := blk_frozen BK271.out 1
     go_wp2
     go_ret
     exact ⟨by first | rfl | (simp [errW_none, errW_some] <;> rfl) | (simp [*, errW_none, errW_some] <;> rfl), zB⟩

/-! ### spec_l2Lists: function 19 -/
mutual
def spec_l2Lists.l0 : Nat → List (List Int) → Int → List (List Int) → List (S41) → Option ((List (List Int)))
 | 0, _, _, _, _ => none
 | k + 1, x3, x4, x275000, x275001 => if x4 < (x275001.length : Int) then (if 0 ≤ x4 then (if 0 ≤ ((rd_T41 x275001 x4).f1) then (if ((rd_T41 x275001 x4).f1) < (x3.length : Int) then (if (rd_L1 x3 ((rd_T41 x275001 x4).f1)).length < 17592186044416 then (spec_l2Lists.l0 k (x3.set (((rd_T41 x275001 x4).f1) : Int).toNat ((rd_L1 x3 ((rd_T41 x275001 x4).f1)) ++ [(rd_T41 x275001 x4).f0])) (wrap64 (x4 + 1)) x275000 x275001) else (none)) else (none)) else (none)) else (none)) else (spec_l2Lists.l1 k x3 0 x275000 x275001)
def spec_l2Lists.l1 : Nat → List (List Int) → Int → List (List Int) → List (S41) → Option ((List (List Int)))
 | 0, _, _, _, _ => none
 | k + 1, x3, x7, x275000, x275001 => if x7 < (x275001.length : Int) then (if 0 ≤ x7 then (if 0 ≤ ((rd_T41 x275001 x7).f0) then (if ((rd_T41 x275001 x7).f0) < (x3.length : Int) then (if (rd_L1 x3 ((rd_T41 x275001 x7).f0)).length < 17592186044416 then (spec_l2Lists.l1 k (x3.set (((rd_T41 x275001 x7).f0) : Int).toNat ((rd_L1 x3 ((rd_T41 x275001 x7).f0)) ++ [(rd_T41 x275001 x7).f1])) (wrap64 (x7 + 1)) x275000 x275001) else (none)) else (none)) else (none)) else (none)) else (some x3)
end
def spec_l2Lists.f (k : Nat) (l0_0 : List (List Int)) (l0_1 : List (S41)) : Option ((List (List Int))) := if 0 ≤ (l0_0.length : Int) then (if ((l0_0.length : Int) : Int).toNat ≤ 11728124029610 then (spec_l2Lists.l0 k (List.replicate ((l0_0.length : Int) : Int).toNat []) 0 l0_0 l0_1) else (none)) else (none)
set_option maxHeartbeats 8000000 in
set_option maxRecDepth 100000 in
theorem spec_l2Lists.calls (k : Nat) (A0_0 : Option Addr) (c0_0 : Nat) (l0_0 : List (List Int)) (A0_1 : Option Addr) (c0_1 : Nat) (l0_1 : List (S41)) (r : List (List Int)) (w : World) (hr0_0 : Kd.C (Kd.slice 3 (Kd.int .i64)) w A0_0 l0_0.length l0_0) (hc0_0 : l0_0.length ≤ c0_0) (hr0_1 : Kd.C k41 w A0_1 l0_1.length l0_1) (hc0_1 : l0_1.length ≤ c0_1) (h : spec_l2Lists.f k l0_0 l0_1 = some r) :
 Calls Try.prog 19 #[.agg #[.slice A0_0 l0_0.length c0_0, .slice A0_1 l0_1.length c0_1]] w fun e w' => ∃ v0_ : Value, e = .returned (v0_) ∧ Kd.S (Kd.slice 3 (Kd.int .i64)) 39 w' w.heap.size (fun _ => True) v0_ r ∧ Below w.heap.size w w' := by
 have hu27 := Try.underlying27
 have HR0_0 := Aside0.mk hr0_0
 have HC0_0 := Aside0.mk hc0_0
 clear hr0_0 hc0_0
 have HR0_1 := Aside0.mk hr0_1
 have HC0_1 := Aside0.mk hc0_1
 clear hr0_1 hc0_1
 have HB := zM (Below.refl w.heap.size w)
 have H : (if 0 ≤ (l0_0.length : Int) then (if ((l0_0.length : Int) : Int).toNat ≤ 11728124029610 then (spec_l2Lists.l0 k (List.replicate ((l0_0.length : Int) : Int).toNat []) 0 l0_0 l0_1) else (none)) else (none)) = some r := h
 clear h
 by_cases c2 : 0 ≤ (l0_0.length : Int)
 · rw [if_pos c2] at H
   have c2b0 := eq_true c2
   have c2b1 : decide (0 ≤ (l0_0.length : Int)) = true := decide_eq_true c2
   clear c2
   by_cases c3 : ((l0_0.length : Int) : Int).toNat ≤ 11728124029610
   · rw [if_pos c3] at H
     have c3b0 := eq_true c3
     have c3b1 : decide (((l0_0.length : Int) : Int).toNat ≤ 11728124029610) = true := decide_eq_true c3
     clear c3
     obtain ⟨y275, hy275⟩ : ∃ y_ : List (List Int), y_ = (List.replicate ((l0_0.length : Int) : Int).toNat []) := ⟨_, rfl⟩
     replace H : (spec_l2Lists.l0 k y275 0 l0_0 l0_1) = some r := by first | (rw [hy275]; with_reducible exact H) | (have H2_ := (Option.bind_some _ _).symm.trans H; rw [hy275]; with_reducible exact H2_) | (have H2_ := (Option.bind_some _ _).symm.trans H; with_reducible exact H2_) | with_reducible exact H | (rw [hy275]; exact H) | exact H
     have Ny275 := Aside0.mk hy275
     clear hy275
     have H' := Aside0.mk H
     clear H
     go_enter Try.func19, Try.ntmps19
     go_wp2_with (first | ((with_reducible refine gate_dst (N := 1) rfl ?_); refine zb (w := w) 1 #[.slice A0_0 l0_0.length c0_0, .slice A0_1 l0_1.length c0_1] 27 zB ?_; clear HB; intro gb274 w4 HB BK274 GW274; have GE274 := GW274; have hcz5_0 := zy BK274 0; have hcz5_1 := zy BK274 1; have hfz5_0 := blk_frozen BK274.out 0; have hfz5_1 := blk_frozen BK274.out 1) | ((with_reducible refine gate_dst (N := 13) rfl ?_); refine Kd.S_make (Kd.slice 3 (Kd.int .i64)) _ 39 rfl (N := 13) rfl 22 _ _ rfl (l0_0.length : Int) rfl rfl Try.underlying22 (.slice none 0 0) 24 info39 rfl (by decide) (by omega) [] (ok := fun _ => True) (okp := fun _ => True) ⟨_, rfl, Kd.R_nil _ _ _ _ _⟩ (fun _ hk => hk) trivial (of_decide_eq_true zA) (Nat.le_trans (Nat.mul_le_mul_right _ (of_decide_eq_true zA : (l0_0.length : Int).toNat ≤ 11728124029610)) (by omega)) (Below.refl _ _) (Nat.le_refl _) ?_; intro v276 w6 ho7 hb hg_ hnew_; clear hg_ hnew_; (first | rw [← Ny275.out] at ho7 | (simp only [Int.reduceToNat] at ho7; rw [← Ny275.out] at ho7)); have HO277 := zM (Kd.S_lower ho7 (below_size zB)); replace BK274 := zM (blk_below (g := gb274) (o := .cells #[.slice A0_0 l0_0.length c0_0, .slice A0_1 l0_1.length c0_1] 27 (0, 0)) (zK BK274.out) hb); replace HB := zM (below_step zB hb); clear hb ho7))
     repeat (go_quiet (first | ((with_reducible refine gate_dst (N := 1) rfl ?_); refine zb (w := w) 1 #[.slice A0_0 l0_0.length c0_0, .slice A0_1 l0_1.length c0_1] 27 zB ?_; clear HB; intro gb274 w4 HB BK274 GW274; have GE274 := GW274; have hcz5_0 := zy BK274 0; have hcz5_1 := zy BK274 1; have hfz5_0 := blk_frozen BK274.out 0; have hfz5_1 := blk_frozen BK274.out 1) | ((with_reducible refine gate_dst (N := 13) rfl ?_); refine Kd.S_make (Kd.slice 3 (Kd.int .i64)) _ 39 rfl (N := 13) rfl 22 _ _ rfl (l0_0.length : Int) rfl rfl Try.underlying22 (.slice none 0 0) 24 info39 rfl (by decide) (by omega) [] (ok := fun _ => True) (okp := fun _ => True) ⟨_, rfl, Kd.R_nil _ _ _ _ _⟩ (fun _ hk => hk) trivial (of_decide_eq_true zA) (Nat.le_trans (Nat.mul_le_mul_right _ (of_decide_eq_true zA : (l0_0.length : Int).toNat ≤ 11728124029610)) (by omega)) (Below.refl _ _) (Nat.le_refl _) ?_; intro v276 w6 ho7 hb hg_ hnew_; clear hg_ hnew_; (first | rw [← Ny275.out] at ho7 | (simp only [Int.reduceToNat] at ho7; rw [← Ny275.out] at ho7)); have HO277 := zM (Kd.S_lower ho7 (below_size zB)); replace BK274 := zM (blk_below (g := gb274) (o := .cells #[.slice A0_0 l0_0.length c0_0, .slice A0_1 l0_1.length c0_1] 27 (0, 0)) (zK BK274.out) hb); replace HB := zM (below_step zB hb); clear hb ho7)); try go_wp2_with (first | ((with_reducible refine gate_dst (N := 1) rfl ?_); refine zb (w := w) 1 #[.slice A0_0 l0_0.length c0_0, .slice A0_1 l0_1.length c0_1] 27 zB ?_; clear HB; intro gb274 w4 HB BK274 GW274; have GE274 := GW274; have hcz5_0 := zy BK274 0; have hcz5_1 := zy BK274 1; have hfz5_0 := blk_frozen BK274.out 0; have hfz5_1 := blk_frozen BK274.out 1) | ((with_reducible refine gate_dst (N := 13) rfl ?_); refine Kd.S_make (Kd.slice 3 (Kd.int .i64)) _ 39 rfl (N := 13) rfl 22 _ _ rfl (l0_0.length : Int) rfl rfl Try.underlying22 (.slice none 0 0) 24 info39 rfl (by decide) (by omega) [] (ok := fun _ => True) (okp := fun _ => True) ⟨_, rfl, Kd.R_nil _ _ _ _ _⟩ (fun _ hk => hk) trivial (of_decide_eq_true zA) (Nat.le_trans (Nat.mul_le_mul_right _ (of_decide_eq_true zA : (l0_0.length : Int).toNat ≤ 11728124029610)) (by omega)) (Below.refl _ _) (Nat.le_refl _) ?_; intro v276 w6 ho7 hb hg_ hnew_; clear hg_ hnew_; (first | rw [← Ny275.out] at ho7 | (simp only [Int.reduceToNat] at ho7; rw [← Ny275.out] at ho7)); have HO277 := zM (Kd.S_lower ho7 (below_size zB)); replace BK274 := zM (blk_below (g := gb274) (o := .cells #[.slice A0_0 l0_0.length c0_0, .slice A0_1 l0_1.length c0_1] 27 (0, 0)) (zK BK274.out) hb); replace HB := zM (below_step zB hb); clear hb ho7)))
     go_loopg [4] k (fun kq v4 w' => ∃ (x3_1 : List (List Int)) (x4_1 : Int), v4 = .int .i64 x4_1 ∧ Aside0 (spec_l2Lists.l0 kq x3_1 x4_1 l0_0 l0_1 = some r) ∧ Aside0 (kq ≤ k) ∧ Aside0 (Kd.S (Kd.slice 3 (Kd.int .i64)) 39 w' w.heap.size (fun _ => True) v276 x3_1) ∧ Aside0 (w'.heap[gb274]? = some (.cells #[(.slice A0_0 l0_0.length c0_0), (.slice A0_1 l0_1.length c0_1)] 27 (0, 0))) ∧ Aside0 (Below w.heap.size w w'))
     case atStart => exact ⟨(y275), (0), (by first | rfl | (simp; done) | (simp [*]; done)), H', ⟨Nat.le_refl _⟩, ⟨by (with_reducible repeat (first | apply Kd.S_alloc | apply Kd.S_drewN | apply Kd.S_drew)); exact HO277.out⟩, ⟨zK BK274.out⟩, ⟨zB⟩⟩
     case round =>
      clear H'
      try clear c1
      try clear c2
      try clear c2b0
      try clear c2b1
      try clear p2
      try clear c3
      try clear c3b0
      try clear c3b1
      try clear hcz5_0
      try clear hcz5_1
      try clear hfz5_0
      try clear hfz5_1
      obtain ⟨x3_1, x4_1, rfl, HA, HK1, HO_3, BK274, HB⟩ := hrel
      cases gk with
      | zero => exact absurd HA.out (by simp [spec_l2Lists.l0])
      | succ k1 =>
       have H := HA.out
       clear HA
       simp only [spec_l2Lists.l0] at H
       by_cases c8 : x4_1 < (l0_1.length : Int)
       · rw [if_pos c8] at H
         have c8b0 := decide_eq_true c8
         clear c8
         by_cases c9 : 0 ≤ x4_1
         · rw [if_pos c9] at H
           have c9b0 := decide_eq_true c9
           clear c9
           by_cases c10 : 0 ≤ ((rd_T41 l0_1 x4_1).f1)
           · rw [if_pos c10] at H
             have c10b0 := decide_eq_true c10
             clear c10
             by_cases c11 : ((rd_T41 l0_1 x4_1).f1) < (x3_1.length : Int)
             · rw [if_pos c11] at H
               have c11b0 := decide_eq_true c11
               clear c11
               by_cases c12 : (rd_L1 x3_1 ((rd_T41 l0_1 x4_1).f1)).length < 17592186044416
               · rw [if_pos c12] at H
                 have LMc12 := Aside0.mk c12
                 clear c12
                 obtain ⟨y281, hy281⟩ : ∃ y_ : List Int, y_ = ((rd_L1 x3_1 ((rd_T41 l0_1 x4_1).f1)) ++ [(rd_T41 l0_1 x4_1).f0]) := ⟨_, rfl⟩
                 replace H : (spec_l2Lists.l0 k1 (x3_1.set (((rd_T41 l0_1 x4_1).f1) : Int).toNat y281) (wrap64 (x4_1 + 1)) l0_0 l0_1) = some r := by first | (rw [hy281]; with_reducible exact H) | (have H2_ := (Option.bind_some _ _).symm.trans H; rw [hy281]; with_reducible exact H2_) | (have H2_ := (Option.bind_some _ _).symm.trans H; with_reducible exact H2_) | with_reducible exact H | (rw [hy281]; exact H) | exact H
                 have Ny281 := Aside0.mk hy281
                 clear hy281
                 obtain ⟨y284, hy284⟩ : ∃ y_ : List (List Int), y_ = (x3_1.set (((rd_T41 l0_1 x4_1).f1) : Int).toNat y281) := ⟨_, rfl⟩
                 replace H : (spec_l2Lists.l0 k1 y284 (wrap64 (x4_1 + 1)) l0_0 l0_1) = some r := by first | (rw [hy284]; with_reducible exact H) | (have H2_ := (Option.bind_some _ _).symm.trans H; rw [hy284]; with_reducible exact H2_) | (have H2_ := (Option.bind_some _ _).symm.trans H; with_reducible exact H2_) | with_reducible exact H | (rw [hy284]; exact H) | exact H
                 have Ny284 := Aside0.mk hy284
                 clear hy284
                 have H' := Aside0.mk H
                 clear H
                 have hcz14_0 := zy BK274 0
                 have hcz14_1 := zy BK274 1
                 have hfz14_0 := blk_frozen BK274.out 0
                 have hfz14_1 := blk_frozen BK274.out 1
                 have p278 : 0 ≤ (x4_1 : Int) := of_decide_eq_true zA
                 have q278 : x4_1 < (l0_1.length : Int) := of_decide_eq_true zA
                 obtain ⟨ad278, e278, hx278_0, hx278_1⟩ := at_T41 HR0_1.out x4_1 p278 q278
                 cases e278
                 (try replace hx278_0 := (HB.out.cell (World.block_lt_of_cell? w _ hx278_0)).trans hx278_0)
                 (try replace hx278_1 := (HB.out.cell (World.block_lt_of_cell? w _ hx278_1)).trans hx278_1)
                 replace p278 := eq_true p278
                 replace q278 := eq_true q278
                 have p279 : 0 ≤ (x4_1 : Int) := of_decide_eq_true zA
                 have q279 : x4_1 < (l0_1.length : Int) := of_decide_eq_true zA
                 obtain ⟨ad279, e279, hx279_0, hx279_1⟩ := at_T41 HR0_1.out x4_1 p279 q279
                 obtain rfl : ad278 = ad279 := (by injection e279)
                 (try replace hx279_0 := (HB.out.cell (World.block_lt_of_cell? w _ hx279_0)).trans hx279_0)
                 (try replace hx279_1 := (HB.out.cell (World.block_lt_of_cell? w _ hx279_1)).trans hx279_1)
                 replace p279 := eq_true p279
                 replace q279 := eq_true q279
                 obtain ⟨Ao15, co15, eo15⟩ := Kd.S_slice HO_3.out
                 subst eo15
                 have p280 : 0 ≤ (((rd_T41 l0_1 x4_1).f1) : Int) := of_decide_eq_true zA
                 have q280 : ((rd_T41 l0_1 x4_1).f1) < (x3_1.length : Int) := of_decide_eq_true zA
                 obtain ⟨ad280, A280_0, c280_0, e280, hx280_0, hl280_0, hi280_0⟩ := at_L1 (Kd.S_reads' HO_3.out).2.2 ((rd_T41 l0_1 x4_1).f1) p280 q280
                 cases e280
                 obtain ⟨ce280, hce280, hMe280, hcc280⟩ := Kd.S_get HO_3.out [] ((rd_T41 l0_1 x4_1).f1) p280 (by first | exact q280 | exact of_decide_eq_true zA | (have e_ := (Kd.S_reads' HO_3.out).1; omega))
                 obtain ⟨ve280_0, rfl, ge280_0⟩ := hMe280
                 have hv280_0 := hcc280 0 _ rfl
                 rw [Nat.add_zero, show ((Kd.slice 3 (Kd.int .i64))).sz = 1 from rfl, Nat.mul_one] at hv280_0
                 replace hv280_0 := Option.some.inj (hv280_0.symm.trans hx280_0)
                 rw [hv280_0] at ge280_0
                 have HL280_0 := zM (show Kd.R (Kd.int .i64) 3 _ _ _ _ (rd_L1 x3_1 ((rd_T41 l0_1 x4_1).f1)) from ge280_0)
                 clear hv280_0 ge280_0
                 have HX280_0 := Aside0.mk hx280_0
                 clear hcc280 hce280
                 have HR280_0 := Aside0.mk hi280_0
                 have HC280_0 := Aside0.mk hl280_0
                 clear hi280_0 hl280_0
                 replace p280 := eq_true p280
                 replace q280 := eq_true q280
                 obtain ⟨go16, co16, eo16, gb16, gl16, cl16, HG16⟩ := Kd.S_form HO_3.out (by have h_ : (((rd_T41 l0_1 x4_1).f1) : Int) < ((x3_1.length : Int) : Int) := of_decide_eq_true zA; have h2_ : 0 ≤ (((rd_T41 l0_1 x4_1).f1) : Int) := (of_decide_eq_true zA); omega)
                 (first | cases eo16 | (injection eo16 with ea_ en_ ec_; (first | subst ea_ | (injection ea_ with ea_; subst ea_)); subst ec_; clear en_))
                 have GB16 := Aside0.mk gb16
                 have GG16 := Aside0.mk HG16
                 clear gb16 gl16 HG16
                 (first | simp only [add_plain] at hx280_0 | skip)
                 obtain ⟨oki16, ce16, hcl16, hM16, hcc16, _, _, hH16⟩ := Kd.S_elem HO_3.out [] (((rd_T41 l0_1 x4_1).f1) : Int) (of_decide_eq_true zA) (by have h_ : (((rd_T41 l0_1 x4_1).f1) : Int) < ((x3_1.length : Int) : Int) := of_decide_eq_true zA; first | exact h_ | (have e_ := (Kd.S_reads' HO_3.out).1; omega) | simpa using h_)
                 obtain ⟨ve16_0, rfl, ge16_0⟩ := hM16
                 have hv16 := hcc16 0 _ rfl
                 have hX16 := HX280_0.out
                 (try simp only [add_plain] at hX16)
                 (try simp only [Nat.add_zero] at hv16)
                 (try rw [show ((Kd.slice 3 (Kd.int .i64))).sz = 1 from rfl, Nat.mul_one] at hv16)
                 replace hv16 := Option.some.inj (hv16.symm.trans hX16)
                 subst hv16
                 clear hX16 hcc16 hcl16
                 have UU16 := zM (show Kd.R (Kd.int .i64) 3 _ w.heap.size oki16 (.slice A280_0 (rd_L1 x3_1 ((rd_T41 l0_1 x4_1).f1)).length c280_0) (rd_L1 x3_1 ((rd_T41 l0_1 x4_1).f1)) from ge16_0)
                 have HH16 := Aside0.mk hH16
                 have HN16 := zM (Kd.S_reads' HO_3.out).1
                 clear hH16 ge16_0
                 go_wp2_with (first | ((with_reducible refine gate_builtin (b := .append) (xs := #[.tmp 38, .tmp 40]) rfl ?_); at_builtin; refine Kd.R_append (Kd.int .i64) (w0 := w) w.heap.size rfl (.tmp 38) (.tmp 40) 39 3 (.int .i64 0) 8 rfl Try.underlying39 info3 rfl (by decide) (by omega) (.slice A280_0 (rd_L1 x3_1 ((rd_T41 l0_1 x4_1).f1)).length c280_0) (rd_L1 x3_1 ((rd_T41 l0_1 x4_1).f1)) ((rd_T41 l0_1 x4_1).f0) [.int .i64 ((rd_T41 l0_1 x4_1).f0)] (fun k_ => oki16 k_ ∨ ((fun _ => True)) k_ ∧ wr.heap.size ≤ k_) (fun _ => False) rfl rfl ?aP (fun _ hk => hk.elim) ?aF ?aO ?aB ?aS ?aL ?_; (case aP => exact rfl); (case aB => exact zB); (case aF => exact (fun k_ hk => .inr ⟨trivial, hk⟩)); (case aO => exact (by (with_reducible repeat (first | apply Kd.R_alloc | apply Kd.R_drewN | apply Kd.R_drew)); exact Kd.R_mono UU16.out (fun _ hk => .inl hk))); (case aS => exact (below_size zB)); (case aL => have := LMc12.out; omega); intro v282 w17 ho hb hg hat; rw [← Ny281.out] at ho; replace BK274 := zM (blk_grown (g := gb274) (o := .cells #[.slice A0_0 l0_0.length c0_0, .slice (some ad278) l0_1.length c0_1] 27 (0, 0)) (zK BK274.out) hg (Kd.R_ne HL280_0.out BK274.out (by decide))); replace HB := zM (hb); replace HH16 := zM (Kd.H_grown (Kd.H_widen (by repeat (first | exact HH16.out | refine Kd.H_alloc ?_ _ | refine Kd.H_drewN ?_ _ | refine Kd.H_drew ?_))) hg (fun k_ e_ => .inl (UU16.out.1 k_ e_))); have HO283 := zM (ho); clear HO_3 UU16 HL280_0; clear ho hb hg hat; have p13 : 0 ≤ (((rd_T41 l0_1 x4_1).f1) : Int) := of_decide_eq_true zA; have q13 : (((rd_T41 l0_1 x4_1).f1) : Int) < ((x3_1.length : Int) : Int) := of_decide_eq_true zA; replace p13 := eq_true p13; replace q13 := eq_true q13; obtain ⟨Ao20, co20, eo20⟩ := Kd.R_slice HO283.out; subst eo20; obtain ⟨_, _, hraw18, _, _, hcc18, _⟩ := Kd.H_raw HH16.out (of_decide_eq_true zA) (by have h_ : (((rd_T41 l0_1 x4_1).f1) : Int) < ((x3_1.length : Int) : Int) := of_decide_eq_true zA; first | exact h_ | (have e_ := (HN16.out); omega) | simpa using h_); obtain ⟨_, hfr18⟩ := Kd.H_at HH16.out (of_decide_eq_true zA) (by have h_ : (((rd_T41 l0_1 x4_1).f1) : Int) < ((x3_1.length : Int) : Int) := of_decide_eq_true zA; first | exact h_ | (have e_ := (HN16.out); omega) | simpa using h_); have hx18_0 := hcc18 0 _ rfl; have hf18_0 := hfr18 0; (try simp only [Nat.add_zero] at hx18_0 hf18_0); (try rw [show ((Kd.slice 3 (Kd.int .i64))).sz = 1 from rfl, Nat.mul_one] at hx18_0); (try rw [show ((Kd.slice 3 (Kd.int .i64))).sz = 1 from rfl, Nat.mul_one] at hf18_0); have HP18 := Kd.S_seg0 HH16.out (of_decide_eq_true zA) (by have h_ : (((rd_T41 l0_1 x4_1).f1) : Int) < ((x3_1.length : Int) : Int) := of_decide_eq_true zA; first | exact h_ | (have e_ := (HN16.out); omega) | simpa using h_) (seg := [.slice Ao20 y281.length co20]) (j := 0) (show 1 ≤ 1 from by decide) (x' := y281) (Kd.M_row HO283.out) (fun _ hk => hk); (try simp only [show ((Kd.slice 3 (Kd.int .i64))).sz = 1 from rfl, Nat.mul_one, Nat.add_zero] at HP18); clear hcc18 hfr18) | ((with_reducible refine gate_store (t := 39) (p := 42) rfl ?_); (try (rw [drewN_self w17]; generalize hq_ : World.drewN w17 _ = w17; have n0_ := zM (Kd.S_at hq_ HO_3.out); have n1_ := zM (blk_at hq_ BK274.out); have n2_ := zM (below_at hq_ HB.out); clear hq_ HO_3 BK274 HB; have HO_3 := n0_; have BK274 := n1_; have HB := n2_; clear n0_ n1_ n2_; (try (obtain ⟨Ao20, co20, eo20⟩ := Kd.R_slice HO283.out)); (try (subst eo20)); (try (obtain ⟨_, _, hraw18, _, _, hcc18, _⟩ := Kd.H_raw HH16.out (of_decide_eq_true zA) (by have h_ : (((rd_T41 l0_1 x4_1).f1) : Int) < ((x3_1.length : Int) : Int) := of_decide_eq_true zA; first | exact h_ | (have e_ := (HN16.out); omega) | simpa using h_))); (try (obtain ⟨_, hfr18⟩ := Kd.H_at HH16.out (of_decide_eq_true zA) (by have h_ : (((rd_T41 l0_1 x4_1).f1) : Int) < ((x3_1.length : Int) : Int) := of_decide_eq_true zA; first | exact h_ | (have e_ := (HN16.out); omega) | simpa using h_))); (try (have hx18_0 := hcc18 0 _ rfl)); (try (have hf18_0 := hfr18 0)); (try (try simp only [Nat.add_zero] at hx18_0 hf18_0)); (try (try rw [show ((Kd.slice 3 (Kd.int .i64))).sz = 1 from rfl, Nat.mul_one] at hx18_0)); (try (try rw [show ((Kd.slice 3 (Kd.int .i64))).sz = 1 from rfl, Nat.mul_one] at hf18_0)); (try (have HP18 := Kd.S_seg0 HH16.out (of_decide_eq_true zA) (by have h_ : (((rd_T41 l0_1 x4_1).f1) : Int) < ((x3_1.length : Int) : Int) := of_decide_eq_true zA; first | exact h_ | (have e_ := (HN16.out); omega) | simpa using h_) (seg := [.slice Ao20 y281.length co20]) (j := 0) (show 1 ≤ 1 from by decide) (x' := y281) (Kd.M_row HO283.out) (fun _ hk => hk))); (try (try simp only [show ((Kd.slice 3 (Kd.int .i64))).sz = 1 from rfl, Nat.mul_one, Nat.add_zero] at HP18)); (try (clear hcc18 hfr18)))); refine store_event (t := 39) (p := 42) (v := ?vo_w19) (w1 := (w17.setCell ⟨go16, (((rd_T41 l0_1 x4_1).f1) : Int).toNat, none⟩ (.slice Ao20 y281.length co20))) ?hg ?ho ?hn ?hr ?_; (case ho => rfl); (case hg => rfl); (case hn => rfl); (case hr => first | (go_simp; done) | (go_simp; rfl)); intro w19 hw; have hg : w17.grownBy w19 (some go16) := (by rw [hw]; exact HP18.2); have hp_ : Kd.S (Kd.slice 3 (Kd.int .i64)) 39 w19 w.heap.size (fun _ => True) (.slice (some ⟨go16, 0, none⟩) x3_1.length co15) y284 := (by rw [hw, Ny284.out]; exact HP18.1); clear HP18; replace BK274 := zM (blk_grown (g := gb274) (o := .cells #[.slice A0_0 l0_0.length c0_0, .slice (some ad278) l0_1.length c0_1] 27 (0, 0)) (zK BK274.out) hg (Kd.R_ne hraw18 BK274.out (by decide))); replace HB := zM ((by rw [hw]; exact below_set HB.out GB16.out : Below w.heap.size w w19)); have HO_3 := zM (hp_); clear HO283 HH16; clear hg hw hp_ hraw18))
                 repeat (go_quiet (first | ((with_reducible refine gate_builtin (b := .append) (xs := #[.tmp 38, .tmp 40]) rfl ?_); at_builtin; refine Kd.R_append (Kd.int .i64) (w0 := w) w.heap.size rfl (.tmp 38) (.tmp 40) 39 3 (.int .i64 0) 8 rfl Try.underlying39 info3 rfl (by decide) (by omega) (.slice A280_0 (rd_L1 x3_1 ((rd_T41 l0_1 x4_1).f1)).length c280_0) (rd_L1 x3_1 ((rd_T41 l0_1 x4_1).f1)) ((rd_T41 l0_1 x4_1).f0) [.int .i64 ((rd_T41 l0_1 x4_1).f0)] (fun k_ => oki16 k_ ∨ ((fun _ => True)) k_ ∧ wr.heap.size ≤ k_) (fun _ => False) rfl rfl ?aP (fun _ hk => hk.elim) ?aF ?aO ?aB ?aS ?aL ?_; (case aP => exact rfl); (case aB => exact zB); (case aF => exact (fun k_ hk => .inr ⟨trivial, hk⟩)); (case aO => exact (by (with_reducible repeat (first | apply Kd.R_alloc | apply Kd.R_drewN | apply Kd.R_drew)); exact Kd.R_mono UU16.out (fun _ hk => .inl hk))); (case aS => exact (below_size zB)); (case aL => have := LMc12.out; omega); intro v282 w17 ho hb hg hat; rw [← Ny281.out] at ho; replace BK274 := zM (blk_grown (g := gb274) (o := .cells #[.slice A0_0 l0_0.length c0_0, .slice (some ad278) l0_1.length c0_1] 27 (0, 0)) (zK BK274.out) hg (Kd.R_ne HL280_0.out BK274.out (by decide))); replace HB := zM (hb); replace HH16 := zM (Kd.H_grown (Kd.H_widen (by repeat (first | exact HH16.out | refine Kd.H_alloc ?_ _ | refine Kd.H_drewN ?_ _ | refine Kd.H_drew ?_))) hg (fun k_ e_ => .inl (UU16.out.1 k_ e_))); have HO283 := zM (ho); clear HO_3 UU16 HL280_0; clear ho hb hg hat; have p13 : 0 ≤ (((rd_T41 l0_1 x4_1).f1) : Int) := of_decide_eq_true zA; have q13 : (((rd_T41 l0_1 x4_1).f1) : Int) < ((x3_1.length : Int) : Int) := of_decide_eq_true zA; replace p13 := eq_true p13; replace q13 := eq_true q13; obtain ⟨Ao20, co20, eo20⟩ := Kd.R_slice HO283.out; subst eo20; obtain ⟨_, _, hraw18, _, _, hcc18, _⟩ := Kd.H_raw HH16.out (of_decide_eq_true zA) (by have h_ : (((rd_T41 l0_1 x4_1).f1) : Int) < ((x3_1.length : Int) : Int) := of_decide_eq_true zA; first | exact h_ | (have e_ := (HN16.out); omega) | simpa using h_); obtain ⟨_, hfr18⟩ := Kd.H_at HH16.out (of_decide_eq_true zA) (by have h_ : (((rd_T41 l0_1 x4_1).f1) : Int) < ((x3_1.length : Int) : Int) := of_decide_eq_true zA; first | exact h_ | (have e_ := (HN16.out); omega) | simpa using h_); have hx18_0 := hcc18 0 _ rfl; have hf18_0 := hfr18 0; (try simp only [Nat.add_zero] at hx18_0 hf18_0); (try rw [show ((Kd.slice 3 (Kd.int .i64))).sz = 1 from rfl, Nat.mul_one] at hx18_0); (try rw [show ((Kd.slice 3 (Kd.int .i64))).sz = 1 from rfl, Nat.mul_one] at hf18_0); have HP18 := Kd.S_seg0 HH16.out (of_decide_eq_true zA) (by have h_ : (((rd_T41 l0_1 x4_1).f1) : Int) < ((x3_1.length : Int) : Int) := of_decide_eq_true zA; first | exact h_ | (have e_ := (HN16.out); omega) | simpa using h_) (seg := [.slice Ao20 y281.length co20]) (j := 0) (show 1 ≤ 1 from by decide) (x' := y281) (Kd.M_row HO283.out) (fun _ hk => hk); (try simp only [show ((Kd.slice 3 (Kd.int .i64))).sz = 1 from rfl, Nat.mul_one, Nat.add_zero] at HP18); clear hcc18 hfr18) | ((with_reducible refine gate_store (t := 39) (p := 42) rfl ?_); (try (rw [drewN_self w17]; generalize hq_ : World.drewN w17 _ = w17; have n0_ := zM (Kd.S_at hq_ HO_3.out); have n1_ := zM (blk_at hq_ BK274.out); have n2_ := zM (below_at hq_ HB.out); clear hq_ HO_3 BK274 HB; have HO_3 := n0_; have BK274 := n1_; have HB := n2_; clear n0_ n1_ n2_; (try (obtain ⟨Ao20, co20, eo20⟩ := Kd.R_slice HO283.out)); (try (subst eo20)); (try (obtain ⟨_, _, hraw18, _, _, hcc18, _⟩ := Kd.H_raw HH16.out (of_decide_eq_true zA) (by have h_ : (((rd_T41 l0_1 x4_1).f1) : Int) < ((x3_1.length : Int) : Int) := of_decide_eq_true zA; first | exact h_ | (have e_ := (HN16.out); omega) | simpa using h_))); (try (obtain ⟨_, hfr18⟩ := Kd.H_at HH16.out (of_decide_eq_true zA) (by have h_ : (((rd_T41 l0_1 x4_1).f1) : Int) < ((x3_1.length : Int) : Int) := of_decide_eq_true zA; first | exact h_ | (have e_ := (HN16.out); omega) | simpa using h_))); (try (have hx18_0 := hcc18 0 _ rfl)); (try (have hf18_0 := hfr18 0)); (try (try simp only [Nat.add_zero] at hx18_0 hf18_0)); (try (try rw [show ((Kd.slice 3 (Kd.int .i64))).sz = 1 from rfl, Nat.mul_one] at hx18_0)); (try (try rw [show ((Kd.slice 3 (Kd.int .i64))).sz = 1 from rfl, Nat.mul_one] at hf18_0)); (try (have HP18 := Kd.S_seg0 HH16.out (of_decide_eq_true zA) (by have h_ : (((rd_T41 l0_1 x4_1).f1) : Int) < ((x3_1.length : Int) : Int) := of_decide_eq_true zA; first | exact h_ | (have e_ := (HN16.out); omega) | simpa using h_) (seg := [.slice Ao20 y281.length co20]) (j := 0) (show 1 ≤ 1 from by decide) (x' := y281) (Kd.M_row HO283.out) (fun _ hk => hk))); (try (try simp only [show ((Kd.slice 3 (Kd.int .i64))).sz = 1 from rfl, Nat.mul_one, Nat.add_zero] at HP18)); (try (clear hcc18 hfr18)))); refine store_event (t := 39) (p := 42) (v := ?vo_w19) (w1 := (w17.setCell ⟨go16, (((rd_T41 l0_1 x4_1).f1) : Int).toNat, none⟩ (.slice Ao20 y281.length co20))) ?hg ?ho ?hn ?hr ?_; (case ho => rfl); (case hg => rfl); (case hn => rfl); (case hr => first | (go_simp; done) | (go_simp; rfl)); intro w19 hw; have hg : w17.grownBy w19 (some go16) := (by rw [hw]; exact HP18.2); have hp_ : Kd.S (Kd.slice 3 (Kd.int .i64)) 39 w19 w.heap.size (fun _ => True) (.slice (some ⟨go16, 0, none⟩) x3_1.length co15) y284 := (by rw [hw, Ny284.out]; exact HP18.1); clear HP18; replace BK274 := zM (blk_grown (g := gb274) (o := .cells #[.slice A0_0 l0_0.length c0_0, .slice (some ad278) l0_1.length c0_1] 27 (0, 0)) (zK BK274.out) hg (Kd.R_ne hraw18 BK274.out (by decide))); replace HB := zM ((by rw [hw]; exact below_set HB.out GB16.out : Below w.heap.size w w19)); have HO_3 := zM (hp_); clear HO283 HH16; clear hg hw hp_ hraw18)); try go_wp2_with (first | ((with_reducible refine gate_builtin (b := .append) (xs := #[.tmp 38, .tmp 40]) rfl ?_); at_builtin; refine Kd.R_append (Kd.int .i64) (w0 := w) w.heap.size rfl (.tmp 38) (.tmp 40) 39 3 (.int .i64 0) 8 rfl Try.underlying39 info3 rfl (by decide) (by omega) (.slice A280_0 (rd_L1 x3_1 ((rd_T41 l0_1 x4_1).f1)).length c280_0) (rd_L1 x3_1 ((rd_T41 l0_1 x4_1).f1)) ((rd_T41 l0_1 x4_1).f0) [.int .i64 ((rd_T41 l0_1 x4_1).f0)] (fun k_ => oki16 k_ ∨ ((fun _ => True)) k_ ∧ wr.heap.size ≤ k_) (fun _ => False) rfl rfl ?aP (fun _ hk => hk.elim) ?aF ?aO ?aB ?aS ?aL ?_; (case aP => exact rfl); (case aB => exact zB); (case aF => exact (fun k_ hk => .inr ⟨trivial, hk⟩)); (case aO => exact (by (with_reducible repeat (first | apply Kd.R_alloc | apply Kd.R_drewN | apply Kd.R_drew)); exact Kd.R_mono UU16.out (fun _ hk => .inl hk))); (case aS => exact (below_size zB)); (case aL => have := LMc12.out; omega); intro v282 w17 ho hb hg hat; rw [← Ny281.out] at ho; replace BK274 := zM (blk_grown (g := gb274) (o := .cells #[.slice A0_0 l0_0.length c0_0, .slice (some ad278) l0_1.length c0_1] 27 (0, 0)) (zK BK274.out) hg (Kd.R_ne HL280_0.out BK274.out (by decide))); replace HB := zM (hb); replace HH16 := zM (Kd.H_grown (Kd.H_widen (by repeat (first | exact HH16.out | refine Kd.H_alloc ?_ _ | refine Kd.H_drewN ?_ _ | refine Kd.H_drew ?_))) hg (fun k_ e_ => .inl (UU16.out.1 k_ e_))); have HO283 := zM (ho); clear HO_3 UU16 HL280_0; clear ho hb hg hat; have p13 : 0 ≤ (((rd_T41 l0_1 x4_1).f1) : Int) := of_decide_eq_true zA; have q13 : (((rd_T41 l0_1 x4_1).f1) : Int) < ((x3_1.length : Int) : Int) := of_decide_eq_true zA; replace p13 := eq_true p13; replace q13 := eq_true q13; obtain ⟨Ao20, co20, eo20⟩ := Kd.R_slice HO283.out; subst eo20; obtain ⟨_, _, hraw18, _, _, hcc18, _⟩ := Kd.H_raw HH16.out (of_decide_eq_true zA) (by have h_ : (((rd_T41 l0_1 x4_1).f1) : Int) < ((x3_1.length : Int) : Int) := of_decide_eq_true zA; first | exact h_ | (have e_ := (HN16.out); omega) | simpa using h_); obtain ⟨_, hfr18⟩ := Kd.H_at HH16.out (of_decide_eq_true zA) (by have h_ : (((rd_T41 l0_1 x4_1).f1) : Int) < ((x3_1.length : Int) : Int) := of_decide_eq_true zA; first | exact h_ | (have e_ := (HN16.out); omega) | simpa using h_); have hx18_0 := hcc18 0 _ rfl; have hf18_0 := hfr18 0; (try simp only [Nat.add_zero] at hx18_0 hf18_0); (try rw [show ((Kd.slice 3 (Kd.int .i64))).sz = 1 from rfl, Nat.mul_one] at hx18_0); (try rw [show ((Kd.slice 3 (Kd.int .i64))).sz = 1 from rfl, Nat.mul_one] at hf18_0); have HP18 := Kd.S_seg0 HH16.out (of_decide_eq_true zA) (by have h_ : (((rd_T41 l0_1 x4_1).f1) : Int) < ((x3_1.length : Int) : Int) := of_decide_eq_true zA; first | exact h_ | (have e_ := (HN16.out); omega) | simpa using h_) (seg := [.slice Ao20 y281.length co20]) (j := 0) (show 1 ≤ 1 from by decide) (x' := y281) (Kd.M_row HO283.out) (fun _ hk => hk); (try simp only [show ((Kd.slice 3 (Kd.int .i64))).sz = 1 from rfl, Nat.mul_one, Nat.add_zero] at HP18); clear hcc18 hfr18) | ((with_reducible refine gate_store (t := 39) (p := 42) rfl ?_); (try (rw [drewN_self w17]; generalize hq_ : World.drewN w17 _ = w17; have n0_ := zM (Kd.S_at hq_ HO_3.out); have n1_ := zM (blk_at hq_ BK274.out); have n2_ := zM (below_at hq_ HB.out); clear hq_ HO_3 BK274 HB; have HO_3 := n0_; have BK274 := n1_; have HB := n2_; clear n0_ n1_ n2_; (try (obtain ⟨Ao20, co20, eo20⟩ := Kd.R_slice HO283.out)); (try (subst eo20)); (try (obtain ⟨_, _, hraw18, _, _, hcc18, _⟩ := Kd.H_raw HH16.out (of_decide_eq_true zA) (by have h_ : (((rd_T41 l0_1 x4_1).f1) : Int) < ((x3_1.length : Int) : Int) := of_decide_eq_true zA; first | exact h_ | (have e_ := (HN16.out); omega) | simpa using h_))); (try (obtain ⟨_, hfr18⟩ := Kd.H_at HH16.out (of_decide_eq_true zA) (by have h_ : (((rd_T41 l0_1 x4_1).f1) : Int) < ((x3_1.length : Int) : Int) := of_decide_eq_true zA; first | exact h_ | (have e_ := (HN16.out); omega) | simpa using h_))); (try (have hx18_0 := hcc18 0 _ rfl)); (try (have hf18_0 := hfr18 0)); (try (try simp only [Nat.add_zero] at hx18_0 hf18_0)); (try (try rw [show ((Kd.slice 3 (Kd.int .i64))).sz = 1 from rfl, Nat.mul_one] at hx18_0)); (try (try rw [show ((Kd.slice 3 (Kd.int .i64))).sz = 1 from rfl, Nat.mul_one] at hf18_0)); (try (have HP18 := Kd.S_seg0 HH16.out (of_decide_eq_true zA) (by have h_ : (((rd_T41 l0_1 x4_1).f1) : Int) < ((x3_1.length : Int) : Int) := of_decide_eq_true zA; first | exact h_ | (have e_ := (HN16.out); omega) | simpa using h_) (seg := [.slice Ao20 y281.length co20]) (j := 0) (show 1 ≤ 1 from by decide) (x' := y281) (Kd.M_row HO283.out) (fun _ hk => hk))); (try (try simp only [show ((Kd.slice 3 (Kd.int .i64))).sz = 1 from rfl, Nat.mul_one, Nat.add_zero] at HP18)); (try (clear hcc18 hfr18)))); refine store_event (t := 39) (p := 42) (v := ?vo_w19) (w1 := (w17.setCell ⟨go16, (((rd_T41 l0_1 x4_1).f1) : Int).toNat, none⟩ (.slice Ao20 y281.length co20))) ?hg ?ho ?hn ?hr ?_; (case ho => rfl); (case hg => rfl); (case hn => rfl); (case hr => first | (go_simp; done) | (go_simp; rfl)); intro w19 hw; have hg : w17.grownBy w19 (some go16) := (by rw [hw]; exact HP18.2); have hp_ : Kd.S (Kd.slice 3 (Kd.int .i64)) 39 w19 w.heap.size (fun _ => True) (.slice (some ⟨go16, 0, none⟩) x3_1.length co15) y284 := (by rw [hw, Ny284.out]; exact HP18.1); clear HP18; replace BK274 := zM (blk_grown (g := gb274) (o := .cells #[.slice A0_0 l0_0.length c0_0, .slice (some ad278) l0_1.length c0_1] 27 (0, 0)) (zK BK274.out) hg (Kd.R_ne hraw18 BK274.out (by decide))); replace HB := zM ((by rw [hw]; exact below_set HB.out GB16.out : Below w.heap.size w w19)); have HO_3 := zM (hp_); clear HO283 HH16; clear hg hw hp_ hraw18)))
                 go_roundg k1
                 case measure => have := HK1.out; omega
                 case rel => exact ⟨(y284), (wrap64 (x4_1 + 1)), (by first | rfl | (simp; done) | (simp [*]; done)), H', ⟨by have := HK1.out; omega⟩, ⟨by (with_reducible repeat (first | apply Kd.S_alloc | apply Kd.S_drewN | apply Kd.S_drew)); exact HO_3.out⟩, ⟨zK BK274.out⟩, ⟨zB⟩⟩
               · rw [if_neg c12] at H
                 exact absurd H (by simp)
             · rw [if_neg c11] at H
               exact absurd H (by simp)
           · rw [if_neg c10] at H
             exact absurd H (by simp)
         · rw [if_neg c9] at H
           exact absurd H (by simp)
       · rw [if_neg c8] at H
         have c8b0 : decide (x4_1 < (l0_1.length : Int)) = false := decide_eq_false c8
         clear c8
         have H' := Aside0.mk H
         clear H
         have hcz21_0 := zy BK274 0
         have hcz21_1 := zy BK274 1
         have hfz21_0 := blk_frozen BK274.out 0
         have hfz21_1 := blk_frozen BK274.out 1
         go_wp2
         repeat (go_quiet (fail); try go_wp2)
         go_loopg [7] k1 (fun kq v7 w' => ∃ (x3_2 : List (List Int)) (x7_2 : Int), v7 = .int .i64 x7_2 ∧ Aside0 (spec_l2Lists.l1 kq x3_2 x7_2 l0_0 l0_1 = some r) ∧ Aside0 (kq ≤ k1) ∧ Aside0 (Kd.S (Kd.slice 3 (Kd.int .i64)) 39 w' w.heap.size (fun _ => True) v276 x3_2) ∧ Aside0 (w'.heap[gb274]? = some (.cells #[(.slice A0_0 l0_0.length c0_0), (.slice A0_1 l0_1.length c0_1)] 27 (0, 0))) ∧ Aside0 (Below w.heap.size w w'))
         case atStart => exact ⟨(x3_1), (0), (by first | rfl | (simp; done) | (simp [*]; done)), H', ⟨Nat.le_refl _⟩, ⟨by (with_reducible repeat (first | apply Kd.S_alloc | apply Kd.S_drewN | apply Kd.S_drew)); exact HO_3.out⟩, ⟨zK BK274.out⟩, ⟨zB⟩⟩
         case round =>
          clear H'
          try clear c1
          try clear p1
          try clear q1
          try clear hx1
          try clear hf1
          try clear c2
          try clear c2b0
          try clear c2b1
          try clear p2
          try clear q2
          try clear hx2
          try clear c3
          try clear c3b0
          try clear c3b1
          try clear p6
          try clear c8
          try clear c8b0
          try clear c9
          try clear c9b0
          try clear c10
          try clear c10b0
          try clear c11
          try clear c11b0
          try clear c12
          try clear p13
          try clear q13
          try clear c16
          try clear c18
          try clear hx18
          try clear hf18
          try clear c19
          try clear hcz14_0
          try clear hcz14_1
          try clear hcz21_0
          try clear hcz21_1
          try clear hcz5_0
          try clear hcz5_1
          try clear hfz14_0
          try clear hfz14_1
          try clear hfz21_0
          try clear hfz21_1
          try clear hfz5_0
          try clear hfz5_1
          try clear hx18_0
          try clear hx278_0
          try clear hx278_1
          try clear hx279_0
          try clear hx279_1
          try clear hx280_0
          try clear p13
          try clear p2
          try clear p278
          try clear p279
          try clear p280
          try clear q13
          try clear q278
          try clear q279
          try clear q280
          obtain ⟨x3_2, x7_2, rfl, HA, HK2, HO_3, BK274, HB⟩ := hrel
          cases gk with
          | zero => exact absurd HA.out (by simp [spec_l2Lists.l1])
          | succ k2 =>
           have H := HA.out
           clear HA
           simp only [spec_l2Lists.l1] at H
           by_cases c22 : x7_2 < (l0_1.length : Int)
           · rw [if_pos c22] at H
             have c22b0 := decide_eq_true c22
             clear c22
             by_cases c23 : 0 ≤ x7_2
             · rw [if_pos c23] at H
               have c23b0 := decide_eq_true c23
               clear c23
               by_cases c24 : 0 ≤ ((rd_T41 l0_1 x7_2).f0)
               · rw [if_pos c24] at H
                 have c24b0 := decide_eq_true c24
                 clear c24
                 by_cases c25 : ((rd_T41 l0_1 x7_2).f0) < (x3_2.length : Int)
                 · rw [if_pos c25] at H
                   have c25b0 := decide_eq_true c25
                   clear c25
                   by_cases c26 : (rd_L1 x3_2 ((rd_T41 l0_1 x7_2).f0)).length < 17592186044416
                   · rw [if_pos c26] at H
                     have LMc26 := Aside0.mk c26
                     clear c26
                     obtain ⟨y288, hy288⟩ : ∃ y_ : List Int, y_ = ((rd_L1 x3_2 ((rd_T41 l0_1 x7_2).f0)) ++ [(rd_T41 l0_1 x7_2).f1]) := ⟨_, rfl⟩
                     replace H : (spec_l2Lists.l1 k2 (x3_2.set (((rd_T41 l0_1 x7_2).f0) : Int).toNat y288) (wrap64 (x7_2 + 1)) l0_0 l0_1) = some r := by first | (rw [hy288]; with_reducible exact H) | (have H2_ := (Option.bind_some _ _).symm.trans H; rw [hy288]; with_reducible exact H2_) | (have H2_ := (Option.bind_some _ _).symm.trans H; with_reducible exact H2_) | with_reducible exact H | (rw [hy288]; exact H) | exact H
                     have Ny288 := Aside0.mk hy288
                     clear hy288
                     obtain ⟨y291, hy291⟩ : ∃ y_ : List (List Int), y_ = (x3_2.set (((rd_T41 l0_1 x7_2).f0) : Int).toNat y288) := ⟨_, rfl⟩
                     replace H : (spec_l2Lists.l1 k2 y291 (wrap64 (x7_2 + 1)) l0_0 l0_1) = some r := by first | (rw [hy291]; with_reducible exact H) | (have H2_ := (Option.bind_some _ _).symm.trans H; rw [hy291]; with_reducible exact H2_) | (have H2_ := (Option.bind_some _ _).symm.trans H; with_reducible exact H2_) | with_reducible exact H | (rw [hy291]; exact H) | exact H
                     have Ny291 := Aside0.mk hy291
                     clear hy291
                     have H' := Aside0.mk H
                     clear H
                     have hcz28_0 := zy BK274 0
                     have hcz28_1 := zy BK274 1
                     have hfz28_0 := blk_frozen BK274.out 0
                     have hfz28_1 := blk_frozen BK274.out 1
                     have p285 : 0 ≤ (x7_2 : Int) := of_decide_eq_true zA
                     have q285 : x7_2 < (l0_1.length : Int) := of_decide_eq_true zA
                     obtain ⟨ad285, e285, hx285_0, hx285_1⟩ := at_T41 HR0_1.out x7_2 p285 q285
                     cases e285
                     (try replace hx285_0 := (HB.out.cell (World.block_lt_of_cell? w _ hx285_0)).trans hx285_0)
                     (try replace hx285_1 := (HB.out.cell (World.block_lt_of_cell? w _ hx285_1)).trans hx285_1)
                     replace p285 := eq_true p285
                     replace q285 := eq_true q285
                     have p286 : 0 ≤ (x7_2 : Int) := of_decide_eq_true zA
                     have q286 : x7_2 < (l0_1.length : Int) := of_decide_eq_true zA
                     obtain ⟨ad286, e286, hx286_0, hx286_1⟩ := at_T41 HR0_1.out x7_2 p286 q286
                     obtain rfl : ad285 = ad286 := (by injection e286)
                     (try replace hx286_0 := (HB.out.cell (World.block_lt_of_cell? w _ hx286_0)).trans hx286_0)
                     (try replace hx286_1 := (HB.out.cell (World.block_lt_of_cell? w _ hx286_1)).trans hx286_1)
                     replace p286 := eq_true p286
                     replace q286 := eq_true q286
                     obtain ⟨Ao29, co29, eo29⟩ := Kd.S_slice HO_3.out
                     subst eo29
                     have p287 : 0 ≤ (((rd_T41 l0_1 x7_2).f0) : Int) := of_decide_eq_true zA
                     have q287 : ((rd_T41 l0_1 x7_2).f0) < (x3_2.length : Int) := of_decide_eq_true zA
                     obtain ⟨ad287, A287_0, c287_0, e287, hx287_0, hl287_0, hi287_0⟩ := at_L1 (Kd.S_reads' HO_3.out).2.2 ((rd_T41 l0_1 x7_2).f0) p287 q287
                     cases e287
                     obtain ⟨ce287, hce287, hMe287, hcc287⟩ := Kd.S_get HO_3.out [] ((rd_T41 l0_1 x7_2).f0) p287 (by first | exact q287 | exact of_decide_eq_true zA | (have e_ := (Kd.S_reads' HO_3.out).1; omega))
                     obtain ⟨ve287_0, rfl, ge287_0⟩ := hMe287
                     have hv287_0 := hcc287 0 _ rfl
                     rw [Nat.add_zero, show ((Kd.slice 3 (Kd.int .i64))).sz = 1 from rfl, Nat.mul_one] at hv287_0
                     replace hv287_0 := Option.some.inj (hv287_0.symm.trans hx287_0)
                     rw [hv287_0] at ge287_0
                     have HL287_0 := zM (show Kd.R (Kd.int .i64) 3 _ _ _ _ (rd_L1 x3_2 ((rd_T41 l0_1 x7_2).f0)) from ge287_0)
                     clear hv287_0 ge287_0
                     have HX287_0 := Aside0.mk hx287_0
                     clear hcc287 hce287
                     have HR287_0 := Aside0.mk hi287_0
                     have HC287_0 := Aside0.mk hl287_0
                     clear hi287_0 hl287_0
                     replace p287 := eq_true p287
                     replace q287 := eq_true q287
                     obtain ⟨go30, co30, eo30, gb30, gl30, cl30, HG30⟩ := Kd.S_form HO_3.out (by have h_ : (((rd_T41 l0_1 x7_2).f0) : Int) < ((x3_2.length : Int) : Int) := of_decide_eq_true zA; have h2_ : 0 ≤ (((rd_T41 l0_1 x7_2).f0) : Int) := (of_decide_eq_true zA); omega)
                     (first | cases eo30 | (injection eo30 with ea_ en_ ec_; (first | subst ea_ | (injection ea_ with ea_; subst ea_)); subst ec_; clear en_))
                     have GB30 := Aside0.mk gb30
                     have GG30 := Aside0.mk HG30
                     clear gb30 gl30 HG30
                     (first | simp only [add_plain] at hx287_0 | skip)
                     obtain ⟨oki30, ce30, hcl30, hM30, hcc30, _, _, hH30⟩ := Kd.S_elem HO_3.out [] (((rd_T41 l0_1 x7_2).f0) : Int) (of_decide_eq_true zA) (by have h_ : (((rd_T41 l0_1 x7_2).f0) : Int) < ((x3_2.length : Int) : Int) := of_decide_eq_true zA; first | exact h_ | (have e_ := (Kd.S_reads' HO_3.out).1; omega) | simpa using h_)
                     obtain ⟨ve30_0, rfl, ge30_0⟩ := hM30
                     have hv30 := hcc30 0 _ rfl
                     have hX30 := HX287_0.out
                     (try simp only [add_plain] at hX30)
                     (try simp only [Nat.add_zero] at hv30)
                     (try rw [show ((Kd.slice 3 (Kd.int .i64))).sz = 1 from rfl, Nat.mul_one] at hv30)
                     replace hv30 := Option.some.inj (hv30.symm.trans hX30)
                     subst hv30
                     clear hX30 hcc30 hcl30
                     have UU30 := zM (show Kd.R (Kd.int .i64) 3 _ w.heap.size oki30 (.slice A287_0 (rd_L1 x3_2 ((rd_T41 l0_1 x7_2).f0)).length c287_0) (rd_L1 x3_2 ((rd_T41 l0_1 x7_2).f0)) from ge30_0)
                     have HH30 := Aside0.mk hH30
                     have HN30 := zM (Kd.S_reads' HO_3.out).1
                     clear hH30 ge30_0
                     go_wp2_with (first | ((with_reducible refine gate_builtin (b := .append) (xs := #[.tmp 67, .tmp 69]) rfl ?_); at_builtin; refine Kd.R_append (Kd.int .i64) (w0 := w) w.heap.size rfl (.tmp 67) (.tmp 69) 39 3 (.int .i64 0) 8 rfl Try.underlying39 info3 rfl (by decide) (by omega) (.slice A287_0 (rd_L1 x3_2 ((rd_T41 l0_1 x7_2).f0)).length c287_0) (rd_L1 x3_2 ((rd_T41 l0_1 x7_2).f0)) ((rd_T41 l0_1 x7_2).f1) [.int .i64 ((rd_T41 l0_1 x7_2).f1)] (fun k_ => oki30 k_ ∨ ((fun _ => True)) k_ ∧ wr.heap.size ≤ k_) (fun _ => False) rfl rfl ?aP (fun _ hk => hk.elim) ?aF ?aO ?aB ?aS ?aL ?_; (case aP => exact rfl); (case aB => exact zB); (case aF => exact (fun k_ hk => .inr ⟨trivial, hk⟩)); (case aO => exact (by (with_reducible repeat (first | apply Kd.R_alloc | apply Kd.R_drewN | apply Kd.R_drew)); exact Kd.R_mono UU30.out (fun _ hk => .inl hk))); (case aS => exact (below_size zB)); (case aL => have := LMc26.out; omega); intro v289 w31 ho hb hg hat; rw [← Ny288.out] at ho; replace BK274 := zM (blk_grown (g := gb274) (o := .cells #[.slice A0_0 l0_0.length c0_0, .slice (some ad285) l0_1.length c0_1] 27 (0, 0)) (zK BK274.out) hg (Kd.R_ne HL287_0.out BK274.out (by decide))); replace HB := zM (hb); replace HH30 := zM (Kd.H_grown (Kd.H_widen (by repeat (first | exact HH30.out | refine Kd.H_alloc ?_ _ | refine Kd.H_drewN ?_ _ | refine Kd.H_drew ?_))) hg (fun k_ e_ => .inl (UU30.out.1 k_ e_))); have HO290 := zM (ho); clear HO_3 UU30 HL287_0; clear ho hb hg hat; have p27 : 0 ≤ (((rd_T41 l0_1 x7_2).f0) : Int) := of_decide_eq_true zA; have q27 : (((rd_T41 l0_1 x7_2).f0) : Int) < ((x3_2.length : Int) : Int) := of_decide_eq_true zA; replace p27 := eq_true p27; replace q27 := eq_true q27; obtain ⟨Ao34, co34, eo34⟩ := Kd.R_slice HO290.out; subst eo34; obtain ⟨_, _, hraw32, _, _, hcc32, _⟩ := Kd.H_raw HH30.out (of_decide_eq_true zA) (by have h_ : (((rd_T41 l0_1 x7_2).f0) : Int) < ((x3_2.length : Int) : Int) := of_decide_eq_true zA; first | exact h_ | (have e_ := (HN30.out); omega) | simpa using h_); obtain ⟨_, hfr32⟩ := Kd.H_at HH30.out (of_decide_eq_true zA) (by have h_ : (((rd_T41 l0_1 x7_2).f0) : Int) < ((x3_2.length : Int) : Int) := of_decide_eq_true zA; first | exact h_ | (have e_ := (HN30.out); omega) | simpa using h_); have hx32_0 := hcc32 0 _ rfl; have hf32_0 := hfr32 0; (try simp only [Nat.add_zero] at hx32_0 hf32_0); (try rw [show ((Kd.slice 3 (Kd.int .i64))).sz = 1 from rfl, Nat.mul_one] at hx32_0); (try rw [show ((Kd.slice 3 (Kd.int .i64))).sz = 1 from rfl, Nat.mul_one] at hf32_0); have HP32 := Kd.S_seg0 HH30.out (of_decide_eq_true zA) (by have h_ : (((rd_T41 l0_1 x7_2).f0) : Int) < ((x3_2.length : Int) : Int) := of_decide_eq_true zA; first | exact h_ | (have e_ := (HN30.out); omega) | simpa using h_) (seg := [.slice Ao34 y288.length co34]) (j := 0) (show 1 ≤ 1 from by decide) (x' := y288) (Kd.M_row HO290.out) (fun _ hk => hk); (try simp only [show ((Kd.slice 3 (Kd.int .i64))).sz = 1 from rfl, Nat.mul_one, Nat.add_zero] at HP32); clear hcc32 hfr32) | ((with_reducible refine gate_store (t := 39) (p := 71) rfl ?_); (try (rw [drewN_self w31]; generalize hq_ : World.drewN w31 _ = w31; have n0_ := zM (Kd.S_at hq_ HO_3.out); have n1_ := zM (blk_at hq_ BK274.out); have n2_ := zM (below_at hq_ HB.out); clear hq_ HO_3 BK274 HB; have HO_3 := n0_; have BK274 := n1_; have HB := n2_; clear n0_ n1_ n2_; (try (obtain ⟨Ao34, co34, eo34⟩ := Kd.R_slice HO290.out)); (try (subst eo34)); (try (obtain ⟨_, _, hraw32, _, _, hcc32, _⟩ := Kd.H_raw HH30.out (of_decide_eq_true zA) (by have h_ : (((rd_T41 l0_1 x7_2).f0) : Int) < ((x3_2.length : Int) : Int) := of_decide_eq_true zA; first | exact h_ | (have e_ := (HN30.out); omega) | simpa using h_))); (try (obtain ⟨_, hfr32⟩ := Kd.H_at HH30.out (of_decide_eq_true zA) (by have h_ : (((rd_T41 l0_1 x7_2).f0) : Int) < ((x3_2.length : Int) : Int) := of_decide_eq_true zA; first | exact h_ | (have e_ := (HN30.out); omega) | simpa using h_))); (try (have hx32_0 := hcc32 0 _ rfl)); (try (have hf32_0 := hfr32 0)); (try (try simp only [Nat.add_zero] at hx32_0 hf32_0)); (try (try rw [show ((Kd.slice 3 (Kd.int .i64))).sz = 1 from rfl, Nat.mul_one] at hx32_0)); (try (try rw [show ((Kd.slice 3 (Kd.int .i64))).sz = 1 from rfl, Nat.mul_one] at hf32_0)); (try (have HP32 := Kd.S_seg0 HH30.out (of_decide_eq_true zA) (by have h_ : (((rd_T41 l0_1 x7_2).f0) : Int) < ((x3_2.length : Int) : Int) := of_decide_eq_true zA; first | exact h_ | (have e_ := (HN30.out); omega) | simpa using h_) (seg := [.slice Ao34 y288.length co34]) (j := 0) (show 1 ≤ 1 from by decide) (x' := y288) (Kd.M_row HO290.out) (fun _ hk => hk))); (try (try simp only [show ((Kd.slice 3 (Kd.int .i64))).sz = 1 from rfl, Nat.mul_one, Nat.add_zero] at HP32)); (try (clear hcc32 hfr32)))); refine store_event (t := 39) (p := 71) (v := ?vo_w33) (w1 := (w31.setCell ⟨go30, (((rd_T41 l0_1 x7_2).f0) : Int).toNat, none⟩ (.slice Ao34 y288.length co34))) ?hg ?ho ?hn ?hr ?_; (case ho => rfl); (case hg => rfl); (case hn => rfl); (case hr => first | (go_simp; done) | (go_simp; rfl)); intro w33 hw; have hg : w31.grownBy w33 (some go30) := (by rw [hw]; exact HP32.2); have hp_ : Kd.S (Kd.slice 3 (Kd.int .i64)) 39 w33 w.heap.size (fun _ => True) (.slice (some ⟨go30, 0, none⟩) x3_2.length co29) y291 := (by rw [hw, Ny291.out]; exact HP32.1); clear HP32; replace BK274 := zM (blk_grown (g := gb274) (o := .cells #[.slice A0_0 l0_0.length c0_0, .slice (some ad285) l0_1.length c0_1] 27 (0, 0)) (zK BK274.out) hg (Kd.R_ne hraw32 BK274.out (by decide))); replace HB := zM ((by rw [hw]; exact below_set HB.out GB30.out : Below w.heap.size w w33)); have HO_3 := zM (hp_); clear HO290 HH30; clear hg hw hp_ hraw32))
                     repeat (go_quiet (first | ((with_reducible refine gate_builtin (b := .append) (xs := #[.tmp 67, .tmp 69]) rfl ?_); at_builtin; refine Kd.R_append (Kd.int .i64) (w0 := w) w.heap.size rfl (.tmp 67) (.tmp 69) 39 3 (.int .i64 0) 8 rfl Try.underlying39 info3 rfl (by decide) (by omega) (.slice A287_0 (rd_L1 x3_2 ((rd_T41 l0_1 x7_2).f0)).length c287_0) (rd_L1 x3_2 ((rd_T41 l0_1 x7_2).f0)) ((rd_T41 l0_1 x7_2).f1) [.int .i64 ((rd_T41 l0_1 x7_2).f1)] (fun k_ => oki30 k_ ∨ ((fun _ => True)) k_ ∧ wr.heap.size ≤ k_) (fun _ => False) rfl rfl ?aP (fun _ hk => hk.elim) ?aF ?aO ?aB ?aS ?aL ?_; (case aP => exact rfl); (case aB => exact zB); (case aF => exact (fun k_ hk => .inr ⟨trivial, hk⟩)); (case aO => exact (by (with_reducible repeat (first | apply Kd.R_alloc | apply Kd.R_drewN | apply Kd.R_drew)); exact Kd.R_mono UU30.out (fun _ hk => .inl hk))); (case aS => exact (below_size zB)); (case aL => have := LMc26.out; omega); intro v289 w31 ho hb hg hat; rw [← Ny288.out] at ho; replace BK274 := zM (blk_grown (g := gb274) (o := .cells #[.slice A0_0 l0_0.length c0_0, .slice (some ad285) l0_1.length c0_1] 27 (0, 0)) (zK BK274.out) hg (Kd.R_ne HL287_0.out BK274.out (by decide))); replace HB := zM (hb); replace HH30 := zM (Kd.H_grown (Kd.H_widen (by repeat (first | exact HH30.out | refine Kd.H_alloc ?_ _ | refine Kd.H_drewN ?_ _ | refine Kd.H_drew ?_))) hg (fun k_ e_ => .inl (UU30.out.1 k_ e_))); have HO290 := zM (ho); clear HO_3 UU30 HL287_0; clear ho hb hg hat; have p27 : 0 ≤ (((rd_T41 l0_1 x7_2).f0) : Int) := of_decide_eq_true zA; have q27 : (((rd_T41 l0_1 x7_2).f0) : Int) < ((x3_2.length : Int) : Int) := of_decide_eq_true zA; replace p27 := eq_true p27; replace q27 := eq_true q27; obtain ⟨Ao34, co34, eo34⟩ := Kd.R_slice HO290.out; subst eo34; obtain ⟨_, _, hraw32, _, _, hcc32, _⟩ := Kd.H_raw HH30.out (of_decide_eq_true zA) (by have h_ : (((rd_T41 l0_1 x7_2).f0) : Int) < ((x3_2.length : Int) : Int) := of_decide_eq_true zA; first | exact h_ | (have e_ := (HN30.out); omega) | simpa using h_); obtain ⟨_, hfr32⟩ := Kd.H_at HH30.out (of_decide_eq_true zA) (by have h_ : (((rd_T41 l0_1 x7_2).f0) : Int) < ((x3_2.length : Int) : Int) := of_decide_eq_true zA; first | exact h_ | (have e_ := (HN30.out); omega) | simpa using h_); have hx32_0 := hcc32 0 _ rfl; have hf32_0 := hfr32 0; (try simp only [Nat.add_zero] at hx32_0 hf32_0); (try rw [show ((Kd.slice 3 (Kd.int .i64))).sz = 1 from rfl, Nat.mul_one] at hx32_0); (try rw [show ((Kd.slice 3 (Kd.int .i64))).sz = 1 from rfl, Nat.mul_one] at hf32_0); have HP32 := Kd.S_seg0 HH30.out (of_decide_eq_true zA) (by have h_ : (((rd_T41 l0_1 x7_2).f0) : Int) < ((x3_2.length : Int) : Int) := of_decide_eq_true zA; first | exact h_ | (have e_ := (HN30.out); omega) | simpa using h_) (seg := [.slice Ao34 y288.length co34]) (j := 0) (show 1 ≤ 1 from by decide) (x' := y288) (Kd.M_row HO290.out) (fun _ hk => hk); (try simp only [show ((Kd.slice 3 (Kd.int .i64))).sz = 1 from rfl, Nat.mul_one, Nat.add_zero] at HP32); clear hcc32 hfr32) | ((with_reducible refine gate_store (t := 39) (p := 71) rfl ?_); (try (rw [drewN_self w31]; generalize hq_ : World.drewN w31 _ = w31; have n0_ := zM (Kd.S_at hq_ HO_3.out); have n1_ := zM (blk_at hq_ BK274.out); have n2_ := zM (below_at hq_ HB.out); clear hq_ HO_3 BK274 HB; have HO_3 := n0_; have BK274 := n1_; have HB := n2_; clear n0_ n1_ n2_; (try (obtain ⟨Ao34, co34, eo34⟩ := Kd.R_slice HO290.out)); (try (subst eo34)); (try (obtain ⟨_, _, hraw32, _, _, hcc32, _⟩ := Kd.H_raw HH30.out (of_decide_eq_true zA) (by have h_ : (((rd_T41 l0_1 x7_2).f0) : Int) < ((x3_2.length : Int) : Int) := of_decide_eq_true zA; first | exact h_ | (have e_ := (HN30.out); omega) | simpa using h_))); (try (obtain ⟨_, hfr32⟩ := Kd.H_at HH30.out (of_decide_eq_true zA) (by have h_ : (((rd_T41 l0_1 x7_2).f0) : Int) < ((x3_2.length : Int) : Int) := of_decide_eq_true zA; first | exact h_ | (have e_ := (HN30.out); omega) | simpa using h_))); (try (have hx32_0 := hcc32 0 _ rfl)); (try (have hf32_0 := hfr32 0)); (try (try simp only [Nat.add_zero] at hx32_0 hf32_0)); (try (try rw [show ((Kd.slice 3 (Kd.int .i64))).sz = 1 from rfl, Nat.mul_one] at hx32_0)); (try (try rw [show ((Kd.slice 3 (Kd.int .i64))).sz = 1 from rfl, Nat.mul_one] at hf32_0)); (try (have HP32 := Kd.S_seg0 HH30.out (of_decide_eq_true zA) (by have h_ : (((rd_T41 l0_1 x7_2).f0) : Int) < ((x3_2.length : Int) : Int) := of_decide_eq_true zA; first | exact h_ | (have e_ := (HN30.out); omega) | simpa using h_) (seg := [.slice Ao34 y288.length co34]) (j := 0) (show 1 ≤ 1 from by decide) (x' := y288) (Kd.M_row HO290.out) (fun _ hk => hk))); (try (try simp only [show ((Kd.slice 3 (Kd.int .i64))).sz = 1 from rfl, Nat.mul_one, Nat.add_zero] at HP32)); (try (clear hcc32 hfr32)))); refine store_event (t := 39) (p := 71) (v := ?vo_w33) (w1 := (w31.setCell ⟨go30, (((rd_T41 l0_1 x7_2).f0) : Int).toNat, none⟩ (.slice Ao34 y288.length co34))) ?hg ?ho ?hn ?hr ?_; (case ho => rfl); (case hg => rfl); (case hn => rfl); (case hr => first | (go_simp; done) | (go_simp; rfl)); intro w33 hw; have hg : w31.grownBy w33 (some go30) := (by rw [hw]; exact HP32.2); have hp_ : Kd.S (Kd.slice 3 (Kd.int .i64)) 39 w33 w.heap.size (fun _ => True) (.slice (some ⟨go30, 0, none⟩) x3_2.length co29) y291 := (by rw [hw, Ny291.out]; exact HP32.1); clear HP32; replace BK274 := zM (blk_grown (g := gb274) (o := .cells #[.slice A0_0 l0_0.length c0_0, .slice (some ad285) l0_1.length c0_1] 27 (0, 0)) (zK BK274.out) hg (Kd.R_ne hraw32 BK274.out (by decide))); replace HB := zM ((by rw [hw]; exact below_set HB.out GB30.out : Below w.heap.size w w33)); have HO_3 := zM (hp_); clear HO290 HH30; clear hg hw hp_ hraw32)); try go_wp2_with (first | ((with_reducible refine gate_builtin (b := .append) (xs := #[.tmp 67, .tmp 69]) rfl ?_); at_builtin; refine Kd.R_append (Kd.int .i64) (w0 := w) w.heap.size rfl (.tmp 67) (.tmp 69) 39 3 (.int .i64 0) 8 rfl Try.underlying39 info3 rfl (by decide) (by omega) (.slice A287_0 (rd_L1 x3_2 ((rd_T41 l0_1 x7_2).f0)).length c287_0) (rd_L1 x3_2 ((rd_T41 l0_1 x7_2).f0)) ((rd_T41 l0_1 x7_2).f1) [.int .i64 ((rd_T41 l0_1 x7_2).f1)] (fun k_ => oki30 k_ ∨ ((fun _ => True)) k_ ∧ wr.heap.size ≤ k_) (fun _ => False) rfl rfl ?aP (fun _ hk => hk.elim) ?aF ?aO ?aB ?aS ?aL ?_; (case aP => exact rfl); (case aB => exact zB); (case aF => exact (fun k_ hk => .inr ⟨trivial, hk⟩)); (case aO => exact (by (with_reducible repeat (first | apply Kd.R_alloc | apply Kd.R_drewN | apply Kd.R_drew)); exact Kd.R_mono UU30.out (fun _ hk => .inl hk))); (case aS => exact (below_size zB)); (case aL => have := LMc26.out; omega); intro v289 w31 ho hb hg hat; rw [← Ny288.out] at ho; replace BK274 := zM (blk_grown (g := gb274) (o := .cells #[.slice A0_0 l0_0.length c0_0, .slice (some ad285) l0_1.length c0_1] 27 (0, 0)) (zK BK274.out) hg (Kd.R_ne HL287_0.out BK274.out (by decide))); replace HB := zM (hb); replace HH30 := zM (Kd.H_grown (Kd.H_widen (by repeat (first | exact HH30.out | refine Kd.H_alloc ?_ _ | refine Kd.H_drewN ?_ _ | refine Kd.H_drew ?_))) hg (fun k_ e_ => .inl (UU30.out.1 k_ e_))); have HO290 := zM (ho); clear HO_3 UU30 HL287_0; clear ho hb hg hat; have p27 : 0 ≤ (((rd_T41 l0_1 x7_2).f0) : Int) := of_decide_eq_true zA; have q27 : (((rd_T41 l0_1 x7_2).f0) : Int) < ((x3_2.length : Int) : Int) := of_decide_eq_true zA; replace p27 := eq_true p27; replace q27 := eq_true q27; obtain ⟨Ao34, co34, eo34⟩ := Kd.R_slice HO290.out; subst eo34; obtain ⟨_, _, hraw32, _, _, hcc32, _⟩ := Kd.H_raw HH30.out (of_decide_eq_true zA) (by have h_ : (((rd_T41 l0_1 x7_2).f0) : Int) < ((x3_2.length : Int) : Int) := of_decide_eq_true zA; first | exact h_ | (have e_ := (HN30.out); omega) | simpa using h_); obtain ⟨_, hfr32⟩ := Kd.H_at HH30.out (of_decide_eq_true zA) (by have h_ : (((rd_T41 l0_1 x7_2).f0) : Int) < ((x3_2.length : Int) : Int) := of_decide_eq_true zA; first | exact h_ | (have e_ := (HN30.out); omega) | simpa using h_); have hx32_0 := hcc32 0 _ rfl; have hf32_0 := hfr32 0; (try simp only [Nat.add_zero] at hx32_0 hf32_0); (try rw [show ((Kd.slice 3 (Kd.int .i64))).sz = 1 from rfl, Nat.mul_one] at hx32_0); (try rw [show ((Kd.slice 3 (Kd.int .i64))).sz = 1 from rfl, Nat.mul_one] at hf32_0); have HP32 := Kd.S_seg0 HH30.out (of_decide_eq_true zA) (by have h_ : (((rd_T41 l0_1 x7_2).f0) : Int) < ((x3_2.length : Int) : Int) := of_decide_eq_true zA; first | exact h_ | (have e_ := (HN30.out); omega) | simpa using h_) (seg := [.slice Ao34 y288.length co34]) (j := 0) (show 1 ≤ 1 from by decide) (x' := y288) (Kd.M_row HO290.out) (fun _ hk => hk); (try simp only [show ((Kd.slice 3 (Kd.int .i64))).sz = 1 from rfl, Nat.mul_one, Nat.add_zero] at HP32); clear hcc32 hfr32) | ((with_reducible refine gate_store (t := 39) (p := 71) rfl ?_); (try (rw [drewN_self w31]; generalize hq_ : World.drewN w31 _ = w31; have n0_ := zM (Kd.S_at hq_ HO_3.out); have n1_ := zM (blk_at hq_ BK274.out); have n2_ := zM (below_at hq_ HB.out); clear hq_ HO_3 BK274 HB; have HO_3 := n0_; have BK274 := n1_; have HB := n2_; clear n0_ n1_ n2_; (try (obtain ⟨Ao34, co34, eo34⟩ := Kd.R_slice HO290.out)); (try (subst eo34)); (try (obtain ⟨_, _, hraw32, _, _, hcc32, _⟩ := Kd.H_raw HH30.out (of_decide_eq_true zA) (by have h_ : (((rd_T41 l0_1 x7_2).f0) : Int) < ((x3_2.length : Int) : Int) := of_decide_eq_true zA; first | exact h_ | (have e_ := (HN30.out); omega) | simpa using h_))); (try (obtain ⟨_, hfr32⟩ := Kd.H_at HH30.out (of_decide_eq_true zA) (by have h_ : (((rd_T41 l0_1 x7_2).f0) : Int) < ((x3_2.length : Int) : Int) := of_decide_eq_true zA; first | exact h_ | (have e_ := (HN30.out); omega) | simpa using h_))); (try (have hx32_0 := hcc32 0 _ rfl)); (try (have hf32_0 := hfr32 0)); (try (try simp only [Nat.add_zero] at hx32_0 hf32_0)); (try (try rw [show ((Kd.slice 3 (Kd.int .i64))).sz = 1 from rfl, Nat.mul_one] at hx32_0)); (try (try rw [show ((Kd.slice 3 (Kd.int .i64))).sz = 1 from rfl, Nat.mul_one] at hf32_0)); (try (have HP32 := Kd.S_seg0 HH30.out (of_decide_eq_true zA) (by have h_ : (((rd_T41 l0_1 x7_2).f0) : Int) < ((x3_2.length : Int) : Int) := of_decide_eq_true zA; first | exact h_ | (have e_ := (HN30.out); omega) | simpa using h_) (seg := [.slice Ao34 y288.length co34]) (j := 0) (show 1 ≤ 1 from by decide) (x' := y288) (Kd.M_row HO290.out) (fun _ hk => hk))); (try (try simp only [show ((Kd.slice 3 (Kd.int .i64))).sz = 1 from rfl, Nat.mul_one, Nat.add_zero] at HP32)); (try (clear hcc32 hfr32)))); refine store_event (t := 39) (p := 71) (v := ?vo_w33) (w1 := (w31.setCell ⟨go30, (((rd_T41 l0_1 x7_2).f0) : Int).toNat, none⟩ (.slice Ao34 y288.length co34))) ?hg ?ho ?hn ?hr ?_; (case ho => rfl); (case hg => rfl); (case hn => rfl); (case hr => first | (go_simp; done) | (go_simp; rfl)); intro w33 hw; have hg : w31.grownBy w33 (some go30) := (by rw [hw]; exact HP32.2); have hp_ : Kd.S (Kd.slice 3 (Kd.int .i64)) 39 w33 w.heap.size (fun _ => True) (.slice (some ⟨go30, 0, none⟩) x3_2.length co29) y291 := (by rw [hw, Ny291.out]; exact HP32.1); clear HP32; replace BK274 := zM (blk_grown (g := gb274) (o := .cells #[.slice A0_0 l0_0.length c0_0, .slice (some ad285) l0_1.length c0_1] 27 (0, 0)) (zK BK274.out) hg (Kd.R_ne hraw32 BK274.out (by decide))); replace HB := zM ((by rw [hw]; exact below_set HB.out GB30.out : Below w.heap.size w w33)); have HO_3 := zM (hp_); clear HO290 HH30; clear hg hw hp_ hraw32)))
                     go_roundg k2
                     case measure => have := HK1.out; have := HK2.out; omega
                     case rel => exact ⟨(y291), (wrap64 (x7_2 + 1)), (by first | rfl | (simp; done) | (simp [*]; done)), H', ⟨by have := HK1.out; have := HK2.out; omega⟩, ⟨by (with_reducible repeat (first | apply Kd.S_alloc | apply Kd.S_drewN | apply Kd.S_drew)); exact HO_3.out⟩, ⟨zK BK274.out⟩, ⟨zB⟩⟩
                   · rw [if_neg c26] at H
                     exact absurd H (by simp)
                 · rw [if_neg c25] at H
                   exact absurd H (by simp)
               · rw [if_neg c24] at H
                 exact absurd H (by simp)
             · rw [if_neg c23] at H
               exact absurd H (by simp)
           · rw [if_neg c22] at H
             have c22b0 : decide (x7_2 < (l0_1.length : Int)) = false := decide_eq_false c22
             clear c22
             obtain rfl := Option.some.inj H
             have hcz35_0 := zy BK274 0
             have hcz35_1 := zy BK274 1
             have hfz35_0 := blk_frozen BK274.out 0
             have hfz35_1 := blk_frozen BK274.out 1
             go_wp2
             repeat (go_quiet (fail); try go_wp2)
             go_ret
             exact ⟨_, by first | rfl | (simp [errW_none, errW_some] <;> rfl) | (simp [*, errW_none, errW_some] <;> rfl), by (with_reducible repeat (first | apply Kd.S_alloc | apply Kd.S_drewN | apply Kd.S_drew)); exact HO_3.out, zB⟩
   · rw [if_neg c3] at H
     exact absurd H (by simp)
 · rw [if_neg c2] at H
   exact absurd H (by simp)

end Go.Proofs.Ytihfpngolcjkiaa.P
