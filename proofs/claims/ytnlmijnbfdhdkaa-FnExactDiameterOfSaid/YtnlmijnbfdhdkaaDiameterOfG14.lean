-- Written by a program of this session (the kit's print, turned: wip/print/patch.py) out of the translation. Not trusted: Lean checks it.
import Derived.Test.YtnlmijnbfdhdkaaDiameterOfG4
import Derived.Test.YtnlmijnbfdhdkaaDiameterOfG7
import Derived.Test.YtnlmijnbfdhdkaaDiameterOfG9
import Derived.Test.YtnlmijnbfdhdkaaDiameterOfG12
import Derived.Test.YtnlmijnbfdhdkaaDiameterOfG10
import Derived.Test.YtnlmijnbfdhdkaaDiameterOfG13
import Derived.Test.YtnlmijnbfdhdkaaDiameterOfG11
namespace Go.Proofs.Ytnlmijnbfdhdkaa.P
open Go.RowKit Go.Proofs.YtnlmijnbfdhdkaaW.PrintWords Go.Proofs.YtnlmijnbfdhdkaaW.PrintLast Go.Proofs.YtnlmijnbfdhdkaaW.PrintMore
attribute [local go_sem] max2_int min2_int max_two min_two max_three min_three max_four min_four   -- for this text's walks alone
set_option linter.unusedVariables false
set_option linter.unusedSimpArgs false

/-! ### spec_DiameterOf: function 51 -/
mutual
def spec_DiameterOf.l0 : Nat → Int → List (List Int) → Int → Option (Int × Bool)
 | 0, _, _, _ => none
 | k + 1, x4, x5, x6 => if x6 < (x5.length : Int) then ((spec_l2Spread.f k x5 x6).bind fun t1065 => (spec_DiameterOf.l1 k x4 x5 x6 t1065 0)) else (some (x4, true))
def spec_DiameterOf.l1 : Nat → Int → List (List Int) → Int → List Int → Int → Option (Int × Bool)
 | 0, _, _, _, _, _ => none
 | k + 1, x4, x5, x6, x7, x8 => if x8 < (x7.length : Int) then (if 0 ≤ x8 then ((spec_l1Most.f x4 (rd x7 x8)).bind fun t1069 => (spec_DiameterOf.l1 k t1069 x5 x6 x7 (wrap64 (x8 + 1)))) else (none)) else (spec_DiameterOf.l0 k x4 x5 (wrap64 (x6 + 1)))
end
def spec_DiameterOf.f (k : Nat) (l0_0 : List (List Int)) (l0_1 : List (S88)) : Option (Int × Bool) := (spec_l2Space.f k l0_0 l0_1).bind fun t1061 => (if t1061 = true then ((spec_l2Lists.f k l0_0 l0_1).bind fun t1062 => (spec_DiameterOf.l0 k 0 t1062 0)) else (some (0, false)))
set_option maxHeartbeats 8000000 in
set_option maxRecDepth 100000 in
theorem spec_DiameterOf.calls (k : Nat) (A0_0 : Option Addr) (c0_0 : Nat) (l0_0 : List (List Int)) (A0_1 : Option Addr) (c0_1 : Nat) (l0_1 : List (S88)) (r1 : Int) (r2 : Bool) (w : World) (hr0_0 : Kd.C (Kd.slice 3 (Kd.int .i64)) w A0_0 l0_0.length l0_0) (hc0_0 : l0_0.length ≤ c0_0) (hr0_1 : Kd.C k88 w A0_1 l0_1.length l0_1) (hc0_1 : l0_1.length ≤ c0_1) (h : spec_DiameterOf.f k l0_0 l0_1 = some (r1, r2)) :
 Calls Try.prog 51 #[.agg #[.slice A0_0 l0_0.length c0_0, .slice A0_1 l0_1.length c0_1]] w fun e w' => e = .returned (.tuple #[.int .i64 r1, .bool r2]) ∧ Below w.heap.size w w' := by
 have hu46 := Try.underlying46
 have HR0_0 := Aside0.mk hr0_0
 have HC0_0 := Aside0.mk hc0_0
 clear hr0_0 hc0_0
 have HR0_1 := Aside0.mk hr0_1
 have HC0_1 := Aside0.mk hc0_1
 clear hr0_1 hc0_1
 have HB := zM (Below.refl w.heap.size w)
 have H : ((spec_l2Space.f k l0_0 l0_1).bind fun t1061 => (if t1061 = true then ((spec_l2Lists.f k l0_0 l0_1).bind fun t1062 => (spec_DiameterOf.l0 k 0 t1062 0)) else (some (0, false)))) = some (r1, r2) := h
 clear h
 replace H := Option.bind_eq_some_iff.mp H
 obtain ⟨t1061, A20, H⟩ := H
 replace H : (if t1061 = true then ((spec_l2Lists.f k l0_0 l0_1).bind fun t1062 => (spec_DiameterOf.l0 k 0 t1062 0)) else (some (0, false))) = some (r1, r2) := H
 have A2 := Aside0.mk A20
 clear A20
 by_cases c3 : t1061 = true
 · subst c3
   have H1 : ((spec_l2Lists.f k l0_0 l0_1).bind fun t1062 => (spec_DiameterOf.l0 k 0 t1062 0)) = some (r1, r2) := by rw [if_pos rfl] at H; exact H
   clear H
   have H := H1
   clear H1
   replace H := Option.bind_eq_some_iff.mp H
   obtain ⟨t1062, A40, H⟩ := H
   replace H : (spec_DiameterOf.l0 k 0 t1062 0) = some (r1, r2) := H
   have A4 := Aside0.mk A40
   clear A40
   have H' := Aside0.mk H
   clear H
   go_enter Try.func51, Try.ntmps51
   go_wp2_with (first | ((with_reducible refine gate_dst (N := 1) rfl ?_); refine zb (w := w) 1 #[.slice A0_0 l0_0.length c0_0, .slice A0_1 l0_1.length c0_1] 46 zB ?_; clear HB; intro gb1060 w5 HB BK1060 GW1060; have GE1060 := GW1060; have hcz6_0 := zy BK1060 0; have hcz6_1 := zy BK1060 1; have hfz6_0 := blk_frozen BK1060.out 0; have hfz6_1 := blk_frozen BK1060.out 1) | ((with_reducible refine gate_callee (f := 79) rfl ?_); refine zc 10 Try.func79 #[.agg #[.slice A0_0 l0_0.length c0_0, .slice A0_1 l0_1.length c0_1]] ?_; (with_reducible refine (spec_l2Space.calls k _ _ l0_0 _ _ l0_1 true _ ?side1 ?side2 ?side3 ?side4 A2.out).mono ?_); (case side1 => exact zC (Kd.C_below HR0_0.out HB.out)); (case side2 => exact HC0_0.out); (case side3 => exact zC (Kd.C_below HR0_1.out HB.out)); (case side4 => exact HC0_1.out); rintro e w7 ⟨rfl, hb⟩; refine ⟨_, rfl, ?_⟩; replace BK1060 := zM (blk_below (g := gb1060) (o := .cells #[.slice A0_0 l0_0.length c0_0, .slice A0_1 l0_1.length c0_1] 46 (0, 0)) (zK BK1060.out) hb); replace HB := zM (below_step zB hb); (try clear hb); (try clear hb2); (try clear hk); (try clear hi); have hcz8_0 := zy BK1060 0; have hcz8_1 := zy BK1060 1; have hfz8_0 := blk_frozen BK1060.out 0; have hfz8_1 := blk_frozen BK1060.out 1) | ((with_reducible refine gate_callee (f := 97) rfl ?_); refine zc 13 Try.func97 #[.agg #[.slice A0_0 l0_0.length c0_0, .slice A0_1 l0_1.length c0_1]] ?_; (with_reducible refine (spec_l2Lists.calls k _ _ l0_0 _ _ l0_1 t1062 _ ?side1 ?side2 ?side3 ?side4 A4.out).mono ?_); (case side1 => exact zC (Kd.C_below HR0_0.out HB.out)); (case side2 => exact HC0_0.out); (case side3 => exact zC (Kd.C_below HR0_1.out HB.out)); (case side4 => exact HC0_1.out); rintro e w9 ⟨v1063, rfl, ho0, hb⟩; refine ⟨_, rfl, ?_⟩; have HO1064 := zM (Kd.S_lower ho0 (below_size zB)); replace BK1060 := zM (blk_below (g := gb1060) (o := .cells #[.slice A0_0 l0_0.length c0_0, .slice A0_1 l0_1.length c0_1] 46 (0, 0)) (zK BK1060.out) hb); replace HB := zM (below_step zB hb); (try clear hb); (try clear hb2); (try clear hk); (try clear hi); (try clear ho0)))
   go_loopg [4, 6] k (fun kq v4 v6 w' => ∃ (x4_1 : Int) (x6_1 : Int), v4 = .int .i64 x4_1 ∧ v6 = .int .i64 x6_1 ∧ Aside0 (spec_DiameterOf.l0 kq x4_1 t1062 x6_1 = some (r1, r2)) ∧ Aside0 (kq ≤ k) ∧ Aside0 (Kd.S (Kd.slice 3 (Kd.int .i64)) 25 w' w.heap.size (fun _ => True) v1063 t1062) ∧ Aside0 (w'.heap[gb1060]? = some (.cells #[(.slice A0_0 l0_0.length c0_0), (.slice A0_1 l0_1.length c0_1)] 46 (0, 0))) ∧ Aside0 (Below w.heap.size w w'))
   case atStart => exact ⟨(0), (0), (by first | rfl | (simp; done) | (simp [*]; done)), (by first | rfl | (simp; done) | (simp [*]; done)), H', ⟨Nat.le_refl _⟩, ⟨by (with_reducible repeat (first | apply Kd.S_alloc | apply Kd.S_drewN | apply Kd.S_drew)); exact HO1064.out⟩, ⟨zK BK1060.out⟩, ⟨zB⟩⟩
   case round =>
    clear H'
    try clear p2
    try clear c3
    try clear c5
    try clear c7
    try clear c9
    try clear hcz6_0
    try clear hcz6_1
    try clear hcz8_0
    try clear hcz8_1
    try clear hfz6_0
    try clear hfz6_1
    try clear hfz8_0
    try clear hfz8_1
    obtain ⟨x4_1, x6_1, rfl, rfl, HA, HK1, HO_5, BK1060, HB⟩ := hrel
    cases gk with
    | zero => exact absurd HA.out (by simp [spec_DiameterOf.l0])
    | succ k1 =>
     have H := HA.out
     clear HA
     simp only [spec_DiameterOf.l0] at H
     by_cases c10 : x6_1 < (t1062.length : Int)
     · rw [if_pos c10] at H
       have c10b0 := decide_eq_true c10
       clear c10
       replace H := Option.bind_eq_some_iff.mp H
       obtain ⟨t1065, A110, H⟩ := H
       replace H : (spec_DiameterOf.l1 k1 x4_1 t1062 x6_1 t1065 0) = some (r1, r2) := H
       have A11 := Aside0.mk A110
       clear A110
       have H' := Aside0.mk H
       clear H
       obtain ⟨Ao12, co12, eo12⟩ := Kd.S_slice HO_5.out
       subst eo12
       go_wp2_with (first | ((with_reducible refine gate_callee (f := 102) rfl ?_); refine zc 22 Try.func102 #[.slice Ao12 t1062.length co12, .int .i64 x6_1] ?_; (with_reducible refine (spec_l2Spread.calls k1 _ _ t1062 x6_1 t1065 _ ?side1 ?side2 A11.out).mono ?_); (case side1 => exact zC (Kd.S_reads' HO_5.out).2.2); (case side2 => exact (Kd.S_reads' HO_5.out).2.1); rintro e w13 ⟨v1066, rfl, ho0, hb⟩; refine ⟨_, rfl, ?_⟩; replace HO_5 := zM (Kd.S_elder' (by (with_reducible repeat (first | apply Kd.S_alloc | apply Kd.S_drewN | apply Kd.S_drew)); exact HO_5.out) (Kd.R_base ho0) hb); have HO1067 := zM (Kd.R_lower ho0 (below_size zB)); replace BK1060 := zM (blk_below (g := gb1060) (o := .cells #[.slice A0_0 l0_0.length c0_0, .slice A0_1 l0_1.length c0_1] 46 (0, 0)) (zK BK1060.out) hb); replace HB := zM (below_step zB hb); (try clear hb); (try clear hb2); (try clear hk); (try clear hi); (try clear ho0)))
       go_loopg [4, 8] k1 (fun kq v4 v8 w' => ∃ (x4_2 : Int) (x8_2 : Int), v4 = .int .i64 x4_2 ∧ v8 = .int .i64 x8_2 ∧ Aside0 (spec_DiameterOf.l1 kq x4_2 t1062 x6_1 t1065 x8_2 = some (r1, r2)) ∧ Aside0 (kq ≤ k1) ∧ Aside0 (Kd.S (Kd.slice 3 (Kd.int .i64)) 25 w' w.heap.size (fun k_ => some k_ ≠ (v1066 : Value).ownBlock) (.slice Ao12 t1062.length co12) t1062) ∧ Aside0 (Kd.R (Kd.int .i64) 3 w' w.heap.size (fun _ => True) v1066 t1065) ∧ Aside0 (w'.heap[gb1060]? = some (.cells #[(.slice A0_0 l0_0.length c0_0), (.slice A0_1 l0_1.length c0_1)] 46 (0, 0))) ∧ Aside0 (Below w.heap.size w w'))
       case atStart => exact ⟨(x4_1), (0), (by first | rfl | (simp; done) | (simp [*]; done)), (by first | rfl | (simp; done) | (simp [*]; done)), H', ⟨Nat.le_refl _⟩, ⟨by (with_reducible repeat (first | apply Kd.S_alloc | apply Kd.S_drewN | apply Kd.S_drew)); exact Kd.S_mono HO_5.out (fun _ hk => hk.2)⟩, ⟨zR HO1067.out⟩, ⟨zK BK1060.out⟩, ⟨zB⟩⟩
       case round =>
        clear H'
        try clear c1
        try clear p2
        try clear c3
        try clear c5
        try clear c7
        try clear c9
        try clear c10
        try clear c10b0
        try clear hcz6_0
        try clear hcz6_1
        try clear hcz8_0
        try clear hcz8_1
        try clear hfz6_0
        try clear hfz6_1
        try clear hfz8_0
        try clear hfz8_1
        try clear p2
        obtain ⟨x4_2, x8_2, rfl, rfl, HA, HK2, HO_5, HO_7, BK1060, HB⟩ := hrel
        cases gk with
        | zero => exact absurd HA.out (by simp [spec_DiameterOf.l1])
        | succ k2 =>
         have H := HA.out
         clear HA
         simp only [spec_DiameterOf.l1] at H
         by_cases c14 : x8_2 < (t1065.length : Int)
         · rw [if_pos c14] at H
           have c14b0 := decide_eq_true c14
           clear c14
           by_cases c15 : 0 ≤ x8_2
           · rw [if_pos c15] at H
             have c15b0 := decide_eq_true c15
             clear c15
             replace H := Option.bind_eq_some_iff.mp H
             obtain ⟨t1069, A160, H⟩ := H
             replace H : (spec_DiameterOf.l1 k2 t1069 t1062 x6_1 t1065 (wrap64 (x8_2 + 1))) = some (r1, r2) := H
             have A16 := Aside0.mk A160
             clear A160
             have H' := Aside0.mk H
             clear H
             obtain ⟨Ao17, co17, eo17⟩ := Kd.R_slice HO_7.out
             subst eo17
             have p1068 : 0 ≤ (x8_2 : Int) := of_decide_eq_true zA
             have q1068 : x8_2 < (t1065.length : Int) := of_decide_eq_true zA
             obtain ⟨ad1068, e1068, hx1068_0⟩ := Kd.at_int (Kd.R_reads' HO_7.out).2.2 x8_2 p1068 q1068
             cases e1068
             replace p1068 := eq_true p1068
             replace q1068 := eq_true q1068
             go_wp2_with (first | ((with_reducible refine gate_callee (f := 94) rfl ?_); refine zc 34 Try.func94 #[.int .i64 x4_2, .int .i64 (rd t1065 x8_2)] ?_; (with_reducible refine (spec_l1Most.calls x4_2 (rd t1065 x8_2) t1069 _ A16.out).mono ?_); rintro e w' ⟨rfl, ⟨nd, rfl⟩⟩; refine ⟨_, rfl, ?_⟩))
             go_roundg k2
             case measure => have := HK1.out; have := HK2.out; omega
             case rel => exact ⟨(t1069), (wrap64 (x8_2 + 1)), (by first | rfl | (simp; done) | (simp [*]; done)), (by first | rfl | (simp; done) | (simp [*]; done)), H', ⟨by have := HK1.out; have := HK2.out; omega⟩, ⟨by (with_reducible repeat (first | apply Kd.S_alloc | apply Kd.S_drewN | apply Kd.S_drew)); exact HO_5.out⟩, ⟨zR HO_7.out⟩, ⟨zK BK1060.out⟩, ⟨zB⟩⟩
           · rw [if_neg c15] at H
             exact absurd H (by simp)
         · rw [if_neg c14] at H
           have c14b0 : decide (x8_2 < (t1065.length : Int)) = false := decide_eq_false c14
           clear c14
           have H' := Aside0.mk H
           clear H
           obtain ⟨Ao18, co18, eo18⟩ := Kd.R_slice HO_7.out
           subst eo18
           go_wp2
           go_roundg k2
           case measure => have := HK1.out; have := HK2.out; omega
           case rel => exact ⟨(x4_2), (wrap64 (x6_1 + 1)), (by first | rfl | (simp; done) | (simp [*]; done)), (by first | rfl | (simp; done) | (simp [*]; done)), H', ⟨by have := HK1.out; have := HK2.out; omega⟩, ⟨by (with_reducible repeat (first | apply Kd.S_alloc | apply Kd.S_drewN | apply Kd.S_drew)); exact Kd.S_mono HO_5.out (fun _ hk => trivial)⟩, ⟨zK BK1060.out⟩, ⟨zB⟩⟩
     · rw [if_neg c10] at H
       have c10b0 : decide (x6_1 < (t1062.length : Int)) = false := decide_eq_false c10
       clear c10
       simp only [Option.some.injEq, Prod.mk.injEq] at H
       obtain ⟨rfl, rfl⟩ := H
       obtain ⟨Ao19, co19, eo19⟩ := Kd.S_slice HO_5.out
       subst eo19
       go_wp2
       go_ret2
       exact ⟨by first | rfl | (simp [errW_none, errW_some] <;> rfl) | (simp [*, errW_none, errW_some] <;> rfl), zB⟩
 · replace c3 := Bool.eq_false_iff.mpr c3
   subst c3
   have H1 : (some (0, false)) = some (r1, r2) := by rw [if_neg (show ¬ (false = true) by decide)] at H; exact H
   clear H
   have H := H1
   clear H1
   simp only [Option.some.injEq, Prod.mk.injEq] at H
   obtain ⟨rfl, rfl⟩ := H
   go_enter Try.func51, Try.ntmps51
   go_wp2_with (first | ((with_reducible refine gate_dst (N := 1) rfl ?_); refine zb (w := w) 1 #[.slice A0_0 l0_0.length c0_0, .slice A0_1 l0_1.length c0_1] 46 zB ?_; clear HB; intro gb1060 w20 HB BK1060 GW1060; have GE1060 := GW1060; have hcz21_0 := zy BK1060 0; have hcz21_1 := zy BK1060 1; have hfz21_0 := blk_frozen BK1060.out 0; have hfz21_1 := blk_frozen BK1060.out 1) | ((with_reducible refine gate_callee (f := 79) rfl ?_); refine zc 10 Try.func79 #[.agg #[.slice A0_0 l0_0.length c0_0, .slice A0_1 l0_1.length c0_1]] ?_; (with_reducible refine (spec_l2Space.calls k _ _ l0_0 _ _ l0_1 false _ ?side1 ?side2 ?side3 ?side4 A2.out).mono ?_); (case side1 => exact zC (Kd.C_below HR0_0.out HB.out)); (case side2 => exact HC0_0.out); (case side3 => exact zC (Kd.C_below HR0_1.out HB.out)); (case side4 => exact HC0_1.out); rintro e w22 ⟨rfl, hb⟩; refine ⟨_, rfl, ?_⟩; replace BK1060 := zM (blk_below (g := gb1060) (o := .cells #[.slice A0_0 l0_0.length c0_0, .slice A0_1 l0_1.length c0_1] 46 (0, 0)) (zK BK1060.out) hb); replace HB := zM (below_step zB hb); (try clear hb); (try clear hb2); (try clear hk); (try clear hi)))
   go_ret2
   exact ⟨by first | rfl | (simp [errW_none, errW_some] <;> rfl) | (simp [*, errW_none, errW_some] <;> rfl), zB⟩

/-! ### impl_spread: function 77 -/
mutual
def impl_spread.l0 : Nat → List (List Int) → List Int → List Int → Option (List Int)
 | 0, _, _, _ => none
 | k + 1, x0, x5, x6 => if (x6.length : Int) > 0 then (if 0 < (x6.length : Int) then (if 1 ≤ (x6.length : Int) then (if 0 ≤ (rd x6 0) then (if (rd x6 0) < (x0.length : Int) then (impl_spread.l1 k x0 x5 (x6.drop (1 : Int).toNat) (rd x6 0) (rd_L4 x0 (rd x6 0)) ((rd_L4 x0 (rd x6 0)).length : Int) 0) else (none)) else (none)) else (none)) else (none)) else (some x5)
def impl_spread.l1 : Nat → List (List Int) → List Int → List Int → Int → List Int → Int → Int → Option (List Int)
 | 0, _, _, _, _, _, _, _ => none
 | k + 1, x0, x5, x6, x7, x30, x31, x32 => if x32 < x31 then (if 0 ≤ x32 then (if x32 < (x30.length : Int) then (if 0 ≤ (rd x30 x32) then (if (rd x30 x32) < (x5.length : Int) then (if (rd x5 (rd x30 x32)) < 0 then (if 0 ≤ x7 then (if x7 < (x5.length : Int) then (if x6.length < 17592186044416 then (impl_spread.l1 k x0 (x5.set ((rd x30 x32) : Int).toNat (wrap64 ((rd x5 x7) + 1))) (x6 ++ [rd x30 x32]) x7 x30 x31 (wrap64 (x32 + 1))) else (none)) else (none)) else (none)) else (impl_spread.l1 k x0 x5 x6 x7 x30 x31 (wrap64 (x32 + 1)))) else (none)) else (none)) else (none)) else (none)) else (impl_spread.l0 k x0 x5 x6)
end
def impl_spread.f (k : Nat) (l0 : List (List Int)) (a1 : Int) : Option (List Int) := (slices_Repeat_int_int.f (([(-1)] : List Int)) (l0.length : Int)).bind fun t1073 => (if 0 ≤ a1 then (if a1 < (t1073.length : Int) then (impl_spread.l0 k l0 (t1073.set (a1 : Int).toNat 0) (([a1] : List Int))) else (none)) else (none))
set_option maxHeartbeats 8000000 in
set_option maxRecDepth 100000 in
theorem impl_spread.calls (k : Nat) (A0 : Option Addr) (c0 : Nat) (l0 : List (List Int)) (a1 : Int) (r : List Int) (w : World) (hr0 : Kd.C (Kd.slice 3 (Kd.int .i64)) w A0 l0.length l0) (hc0 : l0.length ≤ c0) (h : impl_spread.f k l0 a1 = some r) :
 Calls Try.prog 77 #[.slice A0 l0.length c0, .int .i64 a1] w fun e w' => ∃ v0_ : Value, e = .returned (v0_) ∧ Kd.R (Kd.int .i64) 3 w' w.heap.size (fun _ => True) v0_ r ∧ Below w.heap.size w w' := by
 have HR0 := Aside0.mk hr0
 have HC0 := Aside0.mk hc0
 clear hr0 hc0
 have HB := zM (Below.refl w.heap.size w)
 have H : ((slices_Repeat_int_int.f (([(-1)] : List Int)) (l0.length : Int)).bind fun t1073 => (if 0 ≤ a1 then (if a1 < (t1073.length : Int) then (impl_spread.l0 k l0 (t1073.set (a1 : Int).toNat 0) (([a1] : List Int))) else (none)) else (none))) = some r := h
 clear h
 obtain ⟨y1070, hy1070⟩ : ∃ y_ : List Int, y_ = (([(-1)] : List Int)) := ⟨_, rfl⟩
 replace H : ((slices_Repeat_int_int.f y1070 (l0.length : Int)).bind fun t1073 => (if 0 ≤ a1 then (if a1 < (t1073.length : Int) then (impl_spread.l0 k l0 (t1073.set (a1 : Int).toNat 0) (([a1] : List Int))) else (none)) else (none))) = some r := by first | (rw [hy1070]; with_reducible exact H) | (have H2_ := (Option.bind_some _ _).symm.trans H; rw [hy1070]; with_reducible exact H2_) | (have H2_ := (Option.bind_some _ _).symm.trans H; with_reducible exact H2_) | with_reducible exact H | (rw [hy1070]; exact H) | exact H
 have Ny1070 := Aside0.mk hy1070
 clear hy1070
 replace H := Option.bind_eq_some_iff.mp H
 obtain ⟨t1073, A30, H⟩ := H
 have A3 := Aside0.mk A30
 clear A30
 by_cases c4 : 0 ≤ a1
 · rw [if_pos c4] at H
   have c4b0 := decide_eq_true c4
   clear c4
   by_cases c5 : a1 < (t1073.length : Int)
   · rw [if_pos c5] at H
     have c5b0 := decide_eq_true c5
     clear c5
     obtain ⟨y1076, hy1076⟩ : ∃ y_ : List Int, y_ = (t1073.set (a1 : Int).toNat 0) := ⟨_, rfl⟩
     replace H : (impl_spread.l0 k l0 y1076 (([a1] : List Int))) = some r := by first | (rw [hy1076]; with_reducible exact H) | (have H2_ := (Option.bind_some _ _).symm.trans H; rw [hy1076]; with_reducible exact H2_) | (have H2_ := (Option.bind_some _ _).symm.trans H; with_reducible exact H2_) | with_reducible exact H | (rw [hy1076]; exact H) | exact H
     have Ny1076 := Aside0.mk hy1076
     clear hy1076
     obtain ⟨y1077, hy1077⟩ : ∃ y_ : List Int, y_ = (([a1] : List Int)) := ⟨_, rfl⟩
     replace H : (impl_spread.l0 k l0 y1076 y1077) = some r := by first | (rw [hy1077]; with_reducible exact H) | (have H2_ := (Option.bind_some _ _).symm.trans H; rw [hy1077]; with_reducible exact H2_) | (have H2_ := (Option.bind_some _ _).symm.trans H; with_reducible exact H2_) | with_reducible exact H | (rw [hy1077]; exact H) | exact H
     have Ny1077 := Aside0.mk hy1077
     clear hy1077
     have H' := Aside0.mk H
     clear H
     go_enter Try.func77, Try.ntmps77
     go_wp2_with (first | ((with_reducible refine gate_dst (N := 10) rfl ?_); refine Kd.R_lit (Kd.int .i64) _ 3 ?hg (N := 10) ?hd (xs := ([(-1)] : List Int)) (inner := [.int .i64 (-1)]) (ok := fun _ => True) (okp := fun _ => True) ?hr ?hp (fun _ hk => hk) trivial (Below.refl _ _) (Nat.le_refl _) (by simp) ?_; (case hd => rfl); (case hg => rfl); (case hr => first | (go_simp; done) | (go_simp; rfl)); (case hp => exact (Reps.one (show Kd.M (Kd.int .i64) _ _ _ (-1) [.int .i64 (-1)] from rfl) (Reps.none _ _))); intro v1071 w7 ho8 hb hg_ hnew_; clear hg_ hnew_; (first | rw [← Ny1070.out] at ho8 | (simp only [Int.reduceToNat] at ho8; rw [← Ny1070.out] at ho8)); have HO1072 := zM (Kd.R_lower ho8 (below_size zB)); replace HB := zM (below_step zB hb); clear hb ho8; obtain ⟨Ao9, co9, eo9⟩ := Kd.R_slice HO1072.out; subst eo9) | ((with_reducible refine gate_callee (f := 120) rfl ?_); refine zc 13 Try.func120 #[.slice Ao9 y1070.length co9, .int .i64 (l0.length : Int)] ?_; (with_reducible refine (slices_Repeat_int_int.calls _ _ y1070 (l0.length : Int) t1073 _ ?side1 ?side2 A3.out).mono ?_); (case side1 => exact zC (Kd.R_reads' HO1072.out).2.2); (case side2 => exact (Kd.R_reads' HO1072.out).2.1); rintro e w10 ⟨v1074, rfl, ho0, hb⟩; refine ⟨_, rfl, ?_⟩; have HO1075 := zM (Kd.R_lower (Kd.R_new' ho0 (Kd.R_lt (zR HO1072.out))) (below_size zB)); replace HO1072 := zM (Kd.R_elder' (zR HO1072.out) (Kd.R_base ho0) hb); replace HB := zM (below_step zB hb); (try clear hb); (try clear hb2); (try clear hk); (try clear hi); (try clear ho0); have p6 : 0 ≤ (a1 : Int) := of_decide_eq_true zA; have q6 : (a1 : Int) < ((t1073.length : Int) : Int) := of_decide_eq_true zA; obtain ⟨go6, co6, eo6, gb6, gl6, cl6, HG6⟩ := Kd.R_form HO1075.out (by omega); (first | cases eo6 | (injection eo6 with ea_ en_ ec_; (first | subst ea_ | (injection ea_ with ea_; subst ea_)); subst ec_; clear en_)); have GB6 := Aside0.mk gb6; have GG6 := Aside0.mk HG6; clear gb6 gl6 HG6; obtain ⟨hx6_0, hf6_0⟩ := Kd.R_celln 0 HO1075.out (a1 : Int) p6 q6; replace p6 := eq_true p6; replace q6 := eq_true q6; have n_ := zM (Kd.R_mono (ok' := (fun k_ => some k_ ≠ (.slice Ao9 y1070.length co9 : Value).ownBlock)) HO1075.out (fun k_ hk => hk.2)); clear HO1075; have HO1075 := n_; clear n_; obtain ⟨hy11_, hz11_⟩ := Kd.R_celln 0 HO1075.out (a1 : Int) (of_decide_eq_true zA) (of_decide_eq_true zA); have HP11 := Kd.R_putg HO1075.out (a1 : Int) 0) | ((with_reducible refine gate_store (t := 3) (p := 16) rfl ?_); refine store_event (t := 3) (p := 16) (v := ?vo_w12) (w1 := (w10.setCell ⟨go6, (a1 : Int).toNat, none⟩ (.int .i64 0))) ?hg ?ho ?hn ?hr ?_; (case ho => rfl); (case hg => rfl); (case hn => rfl); (case hr => first | (go_simp; done) | (go_simp; rfl)); intro w12 hw; have hg : w10.grownBy w12 (some go6) := (by rw [hw]; exact HP11.2); have hp_ : Kd.R (Kd.int .i64) 3 w12 w.heap.size (fun k_ => some k_ ≠ (.slice Ao9 y1070.length co9 : Value).ownBlock) (.slice (some ⟨go6, 0, none⟩) t1073.length co6) y1076 := (by rw [hw, Ny1076.out]; exact HP11.1); clear HP11; replace HO1072 := zM (Kd.R_after (v := (.slice (some ⟨go6, 0, none⟩) t1073.length co6)) (v1 := (.slice (some ⟨go6, 0, none⟩) t1073.length co6)) (ok := (fun _ => True)) (zR HO1072.out) hg (.inl rfl)); replace HO1075 := zM (hp_); replace HB := zM ((by rw [hw]; exact below_set (HB.out) GB6.out : Below w.heap.size w w12)); clear hg hw hp_) | ((with_reducible refine gate_dst (N := 18) rfl ?_); refine Kd.R_lit (Kd.int .i64) _ 3 ?hg (N := 18) ?hd (xs := ([a1] : List Int)) (inner := [.int .i64 a1]) (ok := fun _ => True) (okp := fun _ => True) ?hr ?hp (fun _ hk => hk) trivial (Below.refl _ _) (Nat.le_refl _) (by simp) ?_; (case hd => rfl); (case hg => rfl); (case hr => first | (go_simp; done) | (go_simp; rfl)); (case hp => exact (Reps.one (show Kd.M (Kd.int .i64) _ _ _ a1 [.int .i64 a1] from rfl) (Reps.none _ _))); intro v1078 w13 ho14 hb hg_ hnew_; clear hg_ hnew_; (first | rw [← Ny1077.out] at ho14 | (simp only [Int.reduceToNat] at ho14; rw [← Ny1077.out] at ho14)); have HO1079 := zM (Kd.R_lower (Kd.R_new' (Kd.R_new' ho14 (Kd.R_lt (zR HO1072.out))) (Kd.R_lt (zR HO1075.out))) (below_size zB)); replace HO1072 := zM (Kd.R_elder' (zR HO1072.out) (Kd.R_base ho14) hb); replace HO1075 := zM (Kd.R_elder' (zR HO1075.out) (Kd.R_base ho14) hb); replace HB := zM (below_step zB hb); clear hb ho14))
     go_loopg [6] k (fun kq v6 w' => ∃ (x5_1 : List Int) (x6_1 : List Int), Aside0 (impl_spread.l0 kq l0 x5_1 x6_1 = some r) ∧ Aside0 (kq ≤ k) ∧ Aside0 (Kd.R (Kd.int .i64) 3 w' w.heap.size (fun k_ => some k_ ≠ (v6 : Value).ownBlock) (.slice (some ⟨go6, 0, none⟩) t1073.length co6) x5_1) ∧ Aside0 (Kd.Q (Kd.int .i64) 3 w' w.heap.size (fun k_ => some k_ ≠ ((.slice (some ⟨go6, 0, none⟩) t1073.length co6) : Value).ownBlock) v6 x6_1) ∧ Aside0 (Below w.heap.size w w'))
     case atStart => exact ⟨(y1076), (y1077), H', ⟨Nat.le_refl _⟩, ⟨by (with_reducible repeat (first | apply Kd.R_alloc | apply Kd.R_drewN | apply Kd.R_drew)); exact Kd.R_mono HO1075.out (fun _ hk => hk.2)⟩, ⟨Kd.Q_of_R (by (with_reducible repeat (first | apply Kd.R_alloc | apply Kd.R_drewN | apply Kd.R_drew)); exact Kd.R_mono HO1079.out (fun _ hk => hk.2))⟩, ⟨zB⟩⟩
     case round =>
      clear H'
      try clear c1
      try clear p2
      try clear c4
      try clear c4b0
      try clear c5
      try clear c5b0
      try clear p6
      try clear q6
      try clear hx6
      try clear hf6
      try clear c7
      try clear c12
      try clear hx6_0
      try clear p6
      try clear q6
      obtain ⟨x5_1, x6_1, HA, HK1, HO_5, HO_6, HB⟩ := hrel
      have hl5_1 := (Kd.R_reads' HO_5.out).1
      rw [hl5_1] at HO_5
      (try simp only [hl5_1])
      (try simp only [hl5_1] at HO_6)
      cases gk with
      | zero => exact absurd HA.out (by simp [impl_spread.l0])
      | succ k1 =>
       have H := HA.out
       clear HA
       simp only [impl_spread.l0] at H
       by_cases c15 : (x6_1.length : Int) > 0
       · rw [if_pos c15] at H
         have c15b0 : decide (0 < (x6_1.length : Int)) = true := decide_eq_true c15
         have c15b1 : decide (0 < x6_1.length) = true := decide_eq_true (by omega)
         clear c15
         by_cases c16 : 0 < (x6_1.length : Int)
         · rw [if_pos c16] at H
           have c16b0 := decide_eq_true c16
           have c16b1 : decide (0 < x6_1.length) = true := decide_eq_true (by omega)
           clear c16
           by_cases c17 : 1 ≤ (x6_1.length : Int)
           · rw [if_pos c17] at H
             have c17b0 := eq_true c17
             have c17b1 : decide (1 ≤ (x6_1.length : Int)) = true := decide_eq_true c17
             clear c17
             obtain ⟨y1081, hy1081⟩ : ∃ y_ : List Int, y_ = (x6_1.drop (1 : Int).toNat) := ⟨_, rfl⟩
             replace H : (if 0 ≤ (rd x6_1 0) then (if (rd x6_1 0) < (l0.length : Int) then (impl_spread.l1 k1 l0 x5_1 y1081 (rd x6_1 0) (rd_L4 l0 (rd x6_1 0)) ((rd_L4 l0 (rd x6_1 0)).length : Int) 0) else (none)) else (none)) = some r := by first | (rw [hy1081]; with_reducible exact H) | (have H2_ := (Option.bind_some _ _).symm.trans H; rw [hy1081]; with_reducible exact H2_) | (have H2_ := (Option.bind_some _ _).symm.trans H; with_reducible exact H2_) | with_reducible exact H | (rw [hy1081]; exact H) | exact H
             have Ny1081 := Aside0.mk hy1081
             clear hy1081
             by_cases c18 : 0 ≤ (rd x6_1 0)
             · rw [if_pos c18] at H
               have c18b0 := decide_eq_true c18
               clear c18
               by_cases c19 : (rd x6_1 0) < (l0.length : Int)
               · rw [if_pos c19] at H
                 have c19b0 := decide_eq_true c19
                 clear c19
                 have H' := Aside0.mk H
                 clear H
                 obtain ⟨Ao20, co20, eo20, _⟩ := Kd.Q_slice HO_6.out
                 subst eo20
                 have p1080 : 0 ≤ (0 : Int) := (by omega)
                 have q1080 : 0 < (x6_1.length : Int) := of_decide_eq_true zA
                 obtain ⟨ad1080, e1080, hx1080_0⟩ := Kd.at_int (Kd.Q_reads' HO_6.out).2.2 0 p1080 q1080
                 cases e1080
                 have qi1080 : (0 < x6_1.length) = True := eq_true (by omega)
                 (try rw [show ((0 : Int)).toNat = 0 from rfl] at hx1080_0)
                 (try rw [Addr.add_zero'] at hx1080_0)
                 replace p1080 := eq_true p1080
                 replace q1080 := eq_true q1080
                 have q21 : (1 : Int) ≤ ((x6_1.length : Int) : Int) := of_decide_eq_true zA
                 obtain ⟨i021, hi021, _, hsz21, _⟩ := info_parts info3
                 have hcut21 := cut_from (P := Try.prog) 25 3 .i64 Try.underlying25 hi021 1 hsz21 (some ad1080) x6_1.length co20 1 (by omega) q21
                 have hr21 := Kd.Q_drop (k := (1 : Int).toNat) HO_6.out (by omega)
                 obtain ⟨A21, hA21⟩ : ∃ A1, A1 = (if co20 = (1 : Int).toNat then (some ad1080) else ((some ad1080) : Option Addr).map (·.add ((1 : Int).toNat * 1))) := ⟨_, rfl⟩
                 obtain ⟨c21, hc21⟩ : ∃ c1, c1 = co20 - (1 : Int).toNat := ⟨_, rfl⟩
                 have hy21 : y1081.length = x6_1.length - (1 : Int).toNat := (by rw [Ny1081.out, List.length_drop])
                 rw [← Ny1081.out] at hr21
                 rw [← hy21, ← hA21, ← hc21] at hcut21
                 replace hr21 : Kd.Q (Kd.int .i64) 3 wr w.heap.size (fun k_ => some k_ ≠ (.slice (some ⟨go6, 0, none⟩) x5_1.length co6 : Value).ownBlock) (.slice A21 y1081.length c21) y1081 := (by rw [hA21, hc21, hy21]; exact hr21)
                 have HE21 : Aside0 ((Value.slice A21 y1081.length c21).ownBlock = (.slice (some ad1080) x6_1.length co20 : Value).ownBlock) := ⟨by rw [hA21]; split <;> (cases ((some ad1080) : Option Addr) <;> rfl)⟩
                 clear hy21 hi021 hsz21 HO_6 hA21 hc21
                 have HO1083 := Aside0.mk hr21
                 clear hr21
                 replace q21 := eq_true q21
                 have n_ := zM (Kd.R_mono (ok' := fun k_ => some k_ ≠ (.slice A21 y1081.length c21 : Value).ownBlock) HO_5.out (fun k_ hk => (by rw [HE21.out]; exact hk)))
                 clear HO_5
                 have HO_5 := n_
                 clear n_
                 have p1084 : 0 ≤ ((rd x6_1 0) : Int) := of_decide_eq_true zA
                 have q1084 : (rd x6_1 0) < (l0.length : Int) := of_decide_eq_true zA
                 obtain ⟨ad1084, A1084_0, c1084_0, e1084, hx1084_0, hl1084_0, hi1084_0⟩ := at_L4 HR0.out (rd x6_1 0) p1084 q1084
                 cases e1084
                 (try replace hx1084_0 := (HB.out.cell (World.block_lt_of_cell? w _ hx1084_0)).trans hx1084_0)
                 have HR1084_0 := Aside0.mk hi1084_0
                 have HC1084_0 := Aside0.mk hl1084_0
                 clear hi1084_0 hl1084_0
                 replace p1084 := eq_true p1084
                 replace q1084 := eq_true q1084
                 go_wp2
                 go_loopg [6, 32] k1 (fun kq v6 v32 w' => ∃ (x5_2 : List Int) (x6_2 : List Int) (x32_2 : Int), v32 = .int .i64 x32_2 ∧ Aside0 (impl_spread.l1 kq l0 x5_2 x6_2 (rd x6_1 0) (rd_L4 l0 (rd x6_1 0)) ((rd_L4 l0 (rd x6_1 0)).length : Int) x32_2 = some r) ∧ Aside0 (kq ≤ k1) ∧ Aside0 (Kd.R (Kd.int .i64) 3 w' w.heap.size (fun k_ => some k_ ≠ (v6 : Value).ownBlock) (.slice (some ⟨go6, 0, none⟩) x5_1.length co6) x5_2) ∧ Aside0 (Kd.Q (Kd.int .i64) 3 w' w.heap.size (fun k_ => some k_ ≠ ((.slice (some ⟨go6, 0, none⟩) x5_1.length co6) : Value).ownBlock) v6 x6_2) ∧ Aside0 (Below w.heap.size w w'))
                 case atStart => exact ⟨(x5_1), (y1081), (0), (by first | rfl | (simp; done) | (simp [*]; done)), H', ⟨Nat.le_refl _⟩, ⟨by (try simp only [hl5_1]); (with_reducible repeat (first | apply Kd.R_alloc | apply Kd.R_drewN | apply Kd.R_drew)); exact HO_5.out⟩, ⟨by (try simp only [hl5_1]); (with_reducible repeat (first | apply Kd.Q_alloc | apply Kd.Q_drewN | apply Kd.Q_drew)); exact HO1083.out⟩, ⟨zB⟩⟩
                 case round =>
                  clear H'
                  try clear c1
                  try clear p1
                  try clear q1
                  try clear hx1
                  try clear qi1
                  try clear c2
                  try clear p2
                  try clear q2
                  try clear c4
                  try clear c4b0
                  try clear c5
                  try clear c5b0
                  try clear p6
                  try clear q6
                  try clear hx6
                  try clear hf6
                  try clear c7
                  try clear c10
                  try clear p10
                  try clear q10
                  try clear hx10
                  try clear qi10
                  try clear c12
                  try clear c15
                  try clear c15b0
                  try clear c15b1
                  try clear c16
                  try clear c16b0
                  try clear c16b1
                  try clear c17
                  try clear c17b0
                  try clear c17b1
                  try clear c18
                  try clear c18b0
                  try clear c19
                  try clear c19b0
                  try clear c21
                  try clear q21
                  try clear hx1080_0
                  try clear hx1084_0
                  try clear hx6_0
                  try clear p1080
                  try clear p1084
                  try clear p2
                  try clear p6
                  try clear q1080
                  try clear q1084
                  try clear q21
                  try clear q6
                  obtain ⟨x5_2, x6_2, x32_2, rfl, HA, HK2, HO_5, HO_6, HB⟩ := hrel
                  have hl5_2 := (Kd.R_reads' HO_5.out).1
                  rw [hl5_2] at HO_5
                  (try simp only [hl5_2])
                  (try simp only [hl5_2] at HO_6)
                  cases gk with
                  | zero => exact absurd HA.out (by simp [impl_spread.l1])
                  | succ k2 =>
                   have H := HA.out
                   clear HA
                   simp only [impl_spread.l1] at H
                   by_cases c22 : x32_2 < ((rd_L4 l0 (rd x6_1 0)).length : Int)
                   · rw [if_pos c22] at H
                     have c22b0 := decide_eq_true c22
                     clear c22
                     by_cases c23 : 0 ≤ x32_2
                     · rw [if_pos c23] at H
                       have c23b0 := decide_eq_true c23
                       clear c23
                       by_cases c24 : x32_2 < ((rd_L4 l0 (rd x6_1 0)).length : Int)
                       · rw [if_pos c24] at H
                         have c24b0 := decide_eq_true c24
                         clear c24
                         by_cases c25 : 0 ≤ (rd (rd_L4 l0 (rd x6_1 0)) x32_2)
                         · rw [if_pos c25] at H
                           have c25b0 := decide_eq_true c25
                           clear c25
                           by_cases c26 : (rd (rd_L4 l0 (rd x6_1 0)) x32_2) < (x5_2.length : Int)
                           · rw [if_pos c26] at H
                             have c26b0 := decide_eq_true c26
                             clear c26
                             by_cases c27 : (rd x5_2 (rd (rd_L4 l0 (rd x6_1 0)) x32_2)) < 0
                             · rw [if_pos c27] at H
                               have c27b0 := decide_eq_true c27
                               clear c27
                               by_cases c28 : 0 ≤ (rd x6_1 0)
                               · rw [if_pos c28] at H
                                 have c28b0 := decide_eq_true c28
                                 clear c28
                                 by_cases c29 : (rd x6_1 0) < (x5_2.length : Int)
                                 · rw [if_pos c29] at H
                                   have c29b0 := decide_eq_true c29
                                   clear c29
                                   obtain ⟨y1088, hy1088⟩ : ∃ y_ : List Int, y_ = (x5_2.set ((rd (rd_L4 l0 (rd x6_1 0)) x32_2) : Int).toNat (wrap64 ((rd x5_2 (rd x6_1 0)) + 1))) := ⟨_, rfl⟩
                                   replace H : (if x6_2.length < 17592186044416 then (impl_spread.l1 k2 l0 y1088 (x6_2 ++ [rd (rd_L4 l0 (rd x6_1 0)) x32_2]) (rd x6_1 0) (rd_L4 l0 (rd x6_1 0)) ((rd_L4 l0 (rd x6_1 0)).length : Int) (wrap64 (x32_2 + 1))) else (none)) = some r := by first | (rw [hy1088]; with_reducible exact H) | (have H2_ := (Option.bind_some _ _).symm.trans H; rw [hy1088]; with_reducible exact H2_) | (have H2_ := (Option.bind_some _ _).symm.trans H; with_reducible exact H2_) | with_reducible exact H | (rw [hy1088]; exact H) | exact H
                                   have Ny1088 := Aside0.mk hy1088
                                   clear hy1088
                                   by_cases c31 : x6_2.length < 17592186044416
                                   · rw [if_pos c31] at H
                                     have LMc31 := Aside0.mk c31
                                     clear c31
                                     obtain ⟨y1089, hy1089⟩ : ∃ y_ : List Int, y_ = (x6_2 ++ [rd (rd_L4 l0 (rd x6_1 0)) x32_2]) := ⟨_, rfl⟩
                                     replace H : (impl_spread.l1 k2 l0 y1088 y1089 (rd x6_1 0) (rd_L4 l0 (rd x6_1 0)) ((rd_L4 l0 (rd x6_1 0)).length : Int) (wrap64 (x32_2 + 1))) = some r := by first | (rw [hy1089]; with_reducible exact H) | (have H2_ := (Option.bind_some _ _).symm.trans H; rw [hy1089]; with_reducible exact H2_) | (have H2_ := (Option.bind_some _ _).symm.trans H; with_reducible exact H2_) | with_reducible exact H | (rw [hy1089]; exact H) | exact H
                                     have Ny1089 := Aside0.mk hy1089
                                     clear hy1089
                                     have H' := Aside0.mk H
                                     clear H
                                     have p1085 : 0 ≤ (x32_2 : Int) := of_decide_eq_true zA
                                     have q1085 : x32_2 < ((rd_L4 l0 (rd x6_1 0)).length : Int) := of_decide_eq_true zA
                                     obtain ⟨ad1085, e1085, hx1085_0⟩ := Kd.at_int HR1084_0.out x32_2 p1085 q1085
                                     cases e1085
                                     (try replace hx1085_0 := (HB.out.cell (World.block_lt_of_cell? w _ hx1085_0)).trans hx1085_0)
                                     replace p1085 := eq_true p1085
                                     replace q1085 := eq_true q1085
                                     have p1086 : 0 ≤ ((rd (rd_L4 l0 (rd x6_1 0)) x32_2) : Int) := of_decide_eq_true zA
                                     have q1086 : (rd (rd_L4 l0 (rd x6_1 0)) x32_2) < (x5_2.length : Int) := of_decide_eq_true zA
                                     obtain ⟨ad1086, e1086, hx1086_0⟩ := Kd.at_int (Kd.R_reads' HO_5.out).2.2 (rd (rd_L4 l0 (rd x6_1 0)) x32_2) p1086 q1086
                                     obtain rfl : (⟨go6, 0, none⟩ : Addr) = ad1086 := (by injection e1086)
                                     (first | simp only [add_plain] at hx1086_0 | simp only [add_at] at hx1086_0 | simp only [Addr.add, Nat.zero_add] at hx1086_0 | skip)
                                     replace p1086 := eq_true p1086
                                     replace q1086 := eq_true q1086
                                     have p1087 : 0 ≤ ((rd x6_1 0) : Int) := of_decide_eq_true zA
                                     have q1087 : (rd x6_1 0) < (x5_2.length : Int) := of_decide_eq_true zA
                                     obtain ⟨ad1087, e1087, hx1087_0⟩ := Kd.at_int (Kd.R_reads' HO_5.out).2.2 (rd x6_1 0) p1087 q1087
                                     obtain rfl : (⟨go6, 0, none⟩ : Addr) = ad1087 := (by injection e1087)
                                     (first | simp only [add_plain] at hx1087_0 | simp only [add_at] at hx1087_0 | simp only [Addr.add, Nat.zero_add] at hx1087_0 | skip)
                                     replace p1087 := eq_true p1087
                                     replace q1087 := eq_true q1087
                                     have p30 : 0 ≤ ((rd (rd_L4 l0 (rd x6_1 0)) x32_2) : Int) := of_decide_eq_true zA
                                     have q30 : ((rd (rd_L4 l0 (rd x6_1 0)) x32_2) : Int) < ((x5_2.length : Int) : Int) := of_decide_eq_true zA
                                     obtain ⟨hx30_0, hf30_0⟩ := Kd.R_celln 0 HO_5.out ((rd (rd_L4 l0 (rd x6_1 0)) x32_2) : Int) p30 q30
                                     replace p30 := eq_true p30
                                     replace q30 := eq_true q30
                                     have HP32 := Kd.R_putg HO_5.out ((rd (rd_L4 l0 (rd x6_1 0)) x32_2) : Int) (wrap64 ((rd x5_2 (rd x6_1 0)) + 1))
                                     go_wp2_with (first | ((with_reducible refine gate_store (t := 3) (p := 48) rfl ?_); refine store_event (t := 3) (p := 48) (v := ?vo_w33) (w1 := (wr.setCell ⟨go6, ((rd (rd_L4 l0 (rd x6_1 0)) x32_2) : Int).toNat, none⟩ (.int .i64 (wrap64 ((rd x5_2 (rd x6_1 0)) + 1))))) ?hg ?ho ?hn ?hr ?_; (case ho => rfl); (case hg => rfl); (case hn => rfl); (case hr => first | (go_simp; done) | (go_simp; rfl)); intro w33 hw; have hg : wr.grownBy w33 (some go6) := (by rw [hw]; exact HP32.2); have hp_ : Kd.R (Kd.int .i64) 3 w33 w.heap.size (fun k_ => some k_ ≠ (u6 : Value).ownBlock) (.slice (some ⟨go6, 0, none⟩) x5_2.length co6) y1088 := (by rw [hw, Ny1088.out]; exact HP32.1); clear HP32; replace HO_5 := zM (hp_); replace HO_6 := zM (Kd.Q_after (v := (.slice (some ⟨go6, 0, none⟩) x5_2.length co6)) (v1 := (.slice (some ⟨go6, 0, none⟩) x5_2.length co6)) (ok := (fun _ => True)) (by (with_reducible repeat (first | apply Kd.Q_alloc | apply Kd.Q_drewN | apply Kd.Q_drew)); exact Kd.Q_mono HO_6.out (fun _ hk => ⟨trivial, hk⟩)) hg (.inl rfl)); replace HB := zM ((by rw [hw]; exact below_set (HB.out) GB6.out : Below w.heap.size w w33)); clear hg hw hp_) | ((with_reducible refine gate_builtin (b := .append) (xs := #[.tmp 49, .tmp 51]) rfl ?_); at_builtin; refine Kd.Q_append (Kd.int .i64) (w0 := w) w.heap.size rfl (.tmp 49) (.tmp 51) 25 3 (.int .i64 0) 8 rfl Try.underlying25 info3 rfl (by decide) (by omega) u6 x6_2 (rd (rd_L4 l0 (rd x6_1 0)) x32_2) [.int .i64 (rd (rd_L4 l0 (rd x6_1 0)) x32_2)] (fun k_ => some k_ ≠ (.slice (some ⟨go6, 0, none⟩) x5_2.length co6 : Value).ownBlock) (fun _ => False) rfl rfl ?aP (fun _ hk => hk.elim) ?aF ?aO ?aB ?aS ?aL ?_; (case aP => exact rfl); (case aB => exact zB); (case aF => exact (fun k_ hk => Kd.fresh' (Kd.R_lt (zR HO_5.out)) k_ hk)); (case aO => exact (by (with_reducible repeat (first | apply Kd.Q_alloc | apply Kd.Q_drewN | apply Kd.Q_drew)); exact Kd.Q_mono HO_6.out (fun _ hk => hk.2))); (case aS => exact (below_size zB)); (case aL => have := LMc31.out; omega); intro v1090 w34 ho hb hg hat; rw [← Ny1089.out] at ho; replace HO_5 := zM (Kd.R_after (ok := (fun _ => True)) (by (with_reducible repeat (first | apply Kd.R_alloc | apply Kd.R_drewN | apply Kd.R_drew)); exact Kd.R_mono HO_5.out (fun _ hk => ⟨trivial, hk⟩)) hg hat); replace HB := zM (hb); have HO1091 := zM (ho); clear HO_6; clear ho hb hg hat))
                                     (try simp only [← hl5_2])
                                     go_roundg k2
                                     case measure => have := HK1.out; have := HK2.out; omega
                                     case rel => exact ⟨(y1088), (y1089), (wrap64 (x32_2 + 1)), (by first | rfl | (simp; done) | (simp [*]; done)), H', ⟨by have := HK1.out; have := HK2.out; omega⟩, ⟨by (try simp only [hl5_1]); (try simp only [hl5_2]); (with_reducible repeat (first | apply Kd.R_alloc | apply Kd.R_drewN | apply Kd.R_drew)); exact Kd.R_mono HO_5.out (fun _ hk => hk.2)⟩, ⟨by (try simp only [hl5_1]); (try simp only [hl5_2]); (with_reducible repeat (first | apply Kd.Q_alloc | apply Kd.Q_drewN | apply Kd.Q_drew)); exact HO1091.out⟩, ⟨zB⟩⟩
                                   · rw [if_neg c31] at H
                                     exact absurd H (by simp)
                                 · rw [if_neg c29] at H
                                   exact absurd H (by simp)
                               · rw [if_neg c28] at H
                                 exact absurd H (by simp)
                             · rw [if_neg c27] at H
                               have c27b0 : decide ((rd x5_2 (rd (rd_L4 l0 (rd x6_1 0)) x32_2)) < 0) = false := decide_eq_false c27
                               clear c27
                               have H' := Aside0.mk H
                               clear H
                               have p1085 : 0 ≤ (x32_2 : Int) := of_decide_eq_true zA
                               have q1085 : x32_2 < ((rd_L4 l0 (rd x6_1 0)).length : Int) := of_decide_eq_true zA
                               obtain ⟨ad1085, e1085, hx1085_0⟩ := Kd.at_int HR1084_0.out x32_2 p1085 q1085
                               cases e1085
                               (try replace hx1085_0 := (HB.out.cell (World.block_lt_of_cell? w _ hx1085_0)).trans hx1085_0)
                               replace p1085 := eq_true p1085
                               replace q1085 := eq_true q1085
                               have p1086 : 0 ≤ ((rd (rd_L4 l0 (rd x6_1 0)) x32_2) : Int) := of_decide_eq_true zA
                               have q1086 : (rd (rd_L4 l0 (rd x6_1 0)) x32_2) < (x5_2.length : Int) := of_decide_eq_true zA
                               obtain ⟨ad1086, e1086, hx1086_0⟩ := Kd.at_int (Kd.R_reads' HO_5.out).2.2 (rd (rd_L4 l0 (rd x6_1 0)) x32_2) p1086 q1086
                               obtain rfl : (⟨go6, 0, none⟩ : Addr) = ad1086 := (by injection e1086)
                               (first | simp only [add_plain] at hx1086_0 | simp only [add_at] at hx1086_0 | simp only [Addr.add, Nat.zero_add] at hx1086_0 | skip)
                               replace p1086 := eq_true p1086
                               replace q1086 := eq_true q1086
                               go_wp2
                               (try simp only [← hl5_2])
                               go_roundg k2
                               case measure => have := HK1.out; have := HK2.out; omega
                               case rel => exact ⟨(x5_2), (x6_2), (wrap64 (x32_2 + 1)), (by first | rfl | (simp; done) | (simp [*]; done)), H', ⟨by have := HK1.out; have := HK2.out; omega⟩, ⟨by (try simp only [hl5_1]); (try simp only [hl5_2]); (with_reducible repeat (first | apply Kd.R_alloc | apply Kd.R_drewN | apply Kd.R_drew)); exact HO_5.out⟩, ⟨by (try simp only [hl5_1]); (try simp only [hl5_2]); (with_reducible repeat (first | apply Kd.Q_alloc | apply Kd.Q_drewN | apply Kd.Q_drew)); exact HO_6.out⟩, ⟨zB⟩⟩
                           · rw [if_neg c26] at H
                             exact absurd H (by simp)
                         · rw [if_neg c25] at H
                           exact absurd H (by simp)
                       · rw [if_neg c24] at H
                         exact absurd H (by simp)
                     · rw [if_neg c23] at H
                       exact absurd H (by simp)
                   · rw [if_neg c22] at H
                     have c22b0 : decide (x32_2 < ((rd_L4 l0 (rd x6_1 0)).length : Int)) = false := decide_eq_false c22
                     clear c22
                     have H' := Aside0.mk H
                     clear H
                     go_wp2
                     (try simp only [← hl5_1, ← hl5_2])
                     go_roundg k2
                     case measure => have := HK1.out; have := HK2.out; omega
                     case rel => exact ⟨(x5_2), (x6_2), H', ⟨by have := HK1.out; have := HK2.out; omega⟩, ⟨by (try simp only [hl5_1]); (try simp only [hl5_2]); (with_reducible repeat (first | apply Kd.R_alloc | apply Kd.R_drewN | apply Kd.R_drew)); exact HO_5.out⟩, ⟨by (try simp only [hl5_1]); (try simp only [hl5_2]); (with_reducible repeat (first | apply Kd.Q_alloc | apply Kd.Q_drewN | apply Kd.Q_drew)); exact HO_6.out⟩, ⟨zB⟩⟩
               · rw [if_neg c19] at H
                 exact absurd H (by simp)
             · rw [if_neg c18] at H
               exact absurd H (by simp)
           · rw [if_neg c17] at H
             exact absurd H (by simp)
         · rw [if_neg c16] at H
           exact absurd H (by simp)
       · rw [if_neg c15] at H
         have c15b0 : decide (0 < (x6_1.length : Int)) = false := decide_eq_false c15
         have c15b1 : decide (0 < x6_1.length) = false := decide_eq_false (by omega)
         clear c15
         obtain rfl := Option.some.inj H
         obtain ⟨Ao35, co35, eo35, _⟩ := Kd.Q_slice HO_6.out
         subst eo35
         go_wp2
         go_ret
         exact ⟨_, by first | rfl | (simp [errW_none, errW_some] <;> rfl) | (simp [*, errW_none, errW_some] <;> rfl), by (with_reducible repeat (first | apply Kd.R_alloc | apply Kd.R_drewN | apply Kd.R_drew)); exact Kd.R_mono HO_5.out (fun _ hk => trivial), zB⟩
   · rw [if_neg c5] at H
     exact absurd H (by simp)
 · rw [if_neg c4] at H
   exact absurd H (by simp)

/-! ### impl_DiameterOf: function 52 -/
def impl_DiameterOf.l0 : Nat → Int → List (List Int) → Int → Int → Option (Int × Bool)
 | 0, _, _, _, _ => none
 | k + 1, x4, x5, x14, x15 => if x15 < x14 then ((impl_spread.f k x5 x15).bind fun t1097 => ((slices_Max_int_int.f t1097).bind fun t1100 => (impl_DiameterOf.l0 k (mx x4 t1100) x5 x14 (wrap64 (x15 + 1))))) else (some (x4, true))
def impl_DiameterOf.f (k : Nat) (l0_0 : List (List Int)) (l0_1 : List (S88)) : Option (Int × Bool) := (impl_IsSpace.f k l0_0 l0_1).bind fun t1093 => (if t1093 = true then ((impl_Space_roads.f k l0_0 l0_1).bind fun t1094 => (impl_DiameterOf.l0 k 0 t1094 (l0_0.length : Int) 0)) else (some (0, false)))
set_option maxHeartbeats 8000000 in
set_option maxRecDepth 100000 in
theorem impl_DiameterOf.calls (k : Nat) (A0_0 : Option Addr) (c0_0 : Nat) (l0_0 : List (List Int)) (A0_1 : Option Addr) (c0_1 : Nat) (l0_1 : List (S88)) (r1 : Int) (r2 : Bool) (w : World) (hr0_0 : Kd.C (Kd.slice 3 (Kd.int .i64)) w A0_0 l0_0.length l0_0) (hc0_0 : l0_0.length ≤ c0_0) (hr0_1 : Kd.C k88 w A0_1 l0_1.length l0_1) (hc0_1 : l0_1.length ≤ c0_1) (h : impl_DiameterOf.f k l0_0 l0_1 = some (r1, r2)) :
 Calls Try.prog 52 #[.agg #[.slice A0_0 l0_0.length c0_0, .slice A0_1 l0_1.length c0_1]] w fun e w' => e = .returned (.tuple #[.int .i64 r1, .bool r2]) ∧ Below w.heap.size w w' := by
 have hu46 := Try.underlying46
 have HR0_0 := Aside0.mk hr0_0
 have HC0_0 := Aside0.mk hc0_0
 clear hr0_0 hc0_0
 have HR0_1 := Aside0.mk hr0_1
 have HC0_1 := Aside0.mk hc0_1
 clear hr0_1 hc0_1
 have HB := zM (Below.refl w.heap.size w)
 have H : ((impl_IsSpace.f k l0_0 l0_1).bind fun t1093 => (if t1093 = true then ((impl_Space_roads.f k l0_0 l0_1).bind fun t1094 => (impl_DiameterOf.l0 k 0 t1094 (l0_0.length : Int) 0)) else (some (0, false)))) = some (r1, r2) := h
 clear h
 replace H := Option.bind_eq_some_iff.mp H
 obtain ⟨t1093, A20, H⟩ := H
 replace H : (if t1093 = true then ((impl_Space_roads.f k l0_0 l0_1).bind fun t1094 => (impl_DiameterOf.l0 k 0 t1094 (l0_0.length : Int) 0)) else (some (0, false))) = some (r1, r2) := H
 have A2 := Aside0.mk A20
 clear A20
 by_cases c3 : t1093 = true
 · subst c3
   have H1 : ((impl_Space_roads.f k l0_0 l0_1).bind fun t1094 => (impl_DiameterOf.l0 k 0 t1094 (l0_0.length : Int) 0)) = some (r1, r2) := by rw [if_pos rfl] at H; exact H
   clear H
   have H := H1
   clear H1
   replace H := Option.bind_eq_some_iff.mp H
   obtain ⟨t1094, A40, H⟩ := H
   replace H : (impl_DiameterOf.l0 k 0 t1094 (l0_0.length : Int) 0) = some (r1, r2) := H
   have A4 := Aside0.mk A40
   clear A40
   have H' := Aside0.mk H
   clear H
   go_enter Try.func52, Try.ntmps52
   go_wp2_with (first | ((with_reducible refine gate_dst (N := 1) rfl ?_); refine zb (w := w) 1 #[.slice A0_0 l0_0.length c0_0, .slice A0_1 l0_1.length c0_1] 46 zB ?_; clear HB; intro gb1092 w5 HB BK1092 GW1092; have GE1092 := GW1092; have hcz6_0 := zy BK1092 0; have hcz6_1 := zy BK1092 1; have hfz6_0 := blk_frozen BK1092.out 0; have hfz6_1 := blk_frozen BK1092.out 1) | ((with_reducible refine gate_callee (f := 83) rfl ?_); refine zc 8 Try.func83 #[.agg #[.slice A0_0 l0_0.length c0_0, .slice A0_1 l0_1.length c0_1]] ?_; (with_reducible refine (impl_IsSpace.calls k _ _ l0_0 _ _ l0_1 true _ ?side1 ?side2 ?side3 ?side4 A2.out).mono ?_); (case side1 => exact zC (Kd.C_below HR0_0.out HB.out)); (case side2 => exact HC0_0.out); (case side3 => exact zC (Kd.C_below HR0_1.out HB.out)); (case side4 => exact HC0_1.out); rintro e w7 ⟨rfl, hb⟩; refine ⟨_, rfl, ?_⟩; replace BK1092 := zM (blk_below (g := gb1092) (o := .cells #[.slice A0_0 l0_0.length c0_0, .slice A0_1 l0_1.length c0_1] 46 (0, 0)) (zK BK1092.out) hb); replace HB := zM (below_step zB hb); (try clear hb); (try clear hb2); (try clear hk); (try clear hi); have hcz8_0 := zy BK1092 0; have hcz8_1 := zy BK1092 1; have hfz8_0 := blk_frozen BK1092.out 0; have hfz8_1 := blk_frozen BK1092.out 1) | ((with_reducible refine gate_callee (f := 91) rfl ?_); refine zc 11 Try.func91 #[.agg #[.slice A0_0 l0_0.length c0_0, .slice A0_1 l0_1.length c0_1]] ?_; (with_reducible refine (impl_Space_roads.calls k _ _ l0_0 _ _ l0_1 t1094 _ ?side1 ?side2 ?side3 ?side4 A4.out).mono ?_); (case side1 => exact zC (Kd.C_below HR0_0.out HB.out)); (case side2 => exact HC0_0.out); (case side3 => exact zC (Kd.C_below HR0_1.out HB.out)); (case side4 => exact HC0_1.out); rintro e w9 ⟨v1095, rfl, ho0, hb⟩; refine ⟨_, rfl, ?_⟩; have HO1096 := zM (Kd.S_lower ho0 (below_size zB)); replace BK1092 := zM (blk_below (g := gb1092) (o := .cells #[.slice A0_0 l0_0.length c0_0, .slice A0_1 l0_1.length c0_1] 46 (0, 0)) (zK BK1092.out) hb); replace HB := zM (below_step zB hb); (try clear hb); (try clear hb2); (try clear hk); (try clear hi); (try clear ho0); have hcz10_0 := zy BK1092 0; have hcz10_1 := zy BK1092 1; have hfz10_0 := blk_frozen BK1092.out 0; have hfz10_1 := blk_frozen BK1092.out 1))
   go_loopg [4, 15] k (fun kq v4 v15 w' => ∃ (x4_1 : Int) (x15_1 : Int), v4 = .int .i64 x4_1 ∧ v15 = .int .i64 x15_1 ∧ Aside0 (impl_DiameterOf.l0 kq x4_1 t1094 (l0_0.length : Int) x15_1 = some (r1, r2)) ∧ Aside0 (kq ≤ k) ∧ Aside0 (Kd.S (Kd.slice 3 (Kd.int .i64)) 25 w' w.heap.size (fun _ => True) v1095 t1094) ∧ Aside0 (w'.heap[gb1092]? = some (.cells #[(.slice A0_0 l0_0.length c0_0), (.slice A0_1 l0_1.length c0_1)] 46 (0, 0))) ∧ Aside0 (Below w.heap.size w w'))
   case atStart => exact ⟨(0), (0), (by first | rfl | (simp; done) | (simp [*]; done)), (by first | rfl | (simp; done) | (simp [*]; done)), H', ⟨Nat.le_refl _⟩, ⟨by (with_reducible repeat (first | apply Kd.S_alloc | apply Kd.S_drewN | apply Kd.S_drew)); exact HO1096.out⟩, ⟨zK BK1092.out⟩, ⟨zB⟩⟩
   case round =>
    clear H'
    try clear p2
    try clear c3
    try clear c5
    try clear c8
    try clear c9
    try clear hcz10_0
    try clear hcz10_1
    try clear hcz6_0
    try clear hcz6_1
    try clear hcz8_0
    try clear hcz8_1
    try clear hfz10_0
    try clear hfz10_1
    try clear hfz6_0
    try clear hfz6_1
    try clear hfz8_0
    try clear hfz8_1
    obtain ⟨x4_1, x15_1, rfl, rfl, HA, HK1, HO_5, BK1092, HB⟩ := hrel
    cases gk with
    | zero => exact absurd HA.out (by simp [impl_DiameterOf.l0])
    | succ k1 =>
     have H := HA.out
     clear HA
     simp only [impl_DiameterOf.l0] at H
     by_cases c11 : x15_1 < (l0_0.length : Int)
     · rw [if_pos c11] at H
       have c11b0 := decide_eq_true c11
       clear c11
       replace H := Option.bind_eq_some_iff.mp H
       obtain ⟨t1097, A120, H⟩ := H
       replace H : ((slices_Max_int_int.f t1097).bind fun t1100 => (impl_DiameterOf.l0 k1 (mx x4_1 t1100) t1094 (l0_0.length : Int) (wrap64 (x15_1 + 1)))) = some (r1, r2) := H
       have A12 := Aside0.mk A120
       clear A120
       replace H := Option.bind_eq_some_iff.mp H
       obtain ⟨t1100, A130, H⟩ := H
       replace H : (impl_DiameterOf.l0 k1 (mx x4_1 t1100) t1094 (l0_0.length : Int) (wrap64 (x15_1 + 1))) = some (r1, r2) := H
       have A13 := Aside0.mk A130
       clear A130
       obtain ⟨ji14, hji14⟩ : ∃ j_ : Int, (mx x4_1 t1100) = j_ := ⟨_, rfl⟩
       replace H : (impl_DiameterOf.l0 k1 ji14 t1094 (l0_0.length : Int) (wrap64 (x15_1 + 1))) = some (r1, r2) := by first | (rw [hji14] at H; exact H) | (simp only [hji14] at H ⊢; exact H)
       (try rw [hji14] at A12)
       (try rw [hji14] at A13)
       have hji14_ : (if x4_1 < t1100 then t1100 else x4_1) = ji14 := hji14
       have H' := Aside0.mk H
       clear H
       obtain ⟨Ao15, co15, eo15⟩ := Kd.S_slice HO_5.out
       subst eo15
       go_wp2_with (first | ((with_reducible refine gate_callee (f := 77) rfl ?_); refine zc 21 Try.func77 #[.slice Ao15 t1094.length co15, .int .i64 x15_1] ?_; (with_reducible refine (impl_spread.calls k1 _ _ t1094 x15_1 t1097 _ ?side1 ?side2 A12.out).mono ?_); (case side1 => exact zC (Kd.S_reads' HO_5.out).2.2); (case side2 => exact (Kd.S_reads' HO_5.out).2.1); rintro e w16 ⟨v1098, rfl, ho0, hb⟩; refine ⟨_, rfl, ?_⟩; replace HO_5 := zM (Kd.S_elder' (by (with_reducible repeat (first | apply Kd.S_alloc | apply Kd.S_drewN | apply Kd.S_drew)); exact HO_5.out) (Kd.R_base ho0) hb); have HO1099 := zM (Kd.R_lower ho0 (below_size zB)); replace BK1092 := zM (blk_below (g := gb1092) (o := .cells #[.slice A0_0 l0_0.length c0_0, .slice A0_1 l0_1.length c0_1] 46 (0, 0)) (zK BK1092.out) hb); replace HB := zM (below_step zB hb); (try clear hb); (try clear hb2); (try clear hk); (try clear hi); (try clear ho0); obtain ⟨Ao17, co17, eo17⟩ := Kd.R_slice HO1099.out; subst eo17) | ((with_reducible refine gate_callee (f := 103) rfl ?_); refine zc 22 Try.func103 #[.slice Ao17 t1097.length co17] ?_; (with_reducible refine (slices_Max_int_int.calls _ _ t1097 t1100 _ ?side1 ?side2 A13.out).mono ?_); (case side1 => exact zC (Kd.R_reads' HO1099.out).2.2); (case side2 => exact (Kd.R_reads' HO1099.out).2.1); rintro e w18 ⟨rfl, hb⟩; refine ⟨_, rfl, ?_⟩; replace HO_5 := zM (Kd.S_below (by (with_reducible repeat (first | apply Kd.S_alloc | apply Kd.S_drewN | apply Kd.S_drew)); exact HO_5.out) hb); replace HO1099 := zM (Kd.R_below (zR HO1099.out) hb); replace BK1092 := zM (blk_below (g := gb1092) (o := .cells #[.slice A0_0 l0_0.length c0_0, .slice A0_1 l0_1.length c0_1] 46 (0, 0)) (zK BK1092.out) hb); replace HB := zM (below_step zB hb); (try clear hb); (try clear hb2); (try clear hk); (try clear hi)))
       go_roundg k1
       case measure => have := HK1.out; omega
       case rel => exact ⟨(ji14), (wrap64 (x15_1 + 1)), (by first | rfl | (simp; done) | (simp only [← hji14] <;> (first | rfl | simp)) | (simp [*]; done)), (by first | rfl | (simp; done) | (simp [*]; done)), H', ⟨by have := HK1.out; omega⟩, ⟨by (with_reducible repeat (first | apply Kd.S_alloc | apply Kd.S_drewN | apply Kd.S_drew)); exact Kd.S_mono HO_5.out (fun _ hk => trivial)⟩, ⟨zK BK1092.out⟩, ⟨zB⟩⟩
     · rw [if_neg c11] at H
       have c11b0 : decide (x15_1 < (l0_0.length : Int)) = false := decide_eq_false c11
       clear c11
       simp only [Option.some.injEq, Prod.mk.injEq] at H
       obtain ⟨rfl, rfl⟩ := H
       go_wp2
       go_ret2
       exact ⟨by first | rfl | (simp [errW_none, errW_some] <;> rfl) | (simp [*, errW_none, errW_some] <;> rfl), zB⟩
 · replace c3 := Bool.eq_false_iff.mpr c3
   subst c3
   have H1 : (some (0, false)) = some (r1, r2) := by rw [if_neg (show ¬ (false = true) by decide)] at H; exact H
   clear H
   have H := H1
   clear H1
   simp only [Option.some.injEq, Prod.mk.injEq] at H
   obtain ⟨rfl, rfl⟩ := H
   go_enter Try.func52, Try.ntmps52
   go_wp2_with (first | ((with_reducible refine gate_dst (N := 1) rfl ?_); refine zb (w := w) 1 #[.slice A0_0 l0_0.length c0_0, .slice A0_1 l0_1.length c0_1] 46 zB ?_; clear HB; intro gb1092 w19 HB BK1092 GW1092; have GE1092 := GW1092; have hcz20_0 := zy BK1092 0; have hcz20_1 := zy BK1092 1; have hfz20_0 := blk_frozen BK1092.out 0; have hfz20_1 := blk_frozen BK1092.out 1) | ((with_reducible refine gate_callee (f := 83) rfl ?_); refine zc 8 Try.func83 #[.agg #[.slice A0_0 l0_0.length c0_0, .slice A0_1 l0_1.length c0_1]] ?_; (with_reducible refine (impl_IsSpace.calls k _ _ l0_0 _ _ l0_1 false _ ?side1 ?side2 ?side3 ?side4 A2.out).mono ?_); (case side1 => exact zC (Kd.C_below HR0_0.out HB.out)); (case side2 => exact HC0_0.out); (case side3 => exact zC (Kd.C_below HR0_1.out HB.out)); (case side4 => exact HC0_1.out); rintro e w21 ⟨rfl, hb⟩; refine ⟨_, rfl, ?_⟩; replace BK1092 := zM (blk_below (g := gb1092) (o := .cells #[.slice A0_0 l0_0.length c0_0, .slice A0_1 l0_1.length c0_1] 46 (0, 0)) (zK BK1092.out) hb); replace HB := zM (below_step zB hb); (try clear hb); (try clear hb2); (try clear hk); (try clear hi)))
   go_ret2
   exact ⟨by first | rfl | (simp [errW_none, errW_some] <;> rfl) | (simp [*, errW_none, errW_some] <;> rfl), zB⟩

end Go.Proofs.Ytnlmijnbfdhdkaa.P
namespace Go.Proofs.Ytnlmijnbfdhdkaa.P
open Go.RowKit Go.Proofs.YtnlmijnbfdhdkaaW.PrintWords Go.Proofs.YtnlmijnbfdhdkaaW.PrintLast Go.Proofs.YtnlmijnbfdhdkaaW.PrintMore
set_option linter.unusedVariables false
section
variable {α : Type} {d : Kd α} {e base : Nat} {ok S : Nat → Prop} {w W W1 : World} {v : Value} {xs : List α} {g : Nat} {o : Obj}
theorem uR (hB : Below w.heap.size w W) (h : d.R e W1 W.heap.size (fun _ => True) v xs) : Aside0 (d.R e W1 w.heap.size (fun k => W.heap.size ≤ k ∧ k < W1.heap.size) v xs) :=
  ⟨Kd.R_mono (Kd.R_lower (Kd.R_bound h) (below_size hB)) (fun k hk => ⟨hk.2.1, hk.2.2.1⟩)⟩
theorem uS (hB : Below w.heap.size w W) (h : Kd.S d e W1 W.heap.size (fun _ => True) v xs) : Aside0 (Kd.S d e W1 w.heap.size (fun k => W.heap.size ≤ k ∧ k < W1.heap.size) v xs) :=
  ⟨Kd.S_mono (Kd.S_lower (Kd.S_bound h) (below_size hB)) (fun k hk => ⟨hk.2.1, hk.2.2.1⟩)⟩
theorem uRb (h : Aside0 (d.R e W base ok v xs)) (hb : Below W.heap.size W W1) : Aside0 (d.R e W1 base ok v xs) := ⟨Kd.R_below h.out hb⟩
theorem uSb (h : Aside0 (Kd.S d e W base ok v xs)) (hb : Below W.heap.size W W1) : Aside0 (Kd.S d e W1 base ok v xs) := ⟨Kd.S_below h.out hb⟩
theorem uKb (h : Aside0 (W.heap[g]? = some o)) (hb : Below W.heap.size W W1) : Aside0 (W1.heap[g]? = some o) := ⟨blk_below h.out hb⟩
theorem uRk (h : Aside0 (d.R e W base ok v xs)) (hk : Kept W W1 S) (hne : ∀ k, ok k → ¬ S k) : Aside0 (d.R e W1 base ok v xs) := ⟨Kd.R_kept h.out hk hne⟩
theorem uSk (h : Aside0 (Kd.S d e W base ok v xs)) (hk : Kept W W1 S) (hne : ∀ k, ok k → ¬ S k) : Aside0 (Kd.S d e W1 base ok v xs) := ⟨Kd.S_kept h.out hk hne⟩
theorem uKk (h : Aside0 (W.heap[g]? = some o)) (hk : Kept W W1 S) (hne : ¬ S g) : Aside0 (W1.heap[g]? = some o) := ⟨blk_kept h.out hk hne⟩
/-- A struct of two cells is stored into the call's own block. -/
theorem uBox {P : Program} {f : FuncId} {args : Array Value} {Q : Ending → World → Prop} {t : TypeId} {x y a b : Value} (hb : Aside0 (W.heap[g]? = some (.cells #[x, y] t (0, 0)))) (hB : Aside0 (Below w.heap.size w W)) (hg : w.heap.size ≤ g)
    (h : ∀ W', Aside0 (W'.heap[g]? = some (.cells #[a, b] t (0, 0))) → Kept W W' (fun k => k = g) → Aside0 (Below w.heap.size w W') → Calls P f args W' Q) : Calls P f args ((W.setCell ⟨g, 0, none⟩ a).setCell ⟨g, 1, none⟩ b) Q :=
  h _ ⟨blk_put (cs := #[a, y]) (blk_put (cs := #[x, y]) hb.out 0 a rfl) 1 b rfl⟩ (Kept.setCell (Kept.setCell (Kept.refl W (fun k => k = g)) (p := ⟨g, 0, none⟩) (.inl rfl) a) (p := ⟨g, 1, none⟩) (.inl rfl) b) ⟨below_set (below_set hB.out hg) hg⟩
end
end Go.Proofs.Ytnlmijnbfdhdkaa.P
