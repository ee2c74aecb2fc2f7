-- Written by a program of this session (the kit's print, turned: wip/print/patch.py) out of the translation. Not trusted: Lean checks it.
import Derived.Test.YtcjfmohmjhjpoaaDoorParseIntG2
import Derived.Lib.IndexMore
import Derived.Lib.IndexBytes
import Derived.Laws.Strings
import Derived.Lib.AtoiAllCases
import Derived.Lib.AtoiErrMem
import Derived.Stop.LaidErr
import Derived.Deep.DeepWitnessRowRef
namespace Go.Proofs.YtcjfmohmjhjpoaaDoor.P
open Go.RowKit Go.Proofs.YtcjfmohmjhjpoaaDoorW.PrintWords Go.Proofs.YtcjfmohmjhjpoaaDoorW.PrintLast Go.Proofs.YtcjfmohmjhjpoaaDoorW.PrintMore
attribute [local go_sem] max2_int min2_int max_two min_two max_three min_three max_four min_four   -- for this text's walks alone
set_option linter.unusedVariables false
set_option linter.unusedSimpArgs false

/-! ### spec_l1Read: function 53 -/
mutual
def spec_l1Read.j0 : Nat → ByteArray → ByteArray → Bool → Option (Int × Bool)
 | 0, _, _, _ => none
 | k + 1, x0, x4, x15 => if x15 = true then (if 1 ≤ (x4.size : Int) then (spec_l1Read.j1 k x0 (x4.extract 1 x4.size)) else (none)) else (spec_l1Read.j1 k x0 x4)
def spec_l1Read.j1 : Nat → ByteArray → ByteArray → Option (Int × Bool)
 | 0, _, _ => none
 | k + 1, x0, x4 => (spec_l1In.f (x4.size : Int) 1 6).bind fun t173 => (if t173 = true then (spec_l1Read.l0 k x0 x4 0 0) else (some (0, false)))
def spec_l1Read.l0 : Nat → ByteArray → ByteArray → Int → Int → Option (Int × Bool)
 | 0, _, _, _, _ => none
 | k + 1, x0, x4, x5, x6 => if x6 < (x4.size : Int) then (if 0 ≤ x6 then (if (bt x4 x6) < 48 then (some (0, false)) else (if (bt x4 x6) > 57 then (some (0, false)) else (spec_l1Read.l0 k x0 x4 (wrap64 ((wrap64 (10 * x5)) + (((bt x4 x6) - 48) % 256))) (wrap64 (x6 + 1))))) else (none)) else (if (x4.size : Int) < (x0.size : Int) then ((spec_l1Num.f k (wrap64 (-x5))).bind fun t174 => (if t174.toList = x0.toList then (some (wrap64 (-x5), true)) else (some (0, false)))) else ((spec_l1Num.f k x5).bind fun t175 => (if t175.toList = x0.toList then (some (x5, true)) else (some (0, false)))))
end
def spec_l1Read.f (k : Nat) (a0 : ByteArray) : Option (Int × Bool) := if (a0.size : Int) > 1 then (if 0 < (a0.size : Int) then (spec_l1Read.j0 k a0 a0 ((bt a0 0) == 45)) else (none)) else (spec_l1Read.j0 k a0 a0 false)
set_option maxHeartbeats 8000000 in
set_option maxRecDepth 100000 in
theorem spec_l1Read.calls (k : Nat) (a0 : ByteArray) (r1 : Int) (r2 : Bool) (w : World) (h : spec_l1Read.f k a0 = some (r1, r2)) :
 Calls Tryd.prog 53 #[.string a0] w fun e w' => e = .returned (.tuple #[.int .i64 r1, .bool r2]) ∧ Below w.heap.size w w' := by
 have HB := zM (Below.refl w.heap.size w)
 have H : (if (a0.size : Int) > 1 then (if 0 < (a0.size : Int) then (spec_l1Read.j0 k a0 a0 ((bt a0 0) == 45)) else (none)) else (spec_l1Read.j0 k a0 a0 false)) = some (r1, r2) := h
 clear h
 have HC2 := Aside0.mk H
 clear H
 go_enter Tryd.func53, Tryd.ntmps53
 go_upto_region 2 with (fail)
 go_cut [15] (fun v15 wc => ∃ (kq : Nat) (x15_1 : Bool), v15 = .bool x15_1 ∧ Aside0 (spec_l1Read.j0 kq a0 a0 x15_1 = some (r1, r2)) ∧ Aside0 (kq ≤ k) ∧ Aside0 (Below w.heap.size w wc))
 case first =>
  have H := HC2.out
  clear HC2
  by_cases c3 : (a0.size : Int) > 1
  · rw [if_pos c3] at H
    have c3b0 : decide (1 < (a0.size : Int)) = true := decide_eq_true c3
    have c3b1 : decide (1 < a0.size) = true := decide_eq_true (by omega)
    clear c3
    (first | rw [c3b0] | (simp only [i64_w, i32_w]; rw [c3b0]) | skip)
    by_cases c4 : 0 < (a0.size : Int)
    · rw [if_pos c4] at H
      have c4b0 := decide_eq_true c4
      have c4b1 : decide (0 < a0.size) = true := decide_eq_true (by omega)
      clear c4
      have H' := Aside0.mk H
      clear H
      have p5 : 0 ≤ (0 : Int) := (by omega)
      have q5 : 0 < a0.size := (by have : (0 : Int) < (a0.size : Int) := of_decide_eq_true zA; omega)
      have hx5 : ∀ h : 0 < a0.size, ((a0[0]'h).toNat : Int) = bt a0 0 := bt_at a0 0
      clear p5
      have qi5 : (0 < (a0.size : Int)) = True := eq_true (of_decide_eq_true zA)
      replace q5 := eq_true q5
      go_wp2
      go_meet
      case rel => exact ⟨_, (((bt a0 0) == 45)), (by first | rfl | (simp; done) | (simp [*]; done)), H', ⟨by first | omega | exact Nat.le_refl _⟩, ⟨zB⟩⟩
    · rw [if_neg c4] at H
      exact absurd H (by simp)
  · rw [if_neg c3] at H
    have c3b0 : decide (1 < (a0.size : Int)) = false := decide_eq_false c3
    have c3b1 : decide (1 < a0.size) = false := decide_eq_false (by omega)
    clear c3
    (first | rw [c3b0] | (simp only [i64_w, i32_w]; rw [c3b0]) | skip)
    have H' := Aside0.mk H
    clear H
    go_wp2
    go_meet
    case rel => exact ⟨_, (false), (by first | rfl | (simp; done) | (simp [*]; done)), H', ⟨by first | omega | exact Nat.le_refl _⟩, ⟨zB⟩⟩
 case rest =>
  clear HC2
  try clear p2
  try clear c3
  try clear c3b0
  try clear c3b1
  try clear c4
  try clear c4b0
  try clear c4b1
  try clear c5
  try clear p5
  try clear q5
  try clear hx5
  try clear qi5
  try clear p5
  try clear q5
  obtain ⟨kq, x15_1, rfl, HA, HJ1, HB⟩ := hcut
  cases kq with
  | zero => exact absurd HA.out (by simp [spec_l1Read.j0])
  | succ kj1 =>
   have H := HA.out
   clear HA
   simp only [spec_l1Read.j0] at H
   have HC6 := Aside0.mk H
   clear H
   go_upto_if 15 with (fail)
   go_cut [4] (fun v4 wc => ∃ (kq : Nat) (x4_5 : ByteArray), v4 = .string x4_5 ∧ Aside0 (spec_l1Read.j1 kq a0 x4_5 = some (r1, r2)) ∧ Aside0 (kq ≤ kj1) ∧ Aside0 (Below w.heap.size w wc))
   case first =>
    have H := HC6.out
    clear HC6
    by_cases c7 : x15_1 = true
    · subst c7
      have H1 : (if 1 ≤ (a0.size : Int) then (spec_l1Read.j1 kj1 a0 (a0.extract 1 a0.size)) else (none)) = some (r1, r2) := by rw [if_pos rfl] at H; exact H
      clear H
      have H := H1
      clear H1
      by_cases c8 : 1 ≤ (a0.size : Int)
      · rw [if_pos c8] at H
        have c8b0 := eq_true c8
        have c8b1 : decide (1 ≤ (a0.size : Int)) = true := decide_eq_true c8
        clear c8
        have H' := Aside0.mk H
        clear H
        go_wp2
        go_meet
        case rel => exact ⟨_, (a0.extract 1 a0.size), (by first | rfl | (simp; done) | (simp [*]; done)), H', ⟨by have := HJ1.out; first | omega | exact Nat.le_refl _⟩, ⟨zB⟩⟩
      · rw [if_neg c8] at H
        exact absurd H (by simp)
    · replace c7 := Bool.eq_false_iff.mpr c7
      subst c7
      have H1 : (spec_l1Read.j1 kj1 a0 a0) = some (r1, r2) := by rw [if_neg (show ¬ (false = true) by decide)] at H; exact H
      clear H
      have H := H1
      clear H1
      have H' := Aside0.mk H
      clear H
      go_wp2
      go_meet
      case rel => exact ⟨_, (a0), (by first | rfl | (simp; done) | (simp [*]; done)), H', ⟨by have := HJ1.out; first | omega | exact Nat.le_refl _⟩, ⟨zB⟩⟩
   case rest =>
    clear HC6
    try clear p2
    try clear c3
    try clear c3b0
    try clear c3b1
    try clear c4
    try clear c4b0
    try clear c4b1
    try clear c5
    try clear p5
    try clear q5
    try clear hx5
    try clear qi5
    try clear c7
    try clear c8
    try clear c8b0
    try clear c8b1
    try clear p2
    try clear p5
    try clear q5
    obtain ⟨kq, x4_5, rfl, HA, HJ5, HB⟩ := hcut
    cases kq with
    | zero => exact absurd HA.out (by simp [spec_l1Read.j1])
    | succ kj5 =>
     have H := HA.out
     clear HA
     simp only [spec_l1Read.j1] at H
     replace H := Option.bind_eq_some_iff.mp H
     obtain ⟨t173, A90, H⟩ := H
     replace H : (if t173 = true then (spec_l1Read.l0 kj5 a0 x4_5 0 0) else (some (0, false))) = some (r1, r2) := H
     have A9 := Aside0.mk A90
     clear A90
     by_cases c10 : t173 = true
     · subst c10
       have H1 : (spec_l1Read.l0 kj5 a0 x4_5 0 0) = some (r1, r2) := by rw [if_pos rfl] at H; exact H
       clear H
       have H := H1
       clear H1
       have H' := Aside0.mk H
       clear H
       go_wp2_with (first | ((with_reducible refine gate_callee (f := 35) rfl ?_); refine zc 20 Tryd.func35 #[.int .i64 (x4_5.size : Int), .int .i64 1, .int .i64 6] ?_; (with_reducible refine (spec_l1In.calls (x4_5.size : Int) 1 6 true _ A9.out).mono ?_); rintro e w' ⟨rfl, ⟨nd, rfl⟩⟩; refine ⟨_, rfl, ?_⟩))
       go_loopg [5, 6] kj5 (fun kq v5 v6 w' => ∃ (x5_3 : Int) (x6_3 : Int), v5 = .int .i64 x5_3 ∧ v6 = .int .i64 x6_3 ∧ Aside0 (spec_l1Read.l0 kq a0 x4_5 x5_3 x6_3 = some (r1, r2)) ∧ Aside0 (kq ≤ kj5) ∧ Aside0 (Below w.heap.size w w'))
       case atStart => exact ⟨(0), (0), (by first | rfl | (simp; done) | (simp [*]; done)), (by first | rfl | (simp; done) | (simp [*]; done)), H', ⟨Nat.le_refl _⟩, ⟨zB⟩⟩
       case round =>
        clear H'
        try clear c1
        try clear p2
        try clear c3
        try clear c3b0
        try clear c3b1
        try clear c4
        try clear c4b0
        try clear c4b1
        try clear c5
        try clear p5
        try clear q5
        try clear hx5
        try clear qi5
        try clear c7
        try clear c8
        try clear c8b0
        try clear c8b1
        try clear c10
        try clear p2
        try clear p5
        try clear q5
        obtain ⟨x5_3, x6_3, rfl, rfl, HA, HK3, HB⟩ := hrel
        cases gk with
        | zero => exact absurd HA.out (by simp [spec_l1Read.l0])
        | succ k3 =>
         have H := HA.out
         clear HA
         simp only [spec_l1Read.l0] at H
         by_cases c11 : x6_3 < (x4_5.size : Int)
         · rw [if_pos c11] at H
           have c11b0 := decide_eq_true c11
           clear c11
           by_cases c12 : 0 ≤ x6_3
           · rw [if_pos c12] at H
             have c12b0 := decide_eq_true c12
             clear c12
             by_cases c14 : (bt x4_5 x6_3) < 48
             · rw [if_pos c14] at H
               have c14b0 := decide_eq_true c14
               clear c14
               simp only [Option.some.injEq, Prod.mk.injEq] at H
               obtain ⟨rfl, rfl⟩ := H
               have p13 : 0 ≤ (x6_3 : Int) := of_decide_eq_true zA
               have q13 : x6_3 < (x4_5.size : Int) := of_decide_eq_true zA
               have hx13 := bt_at x4_5 x6_3
               replace p13 := eq_true p13
               replace q13 := eq_true q13
               go_wp2
               go_ret2
               exact ⟨by first | rfl | (simp [errW_none, errW_some] <;> rfl) | (simp [*, errW_none, errW_some] <;> rfl), zB⟩
             · rw [if_neg c14] at H
               have c14b0 : decide ((bt x4_5 x6_3) < 48) = false := decide_eq_false c14
               clear c14
               by_cases c16 : (bt x4_5 x6_3) > 57
               · rw [if_pos c16] at H
                 have c16b0 : decide (57 < (bt x4_5 x6_3)) = true := decide_eq_true c16
                 clear c16
                 simp only [Option.some.injEq, Prod.mk.injEq] at H
                 obtain ⟨rfl, rfl⟩ := H
                 have p13 : 0 ≤ (x6_3 : Int) := of_decide_eq_true zA
                 have q13 : x6_3 < (x4_5.size : Int) := of_decide_eq_true zA
                 have hx13 := bt_at x4_5 x6_3
                 replace p13 := eq_true p13
                 replace q13 := eq_true q13
                 have p15 : 0 ≤ (x6_3 : Int) := of_decide_eq_true zA
                 have q15 : x6_3 < (x4_5.size : Int) := of_decide_eq_true zA
                 have hx15 := bt_at x4_5 x6_3
                 replace p15 := eq_true p15
                 replace q15 := eq_true q15
                 go_wp2
                 go_ret2
                 exact ⟨by first | rfl | (simp [errW_none, errW_some] <;> rfl) | (simp [*, errW_none, errW_some] <;> rfl), zB⟩
               · rw [if_neg c16] at H
                 have c16b0 : decide (57 < (bt x4_5 x6_3)) = false := decide_eq_false c16
                 clear c16
                 have H' := Aside0.mk H
                 clear H
                 have p13 : 0 ≤ (x6_3 : Int) := of_decide_eq_true zA
                 have q13 : x6_3 < (x4_5.size : Int) := of_decide_eq_true zA
                 have hx13 := bt_at x4_5 x6_3
                 replace p13 := eq_true p13
                 replace q13 := eq_true q13
                 have p15 : 0 ≤ (x6_3 : Int) := of_decide_eq_true zA
                 have q15 : x6_3 < (x4_5.size : Int) := of_decide_eq_true zA
                 have hx15 := bt_at x4_5 x6_3
                 replace p15 := eq_true p15
                 replace q15 := eq_true q15
                 have p17 : 0 ≤ (x6_3 : Int) := of_decide_eq_true zA
                 have q17 : x6_3 < (x4_5.size : Int) := of_decide_eq_true zA
                 have hx17 := bt_at x4_5 x6_3
                 replace p17 := eq_true p17
                 replace q17 := eq_true q17
                 go_wp2
                 go_roundg k3
                 case measure => have := HJ1.out; have := HJ5.out; have := HK3.out; omega
                 case rel => exact ⟨(wrap64 ((wrap64 (10 * x5_3)) + (((bt x4_5 x6_3) - 48) % 256))), (wrap64 (x6_3 + 1)), (by first | rfl | (simp; done) | (simp [*]; done)), (by first | rfl | (simp; done) | (simp [*]; done)), H', ⟨by have := HJ1.out; have := HJ5.out; have := HK3.out; omega⟩, ⟨zB⟩⟩
           · rw [if_neg c12] at H
             exact absurd H (by simp)
         · rw [if_neg c11] at H
           have c11b0 : decide (x6_3 < (x4_5.size : Int)) = false := decide_eq_false c11
           clear c11
           by_cases c18 : (x4_5.size : Int) < (a0.size : Int)
           · rw [if_pos c18] at H
             have c18b0 := decide_eq_true c18
             have c18b1 : decide (x4_5.size < a0.size) = true := decide_eq_true (Int.ofNat_lt.mp c18)
             clear c18
             replace H := Option.bind_eq_some_iff.mp H
             obtain ⟨t174, A190, H⟩ := H
             replace H : (if t174.toList = a0.toList then (some (wrap64 (-x5_3), true)) else (some (0, false))) = some (r1, r2) := H
             have A19 := Aside0.mk A190
             clear A190
             by_cases c20 : t174.toList = a0.toList
             · rw [if_pos c20] at H
               have c20b0 : (t174.toList == a0.toList) = true := beq_iff_eq.mpr c20
               have c20b1 : (t174.toList != a0.toList) = false := bne_eq_false_iff_eq.mpr c20
               clear c20
               simp only [Option.some.injEq, Prod.mk.injEq] at H
               obtain ⟨rfl, rfl⟩ := H
               go_wp2_with (first | ((with_reducible refine gate_callee (f := 36) rfl ?_); refine zc 54 Tryd.func36 #[.int .i64 (wrap64 (-x5_3))] ?_; (with_reducible refine (spec_l1Num.calls k3 (wrap64 (-x5_3)) t174 _ A19.out).mono ?_); rintro e w21 ⟨rfl, hb⟩; refine ⟨_, rfl, ?_⟩; replace HB := zM (below_step zB hb); (try clear hb); (try clear hb2); (try clear hk); (try clear hi)))
               go_ret2
               exact ⟨by first | rfl | (simp [errW_none, errW_some] <;> rfl) | (simp [*, errW_none, errW_some] <;> rfl), zB⟩
             · rw [if_neg c20] at H
               have c20b0 : (t174.toList == a0.toList) = false := beq_eq_false_iff_ne.mpr c20
               have c20b1 : (t174.toList != a0.toList) = true := bne_iff_ne.mpr c20
               simp only [Option.some.injEq, Prod.mk.injEq] at H
               obtain ⟨rfl, rfl⟩ := H
               go_wp2_with (first | ((with_reducible refine gate_callee (f := 36) rfl ?_); refine zc 54 Tryd.func36 #[.int .i64 (wrap64 (-x5_3))] ?_; (with_reducible refine (spec_l1Num.calls k3 (wrap64 (-x5_3)) t174 _ A19.out).mono ?_); rintro e w22 ⟨rfl, hb⟩; refine ⟨_, rfl, ?_⟩; replace HB := zM (below_step zB hb); (try clear hb); (try clear hb2); (try clear hk); (try clear hi)))
               go_ret2
               exact ⟨by first | rfl | (simp [errW_none, errW_some] <;> rfl) | (simp [*, errW_none, errW_some] <;> rfl), zB⟩
           · rw [if_neg c18] at H
             have c18b0 : decide ((x4_5.size : Int) < (a0.size : Int)) = false := decide_eq_false c18
             have c18b1 : decide (x4_5.size < a0.size) = false := decide_eq_false (fun h => c18 (Int.ofNat_lt.mpr h))
             clear c18
             replace H := Option.bind_eq_some_iff.mp H
             obtain ⟨t175, A230, H⟩ := H
             replace H : (if t175.toList = a0.toList then (some (x5_3, true)) else (some (0, false))) = some (r1, r2) := H
             have A23 := Aside0.mk A230
             clear A230
             by_cases c24 : t175.toList = a0.toList
             · rw [if_pos c24] at H
               have c24b0 : (t175.toList == a0.toList) = true := beq_iff_eq.mpr c24
               have c24b1 : (t175.toList != a0.toList) = false := bne_eq_false_iff_eq.mpr c24
               clear c24
               simp only [Option.some.injEq, Prod.mk.injEq] at H
               obtain ⟨rfl, rfl⟩ := H
               go_wp2_with (first | ((with_reducible refine gate_callee (f := 36) rfl ?_); refine zc 54 Tryd.func36 #[.int .i64 x5_3] ?_; (with_reducible refine (spec_l1Num.calls k3 x5_3 t175 _ A23.out).mono ?_); rintro e w25 ⟨rfl, hb⟩; refine ⟨_, rfl, ?_⟩; replace HB := zM (below_step zB hb); (try clear hb); (try clear hb2); (try clear hk); (try clear hi)))
               go_ret2
               exact ⟨by first | rfl | (simp [errW_none, errW_some] <;> rfl) | (simp [*, errW_none, errW_some] <;> rfl), zB⟩
             · rw [if_neg c24] at H
               have c24b0 : (t175.toList == a0.toList) = false := beq_eq_false_iff_ne.mpr c24
               have c24b1 : (t175.toList != a0.toList) = true := bne_iff_ne.mpr c24
               simp only [Option.some.injEq, Prod.mk.injEq] at H
               obtain ⟨rfl, rfl⟩ := H
               go_wp2_with (first | ((with_reducible refine gate_callee (f := 36) rfl ?_); refine zc 54 Tryd.func36 #[.int .i64 x5_3] ?_; (with_reducible refine (spec_l1Num.calls k3 x5_3 t175 _ A23.out).mono ?_); rintro e w26 ⟨rfl, hb⟩; refine ⟨_, rfl, ?_⟩; replace HB := zM (below_step zB hb); (try clear hb); (try clear hb2); (try clear hk); (try clear hi)))
               go_ret2
               exact ⟨by first | rfl | (simp [errW_none, errW_some] <;> rfl) | (simp [*, errW_none, errW_some] <;> rfl), zB⟩
     · replace c10 := Bool.eq_false_iff.mpr c10
       subst c10
       have H1 : (some (0, false)) = some (r1, r2) := by rw [if_neg (show ¬ (false = true) by decide)] at H; exact H
       clear H
       have H := H1
       clear H1
       simp only [Option.some.injEq, Prod.mk.injEq] at H
       obtain ⟨rfl, rfl⟩ := H
       go_wp2_with (first | ((with_reducible refine gate_callee (f := 35) rfl ?_); refine zc 20 Tryd.func35 #[.int .i64 (x4_5.size : Int), .int .i64 1, .int .i64 6] ?_; (with_reducible refine (spec_l1In.calls (x4_5.size : Int) 1 6 false _ A9.out).mono ?_); rintro e w' ⟨rfl, ⟨nd, rfl⟩⟩; refine ⟨_, rfl, ?_⟩))
       go_ret2
       exact ⟨by first | rfl | (simp [errW_none, errW_some] <;> rfl) | (simp [*, errW_none, errW_some] <;> rfl), zB⟩

/-! ### spec_ParseInt: function 29 -/
def spec_ParseInt.f (k : Nat) (a0 : ByteArray) : Option (Int × Bool) := (spec_l1Read.f k a0).bind fun bt176 => (some (bt176.1, bt176.2))
set_option maxHeartbeats 8000000 in
set_option maxRecDepth 100000 in
theorem spec_ParseInt.calls (k : Nat) (a0 : ByteArray) (r1 : Int) (r2 : Bool) (w : World) (h : spec_ParseInt.f k a0 = some (r1, r2)) :
 Calls Tryd.prog 29 #[.string a0] w fun e w' => e = .returned (.tuple #[.int .i64 r1, .bool r2]) ∧ Below w.heap.size w w' := by
 have HB := zM (Below.refl w.heap.size w)
 have H : ((spec_l1Read.f k a0).bind fun bt176 => (some (bt176.1, bt176.2))) = some (r1, r2) := h
 clear h
 replace H := Option.bind_eq_some_iff.mp H
 obtain ⟨⟨t176, t177⟩, A20, H⟩ := H
 replace H : (some (t176, t177)) = some (r1, r2) := H
 have A2 := Aside0.mk A20
 clear A20
 simp only [Option.some.injEq, Prod.mk.injEq] at H
 obtain ⟨rfl, rfl⟩ := H
 go_enter Tryd.func29, Tryd.ntmps29
 go_wp2_with (first | ((with_reducible refine gate_callee (f := 53) rfl ?_); refine zc 5 Tryd.func53 #[.string a0] ?_; (with_reducible refine (spec_l1Read.calls k a0 t176 t177 _ A2.out).mono ?_); rintro e w3 ⟨rfl, hb⟩; refine ⟨_, rfl, ?_⟩; replace HB := zM (below_step zB hb); (try clear hb); (try clear hb2); (try clear hk); (try clear hi)))
 go_ret2
 exact ⟨by first | rfl | (simp [errW_none, errW_some] <;> rfl) | (simp [*, errW_none, errW_some] <;> rfl), zB⟩

end Go.Proofs.YtcjfmohmjhjpoaaDoor.P
namespace Go.Proofs.YtcjfmohmjhjpoaaDoor.P
open Go.RowKit Go.Proofs.YtcjfmohmjhjpoaaDoorW.PrintWords Go.Proofs.YtcjfmohmjhjpoaaDoorW.PrintLast Go.Proofs.YtcjfmohmjhjpoaaDoorW.PrintMore
theorem bt_nat (s : ByteArray) (m : Nat) (h : m < s.data.toList.length) : bt s (m : Int) = ((s.data.toList[m]).toNat : Int) := by
  have h2 : m < s.size := by rw [Array.length_toList] at h; exact h
  unfold bt
  rw [dif_pos (by rw [Int.toNat_natCast]; exact h2)]
  simp [ByteArray.getElem_eq_getElem_data]
theorem size_len (s : ByteArray) : s.size = s.data.toList.length := (Array.length_toList).symm
/-- The checksum from place i on, of n bytes. -/
def sumF (s : ByteArray) : Nat → Int → Int → Int
  | 0, h, _ => h
  | n + 1, h, i => sumF s n (Int.tmod (wrap64 ((wrap64 ((wrap64 (41 * h)) + (wrap64 (bt s i)))) + 1)) 999979) (i + 1)
def sumI (s : ByteArray) : Int := sumF s s.size 7 0
/-- A text, the sign # and the numeral of its checksum. -/
def sealB (s : ByteArray) : ByteArray := (s ++ (⟨#[35]⟩ : ByteArray)) ++ str (Lib.itoa (sumI s))
/-- What AppendChecksum answers. -/
def appR (s : ByteArray) : ByteArray × Bool := if s.size ≤ 4000 ∧ ¬ (35 : UInt8) ∈ s.data.toList ∧ (sealB s).size ≤ 4000 then (sealB s, true) else (⟨#[]⟩, false)
end Go.Proofs.YtcjfmohmjhjpoaaDoor.P
namespace Go.Proofs.YtcjfmohmjhjpoaaDoor.P
open Go.RowKit Go.Proofs.YtcjfmohmjhjpoaaDoorW.PrintWords Go.Proofs.YtcjfmohmjhjpoaaDoorW.PrintLast Go.Proofs.YtcjfmohmjhjpoaaDoorW.PrintMore
theorem str_eq_iff (a b : ByteArray) : a.toList = b.toList ↔ a = b := by
  rw [ByteArray.toList_eq, ByteArray.toList_eq]
  constructor
  · intro h
    rw [← str_data a, ← str_data b, h]
  · intro h; rw [h]
theorem extract_str (s : ByteArray) (a b : Nat) : s.extract a b = str ((s.data.toList.take b).drop a) := by
  apply ByteArray.ext
  apply Array.ext'
  rw [ByteArray.data_extract, Array.toList_extract, List.extract_eq_take_drop, List.drop_take]
  rfl
end Go.Proofs.YtcjfmohmjhjpoaaDoor.P
namespace Go.Proofs.YtcjfmohmjhjpoaaDoor.P
open Go.RowKit Go.Proofs.YtcjfmohmjhjpoaaDoorW.PrintWords Go.Proofs.YtcjfmohmjhjpoaaDoorW.PrintLast Go.Proofs.YtcjfmohmjhjpoaaDoorW.PrintMore
def isDig (c : UInt8) : Bool := decide (48 ≤ c.toNat ∧ c.toNat ≤ 57)
def valD (a : Nat) (l : List UInt8) : Nat := l.foldl (fun a c => a * 10 + (c.toNat - 48)) a
theorem valD_nil (a : Nat) : valD a [] = a := rfl
theorem valD_cons (a : Nat) (c : UInt8) (r : List UInt8) : valD a (c :: r) = valD (a * 10 + (c.toNat - 48)) r := by
  unfold valD
  rw [List.foldl_cons]
theorem dec_small (n : Nat) (h : n < 10) : Lib.decDigits n = [UInt8.ofNat (48 + n)] := by
  rw [Lib.decDigits]
  exact dif_pos h
theorem dec_big (n : Nat) (h : ¬ n < 10) : Lib.decDigits n = Lib.decDigits (n / 10) ++ [UInt8.ofNat (48 + n % 10)] := by
  have e := Lib.decDigits.eq_def n
  rw [dif_neg h] at e
  exact e
theorem valD_append (l m : List UInt8) : ∀ a, valD a (l ++ m) = valD (valD a l) m := by
  intro a
  exact List.foldl_append
theorem dig_byte (d : Nat) (h : d < 10) : (UInt8.ofNat (48 + d)).toNat = 48 + d := by
  rw [UInt8.toNat_ofNat']; omega
theorem dec_val (n : Nat) : valD 0 (Lib.decDigits n) = n := by
  induction n using Nat.strongRecOn with
  | _ n ih =>
    by_cases h : n < 10
    · rw [dec_small n h, valD_cons, valD_nil, dig_byte n h]; omega
    · rw [dec_big n h, valD_append, ih (n / 10) (by omega), valD_cons, valD_nil, dig_byte (n % 10) (Nat.mod_lt _ (by decide))]; omega
theorem dec_dig (n : Nat) : (Lib.decDigits n).all isDig = true := by
  induction n using Nat.strongRecOn with
  | _ n ih =>
    by_cases h : n < 10
    · rw [dec_small n h, List.all_cons, List.all_nil, Bool.and_true, isDig, dig_byte n h]; exact decide_eq_true (by omega)
    · rw [dec_big n h, List.all_append, ih (n / 10) (by omega), List.all_cons, List.all_nil, Bool.and_true, Bool.true_and, isDig, dig_byte (n % 10) (Nat.mod_lt _ (by decide))]; exact decide_eq_true (by omega)
theorem dec_len (k n : Nat) (h : n < 10 ^ (k + 1)) : (Lib.decDigits n).length ≤ k + 1 := by
  induction k generalizing n with
  | zero => rw [dec_small n (by simpa using h)]; exact Nat.le_refl _
  | succ k ih =>
    by_cases h2 : n < 10
    · rw [dec_small n h2]; simp
    · rw [dec_big n h2, List.length_append, List.length_singleton]
      have := ih (n / 10) (by rw [Nat.pow_succ] at h; omega)
      omega
theorem dec_pos (n : Nat) : 1 ≤ (Lib.decDigits n).length := by
  by_cases h : n < 10
  · rw [dec_small n h]; exact Nat.le_refl _
  · rw [dec_big n h, List.length_append, List.length_singleton]; omega
theorem valD_ge (l : List UInt8) : ∀ a, a ≤ valD a l := by
  induction l with
  | nil => intro a; exact Nat.le_refl _
  | cons c r ih => intro a; exact Nat.le_trans (by omega) (ih (a * 10 + (c.toNat - 48)))
theorem parse_ok (l : List UInt8) : ∀ a, l.all isDig = true → valD a l < 1844674407370955162 → Lib.parseUint10 a l = .ok (valD a l) := by
  induction l with
  | nil => intro a _ _; rfl
  | cons c r ih =>
    intro a hd hv
    rw [List.all_cons, Bool.and_eq_true] at hd
    have hc : 48 ≤ c.toNat ∧ c.toNat ≤ 57 := of_decide_eq_true hd.1
    rw [valD_cons] at hv ⊢
    have hg := valD_ge r (a * 10 + (c.toNat - 48))
    rw [Lib.parseUint10, if_pos hc, if_neg (by omega), if_neg (by omega)]
    exact ih _ hd.2 hv
theorem mag_dec (n : Nat) (h : n < 1844674407370955162) : Lib.parseMag (Lib.decDigits n) = .ok n := by
  have hp := dec_pos n
  rw [Lib.parseMag, if_neg (fun e => by rw [e] at hp; exact absurd hp (by decide)), parse_ok _ 0 (dec_dig n) (by rw [dec_val]; exact h), dec_val]
theorem atoi_itoa (n : Int) (h : -999999 ≤ n ∧ n ≤ 999999) : Lib.atoiAll (Lib.itoa n) = .ok n := by
  rw [Lib.itoa]
  by_cases h0 : n < 0
  · rw [if_pos h0, Lib.atoiAll_minus, mag_dec _ (by omega), Lib.signed, if_neg (by omega)]
    congr 1
    omega
  · rw [if_neg h0]
    have hm := mag_dec n.toNat (by omega)
    have hd := dec_dig n.toNat
    have hp := dec_pos n.toNat
    cases hz : Lib.decDigits n.toNat with
    | nil => rw [hz] at hp; exact absurd hp (by decide)
    | cons c r =>
      rw [hz] at hm hd
      rw [List.all_cons, Bool.and_eq_true] at hd
      have hc : 48 ≤ c.toNat ∧ c.toNat ≤ 57 := of_decide_eq_true hd.1
      rw [Lib.atoiAll_plain c r (by omega) (by omega), hm, Lib.signless, if_neg (by omega)]
      congr 1
      omega
/-- The text is the numeral of a number that the program formats. -/
def Numeral (s : ByteArray) : Prop := ∃ n : Int, (-999999 ≤ n ∧ n ≤ 999999) ∧ s = str (Lib.itoa n)
def finR (x t : ByteArray) (v : Nat) : Int × Bool :=
  if t.size < x.size then (if str (Lib.itoa (-(v : Int))) = x then (-(v : Int), true) else (0, false)) else (if str (Lib.itoa (v : Int)) = x then ((v : Int), true) else (0, false))
theorem read_loop (x t : ByteArray) (ht : t.size ≤ 6) (d : Nat) : ∀ m a : Nat, t.size - m = d → m ≤ t.size → a < 10 ^ m →
    Ev (fun k => spec_l1Read.l0 k x t (a : Int) (m : Int)) (if (t.data.toList.drop m).all isDig = true then finR x t (valD a (t.data.toList.drop m)) else (0, false)) := by
  have hl := size_len t
  induction d with
  | zero =>
    intro m a h1 h2 h3
    have ha : a < 1000000 := Nat.lt_of_lt_of_le h3 (Nat.pow_le_pow_right (n := 10) (by decide) (show m ≤ 6 by omega))
    rw [List.drop_eq_nil_of_le (by omega), List.all_nil, if_pos rfl, valD_nil]
    refine Ev.step (fun k => by rw [spec_l1Read.l0]) (Ev.neg (by omega) ?_)
    unfold finR
    by_cases c : t.size < x.size
    · rw [if_pos c]
      refine Ev.pos (by omega) ?_
      rw [wrap_nat (m := -(a : Int)) (by omega) (by omega)]
      refine Ev.bind (num_any (-(a : Int)) (by omega) (by omega)) ?_
      by_cases e : str (Lib.itoa (-(a : Int))) = x
      · rw [if_pos e]; exact Ev.pos ((str_eq_iff _ _).2 e) (Ev.now _)
      · rw [if_neg e]; exact Ev.neg (fun h => e ((str_eq_iff _ _).1 h)) (Ev.now _)
    · rw [if_neg c]
      refine Ev.neg (by omega) ?_
      refine Ev.bind (num_any (a : Int) (by omega) (by omega)) ?_
      by_cases e : str (Lib.itoa (a : Int)) = x
      · rw [if_pos e]; exact Ev.pos ((str_eq_iff _ _).2 e) (Ev.now _)
      · rw [if_neg e]; exact Ev.neg (fun h => e ((str_eq_iff _ _).1 h)) (Ev.now _)
  | succ d ih =>
    intro m a h1 h2 h3
    have hm : m < t.data.toList.length := by omega
    have ha : a < 1000000 := Nat.lt_of_lt_of_le h3 (Nat.pow_le_pow_right (n := 10) (by decide) (show m ≤ 6 by omega))
    rw [List.drop_eq_getElem_cons hm, List.all_cons, valD_cons]
    have hb := bt_nat t m hm
    by_cases c1 : (t.data.toList[m]).toNat < 48
    · rw [show isDig t.data.toList[m] = false from decide_eq_false (by omega), Bool.false_and, if_neg (by decide)]
      refine Ev.step (fun k => by rw [spec_l1Read.l0]) (Ev.pos (by omega) (Ev.pos (by omega) (Ev.pos ?_ (Ev.now _))))
      rw [hb]; omega
    · by_cases c2 : (t.data.toList[m]).toNat > 57
      · rw [show isDig t.data.toList[m] = false from decide_eq_false (by omega), Bool.false_and, if_neg (by decide)]
        refine Ev.step (fun k => by rw [spec_l1Read.l0]) (Ev.pos (by omega) (Ev.pos (by omega) (Ev.neg ?_ (Ev.pos ?_ (Ev.now _)))))
        · rw [hb]; omega
        · rw [hb]; omega
      · rw [show isDig t.data.toList[m] = true from decide_eq_true (by omega), Bool.true_and]
        refine Ev.step (fun k => by rw [spec_l1Read.l0]) (Ev.pos (by omega) (Ev.pos (by omega) (Ev.neg ?_ (Ev.neg ?_ ?_))))
        · rw [hb]; omega
        · rw [hb]; omega
        · rw [hb, wrap_up (m := m) (n := t.size) (by omega) (by omega), wrap_nat (m := 10 * (a : Int)) (by omega) (by omega), show (((t.data.toList[m]).toNat : Int) - 48) % 256 = (((t.data.toList[m]).toNat - 48 : Nat) : Int) by omega,
            wrap_nat (by omega) (by omega), show 10 * (a : Int) + (((t.data.toList[m]).toNat - 48 : Nat) : Int) = ((a * 10 + ((t.data.toList[m]).toNat - 48) : Nat) : Int) by omega]
          exact ih (m + 1) _ (by omega) (by omega) (by rw [Nat.pow_succ]; omega)
theorem valD_lt (l : List UInt8) : ∀ a m, a < 10 ^ m → l.all isDig = true → valD a l < 10 ^ (m + l.length) := by
  induction l with
  | nil => intro a m h _; exact h
  | cons c r ih =>
    intro a m h hd
    rw [List.all_cons, Bool.and_eq_true] at hd
    have hc : 48 ≤ c.toNat ∧ c.toNat ≤ 57 := of_decide_eq_true hd.1
    have := ih (a * 10 + (c.toNat - 48)) (m + 1) (by rw [Nat.pow_succ]; omega) hd.2
    rw [valD_cons, List.length_cons]
    rwa [show m + (r.length + 1) = m + 1 + r.length by omega]
/-- Behind the sign. -/
theorem read_mag (x t : ByteArray) : ∃ r, Ev (fun k => spec_l1Read.j1 k x t) r ∧ (r = (0, false) ∨ Numeral x) ∧ ∀ n : Nat, n ≤ 999999 → t = str (Lib.decDigits n) → r = finR x t n := by
  by_cases h : 1 ≤ t.size ∧ t.size ≤ 6
  · have h0 := read_loop x t h.2 _ 0 0 rfl (Nat.zero_le _) (by decide)
    rw [List.drop_zero] at h0
    refine ⟨_, Ev.step (fun k => by rw [spec_l1Read.j1]) (Ev.bindo (a := true) ?_ (Ev.pos rfl h0)), ?_, ?_⟩
    · unfold spec_l1In.f
      rw [if_pos (by omega)]
      exact congrArg some (decide_eq_true (by omega))
    · by_cases hd : t.data.toList.all isDig = true
      · have hv : valD 0 t.data.toList < 10 ^ 6 := by
          have h1 := valD_lt t.data.toList 0 0 (by decide) hd
          exact Nat.lt_of_lt_of_le h1 (Nat.pow_le_pow_right (n := 10) (by decide) (by have := size_len t; omega))
        rw [if_pos hd]
        unfold finR
        by_cases c : t.size < x.size
        · rw [if_pos c]
          by_cases e : str (Lib.itoa (-(valD 0 t.data.toList : Int))) = x
          · exact .inr ⟨_, by omega, e.symm⟩
          · exact .inl (if_neg e)
        · rw [if_neg c]
          by_cases e : str (Lib.itoa (valD 0 t.data.toList : Int)) = x
          · exact .inr ⟨_, by omega, e.symm⟩
          · exact .inl (if_neg e)
      · exact .inl (if_neg hd)
    · intro n hn e
      have e2 : t.data.toList = Lib.decDigits n := by rw [e]; simp [str]
      rw [e2, if_pos (dec_dig n), dec_val]
  · refine ⟨(0, false), Ev.step (fun k => by rw [spec_l1Read.j1]) (Ev.bindo (a := false) ?_ (Ev.neg (show ¬ (false = true) by decide) (Ev.now _))), .inl rfl, ?_⟩
    · unfold spec_l1In.f
      by_cases h1 : (t.size : Int) ≥ 1
      · rw [if_pos h1]; exact congrArg some (decide_eq_false (by omega))
      · rw [if_neg h1]
    · intro n hn e
      refine absurd ⟨?_, ?_⟩ h
      · rw [e, str_size]; exact dec_pos n
      · rw [e, str_size]; exact dec_len 5 n (by omega)
theorem spec_ParseInt_ev (x : ByteArray) : ∃ r : Int × Bool, Ev (fun k => spec_ParseInt.f k x) r ∧ (¬ Numeral x → r = (0, false)) ∧ ∀ n : Int, -999999 ≤ n ∧ n ≤ 999999 → x = str (Lib.itoa n) → r = (n, true) := by
  have wrap : ∀ r : Int × Bool, Ev (fun k => spec_l1Read.f k x) r → Ev (fun k => spec_ParseInt.f k x) r := fun r h => Ev.bind h (Ev.now _)
  have hl := size_len x
  by_cases c : x.size > 1 ∧ bt x 0 = 45
  · obtain ⟨r, h1, h2, h3⟩ := read_mag x (x.extract 1 x.size)
    refine ⟨r, wrap r ?_, fun hn => h2.resolve_right hn, ?_⟩
    · unfold spec_l1Read.f
      refine Ev.pos (by omega) (Ev.pos (by omega) ?_)
      exact Ev.step (fun k => by rw [spec_l1Read.j0]) (Ev.pos (by rw [c.2]; rfl) (Ev.pos (by omega) h1))
    · intro n hn e
      by_cases h0 : n < 0
      · have ei : Lib.itoa n = 45 :: Lib.decDigits n.natAbs := if_pos h0
        have et : x.extract 1 x.size = str (Lib.decDigits n.natAbs) := by
          rw [extract_str, e, ei, str_size]
          simp [str]
        rw [h3 n.natAbs (by omega) et, finR, if_pos (by rw [et, e, ei, str_size, str_size, List.length_cons]; omega), show -((n.natAbs : Nat) : Int) = n by omega, if_pos e.symm]
      · have ei : Lib.itoa n = Lib.decDigits n.toNat := if_neg h0
        exfalso
        have hd := dec_dig n.toNat
        have ex : x.data.toList = Lib.decDigits n.toNat := by rw [e, ei]; simp [str]
        have hb := bt_nat x 0 (by omega)
        rw [← ex] at hd
        have h4 := List.all_eq_true.1 hd (x.data.toList[0]'(by omega)) (List.getElem_mem _)
        have h5 : 48 ≤ (x.data.toList[0]'(by omega)).toNat ∧ _ := of_decide_eq_true h4
        have h6 := c.2
        rw [show (0 : Int) = ((0 : Nat) : Int) from rfl, hb] at h6
        omega
  · obtain ⟨r, h1, h2, h3⟩ := read_mag x x
    refine ⟨r, wrap r ?_, fun hn => h2.resolve_right hn, ?_⟩
    · unfold spec_l1Read.f
      by_cases c1 : x.size > 1
      · refine Ev.pos (by omega) (Ev.pos (by omega) ?_)
        exact Ev.step (fun k => by rw [spec_l1Read.j0]) (Ev.neg (fun e => c ⟨c1, by simpa using e⟩) h1)
      · refine Ev.neg (by omega) ?_
        exact Ev.step (fun k => by rw [spec_l1Read.j0]) (Ev.neg (by decide) h1)
    · intro n hn e
      by_cases h0 : n < 0
      · exfalso
        have ei : Lib.itoa n = 45 :: Lib.decDigits n.natAbs := if_pos h0
        have ex : x.data.toList = 45 :: Lib.decDigits n.natAbs := by rw [e, ei]; simp [str]
        have hp := dec_pos n.natAbs
        have hsz : x.size > 1 := by rw [e, ei, str_size, List.length_cons]; omega
        refine c ⟨hsz, ?_⟩
        have hb := bt_nat x 0 (by omega)
        rw [show (0 : Int) = ((0 : Nat) : Int) from rfl, hb]
        simp only [ex, List.getElem_cons_zero]
        rfl
      · have ei : Lib.itoa n = Lib.decDigits n.toNat := if_neg h0
        rw [h3 n.toNat (by omega) (by rw [e, ei]), finR, if_neg (by omega), show ((n.toNat : Nat) : Int) = n by omega, if_pos e.symm]
end Go.Proofs.YtcjfmohmjhjpoaaDoor.P
namespace Go.Proofs.YtcjfmohmjhjpoaaDoor.P
open Go.RowKit Go.Proofs.YtcjfmohmjhjpoaaDoorW.PrintWords Go.Proofs.YtcjfmohmjhjpoaaDoorW.PrintLast Go.Proofs.YtcjfmohmjhjpoaaDoorW.PrintMore
/-- An error variable of the library's holds an error. -/
def ErrAt (g : Nat) (w : World) : Prop := ∃ ev, w.cell? ⟨g, 0, none⟩ = some ev ∧ (ev = .nilIface ∨ ∃ te pe, ev = .iface te pe)
theorem errAt_below {g : Nat} {w w' : World} (h : ErrAt g w) (hb : Below w.heap.size w w') : ErrAt g w' := by
  obtain ⟨ev, h1, h2⟩ := h
  exact ⟨ev, pw_cell_below hb h1, h2⟩
/-- The bool and the number that Atoi and what stands behind it come to. -/
theorem atoi_calls (s : ByteArray) (hs : s.size ≤ 1048576) (w : World) (h1 : ErrAt 1 w) (h2 : ErrAt 2 w) :
    Calls Tryd.prog 54 #[.string s] w fun e w' => Below w.heap.size w w' ∧ ((∃ v, Lib.atoiAll s.data.toList = .ok v ∧ e = .returned (.tuple #[.int .i64 v, .nilIface])) ∨ ((∀ v, Lib.atoiAll s.data.toList ≠ .ok v) ∧ ∃ (v : Int) (N : Nat), e = .returned (.tuple #[.int .i64 v, .iface 85 (.pointer (some ⟨N, 0, none⟩))]))) := by
  cases h : Lib.atoiAll s.data.toList with
  | ok v =>
    refine (Tryd.strconv_Atoi_ok s (by omega) v h w).mono fun e w' hh => ⟨?_, .inl ⟨v, rfl, hh.1⟩⟩
    rcases hh.2 with rfl | ⟨t, rfl⟩
    · exact Below.refl _ _
    · exact Lib.bytesWorld_below _ _ _
  | «syntax» =>
    obtain ⟨ev, e1, e2⟩ := h1
    refine (Tryd.strconv_Atoi_syntax s (by omega) h ev w e1 e2).mono fun e w' hh => ?_
    obtain ⟨N, e3, _, _, hb⟩ := hh
    exact ⟨hb, .inr ⟨(fun v hv => by cases hv), _, N, e3⟩⟩
  | range =>
    obtain ⟨ev, e1, e2⟩ := h2
    refine (Tryd.strconv_Atoi_range s (by omega) h ev w e1 e2).mono fun e w' hh => ?_
    obtain ⟨N, e3, _, _, hb⟩ := hh
    exact ⟨hb, .inr ⟨(fun v hv => by cases hv), _, N, e3⟩⟩
theorem numeral_atoi {s : ByteArray} (h : Numeral s) : ∃ n : Int, (-999999 ≤ n ∧ n ≤ 999999) ∧ s = str (Lib.itoa n) ∧ Lib.atoiAll s.data.toList = .ok n := by
  obtain ⟨n, hn, e⟩ := h
  refine ⟨n, hn, e, ?_⟩
  have e2 : s.data.toList = Lib.itoa n := by rw [e]; simp [str]
  rw [e2]
  exact atoi_itoa n hn
set_option maxRecDepth 100000 in
set_option maxHeartbeats 2000000 in
theorem impl_ParseInt_calls (s : ByteArray) (hs : s.size ≤ 1048576) (r : Int × Bool) (hr0 : ¬ Numeral s → r = (0, false)) (hr1 : ∀ n : Int, -999999 ≤ n ∧ n ≤ 999999 → s = str (Lib.itoa n) → r = (n, true)) (w : World) (hp : Pow w) (h1 : ErrAt 1 w) (h2 : ErrAt 2 w) :
    Calls Tryd.prog 30 #[.string s] w fun e w' => e = .returned (.tuple #[.int .i64 r.1, .bool r.2]) ∧ Below w.heap.size w w' := by
  have HB := zM (Below.refl w.heap.size w)
  by_cases hok : ∃ v, Lib.atoiAll s.data.toList = .ok v
  case neg =>
    have hn : ¬ Numeral s := fun h => by
      obtain ⟨n, _, _, h3⟩ := numeral_atoi h
      exact hok ⟨n, h3⟩
    rw [hr0 hn]
    have hat : ∀ w' : World, Below w.heap.size w w' → Calls Tryd.prog 54 #[.string s] w' fun e w2 => (∃ (v : Int) (N : Nat), e = .returned (.tuple #[.int .i64 v, .iface 85 (.pointer (some ⟨N, 0, none⟩))])) ∧ Below w'.heap.size w' w2 := fun w' hb =>
      (atoi_calls s hs w' (errAt_below h1 hb) (errAt_below h2 hb)).mono fun e w2 hh => by
        obtain ⟨hb2, ⟨v2, e2, e3⟩ | ⟨_, h3⟩⟩ := hh
        · exact absurd ⟨v2, e2⟩ hok
        · exact ⟨h3, hb2⟩
    go_enter Tryd.func30, Tryd.ntmps30
    go_wp2_with (go_at_call 54; refine (hat _ HB.out).mono ?_; rintro e w' ⟨⟨v, N, rfl⟩, hb⟩; replace HB := zM (below_step HB.out hb); clear hb)
    go_ret2
    exact ⟨by first | rfl | (simp; done), by first | exact HB.out | exact below_drew HB.out⟩
  obtain ⟨v, hv⟩ := hok
  have hvr := Lib.atoiAll_bounds hv
  have hat : ∀ w' : World, Below w.heap.size w w' → Calls Tryd.prog 54 #[.string s] w' fun e w2 => e = .returned (.tuple #[.int .i64 v, .nilIface]) ∧ Below w'.heap.size w' w2 := fun w' hb =>
    (atoi_calls s hs w' (errAt_below h1 hb) (errAt_below h2 hb)).mono fun e w2 hh => by
      obtain ⟨hb2, ⟨v2, e2, e3⟩ | ⟨hno, _⟩⟩ := hh
      · rw [hv] at e2
        injection e2 with e2
        subst e2
        exact ⟨e3, hb2⟩
      · exact absurd hv (hno v)
  by_cases hrg : -999999 ≤ v ∧ v ≤ 999999
  case neg =>
    have hn : ¬ Numeral s := fun h => by
      obtain ⟨n, h4, _, h3⟩ := numeral_atoi h
      rw [hv] at h3
      injection h3 with h3
      subst h3
      exact hrg h4
    rw [hr0 hn]
    by_cases hlo : v < -999999
    · have c1 : decide (v < -999999) = true := decide_eq_true hlo
      go_enter Tryd.func30, Tryd.ntmps30
      go_wp2_with (go_at_call 54; refine (hat _ HB.out).mono ?_; rintro e w' ⟨rfl, hb⟩; replace HB := zM (below_step HB.out hb); clear hb)
      go_ret2
      exact ⟨by first | rfl | (simp; done), by first | exact HB.out | exact below_drew HB.out⟩
    · have c1 : decide (v < -999999) = false := decide_eq_false hlo
      have c2 : decide (v > 999999) = true := decide_eq_true (by omega)
      have c3 : decide (999999 < v) = true := decide_eq_true (by omega)
      go_enter Tryd.func30, Tryd.ntmps30
      go_wp2_with (go_at_call 54; refine (hat _ HB.out).mono ?_; rintro e w' ⟨rfl, hb⟩; replace HB := zM (below_step HB.out hb); clear hb)
      go_ret2
      exact ⟨by first | rfl | (simp; done), by first | exact HB.out | exact below_drew HB.out⟩
  have c1 : decide (v < -999999) = false := decide_eq_false (by omega)
  have c2 : decide (v > 999999) = false := decide_eq_false (by omega)
  have c3 : decide (999999 < v) = false := decide_eq_false (by omega)
  by_cases he : str (Lib.itoa v) = s
  · rw [hr1 v hrg he.symm]
    have c6 := (str_eq_iff _ _).2 he
    have c6b0 : ((str (Lib.itoa v)).toList == s.toList) = true := beq_iff_eq.mpr c6
    have c6b1 : ((str (Lib.itoa v)).toList != s.toList) = false := bne_eq_false_iff_eq.mpr c6
    clear he c6
    go_enter Tryd.func30, Tryd.ntmps30
    go_wp2_with (first
      | (go_at_call 54; refine (hat _ HB.out).mono ?_; rintro e w' ⟨rfl, hb⟩; replace HB := zM (below_step HB.out hb); clear hb)
      | (go_at_call 37; refine (itoa_calls v (by omega) (by omega) _ (pow_below hp (by first | exact HB.out | exact below_drew HB.out))).mono ?_; rintro e w' ⟨rfl, hb⟩; replace HB := zM (below_step (by first | exact HB.out | exact below_drew HB.out) hb); clear hb))
    go_ret2
    exact ⟨by first | rfl | (simp; done), by first | exact HB.out | exact below_drew HB.out⟩
  · have hn : ¬ Numeral s := fun h => by
      obtain ⟨n, h4, h5, h3⟩ := numeral_atoi h
      rw [hv] at h3
      injection h3 with h3
      subst h3
      exact he h5.symm
    rw [hr0 hn]
    have c6 : ¬ (str (Lib.itoa v)).toList = s.toList := fun h => he ((str_eq_iff _ _).1 h)
    have c6b0 : ((str (Lib.itoa v)).toList == s.toList) = false := beq_eq_false_iff_ne.mpr c6
    have c6b1 : ((str (Lib.itoa v)).toList != s.toList) = true := bne_iff_ne.mpr c6
    clear c6
    go_enter Tryd.func30, Tryd.ntmps30
    go_wp2_with (first
      | (go_at_call 54; refine (hat _ HB.out).mono ?_; rintro e w' ⟨rfl, hb⟩; replace HB := zM (below_step HB.out hb); clear hb)
      | (go_at_call 37; refine (itoa_calls v (by omega) (by omega) _ (pow_below hp (by first | exact HB.out | exact below_drew HB.out))).mono ?_; rintro e w' ⟨rfl, hb⟩; replace HB := zM (below_step (by first | exact HB.out | exact below_drew HB.out) hb); clear hb))
    go_ret2
    exact ⟨by first | rfl | (simp; done), by first | exact HB.out | exact below_drew HB.out⟩
end Go.Proofs.YtcjfmohmjhjpoaaDoor.P
namespace Go.Proofs.YtcjfmohmjhjpoaaDoor
open Go.ChangeShapes Go.WideShapes Go.ChangeAt Go.RowKit
abbrev rangeS : ByteArray := { data := #[118, 97, 108, 117, 101, 32, 111, 117, 116, 32, 111, 102, 32, 114, 97, 110, 103, 101] }
abbrev syntaxS : ByteArray := { data := #[105, 110, 118, 97, 108, 105, 100, 32, 115, 121, 110, 116, 97, 120] }
/-- So many blocks has the settled world. -/
noncomputable def low : Nat := (World.holding Tryd.prog default ⟨#[], #[], []⟩).heap.size
def layV (v : Value) : Obj → Obj
  | .cells _ t frozen => .cells #[v] t frozen
  | o => o
/-- The three tables, and the two errors in blocks of their own. -/
noncomputable def errWorld (os : Os) : World :=
  let w0 := World.holding Tryd.prog os ⟨#[.cells #[.string rangeS] 114, .cells #[.string syntaxS] 114], #[], []⟩
  { w0 with heap := ((((w0.heap.modify 6 (lay Rows.laid_math_bits_deBruijn32tab)).modify 7 (lay Rows.laid_math_bits_deBruijn64tab)).modify 3 (lay Rows.laid_internal_strconv_uint64pow10)).modify 2 (layV (.iface 112 (.pointer (some ⟨low, 0, none⟩))))).modify 1 (layV (.iface 112 (.pointer (some ⟨low + 1, 0, none⟩)))) }
theorem star : "*" ++ "errors.errorString" = "*errors.errorString" := by decide
theorem errRow (u : TypeId) (h : Tryd.prog.typeName? 3 u = some "*errors.errorString") : u = 112 :=
  typeName_ptr_named (nm := "errors.errorString") (by rw [star]; kernel_rfl) (by kernel_rfl) (by decide) u (by rw [star]; exact h)
theorem errAt_of_laid {text : List UInt8} {r : List (String × DataW Unit)} {W : World} {n : String} {g : Nat} (h : laidMet Tryd.prog ((n, .iface "*errors.errorString" (.ptr (.agg [.lit (.string text)]))) :: r) W) (hg : Tryd.prog.globalNamed n = some g) (ht : (Tryd.prog.globals[g]?).map (·.type) = some 64) : P.ErrAt g W := by
  obtain ⟨a, s, hv, _⟩ := laid_sentinel h hg ht Tryd.underlying64 errRow Tryd.underlying112 Tryd.underlying114 rfl rfl Tryd.underlying9 (by kernel_rfl) (by kernel_rfl)
  have h2 := World.var?_cell hg hv 0
  exact ⟨_, h2, .inr ⟨_, _, rfl⟩⟩
open Go.Proofs.YtcjfmohmjhjpoaaDoor.P in
theorem errs_of_laid {W : World} (h : laidMet Tryd.prog (("math/bits.deBruijn32tab", Rows.laid_math_bits_deBruijn32tab) :: ("math/bits.deBruijn64tab", Rows.laid_math_bits_deBruijn64tab) :: ("internal/strconv.uint64pow10", Rows.laid_internal_strconv_uint64pow10) :: ("strconv.ErrRange", Rows.laid_strconv_ErrRange) :: ("strconv.ErrSyntax", Rows.laid_strconv_ErrSyntax) :: []) W) : ErrAt 1 W ∧ ErrAt 2 W :=
  ⟨errAt_of_laid (laidMet_tail (laidMet_tail (laidMet_tail (laidMet_tail h)))) (by kernel_rfl) (by kernel_rfl), errAt_of_laid (laidMet_tail (laidMet_tail (laidMet_tail h))) (by kernel_rfl) (by kernel_rfl)⟩
end Go.Proofs.YtcjfmohmjhjpoaaDoor
