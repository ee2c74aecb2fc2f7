-- Written by a program of this session (the kit's print, turned: wip/print/patch.py) out of the translation. Not trusted: Lean checks it.
import Derived.Test.YtopgbijegnnjbaaCountShortestG5
import Derived.Test.YtopgbijegnnjbaaCountShortestG16
import Derived.Handy
import Derived.Test.YtopgbijegnnjbaaCountShortestG9
import Derived.Test.YtopgbijegnnjbaaCountShortestG10
import Derived.Test.YtopgbijegnnjbaaCountShortestG7
import Derived.Test.YtopgbijegnnjbaaCountShortestG8
import Derived.Test.YtopgbijegnnjbaaCountShortestG15
namespace Go.Proofs.Ytopgbijegnnjbaa.P
open Go.RowKit Go.Proofs.YtopgbijegnnjbaaW.PrintWords Go.Proofs.YtopgbijegnnjbaaW.PrintLast Go.Proofs.YtopgbijegnnjbaaW.PrintMore
attribute [local go_sem] max2_int min2_int max_two min_two max_three min_three max_four min_four   -- for this text's walks alone
set_option linter.unusedVariables false
set_option linter.unusedSimpArgs false

/-! ### laws_eqIntSS: function 24 -/
def laws_eqIntSS.l0 : Nat → List (List Int) → List (List Int) → Int → Option (Bool)
 | 0, _, _, _ => none
 | k + 1, x0, x1, x5 => if x5 < (x0.length : Int) then (if 0 ≤ x5 then (if x5 < (x1.length : Int) then ((laws_eqIntS.f k (rd_L1 x0 x5) (rd_L1 x1 x5)).bind fun t139 => (if t139 = true then (laws_eqIntSS.l0 k x0 x1 (wrap64 (x5 + 1))) else (some false))) else (none)) else (none)) else (some true)
def laws_eqIntSS.f (k : Nat) (l0 : List (List Int)) (l1 : List (List Int)) : Option (Bool) := if (l0.length : Int) = (l1.length : Int) then (laws_eqIntSS.l0 k l0 l1 0) else (some false)
set_option maxHeartbeats 8000000 in
set_option maxRecDepth 100000 in
theorem laws_eqIntSS.calls (k : Nat) (A0 : Option Addr) (c0 : Nat) (l0 : List (List Int)) (A1 : Option Addr) (c1 : Nat) (l1 : List (List Int)) (r : Bool) (w : World) (hr0 : Kd.C (Kd.slice 3 (Kd.int .i64)) w A0 l0.length l0) (hc0 : l0.length ≤ c0) (hr1 : Kd.C (Kd.slice 3 (Kd.int .i64)) w A1 l1.length l1) (hc1 : l1.length ≤ c1) (h : laws_eqIntSS.f k l0 l1 = some r) :
 Calls Try.prog 24 #[.slice A0 l0.length c0, .slice A1 l1.length c1] w fun e w' => e = .returned (.bool r) ∧ Drawn0 w w' := by
 have HR0 := Aside0.mk hr0
 have HC0 := Aside0.mk hc0
 clear hr0 hc0
 have HR1 := Aside0.mk hr1
 have HC1 := Aside0.mk hc1
 clear hr1 hc1
 have H : (if (l0.length : Int) = (l1.length : Int) then (laws_eqIntSS.l0 k l0 l1 0) else (some false)) = some r := h
 clear h
 by_cases c3 : (l0.length : Int) = (l1.length : Int)
 · rw [if_pos c3] at H
   have c3b0 : ((l0.length : Int) == (l1.length : Int)) = true := beq_iff_eq.mpr c3
   have c3b1 : ((l0.length : Int) != (l1.length : Int)) = false := bne_eq_false_iff_eq.mpr c3
   have c3b2 : (l0.length == l1.length) = true := by first | simpa using c3 | (simp at c3 ⊢; omega)
   clear c3
   have H' := Aside0.mk H
   clear H
   go_enter Try.func24, Try.ntmps24
   go_wp2
   repeat (go_quiet (fail); try go_wp2)
   go_loopg [5] k (fun kq v5 w' => ∃ (x5_1 : Int), v5 = .int .i64 x5_1 ∧ Aside0 (laws_eqIntSS.l0 kq l0 l1 x5_1 = some r) ∧ Aside0 (kq ≤ k) ∧ Drawn0 w w')
   case atStart => exact ⟨(0), (by first | rfl | (simp; done) | (simp [*]; done)), H', ⟨Nat.le_refl _⟩, by repeat (first | exact Drawn0.refl _ | apply Drawn0.step)⟩
   case round =>
    clear H'
    try clear c1
    try clear c2
    try clear p2
    try clear c3
    try clear c3b0
    try clear c3b1
    try clear c3b2
    obtain ⟨x5_1, rfl, HA, HK1, ⟨m1, rfl⟩⟩ := hrel
    cases gk with
    | zero => exact absurd HA.out (by simp [laws_eqIntSS.l0])
    | succ k1 =>
     have H := HA.out
     clear HA
     simp only [laws_eqIntSS.l0] at H
     by_cases c4 : x5_1 < (l0.length : Int)
     · rw [if_pos c4] at H
       have c4b0 := decide_eq_true c4
       clear c4
       by_cases c5 : 0 ≤ x5_1
       · rw [if_pos c5] at H
         have c5b0 := decide_eq_true c5
         clear c5
         by_cases c6 : x5_1 < (l1.length : Int)
         · rw [if_pos c6] at H
           have c6b0 := decide_eq_true c6
           clear c6
           replace H := Option.bind_eq_some_iff.mp H
           obtain ⟨t139, A70, H⟩ := H
           have A7 := Aside0.mk A70
           clear A70
           by_cases c8 : t139 = true
           · subst c8
             rw [if_pos rfl] at H
             have H' := Aside0.mk H
             clear H
             have p137 : 0 ≤ (x5_1 : Int) := of_decide_eq_true zA
             have q137 : x5_1 < (l0.length : Int) := of_decide_eq_true zA
             obtain ⟨ad137, A137_0, c137_0, e137, hx137_0, hl137_0, hi137_0⟩ := at_L1 HR0.out x5_1 p137 q137
             cases e137
             have HR137_0 := Aside0.mk hi137_0
             have HC137_0 := Aside0.mk hl137_0
             clear hi137_0 hl137_0
             replace p137 := eq_true p137
             replace q137 := eq_true q137
             have p138 : 0 ≤ (x5_1 : Int) := of_decide_eq_true zA
             have q138 : x5_1 < (l1.length : Int) := of_decide_eq_true zA
             obtain ⟨ad138, A138_0, c138_0, e138, hx138_0, hl138_0, hi138_0⟩ := at_L1 HR1.out x5_1 p138 q138
             cases e138
             have HR138_0 := Aside0.mk hi138_0
             have HC138_0 := Aside0.mk hl138_0
             clear hi138_0 hl138_0
             replace p138 := eq_true p138
             replace q138 := eq_true q138
             go_wp2_with (first | (go_at_call 40; (with_reducible refine (laws_eqIntS.calls k1 _ _ (rd_L1 l0 x5_1) _ _ (rd_L1 l1 x5_1) true _ ?side1 ?side2 ?side3 ?side4 A7.out).mono ?_); (case side1 => exact zC HR137_0.out); (case side2 => exact HC137_0.out); (case side3 => exact zC HR138_0.out); (case side4 => exact HC138_0.out); rintro e w' ⟨rfl, ⟨nd, rfl⟩⟩; (try exact zD)))
             repeat (go_quiet (first | (go_at_call 40; (with_reducible refine (laws_eqIntS.calls k1 _ _ (rd_L1 l0 x5_1) _ _ (rd_L1 l1 x5_1) true _ ?side1 ?side2 ?side3 ?side4 A7.out).mono ?_); (case side1 => exact zC HR137_0.out); (case side2 => exact HC137_0.out); (case side3 => exact zC HR138_0.out); (case side4 => exact HC138_0.out); rintro e w' ⟨rfl, ⟨nd, rfl⟩⟩; (try exact zD))); try go_wp2_with (first | (go_at_call 40; (with_reducible refine (laws_eqIntS.calls k1 _ _ (rd_L1 l0 x5_1) _ _ (rd_L1 l1 x5_1) true _ ?side1 ?side2 ?side3 ?side4 A7.out).mono ?_); (case side1 => exact zC HR137_0.out); (case side2 => exact HC137_0.out); (case side3 => exact zC HR138_0.out); (case side4 => exact HC138_0.out); rintro e w' ⟨rfl, ⟨nd, rfl⟩⟩; (try exact zD))))
             go_roundg k1
             case measure => have := HK1.out; omega
             case rel => exact ⟨(wrap64 (x5_1 + 1)), (by first | rfl | (simp; done) | (simp [*]; done)), H', ⟨by have := HK1.out; omega⟩, by repeat (first | exact Drawn0.refl _ | apply Drawn0.step)⟩
           · replace c8 := Bool.eq_false_iff.mpr c8
             subst c8
             have H1 : (some false) = some r := by rw [if_neg (show ¬ (false = true) by decide)] at H; exact H
             clear H
             have H := H1
             clear H1
             obtain rfl := Option.some.inj H
             have p137 : 0 ≤ (x5_1 : Int) := of_decide_eq_true zA
             have q137 : x5_1 < (l0.length : Int) := of_decide_eq_true zA
             obtain ⟨ad137, A137_0, c137_0, e137, hx137_0, hl137_0, hi137_0⟩ := at_L1 HR0.out x5_1 p137 q137
             cases e137
             have HR137_0 := Aside0.mk hi137_0
             have HC137_0 := Aside0.mk hl137_0
             clear hi137_0 hl137_0
             replace p137 := eq_true p137
             replace q137 := eq_true q137
             have p138 : 0 ≤ (x5_1 : Int) := of_decide_eq_true zA
             have q138 : x5_1 < (l1.length : Int) := of_decide_eq_true zA
             obtain ⟨ad138, A138_0, c138_0, e138, hx138_0, hl138_0, hi138_0⟩ := at_L1 HR1.out x5_1 p138 q138
             cases e138
             have HR138_0 := Aside0.mk hi138_0
             have HC138_0 := Aside0.mk hl138_0
             clear hi138_0 hl138_0
             replace p138 := eq_true p138
             replace q138 := eq_true q138
             go_wp2_with (first | (go_at_call 40; (with_reducible refine (laws_eqIntS.calls k1 _ _ (rd_L1 l0 x5_1) _ _ (rd_L1 l1 x5_1) false _ ?side1 ?side2 ?side3 ?side4 A7.out).mono ?_); (case side1 => exact zC HR137_0.out); (case side2 => exact HC137_0.out); (case side3 => exact zC HR138_0.out); (case side4 => exact HC138_0.out); rintro e w' ⟨rfl, ⟨nd, rfl⟩⟩; (try exact zD)))
             repeat (go_quiet (first | (go_at_call 40; (with_reducible refine (laws_eqIntS.calls k1 _ _ (rd_L1 l0 x5_1) _ _ (rd_L1 l1 x5_1) false _ ?side1 ?side2 ?side3 ?side4 A7.out).mono ?_); (case side1 => exact zC HR137_0.out); (case side2 => exact HC137_0.out); (case side3 => exact zC HR138_0.out); (case side4 => exact HC138_0.out); rintro e w' ⟨rfl, ⟨nd, rfl⟩⟩; (try exact zD))); try go_wp2_with (first | (go_at_call 40; (with_reducible refine (laws_eqIntS.calls k1 _ _ (rd_L1 l0 x5_1) _ _ (rd_L1 l1 x5_1) false _ ?side1 ?side2 ?side3 ?side4 A7.out).mono ?_); (case side1 => exact zC HR137_0.out); (case side2 => exact HC137_0.out); (case side3 => exact zC HR138_0.out); (case side4 => exact HC138_0.out); rintro e w' ⟨rfl, ⟨nd, rfl⟩⟩; (try exact zD))))
             go_ret
             exact ⟨by first | rfl | (simp; done) | (simp [*]; done), by repeat (first | exact Drawn0.refl _ | apply Drawn0.step)⟩
         · rw [if_neg c6] at H
           exact absurd H (by simp)
       · rw [if_neg c5] at H
         exact absurd H (by simp)
     · rw [if_neg c4] at H
       have c4b0 : decide (x5_1 < (l0.length : Int)) = false := decide_eq_false c4
       clear c4
       obtain rfl := Option.some.inj H
       go_wp2
       repeat (go_quiet (fail); try go_wp2)
       go_ret
       exact ⟨by first | rfl | (simp; done) | (simp [*]; done), by repeat (first | exact Drawn0.refl _ | apply Drawn0.step)⟩
 · rw [if_neg c3] at H
   have c3b0 : ((l0.length : Int) == (l1.length : Int)) = false := beq_eq_false_iff_ne.mpr c3
   have c3b1 : ((l0.length : Int) != (l1.length : Int)) = true := bne_iff_ne.mpr c3
   have c3b2 : (l0.length == l1.length) = false := by first | simpa using c3 | (simp at c3 ⊢; omega)
   obtain rfl := Option.some.inj H
   go_enter Try.func24, Try.ntmps24
   go_wp2
   repeat (go_quiet (fail); try go_wp2)
   go_ret
   exact ⟨by first | rfl | (simp; done) | (simp [*]; done), by repeat (first | exact Drawn0.refl _ | apply Drawn0.step)⟩

/-! ### laws_eqIntA2S: function 25 -/
def laws_eqIntA2S.l0 : Nat → List (S50) → List (S50) → Int → Option (Bool)
 | 0, _, _, _ => none
 | k + 1, x0, x1, x5 => if x5 < (x0.length : Int) then (if 0 ≤ x5 then (if x5 < (x1.length : Int) then ((laws_eqIntA2.f ((rd_T50 x0 x5).f0) ((rd_T50 x0 x5).f1) ((rd_T50 x1 x5).f0) ((rd_T50 x1 x5).f1)).bind fun t142 => (if t142 = true then (laws_eqIntA2S.l0 k x0 x1 (wrap64 (x5 + 1))) else (some false))) else (none)) else (none)) else (some true)
def laws_eqIntA2S.f (k : Nat) (l0 : List (S50)) (l1 : List (S50)) : Option (Bool) := if (l0.length : Int) = (l1.length : Int) then (laws_eqIntA2S.l0 k l0 l1 0) else (some false)
def laws_eqIntA2S.T6 : Bool × List (List Nat × List Nat) := (true, [([], []), ([], []), ([0, 1], [0, 1]), ([2], [2]), ([], []), ([], []), ([4, 5], [4, 5]), ([6], [6]), ([3, 7], [3, 7]), ([8], [8])])
def laws_eqIntA2S.B6 : List Nat := [0, 0, 3, 7, 0, 0, 48, 112, 255, 511]
theorem laws_eqIntA2S.tab6 : rtab .any (opsOf Try.f25 6) = laws_eqIntA2S.T6 := by kernel_rfl
theorem laws_eqIntA2S.bits6 : waitsOk laws_eqIntA2S.T6.2 laws_eqIntA2S.B6 = true := by kernel_rfl
set_option maxHeartbeats 8000000 in
set_option maxRecDepth 100000 in
theorem laws_eqIntA2S.calls (k : Nat) (A0 : Option Addr) (c0 : Nat) (l0 : List (S50)) (A1 : Option Addr) (c1 : Nat) (l1 : List (S50)) (r : Bool) (w : World) (hr0 : Kd.C k50 w A0 l0.length l0) (hc0 : l0.length ≤ c0) (hr1 : Kd.C k50 w A1 l1.length l1) (hc1 : l1.length ≤ c1) (h : laws_eqIntA2S.f k l0 l1 = some r) :
 Calls Try.prog 25 #[.slice A0 l0.length c0, .slice A1 l1.length c1] w fun e w' => e = .returned (.bool r) ∧ Below w.heap.size w w' := by
 have hu50 := Try.underlying50
 have HR0 := Aside0.mk hr0
 have HC0 := Aside0.mk hc0
 clear hr0 hc0
 have HR1 := Aside0.mk hr1
 have HC1 := Aside0.mk hc1
 clear hr1 hc1
 have HB := zM (Below.refl w.heap.size w)
 have H : (if (l0.length : Int) = (l1.length : Int) then (laws_eqIntA2S.l0 k l0 l1 0) else (some false)) = some r := h
 clear h
 by_cases c3 : (l0.length : Int) = (l1.length : Int)
 · rw [if_pos c3] at H
   have c3b0 : ((l0.length : Int) == (l1.length : Int)) = true := beq_iff_eq.mpr c3
   have c3b1 : ((l0.length : Int) != (l1.length : Int)) = false := bne_eq_false_iff_eq.mpr c3
   have c3b2 : (l0.length == l1.length) = true := by first | simpa using c3 | (simp at c3 ⊢; omega)
   clear c3
   have H' := Aside0.mk H
   clear H
   go_enter Try.func25, Try.ntmps25
   go_wp2
   go_loopg [5] k (fun kq v5 w' => ∃ (x5_1 : Int), v5 = .int .i64 x5_1 ∧ Aside0 (laws_eqIntA2S.l0 kq l0 l1 x5_1 = some r) ∧ Aside0 (kq ≤ k) ∧ Aside0 (Below w.heap.size w w'))
   case atStart => exact ⟨(0), (by first | rfl | (simp; done) | (simp [*]; done)), H', ⟨Nat.le_refl _⟩, ⟨zB⟩⟩
   case round =>
    clear H'
    try clear c1
    try clear c2
    try clear p2
    try clear c3
    try clear c3b0
    try clear c3b1
    try clear c3b2
    obtain ⟨x5_1, rfl, HA, HK1, HB⟩ := hrel
    cases gk with
    | zero => exact absurd HA.out (by simp [laws_eqIntA2S.l0])
    | succ k1 =>
     have H := HA.out
     clear HA
     simp only [laws_eqIntA2S.l0] at H
     by_cases c4 : x5_1 < (l0.length : Int)
     · rw [if_pos c4] at H
       have c4b0 := decide_eq_true c4
       clear c4
       by_cases c5 : 0 ≤ x5_1
       · rw [if_pos c5] at H
         have c5b0 := decide_eq_true c5
         clear c5
         by_cases c6 : x5_1 < (l1.length : Int)
         · rw [if_pos c6] at H
           have c6b0 := decide_eq_true c6
           clear c6
           replace H := Option.bind_eq_some_iff.mp H
           obtain ⟨t142, A70, H⟩ := H
           have A7 := Aside0.mk A70
           clear A70
           by_cases c8 : t142 = true
           · subst c8
             rw [if_pos rfl] at H
             have H' := Aside0.mk H
             clear H
             try go_wp2
             replace HB := zM (below_drew1 HB.out)
             have p140 : 0 ≤ (x5_1 : Int) := of_decide_eq_true zA
             have q140 : x5_1 < (l0.length : Int) := of_decide_eq_true zA
             obtain ⟨ad140, e140, hx140_0, hx140_1⟩ := at_T50 HR0.out x5_1 p140 q140
             have hw140_1 := hx140_1
             have hw140_0 := hx140_0
             cases e140
             (try replace hx140_0 := (HB.out.cell (World.block_lt_of_cell? w _ hx140_0)).trans hx140_0)
             (try replace hx140_1 := (HB.out.cell (World.block_lt_of_cell? w _ hx140_1)).trans hx140_1)
             replace p140 := eq_true p140
             replace q140 := eq_true q140
             have p141 : 0 ≤ (x5_1 : Int) := of_decide_eq_true zA
             have q141 : x5_1 < (l1.length : Int) := of_decide_eq_true zA
             obtain ⟨ad141, e141, hx141_0, hx141_1⟩ := at_T50 HR1.out x5_1 p141 q141
             have hw141_1 := hx141_1
             have hw141_0 := hx141_0
             cases e141
             (try replace hx141_0 := (HB.out.cell (World.block_lt_of_cell? w _ hx141_0)).trans hx141_0)
             (try replace hx141_1 := (HB.out.cell (World.block_lt_of_cell? w _ hx141_1)).trans hx141_1)
             replace p141 := eq_true p141
             replace q141 := eq_true q141
             refine zs (n := 10) (fun w' => w'.cell? (ad140.add ((x5_1).toNat * 2)) = some (.int .i64 ((rd_T50 l0 x5_1).f0)) ∧ w'.cell? ⟨(ad140.add ((x5_1).toNat * 2)).block, (ad140.add ((x5_1).toNat * 2)).off + 1, none⟩ = some (.int .i64 ((rd_T50 l0 x5_1).f1)) ∧ w'.cell? (ad141.add ((x5_1).toNat * 2)) = some (.int .i64 ((rd_T50 l1 x5_1).f0)) ∧ w'.cell? ⟨(ad141.add ((x5_1).toNat * 2)).block, (ad141.add ((x5_1).toNat * 2)).off + 1, none⟩ = some (.int .i64 ((rd_T50 l1 x5_1).f1))) ⟨((HB.out.cell (World.block_lt_of_cell? w _ hw140_0)).trans hw140_0), ((HB.out.cell (World.block_lt_of_cell? w _ hw140_1)).trans hw140_1), ((HB.out.cell (World.block_lt_of_cell? w _ hw141_0)).trans hw141_0), ((HB.out.cell (World.block_lt_of_cell? w _ hw141_1)).trans hw141_1)⟩ (fun hHeld => ?_); refine with_tabW laws_eqIntA2S.tab6 laws_eqIntA2S.bits6 (fun HT_ HW_ => ?_)
             generalize wr.drew = w9 at HB hx140_0 hx140_1 hx141_0 hx141_1 hHeld ⊢
             refine zp HT_ 0 17 ?_
             refine zp HT_ 1 18 ?_
             refine zp HT_ 2 19 ?_
             refine zp HT_ 4 21 ?_
             refine zp HT_ 5 22 ?_
             refine zp HT_ 6 23 ?_
             refine zt HT_ HW_ 3 20 hHeld ?_ (hy := by rintro w' ⟨s0, s1, s2, s3⟩; go_simp; with_reducible rfl)
             refine zt HT_ HW_ 7 24 hHeld ?_ (hy := by rintro w' ⟨s0, s1, s2, s3⟩; go_simp; with_reducible rfl)
             refine zg HT_ 8 25 Try.func41 #[.agg #[.int .i64 ((rd_T50 l0 x5_1).f0), .int .i64 ((rd_T50 l0 x5_1).f1)], .agg #[.int .i64 ((rd_T50 l1 x5_1).f0), .int .i64 ((rd_T50 l1 x5_1).f1)]] (fun K hK => ?_)
             with_reducible refine (laws_eqIntA2.calls ((rd_T50 l0 x5_1).f0) ((rd_T50 l0 x5_1).f1) ((rd_T50 l1 x5_1).f0) ((rd_T50 l1 x5_1).f1) true _ A7.out).mono ?_
             rintro e w10 ⟨rfl, hb⟩
             refine ⟨_, rfl, ?_⟩
             replace HB := zM (below_step zB hb)
             (try clear hb)
             (try clear hb2)
             (try clear hk)
             (try clear hi)
             refine hK.out _ _ ⟨((HB.out.cell (World.block_lt_of_cell? w _ hw140_0)).trans hw140_0), ((HB.out.cell (World.block_lt_of_cell? w _ hw140_1)).trans hw140_1), ((HB.out.cell (World.block_lt_of_cell? w _ hw141_0)).trans hw141_0), ((HB.out.cell (World.block_lt_of_cell? w _ hw141_1)).trans hw141_1)⟩ (fun hHeld => ?_)
             clear hK K
             refine zn 25 ?_
             refine zp HT_ 9 26 ?_
             refine zo HT_ ?_
             try go_wp2
             go_roundg k1
             case measure => have := HK1.out; omega
             case rel => exact ⟨(wrap64 (x5_1 + 1)), (by first | rfl | (simp; done) | (simp [*]; done)), H', ⟨by have := HK1.out; omega⟩, ⟨zB⟩⟩
           · replace c8 := Bool.eq_false_iff.mpr c8
             subst c8
             have H1 : (some false) = some r := by rw [if_neg (show ¬ (false = true) by decide)] at H; exact H
             clear H
             have H := H1
             clear H1
             obtain rfl := Option.some.inj H
             try go_wp2
             replace HB := zM (below_drew1 HB.out)
             have p140 : 0 ≤ (x5_1 : Int) := of_decide_eq_true zA
             have q140 : x5_1 < (l0.length : Int) := of_decide_eq_true zA
             obtain ⟨ad140, e140, hx140_0, hx140_1⟩ := at_T50 HR0.out x5_1 p140 q140
             have hw140_1 := hx140_1
             have hw140_0 := hx140_0
             cases e140
             (try replace hx140_0 := (HB.out.cell (World.block_lt_of_cell? w _ hx140_0)).trans hx140_0)
             (try replace hx140_1 := (HB.out.cell (World.block_lt_of_cell? w _ hx140_1)).trans hx140_1)
             replace p140 := eq_true p140
             replace q140 := eq_true q140
             have p141 : 0 ≤ (x5_1 : Int) := of_decide_eq_true zA
             have q141 : x5_1 < (l1.length : Int) := of_decide_eq_true zA
             obtain ⟨ad141, e141, hx141_0, hx141_1⟩ := at_T50 HR1.out x5_1 p141 q141
             have hw141_1 := hx141_1
             have hw141_0 := hx141_0
             cases e141
             (try replace hx141_0 := (HB.out.cell (World.block_lt_of_cell? w _ hx141_0)).trans hx141_0)
             (try replace hx141_1 := (HB.out.cell (World.block_lt_of_cell? w _ hx141_1)).trans hx141_1)
             replace p141 := eq_true p141
             replace q141 := eq_true q141
             refine zs (n := 10) (fun w' => w'.cell? (ad140.add ((x5_1).toNat * 2)) = some (.int .i64 ((rd_T50 l0 x5_1).f0)) ∧ w'.cell? ⟨(ad140.add ((x5_1).toNat * 2)).block, (ad140.add ((x5_1).toNat * 2)).off + 1, none⟩ = some (.int .i64 ((rd_T50 l0 x5_1).f1)) ∧ w'.cell? (ad141.add ((x5_1).toNat * 2)) = some (.int .i64 ((rd_T50 l1 x5_1).f0)) ∧ w'.cell? ⟨(ad141.add ((x5_1).toNat * 2)).block, (ad141.add ((x5_1).toNat * 2)).off + 1, none⟩ = some (.int .i64 ((rd_T50 l1 x5_1).f1))) ⟨((HB.out.cell (World.block_lt_of_cell? w _ hw140_0)).trans hw140_0), ((HB.out.cell (World.block_lt_of_cell? w _ hw140_1)).trans hw140_1), ((HB.out.cell (World.block_lt_of_cell? w _ hw141_0)).trans hw141_0), ((HB.out.cell (World.block_lt_of_cell? w _ hw141_1)).trans hw141_1)⟩ (fun hHeld => ?_); refine with_tabW laws_eqIntA2S.tab6 laws_eqIntA2S.bits6 (fun HT_ HW_ => ?_)
             generalize wr.drew = w11 at HB hx140_0 hx140_1 hx141_0 hx141_1 hHeld ⊢
             refine zp HT_ 0 17 ?_
             refine zp HT_ 1 18 ?_
             refine zp HT_ 2 19 ?_
             refine zp HT_ 4 21 ?_
             refine zp HT_ 5 22 ?_
             refine zp HT_ 6 23 ?_
             refine zt HT_ HW_ 3 20 hHeld ?_ (hy := by rintro w' ⟨s0, s1, s2, s3⟩; go_simp; with_reducible rfl)
             refine zt HT_ HW_ 7 24 hHeld ?_ (hy := by rintro w' ⟨s0, s1, s2, s3⟩; go_simp; with_reducible rfl)
             refine zg HT_ 8 25 Try.func41 #[.agg #[.int .i64 ((rd_T50 l0 x5_1).f0), .int .i64 ((rd_T50 l0 x5_1).f1)], .agg #[.int .i64 ((rd_T50 l1 x5_1).f0), .int .i64 ((rd_T50 l1 x5_1).f1)]] (fun K hK => ?_)
             with_reducible refine (laws_eqIntA2.calls ((rd_T50 l0 x5_1).f0) ((rd_T50 l0 x5_1).f1) ((rd_T50 l1 x5_1).f0) ((rd_T50 l1 x5_1).f1) false _ A7.out).mono ?_
             rintro e w12 ⟨rfl, hb⟩
             refine ⟨_, rfl, ?_⟩
             replace HB := zM (below_step zB hb)
             (try clear hb)
             (try clear hb2)
             (try clear hk)
             (try clear hi)
             refine hK.out _ _ ⟨((HB.out.cell (World.block_lt_of_cell? w _ hw140_0)).trans hw140_0), ((HB.out.cell (World.block_lt_of_cell? w _ hw140_1)).trans hw140_1), ((HB.out.cell (World.block_lt_of_cell? w _ hw141_0)).trans hw141_0), ((HB.out.cell (World.block_lt_of_cell? w _ hw141_1)).trans hw141_1)⟩ (fun hHeld => ?_)
             clear hK K
             refine zn 25 ?_
             refine zp HT_ 9 26 ?_
             refine zo HT_ ?_
             try go_wp2
             go_ret
             exact ⟨by first | rfl | (simp [errW_none, errW_some] <;> rfl) | (simp [*, errW_none, errW_some] <;> rfl), zB⟩
         · rw [if_neg c6] at H
           exact absurd H (by simp)
       · rw [if_neg c5] at H
         exact absurd H (by simp)
     · rw [if_neg c4] at H
       have c4b0 : decide (x5_1 < (l0.length : Int)) = false := decide_eq_false c4
       clear c4
       obtain rfl := Option.some.inj H
       go_wp2
       go_ret
       exact ⟨by first | rfl | (simp [errW_none, errW_some] <;> rfl) | (simp [*, errW_none, errW_some] <;> rfl), zB⟩
 · rw [if_neg c3] at H
   have c3b0 : ((l0.length : Int) == (l1.length : Int)) = false := beq_eq_false_iff_ne.mpr c3
   have c3b1 : ((l0.length : Int) != (l1.length : Int)) = true := bne_iff_ne.mpr c3
   have c3b2 : (l0.length == l1.length) = false := by first | simpa using c3 | (simp at c3 ⊢; omega)
   obtain rfl := Option.some.inj H
   go_enter Try.func25, Try.ntmps25
   go_wp2
   go_ret
   exact ⟨by first | rfl | (simp [errW_none, errW_some] <;> rfl) | (simp [*, errW_none, errW_some] <;> rfl), zB⟩

/-! ### laws_eqSpace: function 8 -/
def laws_eqSpace.f (k : Nat) (l0_0 : List (List Int)) (l0_1 : List (S50)) (l1_0 : List (List Int)) (l1_1 : List (S50)) : Option (Bool) := (laws_eqIntSS.f k l0_0 l1_0).bind fun t145 => (if t145 = true then ((laws_eqIntA2S.f k l0_1 l1_1).bind fun t146 => (if t146 = true then (some true) else (some false))) else (some false))
set_option maxHeartbeats 8000000 in
set_option maxRecDepth 100000 in
theorem laws_eqSpace.calls (k : Nat) (A0_0 : Option Addr) (c0_0 : Nat) (l0_0 : List (List Int)) (A0_1 : Option Addr) (c0_1 : Nat) (l0_1 : List (S50)) (A1_0 : Option Addr) (c1_0 : Nat) (l1_0 : List (List Int)) (A1_1 : Option Addr) (c1_1 : Nat) (l1_1 : List (S50)) (r : Bool) (w : World) (hr0_0 : Kd.C (Kd.slice 3 (Kd.int .i64)) w A0_0 l0_0.length l0_0) (hc0_0 : l0_0.length ≤ c0_0) (hr0_1 : Kd.C k50 w A0_1 l0_1.length l0_1) (hc0_1 : l0_1.length ≤ c0_1) (hr1_0 : Kd.C (Kd.slice 3 (Kd.int .i64)) w A1_0 l1_0.length l1_0) (hc1_0 : l1_0.length ≤ c1_0) (hr1_1 : Kd.C k50 w A1_1 l1_1.length l1_1) (hc1_1 : l1_1.length ≤ c1_1) (h : laws_eqSpace.f k l0_0 l0_1 l1_0 l1_1 = some r) :
 Calls Try.prog 8 #[.agg #[.slice A0_0 l0_0.length c0_0, .slice A0_1 l0_1.length c0_1], .agg #[.slice A1_0 l1_0.length c1_0, .slice A1_1 l1_1.length c1_1]] w fun e w' => e = .returned (.bool r) ∧ Below w.heap.size w w' := by
 have hu29 := Try.underlying29
 have HR0_0 := Aside0.mk hr0_0
 have HC0_0 := Aside0.mk hc0_0
 clear hr0_0 hc0_0
 have HR0_1 := Aside0.mk hr0_1
 have HC0_1 := Aside0.mk hc0_1
 clear hr0_1 hc0_1
 have HR1_0 := Aside0.mk hr1_0
 have HC1_0 := Aside0.mk hc1_0
 clear hr1_0 hc1_0
 have HR1_1 := Aside0.mk hr1_1
 have HC1_1 := Aside0.mk hc1_1
 clear hr1_1 hc1_1
 have HB := zM (Below.refl w.heap.size w)
 have H : ((laws_eqIntSS.f k l0_0 l1_0).bind fun t145 => (if t145 = true then ((laws_eqIntA2S.f k l0_1 l1_1).bind fun t146 => (if t146 = true then (some true) else (some false))) else (some false))) = some r := h
 clear h
 replace H := Option.bind_eq_some_iff.mp H
 obtain ⟨t145, A30, H⟩ := H
 have A3 := Aside0.mk A30
 clear A30
 by_cases c4 : t145 = true
 · subst c4
   rw [if_pos rfl] at H
   replace H := Option.bind_eq_some_iff.mp H
   obtain ⟨t146, A50, H⟩ := H
   have A5 := Aside0.mk A50
   clear A50
   by_cases c6 : t146 = true
   · subst c6
     rw [if_pos rfl] at H
     obtain rfl := Option.some.inj H
     go_enter Try.func8, Try.ntmps8
     go_wp2_with (first | ((with_reducible refine gate_dst (N := 2) rfl ?_); refine zb (w := w) 2 #[.slice A0_0 l0_0.length c0_0, .slice A0_1 l0_1.length c0_1] 29 zB ?_; clear HB; intro gb143 w7 HB BK143 GW143; have GE143 := GW143) | ((with_reducible refine gate_dst (N := 3) rfl ?_); refine ze 3 #[.slice A1_0 l1_0.length c1_0, .slice A1_1 l1_1.length c1_1] 29 ?_; intro gb144 hg w8 hbox hb; have BK144 := zM (hbox); have GW144 := zM ((by rw [hg]; exact (below_size zB) : w.heap.size ≤ gb144)); have GE144 := zM ((by rw [hg]; exact (below_size zB) : w.heap.size ≤ gb144)); replace HB := zM (below_step zB hb); have NB143_144 := zM ((by rw [hg]; exact Nat.ne_of_lt (blk_lt (g := gb143) (o := .cells #[.slice A0_0 l0_0.length c0_0, .slice A0_1 l0_1.length c0_1] 29 (0, 0)) (zK BK143.out)) : gb143 ≠ gb144)); have NB144_143 := zM ((by rw [hg]; exact Nat.ne_of_gt (blk_lt (g := gb143) (o := .cells #[.slice A0_0 l0_0.length c0_0, .slice A0_1 l0_1.length c0_1] 29 (0, 0)) (zK BK143.out)) : gb144 ≠ gb143)); replace BK143 := zM (blk_below (g := gb143) (o := .cells #[.slice A0_0 l0_0.length c0_0, .slice A0_1 l0_1.length c0_1] 29 (0, 0)) (zK BK143.out) hb); clear hb hbox hg; have hnb9 := NB143_144.out; have hnc9 := NB144_143.out; have hcz10_0 := zy BK143 0; have hcz10_1 := zy BK143 1; have hfz10_0 := blk_frozen BK143.out 0; have hfz10_1 := blk_frozen BK143.out 1; have hcz11_0 := zy BK144 0; have hcz11_1 := zy BK144 1; have hfz11_0 := blk_frozen BK144.out 0; have hfz11_1 := blk_frozen BK144.out 1) | ((with_reducible refine gate_callee (f := 24) rfl ?_); refine zc 9 Try.func24 #[.slice A0_0 l0_0.length c0_0, .slice A1_0 l1_0.length c1_0] ?_; (with_reducible refine (laws_eqIntSS.calls k _ _ l0_0 _ _ l1_0 true _ ?side1 ?side2 ?side3 ?side4 A3.out).mono ?_); (case side1 => exact zC (Kd.C_below HR0_0.out HB.out)); (case side2 => exact HC0_0.out); (case side3 => exact zC (Kd.C_below HR1_0.out HB.out)); (case side4 => exact HC1_0.out); rintro e w' ⟨rfl, ⟨nd, rfl⟩⟩; refine ⟨_, rfl, ?_⟩) | ((with_reducible refine gate_callee (f := 25) rfl ?_); refine zc 15 Try.func25 #[.slice A0_1 l0_1.length c0_1, .slice A1_1 l1_1.length c1_1] ?_; (with_reducible refine (laws_eqIntA2S.calls k _ _ l0_1 _ _ l1_1 true _ ?side1 ?side2 ?side3 ?side4 A5.out).mono ?_); (case side1 => exact zC (Kd.C_below HR0_1.out zB)); (case side2 => exact HC0_1.out); (case side3 => exact zC (Kd.C_below HR1_1.out zB)); (case side4 => exact HC1_1.out); rintro e w12 ⟨rfl, hb⟩; refine ⟨_, rfl, ?_⟩; replace BK143 := zM (blk_below (g := gb143) (o := .cells #[.slice A0_0 l0_0.length c0_0, .slice A0_1 l0_1.length c0_1] 29 (0, 0)) (zK BK143.out) hb); replace BK144 := zM (blk_below (g := gb144) (o := .cells #[.slice A1_0 l1_0.length c1_0, .slice A1_1 l1_1.length c1_1] 29 (0, 0)) (zK BK144.out) hb); replace HB := zM (below_step zB hb); (try clear hb); (try clear hb2); (try clear hk); (try clear hi)))
     go_ret
     exact ⟨by first | rfl | (simp [errW_none, errW_some] <;> rfl) | (simp [*, errW_none, errW_some] <;> rfl), zB⟩
   · replace c6 := Bool.eq_false_iff.mpr c6
     subst c6
     have H1 : (some false) = some r := by rw [if_neg (show ¬ (false = true) by decide)] at H; exact H
     clear H
     have H := H1
     clear H1
     obtain rfl := Option.some.inj H
     go_enter Try.func8, Try.ntmps8
     go_wp2_with (first | ((with_reducible refine gate_dst (N := 2) rfl ?_); refine zb (w := w) 2 #[.slice A0_0 l0_0.length c0_0, .slice A0_1 l0_1.length c0_1] 29 zB ?_; clear HB; intro gb143 w13 HB BK143 GW143; have GE143 := GW143) | ((with_reducible refine gate_dst (N := 3) rfl ?_); refine ze 3 #[.slice A1_0 l1_0.length c1_0, .slice A1_1 l1_1.length c1_1] 29 ?_; intro gb144 hg w14 hbox hb; have BK144 := zM (hbox); have GW144 := zM ((by rw [hg]; exact (below_size zB) : w.heap.size ≤ gb144)); have GE144 := zM ((by rw [hg]; exact (below_size zB) : w.heap.size ≤ gb144)); replace HB := zM (below_step zB hb); have NB143_144 := zM ((by rw [hg]; exact Nat.ne_of_lt (blk_lt (g := gb143) (o := .cells #[.slice A0_0 l0_0.length c0_0, .slice A0_1 l0_1.length c0_1] 29 (0, 0)) (zK BK143.out)) : gb143 ≠ gb144)); have NB144_143 := zM ((by rw [hg]; exact Nat.ne_of_gt (blk_lt (g := gb143) (o := .cells #[.slice A0_0 l0_0.length c0_0, .slice A0_1 l0_1.length c0_1] 29 (0, 0)) (zK BK143.out)) : gb144 ≠ gb143)); replace BK143 := zM (blk_below (g := gb143) (o := .cells #[.slice A0_0 l0_0.length c0_0, .slice A0_1 l0_1.length c0_1] 29 (0, 0)) (zK BK143.out) hb); clear hb hbox hg; have hnb15 := NB143_144.out; have hnc15 := NB144_143.out; have hcz16_0 := zy BK143 0; have hcz16_1 := zy BK143 1; have hfz16_0 := blk_frozen BK143.out 0; have hfz16_1 := blk_frozen BK143.out 1; have hcz17_0 := zy BK144 0; have hcz17_1 := zy BK144 1; have hfz17_0 := blk_frozen BK144.out 0; have hfz17_1 := blk_frozen BK144.out 1) | ((with_reducible refine gate_callee (f := 24) rfl ?_); refine zc 9 Try.func24 #[.slice A0_0 l0_0.length c0_0, .slice A1_0 l1_0.length c1_0] ?_; (with_reducible refine (laws_eqIntSS.calls k _ _ l0_0 _ _ l1_0 true _ ?side1 ?side2 ?side3 ?side4 A3.out).mono ?_); (case side1 => exact zC (Kd.C_below HR0_0.out HB.out)); (case side2 => exact HC0_0.out); (case side3 => exact zC (Kd.C_below HR1_0.out HB.out)); (case side4 => exact HC1_0.out); rintro e w' ⟨rfl, ⟨nd, rfl⟩⟩; refine ⟨_, rfl, ?_⟩) | ((with_reducible refine gate_callee (f := 25) rfl ?_); refine zc 15 Try.func25 #[.slice A0_1 l0_1.length c0_1, .slice A1_1 l1_1.length c1_1] ?_; (with_reducible refine (laws_eqIntA2S.calls k _ _ l0_1 _ _ l1_1 false _ ?side1 ?side2 ?side3 ?side4 A5.out).mono ?_); (case side1 => exact zC (Kd.C_below HR0_1.out zB)); (case side2 => exact HC0_1.out); (case side3 => exact zC (Kd.C_below HR1_1.out zB)); (case side4 => exact HC1_1.out); rintro e w18 ⟨rfl, hb⟩; refine ⟨_, rfl, ?_⟩; replace BK143 := zM (blk_below (g := gb143) (o := .cells #[.slice A0_0 l0_0.length c0_0, .slice A0_1 l0_1.length c0_1] 29 (0, 0)) (zK BK143.out) hb); replace BK144 := zM (blk_below (g := gb144) (o := .cells #[.slice A1_0 l1_0.length c1_0, .slice A1_1 l1_1.length c1_1] 29 (0, 0)) (zK BK144.out) hb); replace HB := zM (below_step zB hb); (try clear hb); (try clear hb2); (try clear hk); (try clear hi)))
     go_ret
     exact ⟨by first | rfl | (simp [errW_none, errW_some] <;> rfl) | (simp [*, errW_none, errW_some] <;> rfl), zB⟩
 · replace c4 := Bool.eq_false_iff.mpr c4
   subst c4
   have H1 : (some false) = some r := by rw [if_neg (show ¬ (false = true) by decide)] at H; exact H
   clear H
   have H := H1
   clear H1
   obtain rfl := Option.some.inj H
   go_enter Try.func8, Try.ntmps8
   go_wp2_with (first | ((with_reducible refine gate_dst (N := 2) rfl ?_); refine zb (w := w) 2 #[.slice A0_0 l0_0.length c0_0, .slice A0_1 l0_1.length c0_1] 29 zB ?_; clear HB; intro gb143 w19 HB BK143 GW143; have GE143 := GW143) | ((with_reducible refine gate_dst (N := 3) rfl ?_); refine ze 3 #[.slice A1_0 l1_0.length c1_0, .slice A1_1 l1_1.length c1_1] 29 ?_; intro gb144 hg w20 hbox hb; have BK144 := zM (hbox); have GW144 := zM ((by rw [hg]; exact (below_size zB) : w.heap.size ≤ gb144)); have GE144 := zM ((by rw [hg]; exact (below_size zB) : w.heap.size ≤ gb144)); replace HB := zM (below_step zB hb); have NB143_144 := zM ((by rw [hg]; exact Nat.ne_of_lt (blk_lt (g := gb143) (o := .cells #[.slice A0_0 l0_0.length c0_0, .slice A0_1 l0_1.length c0_1] 29 (0, 0)) (zK BK143.out)) : gb143 ≠ gb144)); have NB144_143 := zM ((by rw [hg]; exact Nat.ne_of_gt (blk_lt (g := gb143) (o := .cells #[.slice A0_0 l0_0.length c0_0, .slice A0_1 l0_1.length c0_1] 29 (0, 0)) (zK BK143.out)) : gb144 ≠ gb143)); replace BK143 := zM (blk_below (g := gb143) (o := .cells #[.slice A0_0 l0_0.length c0_0, .slice A0_1 l0_1.length c0_1] 29 (0, 0)) (zK BK143.out) hb); clear hb hbox hg; have hnb21 := NB143_144.out; have hnc21 := NB144_143.out; have hcz22_0 := zy BK143 0; have hcz22_1 := zy BK143 1; have hfz22_0 := blk_frozen BK143.out 0; have hfz22_1 := blk_frozen BK143.out 1; have hcz23_0 := zy BK144 0; have hcz23_1 := zy BK144 1; have hfz23_0 := blk_frozen BK144.out 0; have hfz23_1 := blk_frozen BK144.out 1) | ((with_reducible refine gate_callee (f := 24) rfl ?_); refine zc 9 Try.func24 #[.slice A0_0 l0_0.length c0_0, .slice A1_0 l1_0.length c1_0] ?_; (with_reducible refine (laws_eqIntSS.calls k _ _ l0_0 _ _ l1_0 false _ ?side1 ?side2 ?side3 ?side4 A3.out).mono ?_); (case side1 => exact zC (Kd.C_below HR0_0.out HB.out)); (case side2 => exact HC0_0.out); (case side3 => exact zC (Kd.C_below HR1_0.out HB.out)); (case side4 => exact HC1_0.out); rintro e w' ⟨rfl, ⟨nd, rfl⟩⟩; refine ⟨_, rfl, ?_⟩))
   go_ret
   exact ⟨by first | rfl | (simp [errW_none, errW_some] <;> rfl) | (simp [*, errW_none, errW_some] <;> rfl), zB⟩

end Go.Proofs.Ytopgbijegnnjbaa.P
namespace Go.Proofs.Ytopgbijegnnjbaa.P
open Go.RowKit Go.Proofs.YtopgbijegnnjbaaW.PrintWords Go.Proofs.YtopgbijegnnjbaaW.PrintLast Go.Proofs.YtopgbijegnnjbaaW.PrintMore
set_option linter.unusedVariables false
set_option linter.unusedSimpArgs false
section
variable {α β : Type}
theorem Ev.pos {c : Prop} [Decidable c] {f g : Nat → Option α} {r : α} (h : c) (k : Ev f r) : Ev (fun n => if c then f n else g n) r := by simpa only [if_pos h] using k
theorem Ev.neg {c : Prop} [Decidable c] {f g : Nat → Option α} {r : α} (h : ¬ c) (k : Ev g r) : Ev (fun n => if c then f n else g n) r := by simpa only [if_neg h] using k
theorem Ev.bindo {o : Option α} {f : Nat → α → Option β} {a : α} {r : β} (h : o = some a) (k : Ev (fun n => f n a) r) : Ev (fun n => o.bind (f n)) r := by simpa only [h, Option.bind_some] using k
theorem Ev.some {o : Option α} {r : α} (h : o = some r) : Ev (fun _ => o) r := ⟨0, fun _ _ => h⟩
end
theorem wrap_nat {m : Int} (h : -9223372036854775808 ≤ m) (h2 : m ≤ 9223372036854775807) : wrap64 m = m := by unfold wrap64; omega
theorem wrap_up {m n : Nat} (h : m < n) (hn : n ≤ 9223372036854775807) : wrap64 ((m : Int) + 1) = ((m + 1 : Nat) : Int) := by unfold wrap64; omega
theorem rd_at (l : List Int) (m : Nat) (h : m < l.length) : rd l (m : Int) = l[m] := by simp [rd, List.getD_eq_getElem?_getD, List.getElem?_eq_getElem h]
theorem rdT_at (l : List S50) (m : Nat) (h : m < l.length) : rd_T50 l (m : Int) = l[m] := by simp [rd_T50, List.getD_eq_getElem?_getD, List.getElem?_eq_getElem h]

/-! Copies. -/
theorem take_set_next {α : Type} (l acc : List α) (m : Nat) (hm : m < l.length) (ha : acc.length = l.length) (h : acc.take m = l.take m) : (acc.set m l[m]).take (m + 1) = l.take (m + 1) := by
  rw [List.take_succ_eq_append_getElem (by rw [List.length_set]; omega), List.take_succ_eq_append_getElem hm, List.getElem_set_self, List.take_set_of_le (Nat.le_refl _), h]
theorem toIntA2S_loop (l : List S50) (hl : l.length ≤ 1048576) (d : Nat) : ∀ (acc : List S50) (m : Nat), l.length - m = d → m ≤ l.length → acc.length = l.length → acc.take m = l.take m →
    Ev (fun k => laws_toIntA2S.l0 k l acc (m : Int)) l := by
  induction d with
  | zero =>
    intro acc m h0 h1 h2 h3
    refine Ev.step (fun k => by rw [laws_toIntA2S.l0]) ?_
    refine Ev.neg (by omega) ?_
    have : acc = l := by rw [← List.take_length (l := acc), ← List.take_length (l := l), h2, show l.length = m by omega]; exact h3
    rw [this]
    exact Ev.now _
  | succ d ih =>
    intro acc m h0 h1 h2 h3
    have hm : m < l.length := by omega
    refine Ev.step (fun k => by rw [laws_toIntA2S.l0]) ?_
    refine Ev.pos (by omega) (Ev.pos (by omega) (Ev.bindo rfl (Ev.pos (by omega) ?_)))
    rw [wrap_up hm (by omega), rdT_at l m hm, Int.toNat_natCast]
    exact ih _ (m + 1) (by omega) (by omega) (by rw [List.length_set]; exact h2) (take_set_next l acc m hm h2 h3)
theorem toIntA2S_ev (l : List S50) (hl : l.length ≤ 1048576) : Ev (fun k => laws_toIntA2S.f k l) l := by
  unfold laws_toIntA2S.f
  refine Ev.pos (by omega) (Ev.pos (by omega) ?_)
  exact toIntA2S_loop l hl l.length _ 0 (by omega) (Nat.zero_le _) (by simp) (by simp)
theorem toIntS_loop (l : List Int) (hl : l.length ≤ 1048576) (d : Nat) : ∀ (acc : List Int) (m : Nat), l.length - m = d → m ≤ l.length → acc.length = l.length → acc.take m = l.take m →
    Ev (fun k => laws_toIntS.l0 k l acc (m : Int)) l := by
  induction d with
  | zero =>
    intro acc m h0 h1 h2 h3
    refine Ev.step (fun k => by rw [laws_toIntS.l0]) ?_
    refine Ev.neg (by omega) ?_
    have : acc = l := by rw [← List.take_length (l := acc), ← List.take_length (l := l), h2, show l.length = m by omega]; exact h3
    rw [this]
    exact Ev.now _
  | succ d ih =>
    intro acc m h0 h1 h2 h3
    have hm : m < l.length := by omega
    refine Ev.step (fun k => by rw [laws_toIntS.l0]) ?_
    refine Ev.pos (by omega) (Ev.pos (by omega) (Ev.pos (by omega) ?_))
    rw [wrap_up hm (by omega), rd_at l m hm, Int.toNat_natCast]
    exact ih _ (m + 1) (by omega) (by omega) (by rw [List.length_set]; exact h2) (take_set_next l acc m hm h2 h3)
theorem toIntS_ev (l : List Int) (hl : l.length ≤ 1048576) : Ev (fun k => laws_toIntS.f k l) l := by
  unfold laws_toIntS.f
  refine Ev.pos (by omega) (Ev.pos (by omega) ?_)
  exact toIntS_loop l hl l.length _ 0 (by omega) (Nat.zero_le _) (by simp) (by simp)
/-! Comparisons of equals. -/
theorem eqIntA2S_loop (l : List S50) (hl : l.length ≤ 1048576) (d : Nat) : ∀ (m : Nat), l.length - m = d → m ≤ l.length → Ev (fun k => laws_eqIntA2S.l0 k l l (m : Int)) true := by
  induction d with
  | zero =>
    intro m h0 h1
    refine Ev.step (fun k => by rw [laws_eqIntA2S.l0]) ?_
    exact Ev.neg (by omega) (Ev.now _)
  | succ d ih =>
    intro m h0 h1
    have hm : m < l.length := by omega
    refine Ev.step (fun k => by rw [laws_eqIntA2S.l0]) ?_
    refine Ev.pos (by omega) (Ev.pos (by omega) (Ev.pos (by omega) (Ev.bindo (a := true) (by simp [laws_eqIntA2.f]) (Ev.pos rfl ?_))))
    rw [wrap_up hm (by omega)]
    exact ih (m + 1) (by omega) (by omega)
theorem eqIntA2S_ev (l : List S50) (hl : l.length ≤ 1048576) : Ev (fun k => laws_eqIntA2S.f k l l) true := by
  unfold laws_eqIntA2S.f
  exact Ev.pos rfl (eqIntA2S_loop l hl l.length 0 (by omega) (Nat.zero_le _))
theorem eqIntS_loop (l : List Int) (hl : l.length ≤ 1048576) (d : Nat) : ∀ (m : Nat), l.length - m = d → m ≤ l.length → Ev (fun k => laws_eqIntS.l0 k l l (m : Int)) true := by
  induction d with
  | zero =>
    intro m h0 h1
    refine Ev.step (fun k => by rw [laws_eqIntS.l0]) ?_
    exact Ev.neg (by omega) (Ev.now _)
  | succ d ih =>
    intro m h0 h1
    have hm : m < l.length := by omega
    refine Ev.step (fun k => by rw [laws_eqIntS.l0]) ?_
    refine Ev.pos (by omega) (Ev.pos (by omega) (Ev.pos (by omega) (Ev.pos rfl ?_)))
    rw [wrap_up hm (by omega)]
    exact ih (m + 1) (by omega) (by omega)
theorem eqIntS_ev (l : List Int) (hl : l.length ≤ 1048576) : Ev (fun k => laws_eqIntS.f k l l) true := by
  unfold laws_eqIntS.f
  exact Ev.pos rfl (eqIntS_loop l hl l.length 0 (by omega) (Nat.zero_le _))
end Go.Proofs.Ytopgbijegnnjbaa.P
namespace Go.Proofs.Ytopgbijegnnjbaa.P
open Go.RowKit Go.Proofs.YtopgbijegnnjbaaW.PrintWords Go.Proofs.YtopgbijegnnjbaaW.PrintLast Go.Proofs.YtopgbijegnnjbaaW.PrintMore
set_option linter.unusedVariables false
set_option linter.unusedSimpArgs false

theorem in_at (a lo hi : Int) : spec_l1In.f a lo hi = some (decide (lo ≤ a) && decide (a ≤ hi)) := by
  unfold spec_l1In.f
  by_cases h : lo ≤ a
  · rw [if_pos h, decide_eq_true h, Bool.true_and]
  · rw [if_neg h, decide_eq_false h, Bool.false_and]
theorem between_at (a lo hi : Int) : impl_between.f a lo hi = some (decide (lo ≤ a) && decide (a ≤ hi)) := by
  unfold impl_between.f
  by_cases h : lo ≤ a
  · rw [if_pos h, decide_eq_true h, Bool.true_and]
  · rw [if_neg h, decide_eq_false h, Bool.false_and]
/-- A pair comes before another one. -/
def befP (a b : S50) : Bool := decide (a.f0 < b.f0) || (decide (a.f0 = b.f0) && decide (a.f1 < b.f1))
theorem edge_at (a b : S50) : spec_l2Edge.f a.f0 a.f1 b.f0 b.f1 = some (befP a b) := by
  unfold spec_l2Edge.f befP
  by_cases h : a.f0 < b.f0
  · rw [if_pos h, decide_eq_true h, Bool.true_or]
  · rw [if_neg h, decide_eq_false h, Bool.false_or]
    by_cases h2 : a.f0 = b.f0
    · rw [if_pos h2, decide_eq_true h2, Bool.true_and]
    · rw [if_neg h2, decide_eq_false h2, Bool.false_and]
theorem cmpP_bef (a b : S50) : (cmpP a b < 0) ↔ befP a b = true := by
  unfold cmpP befP cmpI
  simp only [Bool.or_eq_true, Bool.and_eq_true, decide_eq_true_eq]
  by_cases h : a.f0 < b.f0
  · simp [h]
  · by_cases h2 : b.f0 < a.f0
    · have : ¬ a.f0 = b.f0 := by omega
      simp [h, h2, this]
    · have h3 : a.f0 = b.f0 := by omega
      by_cases h4 : a.f1 < b.f1
      · simp [h3, h4]
      · by_cases h5 : b.f1 < a.f1 <;> simp [h3, h4, h5]
/-- Pairs of numbers from 0 on below n, the less one first, strictly ascending behind a first one. -/
def goodP (n : Int) : Option S50 → List S50 → Bool
  | _, [] => true
  | p, e :: t => (decide (0 ≤ e.f0) && decide (e.f0 < e.f1) && decide (e.f1 < n)) && ((match p with | none => true | some q => befP q e) && goodP n (some e) t)
def prevP (l : List S50) : Nat → Option S50
  | 0 => none
  | m + 1 => l[m]?
theorem goodP_step (l : List S50) (n : Int) (m : Nat) (hm : m < l.length) : goodP n (prevP l m) (l.drop m) = ((decide (0 ≤ l[m].f0) && decide (l[m].f0 < l[m].f1) && decide (l[m].f1 < n)) && ((match prevP l m with | none => true | some q => befP q l[m]) && goodP n (prevP l (m + 1)) (l.drop (m + 1)))) := by
  rw [List.drop_eq_getElem_cons hm, show prevP l (m + 1) = some l[m] from List.getElem?_eq_getElem hm]
  cases prevP l m <;> rfl
theorem l2Pairs_loop (l : List S50) (n : Int) (hn : 0 ≤ n) (hn2 : n ≤ 4611686018427387904) (hl : l.length ≤ 1048576) (d : Nat) : ∀ (m : Nat), l.length - m = d → m ≤ l.length →
    Ev (fun k => spec_l2Pairs.l0 k l n (m : Int)) (goodP n (prevP l m) (l.drop m)) := by
  induction d with
  | zero =>
    intro m h0 h1
    refine Ev.step (fun k => by rw [spec_l2Pairs.l0]) ?_
    have e3 : l.drop m = [] := List.drop_eq_nil_of_le (by omega)
    rw [e3]
    refine Ev.neg (by omega) ?_
    cases prevP l m <;> exact Ev.now _
  | succ d ih =>
    intro m h0 h1
    have hm : m < l.length := by omega
    refine Ev.step (fun k => by rw [spec_l2Pairs.l0]) ?_
    rw [goodP_step l n m hm]
    refine Ev.pos (by omega) (Ev.pos (by omega) ?_)
    rw [rdT_at l m hm, wrap_nat (m := n - 1) (by omega) (by omega)]
    have ihm := ih (m + 1) (by omega) (by omega)
    rw [← wrap_up hm (by omega)] at ihm
    generalize goodP n (prevP l (m + 1)) (l.drop (m + 1)) = R at ihm ⊢
    refine Ev.bindo (in_at _ _ _) ?_
    by_cases c1 : 0 ≤ l[m].f0
    · by_cases c2 : l[m].f0 ≤ n - 1
      · refine Ev.pos (by simp [c1, c2]) (Ev.bindo (in_at _ _ _) ?_)
        by_cases c3 : 0 ≤ l[m].f1 ∧ l[m].f1 ≤ n - 1
        · refine Ev.pos (by simp [c3.1, c3.2]) ?_
          by_cases c4 : l[m].f0 ≥ l[m].f1
          · have : (decide (0 ≤ l[m].f0) && decide (l[m].f0 < l[m].f1) && decide (l[m].f1 < n)) = false := by simp; omega
            rw [this, Bool.false_and]
            exact Ev.pos c4 (Ev.now _)
          · have : (decide (0 ≤ l[m].f0) && decide (l[m].f0 < l[m].f1) && decide (l[m].f1 < n)) = true := by simp; omega
            rw [this, Bool.true_and]
            refine Ev.neg c4 ?_
            cases m with
            | zero =>
              refine Ev.neg (by omega) ?_
              simp only [prevP, Bool.true_and]
              exact ihm
            | succ q =>
              have hq : q < l.length := by omega
              have hw : wrap64 (((q + 1 : Nat) : Int) - 1) = (q : Int) := by unfold wrap64; omega
              refine Ev.pos (by omega) ?_
              rw [hw]
              refine Ev.pos (by omega) (Ev.pos (by omega) ?_)
              rw [rdT_at l q hq]
              refine Ev.bindo (edge_at _ _) ?_
              simp only [prevP, List.getElem?_eq_getElem hq]
              cases befP l[q] l[q + 1] with
              | true => rw [Bool.true_and]; exact Ev.pos rfl ihm
              | false => rw [Bool.false_and]; exact Ev.neg (by decide) (Ev.now _)
        · have : (decide (0 ≤ l[m].f0) && decide (l[m].f0 < l[m].f1) && decide (l[m].f1 < n)) = false := by simp; omega
          rw [this, Bool.false_and]
          exact Ev.neg (by simp; omega) (Ev.now _)
      · have : (decide (0 ≤ l[m].f0) && decide (l[m].f0 < l[m].f1) && decide (l[m].f1 < n)) = false := by simp; omega
        rw [this, Bool.false_and]
        exact Ev.neg (by simp; omega) (Ev.now _)
    · have : (decide (0 ≤ l[m].f0) && decide (l[m].f0 < l[m].f1) && decide (l[m].f1 < n)) = false := by simp; omega
      rw [this, Bool.false_and]
      exact Ev.neg (by simp; omega) (Ev.now _)
theorem isPairs_loop (l : List S50) (n : Int) (hl : l.length ≤ 1048576) (d : Nat) : ∀ (m : Nat), l.length - m = d → m ≤ l.length →
    Ev (fun k => impl_isPairs.l0 k l n l (l.length : Int) (m : Int)) (goodP n (prevP l m) (l.drop m)) := by
  induction d with
  | zero =>
    intro m h0 h1
    refine Ev.step (fun k => by rw [impl_isPairs.l0]) ?_
    have e3 : l.drop m = [] := List.drop_eq_nil_of_le (by omega)
    rw [e3]
    refine Ev.neg (by omega) ?_
    cases prevP l m <;> exact Ev.now _
  | succ d ih =>
    intro m h0 h1
    have hm : m < l.length := by omega
    refine Ev.step (fun k => by rw [impl_isPairs.l0]) ?_
    rw [goodP_step l n m hm]
    refine Ev.pos (by omega) (Ev.pos (by omega) (Ev.pos (by omega) ?_))
    rw [rdT_at l m hm]
    have ihm := ih (m + 1) (by omega) (by omega)
    rw [← wrap_up hm (by omega)] at ihm
    generalize goodP n (prevP l (m + 1)) (l.drop (m + 1)) = R at ihm ⊢
    by_cases c1 : l[m].f0 < 0
    · have : (decide (0 ≤ l[m].f0) && decide (l[m].f0 < l[m].f1) && decide (l[m].f1 < n)) = false := by simp; omega
      rw [this, Bool.false_and]
      exact Ev.pos c1 (Ev.now _)
    · refine Ev.neg c1 ?_
      by_cases c2 : l[m].f0 ≥ l[m].f1
      · have : (decide (0 ≤ l[m].f0) && decide (l[m].f0 < l[m].f1) && decide (l[m].f1 < n)) = false := by simp; omega
        rw [this, Bool.false_and]
        exact Ev.pos c2 (Ev.now _)
      · refine Ev.neg c2 ?_
        by_cases c3 : l[m].f1 ≥ n
        · have : (decide (0 ≤ l[m].f0) && decide (l[m].f0 < l[m].f1) && decide (l[m].f1 < n)) = false := by simp; omega
          rw [this, Bool.false_and]
          exact Ev.pos c3 (Ev.now _)
        · have : (decide (0 ≤ l[m].f0) && decide (l[m].f0 < l[m].f1) && decide (l[m].f1 < n)) = true := by simp; omega
          rw [this, Bool.true_and]
          refine Ev.neg c3 ?_
          cases m with
          | zero =>
            refine Ev.neg (by omega) ?_
            simp only [prevP, Bool.true_and]
            exact ihm
          | succ q =>
            have hq : q < l.length := by omega
            have hw : wrap64 (((q + 1 : Nat) : Int) - 1) = (q : Int) := by unfold wrap64; omega
            refine Ev.pos (by omega) ?_
            rw [hw]
            refine Ev.pos (by omega) (Ev.pos (by omega) ?_)
            rw [rdT_at l q hq]
            refine Ev.bind (a := cmpP l[q] l[q + 1]) ⟨3, fun k hk => comparePairs_at _ _ k hk⟩ ?_
            simp only [prevP, List.getElem?_eq_getElem hq]
            have hb := cmpP_bef l[q] l[q + 1]
            cases hbb : befP l[q] l[q + 1] with
            | true => rw [Bool.true_and]; exact Ev.neg (by have := hb.2 hbb; omega) ihm
            | false => rw [Bool.false_and]; exact Ev.pos (by rw [hbb] at hb; have : ¬ cmpP l[q] l[q+1] < 0 := fun h => by have := hb.1 h; cases this
                                                             omega) (Ev.now _)
theorem l2Pairs_ev (l : List S50) (n : Int) (hn : 0 ≤ n) (hn2 : n ≤ 4611686018427387904) (hl : l.length ≤ 1048576) : Ev (fun k => spec_l2Pairs.f k l n) (goodP n none l) :=
  l2Pairs_loop l n hn hn2 hl l.length 0 (by omega) (Nat.zero_le _)
theorem isPairs_ev (l : List S50) (n : Int) (hl : l.length ≤ 1048576) : Ev (fun k => impl_isPairs.f k l n) (goodP n none l) :=
  isPairs_loop l n hl l.length 0 (by omega) (Nat.zero_le _)
/-- A valid graph. -/
def okG (a : Int) (l : List S50) : Bool := (decide (0 ≤ a) && decide (a ≤ 8)) && goodP a none l
end Go.Proofs.Ytopgbijegnnjbaa.P
namespace Go.Proofs.Ytopgbijegnnjbaa.P
open Go.RowKit Go.Proofs.YtopgbijegnnjbaaW.PrintWords Go.Proofs.YtopgbijegnnjbaaW.PrintLast Go.Proofs.YtopgbijegnnjbaaW.PrintMore
set_option linter.unusedVariables false
set_option linter.unusedSimpArgs false

theorem rdL_at (l : List (List Int)) (m : Nat) (h : m < l.length) : rd_L1 l (m : Int) = l[m] := by simp [rd_L1, List.getD_eq_getElem?_getD, List.getElem?_eq_getElem h]
/-- A space of moderate size. -/
def modS (l : List (List Int)) (e : List S50) : Prop := l.length ≤ 1048576 ∧ (∀ s ∈ l, s.length ≤ 1048576) ∧ e.length ≤ 1048576
theorem szIntSS_loop (l : List (List Int)) (hl : l.length ≤ 1048576) (hf : ∀ s ∈ l, s.length ≤ 9223372036854775807) (d : Nat) : ∀ (m : Nat) (c : Int), l.length - m = d → m ≤ l.length → 0 ≤ c → c ≤ 1048576 →
    ∃ t, Ev (fun k => laws_szIntSS.l0 k l c (m : Int)) t ∧ (t < 0 ∨ (0 ≤ t ∧ t ≤ c ∧ ∀ s ∈ l.drop m, s.length ≤ 1048576)) := by
  induction d with
  | zero =>
    intro m c h0 h1 h2 h3
    refine ⟨c, Ev.step (fun k => by rw [laws_szIntSS.l0]) (Ev.neg (by omega) (Ev.now _)), .inr ⟨h2, by omega, ?_⟩⟩
    rw [List.drop_eq_nil_of_le (by omega)]
    intro s hs
    simp at hs
  | succ d ih =>
    intro m c h0 h1 h2 h3
    have hm : m < l.length := by omega
    have hs := hf l[m] (List.getElem_mem hm)
    by_cases hc : c - (l[m].length : Int) < 0
    · refine ⟨-1, ?_, .inl (by omega)⟩
      refine Ev.step (fun k => by rw [laws_szIntSS.l0]) ?_
      refine Ev.pos (by omega) (Ev.pos (by omega) ?_)
      refine Ev.bindo (a := (-1 : Int)) ?_ (Ev.pos (by omega) (Ev.now _))
      unfold laws_szIntS.f
      rw [rdL_at l m hm, wrap_nat (m := c - (l[m].length : Int)) (by omega) (by omega), if_pos hc]
    · obtain ⟨t, ht, hd⟩ := ih (m + 1) (c - (l[m].length : Int)) (by omega) (by omega) (by omega) (by omega)
      refine ⟨t, ?_, ?_⟩
      · refine Ev.step (fun k => by rw [laws_szIntSS.l0]) ?_
        refine Ev.pos (by omega) (Ev.pos (by omega) ?_)
        refine Ev.bindo (a := c - (l[m].length : Int)) ?_ (Ev.neg (by omega) ?_)
        · unfold laws_szIntS.f
          rw [rdL_at l m hm, wrap_nat (m := c - (l[m].length : Int)) (by omega) (by omega), if_neg hc]
        · rw [wrap_up hm (by omega)]
          exact ht
      · rcases hd with hd | ⟨h4, h5, h6⟩
        · exact .inl hd
        · refine .inr ⟨h4, by omega, ?_⟩
          rw [List.drop_eq_getElem_cons hm]
          intro s hs
          rcases List.mem_cons.1 hs with rfl | hs
          · omega
          · exact h6 s hs
theorem sz_space (l : List (List Int)) (e : List S50) (hl : FitLL l) (he : e.length ≤ 9223372036854775807) : ∃ t, Ev (fun k => laws_szSpace.f k l e 1048576) t ∧ (t < 0 ∨ modS l e) := by
  unfold laws_szSpace.f laws_szIntSS.f
  have h1 := hl.1
  have hw : wrap64 (1048576 - (l.length : Int)) = 1048576 - (l.length : Int) := wrap_nat (by omega) (by omega)
  rw [hw]
  by_cases h : 1048576 - (l.length : Int) < 0
  · exact ⟨-1, Ev.bind (Ev.pos h (Ev.now _)) (Ev.pos (by omega) (Ev.now _)), .inl (by omega)⟩
  · obtain ⟨t, ht, hd⟩ := szIntSS_loop l (by omega) (fun s hs => (hl.2 s hs).1) l.length 0 (1048576 - (l.length : Int)) (by omega) (Nat.zero_le _) (by omega) (by omega)
    rcases hd with hd | ⟨h4, h5, h6⟩
    · exact ⟨-1, Ev.bind (Ev.neg h ht) (Ev.pos hd (Ev.now _)), .inl (by omega)⟩
    · have hw2 : wrap64 (t - (e.length : Int)) = t - (e.length : Int) := wrap_nat (by omega) (by omega)
      by_cases h7 : t - (e.length : Int) < 0
      · refine ⟨-1, Ev.bind (Ev.neg h ht) (Ev.neg (by omega) (Ev.bindo (a := (-1 : Int)) ?_ (Ev.pos (by decide : (-1 : Int) < 0) (Ev.now _)))), .inl (by omega)⟩
        unfold laws_szIntA2S.f
        rw [hw2, if_pos h7]
      · refine ⟨t - (e.length : Int), Ev.bind (Ev.neg h ht) (Ev.neg (by omega) (Ev.bindo (a := t - (e.length : Int)) ?_ (Ev.neg h7 (Ev.now _)))), .inr ⟨by omega, ?_, by omega⟩⟩
        · unfold laws_szIntA2S.f
          rw [hw2, if_neg h7]
        · simpa only [List.drop_zero] using h6
/-! Copies. -/
theorem toIntSS_loop (l : List (List Int)) (hl : l.length ≤ 1048576) (hs : ∀ s ∈ l, s.length ≤ 1048576) (d : Nat) : ∀ (acc : List (List Int)) (m : Nat), l.length - m = d → m ≤ l.length → acc.length = l.length → acc.take m = l.take m →
    Ev (fun k => laws_toIntSS.l0 k l acc (m : Int)) l := by
  induction d with
  | zero =>
    intro acc m h0 h1 h2 h3
    refine Ev.step (fun k => by rw [laws_toIntSS.l0]) ?_
    refine Ev.neg (by omega) ?_
    have : acc = l := by rw [← List.take_length (l := acc), ← List.take_length (l := l), h2, show l.length = m by omega]; exact h3
    rw [this]
    exact Ev.now _
  | succ d ih =>
    intro acc m h0 h1 h2 h3
    have hm : m < l.length := by omega
    refine Ev.step (fun k => by rw [laws_toIntSS.l0]) ?_
    refine Ev.pos (by omega) (Ev.pos (by omega) ?_)
    rw [rdL_at l m hm]
    refine Ev.bind (toIntS_ev l[m] (hs _ (List.getElem_mem hm))) (Ev.pos (by omega) ?_)
    rw [wrap_up hm (by omega), Int.toNat_natCast]
    exact ih _ (m + 1) (by omega) (by omega) (by rw [List.length_set]; exact h2) (take_set_next l acc m hm h2 h3)
theorem toIntSS_ev (l : List (List Int)) (hl : l.length ≤ 1048576) (hs : ∀ s ∈ l, s.length ≤ 1048576) : Ev (fun k => laws_toIntSS.f k l) l := by
  unfold laws_toIntSS.f
  refine Ev.pos (by omega) (Ev.pos (by omega) ?_)
  exact toIntSS_loop l hl hs l.length _ 0 (by omega) (Nat.zero_le _) (by simp) (by simp)
theorem toSpace_ev (l : List (List Int)) (e : List S50) (h : modS l e) : Ev (fun k => laws_toSpace.f k l e) (l, e) := by
  unfold laws_toSpace.f
  exact Ev.bind (toIntSS_ev l h.1 h.2.1) (Ev.bind (toIntA2S_ev e h.2.2) (Ev.now _))
/-! Comparisons of equals. -/
theorem eqIntSS_loop (l : List (List Int)) (hl : l.length ≤ 1048576) (hs : ∀ s ∈ l, s.length ≤ 1048576) (d : Nat) : ∀ (m : Nat), l.length - m = d → m ≤ l.length → Ev (fun k => laws_eqIntSS.l0 k l l (m : Int)) true := by
  induction d with
  | zero =>
    intro m h0 h1
    refine Ev.step (fun k => by rw [laws_eqIntSS.l0]) ?_
    exact Ev.neg (by omega) (Ev.now _)
  | succ d ih =>
    intro m h0 h1
    have hm : m < l.length := by omega
    refine Ev.step (fun k => by rw [laws_eqIntSS.l0]) ?_
    refine Ev.pos (by omega) (Ev.pos (by omega) (Ev.pos (by omega) ?_))
    rw [rdL_at l m hm]
    refine Ev.bind (eqIntS_ev l[m] (hs _ (List.getElem_mem hm))) (Ev.pos rfl ?_)
    rw [wrap_up hm (by omega)]
    exact ih (m + 1) (by omega) (by omega)
theorem eqIntSS_ev (l : List (List Int)) (hl : l.length ≤ 1048576) (hs : ∀ s ∈ l, s.length ≤ 1048576) : Ev (fun k => laws_eqIntSS.f k l l) true := by
  unfold laws_eqIntSS.f
  exact Ev.pos rfl (eqIntSS_loop l hl hs l.length 0 (by omega) (Nat.zero_le _))
theorem eqSpace_ev (l : List (List Int)) (e : List S50) (h : modS l e) : Ev (fun k => laws_eqSpace.f k l e l e) true := by
  unfold laws_eqSpace.f
  exact Ev.bind (eqIntSS_ev l h.1 h.2.1) (Ev.pos rfl (Ev.bind (eqIntA2S_ev e h.2.2) (Ev.pos rfl (Ev.now _))))
/-! A state, and states in order. -/
def okState (s : List Int) : Bool := decide ((s.length : Int) ≤ 24) && s.all fun x => decide (-99 ≤ x) && decide (x ≤ 99)
theorem isState_at (s : List Int) : impl_isState.f s = some (okState s) := by
  unfold impl_isState.f okState
  congr 2
  induction s with
  | nil => rfl
  | cons x t ih =>
    rw [List.any_cons, List.all_cons, Bool.not_or, ih]
    unfold outB
    rw [Bool.not_not]
theorem l2State_loop (s : List Int) (hl : s.length ≤ 1048576) (d : Nat) : ∀ (m : Nat), s.length - m = d → m ≤ s.length →
    Ev (fun k => spec_l2State.l0 k s (m : Int)) (decide ((s.length : Int) ≤ 24) && (s.drop m).all fun x => decide (-99 ≤ x) && decide (x ≤ 99)) := by
  induction d with
  | zero =>
    intro m h0 h1
    refine Ev.step (fun k => by rw [spec_l2State.l0]) (Ev.neg (by omega) ?_)
    rw [List.drop_eq_nil_of_le (by omega), List.all_nil, Bool.and_true]
    exact Ev.now _
  | succ d ih =>
    intro m h0 h1
    have hm : m < s.length := by omega
    refine Ev.step (fun k => by rw [spec_l2State.l0]) (Ev.pos (by omega) (Ev.pos (by omega) ?_))
    rw [rd_at s m hm, List.drop_eq_getElem_cons hm, List.all_cons]
    refine Ev.bindo (in_at _ _ _) ?_
    cases (decide (-99 ≤ s[m]) && decide (s[m] ≤ 99)) with
    | false => rw [Bool.false_and, Bool.and_false]; exact Ev.neg (by decide) (Ev.now _)
    | true =>
      rw [Bool.true_and, wrap_up hm (by omega)]
      exact Ev.pos rfl (ih (m + 1) (by omega) (by omega))
theorem l2State_ev (s : List Int) (hl : s.length ≤ 1048576) : Ev (fun k => spec_l2State.f k s) (okState s) :=
  l2State_loop s hl s.length 0 (by omega) (Nat.zero_le _)
/-- A list comes before another one. -/
def befL : List Int → List Int → Bool
  | [], [] => false
  | [], _ :: _ => true
  | _ :: _, [] => false
  | a :: x, b :: y => if a = b then befL x y else decide (a < b)
theorem l2Before_loop (x y : List Int) (hx : x.length ≤ 1048576) (hy : y.length ≤ 1048576) (d : Nat) : ∀ (m : Nat), x.length - m = d → m ≤ x.length → m ≤ y.length →
    Ev (fun k => spec_l2Before.l0 k x y (m : Int)) (befL (x.drop m) (y.drop m)) := by
  induction d with
  | zero =>
    intro m h0 h1 h2
    refine Ev.step (fun k => by rw [spec_l2Before.l0]) (Ev.neg (by omega) (Ev.step (fun k => by rw [spec_l2Before.j1]) (Ev.neg (by decide) ?_)))
    rw [show x.drop m = [] from List.drop_eq_nil_of_le (by omega)]
    by_cases h : m < y.length
    · rw [List.drop_eq_getElem_cons h, show decide ((x.length : Int) < (y.length : Int)) = true from decide_eq_true (by omega)]
      exact Ev.now _
    · rw [List.drop_eq_nil_of_le (by omega), show decide ((x.length : Int) < (y.length : Int)) = false from decide_eq_false (by omega)]
      exact Ev.now _
  | succ d ih =>
    intro m h0 h1 h2
    have hm : m < x.length := by omega
    refine Ev.step (fun k => by rw [spec_l2Before.l0]) (Ev.pos (by omega) (Ev.step (fun k => by rw [spec_l2Before.j1]) ?_))
    rw [List.drop_eq_getElem_cons hm]
    by_cases h : m < y.length
    · refine Ev.pos (decide_eq_true (by omega)) (Ev.pos (by omega) (Ev.pos (by omega) (Ev.pos (by omega) ?_)))
      rw [rd_at x m hm, rd_at y m h, List.drop_eq_getElem_cons h, befL]
      by_cases c : x[m] = y[m]
      · rw [if_pos c, wrap_up hm (by omega)]
        exact Ev.pos c (ih (m + 1) (by omega) (by omega) (by omega))
      · rw [if_neg c]
        exact Ev.neg c (Ev.now _)
    · refine Ev.neg (by rw [decide_eq_false (by omega)]; decide) ?_
      rw [show y.drop m = [] from List.drop_eq_nil_of_le (by omega), show decide ((x.length : Int) < (y.length : Int)) = false from decide_eq_false (by omega)]
      exact Ev.now _
theorem l2Before_ev (x y : List Int) (hx : x.length ≤ 1048576) (hy : y.length ≤ 1048576) : Ev (fun k => spec_l2Before.f k x y) (befL x y) :=
  l2Before_loop x y hx hy x.length 0 (by omega) (Nat.zero_le _) (Nat.zero_le _)
theorem cmpL_bef (x : List Int) : ∀ y, (cmpL x y ≥ 0) ↔ befL x y = false := by
  induction x with
  | nil => intro y; cases y <;> simp [cmpL, befL]
  | cons a x ih =>
    intro y
    cases y with
    | nil => simp [cmpL, befL]
    | cons b y =>
      simp only [cmpL, befL]
      unfold cmpI
      by_cases h : a < b
      · rw [if_pos h, if_neg (by decide), if_neg (by omega), decide_eq_true h]
        simp
      · rw [if_neg h]
        by_cases h2 : a > b
        · rw [if_pos h2, if_neg (by decide), if_neg (by omega), decide_eq_false h]
          simp
        · rw [if_neg h2, if_pos rfl, if_pos (by omega)]
          exact ih y
/-- States, each a state, strictly ascending behind a first one. -/
def goodS : Option (List Int) → List (List Int) → Bool
  | _, [] => true
  | p, s :: t => okState s && ((match p with | none => true | some q => befL q s) && goodS (some s) t)
def prevS (l : List (List Int)) : Nat → Option (List Int)
  | 0 => none
  | m + 1 => l[m]?
theorem goodS_step (l : List (List Int)) (m : Nat) (hm : m < l.length) : goodS (prevS l m) (l.drop m) = (okState l[m] && ((match prevS l m with | none => true | some q => befL q l[m]) && goodS (prevS l (m + 1)) (l.drop (m + 1)))) := by
  rw [List.drop_eq_getElem_cons hm, show prevS l (m + 1) = some l[m] from List.getElem?_eq_getElem hm]
  cases prevS l m <;> rfl
def okS (l : List (List Int)) (e : List S50) : Bool := (decide ((l.length : Int) ≤ 300) && decide ((e.length : Int) ≤ 6000)) && (goodS none l && goodP (l.length : Int) none e)
section
variable (l : List (List Int)) (e : List S50) (h : modS l e)
include h
theorem l2Space_loop (d : Nat) : ∀ (m : Nat), l.length - m = d → m ≤ l.length → Ev (fun k => spec_l2Space.l0 k (m : Int) l e) (goodS (prevS l m) (l.drop m) && goodP (l.length : Int) none e) := by
  have hl := h.1
  induction d with
  | zero =>
    intro m h0 h1
    refine Ev.step (fun k => by rw [spec_l2Space.l0]) (Ev.neg (by omega) ?_)
    rw [List.drop_eq_nil_of_le (by omega), show goodS (prevS l m) [] = true from by cases prevS l m <;> rfl, Bool.true_and]
    exact Ev.bind (l2Pairs_ev e _ (by omega) (by omega) h.2.2) (Ev.now _)
  | succ d ih =>
    intro m h0 h1
    have hm : m < l.length := by omega
    refine Ev.step (fun k => by rw [spec_l2Space.l0]) (Ev.pos (by omega) (Ev.pos (by omega) ?_))
    rw [goodS_step l m hm, rdL_at l m hm]
    have ihm := ih (m + 1) (by omega) (by omega)
    rw [← wrap_up hm (by omega)] at ihm
    generalize goodS (prevS l (m + 1)) (l.drop (m + 1)) = R at ihm ⊢
    refine Ev.bind (l2State_ev l[m] (h.2.1 _ (List.getElem_mem hm))) ?_
    cases okState l[m] with
    | false => rw [Bool.false_and, Bool.false_and]; exact Ev.neg (by decide) (Ev.now _)
    | true =>
      rw [Bool.true_and]
      refine Ev.pos rfl ?_
      cases m with
      | zero =>
        refine Ev.neg (by omega) ?_
        simp only [prevS, Bool.true_and]
        exact ihm
      | succ q =>
        have hq : q < l.length := by omega
        have hw : wrap64 (((q + 1 : Nat) : Int) - 1) = (q : Int) := by unfold wrap64; omega
        refine Ev.pos (by omega) ?_
        rw [hw]
        refine Ev.pos (by omega) (Ev.pos (by omega) ?_)
        rw [rdL_at l q hq]
        simp only [prevS, List.getElem?_eq_getElem hq]
        refine Ev.bind (l2Before_ev _ _ (h.2.1 _ (List.getElem_mem hq)) (h.2.1 _ (List.getElem_mem hm))) ?_
        cases befL l[q] l[q + 1] with
        | true => rw [Bool.true_and]; exact Ev.pos rfl ihm
        | false => rw [Bool.false_and, Bool.false_and]; exact Ev.neg (by decide) (Ev.now _)
theorem l2Space_ev : Ev (fun k => spec_l2Space.f k l e) (okS l e) := by
  unfold spec_l2Space.f okS
  by_cases c : (l.length : Int) > 300
  · rw [decide_eq_false (by omega : ¬ (l.length : Int) ≤ 300), Bool.false_and, Bool.false_and]
    exact Ev.pos c (Ev.step (fun k => by rw [spec_l2Space.j0]) (Ev.pos rfl (Ev.now _)))
  · rw [decide_eq_true (by omega : (l.length : Int) ≤ 300), Bool.true_and]
    refine Ev.neg c (Ev.step (fun k => by rw [spec_l2Space.j0]) ?_)
    by_cases c2 : (e.length : Int) > 6000
    · rw [decide_eq_false (by omega : ¬ (e.length : Int) ≤ 6000), Bool.false_and]
      exact Ev.pos (decide_eq_true c2) (Ev.now _)
    · rw [decide_eq_true (by omega : (e.length : Int) ≤ 6000), Bool.true_and]
      refine Ev.neg (by rw [decide_eq_false c2]; decide) ?_
      exact l2Space_loop l e h l.length 0 (by omega) (Nat.zero_le _)
theorem IsSpace_loop (d : Nat) : ∀ (m : Nat), l.length - m = d → m ≤ l.length → Ev (fun k => impl_IsSpace.l0 k l (l.length : Int) (m : Int) l e) (goodS (prevS l m) (l.drop m) && goodP (l.length : Int) none e) := by
  have hl := h.1
  induction d with
  | zero =>
    intro m h0 h1
    refine Ev.step (fun k => by rw [impl_IsSpace.l0]) (Ev.neg (by omega) ?_)
    rw [List.drop_eq_nil_of_le (by omega), show goodS (prevS l m) [] = true from by cases prevS l m <;> rfl, Bool.true_and]
    exact Ev.bind (isPairs_ev e _ h.2.2) (Ev.now _)
  | succ d ih =>
    intro m h0 h1
    have hm : m < l.length := by omega
    refine Ev.step (fun k => by rw [impl_IsSpace.l0]) (Ev.pos (by omega) (Ev.pos (by omega) (Ev.pos (by omega) ?_)))
    rw [goodS_step l m hm, rdL_at l m hm]
    have ihm := ih (m + 1) (by omega) (by omega)
    rw [← wrap_up hm (by omega)] at ihm
    generalize goodS (prevS l (m + 1)) (l.drop (m + 1)) = R at ihm ⊢
    refine Ev.bindo (isState_at l[m]) ?_
    cases okState l[m] with
    | false => rw [Bool.false_and, Bool.false_and]; exact Ev.neg (by decide) (Ev.now _)
    | true =>
      rw [Bool.true_and]
      refine Ev.pos rfl ?_
      cases m with
      | zero =>
        refine Ev.neg (by omega) ?_
        simp only [prevS, Bool.true_and]
        exact ihm
      | succ q =>
        have hq : q < l.length := by omega
        have hw : wrap64 (((q + 1 : Nat) : Int) - 1) = (q : Int) := by unfold wrap64; omega
        refine Ev.pos (by omega) ?_
        rw [hw]
        refine Ev.pos (by omega) (Ev.pos (by omega) ?_)
        rw [rdL_at l q hq]
        simp only [prevS, List.getElem?_eq_getElem hq]
        have hlq := h.2.1 _ (List.getElem_mem hq)
        refine Ev.bind (a := cmpL l[q] l[q + 1]) ⟨l[q].length + 1, fun k hk => slices_Compare_at _ _ (by omega) k (by omega)⟩ ?_
        have hb := cmpL_bef l[q] l[q + 1]
        cases hc : befL l[q] l[q + 1] with
        | true => rw [Bool.true_and]; exact Ev.neg (fun hh => by have := hb.1 hh; rw [hc] at this; simp at this) ihm
        | false => rw [Bool.false_and, Bool.false_and]; exact Ev.pos (hb.2 hc) (Ev.now _)
theorem impl_IsSpace_ev : Ev (fun k => impl_IsSpace.f k l e) (okS l e) := by
  unfold impl_IsSpace.f okS
  by_cases c : (l.length : Int) > 300
  · rw [decide_eq_false (by omega : ¬ (l.length : Int) ≤ 300), Bool.false_and, Bool.false_and]
    exact Ev.pos c (Ev.step (fun k => by rw [impl_IsSpace.j0]) (Ev.pos rfl (Ev.now _)))
  · rw [decide_eq_true (by omega : (l.length : Int) ≤ 300), Bool.true_and]
    refine Ev.neg c (Ev.step (fun k => by rw [impl_IsSpace.j0]) ?_)
    by_cases c2 : (e.length : Int) > 6000
    · rw [decide_eq_false (by omega : ¬ (e.length : Int) ≤ 6000), Bool.false_and]
      exact Ev.pos (decide_eq_true c2) (Ev.now _)
    · rw [decide_eq_true (by omega : (e.length : Int) ≤ 6000), Bool.true_and]
      refine Ev.neg (by rw [decide_eq_false c2]; decide) ?_
      exact IsSpace_loop l e h l.length 0 (by omega) (Nat.zero_le _)
end
end Go.Proofs.Ytopgbijegnnjbaa.P
namespace Go.Proofs.Ytopgbijegnnjbaa.P
open Go.RowKit Go.Proofs.YtopgbijegnnjbaaW.PrintWords Go.Proofs.YtopgbijegnnjbaaW.PrintLast Go.Proofs.YtopgbijegnnjbaaW.PrintMore
set_option linter.unusedVariables false
set_option linter.unusedSimpArgs false

/-! What a valid graph gives. -/
theorem goodP_all (n : Int) (l : List S50) : ∀ p, goodP n p l = true → ∀ e ∈ l, 0 ≤ e.f0 ∧ e.f0 < e.f1 ∧ e.f1 < n := by
  induction l with
  | nil => intro p h e he; simp at he
  | cons x t ih =>
    intro p h e he
    simp only [goodP, Bool.and_eq_true, decide_eq_true_eq] at h
    obtain ⟨⟨⟨h1, h2⟩, h3⟩, h4, h5⟩ := h
    rcases List.mem_cons.1 he with rfl | he
    · exact ⟨h1, h2, h3⟩
    · exact ih _ h5 e he
end Go.Proofs.Ytopgbijegnnjbaa.P
