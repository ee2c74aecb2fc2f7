-- Written by a program of this session (the kit's print, turned: wip/print/patch.py) out of the translation. Not trusted: Lean checks it.
import Derived.Test.YtihfpngolcjkiaaProductSpaceG5
import Derived.Test.YtihfpngolcjkiaaProductSpaceG6
import Derived.Handy
namespace Go.Proofs.Ytihfpngolcjkiaa.P
open Go.RowKit Go.Proofs.YtihfpngolcjkiaaW.PrintWords Go.Proofs.YtihfpngolcjkiaaW.PrintLast Go.Proofs.YtihfpngolcjkiaaW.PrintMore
attribute [local go_sem] max2_int min2_int max_two min_two max_three min_three max_four min_four   -- for this text's walks alone
set_option linter.unusedVariables false
set_option linter.unusedSimpArgs false

/-! ### laws_eqIntSS: function 29 -/
def laws_eqIntSS.l0 : Nat → List (List Int) → List (List Int) → Int → Option (Bool)
 | 0, _, _, _ => none
 | k + 1, x0, x1, x5 => if x5 < (x0.length : Int) then (if 0 ≤ x5 then (if x5 < (x1.length : Int) then ((laws_eqIntS.f k (rd_L1 x0 x5) (rd_L1 x1 x5)).bind fun t139 => (if t139 = true then (laws_eqIntSS.l0 k x0 x1 (wrap64 (x5 + 1))) else (some false))) else (none)) else (none)) else (some true)
def laws_eqIntSS.f (k : Nat) (l0 : List (List Int)) (l1 : List (List Int)) : Option (Bool) := if (l0.length : Int) = (l1.length : Int) then (laws_eqIntSS.l0 k l0 l1 0) else (some false)
set_option maxHeartbeats 8000000 in
set_option maxRecDepth 100000 in
theorem laws_eqIntSS.calls (k : Nat) (A0 : Option Addr) (c0 : Nat) (l0 : List (List Int)) (A1 : Option Addr) (c1 : Nat) (l1 : List (List Int)) (r : Bool) (w : World) (hr0 : Kd.C (Kd.slice 3 (Kd.int .i64)) w A0 l0.length l0) (hc0 : l0.length ≤ c0) (hr1 : Kd.C (Kd.slice 3 (Kd.int .i64)) w A1 l1.length l1) (hc1 : l1.length ≤ c1) (h : laws_eqIntSS.f k l0 l1 = some r) :
 Calls Try.prog 29 #[.slice A0 l0.length c0, .slice A1 l1.length c1] w fun e w' => e = .returned (.bool r) ∧ Drawn0 w w' := by
 have HR0 := Aside0.mk hr0
 have HC0 := Aside0.mk hc0
 clear hr0 hc0
 have HR1 := Aside0.mk hr1
 have HC1 := Aside0.mk hc1
 clear hr1 hc1
 have H : (if (l0.length : Int) = (l1.length : Int) then (laws_eqIntSS.l0 k l0 l1 0) else (some false)) = some r := h
 clear h
 by_cases c3 : (l0.length : Int) = (l1.length : Int)
 · rw [if_pos c3] at H
   have c3b0 : ((l0.length : Int) == (l1.length : Int)) = true := beq_iff_eq.mpr c3
   have c3b1 : ((l0.length : Int) != (l1.length : Int)) = false := bne_eq_false_iff_eq.mpr c3
   have c3b2 : (l0.length == l1.length) = true := by first | simpa using c3 | (simp at c3 ⊢; omega)
   clear c3
   have H' := Aside0.mk H
   clear H
   go_enter Try.func29, Try.ntmps29
   go_wp2
   repeat (go_quiet (fail); try go_wp2)
   go_loopg [5] k (fun kq v5 w' => ∃ (x5_1 : Int), v5 = .int .i64 x5_1 ∧ Aside0 (laws_eqIntSS.l0 kq l0 l1 x5_1 = some r) ∧ Aside0 (kq ≤ k) ∧ Drawn0 w w')
   case atStart => exact ⟨(0), (by first | rfl | (simp; done) | (simp [*]; done)), H', ⟨Nat.le_refl _⟩, by repeat (first | exact Drawn0.refl _ | apply Drawn0.step)⟩
   case round =>
    clear H'
    try clear c1
    try clear c2
    try clear p2
    try clear c3
    try clear c3b0
    try clear c3b1
    try clear c3b2
    obtain ⟨x5_1, rfl, HA, HK1, ⟨m1, rfl⟩⟩ := hrel
    cases gk with
    | zero => exact absurd HA.out (by simp [laws_eqIntSS.l0])
    | succ k1 =>
     have H := HA.out
     clear HA
     simp only [laws_eqIntSS.l0] at H
     by_cases c4 : x5_1 < (l0.length : Int)
     · rw [if_pos c4] at H
       have c4b0 := decide_eq_true c4
       clear c4
       by_cases c5 : 0 ≤ x5_1
       · rw [if_pos c5] at H
         have c5b0 := decide_eq_true c5
         clear c5
         by_cases c6 : x5_1 < (l1.length : Int)
         · rw [if_pos c6] at H
           have c6b0 := decide_eq_true c6
           clear c6
           replace H := Option.bind_eq_some_iff.mp H
           obtain ⟨t139, A70, H⟩ := H
           have A7 := Aside0.mk A70
           clear A70
           by_cases c8 : t139 = true
           · subst c8
             rw [if_pos rfl] at H
             have H' := Aside0.mk H
             clear H
             have p137 : 0 ≤ (x5_1 : Int) := of_decide_eq_true zA
             have q137 : x5_1 < (l0.length : Int) := of_decide_eq_true zA
             obtain ⟨ad137, A137_0, c137_0, e137, hx137_0, hl137_0, hi137_0⟩ := at_L1 HR0.out x5_1 p137 q137
             cases e137
             have HR137_0 := Aside0.mk hi137_0
             have HC137_0 := Aside0.mk hl137_0
             clear hi137_0 hl137_0
             replace p137 := eq_true p137
             replace q137 := eq_true q137
             have p138 : 0 ≤ (x5_1 : Int) := of_decide_eq_true zA
             have q138 : x5_1 < (l1.length : Int) := of_decide_eq_true zA
             obtain ⟨ad138, A138_0, c138_0, e138, hx138_0, hl138_0, hi138_0⟩ := at_L1 HR1.out x5_1 p138 q138
             cases e138
             have HR138_0 := Aside0.mk hi138_0
             have HC138_0 := Aside0.mk hl138_0
             clear hi138_0 hl138_0
             replace p138 := eq_true p138
             replace q138 := eq_true q138
             go_wp2_with (first | (go_at_call 61; (with_reducible refine (laws_eqIntS.calls k1 _ _ (rd_L1 l0 x5_1) _ _ (rd_L1 l1 x5_1) true _ ?side1 ?side2 ?side3 ?side4 A7.out).mono ?_); (case side1 => exact zC HR137_0.out); (case side2 => exact HC137_0.out); (case side3 => exact zC HR138_0.out); (case side4 => exact HC138_0.out); rintro e w' ⟨rfl, ⟨nd, rfl⟩⟩; (try exact zD)))
             repeat (go_quiet (first | (go_at_call 61; (with_reducible refine (laws_eqIntS.calls k1 _ _ (rd_L1 l0 x5_1) _ _ (rd_L1 l1 x5_1) true _ ?side1 ?side2 ?side3 ?side4 A7.out).mono ?_); (case side1 => exact zC HR137_0.out); (case side2 => exact HC137_0.out); (case side3 => exact zC HR138_0.out); (case side4 => exact HC138_0.out); rintro e w' ⟨rfl, ⟨nd, rfl⟩⟩; (try exact zD))); try go_wp2_with (first | (go_at_call 61; (with_reducible refine (laws_eqIntS.calls k1 _ _ (rd_L1 l0 x5_1) _ _ (rd_L1 l1 x5_1) true _ ?side1 ?side2 ?side3 ?side4 A7.out).mono ?_); (case side1 => exact zC HR137_0.out); (case side2 => exact HC137_0.out); (case side3 => exact zC HR138_0.out); (case side4 => exact HC138_0.out); rintro e w' ⟨rfl, ⟨nd, rfl⟩⟩; (try exact zD))))
             go_roundg k1
             case measure => have := HK1.out; omega
             case rel => exact ⟨(wrap64 (x5_1 + 1)), (by first | rfl | (simp; done) | (simp [*]; done)), H', ⟨by have := HK1.out; omega⟩, by repeat (first | exact Drawn0.refl _ | apply Drawn0.step)⟩
           · replace c8 := Bool.eq_false_iff.mpr c8
             subst c8
             have H1 : (some false) = some r := by rw [if_neg (show ¬ (false = true) by decide)] at H; exact H
             clear H
             have H := H1
             clear H1
             obtain rfl := Option.some.inj H
             have p137 : 0 ≤ (x5_1 : Int) := of_decide_eq_true zA
             have q137 : x5_1 < (l0.length : Int) := of_decide_eq_true zA
             obtain ⟨ad137, A137_0, c137_0, e137, hx137_0, hl137_0, hi137_0⟩ := at_L1 HR0.out x5_1 p137 q137
             cases e137
             have HR137_0 := Aside0.mk hi137_0
             have HC137_0 := Aside0.mk hl137_0
             clear hi137_0 hl137_0
             replace p137 := eq_true p137
             replace q137 := eq_true q137
             have p138 : 0 ≤ (x5_1 : Int) := of_decide_eq_true zA
             have q138 : x5_1 < (l1.length : Int) := of_decide_eq_true zA
             obtain ⟨ad138, A138_0, c138_0, e138, hx138_0, hl138_0, hi138_0⟩ := at_L1 HR1.out x5_1 p138 q138
             cases e138
             have HR138_0 := Aside0.mk hi138_0
             have HC138_0 := Aside0.mk hl138_0
             clear hi138_0 hl138_0
             replace p138 := eq_true p138
             replace q138 := eq_true q138
             go_wp2_with (first | (go_at_call 61; (with_reducible refine (laws_eqIntS.calls k1 _ _ (rd_L1 l0 x5_1) _ _ (rd_L1 l1 x5_1) false _ ?side1 ?side2 ?side3 ?side4 A7.out).mono ?_); (case side1 => exact zC HR137_0.out); (case side2 => exact HC137_0.out); (case side3 => exact zC HR138_0.out); (case side4 => exact HC138_0.out); rintro e w' ⟨rfl, ⟨nd, rfl⟩⟩; (try exact zD)))
             repeat (go_quiet (first | (go_at_call 61; (with_reducible refine (laws_eqIntS.calls k1 _ _ (rd_L1 l0 x5_1) _ _ (rd_L1 l1 x5_1) false _ ?side1 ?side2 ?side3 ?side4 A7.out).mono ?_); (case side1 => exact zC HR137_0.out); (case side2 => exact HC137_0.out); (case side3 => exact zC HR138_0.out); (case side4 => exact HC138_0.out); rintro e w' ⟨rfl, ⟨nd, rfl⟩⟩; (try exact zD))); try go_wp2_with (first | (go_at_call 61; (with_reducible refine (laws_eqIntS.calls k1 _ _ (rd_L1 l0 x5_1) _ _ (rd_L1 l1 x5_1) false _ ?side1 ?side2 ?side3 ?side4 A7.out).mono ?_); (case side1 => exact zC HR137_0.out); (case side2 => exact HC137_0.out); (case side3 => exact zC HR138_0.out); (case side4 => exact HC138_0.out); rintro e w' ⟨rfl, ⟨nd, rfl⟩⟩; (try exact zD))))
             go_ret
             exact ⟨by first | rfl | (simp; done) | (simp [*]; done), by repeat (first | exact Drawn0.refl _ | apply Drawn0.step)⟩
         · rw [if_neg c6] at H
           exact absurd H (by simp)
       · rw [if_neg c5] at H
         exact absurd H (by simp)
     · rw [if_neg c4] at H
       have c4b0 : decide (x5_1 < (l0.length : Int)) = false := decide_eq_false c4
       clear c4
       obtain rfl := Option.some.inj H
       go_wp2
       repeat (go_quiet (fail); try go_wp2)
       go_ret
       exact ⟨by first | rfl | (simp; done) | (simp [*]; done), by repeat (first | exact Drawn0.refl _ | apply Drawn0.step)⟩
 · rw [if_neg c3] at H
   have c3b0 : ((l0.length : Int) == (l1.length : Int)) = false := beq_eq_false_iff_ne.mpr c3
   have c3b1 : ((l0.length : Int) != (l1.length : Int)) = true := bne_iff_ne.mpr c3
   have c3b2 : (l0.length == l1.length) = false := by first | simpa using c3 | (simp at c3 ⊢; omega)
   obtain rfl := Option.some.inj H
   go_enter Try.func29, Try.ntmps29
   go_wp2
   repeat (go_quiet (fail); try go_wp2)
   go_ret
   exact ⟨by first | rfl | (simp; done) | (simp [*]; done), by repeat (first | exact Drawn0.refl _ | apply Drawn0.step)⟩

/-! ### laws_eqIntA2S: function 30 -/
def laws_eqIntA2S.l0 : Nat → List (S41) → List (S41) → Int → Option (Bool)
 | 0, _, _, _ => none
 | k + 1, x0, x1, x5 => if x5 < (x0.length : Int) then (if 0 ≤ x5 then (if x5 < (x1.length : Int) then ((laws_eqIntA2.f ((rd_T41 x0 x5).f0) ((rd_T41 x0 x5).f1) ((rd_T41 x1 x5).f0) ((rd_T41 x1 x5).f1)).bind fun t142 => (if t142 = true then (laws_eqIntA2S.l0 k x0 x1 (wrap64 (x5 + 1))) else (some false))) else (none)) else (none)) else (some true)
def laws_eqIntA2S.f (k : Nat) (l0 : List (S41)) (l1 : List (S41)) : Option (Bool) := if (l0.length : Int) = (l1.length : Int) then (laws_eqIntA2S.l0 k l0 l1 0) else (some false)
def laws_eqIntA2S.T6 : Bool × List (List Nat × List Nat) := (true, [([], []), ([], []), ([0, 1], [0, 1]), ([2], [2]), ([], []), ([], []), ([4, 5], [4, 5]), ([6], [6]), ([3, 7], [3, 7]), ([8], [8])])
def laws_eqIntA2S.B6 : List Nat := [0, 0, 3, 7, 0, 0, 48, 112, 255, 511]
theorem laws_eqIntA2S.tab6 : rtab .any (opsOf Try.f30 6) = laws_eqIntA2S.T6 := by kernel_rfl
theorem laws_eqIntA2S.bits6 : waitsOk laws_eqIntA2S.T6.2 laws_eqIntA2S.B6 = true := by kernel_rfl
set_option maxHeartbeats 8000000 in
set_option maxRecDepth 100000 in
theorem laws_eqIntA2S.calls (k : Nat) (A0 : Option Addr) (c0 : Nat) (l0 : List (S41)) (A1 : Option Addr) (c1 : Nat) (l1 : List (S41)) (r : Bool) (w : World) (hr0 : Kd.C k41 w A0 l0.length l0) (hc0 : l0.length ≤ c0) (hr1 : Kd.C k41 w A1 l1.length l1) (hc1 : l1.length ≤ c1) (h : laws_eqIntA2S.f k l0 l1 = some r) :
 Calls Try.prog 30 #[.slice A0 l0.length c0, .slice A1 l1.length c1] w fun e w' => e = .returned (.bool r) ∧ Below w.heap.size w w' := by
 have hu41 := Try.underlying41
 have HR0 := Aside0.mk hr0
 have HC0 := Aside0.mk hc0
 clear hr0 hc0
 have HR1 := Aside0.mk hr1
 have HC1 := Aside0.mk hc1
 clear hr1 hc1
 have HB := zM (Below.refl w.heap.size w)
 have H : (if (l0.length : Int) = (l1.length : Int) then (laws_eqIntA2S.l0 k l0 l1 0) else (some false)) = some r := h
 clear h
 by_cases c3 : (l0.length : Int) = (l1.length : Int)
 · rw [if_pos c3] at H
   have c3b0 : ((l0.length : Int) == (l1.length : Int)) = true := beq_iff_eq.mpr c3
   have c3b1 : ((l0.length : Int) != (l1.length : Int)) = false := bne_eq_false_iff_eq.mpr c3
   have c3b2 : (l0.length == l1.length) = true := by first | simpa using c3 | (simp at c3 ⊢; omega)
   clear c3
   have H' := Aside0.mk H
   clear H
   go_enter Try.func30, Try.ntmps30
   go_wp2
   go_loopg [5] k (fun kq v5 w' => ∃ (x5_1 : Int), v5 = .int .i64 x5_1 ∧ Aside0 (laws_eqIntA2S.l0 kq l0 l1 x5_1 = some r) ∧ Aside0 (kq ≤ k) ∧ Aside0 (Below w.heap.size w w'))
   case atStart => exact ⟨(0), (by first | rfl | (simp; done) | (simp [*]; done)), H', ⟨Nat.le_refl _⟩, ⟨zB⟩⟩
   case round =>
    clear H'
    try clear c1
    try clear p2
    try clear c3
    try clear c3b0
    try clear c3b1
    try clear c3b2
    obtain ⟨x5_1, rfl, HA, HK1, HB⟩ := hrel
    cases gk with
    | zero => exact absurd HA.out (by simp [laws_eqIntA2S.l0])
    | succ k1 =>
     have H := HA.out
     clear HA
     simp only [laws_eqIntA2S.l0] at H
     by_cases c4 : x5_1 < (l0.length : Int)
     · rw [if_pos c4] at H
       have c4b0 := decide_eq_true c4
       clear c4
       by_cases c5 : 0 ≤ x5_1
       · rw [if_pos c5] at H
         have c5b0 := decide_eq_true c5
         clear c5
         by_cases c6 : x5_1 < (l1.length : Int)
         · rw [if_pos c6] at H
           have c6b0 := decide_eq_true c6
           clear c6
           replace H := Option.bind_eq_some_iff.mp H
           obtain ⟨t142, A70, H⟩ := H
           have A7 := Aside0.mk A70
           clear A70
           by_cases c8 : t142 = true
           · subst c8
             rw [if_pos rfl] at H
             have H' := Aside0.mk H
             clear H
             try go_wp2
             replace HB := zM (below_drew1 HB.out)
             have p140 : 0 ≤ (x5_1 : Int) := of_decide_eq_true zA
             have q140 : x5_1 < (l0.length : Int) := of_decide_eq_true zA
             obtain ⟨ad140, e140, hx140_0, hx140_1⟩ := at_T41 HR0.out x5_1 p140 q140
             have hw140_1 := hx140_1
             have hw140_0 := hx140_0
             cases e140
             (try replace hx140_0 := (HB.out.cell (World.block_lt_of_cell? w _ hx140_0)).trans hx140_0)
             (try replace hx140_1 := (HB.out.cell (World.block_lt_of_cell? w _ hx140_1)).trans hx140_1)
             replace p140 := eq_true p140
             replace q140 := eq_true q140
             have p141 : 0 ≤ (x5_1 : Int) := of_decide_eq_true zA
             have q141 : x5_1 < (l1.length : Int) := of_decide_eq_true zA
             obtain ⟨ad141, e141, hx141_0, hx141_1⟩ := at_T41 HR1.out x5_1 p141 q141
             have hw141_1 := hx141_1
             have hw141_0 := hx141_0
             cases e141
             (try replace hx141_0 := (HB.out.cell (World.block_lt_of_cell? w _ hx141_0)).trans hx141_0)
             (try replace hx141_1 := (HB.out.cell (World.block_lt_of_cell? w _ hx141_1)).trans hx141_1)
             replace p141 := eq_true p141
             replace q141 := eq_true q141
             refine zs (n := 10) (fun w' => w'.cell? (ad140.add ((x5_1).toNat * 2)) = some (.int .i64 ((rd_T41 l0 x5_1).f0)) ∧ w'.cell? ⟨(ad140.add ((x5_1).toNat * 2)).block, (ad140.add ((x5_1).toNat * 2)).off + 1, none⟩ = some (.int .i64 ((rd_T41 l0 x5_1).f1)) ∧ w'.cell? (ad141.add ((x5_1).toNat * 2)) = some (.int .i64 ((rd_T41 l1 x5_1).f0)) ∧ w'.cell? ⟨(ad141.add ((x5_1).toNat * 2)).block, (ad141.add ((x5_1).toNat * 2)).off + 1, none⟩ = some (.int .i64 ((rd_T41 l1 x5_1).f1))) ⟨((HB.out.cell (World.block_lt_of_cell? w _ hw140_0)).trans hw140_0), ((HB.out.cell (World.block_lt_of_cell? w _ hw140_1)).trans hw140_1), ((HB.out.cell (World.block_lt_of_cell? w _ hw141_0)).trans hw141_0), ((HB.out.cell (World.block_lt_of_cell? w _ hw141_1)).trans hw141_1)⟩ (fun hHeld => ?_); refine with_tabW laws_eqIntA2S.tab6 laws_eqIntA2S.bits6 (fun HT_ HW_ => ?_)
             generalize wr.drew = w9 at HB hx140_0 hx140_1 hx141_0 hx141_1 hHeld ⊢
             refine zp HT_ 0 17 ?_
             refine zp HT_ 1 18 ?_
             refine zp HT_ 2 19 ?_
             refine zp HT_ 4 21 ?_
             refine zp HT_ 5 22 ?_
             refine zp HT_ 6 23 ?_
             refine zt HT_ HW_ 3 20 hHeld ?_ (hy := by rintro w' ⟨s0, s1, s2, s3⟩; go_simp; with_reducible rfl)
             refine zt HT_ HW_ 7 24 hHeld ?_ (hy := by rintro w' ⟨s0, s1, s2, s3⟩; go_simp; with_reducible rfl)
             refine zg HT_ 8 25 Try.func62 #[.agg #[.int .i64 ((rd_T41 l0 x5_1).f0), .int .i64 ((rd_T41 l0 x5_1).f1)], .agg #[.int .i64 ((rd_T41 l1 x5_1).f0), .int .i64 ((rd_T41 l1 x5_1).f1)]] (fun K hK => ?_)
             with_reducible refine (laws_eqIntA2.calls ((rd_T41 l0 x5_1).f0) ((rd_T41 l0 x5_1).f1) ((rd_T41 l1 x5_1).f0) ((rd_T41 l1 x5_1).f1) true _ A7.out).mono ?_
             rintro e w10 ⟨rfl, hb⟩
             refine ⟨_, rfl, ?_⟩
             replace HB := zM (below_step zB hb)
             (try clear hb)
             (try clear hb2)
             (try clear hk)
             (try clear hi)
             refine hK.out _ _ ⟨((HB.out.cell (World.block_lt_of_cell? w _ hw140_0)).trans hw140_0), ((HB.out.cell (World.block_lt_of_cell? w _ hw140_1)).trans hw140_1), ((HB.out.cell (World.block_lt_of_cell? w _ hw141_0)).trans hw141_0), ((HB.out.cell (World.block_lt_of_cell? w _ hw141_1)).trans hw141_1)⟩ (fun hHeld => ?_)
             clear hK K
             refine zn 25 ?_
             refine zp HT_ 9 26 ?_
             refine zo HT_ ?_
             try go_wp2
             go_roundg k1
             case measure => have := HK1.out; omega
             case rel => exact ⟨(wrap64 (x5_1 + 1)), (by first | rfl | (simp; done) | (simp [*]; done)), H', ⟨by have := HK1.out; omega⟩, ⟨zB⟩⟩
           · replace c8 := Bool.eq_false_iff.mpr c8
             subst c8
             have H1 : (some false) = some r := by rw [if_neg (show ¬ (false = true) by decide)] at H; exact H
             clear H
             have H := H1
             clear H1
             obtain rfl := Option.some.inj H
             try go_wp2
             replace HB := zM (below_drew1 HB.out)
             have p140 : 0 ≤ (x5_1 : Int) := of_decide_eq_true zA
             have q140 : x5_1 < (l0.length : Int) := of_decide_eq_true zA
             obtain ⟨ad140, e140, hx140_0, hx140_1⟩ := at_T41 HR0.out x5_1 p140 q140
             have hw140_1 := hx140_1
             have hw140_0 := hx140_0
             cases e140
             (try replace hx140_0 := (HB.out.cell (World.block_lt_of_cell? w _ hx140_0)).trans hx140_0)
             (try replace hx140_1 := (HB.out.cell (World.block_lt_of_cell? w _ hx140_1)).trans hx140_1)
             replace p140 := eq_true p140
             replace q140 := eq_true q140
             have p141 : 0 ≤ (x5_1 : Int) := of_decide_eq_true zA
             have q141 : x5_1 < (l1.length : Int) := of_decide_eq_true zA
             obtain ⟨ad141, e141, hx141_0, hx141_1⟩ := at_T41 HR1.out x5_1 p141 q141
             have hw141_1 := hx141_1
             have hw141_0 := hx141_0
             cases e141
             (try replace hx141_0 := (HB.out.cell (World.block_lt_of_cell? w _ hx141_0)).trans hx141_0)
             (try replace hx141_1 := (HB.out.cell (World.block_lt_of_cell? w _ hx141_1)).trans hx141_1)
             replace p141 := eq_true p141
             replace q141 := eq_true q141
             refine zs (n := 10) (fun w' => w'.cell? (ad140.add ((x5_1).toNat * 2)) = some (.int .i64 ((rd_T41 l0 x5_1).f0)) ∧ w'.cell? ⟨(ad140.add ((x5_1).toNat * 2)).block, (ad140.add ((x5_1).toNat * 2)).off + 1, none⟩ = some (.int .i64 ((rd_T41 l0 x5_1).f1)) ∧ w'.cell? (ad141.add ((x5_1).toNat * 2)) = some (.int .i64 ((rd_T41 l1 x5_1).f0)) ∧ w'.cell? ⟨(ad141.add ((x5_1).toNat * 2)).block, (ad141.add ((x5_1).toNat * 2)).off + 1, none⟩ = some (.int .i64 ((rd_T41 l1 x5_1).f1))) ⟨((HB.out.cell (World.block_lt_of_cell? w _ hw140_0)).trans hw140_0), ((HB.out.cell (World.block_lt_of_cell? w _ hw140_1)).trans hw140_1), ((HB.out.cell (World.block_lt_of_cell? w _ hw141_0)).trans hw141_0), ((HB.out.cell (World.block_lt_of_cell? w _ hw141_1)).trans hw141_1)⟩ (fun hHeld => ?_); refine with_tabW laws_eqIntA2S.tab6 laws_eqIntA2S.bits6 (fun HT_ HW_ => ?_)
             generalize wr.drew = w11 at HB hx140_0 hx140_1 hx141_0 hx141_1 hHeld ⊢
             refine zp HT_ 0 17 ?_
             refine zp HT_ 1 18 ?_
             refine zp HT_ 2 19 ?_
             refine zp HT_ 4 21 ?_
             refine zp HT_ 5 22 ?_
             refine zp HT_ 6 23 ?_
             refine zt HT_ HW_ 3 20 hHeld ?_ (hy := by rintro w' ⟨s0, s1, s2, s3⟩; go_simp; with_reducible rfl)
             refine zt HT_ HW_ 7 24 hHeld ?_ (hy := by rintro w' ⟨s0, s1, s2, s3⟩; go_simp; with_reducible rfl)
             refine zg HT_ 8 25 Try.func62 #[.agg #[.int .i64 ((rd_T41 l0 x5_1).f0), .int .i64 ((rd_T41 l0 x5_1).f1)], .agg #[.int .i64 ((rd_T41 l1 x5_1).f0), .int .i64 ((rd_T41 l1 x5_1).f1)]] (fun K hK => ?_)
             with_reducible refine (laws_eqIntA2.calls ((rd_T41 l0 x5_1).f0) ((rd_T41 l0 x5_1).f1) ((rd_T41 l1 x5_1).f0) ((rd_T41 l1 x5_1).f1) false _ A7.out).mono ?_
             rintro e w12 ⟨rfl, hb⟩
             refine ⟨_, rfl, ?_⟩
             replace HB := zM (below_step zB hb)
             (try clear hb)
             (try clear hb2)
             (try clear hk)
             (try clear hi)
             refine hK.out _ _ ⟨((HB.out.cell (World.block_lt_of_cell? w _ hw140_0)).trans hw140_0), ((HB.out.cell (World.block_lt_of_cell? w _ hw140_1)).trans hw140_1), ((HB.out.cell (World.block_lt_of_cell? w _ hw141_0)).trans hw141_0), ((HB.out.cell (World.block_lt_of_cell? w _ hw141_1)).trans hw141_1)⟩ (fun hHeld => ?_)
             clear hK K
             refine zn 25 ?_
             refine zp HT_ 9 26 ?_
             refine zo HT_ ?_
             try go_wp2
             go_ret
             exact ⟨by first | rfl | (simp [errW_none, errW_some] <;> rfl) | (simp [*, errW_none, errW_some] <;> rfl), zB⟩
         · rw [if_neg c6] at H
           exact absurd H (by simp)
       · rw [if_neg c5] at H
         exact absurd H (by simp)
     · rw [if_neg c4] at H
       have c4b0 : decide (x5_1 < (l0.length : Int)) = false := decide_eq_false c4
       clear c4
       obtain rfl := Option.some.inj H
       go_wp2
       go_ret
       exact ⟨by first | rfl | (simp [errW_none, errW_some] <;> rfl) | (simp [*, errW_none, errW_some] <;> rfl), zB⟩
 · rw [if_neg c3] at H
   have c3b0 : ((l0.length : Int) == (l1.length : Int)) = false := beq_eq_false_iff_ne.mpr c3
   have c3b1 : ((l0.length : Int) != (l1.length : Int)) = true := bne_iff_ne.mpr c3
   have c3b2 : (l0.length == l1.length) = false := by first | simpa using c3 | (simp at c3 ⊢; omega)
   obtain rfl := Option.some.inj H
   go_enter Try.func30, Try.ntmps30
   go_wp2
   go_ret
   exact ⟨by first | rfl | (simp [errW_none, errW_some] <;> rfl) | (simp [*, errW_none, errW_some] <;> rfl), zB⟩

/-! ### laws_eqSpace: function 9 -/
def laws_eqSpace.f (k : Nat) (l0_0 : List (List Int)) (l0_1 : List (S41)) (l1_0 : List (List Int)) (l1_1 : List (S41)) : Option (Bool) := (laws_eqIntSS.f k l0_0 l1_0).bind fun t145 => (if t145 = true then ((laws_eqIntA2S.f k l0_1 l1_1).bind fun t146 => (if t146 = true then (some true) else (some false))) else (some false))
set_option maxHeartbeats 8000000 in
set_option maxRecDepth 100000 in
theorem laws_eqSpace.calls (k : Nat) (A0_0 : Option Addr) (c0_0 : Nat) (l0_0 : List (List Int)) (A0_1 : Option Addr) (c0_1 : Nat) (l0_1 : List (S41)) (A1_0 : Option Addr) (c1_0 : Nat) (l1_0 : List (List Int)) (A1_1 : Option Addr) (c1_1 : Nat) (l1_1 : List (S41)) (r : Bool) (w : World) (hr0_0 : Kd.C (Kd.slice 3 (Kd.int .i64)) w A0_0 l0_0.length l0_0) (hc0_0 : l0_0.length ≤ c0_0) (hr0_1 : Kd.C k41 w A0_1 l0_1.length l0_1) (hc0_1 : l0_1.length ≤ c0_1) (hr1_0 : Kd.C (Kd.slice 3 (Kd.int .i64)) w A1_0 l1_0.length l1_0) (hc1_0 : l1_0.length ≤ c1_0) (hr1_1 : Kd.C k41 w A1_1 l1_1.length l1_1) (hc1_1 : l1_1.length ≤ c1_1) (h : laws_eqSpace.f k l0_0 l0_1 l1_0 l1_1 = some r) :
 Calls Try.prog 9 #[.agg #[.slice A0_0 l0_0.length c0_0, .slice A0_1 l0_1.length c0_1], .agg #[.slice A1_0 l1_0.length c1_0, .slice A1_1 l1_1.length c1_1]] w fun e w' => e = .returned (.bool r) ∧ Below w.heap.size w w' := by
 have hu27 := Try.underlying27
 have HR0_0 := Aside0.mk hr0_0
 have HC0_0 := Aside0.mk hc0_0
 clear hr0_0 hc0_0
 have HR0_1 := Aside0.mk hr0_1
 have HC0_1 := Aside0.mk hc0_1
 clear hr0_1 hc0_1
 have HR1_0 := Aside0.mk hr1_0
 have HC1_0 := Aside0.mk hc1_0
 clear hr1_0 hc1_0
 have HR1_1 := Aside0.mk hr1_1
 have HC1_1 := Aside0.mk hc1_1
 clear hr1_1 hc1_1
 have HB := zM (Below.refl w.heap.size w)
 have H : ((laws_eqIntSS.f k l0_0 l1_0).bind fun t145 => (if t145 = true then ((laws_eqIntA2S.f k l0_1 l1_1).bind fun t146 => (if t146 = true then (some true) else (some false))) else (some false))) = some r := h
 clear h
 replace H := Option.bind_eq_some_iff.mp H
 obtain ⟨t145, A30, H⟩ := H
 have A3 := Aside0.mk A30
 clear A30
 by_cases c4 : t145 = true
 · subst c4
   rw [if_pos rfl] at H
   replace H := Option.bind_eq_some_iff.mp H
   obtain ⟨t146, A50, H⟩ := H
   have A5 := Aside0.mk A50
   clear A50
   by_cases c6 : t146 = true
   · subst c6
     rw [if_pos rfl] at H
     obtain rfl := Option.some.inj H
     go_enter Try.func9, Try.ntmps9
     go_wp2_with (first | ((with_reducible refine gate_dst (N := 2) rfl ?_); refine zb (w := w) 2 #[.slice A0_0 l0_0.length c0_0, .slice A0_1 l0_1.length c0_1] 27 zB ?_; clear HB; intro gb143 w7 HB BK143 GW143; have GE143 := GW143) | ((with_reducible refine gate_dst (N := 3) rfl ?_); refine ze 3 #[.slice A1_0 l1_0.length c1_0, .slice A1_1 l1_1.length c1_1] 27 ?_; intro gb144 hg w8 hbox hb; have BK144 := zM (hbox); have GW144 := zM ((by rw [hg]; exact (below_size zB) : w.heap.size ≤ gb144)); have GE144 := zM ((by rw [hg]; exact (below_size zB) : w.heap.size ≤ gb144)); replace HB := zM (below_step zB hb); have NB143_144 := zM ((by rw [hg]; exact Nat.ne_of_lt (blk_lt (g := gb143) (o := .cells #[.slice A0_0 l0_0.length c0_0, .slice A0_1 l0_1.length c0_1] 27 (0, 0)) (zK BK143.out)) : gb143 ≠ gb144)); have NB144_143 := zM ((by rw [hg]; exact Nat.ne_of_gt (blk_lt (g := gb143) (o := .cells #[.slice A0_0 l0_0.length c0_0, .slice A0_1 l0_1.length c0_1] 27 (0, 0)) (zK BK143.out)) : gb144 ≠ gb143)); replace BK143 := zM (blk_below (g := gb143) (o := .cells #[.slice A0_0 l0_0.length c0_0, .slice A0_1 l0_1.length c0_1] 27 (0, 0)) (zK BK143.out) hb); clear hb hbox hg; have hnb9 := NB143_144.out; have hnc9 := NB144_143.out; have hcz10_0 := zy BK143 0; have hcz10_1 := zy BK143 1; have hfz10_0 := blk_frozen BK143.out 0; have hfz10_1 := blk_frozen BK143.out 1; have hcz11_0 := zy BK144 0; have hcz11_1 := zy BK144 1; have hfz11_0 := blk_frozen BK144.out 0; have hfz11_1 := blk_frozen BK144.out 1) | ((with_reducible refine gate_callee (f := 29) rfl ?_); refine zc 9 Try.func29 #[.slice A0_0 l0_0.length c0_0, .slice A1_0 l1_0.length c1_0] ?_; (with_reducible refine (laws_eqIntSS.calls k _ _ l0_0 _ _ l1_0 true _ ?side1 ?side2 ?side3 ?side4 A3.out).mono ?_); (case side1 => exact zC (Kd.C_below HR0_0.out HB.out)); (case side2 => exact HC0_0.out); (case side3 => exact zC (Kd.C_below HR1_0.out HB.out)); (case side4 => exact HC1_0.out); rintro e w' ⟨rfl, ⟨nd, rfl⟩⟩; refine ⟨_, rfl, ?_⟩) | ((with_reducible refine gate_callee (f := 30) rfl ?_); refine zc 15 Try.func30 #[.slice A0_1 l0_1.length c0_1, .slice A1_1 l1_1.length c1_1] ?_; (with_reducible refine (laws_eqIntA2S.calls k _ _ l0_1 _ _ l1_1 true _ ?side1 ?side2 ?side3 ?side4 A5.out).mono ?_); (case side1 => exact zC (Kd.C_below HR0_1.out zB)); (case side2 => exact HC0_1.out); (case side3 => exact zC (Kd.C_below HR1_1.out zB)); (case side4 => exact HC1_1.out); rintro e w12 ⟨rfl, hb⟩; refine ⟨_, rfl, ?_⟩; replace BK143 := zM (blk_below (g := gb143) (o := .cells #[.slice A0_0 l0_0.length c0_0, .slice A0_1 l0_1.length c0_1] 27 (0, 0)) (zK BK143.out) hb); replace BK144 := zM (blk_below (g := gb144) (o := .cells #[.slice A1_0 l1_0.length c1_0, .slice A1_1 l1_1.length c1_1] 27 (0, 0)) (zK BK144.out) hb); replace HB := zM (below_step zB hb); (try clear hb); (try clear hb2); (try clear hk); (try clear hi)))
     go_ret
     exact ⟨by first | rfl | (simp [errW_none, errW_some] <;> rfl) | (simp [*, errW_none, errW_some] <;> rfl), zB⟩
   · replace c6 := Bool.eq_false_iff.mpr c6
     subst c6
     have H1 : (some false) = some r := by rw [if_neg (show ¬ (false = true) by decide)] at H; exact H
     clear H
     have H := H1
     clear H1
     obtain rfl := Option.some.inj H
     go_enter Try.func9, Try.ntmps9
     go_wp2_with (first | ((with_reducible refine gate_dst (N := 2) rfl ?_); refine zb (w := w) 2 #[.slice A0_0 l0_0.length c0_0, .slice A0_1 l0_1.length c0_1] 27 zB ?_; clear HB; intro gb143 w13 HB BK143 GW143; have GE143 := GW143) | ((with_reducible refine gate_dst (N := 3) rfl ?_); refine ze 3 #[.slice A1_0 l1_0.length c1_0, .slice A1_1 l1_1.length c1_1] 27 ?_; intro gb144 hg w14 hbox hb; have BK144 := zM (hbox); have GW144 := zM ((by rw [hg]; exact (below_size zB) : w.heap.size ≤ gb144)); have GE144 := zM ((by rw [hg]; exact (below_size zB) : w.heap.size ≤ gb144)); replace HB := zM (below_step zB hb); have NB143_144 := zM ((by rw [hg]; exact Nat.ne_of_lt (blk_lt (g := gb143) (o := .cells #[.slice A0_0 l0_0.length c0_0, .slice A0_1 l0_1.length c0_1] 27 (0, 0)) (zK BK143.out)) : gb143 ≠ gb144)); have NB144_143 := zM ((by rw [hg]; exact Nat.ne_of_gt (blk_lt (g := gb143) (o := .cells #[.slice A0_0 l0_0.length c0_0, .slice A0_1 l0_1.length c0_1] 27 (0, 0)) (zK BK143.out)) : gb144 ≠ gb143)); replace BK143 := zM (blk_below (g := gb143) (o := .cells #[.slice A0_0 l0_0.length c0_0, .slice A0_1 l0_1.length c0_1] 27 (0, 0)) (zK BK143.out) hb); clear hb hbox hg; have hnb15 := NB143_144.out; have hnc15 := NB144_143.out; have hcz16_0 := zy BK143 0; have hcz16_1 := zy BK143 1; have hfz16_0 := blk_frozen BK143.out 0; have hfz16_1 := blk_frozen BK143.out 1; have hcz17_0 := zy BK144 0; have hcz17_1 := zy BK144 1; have hfz17_0 := blk_frozen BK144.out 0; have hfz17_1 := blk_frozen BK144.out 1) | ((with_reducible refine gate_callee (f := 29) rfl ?_); refine zc 9 Try.func29 #[.slice A0_0 l0_0.length c0_0, .slice A1_0 l1_0.length c1_0] ?_; (with_reducible refine (laws_eqIntSS.calls k _ _ l0_0 _ _ l1_0 true _ ?side1 ?side2 ?side3 ?side4 A3.out).mono ?_); (case side1 => exact zC (Kd.C_below HR0_0.out HB.out)); (case side2 => exact HC0_0.out); (case side3 => exact zC (Kd.C_below HR1_0.out HB.out)); (case side4 => exact HC1_0.out); rintro e w' ⟨rfl, ⟨nd, rfl⟩⟩; refine ⟨_, rfl, ?_⟩) | ((with_reducible refine gate_callee (f := 30) rfl ?_); refine zc 15 Try.func30 #[.slice A0_1 l0_1.length c0_1, .slice A1_1 l1_1.length c1_1] ?_; (with_reducible refine (laws_eqIntA2S.calls k _ _ l0_1 _ _ l1_1 false _ ?side1 ?side2 ?side3 ?side4 A5.out).mono ?_); (case side1 => exact zC (Kd.C_below HR0_1.out zB)); (case side2 => exact HC0_1.out); (case side3 => exact zC (Kd.C_below HR1_1.out zB)); (case side4 => exact HC1_1.out); rintro e w18 ⟨rfl, hb⟩; refine ⟨_, rfl, ?_⟩; replace BK143 := zM (blk_below (g := gb143) (o := .cells #[.slice A0_0 l0_0.length c0_0, .slice A0_1 l0_1.length c0_1] 27 (0, 0)) (zK BK143.out) hb); replace BK144 := zM (blk_below (g := gb144) (o := .cells #[.slice A1_0 l1_0.length c1_0, .slice A1_1 l1_1.length c1_1] 27 (0, 0)) (zK BK144.out) hb); replace HB := zM (below_step zB hb); (try clear hb); (try clear hb2); (try clear hk); (try clear hi)))
     go_ret
     exact ⟨by first | rfl | (simp [errW_none, errW_some] <;> rfl) | (simp [*, errW_none, errW_some] <;> rfl), zB⟩
 · replace c4 := Bool.eq_false_iff.mpr c4
   subst c4
   have H1 : (some false) = some r := by rw [if_neg (show ¬ (false = true) by decide)] at H; exact H
   clear H
   have H := H1
   clear H1
   obtain rfl := Option.some.inj H
   go_enter Try.func9, Try.ntmps9
   go_wp2_with (first | ((with_reducible refine gate_dst (N := 2) rfl ?_); refine zb (w := w) 2 #[.slice A0_0 l0_0.length c0_0, .slice A0_1 l0_1.length c0_1] 27 zB ?_; clear HB; intro gb143 w19 HB BK143 GW143; have GE143 := GW143) | ((with_reducible refine gate_dst (N := 3) rfl ?_); refine ze 3 #[.slice A1_0 l1_0.length c1_0, .slice A1_1 l1_1.length c1_1] 27 ?_; intro gb144 hg w20 hbox hb; have BK144 := zM (hbox); have GW144 := zM ((by rw [hg]; exact (below_size zB) : w.heap.size ≤ gb144)); have GE144 := zM ((by rw [hg]; exact (below_size zB) : w.heap.size ≤ gb144)); replace HB := zM (below_step zB hb); have NB143_144 := zM ((by rw [hg]; exact Nat.ne_of_lt (blk_lt (g := gb143) (o := .cells #[.slice A0_0 l0_0.length c0_0, .slice A0_1 l0_1.length c0_1] 27 (0, 0)) (zK BK143.out)) : gb143 ≠ gb144)); have NB144_143 := zM ((by rw [hg]; exact Nat.ne_of_gt (blk_lt (g := gb143) (o := .cells #[.slice A0_0 l0_0.length c0_0, .slice A0_1 l0_1.length c0_1] 27 (0, 0)) (zK BK143.out)) : gb144 ≠ gb143)); replace BK143 := zM (blk_below (g := gb143) (o := .cells #[.slice A0_0 l0_0.length c0_0, .slice A0_1 l0_1.length c0_1] 27 (0, 0)) (zK BK143.out) hb); clear hb hbox hg; have hnb21 := NB143_144.out; have hnc21 := NB144_143.out; have hcz22_0 := zy BK143 0; have hcz22_1 := zy BK143 1; have hfz22_0 := blk_frozen BK143.out 0; have hfz22_1 := blk_frozen BK143.out 1; have hcz23_0 := zy BK144 0; have hcz23_1 := zy BK144 1; have hfz23_0 := blk_frozen BK144.out 0; have hfz23_1 := blk_frozen BK144.out 1) | ((with_reducible refine gate_callee (f := 29) rfl ?_); refine zc 9 Try.func29 #[.slice A0_0 l0_0.length c0_0, .slice A1_0 l1_0.length c1_0] ?_; (with_reducible refine (laws_eqIntSS.calls k _ _ l0_0 _ _ l1_0 false _ ?side1 ?side2 ?side3 ?side4 A3.out).mono ?_); (case side1 => exact zC (Kd.C_below HR0_0.out HB.out)); (case side2 => exact HC0_0.out); (case side3 => exact zC (Kd.C_below HR1_0.out HB.out)); (case side4 => exact HC1_0.out); rintro e w' ⟨rfl, ⟨nd, rfl⟩⟩; refine ⟨_, rfl, ?_⟩))
   go_ret
   exact ⟨by first | rfl | (simp [errW_none, errW_some] <;> rfl) | (simp [*, errW_none, errW_some] <;> rfl), zB⟩

end Go.Proofs.Ytihfpngolcjkiaa.P
namespace Go.Proofs.Ytihfpngolcjkiaa.P
open Go.RowKit Go.Proofs.YtihfpngolcjkiaaW.PrintWords Go.Proofs.YtihfpngolcjkiaaW.PrintLast Go.Proofs.YtihfpngolcjkiaaW.PrintMore
attribute [local go_sem] max2_int min2_int max_two min_two max_three min_three max_four min_four   -- for this text's walks alone
set_option linter.unusedVariables false
set_option linter.unusedSimpArgs false

/-! ### laws_markIntS: function 63 -/
def laws_markIntS.l0 : Nat → List Int → Int → Int → Option (Int × List Int)
 | 0, _, _, _ => none
 | k + 1, x0, x1, x5 => if x5 < (x0.length : Int) then (if 0 ≤ x5 then (laws_markIntS.l0 k (x0.set (x5 : Int).toNat x1) (wrap64 (x1 + 1)) (wrap64 (x5 + 1))) else (none)) else (some (x1, x0))
def laws_markIntS.f (k : Nat) (l0 : List Int) (a1 : Int) : Option (Int × List Int) := laws_markIntS.l0 k l0 a1 0
set_option maxHeartbeats 8000000 in
set_option maxRecDepth 100000 in
theorem laws_markIntS.calls (k : Nat) (P0_ : Nat → Prop) (u9000_ : Value) (l0 : List Int) (a1 : Int) (r1 : Int) (r2 : List Int) (w0 w : World) (hB : Below w0.heap.size w0 w) (ho0 : Kd.R (Kd.int .i64) 3 w w0.heap.size P0_ u9000_ l0) (h : laws_markIntS.f k l0 a1 = some (r1, r2)) :
 Calls Try.prog 63 #[u9000_, .int .i64 a1] w fun e w' => e = .returned (.int .i64 r1) ∧ Kd.R (Kd.int .i64) 3 w' w0.heap.size (fun k_ => (P0_ k_ ∨ w.heap.size ≤ k_)) u9000_ r2 ∧ Below w0.heap.size w0 w' ∧ Kept w w' (fun k_ => P0_ k_) := by
 have HO0 := zM (show Kd.R (Kd.int .i64) 3 w w0.heap.size (fun k_ => (P0_ k_ ∨ w.heap.size ≤ k_)) u9000_ l0 from Kd.R_mono ho0 (fun k_ hk => (.inl hk)))
 have HK := zM (Kept.refl w (fun k_ => P0_ k_))
 have HW0 := Aside0.mk hB.size
 have HB := Aside0.mk hB
 clear hB
 have H : (laws_markIntS.l0 k l0 a1 0) = some (r1, r2) := h
 clear h
 have H' := Aside0.mk H
 clear H
 go_enter Try.func63, Try.ntmps63
 go_wp2
 go_loopg [1, 5] k (fun kq v1 v5 w' => ∃ (x0_1 : List Int) (x1_1 : Int) (x5_1 : Int), v1 = .int .i64 x1_1 ∧ v5 = .int .i64 x5_1 ∧ Aside0 (laws_markIntS.l0 kq x0_1 x1_1 x5_1 = some (r1, r2)) ∧ Aside0 (kq ≤ k) ∧ Aside0 (Kd.R (Kd.int .i64) 3 w' w0.heap.size (fun k_ => (P0_ k_ ∨ w.heap.size ≤ k_)) u9000_ x0_1) ∧ Aside0 (Kept w w' (fun k_ => P0_ k_)) ∧ Aside0 (Below w0.heap.size w0 w'))
 case atStart => exact ⟨(l0), (a1), (0), (by first | rfl | (simp; done) | (simp [*]; done)), (by first | rfl | (simp; done) | (simp [*]; done)), H', ⟨Nat.le_refl _⟩, ⟨zR HO0.out⟩, ⟨by repeat (first | (with_reducible first | exact HK.out | apply Kept.alloc | apply Kept.drewN | apply Kept.drew) | exact HK.out)⟩, ⟨zB⟩⟩
 case round =>
  clear H'
  try clear p2
  obtain ⟨x0_1, x1_1, x5_1, rfl, rfl, HA, HK1, HO_0, HK, HB⟩ := hrel
  cases gk with
  | zero => exact absurd HA.out (by simp [laws_markIntS.l0])
  | succ k1 =>
   have H := HA.out
   clear HA
   simp only [laws_markIntS.l0] at H
   by_cases c3 : x5_1 < (x0_1.length : Int)
   · rw [if_pos c3] at H
     have c3b0 := decide_eq_true c3
     clear c3
     by_cases c4 : 0 ≤ x5_1
     · rw [if_pos c4] at H
       have c4b0 := decide_eq_true c4
       clear c4
       obtain ⟨y147, hy147⟩ : ∃ y_ : List Int, y_ = (x0_1.set (x5_1 : Int).toNat x1_1) := ⟨_, rfl⟩
       replace H : (laws_markIntS.l0 k1 y147 (wrap64 (x1_1 + 1)) (wrap64 (x5_1 + 1))) = some (r1, r2) := by first | (rw [hy147]; with_reducible exact H) | (have H2_ := (Option.bind_some _ _).symm.trans H; rw [hy147]; with_reducible exact H2_) | (have H2_ := (Option.bind_some _ _).symm.trans H; with_reducible exact H2_) | with_reducible exact H | (rw [hy147]; exact H) | exact H
       have Ny147 := Aside0.mk hy147
       clear hy147
       have H' := Aside0.mk H
       clear H
       obtain ⟨Ao6, co6, eo6⟩ := Kd.R_slice HO_0.out
       subst eo6
       have p5 : 0 ≤ (x5_1 : Int) := of_decide_eq_true zA
       have q5 : (x5_1 : Int) < ((x0_1.length : Int) : Int) := of_decide_eq_true zA
       obtain ⟨go5, co5, eo5, gb5, gl5, cl5, HG5⟩ := Kd.R_form HO_0.out (by omega)
       (first | cases eo5 | (injection eo5 with ea_ en_ ec_; (first | subst ea_ | (injection ea_ with ea_; subst ea_)); subst ec_; clear en_))
       have GB5 := Aside0.mk gb5
       have GG5 := Aside0.mk HG5
       clear gb5 gl5 HG5
       have HMgo5 := zM (show (P0_ go5 ∨ w.heap.size ≤ go5) from (HO_0.out.1 _ rfl))
       obtain ⟨hx5_0, hf5_0⟩ := Kd.R_celln 0 HO_0.out (x5_1 : Int) p5 q5
       replace p5 := eq_true p5
       replace q5 := eq_true q5
       have HP7 := Kd.R_putg HO_0.out (x5_1 : Int) x1_1
       go_wp2_with (first | ((with_reducible refine gate_store (t := 3) (p := 15) rfl ?_); refine store_event (t := 3) (p := 15) (v := ?vo_w8) (w1 := (wr.setCell ⟨go5, (x5_1 : Int).toNat, none⟩ (.int .i64 x1_1))) ?hg ?ho ?hn ?hr ?_; (case ho => rfl); (case hg => rfl); (case hn => rfl); (case hr => first | (go_simp; done) | (go_simp; rfl)); intro w8 hw; have hg : wr.grownBy w8 (some go5) := (by rw [hw]; exact HP7.2); have hp_ : Kd.R (Kd.int .i64) 3 w8 w0.heap.size (fun k_ => (P0_ k_ ∨ w.heap.size ≤ k_)) (.slice (some ⟨go5, 0, none⟩) x0_1.length co6) y147 := (by rw [hw, Ny147.out]; exact HP7.1); clear HP7; replace HB := zM ((by rw [hw]; exact below_set (HB.out) GB5.out : Below w0.heap.size w0 w8)); replace HK := zM (Kept.of_grown (S := (fun k_ => P0_ k_)) hg (by repeat (first | (with_reducible first | exact HK.out | apply Kept.alloc | apply Kept.drewN | apply Kept.drew) | exact HK.out)) (fun k_ e_ => (HO_0.out.1 k_ e_))); replace HO_0 := zM (hp_); clear hg hw hp_))
       go_roundg k1
       case measure => have := HK1.out; omega
       case rel => exact ⟨(y147), (wrap64 (x1_1 + 1)), (wrap64 (x5_1 + 1)), (by first | rfl | (simp; done) | (simp [*]; done)), (by first | rfl | (simp; done) | (simp [*]; done)), H', ⟨by have := HK1.out; omega⟩, ⟨zR HO_0.out⟩, ⟨by repeat (first | (with_reducible first | exact HK.out | apply Kept.alloc | apply Kept.drewN | apply Kept.drew) | exact HK.out)⟩, ⟨zB⟩⟩
     · rw [if_neg c4] at H
       exact absurd H (by simp)
   · rw [if_neg c3] at H
     have c3b0 : decide (x5_1 < (x0_1.length : Int)) = false := decide_eq_false c3
     clear c3
     simp only [Option.some.injEq, Prod.mk.injEq] at H
     obtain ⟨rfl, rfl⟩ := H
     obtain ⟨Ao9, co9, eo9⟩ := Kd.R_slice HO_0.out
     subst eo9
     go_wp2
     go_ret
     exact ⟨by first | rfl | (simp [errW_none, errW_some] <;> rfl) | (simp [*, errW_none, errW_some] <;> rfl), by (with_reducible repeat (first | apply Kd.R_alloc | apply Kd.R_drewN | apply Kd.R_drew)); exact HO_0.out, by repeat (first | (with_reducible first | exact HB.out | apply below_alloc | apply pw_below_drewN | apply below_drew1) | exact HB.out), by repeat (first | (with_reducible first | exact HK.out | apply Kept.alloc | apply Kept.drewN | apply Kept.drew) | exact HK.out)⟩

end Go.Proofs.Ytihfpngolcjkiaa.P
namespace Go.Proofs.Ytihfpngolcjkiaa.P
open Go.RowKit Go.Proofs.YtihfpngolcjkiaaW.PrintWords Go.Proofs.YtihfpngolcjkiaaW.PrintLast Go.Proofs.YtihfpngolcjkiaaW.PrintMore
set_option linter.unusedVariables false
set_option linter.unusedSimpArgs false

def seqS : Nat → Int → List Int
  | 0, _ => []
  | n + 1, k => k :: seqS n (wrap64 (k + 1))
def endS : Nat → Int → Int
  | 0, k => k
  | n + 1, k => endS n (wrap64 (k + 1))
theorem markS_loop (d : Nat) : ∀ (done rest : List Int) (c : Int), rest.length = d → done.length + d ≤ 9223372036854775807 →
    ∃ k, laws_markIntS.l0 k (done ++ rest) c (done.length : Int) = some (endS d c, done ++ seqS d c) := by
  induction d with
  | zero =>
    intro done rest c h0 h1
    have : rest = [] := List.eq_nil_of_length_eq_zero h0
    subst this
    refine ⟨1, ?_⟩
    rw [laws_markIntS.l0, if_neg (by simp)]
    rfl
  | succ d ih =>
    intro done rest c h0 h1
    obtain ⟨x, t, rfl⟩ : ∃ x t, rest = x :: t := by
      cases rest with
      | nil => simp at h0
      | cons x t => exact ⟨x, t, rfl⟩
    have h2 : t.length = d := by simpa using h0
    obtain ⟨k, hk⟩ := ih (done ++ [c]) t (wrap64 (c + 1)) h2 (by rw [List.length_append, List.length_singleton]; omega)
    refine ⟨k + 1, ?_⟩
    have e : (done ++ x :: t).set ((done.length : Int)).toNat c = (done ++ [c]) ++ t := by
      rw [Int.toNat_natCast]
      simp
    have hw : wrap64 ((done.length : Int) + 1) = ((done ++ [c]).length : Int) := by
      rw [List.length_append, List.length_singleton]
      unfold wrap64
      omega
    rw [laws_markIntS.l0, if_pos (by simp; omega), if_pos (by omega), e, hw, hk]
    simp only [seqS, endS, List.append_assoc, List.singleton_append]
theorem markS_some (l : List Int) (c : Int) (hl : l.length ≤ 9223372036854775807) : ∃ k, laws_markIntS.f k l c = some (endS l.length c, seqS l.length c) := by
  obtain ⟨k, hk⟩ := markS_loop l.length [] l c rfl (by simpa using hl)
  exact ⟨k, by unfold laws_markIntS.f; simpa only [List.nil_append, List.length_nil, Int.natCast_zero] using hk⟩
def markSS : List (List Int) → Int → Int × List (List Int)
  | [], k => (k, [])
  | l :: t, k => ((markSS t (endS l.length k)).1, seqS l.length k :: (markSS t (endS l.length k)).2)
def laws_markIntSS.f (l0 : List (List Int)) (a1 : Int) : Option (Int × List (List Int)) := some (markSS l0 a1)
theorem set_midS {α : Type} (done : List α) (l : List α) (m : Nat) (hd : done.length = m) (hm : m < l.length) (x : α) : (done ++ l.drop m).set m x = (done ++ [x]) ++ l.drop (m + 1) := by
  subst hd
  rw [List.drop_eq_getElem_cons hm, List.set_append_right _ _ (Nat.le_refl _), Nat.sub_self, List.set_cons_zero, List.append_assoc, List.singleton_append]
set_option maxRecDepth 100000 in
set_option maxHeartbeats 2000000 in
theorem laws_markIntSS.calls (P0_ : Nat → Prop) (u9000_ : Value) (l0 : List (List Int)) (a1 : Int) (r1 : Int) (r2 : List (List Int)) (w0 w : World) (hB : Below w0.heap.size w0 w) (ho0 : Kd.S (Kd.slice 3 (Kd.int .i64)) 39 w w0.heap.size P0_ u9000_ l0) (h : laws_markIntSS.f l0 a1 = some (r1, r2)) :
    Calls Try.prog 31 #[u9000_, .int .i64 a1] w fun e w' => e = .returned (.int .i64 r1) ∧ Kd.S (Kd.slice 3 (Kd.int .i64)) 39 w' w0.heap.size (fun k_ => (P0_ k_ ∨ w.heap.size ≤ k_)) u9000_ r2 ∧ Below w0.heap.size w0 w' ∧ Kept w w' (fun k_ => P0_ k_) := by
  have HO := Aside0.mk (show Kd.S (Kd.slice 3 (Kd.int .i64)) 39 w w0.heap.size (fun k_ => (P0_ k_ ∨ w.heap.size ≤ k_)) u9000_ l0 from Kd.S_mono ho0 (fun k_ hk => (.inl hk)))
  unfold laws_markIntSS.f at h
  have H' := Aside0.mk (Option.some.inj h)
  obtain ⟨A, c, e0⟩ := Kd.S_slice ho0
  have HL := Aside0.mk (show l0.length ≤ 9223372036854775807 by
    obtain ⟨A', c', _, _, hc⟩ := Kd.S_reads ho0
    exact hc.2.1)
  have HB0 := Aside0.mk hB
  clear h hB ho0
  subst e0
  go_enter Try.func31, Try.ntmps31
  go_wp2
  go_loopg [5, 1, 6] (l0.length + 1) (fun kq v5 v1 v6 w' => ∃ (m : Nat) (kk : Int) (done : List (List Int)), v5 = .int .i64 m ∧ v1 = .int .i64 kk ∧ Aside0 (m ≤ l0.length) ∧ Aside0 (kq = l0.length - m + 1) ∧ Aside0 (done.length = m) ∧ Aside0 ((markSS (l0.drop m) kk).1 = r1 ∧ done ++ (markSS (l0.drop m) kk).2 = r2) ∧ Aside0 (Kd.S (Kd.slice 3 (Kd.int .i64)) 39 w' w0.heap.size (fun k_ => (P0_ k_ ∨ w.heap.size ≤ k_)) (.slice A l0.length c) (done ++ l0.drop m)) ∧ Aside0 (Below w0.heap.size w0 w') ∧ Aside0 (Kept w w' (fun k_ => P0_ k_)))
  case atStart => exact ⟨0, a1, [], rfl, rfl, ⟨Nat.zero_le _⟩, ⟨by omega⟩, ⟨rfl⟩, ⟨by rw [List.drop_zero, H'.out]; exact ⟨rfl, rfl⟩⟩, ⟨by rw [List.drop_zero]; exact HO.out⟩, HB0, ⟨Kept.refl _ _⟩⟩
  case round =>
    clear H' HO HB0
    obtain ⟨m, kk, done, rfl, rfl, HM, HK1, HD, HA, HO, HB, HK⟩ := hrel
    have HN := Aside0.mk (show (done ++ l0.drop m).length = l0.length by rw [List.length_append, List.length_drop, HD.out]; have := HM.out; omega)
    by_cases c1 : m < l0.length
    · have q1 : (m : Int) < (l0.length : Int) := by omega
      obtain ⟨g, cap, eg, gb, gl, HG⟩ := Kd.S_form HO.out (by rw [HN.out]; omega)
      rw [HN.out] at eg
      injection eg with eA _ ec
      subst eA; subst ec
      obtain ⟨oki, cs, hcl, hM, hcc, hoki, HH⟩ := Kd.S_lend HO.out ([] : List Int) (m : Int) (by omega) q1
      obtain ⟨v, rfl, hR⟩ := hM
      have hrow : (done ++ l0.drop m).getD (m : Int).toNat [] = l0[m] := by
        rw [Int.toNat_natCast, List.getD_eq_getElem?_getD, List.getElem?_append_right (by rw [HD.out]; exact Nat.le_refl _), HD.out, Nat.sub_self, List.getElem?_drop, Nat.add_zero, List.getElem?_eq_getElem c1, Option.getD_some]
      rw [hrow] at hR
      have hx0 := hcc 0 _ rfl
      rw [Int.toNat_natCast, show (Kd.slice 3 (Kd.int .i64)).sz = 1 from rfl, Nat.mul_one, Nat.add_zero] at hx0
      have hll : (l0[m]).length ≤ 9223372036854775807 := by
        obtain ⟨A', c', _, _, hc⟩ := Kd.R_reads hR
        exact hc.2.1
      obtain ⟨kf, hf⟩ := markS_some l0[m] kk hll
      have HF := Aside0.mk hf
      have HRo := Aside0.mk hR
      have HHo := Aside0.mk HH
      have HOk := Aside0.mk hoki
      have HE := Aside0.mk (set_midS done l0 m HD.out c1 (seqS (l0[m]).length kk))
      have H2 : Aside0 ((markSS (l0.drop (m + 1)) (endS (l0[m]).length kk)).1 = r1 ∧ (done ++ [seqS (l0[m]).length kk]) ++ (markSS (l0.drop (m + 1)) (endS (l0[m]).length kk)).2 = r2) := ⟨by
        have e_ := HA.out
        rw [List.drop_eq_getElem_cons c1] at e_
        simp only [markSS] at e_
        rw [List.append_assoc, List.singleton_append]
        exact e_⟩
      obtain ⟨Av, cv, ev⟩ := Kd.R_slice hR
      subst ev
      generalize hk2 : endS (l0[m]).length kk = k2 at HF H2
      generalize hs2 : seqS (l0[m]).length kk = s2 at HF H2 HE
      generalize l0[m] = row at HF HRo hx0 HHo
      clear HA hcc hcl gl HG gb hR HH hoki hf hk2 hs2 hrow hll
      have c1b : decide ((m : Int) < (l0.length : Int)) = true := decide_eq_true q1
      have c1c : decide (m < l0.length) = true := decide_eq_true c1
      have p1 : (0 : Int) ≤ (m : Int) := by omega
      have hw1 : (m : Int) + 1 ≤ 9223372036854775807 := by have := HL.out; omega
      replace p1 := eq_true p1
      replace q1 := eq_true q1
      clear c1
      go_wp2_with (go_at_call 63; refine (laws_markIntS.calls kf oki _ row kk _ _ w0 wr HB.out HRo.out HF.out).mono ?_; rintro e w2 ⟨rfl, hy, hb, hkp⟩; have HS := Aside0.mk (Kd.H_back (Kd.H_kept HHo.out hkp (fun _ _ hn => hn)) (x' := s2) ⟨_, rfl, Kd.R_reok rfl hy (fun k_ e_ => HRo.out.1 k_ e_)⟩ (fun _ hk => hk)); have HB2 := Aside0.mk hb; have HK2 : Aside0 (Kept w w2 (fun k_ => P0_ k_)) := ⟨⟨Nat.le_trans HK.out.1 hkp.1, fun i hi hn => (hkp.2 i (Nat.lt_of_lt_of_le hi HK.out.1) (fun ho => (HOk.out i ho).1.elim hn (fun h3 => by omega))).trans (HK.out.2 i hi hn)⟩⟩; clear hy hb hkp)
      go_roundg (l0.length - m)
      case measure => have := HK1.out; have := HM.out; omega
      case rel => exact ⟨m + 1, _, done ++ [s2], by first | rfl | (simp; done) | go_num, rfl, ⟨by have := of_eq_true q1; omega⟩, ⟨by have := of_eq_true q1; omega⟩, ⟨by rw [List.length_append, HD.out]; rfl⟩, H2, ⟨by rw [← HE.out]; rw [← Int.toNat_natCast m]; exact HS.out⟩, HB2, HK2⟩
    · have q1 : ¬ (m : Int) < (l0.length : Int) := by omega
      have c1b : decide ((m : Int) < (l0.length : Int)) = false := decide_eq_false q1
      have c1c : decide (m < l0.length) = false := decide_eq_false c1
      have H3 : Aside0 (kk = r1 ∧ done ++ l0.drop m = r2) := ⟨by
        have e_ := HA.out
        rw [List.drop_eq_nil_of_le (show l0.length ≤ m by omega)] at e_ ⊢
        exact e_⟩
      clear HA c1 q1
      go_wp2
      go_ret
      exact ⟨by have e_ := H3.out.1; subst e_; rfl, by rw [← H3.out.2]; exact HO.out, HB.out, HK.out⟩
end Go.Proofs.Ytihfpngolcjkiaa.P
namespace Go.Proofs.Ytihfpngolcjkiaa.P
open Go.RowKit Go.Proofs.YtihfpngolcjkiaaW.PrintWords Go.Proofs.YtihfpngolcjkiaaW.PrintLast Go.Proofs.YtihfpngolcjkiaaW.PrintMore
set_option linter.unusedVariables false
set_option linter.unusedSimpArgs false

def mark2 : List S41 → Int → Int × List S41
  | [], k => (k, [])
  | _ :: t, k => ((mark2 t (wrap64 (wrap64 (k + 1) + 1))).1, ⟨k, wrap64 (k + 1)⟩ :: (mark2 t (wrap64 (wrap64 (k + 1) + 1))).2)
def laws_markIntA2S.f (l0 : List S41) (a1 : Int) : Option (Int × (List S41)) := some (mark2 l0 a1)
/-- One pair is written. -/
theorem mark_step {W : World} {base g n cap : Nat} {ok : Nat → Prop} {xs : List S41} (h : Kd.R k41 41 W base ok (.slice (some ⟨g, 0, none⟩) n cap) xs) (m : Nat) (hm : m < n) (p q : Int) :
    Kd.R k41 41 ((W.setCell ⟨g, m * 2, none⟩ (.int .i64 p)).setCell ⟨g, m * 2 + 1, none⟩ (.int .i64 q)) base ok (.slice (some ⟨g, 0, none⟩) n cap) (xs.set m ⟨p, q⟩) ∧ W.grownBy ((W.setCell ⟨g, m * 2, none⟩ (.int .i64 p)).setCell ⟨g, m * 2 + 1, none⟩ (.int .i64 q)) (some g) := by
  obtain ⟨c, hcl, hM, hcc, hfz⟩ := Kd.R_elem h (z41) (m : Int) (by omega) (by omega)
  have hs := Kd.R_seg h (m : Int) (by omega) (by omega) (seg := [.int .i64 p, .int .i64 q]) (j := 0) hcl hcc (by show 0 + 2 ≤ 2; omega) (x' := (⟨p, q⟩ : S41)) (okp := fun k => ok k ∧ k ≠ g)
    (by rw [List.take_zero, List.nil_append, List.drop_eq_nil_of_le (by rw [hcl]; show 2 ≤ 0 + 2; omega), List.append_nil]; exact k41_mkM _ _ _ _) (fun k hk => hk)
  rw [Int.toNat_natCast, show k41.sz = 2 from rfl, Nat.add_zero] at hs
  exact hs
theorem set_mid {α : Type} (done : List α) (l : List α) (m : Nat) (hd : done.length = m) (hm : m < l.length) (x : α) : (done ++ l.drop m).set m x = (done ++ [x]) ++ l.drop (m + 1) := by
  subst hd
  rw [List.drop_eq_getElem_cons hm, List.set_append_right _ _ (Nat.le_refl _), Nat.sub_self, List.set_cons_zero, List.append_assoc, List.singleton_append]
set_option maxRecDepth 100000 in
set_option maxHeartbeats 2000000 in
theorem laws_markIntA2S.calls (P0_ : Nat → Prop) (u9000_ : Value) (l0 : List S41) (a1 : Int) (r1 : Int) (r2 : List S41) (w0 w : World) (hB : Below w0.heap.size w0 w) (ho0 : Kd.R k41 41 w w0.heap.size P0_ u9000_ l0) (h : laws_markIntA2S.f l0 a1 = some (r1, r2)) :
    Calls Try.prog 32 #[u9000_, .int .i64 a1] w fun e w' => e = .returned (.int .i64 r1) ∧ Kd.R k41 41 w' w0.heap.size (fun k_ => (P0_ k_ ∨ w.heap.size ≤ k_)) u9000_ r2 ∧ Below w0.heap.size w0 w' ∧ Kept w w' (fun k_ => P0_ k_) := by
  have HO := Aside0.mk (show Kd.R k41 41 w w0.heap.size (fun k_ => (P0_ k_ ∨ w.heap.size ≤ k_)) u9000_ l0 from Kd.R_mono ho0 (fun k_ hk => (.inl hk)))
  have HP := Aside0.mk ho0.1
  unfold laws_markIntA2S.f at h
  have H' := Aside0.mk (Option.some.inj h)
  obtain ⟨A, c, e0⟩ := Kd.R_slice ho0
  have HL := Aside0.mk (show l0.length ≤ 9223372036854775807 by
    obtain ⟨A', c', _, _, hc⟩ := Kd.R_reads ho0
    exact hc.2.1)
  have HB0 := Aside0.mk hB
  clear h hB ho0
  subst e0
  go_enter Try.func32, Try.ntmps32
  go_wp2
  go_loopg [5, 1, 6] (l0.length + 1) (fun kq v5 v1 v6 w' => ∃ (m : Nat) (kk : Int) (done : List S41), v5 = .int .i64 m ∧ v1 = .int .i64 kk ∧ Aside0 (m ≤ l0.length) ∧ Aside0 (kq = l0.length - m + 1) ∧ Aside0 (done.length = m) ∧ Aside0 ((mark2 (l0.drop m) kk).1 = r1 ∧ done ++ (mark2 (l0.drop m) kk).2 = r2) ∧ Aside0 (Kd.R k41 41 w' w0.heap.size (fun k_ => (P0_ k_ ∨ w.heap.size ≤ k_)) (.slice A l0.length c) (done ++ l0.drop m)) ∧ Aside0 (Below w0.heap.size w0 w') ∧ Aside0 (Kept w w' (fun k_ => P0_ k_)))
  case atStart => exact ⟨0, a1, [], rfl, rfl, ⟨Nat.zero_le _⟩, ⟨by omega⟩, ⟨rfl⟩, ⟨by rw [List.drop_zero, H'.out]; exact ⟨rfl, rfl⟩⟩, ⟨by rw [List.drop_zero]; exact HO.out⟩, HB0, ⟨Kept.refl _ _⟩⟩
  case round =>
    clear H' HO HB0
    obtain ⟨m, kk, done, rfl, rfl, HM, HK1, HD, HA, HO, HB, HK⟩ := hrel
    have HN := Aside0.mk (show (done ++ l0.drop m).length = l0.length by rw [List.length_append, List.length_drop, HD.out]; have := HM.out; omega)
    by_cases c1 : m < l0.length
    · have q1 : (m : Int) < (l0.length : Int) := by omega
      obtain ⟨g, cap, eg, gb, gl, HG⟩ := Kd.R_form HO.out (by rw [HN.out]; omega)
      rw [HN.out] at eg
      injection eg with eA _ ec
      subst eA; subst ec
      have GB := Aside0.mk gb
      have HPg := Aside0.mk (HP.out g rfl)
      obtain ⟨cs, hcl, hM, hcc, hfz⟩ := Kd.R_elem HO.out (z41) (m : Int) (by omega) q1
      obtain rfl := k41_openM hM
      have hx0 := hcc 0 _ rfl
      have hx1 := hcc 1 _ rfl
      have hf0 := hfz 0
      have hf1 := hfz 1
      rw [Int.toNat_natCast, show k41.sz = 2 from rfl] at hx0 hx1 hf0 hf1
      rw [Nat.add_zero] at hx0 hf0
      have HS := Aside0.mk (mark_step HO.out m c1 kk (wrap64 (kk + 1)))
      have hx1' : (wr.setCell ⟨g, m * 2, none⟩ (.int .i64 kk)).cell? ⟨g, m * 2 + 1, none⟩ = _ := (World.cell?_setCell_other wr _ _ _ (by simp)).trans hx1
      have HE := Aside0.mk (set_mid done l0 m HD.out c1 (⟨kk, wrap64 (kk + 1)⟩ : S41))
      have H2 : Aside0 ((mark2 (l0.drop (m + 1)) (wrap64 (wrap64 (kk + 1) + 1))).1 = r1 ∧ (done ++ [⟨kk, wrap64 (kk + 1)⟩]) ++ (mark2 (l0.drop (m + 1)) (wrap64 (wrap64 (kk + 1) + 1))).2 = r2) := ⟨by
        have e_ := HA.out
        rw [List.drop_eq_getElem_cons c1] at e_
        simp only [mark2] at e_
        rw [List.append_assoc, List.singleton_append]
        exact e_⟩
      clear HA hM hcc hfz hcl gl HG gb
      have c1b : decide ((m : Int) < (l0.length : Int)) = true := decide_eq_true q1
      have c1c : decide (m < l0.length) = true := decide_eq_true c1
      have p1 : (0 : Int) ≤ (m : Int) := by omega
      have hw1 : (m : Int) + 1 ≤ 9223372036854775807 := by have := HL.out; omega
      replace p1 := eq_true p1
      replace q1 := eq_true q1
      clear c1
      go_wp2
      refine wp_loop_rounds 3 ?_
      rw [rounds_succ]; go_wp2
      rw [rounds_succ]; go_wp2
      rw [rounds_succ]; go_wp2
      go_roundg (l0.length - m)
      case measure => have := HK1.out; have := HM.out; omega
      case rel => exact ⟨m + 1, _, done ++ [⟨kk, wrap64 (kk + 1)⟩], by first | rfl | (simp; done) | go_num, rfl, ⟨by have := of_eq_true q1; omega⟩, ⟨by have := of_eq_true q1; omega⟩, ⟨by rw [List.length_append, HD.out]; rfl⟩, H2, ⟨by rw [← HE.out]; exact HS.out.1⟩, ⟨pw_below_grown HB.out (some g) HB.out.size HS.out.2 (fun k_ e_ => by injection e_ with e_; subst e_; exact GB.out)⟩, ⟨Kept.of_grown HS.out.2 HK.out (fun k_ e_ => by injection e_ with e_; subst e_; exact .inl HPg.out)⟩⟩
    · have q1 : ¬ (m : Int) < (l0.length : Int) := by omega
      have c1b : decide ((m : Int) < (l0.length : Int)) = false := decide_eq_false q1
      have c1c : decide (m < l0.length) = false := decide_eq_false c1
      have H3 : Aside0 (kk = r1 ∧ done ++ l0.drop m = r2) := ⟨by
        have e_ := HA.out
        rw [List.drop_eq_nil_of_le (show l0.length ≤ m by omega)] at e_ ⊢
        exact e_⟩
      clear HA c1 q1
      go_wp2
      go_ret
      exact ⟨by have e_ := H3.out.1; subst e_; rfl, by rw [← H3.out.2]; exact HO.out, HB.out, HK.out⟩

end Go.Proofs.Ytihfpngolcjkiaa.P
namespace Go.Proofs.Ytihfpngolcjkiaa.P
open Go.RowKit Go.Proofs.YtihfpngolcjkiaaW.PrintWords Go.Proofs.YtihfpngolcjkiaaW.PrintLast Go.Proofs.YtihfpngolcjkiaaW.PrintMore
set_option linter.unusedVariables false
set_option linter.unusedSimpArgs false

/-- What a row of rows leads to is none of a row of another type. -/
theorem S_off {W : World} {base : Nat} {ok : Nat → Prop} {u v : Value} {l : List (List Int)} (h : Kd.S (Kd.slice 3 (Kd.int .i64)) 39 W base ok u l) {base' : Nat} {ok' : Nat → Prop} {m : List S41} (h' : Kd.R k41 41 W base' ok' v m) :
    Kd.S (Kd.slice 3 (Kd.int .i64)) 39 W base (fun k => ok k ∧ some k ≠ v.ownBlock) u l := Kd.S_apart' h (Kd.R_typed h') (by decide)
set_option maxRecDepth 100000 in
set_option maxHeartbeats 2000000 in
theorem laws_markSpace.calls (P0_ P1_ : Nat → Prop) (u0 u1 : Value) (l0 : List (List Int)) (l1 : List S41) (a1 : Int) (w0 w : World) (hB : Below w0.heap.size w0 w) (ho0 : Kd.S (Kd.slice 3 (Kd.int .i64)) 39 w w0.heap.size P0_ u0 l0) (ho1 : Kd.R k41 41 w w0.heap.size P1_ u1 l1) :
    Calls Try.prog 10 #[.agg #[u0, u1], .int .i64 a1] w fun e w' => e = .returned (.int .i64 (mark2 l1 (markSS l0 a1).1).1) ∧ Kd.S (Kd.slice 3 (Kd.int .i64)) 39 w' w0.heap.size (fun k_ => (P0_ k_ ∨ w.heap.size ≤ k_)) u0 (markSS l0 a1).2 ∧ Kd.R k41 41 w' w0.heap.size (fun k_ => (P1_ k_ ∨ w.heap.size ≤ k_)) u1 (mark2 l1 (markSS l0 a1).1).2 ∧ Below w0.heap.size w0 w' ∧ Kept w w' (fun k_ => P0_ k_ ∨ P1_ k_) := by
  have HS0 := Aside0.mk (Kd.S_mono (Kd.S_bound (S_off ho0 ho1)) (fun k hk => (⟨hk.1.1, hk.1.2, hk.2.2.1⟩ : P0_ k ∧ some k ≠ u1.ownBlock ∧ k < w.heap.size)))
  have HR0 := Aside0.mk (Kd.R_mono (Kd.R_bound (Kd.R_tight2 rfl ho1)) (fun k hk => (⟨hk.1.1, hk.1.2, hk.2.2.1⟩ : some k = u1.ownBlock ∧ P1_ k ∧ k < w.heap.size)))
  have HB := Aside0.mk hB
  clear ho0 ho1 hB
  obtain ⟨A0, c0, e0⟩ := Kd.S_slice HS0.out
  obtain ⟨A1, c1, e1⟩ := Kd.R_slice HR0.out
  subst e0
  subst e1
  generalize hu1 : (Value.slice A1 l1.length c1).ownBlock = b1 at HS0 HR0
  have HU := Aside0.mk hu1
  clear hu1
  generalize hm : markSS l0 a1 = M
  obtain ⟨k1, m0⟩ := M
  have HM := Aside0.mk hm
  clear hm
  go_enter Try.func10, Try.ntmps10
  go_wp2_with (first
    | ((with_reducible refine gate_dst (N := 2) rfl ?_); refine ze 2 #[.slice A0 l0.length c0, .slice A1 l1.length c1] 27 ?_; intro gb hg w5 hbox hb; have HB1 := Aside0.mk (below_step HB.out hb); have HS1 := Aside0.mk (Kd.S_below HS0.out hb); have HR1 := Aside0.mk (Kd.R_below HR0.out hb); have HK1 := Aside0.mk hb; have BK := Aside0.mk hbox; have GE := Aside0.mk hg; clear hb hbox hg HB HS0 HR0; have hc0 := zy BK 0; have hc1 := zy BK 1; have hf0 := blk_frozen BK.out 0; have hf1 := blk_frozen BK.out 1)
    | (go_at_call 31; refine (laws_markIntSS.calls _ _ l0 a1 k1 m0 w0 w5 HB1.out HS1.out (by unfold laws_markIntSS.f; rw [HM.out])).mono ?_; rintro e w6 ⟨rfl, hy, hb6, hkp6⟩; have HB2 := Aside0.mk hb6; have HS2 := Aside0.mk hy; have HR2 := Aside0.mk (Kd.R_kept HR1.out hkp6 (fun k hk hs => hs.2.1 hk.1)); have HK2 := Aside0.mk hkp6; have BK2 := Aside0.mk (blk_kept BK.out hkp6 (fun hs => by have := hs.2.2; have := GE.out; omega)); clear hy hb6 hkp6 hc0 hc1 hf0 hf1; have hc0 := zy BK2 0; have hc1 := zy BK2 1; have hf0 := blk_frozen BK2.out 0; have hf1 := blk_frozen BK2.out 1)
    | (go_at_call 32; refine (laws_markIntA2S.calls _ _ l1 k1 _ _ w0 w6 HB2.out HR2.out rfl).mono ?_; rintro e w7 ⟨rfl, hy, hb7, hkp7⟩; have HB3 := Aside0.mk hb7; have HR3 := Aside0.mk hy; have HS3 := Aside0.mk (Kd.S_kept HS2.out hkp7 (fun k hk hs => hk.elim (fun h => h.2.1 hs.1) (fun h => by have := hs.2.2; have := HK1.out.size; omega))); have HK3 := Aside0.mk hkp7; clear hy hb7 hkp7))
  go_ret
  refine ⟨rfl, Kd.S_mono HS3.out (fun k hk => hk.elim (fun h => .inl h.1) (fun h => .inr (Nat.le_trans HK1.out.size h))), Kd.R_mono HR3.out (fun k hk => hk.elim (fun h => .inl h.2.1) (fun h => .inr (Nat.le_trans (Nat.le_trans HK1.out.size HK2.out.1) h))), HB3.out, Nat.le_trans (Nat.le_trans HK1.out.size HK2.out.1) HK3.out.1, fun i hi hn => ?_⟩
  have h1 := HK1.out.block i hi
  have h5 : i < w5.heap.size := Nat.lt_of_lt_of_le hi HK1.out.size
  have h2 := HK2.out.2 i h5 (fun hs => hn (.inl hs.1))
  have h3 := HK3.out.2 i (Nat.lt_of_lt_of_le h5 HK2.out.1) (fun hs => hn (.inr hs.2.1))
  exact h3.trans (h2.trans h1)
/-- The same, with the result under names. -/
def laws_markSpace.f (l0 : List (List Int)) (l1 : List S41) (a1 : Int) : Option (Int × List (List Int) × List S41) := some ((mark2 l1 (markSS l0 a1).1).1, (markSS l0 a1).2, (mark2 l1 (markSS l0 a1).1).2)
theorem laws_markSpace.callsf (P0_ P1_ : Nat → Prop) (u0 u1 : Value) (l0 : List (List Int)) (l1 : List S41) (a1 : Int) (r1 : Int) (r2 : List (List Int)) (r3 : List S41) (w0 w : World) (hB : Below w0.heap.size w0 w) (ho0 : Kd.S (Kd.slice 3 (Kd.int .i64)) 39 w w0.heap.size P0_ u0 l0) (ho1 : Kd.R k41 41 w w0.heap.size P1_ u1 l1) (h : laws_markSpace.f l0 l1 a1 = some (r1, r2, r3)) :
    Calls Try.prog 10 #[.agg #[u0, u1], .int .i64 a1] w fun e w' => e = .returned (.int .i64 r1) ∧ Kd.S (Kd.slice 3 (Kd.int .i64)) 39 w' w0.heap.size (fun k_ => (P0_ k_ ∨ w.heap.size ≤ k_)) u0 r2 ∧ Kd.R k41 41 w' w0.heap.size (fun k_ => (P1_ k_ ∨ w.heap.size ≤ k_)) u1 r3 ∧ Below w0.heap.size w0 w' ∧ Kept w w' (fun k_ => P0_ k_ ∨ P1_ k_) := by
  have h' := Option.some.inj h
  injection h' with h1 h2
  injection h2 with h2 h3
  subst h1; subst h2; subst h3
  exact laws_markSpace.calls P0_ P1_ u0 u1 l0 l1 a1 w0 w hB ho0 ho1
end Go.Proofs.Ytihfpngolcjkiaa.P
namespace Go.Proofs.Ytihfpngolcjkiaa.P
open Go.RowKit Go.Proofs.YtihfpngolcjkiaaW.PrintWords Go.Proofs.YtihfpngolcjkiaaW.PrintLast Go.Proofs.YtihfpngolcjkiaaW.PrintMore
attribute [local go_sem] max2_int min2_int max_two min_two max_three min_three max_four min_four   -- for this text's walks alone
set_option linter.unusedVariables false
set_option linter.unusedSimpArgs false

/-! ### laws_heldIntS: function 64 -/
def laws_heldIntS.l0 : Nat → List Int → Int → Int → Option (Int)
 | 0, _, _, _ => none
 | k + 1, x0, x1, x5 => if x5 < (x0.length : Int) then (if 0 ≤ x5 then (if (rd x0 x5) = x1 then (laws_heldIntS.l0 k x0 (wrap64 (x1 + 1)) (wrap64 (x5 + 1))) else (some (-1))) else (none)) else (some x1)
def laws_heldIntS.f (k : Nat) (l0 : List Int) (a1 : Int) : Option (Int) := laws_heldIntS.l0 k l0 a1 0
set_option maxHeartbeats 8000000 in
set_option maxRecDepth 100000 in
theorem laws_heldIntS.calls (k : Nat) (A0 : Option Addr) (c0 : Nat) (l0 : List Int) (a1 : Int) (r : Int) (w : World) (hr0 : Kd.C (Kd.int .i64) w A0 l0.length l0) (hc0 : l0.length ≤ c0) (h : laws_heldIntS.f k l0 a1 = some r) :
 Calls Try.prog 64 #[.slice A0 l0.length c0, .int .i64 a1] w fun e w' => e = .returned (.int .i64 r) ∧ Drawn0 w w' := by
 have HR0 := Aside0.mk hr0
 have HC0 := Aside0.mk hc0
 clear hr0 hc0
 have H : (laws_heldIntS.l0 k l0 a1 0) = some r := h
 clear h
 have H' := Aside0.mk H
 clear H
 go_enter Try.func64, Try.ntmps64
 go_wp2
 go_loopg [1, 5] k (fun kq v1 v5 w' => ∃ (x1_1 : Int) (x5_1 : Int), v1 = .int .i64 x1_1 ∧ v5 = .int .i64 x5_1 ∧ Aside0 (laws_heldIntS.l0 kq l0 x1_1 x5_1 = some r) ∧ Aside0 (kq ≤ k) ∧ Drawn0 w w')
 case atStart => exact ⟨(a1), (0), (by first | rfl | (simp; done) | (simp [*]; done)), (by first | rfl | (simp; done) | (simp [*]; done)), H', ⟨Nat.le_refl _⟩, by repeat (first | exact Drawn0.refl _ | apply Drawn0.step)⟩
 case round =>
  clear H'
  try clear p2
  obtain ⟨x1_1, x5_1, rfl, rfl, HA, HK1, ⟨m1, rfl⟩⟩ := hrel
  cases gk with
  | zero => exact absurd HA.out (by simp [laws_heldIntS.l0])
  | succ k1 =>
   have H := HA.out
   clear HA
   simp only [laws_heldIntS.l0] at H
   by_cases c3 : x5_1 < (l0.length : Int)
   · rw [if_pos c3] at H
     have c3b0 := decide_eq_true c3
     clear c3
     by_cases c4 : 0 ≤ x5_1
     · rw [if_pos c4] at H
       have c4b0 := decide_eq_true c4
       clear c4
       by_cases c5 : (rd l0 x5_1) = x1_1
       · rw [if_pos c5] at H
         have c5b0 : ((rd l0 x5_1) == x1_1) = true := beq_iff_eq.mpr c5
         have c5b1 : ((rd l0 x5_1) != x1_1) = false := bne_eq_false_iff_eq.mpr c5
         clear c5
         have H' := Aside0.mk H
         clear H
         have p148 : 0 ≤ (x5_1 : Int) := of_decide_eq_true zA
         have q148 : x5_1 < (l0.length : Int) := of_decide_eq_true zA
         obtain ⟨ad148, e148, hx148_0⟩ := Kd.at_int HR0.out x5_1 p148 q148
         cases e148
         replace p148 := eq_true p148
         replace q148 := eq_true q148
         go_wp2
         go_roundg k1
         case measure => have := HK1.out; omega
         case rel => exact ⟨(wrap64 (x1_1 + 1)), (wrap64 (x5_1 + 1)), (by first | rfl | (simp; done) | (simp [*]; done)), (by first | rfl | (simp; done) | (simp [*]; done)), H', ⟨by have := HK1.out; omega⟩, by repeat (first | exact Drawn0.refl _ | apply Drawn0.step)⟩
       · rw [if_neg c5] at H
         have c5b0 : ((rd l0 x5_1) == x1_1) = false := beq_eq_false_iff_ne.mpr c5
         have c5b1 : ((rd l0 x5_1) != x1_1) = true := bne_iff_ne.mpr c5
         obtain rfl := Option.some.inj H
         have p148 : 0 ≤ (x5_1 : Int) := of_decide_eq_true zA
         have q148 : x5_1 < (l0.length : Int) := of_decide_eq_true zA
         obtain ⟨ad148, e148, hx148_0⟩ := Kd.at_int HR0.out x5_1 p148 q148
         cases e148
         replace p148 := eq_true p148
         replace q148 := eq_true q148
         go_wp2
         go_ret
         exact ⟨by first | rfl | (simp; done) | (simp [*]; done), by repeat (first | exact Drawn0.refl _ | apply Drawn0.step)⟩
     · rw [if_neg c4] at H
       exact absurd H (by simp)
   · rw [if_neg c3] at H
     have c3b0 : decide (x5_1 < (l0.length : Int)) = false := decide_eq_false c3
     clear c3
     obtain rfl := Option.some.inj H
     go_wp2
     go_ret
     exact ⟨by first | rfl | (simp; done) | (simp [*]; done), by repeat (first | exact Drawn0.refl _ | apply Drawn0.step)⟩

end Go.Proofs.Ytihfpngolcjkiaa.P
