-- Written by a program of this session (the kit's print, turned: wip/print/patch.py) out of the translation. Not trusted: Lean checks it.
import Derived.Test.YtpbngmkhpcgpkaaIsWayPx0
import Derived.Test.YtpbngmkhpcgpkaaIsWayPx3
import Derived.Test.YtpbngmkhpcgpkaaIsWayPx4
import Derived.Test.YtpbngmkhpcgpkaaIsWayPx16
import Derived.Test.YtpbngmkhpcgpkaaIsWayPx23
namespace Go.Proofs.Ytpbngmkhpcgpkaa.P
open Go.RowKit Go.Proofs.YtpbngmkhpcgpkaaW.PrintWords Go.Proofs.YtpbngmkhpcgpkaaW.PrintLast Go.Proofs.YtpbngmkhpcgpkaaW.PrintMore
attribute [local go_sem] max2_int min2_int max_two min_two max_three min_three max_four min_four   -- for this text's walks alone
set_option linter.unusedVariables false
set_option linter.unusedSimpArgs false

/-! ### spec_l2Space: function 73 -/
mutual
def spec_l2Space.j0 : Nat → Bool → List (List Int) → List (S68) → Option (Bool)
 | 0, _, _, _ => none
 | k + 1, x13, x497000, x497001 => if x13 = true then (some false) else (spec_l2Space.l0 k 0 x497000 x497001)
def spec_l2Space.l0 : Nat → Int → List (List Int) → List (S68) → Option (Bool)
 | 0, _, _, _ => none
 | k + 1, x3, x497000, x497001 => if x3 < (x497000.length : Int) then (if 0 ≤ x3 then ((spec_l2State.f k (rd_L4 x497000 x3)).bind fun t499 => (if t499 = true then (if x3 > 0 then (if 0 ≤ (wrap64 (x3 - 1)) then (if (wrap64 (x3 - 1)) < (x497000.length : Int) then ((spec_l2Before.f k (rd_L4 x497000 (wrap64 (x3 - 1))) (rd_L4 x497000 x3)).bind fun t502 => (if t502 = true then (spec_l2Space.l0 k (wrap64 (x3 + 1)) x497000 x497001) else (some false))) else (none)) else (none)) else (spec_l2Space.l0 k (wrap64 (x3 + 1)) x497000 x497001)) else (some false))) else (none)) else ((spec_l2Pairs.f k x497001 (x497000.length : Int)).bind fun t497 => (some t497))
end
def spec_l2Space.f (k : Nat) (l0_0 : List (List Int)) (l0_1 : List (S68)) : Option (Bool) := if (l0_0.length : Int) > 300 then (spec_l2Space.j0 k true l0_0 l0_1) else (spec_l2Space.j0 k (decide ((l0_1.length : Int) > 6000)) l0_0 l0_1)
set_option maxHeartbeats 8000000 in
set_option maxRecDepth 100000 in
theorem spec_l2Space.calls (k : Nat) (A0_0 : Option Addr) (c0_0 : Nat) (l0_0 : List (List Int)) (A0_1 : Option Addr) (c0_1 : Nat) (l0_1 : List (S68)) (r : Bool) (w : World) (hr0_0 : Kd.C (Kd.slice 3 (Kd.int .i64)) w A0_0 l0_0.length l0_0) (hc0_0 : l0_0.length ≤ c0_0) (hr0_1 : Kd.C k68 w A0_1 l0_1.length l0_1) (hc0_1 : l0_1.length ≤ c0_1) (h : spec_l2Space.f k l0_0 l0_1 = some r) :
 Calls Try.prog 73 #[.agg #[.slice A0_0 l0_0.length c0_0, .slice A0_1 l0_1.length c0_1]] w fun e w' => e = .returned (.bool r) ∧ Below w.heap.size w w' := by
 have hu50 := Try.underlying50
 have HR0_0 := Aside0.mk hr0_0
 have HC0_0 := Aside0.mk hc0_0
 clear hr0_0 hc0_0
 have HR0_1 := Aside0.mk hr0_1
 have HC0_1 := Aside0.mk hc0_1
 clear hr0_1 hc0_1
 have HB := zM (Below.refl w.heap.size w)
 have H : (if (l0_0.length : Int) > 300 then (spec_l2Space.j0 k true l0_0 l0_1) else (spec_l2Space.j0 k (decide ((l0_1.length : Int) > 6000)) l0_0 l0_1)) = some r := h
 clear h
 have HC2 := Aside0.mk H
 clear H
 go_enter Try.func73, Try.ntmps73
 go_upto_region 1 with (first | ((with_reducible refine gate_dst (N := 1) rfl ?_); (try (refine gate_guard (by rfl) ?_; dsimp only)); refine zb (w := w) 1 #[.slice A0_0 l0_0.length c0_0, .slice A0_1 l0_1.length c0_1] 50 zB ?_; clear HB; intro gb496 w3 HB BK496 GW496; have GE496 := GW496))
 repeat (go_quiet (first | ((with_reducible refine gate_dst (N := 1) rfl ?_); (try (refine gate_guard (by rfl) ?_; dsimp only)); refine zb (w := w) 1 #[.slice A0_0 l0_0.length c0_0, .slice A0_1 l0_1.length c0_1] 50 zB ?_; clear HB; intro gb496 w3 HB BK496 GW496; have GE496 := GW496)); go_upto_region 1 with (first | ((with_reducible refine gate_dst (N := 1) rfl ?_); (try (refine gate_guard (by rfl) ?_; dsimp only)); refine zb (w := w) 1 #[.slice A0_0 l0_0.length c0_0, .slice A0_1 l0_1.length c0_1] 50 zB ?_; clear HB; intro gb496 w3 HB BK496 GW496; have GE496 := GW496)))
 (try simp only [Act.put, List.setIfInBounds_toArray, List.set_cons_zero, List.set_cons_succ])
 go_cut [13] (fun v13 wc => ∃ (kq : Nat) (x13_1 : Bool), v13 = .bool x13_1 ∧ Aside0 (spec_l2Space.j0 kq x13_1 l0_0 l0_1 = some r) ∧ Aside0 (kq ≤ k) ∧ Aside0 (wc.heap[gb496]? = some (.cells #[(.slice A0_0 l0_0.length c0_0), (.slice A0_1 l0_1.length c0_1)] 50 (0, 0))) ∧ Aside0 (Below w.heap.size w wc))
 case first =>
  have H := HC2.out
  clear HC2
  by_cases c4 : (l0_0.length : Int) > 300
  · rw [if_pos c4] at H
    have c4b0 : decide (300 < (l0_0.length : Int)) = true := decide_eq_true c4
    have c4b1 : decide (300 < l0_0.length) = true := decide_eq_true (by omega)
    clear c4
    (first | rw [c4b0] | (simp only [i64_w, i32_w]; rw [c4b0]) | skip)
    have H' := Aside0.mk H
    clear H
    have hcz5_0 := zy BK496 0
    have hcz5_1 := zy BK496 1
    have hfz5_0 := blk_frozen BK496.out 0
    have hfz5_1 := blk_frozen BK496.out 1
    go_wp2
    repeat (go_quiet (fail); try go_wp2)
    go_meet
    case rel => exact ⟨_, (true), (by first | rfl | (simp; done) | (simp [*]; done)), H', ⟨by first | omega | exact Nat.le_refl _⟩, ⟨zK BK496.out⟩, ⟨zB⟩⟩
  · rw [if_neg c4] at H
    have c4b0 : decide (300 < (l0_0.length : Int)) = false := decide_eq_false c4
    have c4b1 : decide (300 < l0_0.length) = false := decide_eq_false (by omega)
    clear c4
    (first | rw [c4b0] | (simp only [i64_w, i32_w]; rw [c4b0]) | skip)
    have H' := Aside0.mk H
    clear H
    have hcz6_0 := zy BK496 0
    have hcz6_1 := zy BK496 1
    have hfz6_0 := blk_frozen BK496.out 0
    have hfz6_1 := blk_frozen BK496.out 1
    go_wp2
    repeat (go_quiet (fail); try go_wp2)
    go_meet
    case rel => exact ⟨_, (decide ((l0_1.length : Int) > 6000)), (by first | rfl | (simp; done) | (simp [*]; done)), H', ⟨by first | omega | exact Nat.le_refl _⟩, ⟨zK BK496.out⟩, ⟨zB⟩⟩
 case rest =>
  clear HC2
  try clear p2
  try clear c4
  try clear c4b0
  try clear c4b1
  try clear hcz5_0
  try clear hcz5_1
  try clear hcz6_0
  try clear hcz6_1
  try clear hfz5_0
  try clear hfz5_1
  try clear hfz6_0
  try clear hfz6_1
  obtain ⟨kq, x13_1, rfl, HA, HJ1, BK496, HB⟩ := hcut
  cases kq with
  | zero => exact absurd HA.out (by simp [spec_l2Space.j0])
  | succ kj1 =>
   have H := HA.out
   clear HA
   simp only [spec_l2Space.j0] at H
   by_cases c7 : x13_1 = true
   · subst c7
     rw [if_pos rfl] at H
     obtain rfl := Option.some.inj H
     go_wp2
     repeat (go_quiet (fail); try go_wp2)
     go_ret
     exact ⟨by first | rfl | (simp [errW_none, errW_some] <;> rfl) | (simp [*, errW_none, errW_some] <;> rfl), zB⟩
   · replace c7 := Bool.eq_false_iff.mpr c7
     subst c7
     have H1 : (spec_l2Space.l0 kj1 0 l0_0 l0_1) = some r := by rw [if_neg (show ¬ (false = true) by decide)] at H; exact H
     clear H
     have H := H1
     clear H1
     have H' := Aside0.mk H
     clear H
     go_wp2
     repeat (go_quiet (fail); try go_wp2)
     go_loopg [3] kj1 (fun kq v3 w' => ∃ (x3_2 : Int), v3 = .int .i64 x3_2 ∧ Aside0 (spec_l2Space.l0 kq x3_2 l0_0 l0_1 = some r) ∧ Aside0 (kq ≤ kj1) ∧ Aside0 (w'.heap[gb496]? = some (.cells #[(.slice A0_0 l0_0.length c0_0), (.slice A0_1 l0_1.length c0_1)] 50 (0, 0))) ∧ Aside0 (Below w.heap.size w w'))
     case atStart => exact ⟨(0), (by first | rfl | (simp; done) | (simp [*]; done)), H', ⟨Nat.le_refl _⟩, ⟨zK BK496.out⟩, ⟨zB⟩⟩
     case round =>
      clear H'
      try clear p2
      try clear c4
      try clear c4b0
      try clear c4b1
      try clear c7
      try clear hcz5_0
      try clear hcz5_1
      try clear hcz6_0
      try clear hcz6_1
      try clear hfz5_0
      try clear hfz5_1
      try clear hfz6_0
      try clear hfz6_1
      try clear p2
      obtain ⟨x3_2, rfl, HA, HK2, BK496, HB⟩ := hrel
      cases gk with
      | zero => exact absurd HA.out (by simp [spec_l2Space.l0])
      | succ k2 =>
       have H := HA.out
       clear HA
       simp only [spec_l2Space.l0] at H
       by_cases c8 : x3_2 < (l0_0.length : Int)
       · rw [if_pos c8] at H
         have c8b0 := decide_eq_true c8
         clear c8
         by_cases c9 : 0 ≤ x3_2
         · rw [if_pos c9] at H
           have c9b0 := decide_eq_true c9
           clear c9
           replace H := Option.bind_eq_some_iff.mp H
           obtain ⟨t499, A100, H⟩ := H
           have A10 := Aside0.mk A100
           clear A100
           by_cases c11 : t499 = true
           · subst c11
             rw [if_pos rfl] at H
             by_cases c12 : x3_2 > 0
             · rw [if_pos c12] at H
               have c12b0 : decide (0 < x3_2) = true := decide_eq_true c12
               clear c12
               obtain ⟨ji13, hji13⟩ : ∃ j_ : Int, (wrap64 (x3_2 - 1)) = j_ := ⟨_, rfl⟩
               replace H : (if 0 ≤ (ji13) then (if (ji13) < (l0_0.length : Int) then ((spec_l2Before.f k2 (rd_L4 l0_0 (ji13)) (rd_L4 l0_0 x3_2)).bind fun t502 => (if t502 = true then (spec_l2Space.l0 k2 (wrap64 (x3_2 + 1)) l0_0 l0_1) else (some false))) else (none)) else (none)) = some r := by first | (rw [hji13] at H; exact H) | (simp only [hji13] at H ⊢; exact H)
               (try rw [hji13] at A10)
               have hji13w : (IntKind.i64.wrap (x3_2 - 1)) = ji13 := (i64_w _).trans hji13
               by_cases c14 : 0 ≤ (ji13)
               · rw [if_pos c14] at H
                 have c14b0 := decide_eq_true c14
                 clear c14
                 by_cases c15 : (ji13) < (l0_0.length : Int)
                 · rw [if_pos c15] at H
                   have c15b0 := decide_eq_true c15
                   clear c15
                   replace H := Option.bind_eq_some_iff.mp H
                   obtain ⟨t502, A160, H⟩ := H
                   have A16 := Aside0.mk A160
                   clear A160
                   by_cases c17 : t502 = true
                   · subst c17
                     rw [if_pos rfl] at H
                     have H' := Aside0.mk H
                     clear H
                     have hcz18_0 := zy BK496 0
                     have hcz18_1 := zy BK496 1
                     have hfz18_0 := blk_frozen BK496.out 0
                     have hfz18_1 := blk_frozen BK496.out 1
                     have p498 : 0 ≤ (x3_2 : Int) := of_decide_eq_true zA
                     have q498 : x3_2 < (l0_0.length : Int) := of_decide_eq_true zA
                     obtain ⟨ad498, A498_0, c498_0, e498, hx498_0, hl498_0, hi498_0⟩ := at_L4 HR0_0.out x3_2 p498 q498
                     cases e498
                     (try replace hx498_0 := (HB.out.cell (World.block_lt_of_cell? w _ hx498_0)).trans hx498_0)
                     have HR498_0 := Aside0.mk hi498_0
                     have HC498_0 := Aside0.mk hl498_0
                     clear hi498_0 hl498_0
                     replace p498 := eq_true p498
                     replace q498 := eq_true q498
                     go_wp2_with (first | (go_at_call 104; (with_reducible refine (spec_l2State.calls k2 _ _ (rd_L4 l0_0 x3_2) true _ ?side1 ?side2 A10.out).mono ?_); (case side1 => exact zC (Kd.C_below HR498_0.out HB.out)); (case side2 => exact HC498_0.out); rintro e w' ⟨rfl, ⟨nd, rfl⟩⟩; (try exact zD); have p500 : 0 ≤ ((ji13) : Int) := of_decide_eq_true zA; have q500 : (ji13) < (l0_0.length : Int) := of_decide_eq_true zA; obtain ⟨ad500, A500_0, c500_0, e500, hx500_0, hl500_0, hi500_0⟩ := at_L4 HR0_0.out (ji13) p500 q500; obtain rfl : ad498 = ad500 := (by injection e500); (try replace hx500_0 := (HB.out.cell (World.block_lt_of_cell? w _ hx500_0)).trans hx500_0); have HR500_0 := Aside0.mk hi500_0; have HC500_0 := Aside0.mk hl500_0; clear hi500_0 hl500_0; replace p500 := eq_true p500; replace q500 := eq_true q500; have p501 : 0 ≤ (x3_2 : Int) := of_decide_eq_true zA; have q501 : x3_2 < (l0_0.length : Int) := of_decide_eq_true zA; obtain ⟨ad501, A501_0, c501_0, e501, hx501_0, hl501_0, hi501_0⟩ := at_L4 HR0_0.out x3_2 p501 q501; obtain rfl : ad498 = ad501 := (by injection e501); (try replace hx501_0 := (HB.out.cell (World.block_lt_of_cell? w _ hx501_0)).trans hx501_0); have HR501_0 := Aside0.mk hi501_0; have HC501_0 := Aside0.mk hl501_0; clear hi501_0 hl501_0; replace p501 := eq_true p501; replace q501 := eq_true q501; have ea_ := Option.some.inj (hx498_0.symm.trans hx501_0); injection ea_ with ea_ en_ ec_; subst ea_; subst ec_; clear en_) | (go_at_call 105; (with_reducible refine (spec_l2Before.calls k2 _ _ (rd_L4 l0_0 (ji13)) _ _ (rd_L4 l0_0 x3_2) true _ ?side1 ?side2 ?side3 ?side4 A16.out).mono ?_); (case side1 => exact zC (Kd.C_below HR500_0.out zB)); (case side2 => exact HC500_0.out); (case side3 => exact zC (Kd.C_below HR501_0.out zB)); (case side4 => exact HC501_0.out); rintro e w' ⟨rfl, ⟨nd, rfl⟩⟩; (try exact zD)))
                     repeat (go_quiet (first | (go_at_call 104; (with_reducible refine (spec_l2State.calls k2 _ _ (rd_L4 l0_0 x3_2) true _ ?side1 ?side2 A10.out).mono ?_); (case side1 => exact zC (Kd.C_below HR498_0.out HB.out)); (case side2 => exact HC498_0.out); rintro e w' ⟨rfl, ⟨nd, rfl⟩⟩; (try exact zD); have p500 : 0 ≤ ((ji13) : Int) := of_decide_eq_true zA; have q500 : (ji13) < (l0_0.length : Int) := of_decide_eq_true zA; obtain ⟨ad500, A500_0, c500_0, e500, hx500_0, hl500_0, hi500_0⟩ := at_L4 HR0_0.out (ji13) p500 q500; obtain rfl : ad498 = ad500 := (by injection e500); (try replace hx500_0 := (HB.out.cell (World.block_lt_of_cell? w _ hx500_0)).trans hx500_0); have HR500_0 := Aside0.mk hi500_0; have HC500_0 := Aside0.mk hl500_0; clear hi500_0 hl500_0; replace p500 := eq_true p500; replace q500 := eq_true q500; have p501 : 0 ≤ (x3_2 : Int) := of_decide_eq_true zA; have q501 : x3_2 < (l0_0.length : Int) := of_decide_eq_true zA; obtain ⟨ad501, A501_0, c501_0, e501, hx501_0, hl501_0, hi501_0⟩ := at_L4 HR0_0.out x3_2 p501 q501; obtain rfl : ad498 = ad501 := (by injection e501); (try replace hx501_0 := (HB.out.cell (World.block_lt_of_cell? w _ hx501_0)).trans hx501_0); have HR501_0 := Aside0.mk hi501_0; have HC501_0 := Aside0.mk hl501_0; clear hi501_0 hl501_0; replace p501 := eq_true p501; replace q501 := eq_true q501; have ea_ := Option.some.inj (hx498_0.symm.trans hx501_0); injection ea_ with ea_ en_ ec_; subst ea_; subst ec_; clear en_) | (go_at_call 105; (with_reducible refine (spec_l2Before.calls k2 _ _ (rd_L4 l0_0 (ji13)) _ _ (rd_L4 l0_0 x3_2) true _ ?side1 ?side2 ?side3 ?side4 A16.out).mono ?_); (case side1 => exact zC (Kd.C_below HR500_0.out zB)); (case side2 => exact HC500_0.out); (case side3 => exact zC (Kd.C_below HR501_0.out zB)); (case side4 => exact HC501_0.out); rintro e w' ⟨rfl, ⟨nd, rfl⟩⟩; (try exact zD))); try go_wp2_with (first | (go_at_call 104; (with_reducible refine (spec_l2State.calls k2 _ _ (rd_L4 l0_0 x3_2) true _ ?side1 ?side2 A10.out).mono ?_); (case side1 => exact zC (Kd.C_below HR498_0.out HB.out)); (case side2 => exact HC498_0.out); rintro e w' ⟨rfl, ⟨nd, rfl⟩⟩; (try exact zD); have p500 : 0 ≤ ((ji13) : Int) := of_decide_eq_true zA; have q500 : (ji13) < (l0_0.length : Int) := of_decide_eq_true zA; obtain ⟨ad500, A500_0, c500_0, e500, hx500_0, hl500_0, hi500_0⟩ := at_L4 HR0_0.out (ji13) p500 q500; obtain rfl : ad498 = ad500 := (by injection e500); (try replace hx500_0 := (HB.out.cell (World.block_lt_of_cell? w _ hx500_0)).trans hx500_0); have HR500_0 := Aside0.mk hi500_0; have HC500_0 := Aside0.mk hl500_0; clear hi500_0 hl500_0; replace p500 := eq_true p500; replace q500 := eq_true q500; have p501 : 0 ≤ (x3_2 : Int) := of_decide_eq_true zA; have q501 : x3_2 < (l0_0.length : Int) := of_decide_eq_true zA; obtain ⟨ad501, A501_0, c501_0, e501, hx501_0, hl501_0, hi501_0⟩ := at_L4 HR0_0.out x3_2 p501 q501; obtain rfl : ad498 = ad501 := (by injection e501); (try replace hx501_0 := (HB.out.cell (World.block_lt_of_cell? w _ hx501_0)).trans hx501_0); have HR501_0 := Aside0.mk hi501_0; have HC501_0 := Aside0.mk hl501_0; clear hi501_0 hl501_0; replace p501 := eq_true p501; replace q501 := eq_true q501; have ea_ := Option.some.inj (hx498_0.symm.trans hx501_0); injection ea_ with ea_ en_ ec_; subst ea_; subst ec_; clear en_) | (go_at_call 105; (with_reducible refine (spec_l2Before.calls k2 _ _ (rd_L4 l0_0 (ji13)) _ _ (rd_L4 l0_0 x3_2) true _ ?side1 ?side2 ?side3 ?side4 A16.out).mono ?_); (case side1 => exact zC (Kd.C_below HR500_0.out zB)); (case side2 => exact HC500_0.out); (case side3 => exact zC (Kd.C_below HR501_0.out zB)); (case side4 => exact HC501_0.out); rintro e w' ⟨rfl, ⟨nd, rfl⟩⟩; (try exact zD))))
                     go_roundg k2
                     case measure => have := HJ1.out; have := HK2.out; omega
                     case rel => exact ⟨(wrap64 (x3_2 + 1)), (by first | rfl | (simp; done) | (simp [*]; done)), H', ⟨by have := HJ1.out; have := HK2.out; omega⟩, ⟨zK BK496.out⟩, ⟨zB⟩⟩
                   · replace c17 := Bool.eq_false_iff.mpr c17
                     subst c17
                     have H1 : (some false) = some r := by rw [if_neg (show ¬ (false = true) by decide)] at H; exact H
                     clear H
                     have H := H1
                     clear H1
                     obtain rfl := Option.some.inj H
                     have hcz19_0 := zy BK496 0
                     have hcz19_1 := zy BK496 1
                     have hfz19_0 := blk_frozen BK496.out 0
                     have hfz19_1 := blk_frozen BK496.out 1
                     have p498 : 0 ≤ (x3_2 : Int) := of_decide_eq_true zA
                     have q498 : x3_2 < (l0_0.length : Int) := of_decide_eq_true zA
                     obtain ⟨ad498, A498_0, c498_0, e498, hx498_0, hl498_0, hi498_0⟩ := at_L4 HR0_0.out x3_2 p498 q498
                     cases e498
                     (try replace hx498_0 := (HB.out.cell (World.block_lt_of_cell? w _ hx498_0)).trans hx498_0)
                     have HR498_0 := Aside0.mk hi498_0
                     have HC498_0 := Aside0.mk hl498_0
                     clear hi498_0 hl498_0
                     replace p498 := eq_true p498
                     replace q498 := eq_true q498
                     go_wp2_with (first | (go_at_call 104; (with_reducible refine (spec_l2State.calls k2 _ _ (rd_L4 l0_0 x3_2) true _ ?side1 ?side2 A10.out).mono ?_); (case side1 => exact zC (Kd.C_below HR498_0.out HB.out)); (case side2 => exact HC498_0.out); rintro e w' ⟨rfl, ⟨nd, rfl⟩⟩; (try exact zD); have p500 : 0 ≤ ((ji13) : Int) := of_decide_eq_true zA; have q500 : (ji13) < (l0_0.length : Int) := of_decide_eq_true zA; obtain ⟨ad500, A500_0, c500_0, e500, hx500_0, hl500_0, hi500_0⟩ := at_L4 HR0_0.out (ji13) p500 q500; obtain rfl : ad498 = ad500 := (by injection e500); (try replace hx500_0 := (HB.out.cell (World.block_lt_of_cell? w _ hx500_0)).trans hx500_0); have HR500_0 := Aside0.mk hi500_0; have HC500_0 := Aside0.mk hl500_0; clear hi500_0 hl500_0; replace p500 := eq_true p500; replace q500 := eq_true q500; have p501 : 0 ≤ (x3_2 : Int) := of_decide_eq_true zA; have q501 : x3_2 < (l0_0.length : Int) := of_decide_eq_true zA; obtain ⟨ad501, A501_0, c501_0, e501, hx501_0, hl501_0, hi501_0⟩ := at_L4 HR0_0.out x3_2 p501 q501; obtain rfl : ad498 = ad501 := (by injection e501); (try replace hx501_0 := (HB.out.cell (World.block_lt_of_cell? w _ hx501_0)).trans hx501_0); have HR501_0 := Aside0.mk hi501_0; have HC501_0 := Aside0.mk hl501_0; clear hi501_0 hl501_0; replace p501 := eq_true p501; replace q501 := eq_true q501; have ea_ := Option.some.inj (hx498_0.symm.trans hx501_0); injection ea_ with ea_ en_ ec_; subst ea_; subst ec_; clear en_) | (go_at_call 105; (with_reducible refine (spec_l2Before.calls k2 _ _ (rd_L4 l0_0 (ji13)) _ _ (rd_L4 l0_0 x3_2) false _ ?side1 ?side2 ?side3 ?side4 A16.out).mono ?_); (case side1 => exact zC (Kd.C_below HR500_0.out zB)); (case side2 => exact HC500_0.out); (case side3 => exact zC (Kd.C_below HR501_0.out zB)); (case side4 => exact HC501_0.out); rintro e w' ⟨rfl, ⟨nd, rfl⟩⟩; (try exact zD)))
                     repeat (go_quiet (first | (go_at_call 104; (with_reducible refine (spec_l2State.calls k2 _ _ (rd_L4 l0_0 x3_2) true _ ?side1 ?side2 A10.out).mono ?_); (case side1 => exact zC (Kd.C_below HR498_0.out HB.out)); (case side2 => exact HC498_0.out); rintro e w' ⟨rfl, ⟨nd, rfl⟩⟩; (try exact zD); have p500 : 0 ≤ ((ji13) : Int) := of_decide_eq_true zA; have q500 : (ji13) < (l0_0.length : Int) := of_decide_eq_true zA; obtain ⟨ad500, A500_0, c500_0, e500, hx500_0, hl500_0, hi500_0⟩ := at_L4 HR0_0.out (ji13) p500 q500; obtain rfl : ad498 = ad500 := (by injection e500); (try replace hx500_0 := (HB.out.cell (World.block_lt_of_cell? w _ hx500_0)).trans hx500_0); have HR500_0 := Aside0.mk hi500_0; have HC500_0 := Aside0.mk hl500_0; clear hi500_0 hl500_0; replace p500 := eq_true p500; replace q500 := eq_true q500; have p501 : 0 ≤ (x3_2 : Int) := of_decide_eq_true zA; have q501 : x3_2 < (l0_0.length : Int) := of_decide_eq_true zA; obtain ⟨ad501, A501_0, c501_0, e501, hx501_0, hl501_0, hi501_0⟩ := at_L4 HR0_0.out x3_2 p501 q501; obtain rfl : ad498 = ad501 := (by injection e501); (try replace hx501_0 := (HB.out.cell (World.block_lt_of_cell? w _ hx501_0)).trans hx501_0); have HR501_0 := Aside0.mk hi501_0; have HC501_0 := Aside0.mk hl501_0; clear hi501_0 hl501_0; replace p501 := eq_true p501; replace q501 := eq_true q501; have ea_ := Option.some.inj (hx498_0.symm.trans hx501_0); injection ea_ with ea_ en_ ec_; subst ea_; subst ec_; clear en_) | (go_at_call 105; (with_reducible refine (spec_l2Before.calls k2 _ _ (rd_L4 l0_0 (ji13)) _ _ (rd_L4 l0_0 x3_2) false _ ?side1 ?side2 ?side3 ?side4 A16.out).mono ?_); (case side1 => exact zC (Kd.C_below HR500_0.out zB)); (case side2 => exact HC500_0.out); (case side3 => exact zC (Kd.C_below HR501_0.out zB)); (case side4 => exact HC501_0.out); rintro e w' ⟨rfl, ⟨nd, rfl⟩⟩; (try exact zD))); try go_wp2_with (first | (go_at_call 104; (with_reducible refine (spec_l2State.calls k2 _ _ (rd_L4 l0_0 x3_2) true _ ?side1 ?side2 A10.out).mono ?_); (case side1 => exact zC (Kd.C_below HR498_0.out HB.out)); (case side2 => exact HC498_0.out); rintro e w' ⟨rfl, ⟨nd, rfl⟩⟩; (try exact zD); have p500 : 0 ≤ ((ji13) : Int) := of_decide_eq_true zA; have q500 : (ji13) < (l0_0.length : Int) := of_decide_eq_true zA; obtain ⟨ad500, A500_0, c500_0, e500, hx500_0, hl500_0, hi500_0⟩ := at_L4 HR0_0.out (ji13) p500 q500; obtain rfl : ad498 = ad500 := (by injection e500); (try replace hx500_0 := (HB.out.cell (World.block_lt_of_cell? w _ hx500_0)).trans hx500_0); have HR500_0 := Aside0.mk hi500_0; have HC500_0 := Aside0.mk hl500_0; clear hi500_0 hl500_0; replace p500 := eq_true p500; replace q500 := eq_true q500; have p501 : 0 ≤ (x3_2 : Int) := of_decide_eq_true zA; have q501 : x3_2 < (l0_0.length : Int) := of_decide_eq_true zA; obtain ⟨ad501, A501_0, c501_0, e501, hx501_0, hl501_0, hi501_0⟩ := at_L4 HR0_0.out x3_2 p501 q501; obtain rfl : ad498 = ad501 := (by injection e501); (try replace hx501_0 := (HB.out.cell (World.block_lt_of_cell? w _ hx501_0)).trans hx501_0); have HR501_0 := Aside0.mk hi501_0; have HC501_0 := Aside0.mk hl501_0; clear hi501_0 hl501_0; replace p501 := eq_true p501; replace q501 := eq_true q501; have ea_ := Option.some.inj (hx498_0.symm.trans hx501_0); injection ea_ with ea_ en_ ec_; subst ea_; subst ec_; clear en_) | (go_at_call 105; (with_reducible refine (spec_l2Before.calls k2 _ _ (rd_L4 l0_0 (ji13)) _ _ (rd_L4 l0_0 x3_2) false _ ?side1 ?side2 ?side3 ?side4 A16.out).mono ?_); (case side1 => exact zC (Kd.C_below HR500_0.out zB)); (case side2 => exact HC500_0.out); (case side3 => exact zC (Kd.C_below HR501_0.out zB)); (case side4 => exact HC501_0.out); rintro e w' ⟨rfl, ⟨nd, rfl⟩⟩; (try exact zD))))
                     go_ret
                     exact ⟨by first | rfl | (simp [errW_none, errW_some] <;> rfl) | (simp only [← hji13]; first | rfl | (simp [errW_none, errW_some] <;> rfl)) | (simp [*, errW_none, errW_some] <;> rfl), zB⟩
                 · rw [if_neg c15] at H
                   exact absurd H (by simp)
               · rw [if_neg c14] at H
                 exact absurd H (by simp)
             · rw [if_neg c12] at H
               have c12b0 : decide (0 < x3_2) = false := decide_eq_false c12
               clear c12
               have H' := Aside0.mk H
               clear H
               have hcz20_0 := zy BK496 0
               have hcz20_1 := zy BK496 1
               have hfz20_0 := blk_frozen BK496.out 0
               have hfz20_1 := blk_frozen BK496.out 1
               have p498 : 0 ≤ (x3_2 : Int) := of_decide_eq_true zA
               have q498 : x3_2 < (l0_0.length : Int) := of_decide_eq_true zA
               obtain ⟨ad498, A498_0, c498_0, e498, hx498_0, hl498_0, hi498_0⟩ := at_L4 HR0_0.out x3_2 p498 q498
               cases e498
               (try replace hx498_0 := (HB.out.cell (World.block_lt_of_cell? w _ hx498_0)).trans hx498_0)
               have HR498_0 := Aside0.mk hi498_0
               have HC498_0 := Aside0.mk hl498_0
               clear hi498_0 hl498_0
               replace p498 := eq_true p498
               replace q498 := eq_true q498
               go_wp2_with (first | (go_at_call 104; (with_reducible refine (spec_l2State.calls k2 _ _ (rd_L4 l0_0 x3_2) true _ ?side1 ?side2 A10.out).mono ?_); (case side1 => exact zC (Kd.C_below HR498_0.out HB.out)); (case side2 => exact HC498_0.out); rintro e w' ⟨rfl, ⟨nd, rfl⟩⟩; (try exact zD)))
               repeat (go_quiet (first | (go_at_call 104; (with_reducible refine (spec_l2State.calls k2 _ _ (rd_L4 l0_0 x3_2) true _ ?side1 ?side2 A10.out).mono ?_); (case side1 => exact zC (Kd.C_below HR498_0.out HB.out)); (case side2 => exact HC498_0.out); rintro e w' ⟨rfl, ⟨nd, rfl⟩⟩; (try exact zD))); try go_wp2_with (first | (go_at_call 104; (with_reducible refine (spec_l2State.calls k2 _ _ (rd_L4 l0_0 x3_2) true _ ?side1 ?side2 A10.out).mono ?_); (case side1 => exact zC (Kd.C_below HR498_0.out HB.out)); (case side2 => exact HC498_0.out); rintro e w' ⟨rfl, ⟨nd, rfl⟩⟩; (try exact zD))))
               go_roundg k2
               case measure => have := HJ1.out; have := HK2.out; omega
               case rel => exact ⟨(wrap64 (x3_2 + 1)), (by first | rfl | (simp; done) | (simp [*]; done)), H', ⟨by have := HJ1.out; have := HK2.out; omega⟩, ⟨zK BK496.out⟩, ⟨zB⟩⟩
           · replace c11 := Bool.eq_false_iff.mpr c11
             subst c11
             have H1 : (some false) = some r := by rw [if_neg (show ¬ (false = true) by decide)] at H; exact H
             clear H
             have H := H1
             clear H1
             obtain rfl := Option.some.inj H
             have hcz21_0 := zy BK496 0
             have hcz21_1 := zy BK496 1
             have hfz21_0 := blk_frozen BK496.out 0
             have hfz21_1 := blk_frozen BK496.out 1
             have p498 : 0 ≤ (x3_2 : Int) := of_decide_eq_true zA
             have q498 : x3_2 < (l0_0.length : Int) := of_decide_eq_true zA
             obtain ⟨ad498, A498_0, c498_0, e498, hx498_0, hl498_0, hi498_0⟩ := at_L4 HR0_0.out x3_2 p498 q498
             cases e498
             (try replace hx498_0 := (HB.out.cell (World.block_lt_of_cell? w _ hx498_0)).trans hx498_0)
             have HR498_0 := Aside0.mk hi498_0
             have HC498_0 := Aside0.mk hl498_0
             clear hi498_0 hl498_0
             replace p498 := eq_true p498
             replace q498 := eq_true q498
             go_wp2_with (first | (go_at_call 104; (with_reducible refine (spec_l2State.calls k2 _ _ (rd_L4 l0_0 x3_2) false _ ?side1 ?side2 A10.out).mono ?_); (case side1 => exact zC (Kd.C_below HR498_0.out HB.out)); (case side2 => exact HC498_0.out); rintro e w' ⟨rfl, ⟨nd, rfl⟩⟩; (try exact zD)))
             repeat (go_quiet (first | (go_at_call 104; (with_reducible refine (spec_l2State.calls k2 _ _ (rd_L4 l0_0 x3_2) false _ ?side1 ?side2 A10.out).mono ?_); (case side1 => exact zC (Kd.C_below HR498_0.out HB.out)); (case side2 => exact HC498_0.out); rintro e w' ⟨rfl, ⟨nd, rfl⟩⟩; (try exact zD))); try go_wp2_with (first | (go_at_call 104; (with_reducible refine (spec_l2State.calls k2 _ _ (rd_L4 l0_0 x3_2) false _ ?side1 ?side2 A10.out).mono ?_); (case side1 => exact zC (Kd.C_below HR498_0.out HB.out)); (case side2 => exact HC498_0.out); rintro e w' ⟨rfl, ⟨nd, rfl⟩⟩; (try exact zD))))
             go_ret
             exact ⟨by first | rfl | (simp [errW_none, errW_some] <;> rfl) | (simp [*, errW_none, errW_some] <;> rfl), zB⟩
         · rw [if_neg c9] at H
           exact absurd H (by simp)
       · rw [if_neg c8] at H
         have c8b0 : decide (x3_2 < (l0_0.length : Int)) = false := decide_eq_false c8
         clear c8
         replace H := Option.bind_eq_some_iff.mp H
         obtain ⟨t497, A220, H⟩ := H
         have A22 := Aside0.mk A220
         clear A220
         obtain rfl := Option.some.inj H
         have hcz23_0 := zy BK496 0
         have hcz23_1 := zy BK496 1
         have hfz23_0 := blk_frozen BK496.out 0
         have hfz23_1 := blk_frozen BK496.out 1
         go_wp2_with (first | (go_at_call 94; (with_reducible refine (spec_l2Pairs.calls k2 _ _ l0_1 (l0_0.length : Int) t497 _ ?side1 ?side2 A22.out).mono ?_); (case side1 => exact zC (Kd.C_below HR0_1.out HB.out)); (case side2 => exact HC0_1.out); rintro e w24 ⟨rfl, hb⟩; replace BK496 := zM (blk_below (g := gb496) (o := .cells #[.slice A0_0 l0_0.length c0_0, .slice A0_1 l0_1.length c0_1] 50 (0, 0)) (zK BK496.out) hb); replace HB := zM (below_step zB hb); (try clear hb); (try clear hb2); (try clear hk); (try clear hi)))
         repeat (go_quiet (first | (go_at_call 94; (with_reducible refine (spec_l2Pairs.calls k2 _ _ l0_1 (l0_0.length : Int) t497 _ ?side1 ?side2 A22.out).mono ?_); (case side1 => exact zC (Kd.C_below HR0_1.out HB.out)); (case side2 => exact HC0_1.out); rintro e w24 ⟨rfl, hb⟩; replace BK496 := zM (blk_below (g := gb496) (o := .cells #[.slice A0_0 l0_0.length c0_0, .slice A0_1 l0_1.length c0_1] 50 (0, 0)) (zK BK496.out) hb); replace HB := zM (below_step zB hb); (try clear hb); (try clear hb2); (try clear hk); (try clear hi))); try go_wp2_with (first | (go_at_call 94; (with_reducible refine (spec_l2Pairs.calls k2 _ _ l0_1 (l0_0.length : Int) t497 _ ?side1 ?side2 A22.out).mono ?_); (case side1 => exact zC (Kd.C_below HR0_1.out HB.out)); (case side2 => exact HC0_1.out); rintro e w24 ⟨rfl, hb⟩; replace BK496 := zM (blk_below (g := gb496) (o := .cells #[.slice A0_0 l0_0.length c0_0, .slice A0_1 l0_1.length c0_1] 50 (0, 0)) (zK BK496.out) hb); replace HB := zM (below_step zB hb); (try clear hb); (try clear hb2); (try clear hk); (try clear hi))))
         go_ret
         exact ⟨by first | rfl | (simp [errW_none, errW_some] <;> rfl) | (simp [*, errW_none, errW_some] <;> rfl), zB⟩

/-! ### laws_toIntSS: function 74 -/
def laws_toIntSS.l0 : Nat → List (List Int) → List (List Int) → Int → Option ((List (List Int)))
 | 0, _, _, _ => none
 | k + 1, x0, x3, x4 => if x4 < (x0.length : Int) then (if 0 ≤ x4 then ((laws_toIntS.f k (rd_L4 x0 x4)).bind fun t509 => (if x4 < (x3.length : Int) then (laws_toIntSS.l0 k x0 (x3.set (x4 : Int).toNat t509) (wrap64 (x4 + 1))) else (none))) else (none)) else (some x3)
def laws_toIntSS.f (k : Nat) (l0 : List (List Int)) : Option ((List (List Int))) := if 0 ≤ (l0.length : Int) then (if ((l0.length : Int) : Int).toNat ≤ 11728124029610 then (laws_toIntSS.l0 k l0 (List.replicate ((l0.length : Int) : Int).toNat []) 0) else (none)) else (none)
set_option maxHeartbeats 8000000 in
set_option maxRecDepth 100000 in
theorem laws_toIntSS.calls (k : Nat) (A0 : Option Addr) (c0 : Nat) (l0 : List (List Int)) (r : List (List Int)) (w : World) (hr0 : Kd.C (Kd.slice 3 (Kd.int .i64)) w A0 l0.length l0) (hc0 : l0.length ≤ c0) (h : laws_toIntSS.f k l0 = some r) :
 Calls Try.prog 74 #[.slice A0 l0.length c0] w fun e w' => ∃ v0_ : Value, e = .returned (v0_) ∧ Kd.S (Kd.slice 3 (Kd.int .i64)) 34 w' w.heap.size (fun _ => True) v0_ r ∧ Below w.heap.size w w' := by
 have HR0 := Aside0.mk hr0
 have HC0 := Aside0.mk hc0
 clear hr0 hc0
 have HB := zM (Below.refl w.heap.size w)
 have H : (if 0 ≤ (l0.length : Int) then (if ((l0.length : Int) : Int).toNat ≤ 11728124029610 then (laws_toIntSS.l0 k l0 (List.replicate ((l0.length : Int) : Int).toNat []) 0) else (none)) else (none)) = some r := h
 clear h
 by_cases c2 : 0 ≤ (l0.length : Int)
 · rw [if_pos c2] at H
   have c2b0 := eq_true c2
   have c2b1 : decide (0 ≤ (l0.length : Int)) = true := decide_eq_true c2
   clear c2
   by_cases c3 : ((l0.length : Int) : Int).toNat ≤ 11728124029610
   · rw [if_pos c3] at H
     have c3b0 := eq_true c3
     have c3b1 : decide (((l0.length : Int) : Int).toNat ≤ 11728124029610) = true := decide_eq_true c3
     clear c3
     obtain ⟨y505, hy505⟩ : ∃ y_ : List (List Int), y_ = (List.replicate ((l0.length : Int) : Int).toNat []) := ⟨_, rfl⟩
     replace H : (laws_toIntSS.l0 k l0 y505 0) = some r := by first | (rw [hy505]; with_reducible exact H) | (have H2_ := (Option.bind_some _ _).symm.trans H; rw [hy505]; with_reducible exact H2_) | (have H2_ := (Option.bind_some _ _).symm.trans H; with_reducible exact H2_) | with_reducible exact H | (rw [hy505]; exact H) | exact H
     have Ny505 := Aside0.mk hy505
     clear hy505
     have H' := Aside0.mk H
     clear H
     go_enter Try.func74, Try.ntmps74
     go_wp2_with (first | ((with_reducible refine gate_dst (N := 7) rfl ?_); refine Kd.S_make (Kd.slice 3 (Kd.int .i64)) _ 34 rfl (N := 7) rfl 45 _ _ rfl (l0.length : Int) rfl rfl Try.underlying45 (.slice none 0 0) 24 info34 rfl (by decide) (by omega) [] (ok := fun _ => True) (okp := fun _ => True) ⟨_, rfl, Kd.R_nil _ _ _ _ _⟩ (fun _ hk => hk) trivial (of_decide_eq_true zA) (Nat.le_trans (Nat.mul_le_mul_right _ (of_decide_eq_true zA : (l0.length : Int).toNat ≤ 11728124029610)) (by omega)) (Below.refl _ _) (Nat.le_refl _) ?_; intro v506 w4 ho5 hb hg_ hnew_; clear hg_ hnew_; (first | rw [← Ny505.out] at ho5 | (simp only [Int.reduceToNat] at ho5; rw [← Ny505.out] at ho5)); have HO507 := zM (Kd.S_lower ho5 (below_size zB)); replace HB := zM (below_step zB hb); clear hb ho5))
     go_loopg [4] k (fun kq v4 w' => ∃ (x3_1 : List (List Int)) (x4_1 : Int), v4 = .int .i64 x4_1 ∧ Aside0 (laws_toIntSS.l0 kq l0 x3_1 x4_1 = some r) ∧ Aside0 (kq ≤ k) ∧ Aside0 (Kd.S (Kd.slice 3 (Kd.int .i64)) 34 w' w.heap.size (fun _ => True) v506 x3_1) ∧ Aside0 (Below w.heap.size w w'))
     case atStart => exact ⟨(y505), (0), (by first | rfl | (simp; done) | (simp [*]; done)), H', ⟨Nat.le_refl _⟩, ⟨by (with_reducible repeat (first | apply Kd.S_alloc | apply Kd.S_drewN | apply Kd.S_drew)); exact HO507.out⟩, ⟨zB⟩⟩
     case round =>
      clear H'
      try clear c2
      try clear c2b0
      try clear c2b1
      try clear p2
      try clear c3
      try clear c3b0
      try clear c3b1
      obtain ⟨x3_1, x4_1, rfl, HA, HK1, HO_3, HB⟩ := hrel
      cases gk with
      | zero => exact absurd HA.out (by simp [laws_toIntSS.l0])
      | succ k1 =>
       have H := HA.out
       clear HA
       simp only [laws_toIntSS.l0] at H
       by_cases c6 : x4_1 < (l0.length : Int)
       · rw [if_pos c6] at H
         have c6b0 := decide_eq_true c6
         clear c6
         by_cases c7 : 0 ≤ x4_1
         · rw [if_pos c7] at H
           have c7b0 := decide_eq_true c7
           clear c7
           replace H := Option.bind_eq_some_iff.mp H
           obtain ⟨t509, A80, H⟩ := H
           have A8 := Aside0.mk A80
           clear A80
           by_cases c9 : x4_1 < (x3_1.length : Int)
           · rw [if_pos c9] at H
             have c9b0 := decide_eq_true c9
             clear c9
             obtain ⟨y512, hy512⟩ : ∃ y_ : List (List Int), y_ = (x3_1.set (x4_1 : Int).toNat t509) := ⟨_, rfl⟩
             replace H : (laws_toIntSS.l0 k1 l0 y512 (wrap64 (x4_1 + 1))) = some r := by first | (rw [hy512]; with_reducible exact H) | (have H2_ := (Option.bind_some _ _).symm.trans H; rw [hy512]; with_reducible exact H2_) | (have H2_ := (Option.bind_some _ _).symm.trans H; with_reducible exact H2_) | with_reducible exact H | (rw [hy512]; exact H) | exact H
             have Ny512 := Aside0.mk hy512
             clear hy512
             have H' := Aside0.mk H
             clear H
             have p508 : 0 ≤ (x4_1 : Int) := of_decide_eq_true zA
             have q508 : x4_1 < (l0.length : Int) := of_decide_eq_true zA
             obtain ⟨ad508, A508_0, c508_0, e508, hx508_0, hl508_0, hi508_0⟩ := at_L4 HR0.out x4_1 p508 q508
             cases e508
             (try replace hx508_0 := (HB.out.cell (World.block_lt_of_cell? w _ hx508_0)).trans hx508_0)
             have HR508_0 := Aside0.mk hi508_0
             have HC508_0 := Aside0.mk hl508_0
             clear hi508_0 hl508_0
             replace p508 := eq_true p508
             replace q508 := eq_true q508
             go_wp2_with (first | ((with_reducible refine gate_callee (f := 25) rfl ?_); refine zc 20 Try.func25 #[.slice A508_0 (rd_L4 l0 x4_1).length c508_0] ?_; (with_reducible refine (laws_toIntS.calls k1 _ _ (rd_L4 l0 x4_1) t509 _ ?side1 ?side2 A8.out).mono ?_); (case side1 => exact zC (Kd.C_below HR508_0.out HB.out)); (case side2 => exact HC508_0.out); rintro e w11 ⟨v510, rfl, ho0, hb⟩; refine ⟨_, rfl, ?_⟩; replace HO_3 := zM (Kd.S_elder' (by (with_reducible repeat (first | apply Kd.S_alloc | apply Kd.S_drewN | apply Kd.S_drew)); exact HO_3.out) (Kd.R_base ho0) hb); have HO511 := zM (Kd.R_lower ho0 (below_size zB)); replace HB := zM (below_step zB hb); (try clear hb); (try clear hb2); (try clear hk); (try clear hi); (try clear ho0); have p10 : 0 ≤ (x4_1 : Int) := of_decide_eq_true zA; have q10 : (x4_1 : Int) < ((x3_1.length : Int) : Int) := of_decide_eq_true zA; obtain ⟨go10, co10, eo10, gb10, gl10, cl10, HG10⟩ := Kd.S_form HO_3.out (by omega); (first | cases eo10 | (injection eo10 with ea_ en_ ec_; (first | subst ea_ | (injection ea_ with ea_; subst ea_)); subst ec_; clear en_)); have GB10 := Aside0.mk gb10; have GG10 := Aside0.mk HG10; clear gb10 gl10 HG10; obtain ⟨_, ce10, hcl10, hM10, hcc10, hfr10, _, _⟩ := Kd.S_elem HO_3.out [] (x4_1 : Int) p10 q10; obtain ⟨ve10_0, rfl, ge10_0⟩ := hM10; have hx10_0 := hcc10 0 _ rfl; have hf10_0 := hfr10 0; (try simp only [show ((Kd.slice 3 (Kd.int .i64))).sz = 1 from rfl, Nat.mul_one, Nat.add_zero] at hx10_0); (try simp only [show ((Kd.slice 3 (Kd.int .i64))).sz = 1 from rfl, Nat.mul_one, Nat.add_zero] at hf10_0); clear hcl10 hcc10 hfr10; (try clear hM10); replace p10 := eq_true p10; replace q10 := eq_true q10; have n_ := zM (Kd.S_mono (ok' := (fun k_ => some k_ ≠ (v510 : Value).ownBlock)) HO_3.out (fun k_ hk => hk.2)); clear HO_3; have HO_3 := n_; clear n_; have HX12 := zM (show Kd.S (Kd.slice 3 (Kd.int .i64)) 34 w11 w.heap.size (fun k_ => ((fun _ => True)) k_ ∧ ¬ ((fun k_ => some k_ = (v510 : Value).ownBlock)) k_) (.slice (some ⟨go10, 0, none⟩) x3_1.length co10) x3_1 from (by (with_reducible repeat (first | apply Kd.S_alloc | apply Kd.S_drewN | apply Kd.S_drew)); exact Kd.S_mono HO_3.out (fun k_ hk => ⟨trivial, fun e_ => hk e_⟩))); obtain ⟨oki12, ce12, hcl12, hM12, hcc12, hfr12, hoki12, hH12⟩ := Kd.S_elem HX12.out [] (x4_1 : Int) (of_decide_eq_true zA) (by have h_ : (x4_1 : Int) < ((x3_1.length : Int) : Int) := of_decide_eq_true zA; first | exact h_ | (have e_ := (Kd.S_reads' HO_3.out).1; omega) | simpa using h_); obtain ⟨ve12_0, rfl, ge12_0⟩ := hM12; have HP12 := Kd.S_seg hH12 (of_decide_eq_true zA) (by have h_ : (x4_1 : Int) < ((x3_1.length : Int) : Int) := of_decide_eq_true zA; first | exact h_ | (have e_ := (Kd.S_reads' HO_3.out).1; omega) | simpa using h_) (seg := [v510]) (j := 0) (show 1 ≤ 1 from by decide) (x' := t509) (Kd.M_row (Kd.R_mono (Kd.R_tight rfl (Kd.R_mono (ok' := fun k_ => ((fun _ => True)) k_ ∧ k_ ≠ go10) (Kd.R_apart' (HO511.out) (Kd.S_typed HO_3.out) (by decide)) (fun k_ hk => ⟨trivial, fun e_ => (hk.2) (by rw [e_]; rfl)⟩))) (fun _ h_ => Or.inr (h_)))) (fun _ hk => hk) (fun k_ hk_ => ((Kd.R_mono (ok' := fun k_ => ((fun _ => True)) k_ ∧ k_ ≠ go10) (Kd.R_apart' (HO511.out) (Kd.S_typed HO_3.out) (by decide)) (fun k_ hk => ⟨trivial, fun e_ => (hk.2) (by rw [e_]; rfl)⟩))).1 k_ hk_.symm); have hx12_0 := hcc12 0 _ rfl; (try simp only [show ((Kd.slice 3 (Kd.int .i64))).sz = 1 from rfl, Nat.mul_one, Nat.add_zero] at hx12_0); have hf12_0 := hfr12 0; (try simp only [show ((Kd.slice 3 (Kd.int .i64))).sz = 1 from rfl, Nat.mul_one, Nat.add_zero] at hf12_0); clear hcl12 hcc12 hfr12; (try clear hM12); clear hoki12 hH12; (try simp only [show ((Kd.slice 3 (Kd.int .i64))).sz = 1 from rfl, Nat.mul_one, Nat.add_zero] at HP12)) | ((with_reducible refine gate_store (t := 34) (p := 21) rfl ?_); refine store_event (t := 34) (p := 21) (v := ?vo_w13) (w1 := (w11.setCell ⟨go10, (x4_1 : Int).toNat, none⟩ (v510))) ?hg ?ho ?hn ?hr ?_; (case ho => rfl); (case hg => rfl); (case hn => rfl); (case hr => first | (go_simp; done) | (go_simp; rfl) | (obtain ⟨_, _, e_⟩ := Kd.R_slice HO511.out; rw [e_]; go_simp; done)); intro w13 hw; have hg : w11.grownBy w13 (some go10) := (by rw [hw]; exact HP12.2); have hp_ : Kd.S (Kd.slice 3 (Kd.int .i64)) 34 w13 w.heap.size (fun _ => True) (.slice (some ⟨go10, 0, none⟩) x3_1.length co10) y512 := (by rw [hw, Ny512.out]; exact HP12.1); clear HP12; replace HO_3 := zM (hp_); replace HB := zM ((by rw [hw]; exact below_set (HB.out) GB10.out : Below w.heap.size w w13)); clear HO511; clear hg hw hp_))
             go_roundg k1
             case measure => have := HK1.out; omega
             case rel => exact ⟨(y512), (wrap64 (x4_1 + 1)), (by first | rfl | (simp; done) | (simp [*]; done)), H', ⟨by have := HK1.out; omega⟩, ⟨by (with_reducible repeat (first | apply Kd.S_alloc | apply Kd.S_drewN | apply Kd.S_drew)); exact HO_3.out⟩, ⟨zB⟩⟩
           · rw [if_neg c9] at H
             exact absurd H (by simp)
         · rw [if_neg c7] at H
           exact absurd H (by simp)
       · rw [if_neg c6] at H
         have c6b0 : decide (x4_1 < (l0.length : Int)) = false := decide_eq_false c6
         clear c6
         obtain rfl := Option.some.inj H
         go_wp2
         go_ret
         exact ⟨_, by first | rfl | (simp [errW_none, errW_some] <;> rfl) | (simp [*, errW_none, errW_some] <;> rfl), by (with_reducible repeat (first | apply Kd.S_alloc | apply Kd.S_drewN | apply Kd.S_drew)); exact HO_3.out, zB⟩
   · rw [if_neg c3] at H
     exact absurd H (by simp)
 · rw [if_neg c2] at H
   exact absurd H (by simp)

/-! ### laws_toSpace: function 36 -/
def laws_toSpace.f (k : Nat) (l0_0 : List (List Int)) (l0_1 : List (S68)) : Option ((List (List Int)) × (List (S68))) := (laws_toIntSS.f k l0_0).bind fun t516 => ((laws_toIntA2S.f k l0_1).bind fun t519 => (some (t516, t519)))
set_option maxHeartbeats 8000000 in
set_option maxRecDepth 100000 in
theorem laws_toSpace.calls (k : Nat) (A0_0 : Option Addr) (c0_0 : Nat) (l0_0 : List (List Int)) (A0_1 : Option Addr) (c0_1 : Nat) (l0_1 : List (S68)) (r1 : List (List Int)) (r2 : List (S68)) (w : World) (hr0_0 : Kd.C (Kd.slice 3 (Kd.int .i64)) w A0_0 l0_0.length l0_0) (hc0_0 : l0_0.length ≤ c0_0) (hr0_1 : Kd.C k68 w A0_1 l0_1.length l0_1) (hc0_1 : l0_1.length ≤ c0_1) (h : laws_toSpace.f k l0_0 l0_1 = some (r1, r2)) :
 Calls Try.prog 36 #[.agg #[.slice A0_0 l0_0.length c0_0, .slice A0_1 l0_1.length c0_1]] w fun e w' => ∃ v0_ v1_ : Value, e = .returned (.agg #[v0_, v1_]) ∧ Kd.S (Kd.slice 3 (Kd.int .i64)) 34 w' w.heap.size (fun _ => True) v0_ r1 ∧ Kd.R k68 68 w' w.heap.size (fun _ => True) v1_ r2 ∧ Below w.heap.size w w' := by
 have hu47 := Try.underlying47
 have hu50 := Try.underlying50
 have HR0_0 := Aside0.mk hr0_0
 have HC0_0 := Aside0.mk hc0_0
 clear hr0_0 hc0_0
 have HR0_1 := Aside0.mk hr0_1
 have HC0_1 := Aside0.mk hc0_1
 clear hr0_1 hc0_1
 have HB := zM (Below.refl w.heap.size w)
 have H : ((laws_toIntSS.f k l0_0).bind fun t516 => ((laws_toIntA2S.f k l0_1).bind fun t519 => (some (t516, t519)))) = some (r1, r2) := h
 clear h
 replace H := Option.bind_eq_some_iff.mp H
 obtain ⟨t516, A20, H⟩ := H
 replace H : ((laws_toIntA2S.f k l0_1).bind fun t519 => (some (t516, t519))) = some (r1, r2) := H
 have A2 := Aside0.mk A20
 clear A20
 replace H := Option.bind_eq_some_iff.mp H
 obtain ⟨t519, A30, H⟩ := H
 replace H : (some (t516, t519)) = some (r1, r2) := H
 have A3 := Aside0.mk A30
 clear A30
 simp only [Option.some.injEq, Prod.mk.injEq] at H
 obtain ⟨rfl, rfl⟩ := H
 go_enter Try.func36, Try.ntmps36
 go_wp2_with (first | ((with_reducible refine gate_dst (N := 1) rfl ?_); refine zb (w := w) 1 #[.slice A0_0 l0_0.length c0_0, .slice A0_1 l0_1.length c0_1] 47 zB ?_; clear HB; intro gb513 w4 HB BK513 GW513; have GE513 := GW513) | ((with_reducible refine gate_dst (N := 2) rfl ?_); refine ze 2 #[.slice none 0 0, .slice none 0 0] 50 ?_; intro gb514 hg w5 hbox hb; have BK514 := zM (hbox); have GW514 := zM ((by rw [hg]; exact (below_size zB) : w.heap.size ≤ gb514)); have GE514 := zM ((by rw [hg]; exact (below_size zB) : w.heap.size ≤ gb514)); replace HB := zM (below_step zB hb); have NB513_514 := zM ((by rw [hg]; exact Nat.ne_of_lt (blk_lt (g := gb513) (o := .cells #[.slice A0_0 l0_0.length c0_0, .slice A0_1 l0_1.length c0_1] 47 (0, 0)) (zK BK513.out)) : gb513 ≠ gb514)); have NB514_513 := zM ((by rw [hg]; exact Nat.ne_of_gt (blk_lt (g := gb513) (o := .cells #[.slice A0_0 l0_0.length c0_0, .slice A0_1 l0_1.length c0_1] 47 (0, 0)) (zK BK513.out)) : gb514 ≠ gb513)); replace BK513 := zM (blk_below (g := gb513) (o := .cells #[.slice A0_0 l0_0.length c0_0, .slice A0_1 l0_1.length c0_1] 47 (0, 0)) (zK BK513.out) hb); clear hb hbox hg) | ((with_reducible refine gate_dst (N := 3) rfl ?_); refine ze 3 #[.slice none 0 0, .slice none 0 0] 50 ?_; intro gb515 hg w6 hbox hb; have BK515 := zM (hbox); have GW515 := zM ((by rw [hg]; exact (below_size zB) : w.heap.size ≤ gb515)); have GE515 := zM ((by rw [hg]; exact (below_size zB) : w.heap.size ≤ gb515)); replace HB := zM (below_step zB hb); have NB513_515 := zM ((by rw [hg]; exact Nat.ne_of_lt (blk_lt (g := gb513) (o := .cells #[.slice A0_0 l0_0.length c0_0, .slice A0_1 l0_1.length c0_1] 47 (0, 0)) (zK BK513.out)) : gb513 ≠ gb515)); have NB515_513 := zM ((by rw [hg]; exact Nat.ne_of_gt (blk_lt (g := gb513) (o := .cells #[.slice A0_0 l0_0.length c0_0, .slice A0_1 l0_1.length c0_1] 47 (0, 0)) (zK BK513.out)) : gb515 ≠ gb513)); replace BK513 := zM (blk_below (g := gb513) (o := .cells #[.slice A0_0 l0_0.length c0_0, .slice A0_1 l0_1.length c0_1] 47 (0, 0)) (zK BK513.out) hb); have NB514_515 := zM ((by rw [hg]; exact Nat.ne_of_lt (blk_lt (g := gb514) (o := .cells #[.slice none 0 0, .slice none 0 0] 50 (0, 0)) (zK BK514.out)) : gb514 ≠ gb515)); have NB515_514 := zM ((by rw [hg]; exact Nat.ne_of_gt (blk_lt (g := gb514) (o := .cells #[.slice none 0 0, .slice none 0 0] 50 (0, 0)) (zK BK514.out)) : gb515 ≠ gb514)); replace BK514 := zM (blk_below (g := gb514) (o := .cells #[.slice none 0 0, .slice none 0 0] 50 (0, 0)) (zK BK514.out) hb); clear hb hbox hg; have hnb7 := NB513_514.out; have hnc7 := NB514_513.out; have hnb8 := NB513_515.out; have hnc8 := NB515_513.out; have hcz9_0 := zy BK513 0; have hcz9_1 := zy BK513 1; have hfz9_0 := blk_frozen BK513.out 0; have hfz9_1 := blk_frozen BK513.out 1) | ((with_reducible refine gate_callee (f := 74) rfl ?_); refine zc 6 Try.func74 #[.slice A0_0 l0_0.length c0_0] ?_; (with_reducible refine (laws_toIntSS.calls k _ _ l0_0 t516 _ ?side1 ?side2 A2.out).mono ?_); (case side1 => exact zC (Kd.C_below HR0_0.out HB.out)); (case side2 => exact HC0_0.out); rintro e w10 ⟨v517, rfl, ho0, hb⟩; refine ⟨_, rfl, ?_⟩; have HO518 := zM (Kd.S_lower ho0 (below_size zB)); replace BK513 := zM (blk_below (g := gb513) (o := .cells #[.slice A0_0 l0_0.length c0_0, .slice A0_1 l0_1.length c0_1] 47 (0, 0)) (zK BK513.out) hb); replace BK514 := zM (blk_below (g := gb514) (o := .cells #[.slice none 0 0, .slice none 0 0] 50 (0, 0)) (zK BK514.out) hb); replace BK515 := zM (blk_below (g := gb515) (o := .cells #[.slice none 0 0, .slice none 0 0] 50 (0, 0)) (zK BK515.out) hb); replace HB := zM (below_step zB hb); (try clear hb); (try clear hb2); (try clear hk); (try clear hi); (try clear ho0); obtain ⟨Ao11, co11, eo11⟩ := Kd.S_slice HO518.out; subst eo11; have hnb12 := NB515_514.out; have hnc12 := NB514_515.out; have hcz13_0 := zy BK515 0; have hcz13_1 := zy BK515 1; have hfz13_0 := blk_frozen BK515.out 0; have hfz13_1 := blk_frozen BK515.out 1; have hcz14_0 := zy BK513 0; have hcz14_1 := zy BK513 1; have hfz14_0 := blk_frozen BK513.out 0; have hfz14_1 := blk_frozen BK513.out 1) | ((with_reducible refine gate_callee (f := 53) rfl ?_); refine zc 10 Try.func53 #[.slice A0_1 l0_1.length c0_1] ?_; (with_reducible refine (laws_toIntA2S.calls k _ _ l0_1 t519 _ ?side1 ?side2 A3.out).mono ?_); (case side1 => exact Kd.C_below HR0_1.out zB); (case side2 => exact HC0_1.out); rintro e w15 ⟨v520, rfl, ho0, hb⟩; refine ⟨_, rfl, ?_⟩; replace HO518 := zM (Kd.S_below (by (with_reducible repeat (first | apply Kd.S_alloc | apply Kd.S_drewN | apply Kd.S_drew)); exact (Kd.S_mono (Kd.S_far (p := ⟨gb515, 0, none⟩) (Kd.S_types HO518.out BK515.out (by decide)) (fun _ hk => hk.2) (.slice Ao11 t516.length co11)) (fun _ h_ => h_.1))) hb); have HO521 := zM (Kd.R_lower ho0 (below_size zB)); replace BK513 := zM (blk_below (g := gb513) (o := .cells #[.slice A0_0 l0_0.length c0_0, .slice A0_1 l0_1.length c0_1] 47 (0, 0)) (by (with_reducible repeat (first | refine blk_drewN ?_ _ | refine blk_drew ?_ | refine blk_alloc ?_ _)); refine blk_far ?_ NB513_515.out _; (with_reducible repeat (first | refine blk_drewN ?_ _ | refine blk_drew ?_ | refine blk_alloc ?_ _)); exact BK513.out) hb); replace BK514 := zM (blk_below (g := gb514) (o := .cells #[.slice none 0 0, .slice none 0 0] 50 (0, 0)) (by (with_reducible repeat (first | refine blk_drewN ?_ _ | refine blk_drew ?_ | refine blk_alloc ?_ _)); refine blk_far ?_ NB514_515.out _; (with_reducible repeat (first | refine blk_drewN ?_ _ | refine blk_drew ?_ | refine blk_alloc ?_ _)); exact BK514.out) hb); replace BK515 := zM (blk_below (g := gb515) (o := .cells #[.slice Ao11 t516.length co11, .slice none 0 0] 50 (0, 0)) (by (with_reducible repeat (first | refine blk_drewN ?_ _ | refine blk_drew ?_ | refine blk_alloc ?_ _)); refine blk_put (cs := #[.slice none 0 0, .slice none 0 0]) ?_ 0 _ rfl; (with_reducible repeat (first | refine blk_drewN ?_ _ | refine blk_drew ?_ | refine blk_alloc ?_ _)); exact BK515.out) hb); replace HB := zM (below_step zB hb); (try clear hb); (try clear hb2); (try clear hk); (try clear hi); (try clear ho0); obtain ⟨Ao16, co16, eo16⟩ := Kd.R_slice HO521.out; subst eo16; have hcz17_0 := zy BK515 0; have hcz17_1 := zy BK515 1; have hfz17_0 := blk_frozen BK515.out 0; have hfz17_1 := blk_frozen BK515.out 1; have hcz18_0 := zy BK514 0; have hcz18_1 := zy BK514 1; have hfz18_0 := blk_frozen BK514.out 0; have hfz18_1 := blk_frozen BK514.out 1))
 refine bodyPost_ret (results_cell_row rfl _ _ gb514 50 #[.slice Ao11 t516.length co11, .slice Ao16 t519.length co16] (0, 0) _ rfl (by (with_reducible repeat (first | refine blk_drewN ?_ _ | refine blk_drew ?_ | refine blk_alloc ?_ _)); refine blk_put (cs := #[.slice Ao11 t516.length co11, .slice none 0 0]) ?_ 1 _ rfl; (with_reducible repeat (first | refine blk_drewN ?_ _ | refine blk_drew ?_ | refine blk_alloc ?_ _)); refine blk_put (cs := #[.slice none 0 0, .slice none 0 0]) ?_ 0 _ rfl; (with_reducible repeat (first | refine blk_drewN ?_ _ | refine blk_drew ?_ | refine blk_alloc ?_ _)); refine blk_far ?_ NB514_515.out _; (with_reducible repeat (first | refine blk_drewN ?_ _ | refine blk_drew ?_ | refine blk_alloc ?_ _)); exact BK514.out) Try.underlying50 rfl (by kernel_rfl)) rfl ?_
 exact ⟨_, _, by first | rfl | (simp [errW_none, errW_some] <;> rfl) | (simp [*, errW_none, errW_some] <;> rfl), by (with_reducible repeat (first | apply Kd.S_alloc | apply Kd.S_drewN | apply Kd.S_drew)); exact Kd.S_mono (Kd.S_far (p := ⟨gb514, 1, none⟩) (Kd.S_far (p := ⟨gb514, 0, none⟩) (Kd.S_far (p := ⟨gb515, 1, none⟩) (Kd.S_types (Kd.S_types HO518.out BK515.out (by decide)) BK514.out (by decide)) (fun _ hk => hk.1.2) (.slice Ao16 t519.length co16)) (fun _ hk => hk.2) (.slice Ao11 t516.length co11)) (fun _ hk => hk.2) (.slice Ao16 t519.length co16)) (fun _ hk => trivial), by (with_reducible repeat (first | apply Kd.R_alloc | apply Kd.R_drewN | apply Kd.R_drew)); exact Kd.R_mono (Kd.R_far (p := ⟨gb514, 1, none⟩) (Kd.R_far (p := ⟨gb514, 0, none⟩) (Kd.R_far (p := ⟨gb515, 1, none⟩) (Kd.R_types (Kd.R_types HO521.out BK515.out (by decide)) BK514.out (by decide)) (fun _ hk => hk.1.2) (.slice Ao16 t519.length co16)) (fun _ hk => hk.2) (.slice Ao11 t516.length co11)) (fun _ hk => hk.2) (.slice Ao16 t519.length co16)) (fun _ hk => trivial), zB⟩

end Go.Proofs.Ytpbngmkhpcgpkaa.P
