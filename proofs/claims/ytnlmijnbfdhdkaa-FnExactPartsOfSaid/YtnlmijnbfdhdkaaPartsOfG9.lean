-- Written by a program of this session (the kit's print, turned: wip/print/patch.py) out of the translation. Not trusted: Lean checks it.
import Derived.Test.YtnlmijnbfdhdkaaPartsOfG4
import Derived.Test.YtnlmijnbfdhdkaaPartsOfG6
import Derived.Test.YtnlmijnbfdhdkaaPartsOfG8
import Derived.Test.YtnlmijnbfdhdkaaPartsOfG5
namespace Go.Proofs.Ytnlmijnbfdhdkaa.P
open Go.RowKit Go.Proofs.YtnlmijnbfdhdkaaW.PrintWords Go.Proofs.YtnlmijnbfdhdkaaW.PrintLast Go.Proofs.YtnlmijnbfdhdkaaW.PrintMore
attribute [local go_sem] max2_int min2_int max_two min_two max_three min_three max_four min_four   -- for this text's walks alone
set_option linter.unusedVariables false
set_option linter.unusedSimpArgs false

/-! ### spec_l2Space: function 79 -/
mutual
def spec_l2Space.j0 : Nat → Bool → List (List Int) → List (S88) → Option (Bool)
 | 0, _, _, _ => none
 | k + 1, x13, x521000, x521001 => if x13 = true then (some false) else (spec_l2Space.l0 k 0 x521000 x521001)
def spec_l2Space.l0 : Nat → Int → List (List Int) → List (S88) → Option (Bool)
 | 0, _, _, _ => none
 | k + 1, x3, x521000, x521001 => if x3 < (x521000.length : Int) then (if 0 ≤ x3 then ((spec_l2State.f k (rd_L4 x521000 x3)).bind fun t523 => (if t523 = true then (if x3 > 0 then (if 0 ≤ (wrap64 (x3 - 1)) then (if (wrap64 (x3 - 1)) < (x521000.length : Int) then ((spec_l2Before.f k (rd_L4 x521000 (wrap64 (x3 - 1))) (rd_L4 x521000 x3)).bind fun t526 => (if t526 = true then (spec_l2Space.l0 k (wrap64 (x3 + 1)) x521000 x521001) else (some false))) else (none)) else (none)) else (spec_l2Space.l0 k (wrap64 (x3 + 1)) x521000 x521001)) else (some false))) else (none)) else ((spec_l2Pairs.f k x521001 (x521000.length : Int)).bind fun t521 => (some t521))
end
def spec_l2Space.f (k : Nat) (l0_0 : List (List Int)) (l0_1 : List (S88)) : Option (Bool) := if (l0_0.length : Int) > 300 then (spec_l2Space.j0 k true l0_0 l0_1) else (spec_l2Space.j0 k (decide ((l0_1.length : Int) > 6000)) l0_0 l0_1)
set_option maxHeartbeats 8000000 in
set_option maxRecDepth 100000 in
theorem spec_l2Space.calls (k : Nat) (A0_0 : Option Addr) (c0_0 : Nat) (l0_0 : List (List Int)) (A0_1 : Option Addr) (c0_1 : Nat) (l0_1 : List (S88)) (r : Bool) (w : World) (hr0_0 : Kd.C (Kd.slice 3 (Kd.int .i64)) w A0_0 l0_0.length l0_0) (hc0_0 : l0_0.length ≤ c0_0) (hr0_1 : Kd.C k88 w A0_1 l0_1.length l0_1) (hc0_1 : l0_1.length ≤ c0_1) (h : spec_l2Space.f k l0_0 l0_1 = some r) :
 Calls Try.prog 79 #[.agg #[.slice A0_0 l0_0.length c0_0, .slice A0_1 l0_1.length c0_1]] w fun e w' => e = .returned (.bool r) ∧ Below w.heap.size w w' := by
 have hu46 := Try.underlying46
 have HR0_0 := Aside0.mk hr0_0
 have HC0_0 := Aside0.mk hc0_0
 clear hr0_0 hc0_0
 have HR0_1 := Aside0.mk hr0_1
 have HC0_1 := Aside0.mk hc0_1
 clear hr0_1 hc0_1
 have HB := zM (Below.refl w.heap.size w)
 have H : (if (l0_0.length : Int) > 300 then (spec_l2Space.j0 k true l0_0 l0_1) else (spec_l2Space.j0 k (decide ((l0_1.length : Int) > 6000)) l0_0 l0_1)) = some r := h
 clear h
 have HC2 := Aside0.mk H
 clear H
 go_enter Try.func79, Try.ntmps79
 go_upto_region 1 with (first | ((with_reducible refine gate_dst (N := 1) rfl ?_); (try (refine gate_guard (by rfl) ?_; dsimp only)); refine zb (w := w) 1 #[.slice A0_0 l0_0.length c0_0, .slice A0_1 l0_1.length c0_1] 46 zB ?_; clear HB; intro gb520 w3 HB BK520 GW520; have GE520 := GW520))
 repeat (go_quiet (first | ((with_reducible refine gate_dst (N := 1) rfl ?_); (try (refine gate_guard (by rfl) ?_; dsimp only)); refine zb (w := w) 1 #[.slice A0_0 l0_0.length c0_0, .slice A0_1 l0_1.length c0_1] 46 zB ?_; clear HB; intro gb520 w3 HB BK520 GW520; have GE520 := GW520)); go_upto_region 1 with (first | ((with_reducible refine gate_dst (N := 1) rfl ?_); (try (refine gate_guard (by rfl) ?_; dsimp only)); refine zb (w := w) 1 #[.slice A0_0 l0_0.length c0_0, .slice A0_1 l0_1.length c0_1] 46 zB ?_; clear HB; intro gb520 w3 HB BK520 GW520; have GE520 := GW520)))
 (try simp only [Act.put, List.setIfInBounds_toArray, List.set_cons_zero, List.set_cons_succ])
 go_cut [13] (fun v13 wc => ∃ (kq : Nat) (x13_1 : Bool), v13 = .bool x13_1 ∧ Aside0 (spec_l2Space.j0 kq x13_1 l0_0 l0_1 = some r) ∧ Aside0 (kq ≤ k) ∧ Aside0 (wc.heap[gb520]? = some (.cells #[(.slice A0_0 l0_0.length c0_0), (.slice A0_1 l0_1.length c0_1)] 46 (0, 0))) ∧ Aside0 (Below w.heap.size w wc))
 case first =>
  have H := HC2.out
  clear HC2
  by_cases c4 : (l0_0.length : Int) > 300
  · rw [if_pos c4] at H
    have c4b0 : decide (300 < (l0_0.length : Int)) = true := decide_eq_true c4
    have c4b1 : decide (300 < l0_0.length) = true := decide_eq_true (by omega)
    clear c4
    (first | rw [c4b0] | (simp only [i64_w, i32_w]; rw [c4b0]) | skip)
    have H' := Aside0.mk H
    clear H
    have hcz5_0 := zy BK520 0
    have hcz5_1 := zy BK520 1
    have hfz5_0 := blk_frozen BK520.out 0
    have hfz5_1 := blk_frozen BK520.out 1
    go_wp2
    repeat (go_quiet (fail); try go_wp2)
    go_meet
    case rel => exact ⟨_, (true), (by first | rfl | (simp; done) | (simp [*]; done)), H', ⟨by first | omega | exact Nat.le_refl _⟩, ⟨zK BK520.out⟩, ⟨zB⟩⟩
  · rw [if_neg c4] at H
    have c4b0 : decide (300 < (l0_0.length : Int)) = false := decide_eq_false c4
    have c4b1 : decide (300 < l0_0.length) = false := decide_eq_false (by omega)
    clear c4
    (first | rw [c4b0] | (simp only [i64_w, i32_w]; rw [c4b0]) | skip)
    have H' := Aside0.mk H
    clear H
    have hcz6_0 := zy BK520 0
    have hcz6_1 := zy BK520 1
    have hfz6_0 := blk_frozen BK520.out 0
    have hfz6_1 := blk_frozen BK520.out 1
    go_wp2
    repeat (go_quiet (fail); try go_wp2)
    go_meet
    case rel => exact ⟨_, (decide ((l0_1.length : Int) > 6000)), (by first | rfl | (simp; done) | (simp [*]; done)), H', ⟨by first | omega | exact Nat.le_refl _⟩, ⟨zK BK520.out⟩, ⟨zB⟩⟩
 case rest =>
  clear HC2
  try clear p2
  try clear c4
  try clear c4b0
  try clear c4b1
  try clear hcz5_0
  try clear hcz5_1
  try clear hcz6_0
  try clear hcz6_1
  try clear hfz5_0
  try clear hfz5_1
  try clear hfz6_0
  try clear hfz6_1
  obtain ⟨kq, x13_1, rfl, HA, HJ1, BK520, HB⟩ := hcut
  cases kq with
  | zero => exact absurd HA.out (by simp [spec_l2Space.j0])
  | succ kj1 =>
   have H := HA.out
   clear HA
   simp only [spec_l2Space.j0] at H
   by_cases c7 : x13_1 = true
   · subst c7
     rw [if_pos rfl] at H
     obtain rfl := Option.some.inj H
     go_wp2
     repeat (go_quiet (fail); try go_wp2)
     go_ret
     exact ⟨by first | rfl | (simp [errW_none, errW_some] <;> rfl) | (simp [*, errW_none, errW_some] <;> rfl), zB⟩
   · replace c7 := Bool.eq_false_iff.mpr c7
     subst c7
     have H1 : (spec_l2Space.l0 kj1 0 l0_0 l0_1) = some r := by rw [if_neg (show ¬ (false = true) by decide)] at H; exact H
     clear H
     have H := H1
     clear H1
     have H' := Aside0.mk H
     clear H
     go_wp2
     repeat (go_quiet (fail); try go_wp2)
     go_loopg [3] kj1 (fun kq v3 w' => ∃ (x3_2 : Int), v3 = .int .i64 x3_2 ∧ Aside0 (spec_l2Space.l0 kq x3_2 l0_0 l0_1 = some r) ∧ Aside0 (kq ≤ kj1) ∧ Aside0 (w'.heap[gb520]? = some (.cells #[(.slice A0_0 l0_0.length c0_0), (.slice A0_1 l0_1.length c0_1)] 46 (0, 0))) ∧ Aside0 (Below w.heap.size w w'))
     case atStart => exact ⟨(0), (by first | rfl | (simp; done) | (simp [*]; done)), H', ⟨Nat.le_refl _⟩, ⟨zK BK520.out⟩, ⟨zB⟩⟩
     case round =>
      clear H'
      try clear p2
      try clear c4
      try clear c4b0
      try clear c4b1
      try clear c7
      try clear hcz5_0
      try clear hcz5_1
      try clear hcz6_0
      try clear hcz6_1
      try clear hfz5_0
      try clear hfz5_1
      try clear hfz6_0
      try clear hfz6_1
      try clear p2
      obtain ⟨x3_2, rfl, HA, HK2, BK520, HB⟩ := hrel
      cases gk with
      | zero => exact absurd HA.out (by simp [spec_l2Space.l0])
      | succ k2 =>
       have H := HA.out
       clear HA
       simp only [spec_l2Space.l0] at H
       by_cases c8 : x3_2 < (l0_0.length : Int)
       · rw [if_pos c8] at H
         have c8b0 := decide_eq_true c8
         clear c8
         by_cases c9 : 0 ≤ x3_2
         · rw [if_pos c9] at H
           have c9b0 := decide_eq_true c9
           clear c9
           replace H := Option.bind_eq_some_iff.mp H
           obtain ⟨t523, A100, H⟩ := H
           have A10 := Aside0.mk A100
           clear A100
           by_cases c11 : t523 = true
           · subst c11
             rw [if_pos rfl] at H
             by_cases c12 : x3_2 > 0
             · rw [if_pos c12] at H
               have c12b0 : decide (0 < x3_2) = true := decide_eq_true c12
               clear c12
               obtain ⟨ji13, hji13⟩ : ∃ j_ : Int, (wrap64 (x3_2 - 1)) = j_ := ⟨_, rfl⟩
               replace H : (if 0 ≤ (ji13) then (if (ji13) < (l0_0.length : Int) then ((spec_l2Before.f k2 (rd_L4 l0_0 (ji13)) (rd_L4 l0_0 x3_2)).bind fun t526 => (if t526 = true then (spec_l2Space.l0 k2 (wrap64 (x3_2 + 1)) l0_0 l0_1) else (some false))) else (none)) else (none)) = some r := by first | (rw [hji13] at H; exact H) | (simp only [hji13] at H ⊢; exact H)
               (try rw [hji13] at A10)
               have hji13w : (IntKind.i64.wrap (x3_2 - 1)) = ji13 := (i64_w _).trans hji13
               by_cases c14 : 0 ≤ (ji13)
               · rw [if_pos c14] at H
                 have c14b0 := decide_eq_true c14
                 clear c14
                 by_cases c15 : (ji13) < (l0_0.length : Int)
                 · rw [if_pos c15] at H
                   have c15b0 := decide_eq_true c15
                   clear c15
                   replace H := Option.bind_eq_some_iff.mp H
                   obtain ⟨t526, A160, H⟩ := H
                   have A16 := Aside0.mk A160
                   clear A160
                   by_cases c17 : t526 = true
                   · subst c17
                     rw [if_pos rfl] at H
                     have H' := Aside0.mk H
                     clear H
                     have hcz18_0 := zy BK520 0
                     have hcz18_1 := zy BK520 1
                     have hfz18_0 := blk_frozen BK520.out 0
                     have hfz18_1 := blk_frozen BK520.out 1
                     have p522 : 0 ≤ (x3_2 : Int) := of_decide_eq_true zA
                     have q522 : x3_2 < (l0_0.length : Int) := of_decide_eq_true zA
                     obtain ⟨ad522, A522_0, c522_0, e522, hx522_0, hl522_0, hi522_0⟩ := at_L4 HR0_0.out x3_2 p522 q522
                     cases e522
                     (try replace hx522_0 := (HB.out.cell (World.block_lt_of_cell? w _ hx522_0)).trans hx522_0)
                     have HR522_0 := Aside0.mk hi522_0
                     have HC522_0 := Aside0.mk hl522_0
                     clear hi522_0 hl522_0
                     replace p522 := eq_true p522
                     replace q522 := eq_true q522
                     go_wp2_with (first | (go_at_call 122; (with_reducible refine (spec_l2State.calls k2 _ _ (rd_L4 l0_0 x3_2) true _ ?side1 ?side2 A10.out).mono ?_); (case side1 => exact zC (Kd.C_below HR522_0.out HB.out)); (case side2 => exact HC522_0.out); rintro e w' ⟨rfl, ⟨nd, rfl⟩⟩; (try exact zD); have p524 : 0 ≤ ((ji13) : Int) := of_decide_eq_true zA; have q524 : (ji13) < (l0_0.length : Int) := of_decide_eq_true zA; obtain ⟨ad524, A524_0, c524_0, e524, hx524_0, hl524_0, hi524_0⟩ := at_L4 HR0_0.out (ji13) p524 q524; obtain rfl : ad522 = ad524 := (by injection e524); (try replace hx524_0 := (HB.out.cell (World.block_lt_of_cell? w _ hx524_0)).trans hx524_0); have HR524_0 := Aside0.mk hi524_0; have HC524_0 := Aside0.mk hl524_0; clear hi524_0 hl524_0; replace p524 := eq_true p524; replace q524 := eq_true q524; have p525 : 0 ≤ (x3_2 : Int) := of_decide_eq_true zA; have q525 : x3_2 < (l0_0.length : Int) := of_decide_eq_true zA; obtain ⟨ad525, A525_0, c525_0, e525, hx525_0, hl525_0, hi525_0⟩ := at_L4 HR0_0.out x3_2 p525 q525; obtain rfl : ad522 = ad525 := (by injection e525); (try replace hx525_0 := (HB.out.cell (World.block_lt_of_cell? w _ hx525_0)).trans hx525_0); have HR525_0 := Aside0.mk hi525_0; have HC525_0 := Aside0.mk hl525_0; clear hi525_0 hl525_0; replace p525 := eq_true p525; replace q525 := eq_true q525; have ea_ := Option.some.inj (hx522_0.symm.trans hx525_0); injection ea_ with ea_ en_ ec_; subst ea_; subst ec_; clear en_) | (go_at_call 123; (with_reducible refine (spec_l2Before.calls k2 _ _ (rd_L4 l0_0 (ji13)) _ _ (rd_L4 l0_0 x3_2) true _ ?side1 ?side2 ?side3 ?side4 A16.out).mono ?_); (case side1 => exact zC (Kd.C_below HR524_0.out zB)); (case side2 => exact HC524_0.out); (case side3 => exact zC (Kd.C_below HR525_0.out zB)); (case side4 => exact HC525_0.out); rintro e w' ⟨rfl, ⟨nd, rfl⟩⟩; (try exact zD)))
                     repeat (go_quiet (first | (go_at_call 122; (with_reducible refine (spec_l2State.calls k2 _ _ (rd_L4 l0_0 x3_2) true _ ?side1 ?side2 A10.out).mono ?_); (case side1 => exact zC (Kd.C_below HR522_0.out HB.out)); (case side2 => exact HC522_0.out); rintro e w' ⟨rfl, ⟨nd, rfl⟩⟩; (try exact zD); have p524 : 0 ≤ ((ji13) : Int) := of_decide_eq_true zA; have q524 : (ji13) < (l0_0.length : Int) := of_decide_eq_true zA; obtain ⟨ad524, A524_0, c524_0, e524, hx524_0, hl524_0, hi524_0⟩ := at_L4 HR0_0.out (ji13) p524 q524; obtain rfl : ad522 = ad524 := (by injection e524); (try replace hx524_0 := (HB.out.cell (World.block_lt_of_cell? w _ hx524_0)).trans hx524_0); have HR524_0 := Aside0.mk hi524_0; have HC524_0 := Aside0.mk hl524_0; clear hi524_0 hl524_0; replace p524 := eq_true p524; replace q524 := eq_true q524; have p525 : 0 ≤ (x3_2 : Int) := of_decide_eq_true zA; have q525 : x3_2 < (l0_0.length : Int) := of_decide_eq_true zA; obtain ⟨ad525, A525_0, c525_0, e525, hx525_0, hl525_0, hi525_0⟩ := at_L4 HR0_0.out x3_2 p525 q525; obtain rfl : ad522 = ad525 := (by injection e525); (try replace hx525_0 := (HB.out.cell (World.block_lt_of_cell? w _ hx525_0)).trans hx525_0); have HR525_0 := Aside0.mk hi525_0; have HC525_0 := Aside0.mk hl525_0; clear hi525_0 hl525_0; replace p525 := eq_true p525; replace q525 := eq_true q525; have ea_ := Option.some.inj (hx522_0.symm.trans hx525_0); injection ea_ with ea_ en_ ec_; subst ea_; subst ec_; clear en_) | (go_at_call 123; (with_reducible refine (spec_l2Before.calls k2 _ _ (rd_L4 l0_0 (ji13)) _ _ (rd_L4 l0_0 x3_2) true _ ?side1 ?side2 ?side3 ?side4 A16.out).mono ?_); (case side1 => exact zC (Kd.C_below HR524_0.out zB)); (case side2 => exact HC524_0.out); (case side3 => exact zC (Kd.C_below HR525_0.out zB)); (case side4 => exact HC525_0.out); rintro e w' ⟨rfl, ⟨nd, rfl⟩⟩; (try exact zD))); try go_wp2_with (first | (go_at_call 122; (with_reducible refine (spec_l2State.calls k2 _ _ (rd_L4 l0_0 x3_2) true _ ?side1 ?side2 A10.out).mono ?_); (case side1 => exact zC (Kd.C_below HR522_0.out HB.out)); (case side2 => exact HC522_0.out); rintro e w' ⟨rfl, ⟨nd, rfl⟩⟩; (try exact zD); have p524 : 0 ≤ ((ji13) : Int) := of_decide_eq_true zA; have q524 : (ji13) < (l0_0.length : Int) := of_decide_eq_true zA; obtain ⟨ad524, A524_0, c524_0, e524, hx524_0, hl524_0, hi524_0⟩ := at_L4 HR0_0.out (ji13) p524 q524; obtain rfl : ad522 = ad524 := (by injection e524); (try replace hx524_0 := (HB.out.cell (World.block_lt_of_cell? w _ hx524_0)).trans hx524_0); have HR524_0 := Aside0.mk hi524_0; have HC524_0 := Aside0.mk hl524_0; clear hi524_0 hl524_0; replace p524 := eq_true p524; replace q524 := eq_true q524; have p525 : 0 ≤ (x3_2 : Int) := of_decide_eq_true zA; have q525 : x3_2 < (l0_0.length : Int) := of_decide_eq_true zA; obtain ⟨ad525, A525_0, c525_0, e525, hx525_0, hl525_0, hi525_0⟩ := at_L4 HR0_0.out x3_2 p525 q525; obtain rfl : ad522 = ad525 := (by injection e525); (try replace hx525_0 := (HB.out.cell (World.block_lt_of_cell? w _ hx525_0)).trans hx525_0); have HR525_0 := Aside0.mk hi525_0; have HC525_0 := Aside0.mk hl525_0; clear hi525_0 hl525_0; replace p525 := eq_true p525; replace q525 := eq_true q525; have ea_ := Option.some.inj (hx522_0.symm.trans hx525_0); injection ea_ with ea_ en_ ec_; subst ea_; subst ec_; clear en_) | (go_at_call 123; (with_reducible refine (spec_l2Before.calls k2 _ _ (rd_L4 l0_0 (ji13)) _ _ (rd_L4 l0_0 x3_2) true _ ?side1 ?side2 ?side3 ?side4 A16.out).mono ?_); (case side1 => exact zC (Kd.C_below HR524_0.out zB)); (case side2 => exact HC524_0.out); (case side3 => exact zC (Kd.C_below HR525_0.out zB)); (case side4 => exact HC525_0.out); rintro e w' ⟨rfl, ⟨nd, rfl⟩⟩; (try exact zD))))
                     go_roundg k2
                     case measure => have := HJ1.out; have := HK2.out; omega
                     case rel => exact ⟨(wrap64 (x3_2 + 1)), (by first | rfl | (simp; done) | (simp [*]; done)), H', ⟨by have := HJ1.out; have := HK2.out; omega⟩, ⟨zK BK520.out⟩, ⟨zB⟩⟩
                   · replace c17 := Bool.eq_false_iff.mpr c17
                     subst c17
                     have H1 : (some false) = some r := by rw [if_neg (show ¬ (false = true) by decide)] at H; exact H
                     clear H
                     have H := H1
                     clear H1
                     obtain rfl := Option.some.inj H
                     have hcz19_0 := zy BK520 0
                     have hcz19_1 := zy BK520 1
                     have hfz19_0 := blk_frozen BK520.out 0
                     have hfz19_1 := blk_frozen BK520.out 1
                     have p522 : 0 ≤ (x3_2 : Int) := of_decide_eq_true zA
                     have q522 : x3_2 < (l0_0.length : Int) := of_decide_eq_true zA
                     obtain ⟨ad522, A522_0, c522_0, e522, hx522_0, hl522_0, hi522_0⟩ := at_L4 HR0_0.out x3_2 p522 q522
                     cases e522
                     (try replace hx522_0 := (HB.out.cell (World.block_lt_of_cell? w _ hx522_0)).trans hx522_0)
                     have HR522_0 := Aside0.mk hi522_0
                     have HC522_0 := Aside0.mk hl522_0
                     clear hi522_0 hl522_0
                     replace p522 := eq_true p522
                     replace q522 := eq_true q522
                     go_wp2_with (first | (go_at_call 122; (with_reducible refine (spec_l2State.calls k2 _ _ (rd_L4 l0_0 x3_2) true _ ?side1 ?side2 A10.out).mono ?_); (case side1 => exact zC (Kd.C_below HR522_0.out HB.out)); (case side2 => exact HC522_0.out); rintro e w' ⟨rfl, ⟨nd, rfl⟩⟩; (try exact zD); have p524 : 0 ≤ ((ji13) : Int) := of_decide_eq_true zA; have q524 : (ji13) < (l0_0.length : Int) := of_decide_eq_true zA; obtain ⟨ad524, A524_0, c524_0, e524, hx524_0, hl524_0, hi524_0⟩ := at_L4 HR0_0.out (ji13) p524 q524; obtain rfl : ad522 = ad524 := (by injection e524); (try replace hx524_0 := (HB.out.cell (World.block_lt_of_cell? w _ hx524_0)).trans hx524_0); have HR524_0 := Aside0.mk hi524_0; have HC524_0 := Aside0.mk hl524_0; clear hi524_0 hl524_0; replace p524 := eq_true p524; replace q524 := eq_true q524; have p525 : 0 ≤ (x3_2 : Int) := of_decide_eq_true zA; have q525 : x3_2 < (l0_0.length : Int) := of_decide_eq_true zA; obtain ⟨ad525, A525_0, c525_0, e525, hx525_0, hl525_0, hi525_0⟩ := at_L4 HR0_0.out x3_2 p525 q525; obtain rfl : ad522 = ad525 := (by injection e525); (try replace hx525_0 := (HB.out.cell (World.block_lt_of_cell? w _ hx525_0)).trans hx525_0); have HR525_0 := Aside0.mk hi525_0; have HC525_0 := Aside0.mk hl525_0; clear hi525_0 hl525_0; replace p525 := eq_true p525; replace q525 := eq_true q525; have ea_ := Option.some.inj (hx522_0.symm.trans hx525_0); injection ea_ with ea_ en_ ec_; subst ea_; subst ec_; clear en_) | (go_at_call 123; (with_reducible refine (spec_l2Before.calls k2 _ _ (rd_L4 l0_0 (ji13)) _ _ (rd_L4 l0_0 x3_2) false _ ?side1 ?side2 ?side3 ?side4 A16.out).mono ?_); (case side1 => exact zC (Kd.C_below HR524_0.out zB)); (case side2 => exact HC524_0.out); (case side3 => exact zC (Kd.C_below HR525_0.out zB)); (case side4 => exact HC525_0.out); rintro e w' ⟨rfl, ⟨nd, rfl⟩⟩; (try exact zD)))
                     repeat (go_quiet (first | (go_at_call 122; (with_reducible refine (spec_l2State.calls k2 _ _ (rd_L4 l0_0 x3_2) true _ ?side1 ?side2 A10.out).mono ?_); (case side1 => exact zC (Kd.C_below HR522_0.out HB.out)); (case side2 => exact HC522_0.out); rintro e w' ⟨rfl, ⟨nd, rfl⟩⟩; (try exact zD); have p524 : 0 ≤ ((ji13) : Int) := of_decide_eq_true zA; have q524 : (ji13) < (l0_0.length : Int) := of_decide_eq_true zA; obtain ⟨ad524, A524_0, c524_0, e524, hx524_0, hl524_0, hi524_0⟩ := at_L4 HR0_0.out (ji13) p524 q524; obtain rfl : ad522 = ad524 := (by injection e524); (try replace hx524_0 := (HB.out.cell (World.block_lt_of_cell? w _ hx524_0)).trans hx524_0); have HR524_0 := Aside0.mk hi524_0; have HC524_0 := Aside0.mk hl524_0; clear hi524_0 hl524_0; replace p524 := eq_true p524; replace q524 := eq_true q524; have p525 : 0 ≤ (x3_2 : Int) := of_decide_eq_true zA; have q525 : x3_2 < (l0_0.length : Int) := of_decide_eq_true zA; obtain ⟨ad525, A525_0, c525_0, e525, hx525_0, hl525_0, hi525_0⟩ := at_L4 HR0_0.out x3_2 p525 q525; obtain rfl : ad522 = ad525 := (by injection e525); (try replace hx525_0 := (HB.out.cell (World.block_lt_of_cell? w _ hx525_0)).trans hx525_0); have HR525_0 := Aside0.mk hi525_0; have HC525_0 := Aside0.mk hl525_0; clear hi525_0 hl525_0; replace p525 := eq_true p525; replace q525 := eq_true q525; have ea_ := Option.some.inj (hx522_0.symm.trans hx525_0); injection ea_ with ea_ en_ ec_; subst ea_; subst ec_; clear en_) | (go_at_call 123; (with_reducible refine (spec_l2Before.calls k2 _ _ (rd_L4 l0_0 (ji13)) _ _ (rd_L4 l0_0 x3_2) false _ ?side1 ?side2 ?side3 ?side4 A16.out).mono ?_); (case side1 => exact zC (Kd.C_below HR524_0.out zB)); (case side2 => exact HC524_0.out); (case side3 => exact zC (Kd.C_below HR525_0.out zB)); (case side4 => exact HC525_0.out); rintro e w' ⟨rfl, ⟨nd, rfl⟩⟩; (try exact zD))); try go_wp2_with (first | (go_at_call 122; (with_reducible refine (spec_l2State.calls k2 _ _ (rd_L4 l0_0 x3_2) true _ ?side1 ?side2 A10.out).mono ?_); (case side1 => exact zC (Kd.C_below HR522_0.out HB.out)); (case side2 => exact HC522_0.out); rintro e w' ⟨rfl, ⟨nd, rfl⟩⟩; (try exact zD); have p524 : 0 ≤ ((ji13) : Int) := of_decide_eq_true zA; have q524 : (ji13) < (l0_0.length : Int) := of_decide_eq_true zA; obtain ⟨ad524, A524_0, c524_0, e524, hx524_0, hl524_0, hi524_0⟩ := at_L4 HR0_0.out (ji13) p524 q524; obtain rfl : ad522 = ad524 := (by injection e524); (try replace hx524_0 := (HB.out.cell (World.block_lt_of_cell? w _ hx524_0)).trans hx524_0); have HR524_0 := Aside0.mk hi524_0; have HC524_0 := Aside0.mk hl524_0; clear hi524_0 hl524_0; replace p524 := eq_true p524; replace q524 := eq_true q524; have p525 : 0 ≤ (x3_2 : Int) := of_decide_eq_true zA; have q525 : x3_2 < (l0_0.length : Int) := of_decide_eq_true zA; obtain ⟨ad525, A525_0, c525_0, e525, hx525_0, hl525_0, hi525_0⟩ := at_L4 HR0_0.out x3_2 p525 q525; obtain rfl : ad522 = ad525 := (by injection e525); (try replace hx525_0 := (HB.out.cell (World.block_lt_of_cell? w _ hx525_0)).trans hx525_0); have HR525_0 := Aside0.mk hi525_0; have HC525_0 := Aside0.mk hl525_0; clear hi525_0 hl525_0; replace p525 := eq_true p525; replace q525 := eq_true q525; have ea_ := Option.some.inj (hx522_0.symm.trans hx525_0); injection ea_ with ea_ en_ ec_; subst ea_; subst ec_; clear en_) | (go_at_call 123; (with_reducible refine (spec_l2Before.calls k2 _ _ (rd_L4 l0_0 (ji13)) _ _ (rd_L4 l0_0 x3_2) false _ ?side1 ?side2 ?side3 ?side4 A16.out).mono ?_); (case side1 => exact zC (Kd.C_below HR524_0.out zB)); (case side2 => exact HC524_0.out); (case side3 => exact zC (Kd.C_below HR525_0.out zB)); (case side4 => exact HC525_0.out); rintro e w' ⟨rfl, ⟨nd, rfl⟩⟩; (try exact zD))))
                     go_ret
                     exact ⟨by first | rfl | (simp [errW_none, errW_some] <;> rfl) | (simp only [← hji13]; first | rfl | (simp [errW_none, errW_some] <;> rfl)) | (simp [*, errW_none, errW_some] <;> rfl), zB⟩
                 · rw [if_neg c15] at H
                   exact absurd H (by simp)
               · rw [if_neg c14] at H
                 exact absurd H (by simp)
             · rw [if_neg c12] at H
               have c12b0 : decide (0 < x3_2) = false := decide_eq_false c12
               clear c12
               have H' := Aside0.mk H
               clear H
               have hcz20_0 := zy BK520 0
               have hcz20_1 := zy BK520 1
               have hfz20_0 := blk_frozen BK520.out 0
               have hfz20_1 := blk_frozen BK520.out 1
               have p522 : 0 ≤ (x3_2 : Int) := of_decide_eq_true zA
               have q522 : x3_2 < (l0_0.length : Int) := of_decide_eq_true zA
               obtain ⟨ad522, A522_0, c522_0, e522, hx522_0, hl522_0, hi522_0⟩ := at_L4 HR0_0.out x3_2 p522 q522
               cases e522
               (try replace hx522_0 := (HB.out.cell (World.block_lt_of_cell? w _ hx522_0)).trans hx522_0)
               have HR522_0 := Aside0.mk hi522_0
               have HC522_0 := Aside0.mk hl522_0
               clear hi522_0 hl522_0
               replace p522 := eq_true p522
               replace q522 := eq_true q522
               go_wp2_with (first | (go_at_call 122; (with_reducible refine (spec_l2State.calls k2 _ _ (rd_L4 l0_0 x3_2) true _ ?side1 ?side2 A10.out).mono ?_); (case side1 => exact zC (Kd.C_below HR522_0.out HB.out)); (case side2 => exact HC522_0.out); rintro e w' ⟨rfl, ⟨nd, rfl⟩⟩; (try exact zD)))
               repeat (go_quiet (first | (go_at_call 122; (with_reducible refine (spec_l2State.calls k2 _ _ (rd_L4 l0_0 x3_2) true _ ?side1 ?side2 A10.out).mono ?_); (case side1 => exact zC (Kd.C_below HR522_0.out HB.out)); (case side2 => exact HC522_0.out); rintro e w' ⟨rfl, ⟨nd, rfl⟩⟩; (try exact zD))); try go_wp2_with (first | (go_at_call 122; (with_reducible refine (spec_l2State.calls k2 _ _ (rd_L4 l0_0 x3_2) true _ ?side1 ?side2 A10.out).mono ?_); (case side1 => exact zC (Kd.C_below HR522_0.out HB.out)); (case side2 => exact HC522_0.out); rintro e w' ⟨rfl, ⟨nd, rfl⟩⟩; (try exact zD))))
               go_roundg k2
               case measure => have := HJ1.out; have := HK2.out; omega
               case rel => exact ⟨(wrap64 (x3_2 + 1)), (by first | rfl | (simp; done) | (simp [*]; done)), H', ⟨by have := HJ1.out; have := HK2.out; omega⟩, ⟨zK BK520.out⟩, ⟨zB⟩⟩
           · replace c11 := Bool.eq_false_iff.mpr c11
             subst c11
             have H1 : (some false) = some r := by rw [if_neg (show ¬ (false = true) by decide)] at H; exact H
             clear H
             have H := H1
             clear H1
             obtain rfl := Option.some.inj H
             have hcz21_0 := zy BK520 0
             have hcz21_1 := zy BK520 1
             have hfz21_0 := blk_frozen BK520.out 0
             have hfz21_1 := blk_frozen BK520.out 1
             have p522 : 0 ≤ (x3_2 : Int) := of_decide_eq_true zA
             have q522 : x3_2 < (l0_0.length : Int) := of_decide_eq_true zA
             obtain ⟨ad522, A522_0, c522_0, e522, hx522_0, hl522_0, hi522_0⟩ := at_L4 HR0_0.out x3_2 p522 q522
             cases e522
             (try replace hx522_0 := (HB.out.cell (World.block_lt_of_cell? w _ hx522_0)).trans hx522_0)
             have HR522_0 := Aside0.mk hi522_0
             have HC522_0 := Aside0.mk hl522_0
             clear hi522_0 hl522_0
             replace p522 := eq_true p522
             replace q522 := eq_true q522
             go_wp2_with (first | (go_at_call 122; (with_reducible refine (spec_l2State.calls k2 _ _ (rd_L4 l0_0 x3_2) false _ ?side1 ?side2 A10.out).mono ?_); (case side1 => exact zC (Kd.C_below HR522_0.out HB.out)); (case side2 => exact HC522_0.out); rintro e w' ⟨rfl, ⟨nd, rfl⟩⟩; (try exact zD)))
             repeat (go_quiet (first | (go_at_call 122; (with_reducible refine (spec_l2State.calls k2 _ _ (rd_L4 l0_0 x3_2) false _ ?side1 ?side2 A10.out).mono ?_); (case side1 => exact zC (Kd.C_below HR522_0.out HB.out)); (case side2 => exact HC522_0.out); rintro e w' ⟨rfl, ⟨nd, rfl⟩⟩; (try exact zD))); try go_wp2_with (first | (go_at_call 122; (with_reducible refine (spec_l2State.calls k2 _ _ (rd_L4 l0_0 x3_2) false _ ?side1 ?side2 A10.out).mono ?_); (case side1 => exact zC (Kd.C_below HR522_0.out HB.out)); (case side2 => exact HC522_0.out); rintro e w' ⟨rfl, ⟨nd, rfl⟩⟩; (try exact zD))))
             go_ret
             exact ⟨by first | rfl | (simp [errW_none, errW_some] <;> rfl) | (simp [*, errW_none, errW_some] <;> rfl), zB⟩
         · rw [if_neg c9] at H
           exact absurd H (by simp)
       · rw [if_neg c8] at H
         have c8b0 : decide (x3_2 < (l0_0.length : Int)) = false := decide_eq_false c8
         clear c8
         replace H := Option.bind_eq_some_iff.mp H
         obtain ⟨t521, A220, H⟩ := H
         have A22 := Aside0.mk A220
         clear A220
         obtain rfl := Option.some.inj H
         have hcz23_0 := zy BK520 0
         have hcz23_1 := zy BK520 1
         have hfz23_0 := blk_frozen BK520.out 0
         have hfz23_1 := blk_frozen BK520.out 1
         go_wp2_with (first | (go_at_call 124; (with_reducible refine (spec_l2Pairs.calls k2 _ _ l0_1 (l0_0.length : Int) t521 _ ?side1 ?side2 A22.out).mono ?_); (case side1 => exact zC (Kd.C_below HR0_1.out HB.out)); (case side2 => exact HC0_1.out); rintro e w24 ⟨rfl, hb⟩; replace BK520 := zM (blk_below (g := gb520) (o := .cells #[.slice A0_0 l0_0.length c0_0, .slice A0_1 l0_1.length c0_1] 46 (0, 0)) (zK BK520.out) hb); replace HB := zM (below_step zB hb); (try clear hb); (try clear hb2); (try clear hk); (try clear hi)))
         repeat (go_quiet (first | (go_at_call 124; (with_reducible refine (spec_l2Pairs.calls k2 _ _ l0_1 (l0_0.length : Int) t521 _ ?side1 ?side2 A22.out).mono ?_); (case side1 => exact zC (Kd.C_below HR0_1.out HB.out)); (case side2 => exact HC0_1.out); rintro e w24 ⟨rfl, hb⟩; replace BK520 := zM (blk_below (g := gb520) (o := .cells #[.slice A0_0 l0_0.length c0_0, .slice A0_1 l0_1.length c0_1] 46 (0, 0)) (zK BK520.out) hb); replace HB := zM (below_step zB hb); (try clear hb); (try clear hb2); (try clear hk); (try clear hi))); try go_wp2_with (first | (go_at_call 124; (with_reducible refine (spec_l2Pairs.calls k2 _ _ l0_1 (l0_0.length : Int) t521 _ ?side1 ?side2 A22.out).mono ?_); (case side1 => exact zC (Kd.C_below HR0_1.out HB.out)); (case side2 => exact HC0_1.out); rintro e w24 ⟨rfl, hb⟩; replace BK520 := zM (blk_below (g := gb520) (o := .cells #[.slice A0_0 l0_0.length c0_0, .slice A0_1 l0_1.length c0_1] 46 (0, 0)) (zK BK520.out) hb); replace HB := zM (below_step zB hb); (try clear hb); (try clear hb2); (try clear hk); (try clear hi))))
         go_ret
         exact ⟨by first | rfl | (simp [errW_none, errW_some] <;> rfl) | (simp [*, errW_none, errW_some] <;> rfl), zB⟩

end Go.Proofs.Ytnlmijnbfdhdkaa.P
namespace Go.Proofs.Ytnlmijnbfdhdkaa.P
open Go.RowKit Go.Proofs.YtnlmijnbfdhdkaaW.PrintWords Go.Proofs.YtnlmijnbfdhdkaaW.PrintLast Go.Proofs.YtnlmijnbfdhdkaaW.PrintMore
attribute [local go_sem] max2_int min2_int max_two min_two max_three min_three max_four min_four   -- for this text's walks alone
set_option linter.unusedVariables false
set_option linter.unusedSimpArgs false

/-! ### slices_Compare_int_int: function 127 -/
def slices_Compare_int_int.l0 : Nat → List Int → List Int → List Int → Int → Int → Option (Int)
 | 0, _, _, _, _, _ => none
 | k + 1, x0, x1, x9, x10, x11 => if x11 < x10 then (if 0 ≤ x11 then (if x11 < (x9.length : Int) then (if x11 ≥ (x1.length : Int) then (some 1) else (if x11 < (x1.length : Int) then ((cmp_Compare_int.f (rd x9 x11) (rd x1 x11)).bind fun t586 => (if t586 = 0 then (slices_Compare_int_int.l0 k x0 x1 x9 x10 (wrap64 (x11 + 1))) else (some t586))) else (none))) else (none)) else (none)) else (if (x0.length : Int) < (x1.length : Int) then (some (-1)) else (some 0))
def slices_Compare_int_int.f (k : Nat) (l0 : List Int) (l1 : List Int) : Option (Int) := slices_Compare_int_int.l0 k l0 l1 l0 (l0.length : Int) 0
set_option maxHeartbeats 8000000 in
set_option maxRecDepth 100000 in
theorem slices_Compare_int_int.calls (k : Nat) (A0 : Option Addr) (c0 : Nat) (l0 : List Int) (A1 : Option Addr) (c1 : Nat) (l1 : List Int) (r : Int) (w : World) (hr0 : Kd.C (Kd.int .i64) w A0 l0.length l0) (hc0 : l0.length ≤ c0) (hr1 : Kd.C (Kd.int .i64) w A1 l1.length l1) (hc1 : l1.length ≤ c1) (h : slices_Compare_int_int.f k l0 l1 = some r) :
 Calls Try.prog 127 #[.slice A0 l0.length c0, .slice A1 l1.length c1] w fun e w' => e = .returned (.int .i64 r) ∧ Drawn0 w w' := by
 have HR0 := Aside0.mk hr0
 have HC0 := Aside0.mk hc0
 clear hr0 hc0
 have HR1 := Aside0.mk hr1
 have HC1 := Aside0.mk hc1
 clear hr1 hc1
 have H : (slices_Compare_int_int.l0 k l0 l1 l0 (l0.length : Int) 0) = some r := h
 clear h
 have H' := Aside0.mk H
 clear H
 go_enter Try.func127, Try.ntmps127
 go_wp2
 go_loopg [11] k (fun kq v11 w' => ∃ (x11_1 : Int), v11 = .int .i64 x11_1 ∧ Aside0 (slices_Compare_int_int.l0 kq l0 l1 l0 (l0.length : Int) x11_1 = some r) ∧ Aside0 (kq ≤ k) ∧ Drawn0 w w')
 case atStart => exact ⟨(0), (by first | rfl | (simp; done) | (simp [*]; done)), H', ⟨Nat.le_refl _⟩, by repeat (first | exact Drawn0.refl _ | apply Drawn0.step)⟩
 case round =>
  clear H'
  try clear c1
  try clear p2
  obtain ⟨x11_1, rfl, HA, HK1, ⟨m1, rfl⟩⟩ := hrel
  cases gk with
  | zero => exact absurd HA.out (by simp [slices_Compare_int_int.l0])
  | succ k1 =>
   have H := HA.out
   clear HA
   simp only [slices_Compare_int_int.l0] at H
   by_cases c3 : x11_1 < (l0.length : Int)
   · rw [if_pos c3] at H
     have c3b0 := decide_eq_true c3
     clear c3
     by_cases c4 : 0 ≤ x11_1
     · rw [if_pos c4] at H
       have c4b0 := decide_eq_true c4
       clear c4
       by_cases c5 : x11_1 < (l0.length : Int)
       · rw [if_pos c5] at H
         have c5b0 := decide_eq_true c5
         clear c5
         by_cases c6 : x11_1 ≥ (l1.length : Int)
         · rw [if_pos c6] at H
           have c6b0 : decide ((l1.length : Int) ≤ x11_1) = true := decide_eq_true c6
           clear c6
           obtain rfl := Option.some.inj H
           have p584 : 0 ≤ (x11_1 : Int) := of_decide_eq_true zA
           have q584 : x11_1 < (l0.length : Int) := of_decide_eq_true zA
           obtain ⟨ad584, e584, hx584_0⟩ := Kd.at_int HR0.out x11_1 p584 q584
           cases e584
           replace p584 := eq_true p584
           replace q584 := eq_true q584
           go_wp2
           go_ret
           exact ⟨by first | rfl | (simp; done) | (simp [*]; done), by repeat (first | exact Drawn0.refl _ | apply Drawn0.step)⟩
         · rw [if_neg c6] at H
           have c6b0 : decide ((l1.length : Int) ≤ x11_1) = false := decide_eq_false c6
           clear c6
           by_cases c7 : x11_1 < (l1.length : Int)
           · rw [if_pos c7] at H
             have c7b0 := decide_eq_true c7
             clear c7
             replace H := Option.bind_eq_some_iff.mp H
             obtain ⟨t586, A80, H⟩ := H
             have A8 := Aside0.mk A80
             clear A80
             by_cases c9 : t586 = 0
             · rw [if_pos c9] at H
               have c9b0 : (t586 == 0) = true := beq_iff_eq.mpr c9
               have c9b1 : (t586 != 0) = false := bne_eq_false_iff_eq.mpr c9
               clear c9
               have H' := Aside0.mk H
               clear H
               have p584 : 0 ≤ (x11_1 : Int) := of_decide_eq_true zA
               have q584 : x11_1 < (l0.length : Int) := of_decide_eq_true zA
               obtain ⟨ad584, e584, hx584_0⟩ := Kd.at_int HR0.out x11_1 p584 q584
               cases e584
               replace p584 := eq_true p584
               replace q584 := eq_true q584
               have p585 : 0 ≤ (x11_1 : Int) := of_decide_eq_true zA
               have q585 : x11_1 < (l1.length : Int) := of_decide_eq_true zA
               obtain ⟨ad585, e585, hx585_0⟩ := Kd.at_int HR1.out x11_1 p585 q585
               cases e585
               replace p585 := eq_true p585
               replace q585 := eq_true q585
               go_wp2_with (first | ((with_reducible refine gate_callee (f := 148) rfl ?_); refine zc 26 Try.func148 #[.int .i64 (rd l0 x11_1), .int .i64 (rd l1 x11_1)] ?_; (with_reducible refine (cmp_Compare_int.calls (rd l0 x11_1) (rd l1 x11_1) t586 _ A8.out).mono ?_); rintro e w' ⟨rfl, ⟨nd, rfl⟩⟩; refine ⟨_, rfl, ?_⟩))
               go_roundg k1
               case measure => have := HK1.out; omega
               case rel => exact ⟨(wrap64 (x11_1 + 1)), (by first | rfl | (simp; done) | (simp [*]; done)), H', ⟨by have := HK1.out; omega⟩, by repeat (first | exact Drawn0.refl _ | apply Drawn0.step)⟩
             · rw [if_neg c9] at H
               have c9b0 : (t586 == 0) = false := beq_eq_false_iff_ne.mpr c9
               have c9b1 : (t586 != 0) = true := bne_iff_ne.mpr c9
               obtain rfl := Option.some.inj H
               have p584 : 0 ≤ (x11_1 : Int) := of_decide_eq_true zA
               have q584 : x11_1 < (l0.length : Int) := of_decide_eq_true zA
               obtain ⟨ad584, e584, hx584_0⟩ := Kd.at_int HR0.out x11_1 p584 q584
               cases e584
               replace p584 := eq_true p584
               replace q584 := eq_true q584
               have p585 : 0 ≤ (x11_1 : Int) := of_decide_eq_true zA
               have q585 : x11_1 < (l1.length : Int) := of_decide_eq_true zA
               obtain ⟨ad585, e585, hx585_0⟩ := Kd.at_int HR1.out x11_1 p585 q585
               cases e585
               replace p585 := eq_true p585
               replace q585 := eq_true q585
               go_wp2_with (first | ((with_reducible refine gate_callee (f := 148) rfl ?_); refine zc 26 Try.func148 #[.int .i64 (rd l0 x11_1), .int .i64 (rd l1 x11_1)] ?_; (with_reducible refine (cmp_Compare_int.calls (rd l0 x11_1) (rd l1 x11_1) t586 _ A8.out).mono ?_); rintro e w' ⟨rfl, ⟨nd, rfl⟩⟩; refine ⟨_, rfl, ?_⟩))
               go_ret
               exact ⟨by first | rfl | (simp; done) | (simp [*]; done), by repeat (first | exact Drawn0.refl _ | apply Drawn0.step)⟩
           · rw [if_neg c7] at H
             exact absurd H (by simp)
       · rw [if_neg c5] at H
         exact absurd H (by simp)
     · rw [if_neg c4] at H
       exact absurd H (by simp)
   · rw [if_neg c3] at H
     have c3b0 : decide (x11_1 < (l0.length : Int)) = false := decide_eq_false c3
     clear c3
     by_cases c10 : (l0.length : Int) < (l1.length : Int)
     · rw [if_pos c10] at H
       have c10b0 := decide_eq_true c10
       have c10b1 : decide (l0.length < l1.length) = true := decide_eq_true (Int.ofNat_lt.mp c10)
       clear c10
       obtain rfl := Option.some.inj H
       go_wp2
       go_ret
       exact ⟨by first | rfl | (simp; done) | (simp [*]; done), by repeat (first | exact Drawn0.refl _ | apply Drawn0.step)⟩
     · rw [if_neg c10] at H
       have c10b0 : decide ((l0.length : Int) < (l1.length : Int)) = false := decide_eq_false c10
       have c10b1 : decide (l0.length < l1.length) = false := decide_eq_false (fun h => c10 (Int.ofNat_lt.mpr h))
       clear c10
       obtain rfl := Option.some.inj H
       go_wp2
       go_ret
       exact ⟨by first | rfl | (simp; done) | (simp [*]; done), by repeat (first | exact Drawn0.refl _ | apply Drawn0.step)⟩

end Go.Proofs.Ytnlmijnbfdhdkaa.P
namespace Go.Proofs.Ytnlmijnbfdhdkaa.P
open Go.RowKit Go.Proofs.YtnlmijnbfdhdkaaW.PrintWords Go.Proofs.YtnlmijnbfdhdkaaW.PrintLast Go.Proofs.YtnlmijnbfdhdkaaW.PrintMore
set_option linter.unusedVariables false
set_option linter.unusedSimpArgs false

/-- Not from -b to b. -/
def outB (b n : Int) : Bool := !(decide (-b ≤ n) && decide (n ≤ b))
set_option maxHeartbeats 1000000 in
theorem isState1_any (n : Int) (W : World) : Calls Try.prog 147 #[.int .i64 n] W fun e w' => e = .returned (.bool (outB 99 n)) ∧ Below W.heap.size W w' := by
  have e : outB 99 n = !(decide (-99 ≤ n) && decide (n ≤ 99)) := rfl
  rw [e]
  clear e
  by_cases h0 : -99 ≤ n
  · have h0b : decide (-99 ≤ n) = true := decide_eq_true h0
    have h0c : decide (n ≥ -99) = true := decide_eq_true h0
    clear h0
    go_enter Try.func147, Try.ntmps147
    go_wp2
    go_ret
    exact ⟨by first | rfl | simp [*], by repeat (first | exact Below.refl _ _ | apply below_alloc | apply pw_below_drewN | apply below_drew1)⟩
  · have h0b : decide (-99 ≤ n) = false := decide_eq_false h0
    have h0c : decide (n ≥ -99) = false := decide_eq_false h0
    clear h0
    go_enter Try.func147, Try.ntmps147
    go_wp2
    go_ret
    exact ⟨by first | rfl | simp [*], by repeat (first | exact Below.refl _ _ | apply below_alloc | apply pw_below_drewN | apply below_drew1)⟩
def impl_isState.f (l0 : List Int) : Option Bool := some (decide ((l0.length : Int) ≤ 24) && !(l0.any (outB 99)))
set_option maxHeartbeats 1000000 in
theorem impl_isState.calls (A0 : Option Addr) (c0 : Nat) (l0 : List Int) (r : Bool) (w : World) (hr0 : Kd.C (Kd.int .i64) w A0 l0.length l0) (hc0 : l0.length ≤ c0) (h : impl_isState.f l0 = some r) :
    Calls Try.prog 126 #[.slice A0 l0.length c0] w fun e w' => e = .returned (.bool r) ∧ Below w.heap.size w w' := by
  obtain rfl := Option.some.inj h
  clear h
  have HP := Aside0.mk (show PredB 147 #[] (Value.int .i64) (outB 99) l0 w from fun W x _ _ => isState1_any x W)
  have HR0 := Aside0.mk hr0
  clear hr0
  generalize hg : l0.any (outB 99) = b
  have HG := Aside0.mk hg
  clear hg
  by_cases h0 : (l0.length : Int) ≤ 24
  · have h0b : decide ((l0.length : Int) ≤ 24) = true := decide_eq_true h0
    have h0c : decide (l0.length ≤ 24) = true := decide_eq_true (by omega)
    rw [h0b]
    clear h0
    go_enter Try.func126, Try.ntmps126
    go_wp2_with (go_at_call 146; refine (cont_ints _ #[] (enters_of Try.func147 (by kernel_rfl) rfl) _ A0 c0 l0 _ HR0.out HP.out).mono ?_; rintro e w' ⟨rfl, hb⟩; rw [HG.out]; have HB := Aside0.mk hb; clear hb)
    go_ret
    exact ⟨by first | rfl | (simp; done), HB.out⟩
  · have h0b : decide ((l0.length : Int) ≤ 24) = false := decide_eq_false h0
    have h0c : decide (l0.length ≤ 24) = false := decide_eq_false (by omega)
    rw [h0b]
    clear h0
    go_enter Try.func126, Try.ntmps126
    go_wp2
    go_ret
    exact ⟨by first | rfl | (simp; done), Below.refl _ _⟩


end Go.Proofs.Ytnlmijnbfdhdkaa.P
namespace Go.Proofs.Ytnlmijnbfdhdkaa.P
open Go.RowKit Go.Proofs.YtnlmijnbfdhdkaaW.PrintWords Go.Proofs.YtnlmijnbfdhdkaaW.PrintLast Go.Proofs.YtnlmijnbfdhdkaaW.PrintMore
attribute [local go_sem] max2_int min2_int max_two min_two max_three min_three max_four min_four   -- for this text's walks alone
set_option linter.unusedVariables false
set_option linter.unusedSimpArgs false

/-! ### impl_IsSpace: function 83 -/
mutual
def impl_IsSpace.j0 : Nat → Bool → List (List Int) → List (S88) → Option (Bool)
 | 0, _, _, _ => none
 | k + 1, x14, x588000, x588001 => if x14 = true then (some false) else (impl_IsSpace.l0 k x588000 (x588000.length : Int) 0 x588000 x588001)
def impl_IsSpace.l0 : Nat → List (List Int) → Int → Int → List (List Int) → List (S88) → Option (Bool)
 | 0, _, _, _, _, _ => none
 | k + 1, x16, x17, x18, x588000, x588001 => if x18 < x17 then (if 0 ≤ x18 then (if x18 < (x16.length : Int) then ((impl_isState.f (rd_L4 x16 x18)).bind fun t590 => (if t590 = true then (if x18 > 0 then (if 0 ≤ (wrap64 (x18 - 1)) then (if (wrap64 (x18 - 1)) < (x588000.length : Int) then ((slices_Compare_int_int.f k (rd_L4 x588000 (wrap64 (x18 - 1))) (rd_L4 x16 x18)).bind fun t592 => (if t592 ≥ 0 then (some false) else (impl_IsSpace.l0 k x16 x17 (wrap64 (x18 + 1)) x588000 x588001))) else (none)) else (none)) else (impl_IsSpace.l0 k x16 x17 (wrap64 (x18 + 1)) x588000 x588001)) else (some false))) else (none)) else (none)) else ((impl_isPairs.f k x588001 (x588000.length : Int)).bind fun t588 => (some t588))
end
def impl_IsSpace.f (k : Nat) (l0_0 : List (List Int)) (l0_1 : List (S88)) : Option (Bool) := if (l0_0.length : Int) > 300 then (impl_IsSpace.j0 k true l0_0 l0_1) else (impl_IsSpace.j0 k (decide ((l0_1.length : Int) > 6000)) l0_0 l0_1)
set_option maxHeartbeats 8000000 in
set_option maxRecDepth 100000 in
theorem impl_IsSpace.calls (k : Nat) (A0_0 : Option Addr) (c0_0 : Nat) (l0_0 : List (List Int)) (A0_1 : Option Addr) (c0_1 : Nat) (l0_1 : List (S88)) (r : Bool) (w : World) (hr0_0 : Kd.C (Kd.slice 3 (Kd.int .i64)) w A0_0 l0_0.length l0_0) (hc0_0 : l0_0.length ≤ c0_0) (hr0_1 : Kd.C k88 w A0_1 l0_1.length l0_1) (hc0_1 : l0_1.length ≤ c0_1) (h : impl_IsSpace.f k l0_0 l0_1 = some r) :
 Calls Try.prog 83 #[.agg #[.slice A0_0 l0_0.length c0_0, .slice A0_1 l0_1.length c0_1]] w fun e w' => e = .returned (.bool r) ∧ Below w.heap.size w w' := by
 have hu46 := Try.underlying46
 have HR0_0 := Aside0.mk hr0_0
 have HC0_0 := Aside0.mk hc0_0
 clear hr0_0 hc0_0
 have HR0_1 := Aside0.mk hr0_1
 have HC0_1 := Aside0.mk hc0_1
 clear hr0_1 hc0_1
 have HB := zM (Below.refl w.heap.size w)
 have H : (if (l0_0.length : Int) > 300 then (impl_IsSpace.j0 k true l0_0 l0_1) else (impl_IsSpace.j0 k (decide ((l0_1.length : Int) > 6000)) l0_0 l0_1)) = some r := h
 clear h
 have HC2 := Aside0.mk H
 clear H
 go_enter Try.func83, Try.ntmps83
 go_upto_region 1 with (first | ((with_reducible refine gate_dst (N := 1) rfl ?_); (try (refine gate_guard (by rfl) ?_; dsimp only)); refine zb (w := w) 1 #[.slice A0_0 l0_0.length c0_0, .slice A0_1 l0_1.length c0_1] 46 zB ?_; clear HB; intro gb587 w3 HB BK587 GW587; have GE587 := GW587))
 (try simp only [Act.put, List.setIfInBounds_toArray, List.set_cons_zero, List.set_cons_succ])
 go_cut [14] (fun v14 wc => ∃ (kq : Nat) (x14_1 : Bool), v14 = .bool x14_1 ∧ Aside0 (impl_IsSpace.j0 kq x14_1 l0_0 l0_1 = some r) ∧ Aside0 (kq ≤ k) ∧ Aside0 (wc.heap[gb587]? = some (.cells #[(.slice A0_0 l0_0.length c0_0), (.slice A0_1 l0_1.length c0_1)] 46 (0, 0))) ∧ Aside0 (Below w.heap.size w wc))
 case first =>
  have H := HC2.out
  clear HC2
  by_cases c4 : (l0_0.length : Int) > 300
  · rw [if_pos c4] at H
    have c4b0 : decide (300 < (l0_0.length : Int)) = true := decide_eq_true c4
    have c4b1 : decide (300 < l0_0.length) = true := decide_eq_true (by omega)
    clear c4
    (first | rw [c4b0] | (simp only [i64_w, i32_w]; rw [c4b0]) | skip)
    have H' := Aside0.mk H
    clear H
    have hcz5_0 := zy BK587 0
    have hcz5_1 := zy BK587 1
    have hfz5_0 := blk_frozen BK587.out 0
    have hfz5_1 := blk_frozen BK587.out 1
    go_wp2
    go_meet
    case rel => exact ⟨_, (true), (by first | rfl | (simp; done) | (simp [*]; done)), H', ⟨by first | omega | exact Nat.le_refl _⟩, ⟨zK BK587.out⟩, ⟨zB⟩⟩
  · rw [if_neg c4] at H
    have c4b0 : decide (300 < (l0_0.length : Int)) = false := decide_eq_false c4
    have c4b1 : decide (300 < l0_0.length) = false := decide_eq_false (by omega)
    clear c4
    (first | rw [c4b0] | (simp only [i64_w, i32_w]; rw [c4b0]) | skip)
    have H' := Aside0.mk H
    clear H
    have hcz6_0 := zy BK587 0
    have hcz6_1 := zy BK587 1
    have hfz6_0 := blk_frozen BK587.out 0
    have hfz6_1 := blk_frozen BK587.out 1
    go_wp2
    go_meet
    case rel => exact ⟨_, (decide ((l0_1.length : Int) > 6000)), (by first | rfl | (simp; done) | (simp [*]; done)), H', ⟨by first | omega | exact Nat.le_refl _⟩, ⟨zK BK587.out⟩, ⟨zB⟩⟩
 case rest =>
  clear HC2
  try clear p2
  try clear c4
  try clear c4b0
  try clear c4b1
  try clear hcz5_0
  try clear hcz5_1
  try clear hcz6_0
  try clear hcz6_1
  try clear hfz5_0
  try clear hfz5_1
  try clear hfz6_0
  try clear hfz6_1
  obtain ⟨kq, x14_1, rfl, HA, HJ1, BK587, HB⟩ := hcut
  cases kq with
  | zero => exact absurd HA.out (by simp [impl_IsSpace.j0])
  | succ kj1 =>
   have H := HA.out
   clear HA
   simp only [impl_IsSpace.j0] at H
   by_cases c7 : x14_1 = true
   · subst c7
     rw [if_pos rfl] at H
     obtain rfl := Option.some.inj H
     go_wp2
     go_ret
     exact ⟨by first | rfl | (simp [errW_none, errW_some] <;> rfl) | (simp [*, errW_none, errW_some] <;> rfl), zB⟩
   · replace c7 := Bool.eq_false_iff.mpr c7
     subst c7
     have H1 : (impl_IsSpace.l0 kj1 l0_0 (l0_0.length : Int) 0 l0_0 l0_1) = some r := by rw [if_neg (show ¬ (false = true) by decide)] at H; exact H
     clear H
     have H := H1
     clear H1
     have H' := Aside0.mk H
     clear H
     have hcz8_0 := zy BK587 0
     have hcz8_1 := zy BK587 1
     have hfz8_0 := blk_frozen BK587.out 0
     have hfz8_1 := blk_frozen BK587.out 1
     go_wp2
     go_loopg [18] kj1 (fun kq v18 w' => ∃ (x18_2 : Int), v18 = .int .i64 x18_2 ∧ Aside0 (impl_IsSpace.l0 kq l0_0 (l0_0.length : Int) x18_2 l0_0 l0_1 = some r) ∧ Aside0 (kq ≤ kj1) ∧ Aside0 (w'.heap[gb587]? = some (.cells #[(.slice A0_0 l0_0.length c0_0), (.slice A0_1 l0_1.length c0_1)] 46 (0, 0))) ∧ Aside0 (Below w.heap.size w w'))
     case atStart => exact ⟨(0), (by first | rfl | (simp; done) | (simp [*]; done)), H', ⟨Nat.le_refl _⟩, ⟨zK BK587.out⟩, ⟨zB⟩⟩
     case round =>
      clear H'
      try clear p2
      try clear c4
      try clear c4b0
      try clear c4b1
      try clear c7
      try clear c8
      try clear hcz5_0
      try clear hcz5_1
      try clear hcz6_0
      try clear hcz6_1
      try clear hcz8_0
      try clear hcz8_1
      try clear hfz5_0
      try clear hfz5_1
      try clear hfz6_0
      try clear hfz6_1
      try clear hfz8_0
      try clear hfz8_1
      try clear p2
      obtain ⟨x18_2, rfl, HA, HK2, BK587, HB⟩ := hrel
      cases gk with
      | zero => exact absurd HA.out (by simp [impl_IsSpace.l0])
      | succ k2 =>
       have H := HA.out
       clear HA
       simp only [impl_IsSpace.l0] at H
       by_cases c9 : x18_2 < (l0_0.length : Int)
       · rw [if_pos c9] at H
         have c9b0 := decide_eq_true c9
         clear c9
         by_cases c10 : 0 ≤ x18_2
         · rw [if_pos c10] at H
           have c10b0 := decide_eq_true c10
           clear c10
           by_cases c11 : x18_2 < (l0_0.length : Int)
           · rw [if_pos c11] at H
             have c11b0 := decide_eq_true c11
             clear c11
             replace H := Option.bind_eq_some_iff.mp H
             obtain ⟨t590, A120, H⟩ := H
             have A12 := Aside0.mk A120
             clear A120
             by_cases c13 : t590 = true
             · subst c13
               rw [if_pos rfl] at H
               by_cases c14 : x18_2 > 0
               · rw [if_pos c14] at H
                 have c14b0 : decide (0 < x18_2) = true := decide_eq_true c14
                 clear c14
                 obtain ⟨ji15, hji15⟩ : ∃ j_ : Int, (wrap64 (x18_2 - 1)) = j_ := ⟨_, rfl⟩
                 replace H : (if 0 ≤ (ji15) then (if (ji15) < (l0_0.length : Int) then ((slices_Compare_int_int.f k2 (rd_L4 l0_0 (ji15)) (rd_L4 l0_0 x18_2)).bind fun t592 => (if t592 ≥ 0 then (some false) else (impl_IsSpace.l0 k2 l0_0 (l0_0.length : Int) (wrap64 (x18_2 + 1)) l0_0 l0_1))) else (none)) else (none)) = some r := by first | (rw [hji15] at H; exact H) | (simp only [hji15] at H ⊢; exact H)
                 (try rw [hji15] at A12)
                 have hji15w : (IntKind.i64.wrap (x18_2 - 1)) = ji15 := (i64_w _).trans hji15
                 by_cases c16 : 0 ≤ (ji15)
                 · rw [if_pos c16] at H
                   have c16b0 := decide_eq_true c16
                   clear c16
                   by_cases c17 : (ji15) < (l0_0.length : Int)
                   · rw [if_pos c17] at H
                     have c17b0 := decide_eq_true c17
                     clear c17
                     replace H := Option.bind_eq_some_iff.mp H
                     obtain ⟨t592, A180, H⟩ := H
                     have A18 := Aside0.mk A180
                     clear A180
                     by_cases c19 : t592 ≥ 0
                     · rw [if_pos c19] at H
                       have c19b0 : decide (0 ≤ t592) = true := decide_eq_true c19
                       clear c19
                       obtain rfl := Option.some.inj H
                       have p589 : 0 ≤ (x18_2 : Int) := of_decide_eq_true zA
                       have q589 : x18_2 < (l0_0.length : Int) := of_decide_eq_true zA
                       obtain ⟨ad589, A589_0, c589_0, e589, hx589_0, hl589_0, hi589_0⟩ := at_L4 HR0_0.out x18_2 p589 q589
                       cases e589
                       (try replace hx589_0 := (HB.out.cell (World.block_lt_of_cell? w _ hx589_0)).trans hx589_0)
                       have HR589_0 := Aside0.mk hi589_0
                       have HC589_0 := Aside0.mk hl589_0
                       clear hi589_0 hl589_0
                       replace p589 := eq_true p589
                       replace q589 := eq_true q589
                       go_wp2_with (first | ((with_reducible refine gate_callee (f := 126) rfl ?_); refine zc 24 Try.func126 #[.slice A589_0 (rd_L4 l0_0 x18_2).length c589_0] ?_; (with_reducible refine (impl_isState.calls _ _ (rd_L4 l0_0 x18_2) true _ ?side1 ?side2 A12.out).mono ?_); (case side1 => exact zC (Kd.C_below HR589_0.out HB.out)); (case side2 => exact HC589_0.out); rintro e w20 ⟨rfl, hb⟩; refine ⟨_, rfl, ?_⟩; replace BK587 := zM (blk_below (g := gb587) (o := .cells #[.slice (some ad589) l0_0.length c0_0, .slice A0_1 l0_1.length c0_1] 46 (0, 0)) (zK BK587.out) hb); replace HB := zM (below_step zB hb); (try clear hb); (try clear hb2); (try clear hk); (try clear hi); have hcz21_0 := zy BK587 0; have hcz21_1 := zy BK587 1; have hfz21_0 := blk_frozen BK587.out 0; have hfz21_1 := blk_frozen BK587.out 1; have p591 : 0 ≤ ((ji15) : Int) := of_decide_eq_true zA; have q591 : (ji15) < (l0_0.length : Int) := of_decide_eq_true zA; obtain ⟨ad591, A591_0, c591_0, e591, hx591_0, hl591_0, hi591_0⟩ := at_L4 HR0_0.out (ji15) p591 q591; obtain rfl : ad589 = ad591 := (by injection e591); (try replace hx591_0 := (HB.out.cell (World.block_lt_of_cell? w _ hx591_0)).trans hx591_0); have HR591_0 := Aside0.mk hi591_0; have HC591_0 := Aside0.mk hl591_0; clear hi591_0 hl591_0; replace p591 := eq_true p591; replace q591 := eq_true q591) | (go_at_call 127; (with_reducible refine (slices_Compare_int_int.calls k2 _ _ (rd_L4 l0_0 (ji15)) _ _ (rd_L4 l0_0 x18_2) t592 _ ?side1 ?side2 ?side3 ?side4 A18.out).mono ?_); (case side1 => exact zC (Kd.C_below HR591_0.out HB.out)); (case side2 => exact HC591_0.out); (case side3 => exact zC (Kd.C_below HR589_0.out HB.out)); (case side4 => exact HC589_0.out); rintro e w' ⟨rfl, ⟨nd, rfl⟩⟩))
                       go_ret
                       exact ⟨by first | rfl | (simp [errW_none, errW_some] <;> rfl) | (simp only [← hji15]; first | rfl | (simp [errW_none, errW_some] <;> rfl)) | (simp [*, errW_none, errW_some] <;> rfl), zB⟩
                     · rw [if_neg c19] at H
                       have c19b0 : decide (0 ≤ t592) = false := decide_eq_false c19
                       clear c19
                       have H' := Aside0.mk H
                       clear H
                       have p589 : 0 ≤ (x18_2 : Int) := of_decide_eq_true zA
                       have q589 : x18_2 < (l0_0.length : Int) := of_decide_eq_true zA
                       obtain ⟨ad589, A589_0, c589_0, e589, hx589_0, hl589_0, hi589_0⟩ := at_L4 HR0_0.out x18_2 p589 q589
                       cases e589
                       (try replace hx589_0 := (HB.out.cell (World.block_lt_of_cell? w _ hx589_0)).trans hx589_0)
                       have HR589_0 := Aside0.mk hi589_0
                       have HC589_0 := Aside0.mk hl589_0
                       clear hi589_0 hl589_0
                       replace p589 := eq_true p589
                       replace q589 := eq_true q589
                       go_wp2_with (first | ((with_reducible refine gate_callee (f := 126) rfl ?_); refine zc 24 Try.func126 #[.slice A589_0 (rd_L4 l0_0 x18_2).length c589_0] ?_; (with_reducible refine (impl_isState.calls _ _ (rd_L4 l0_0 x18_2) true _ ?side1 ?side2 A12.out).mono ?_); (case side1 => exact zC (Kd.C_below HR589_0.out HB.out)); (case side2 => exact HC589_0.out); rintro e w22 ⟨rfl, hb⟩; refine ⟨_, rfl, ?_⟩; replace BK587 := zM (blk_below (g := gb587) (o := .cells #[.slice (some ad589) l0_0.length c0_0, .slice A0_1 l0_1.length c0_1] 46 (0, 0)) (zK BK587.out) hb); replace HB := zM (below_step zB hb); (try clear hb); (try clear hb2); (try clear hk); (try clear hi); have hcz23_0 := zy BK587 0; have hcz23_1 := zy BK587 1; have hfz23_0 := blk_frozen BK587.out 0; have hfz23_1 := blk_frozen BK587.out 1; have p591 : 0 ≤ ((ji15) : Int) := of_decide_eq_true zA; have q591 : (ji15) < (l0_0.length : Int) := of_decide_eq_true zA; obtain ⟨ad591, A591_0, c591_0, e591, hx591_0, hl591_0, hi591_0⟩ := at_L4 HR0_0.out (ji15) p591 q591; obtain rfl : ad589 = ad591 := (by injection e591); (try replace hx591_0 := (HB.out.cell (World.block_lt_of_cell? w _ hx591_0)).trans hx591_0); have HR591_0 := Aside0.mk hi591_0; have HC591_0 := Aside0.mk hl591_0; clear hi591_0 hl591_0; replace p591 := eq_true p591; replace q591 := eq_true q591) | (go_at_call 127; (with_reducible refine (slices_Compare_int_int.calls k2 _ _ (rd_L4 l0_0 (ji15)) _ _ (rd_L4 l0_0 x18_2) t592 _ ?side1 ?side2 ?side3 ?side4 A18.out).mono ?_); (case side1 => exact zC (Kd.C_below HR591_0.out HB.out)); (case side2 => exact HC591_0.out); (case side3 => exact zC (Kd.C_below HR589_0.out HB.out)); (case side4 => exact HC589_0.out); rintro e w' ⟨rfl, ⟨nd, rfl⟩⟩))
                       go_roundg k2
                       case measure => have := HJ1.out; have := HK2.out; omega
                       case rel => exact ⟨(wrap64 (x18_2 + 1)), (by first | rfl | (simp; done) | (simp [*]; done)), H', ⟨by have := HJ1.out; have := HK2.out; omega⟩, ⟨zK BK587.out⟩, ⟨zB⟩⟩
                   · rw [if_neg c17] at H
                     exact absurd H (by simp)
                 · rw [if_neg c16] at H
                   exact absurd H (by simp)
               · rw [if_neg c14] at H
                 have c14b0 : decide (0 < x18_2) = false := decide_eq_false c14
                 clear c14
                 have H' := Aside0.mk H
                 clear H
                 have p589 : 0 ≤ (x18_2 : Int) := of_decide_eq_true zA
                 have q589 : x18_2 < (l0_0.length : Int) := of_decide_eq_true zA
                 obtain ⟨ad589, A589_0, c589_0, e589, hx589_0, hl589_0, hi589_0⟩ := at_L4 HR0_0.out x18_2 p589 q589
                 cases e589
                 (try replace hx589_0 := (HB.out.cell (World.block_lt_of_cell? w _ hx589_0)).trans hx589_0)
                 have HR589_0 := Aside0.mk hi589_0
                 have HC589_0 := Aside0.mk hl589_0
                 clear hi589_0 hl589_0
                 replace p589 := eq_true p589
                 replace q589 := eq_true q589
                 go_wp2_with (first | ((with_reducible refine gate_callee (f := 126) rfl ?_); refine zc 24 Try.func126 #[.slice A589_0 (rd_L4 l0_0 x18_2).length c589_0] ?_; (with_reducible refine (impl_isState.calls _ _ (rd_L4 l0_0 x18_2) true _ ?side1 ?side2 A12.out).mono ?_); (case side1 => exact zC (Kd.C_below HR589_0.out HB.out)); (case side2 => exact HC589_0.out); rintro e w24 ⟨rfl, hb⟩; refine ⟨_, rfl, ?_⟩; replace BK587 := zM (blk_below (g := gb587) (o := .cells #[.slice (some ad589) l0_0.length c0_0, .slice A0_1 l0_1.length c0_1] 46 (0, 0)) (zK BK587.out) hb); replace HB := zM (below_step zB hb); (try clear hb); (try clear hb2); (try clear hk); (try clear hi)))
                 go_roundg k2
                 case measure => have := HJ1.out; have := HK2.out; omega
                 case rel => exact ⟨(wrap64 (x18_2 + 1)), (by first | rfl | (simp; done) | (simp [*]; done)), H', ⟨by have := HJ1.out; have := HK2.out; omega⟩, ⟨zK BK587.out⟩, ⟨zB⟩⟩
             · replace c13 := Bool.eq_false_iff.mpr c13
               subst c13
               have H1 : (some false) = some r := by rw [if_neg (show ¬ (false = true) by decide)] at H; exact H
               clear H
               have H := H1
               clear H1
               obtain rfl := Option.some.inj H
               have p589 : 0 ≤ (x18_2 : Int) := of_decide_eq_true zA
               have q589 : x18_2 < (l0_0.length : Int) := of_decide_eq_true zA
               obtain ⟨ad589, A589_0, c589_0, e589, hx589_0, hl589_0, hi589_0⟩ := at_L4 HR0_0.out x18_2 p589 q589
               cases e589
               (try replace hx589_0 := (HB.out.cell (World.block_lt_of_cell? w _ hx589_0)).trans hx589_0)
               have HR589_0 := Aside0.mk hi589_0
               have HC589_0 := Aside0.mk hl589_0
               clear hi589_0 hl589_0
               replace p589 := eq_true p589
               replace q589 := eq_true q589
               go_wp2_with (first | ((with_reducible refine gate_callee (f := 126) rfl ?_); refine zc 24 Try.func126 #[.slice A589_0 (rd_L4 l0_0 x18_2).length c589_0] ?_; (with_reducible refine (impl_isState.calls _ _ (rd_L4 l0_0 x18_2) false _ ?side1 ?side2 A12.out).mono ?_); (case side1 => exact zC (Kd.C_below HR589_0.out HB.out)); (case side2 => exact HC589_0.out); rintro e w25 ⟨rfl, hb⟩; refine ⟨_, rfl, ?_⟩; replace BK587 := zM (blk_below (g := gb587) (o := .cells #[.slice (some ad589) l0_0.length c0_0, .slice A0_1 l0_1.length c0_1] 46 (0, 0)) (zK BK587.out) hb); replace HB := zM (below_step zB hb); (try clear hb); (try clear hb2); (try clear hk); (try clear hi)))
               go_ret
               exact ⟨by first | rfl | (simp [errW_none, errW_some] <;> rfl) | (simp [*, errW_none, errW_some] <;> rfl), zB⟩
           · rw [if_neg c11] at H
             exact absurd H (by simp)
         · rw [if_neg c10] at H
           exact absurd H (by simp)
       · rw [if_neg c9] at H
         have c9b0 : decide (x18_2 < (l0_0.length : Int)) = false := decide_eq_false c9
         clear c9
         replace H := Option.bind_eq_some_iff.mp H
         obtain ⟨t588, A260, H⟩ := H
         have A26 := Aside0.mk A260
         clear A260
         obtain rfl := Option.some.inj H
         have hcz27_0 := zy BK587 0
         have hcz27_1 := zy BK587 1
         have hfz27_0 := blk_frozen BK587.out 0
         have hfz27_1 := blk_frozen BK587.out 1
         go_wp2_with (first | ((with_reducible refine gate_callee (f := 128) rfl ?_); refine zc 47 Try.func128 #[.slice A0_1 l0_1.length c0_1, .int .i64 (l0_0.length : Int)] ?_; (with_reducible refine (impl_isPairs.calls k2 _ _ l0_1 (l0_0.length : Int) t588 _ ?side1 ?side2 A26.out).mono ?_); (case side1 => exact zC (Kd.C_below HR0_1.out HB.out)); (case side2 => exact HC0_1.out); rintro e w28 ⟨rfl, hb⟩; refine ⟨_, rfl, ?_⟩; replace BK587 := zM (blk_below (g := gb587) (o := .cells #[.slice A0_0 l0_0.length c0_0, .slice A0_1 l0_1.length c0_1] 46 (0, 0)) (zK BK587.out) hb); replace HB := zM (below_step zB hb); (try clear hb); (try clear hb2); (try clear hk); (try clear hi)))
         go_ret
         exact ⟨by first | rfl | (simp [errW_none, errW_some] <;> rfl) | (simp [*, errW_none, errW_some] <;> rfl), zB⟩

end Go.Proofs.Ytnlmijnbfdhdkaa.P
