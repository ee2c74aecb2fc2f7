-- Written by a program of this session (the kit's print, turned: wip/print/patch.py) out of the translation. Not trusted: Lean checks it.
import Derived.Test.YthnojbafclglpaaParityOfG5
import Derived.Test.YthnojbafclglpaaParityOfG7
namespace Go.Proofs.Ythnojbafclglpaa.P
open Go.RowKit Go.Proofs.YthnojbafclglpaaW.PrintWords Go.Proofs.YthnojbafclglpaaW.PrintLast Go.Proofs.YthnojbafclglpaaW.PrintMore
attribute [local go_sem] max2_int min2_int max_two min_two max_three min_three max_four min_four   -- for this text's walks alone
set_option linter.unusedVariables false
set_option linter.unusedSimpArgs false

/-! ### spec_l2Space: function 66 -/
mutual
def spec_l2Space.j0 : Nat → Bool → List (List Int) → List (S64) → Option (Bool)
 | 0, _, _, _ => none
 | k + 1, x13, x168000, x168001 => if x13 = true then (some false) else (spec_l2Space.l0 k 0 x168000 x168001)
def spec_l2Space.l0 : Nat → Int → List (List Int) → List (S64) → Option (Bool)
 | 0, _, _, _ => none
 | k + 1, x3, x168000, x168001 => if x3 < (x168000.length : Int) then (if 0 ≤ x3 then ((spec_l2State.f k (rd_L4 x168000 x3)).bind fun t170 => (if t170 = true then (if x3 > 0 then (if 0 ≤ (wrap64 (x3 - 1)) then (if (wrap64 (x3 - 1)) < (x168000.length : Int) then ((spec_l2Before.f k (rd_L4 x168000 (wrap64 (x3 - 1))) (rd_L4 x168000 x3)).bind fun t173 => (if t173 = true then (spec_l2Space.l0 k (wrap64 (x3 + 1)) x168000 x168001) else (some false))) else (none)) else (none)) else (spec_l2Space.l0 k (wrap64 (x3 + 1)) x168000 x168001)) else (some false))) else (none)) else ((spec_l2Pairs.f k x168001 (x168000.length : Int)).bind fun t168 => (some t168))
end
def spec_l2Space.f (k : Nat) (l0_0 : List (List Int)) (l0_1 : List (S64)) : Option (Bool) := if (l0_0.length : Int) > 300 then (spec_l2Space.j0 k true l0_0 l0_1) else (spec_l2Space.j0 k (decide ((l0_1.length : Int) > 6000)) l0_0 l0_1)
set_option maxHeartbeats 8000000 in
set_option maxRecDepth 100000 in
theorem spec_l2Space.calls (k : Nat) (A0_0 : Option Addr) (c0_0 : Nat) (l0_0 : List (List Int)) (A0_1 : Option Addr) (c0_1 : Nat) (l0_1 : List (S64)) (r : Bool) (w : World) (hr0_0 : Kd.C (Kd.slice 3 (Kd.int .i64)) w A0_0 l0_0.length l0_0) (hc0_0 : l0_0.length ≤ c0_0) (hr0_1 : Kd.C k64 w A0_1 l0_1.length l0_1) (hc0_1 : l0_1.length ≤ c0_1) (h : spec_l2Space.f k l0_0 l0_1 = some r) :
 Calls Try.prog 66 #[.agg #[.slice A0_0 l0_0.length c0_0, .slice A0_1 l0_1.length c0_1]] w fun e w' => e = .returned (.bool r) ∧ Below w.heap.size w w' := by
 have hu28 := Try.underlying28
 have HR0_0 := Aside0.mk hr0_0
 have HC0_0 := Aside0.mk hc0_0
 clear hr0_0 hc0_0
 have HR0_1 := Aside0.mk hr0_1
 have HC0_1 := Aside0.mk hc0_1
 clear hr0_1 hc0_1
 have HB := zM (Below.refl w.heap.size w)
 have H : (if (l0_0.length : Int) > 300 then (spec_l2Space.j0 k true l0_0 l0_1) else (spec_l2Space.j0 k (decide ((l0_1.length : Int) > 6000)) l0_0 l0_1)) = some r := h
 clear h
 have HC2 := Aside0.mk H
 clear H
 go_enter Try.func66, Try.ntmps66
 go_upto_region 1 with (first | ((with_reducible refine gate_dst (N := 1) rfl ?_); (try (refine gate_guard (by rfl) ?_; dsimp only)); refine zb (w := w) 1 #[.slice A0_0 l0_0.length c0_0, .slice A0_1 l0_1.length c0_1] 28 zB ?_; clear HB; intro gb167 w3 HB BK167 GW167; have GE167 := GW167))
 repeat (go_quiet (first | ((with_reducible refine gate_dst (N := 1) rfl ?_); (try (refine gate_guard (by rfl) ?_; dsimp only)); refine zb (w := w) 1 #[.slice A0_0 l0_0.length c0_0, .slice A0_1 l0_1.length c0_1] 28 zB ?_; clear HB; intro gb167 w3 HB BK167 GW167; have GE167 := GW167)); go_upto_region 1 with (first | ((with_reducible refine gate_dst (N := 1) rfl ?_); (try (refine gate_guard (by rfl) ?_; dsimp only)); refine zb (w := w) 1 #[.slice A0_0 l0_0.length c0_0, .slice A0_1 l0_1.length c0_1] 28 zB ?_; clear HB; intro gb167 w3 HB BK167 GW167; have GE167 := GW167)))
 (try simp only [Act.put, List.setIfInBounds_toArray, List.set_cons_zero, List.set_cons_succ])
 go_cut [13] (fun v13 wc => ∃ (kq : Nat) (x13_1 : Bool), v13 = .bool x13_1 ∧ Aside0 (spec_l2Space.j0 kq x13_1 l0_0 l0_1 = some r) ∧ Aside0 (kq ≤ k) ∧ Aside0 (wc.heap[gb167]? = some (.cells #[(.slice A0_0 l0_0.length c0_0), (.slice A0_1 l0_1.length c0_1)] 28 (0, 0))) ∧ Aside0 (Below w.heap.size w wc))
 case first =>
  have H := HC2.out
  clear HC2
  by_cases c4 : (l0_0.length : Int) > 300
  · rw [if_pos c4] at H
    have c4b0 : decide (300 < (l0_0.length : Int)) = true := decide_eq_true c4
    have c4b1 : decide (300 < l0_0.length) = true := decide_eq_true (by omega)
    clear c4
    (first | rw [c4b0] | (simp only [i64_w, i32_w]; rw [c4b0]) | skip)
    have H' := Aside0.mk H
    clear H
    have hcz5_0 := zy BK167 0
    have hcz5_1 := zy BK167 1
    have hfz5_0 := blk_frozen BK167.out 0
    have hfz5_1 := blk_frozen BK167.out 1
    go_wp2
    repeat (go_quiet (fail); try go_wp2)
    go_meet
    case rel => exact ⟨_, (true), (by first | rfl | (simp; done) | (simp [*]; done)), H', ⟨by first | omega | exact Nat.le_refl _⟩, ⟨zK BK167.out⟩, ⟨zB⟩⟩
  · rw [if_neg c4] at H
    have c4b0 : decide (300 < (l0_0.length : Int)) = false := decide_eq_false c4
    have c4b1 : decide (300 < l0_0.length) = false := decide_eq_false (by omega)
    clear c4
    (first | rw [c4b0] | (simp only [i64_w, i32_w]; rw [c4b0]) | skip)
    have H' := Aside0.mk H
    clear H
    have hcz6_0 := zy BK167 0
    have hcz6_1 := zy BK167 1
    have hfz6_0 := blk_frozen BK167.out 0
    have hfz6_1 := blk_frozen BK167.out 1
    go_wp2
    repeat (go_quiet (fail); try go_wp2)
    go_meet
    case rel => exact ⟨_, (decide ((l0_1.length : Int) > 6000)), (by first | rfl | (simp; done) | (simp [*]; done)), H', ⟨by first | omega | exact Nat.le_refl _⟩, ⟨zK BK167.out⟩, ⟨zB⟩⟩
 case rest =>
  clear HC2
  try clear p2
  try clear c4
  try clear c4b0
  try clear c4b1
  try clear c6
  try clear hcz5_0
  try clear hcz5_1
  try clear hcz6_0
  try clear hcz6_1
  try clear hfz5_0
  try clear hfz5_1
  try clear hfz6_0
  try clear hfz6_1
  obtain ⟨kq, x13_1, rfl, HA, HJ1, BK167, HB⟩ := hcut
  cases kq with
  | zero => exact absurd HA.out (by simp [spec_l2Space.j0])
  | succ kj1 =>
   have H := HA.out
   clear HA
   simp only [spec_l2Space.j0] at H
   by_cases c7 : x13_1 = true
   · subst c7
     rw [if_pos rfl] at H
     obtain rfl := Option.some.inj H
     go_wp2
     repeat (go_quiet (fail); try go_wp2)
     go_ret
     exact ⟨by first | rfl | (simp [errW_none, errW_some] <;> rfl) | (simp [*, errW_none, errW_some] <;> rfl), zB⟩
   · replace c7 := Bool.eq_false_iff.mpr c7
     subst c7
     have H1 : (spec_l2Space.l0 kj1 0 l0_0 l0_1) = some r := by rw [if_neg (show ¬ (false = true) by decide)] at H; exact H
     clear H
     have H := H1
     clear H1
     have H' := Aside0.mk H
     clear H
     go_wp2
     repeat (go_quiet (fail); try go_wp2)
     go_loopg [3] kj1 (fun kq v3 w' => ∃ (x3_2 : Int), v3 = .int .i64 x3_2 ∧ Aside0 (spec_l2Space.l0 kq x3_2 l0_0 l0_1 = some r) ∧ Aside0 (kq ≤ kj1) ∧ Aside0 (w'.heap[gb167]? = some (.cells #[(.slice A0_0 l0_0.length c0_0), (.slice A0_1 l0_1.length c0_1)] 28 (0, 0))) ∧ Aside0 (Below w.heap.size w w'))
     case atStart => exact ⟨(0), (by first | rfl | (simp; done) | (simp [*]; done)), H', ⟨Nat.le_refl _⟩, ⟨zK BK167.out⟩, ⟨zB⟩⟩
     case round =>
      clear H'
      try clear p2
      try clear c4
      try clear c4b0
      try clear c4b1
      try clear c6
      try clear c7
      try clear hcz5_0
      try clear hcz5_1
      try clear hcz6_0
      try clear hcz6_1
      try clear hfz5_0
      try clear hfz5_1
      try clear hfz6_0
      try clear hfz6_1
      try clear p2
      obtain ⟨x3_2, rfl, HA, HK2, BK167, HB⟩ := hrel
      cases gk with
      | zero => exact absurd HA.out (by simp [spec_l2Space.l0])
      | succ k2 =>
       have H := HA.out
       clear HA
       simp only [spec_l2Space.l0] at H
       by_cases c8 : x3_2 < (l0_0.length : Int)
       · rw [if_pos c8] at H
         have c8b0 := decide_eq_true c8
         clear c8
         by_cases c9 : 0 ≤ x3_2
         · rw [if_pos c9] at H
           have c9b0 := decide_eq_true c9
           clear c9
           replace H := Option.bind_eq_some_iff.mp H
           obtain ⟨t170, A100, H⟩ := H
           have A10 := Aside0.mk A100
           clear A100
           by_cases c11 : t170 = true
           · subst c11
             rw [if_pos rfl] at H
             by_cases c12 : x3_2 > 0
             · rw [if_pos c12] at H
               have c12b0 : decide (0 < x3_2) = true := decide_eq_true c12
               clear c12
               obtain ⟨ji13, hji13⟩ : ∃ j_ : Int, (wrap64 (x3_2 - 1)) = j_ := ⟨_, rfl⟩
               replace H : (if 0 ≤ (ji13) then (if (ji13) < (l0_0.length : Int) then ((spec_l2Before.f k2 (rd_L4 l0_0 (ji13)) (rd_L4 l0_0 x3_2)).bind fun t173 => (if t173 = true then (spec_l2Space.l0 k2 (wrap64 (x3_2 + 1)) l0_0 l0_1) else (some false))) else (none)) else (none)) = some r := by first | (rw [hji13] at H; exact H) | (simp only [hji13] at H ⊢; exact H)
               (try rw [hji13] at A10)
               have hji13w : (IntKind.i64.wrap (x3_2 - 1)) = ji13 := (i64_w _).trans hji13
               by_cases c14 : 0 ≤ (ji13)
               · rw [if_pos c14] at H
                 have c14b0 := decide_eq_true c14
                 clear c14
                 by_cases c15 : (ji13) < (l0_0.length : Int)
                 · rw [if_pos c15] at H
                   have c15b0 := decide_eq_true c15
                   clear c15
                   replace H := Option.bind_eq_some_iff.mp H
                   obtain ⟨t173, A160, H⟩ := H
                   have A16 := Aside0.mk A160
                   clear A160
                   by_cases c17 : t173 = true
                   · subst c17
                     rw [if_pos rfl] at H
                     have H' := Aside0.mk H
                     clear H
                     have hcz18_0 := zy BK167 0
                     have hcz18_1 := zy BK167 1
                     have hfz18_0 := blk_frozen BK167.out 0
                     have hfz18_1 := blk_frozen BK167.out 1
                     have p169 : 0 ≤ (x3_2 : Int) := of_decide_eq_true zA
                     have q169 : x3_2 < (l0_0.length : Int) := of_decide_eq_true zA
                     obtain ⟨ad169, A169_0, c169_0, e169, hx169_0, hl169_0, hi169_0⟩ := at_L4 HR0_0.out x3_2 p169 q169
                     cases e169
                     (try replace hx169_0 := (HB.out.cell (World.block_lt_of_cell? w _ hx169_0)).trans hx169_0)
                     have HR169_0 := Aside0.mk hi169_0
                     have HC169_0 := Aside0.mk hl169_0
                     clear hi169_0 hl169_0
                     replace p169 := eq_true p169
                     replace q169 := eq_true q169
                     go_wp2_with (first | (go_at_call 133; (with_reducible refine (spec_l2State.calls k2 _ _ (rd_L4 l0_0 x3_2) true _ ?side1 ?side2 A10.out).mono ?_); (case side1 => exact zC (Kd.C_below HR169_0.out HB.out)); (case side2 => exact HC169_0.out); rintro e w' ⟨rfl, ⟨nd, rfl⟩⟩; (try exact zD); have p171 : 0 ≤ ((ji13) : Int) := of_decide_eq_true zA; have q171 : (ji13) < (l0_0.length : Int) := of_decide_eq_true zA; obtain ⟨ad171, A171_0, c171_0, e171, hx171_0, hl171_0, hi171_0⟩ := at_L4 HR0_0.out (ji13) p171 q171; obtain rfl : ad169 = ad171 := (by injection e171); (try replace hx171_0 := (HB.out.cell (World.block_lt_of_cell? w _ hx171_0)).trans hx171_0); have HR171_0 := Aside0.mk hi171_0; have HC171_0 := Aside0.mk hl171_0; clear hi171_0 hl171_0; replace p171 := eq_true p171; replace q171 := eq_true q171; have p172 : 0 ≤ (x3_2 : Int) := of_decide_eq_true zA; have q172 : x3_2 < (l0_0.length : Int) := of_decide_eq_true zA; obtain ⟨ad172, A172_0, c172_0, e172, hx172_0, hl172_0, hi172_0⟩ := at_L4 HR0_0.out x3_2 p172 q172; obtain rfl : ad169 = ad172 := (by injection e172); (try replace hx172_0 := (HB.out.cell (World.block_lt_of_cell? w _ hx172_0)).trans hx172_0); have HR172_0 := Aside0.mk hi172_0; have HC172_0 := Aside0.mk hl172_0; clear hi172_0 hl172_0; replace p172 := eq_true p172; replace q172 := eq_true q172; have ea_ := Option.some.inj (hx169_0.symm.trans hx172_0); injection ea_ with ea_ en_ ec_; subst ea_; subst ec_; clear en_) | (go_at_call 134; (with_reducible refine (spec_l2Before.calls k2 _ _ (rd_L4 l0_0 (ji13)) _ _ (rd_L4 l0_0 x3_2) true _ ?side1 ?side2 ?side3 ?side4 A16.out).mono ?_); (case side1 => exact zC (Kd.C_below HR171_0.out zB)); (case side2 => exact HC171_0.out); (case side3 => exact zC (Kd.C_below HR172_0.out zB)); (case side4 => exact HC172_0.out); rintro e w' ⟨rfl, ⟨nd, rfl⟩⟩; (try exact zD)))
                     repeat (go_quiet (first | (go_at_call 133; (with_reducible refine (spec_l2State.calls k2 _ _ (rd_L4 l0_0 x3_2) true _ ?side1 ?side2 A10.out).mono ?_); (case side1 => exact zC (Kd.C_below HR169_0.out HB.out)); (case side2 => exact HC169_0.out); rintro e w' ⟨rfl, ⟨nd, rfl⟩⟩; (try exact zD); have p171 : 0 ≤ ((ji13) : Int) := of_decide_eq_true zA; have q171 : (ji13) < (l0_0.length : Int) := of_decide_eq_true zA; obtain ⟨ad171, A171_0, c171_0, e171, hx171_0, hl171_0, hi171_0⟩ := at_L4 HR0_0.out (ji13) p171 q171; obtain rfl : ad169 = ad171 := (by injection e171); (try replace hx171_0 := (HB.out.cell (World.block_lt_of_cell? w _ hx171_0)).trans hx171_0); have HR171_0 := Aside0.mk hi171_0; have HC171_0 := Aside0.mk hl171_0; clear hi171_0 hl171_0; replace p171 := eq_true p171; replace q171 := eq_true q171; have p172 : 0 ≤ (x3_2 : Int) := of_decide_eq_true zA; have q172 : x3_2 < (l0_0.length : Int) := of_decide_eq_true zA; obtain ⟨ad172, A172_0, c172_0, e172, hx172_0, hl172_0, hi172_0⟩ := at_L4 HR0_0.out x3_2 p172 q172; obtain rfl : ad169 = ad172 := (by injection e172); (try replace hx172_0 := (HB.out.cell (World.block_lt_of_cell? w _ hx172_0)).trans hx172_0); have HR172_0 := Aside0.mk hi172_0; have HC172_0 := Aside0.mk hl172_0; clear hi172_0 hl172_0; replace p172 := eq_true p172; replace q172 := eq_true q172; have ea_ := Option.some.inj (hx169_0.symm.trans hx172_0); injection ea_ with ea_ en_ ec_; subst ea_; subst ec_; clear en_) | (go_at_call 134; (with_reducible refine (spec_l2Before.calls k2 _ _ (rd_L4 l0_0 (ji13)) _ _ (rd_L4 l0_0 x3_2) true _ ?side1 ?side2 ?side3 ?side4 A16.out).mono ?_); (case side1 => exact zC (Kd.C_below HR171_0.out zB)); (case side2 => exact HC171_0.out); (case side3 => exact zC (Kd.C_below HR172_0.out zB)); (case side4 => exact HC172_0.out); rintro e w' ⟨rfl, ⟨nd, rfl⟩⟩; (try exact zD))); try go_wp2_with (first | (go_at_call 133; (with_reducible refine (spec_l2State.calls k2 _ _ (rd_L4 l0_0 x3_2) true _ ?side1 ?side2 A10.out).mono ?_); (case side1 => exact zC (Kd.C_below HR169_0.out HB.out)); (case side2 => exact HC169_0.out); rintro e w' ⟨rfl, ⟨nd, rfl⟩⟩; (try exact zD); have p171 : 0 ≤ ((ji13) : Int) := of_decide_eq_true zA; have q171 : (ji13) < (l0_0.length : Int) := of_decide_eq_true zA; obtain ⟨ad171, A171_0, c171_0, e171, hx171_0, hl171_0, hi171_0⟩ := at_L4 HR0_0.out (ji13) p171 q171; obtain rfl : ad169 = ad171 := (by injection e171); (try replace hx171_0 := (HB.out.cell (World.block_lt_of_cell? w _ hx171_0)).trans hx171_0); have HR171_0 := Aside0.mk hi171_0; have HC171_0 := Aside0.mk hl171_0; clear hi171_0 hl171_0; replace p171 := eq_true p171; replace q171 := eq_true q171; have p172 : 0 ≤ (x3_2 : Int) := of_decide_eq_true zA; have q172 : x3_2 < (l0_0.length : Int) := of_decide_eq_true zA; obtain ⟨ad172, A172_0, c172_0, e172, hx172_0, hl172_0, hi172_0⟩ := at_L4 HR0_0.out x3_2 p172 q172; obtain rfl : ad169 = ad172 := (by injection e172); (try replace hx172_0 := (HB.out.cell (World.block_lt_of_cell? w _ hx172_0)).trans hx172_0); have HR172_0 := Aside0.mk hi172_0; have HC172_0 := Aside0.mk hl172_0; clear hi172_0 hl172_0; replace p172 := eq_true p172; replace q172 := eq_true q172; have ea_ := Option.some.inj (hx169_0.symm.trans hx172_0); injection ea_ with ea_ en_ ec_; subst ea_; subst ec_; clear en_) | (go_at_call 134; (with_reducible refine (spec_l2Before.calls k2 _ _ (rd_L4 l0_0 (ji13)) _ _ (rd_L4 l0_0 x3_2) true _ ?side1 ?side2 ?side3 ?side4 A16.out).mono ?_); (case side1 => exact zC (Kd.C_below HR171_0.out zB)); (case side2 => exact HC171_0.out); (case side3 => exact zC (Kd.C_below HR172_0.out zB)); (case side4 => exact HC172_0.out); rintro e w' ⟨rfl, ⟨nd, rfl⟩⟩; (try exact zD))))
                     go_roundg k2
                     case measure => have := HJ1.out; have := HK2.out; omega
                     case rel => exact ⟨(wrap64 (x3_2 + 1)), (by first | rfl | (simp; done) | (simp [*]; done)), H', ⟨by have := HJ1.out; have := HK2.out; omega⟩, ⟨zK BK167.out⟩, ⟨zB⟩⟩
                   · replace c17 := Bool.eq_false_iff.mpr c17
                     subst c17
                     have H1 : (some false) = some r := by rw [if_neg (show ¬ (false = true) by decide)] at H; exact H
                     clear H
                     have H := H1
                     clear H1
                     obtain rfl := Option.some.inj H
                     have hcz19_0 := zy BK167 0
                     have hcz19_1 := zy BK167 1
                     have hfz19_0 := blk_frozen BK167.out 0
                     have hfz19_1 := blk_frozen BK167.out 1
                     have p169 : 0 ≤ (x3_2 : Int) := of_decide_eq_true zA
                     have q169 : x3_2 < (l0_0.length : Int) := of_decide_eq_true zA
                     obtain ⟨ad169, A169_0, c169_0, e169, hx169_0, hl169_0, hi169_0⟩ := at_L4 HR0_0.out x3_2 p169 q169
                     cases e169
                     (try replace hx169_0 := (HB.out.cell (World.block_lt_of_cell? w _ hx169_0)).trans hx169_0)
                     have HR169_0 := Aside0.mk hi169_0
                     have HC169_0 := Aside0.mk hl169_0
                     clear hi169_0 hl169_0
                     replace p169 := eq_true p169
                     replace q169 := eq_true q169
                     go_wp2_with (first | (go_at_call 133; (with_reducible refine (spec_l2State.calls k2 _ _ (rd_L4 l0_0 x3_2) true _ ?side1 ?side2 A10.out).mono ?_); (case side1 => exact zC (Kd.C_below HR169_0.out HB.out)); (case side2 => exact HC169_0.out); rintro e w' ⟨rfl, ⟨nd, rfl⟩⟩; (try exact zD); have p171 : 0 ≤ ((ji13) : Int) := of_decide_eq_true zA; have q171 : (ji13) < (l0_0.length : Int) := of_decide_eq_true zA; obtain ⟨ad171, A171_0, c171_0, e171, hx171_0, hl171_0, hi171_0⟩ := at_L4 HR0_0.out (ji13) p171 q171; obtain rfl : ad169 = ad171 := (by injection e171); (try replace hx171_0 := (HB.out.cell (World.block_lt_of_cell? w _ hx171_0)).trans hx171_0); have HR171_0 := Aside0.mk hi171_0; have HC171_0 := Aside0.mk hl171_0; clear hi171_0 hl171_0; replace p171 := eq_true p171; replace q171 := eq_true q171; have p172 : 0 ≤ (x3_2 : Int) := of_decide_eq_true zA; have q172 : x3_2 < (l0_0.length : Int) := of_decide_eq_true zA; obtain ⟨ad172, A172_0, c172_0, e172, hx172_0, hl172_0, hi172_0⟩ := at_L4 HR0_0.out x3_2 p172 q172; obtain rfl : ad169 = ad172 := (by injection e172); (try replace hx172_0 := (HB.out.cell (World.block_lt_of_cell? w _ hx172_0)).trans hx172_0); have HR172_0 := Aside0.mk hi172_0; have HC172_0 := Aside0.mk hl172_0; clear hi172_0 hl172_0; replace p172 := eq_true p172; replace q172 := eq_true q172; have ea_ := Option.some.inj (hx169_0.symm.trans hx172_0); injection ea_ with ea_ en_ ec_; subst ea_; subst ec_; clear en_) | (go_at_call 134; (with_reducible refine (spec_l2Before.calls k2 _ _ (rd_L4 l0_0 (ji13)) _ _ (rd_L4 l0_0 x3_2) false _ ?side1 ?side2 ?side3 ?side4 A16.out).mono ?_); (case side1 => exact zC (Kd.C_below HR171_0.out zB)); (case side2 => exact HC171_0.out); (case side3 => exact zC (Kd.C_below HR172_0.out zB)); (case side4 => exact HC172_0.out); rintro e w' ⟨rfl, ⟨nd, rfl⟩⟩; (try exact zD)))
                     repeat (go_quiet (first | (go_at_call 133; (with_reducible refine (spec_l2State.calls k2 _ _ (rd_L4 l0_0 x3_2) true _ ?side1 ?side2 A10.out).mono ?_); (case side1 => exact zC (Kd.C_below HR169_0.out HB.out)); (case side2 => exact HC169_0.out); rintro e w' ⟨rfl, ⟨nd, rfl⟩⟩; (try exact zD); have p171 : 0 ≤ ((ji13) : Int) := of_decide_eq_true zA; have q171 : (ji13) < (l0_0.length : Int) := of_decide_eq_true zA; obtain ⟨ad171, A171_0, c171_0, e171, hx171_0, hl171_0, hi171_0⟩ := at_L4 HR0_0.out (ji13) p171 q171; obtain rfl : ad169 = ad171 := (by injection e171); (try replace hx171_0 := (HB.out.cell (World.block_lt_of_cell? w _ hx171_0)).trans hx171_0); have HR171_0 := Aside0.mk hi171_0; have HC171_0 := Aside0.mk hl171_0; clear hi171_0 hl171_0; replace p171 := eq_true p171; replace q171 := eq_true q171; have p172 : 0 ≤ (x3_2 : Int) := of_decide_eq_true zA; have q172 : x3_2 < (l0_0.length : Int) := of_decide_eq_true zA; obtain ⟨ad172, A172_0, c172_0, e172, hx172_0, hl172_0, hi172_0⟩ := at_L4 HR0_0.out x3_2 p172 q172; obtain rfl : ad169 = ad172 := (by injection e172); (try replace hx172_0 := (HB.out.cell (World.block_lt_of_cell? w _ hx172_0)).trans hx172_0); have HR172_0 := Aside0.mk hi172_0; have HC172_0 := Aside0.mk hl172_0; clear hi172_0 hl172_0; replace p172 := eq_true p172; replace q172 := eq_true q172; have ea_ := Option.some.inj (hx169_0.symm.trans hx172_0); injection ea_ with ea_ en_ ec_; subst ea_; subst ec_; clear en_) | (go_at_call 134; (with_reducible refine (spec_l2Before.calls k2 _ _ (rd_L4 l0_0 (ji13)) _ _ (rd_L4 l0_0 x3_2) false _ ?side1 ?side2 ?side3 ?side4 A16.out).mono ?_); (case side1 => exact zC (Kd.C_below HR171_0.out zB)); (case side2 => exact HC171_0.out); (case side3 => exact zC (Kd.C_below HR172_0.out zB)); (case side4 => exact HC172_0.out); rintro e w' ⟨rfl, ⟨nd, rfl⟩⟩; (try exact zD))); try go_wp2_with (first | (go_at_call 133; (with_reducible refine (spec_l2State.calls k2 _ _ (rd_L4 l0_0 x3_2) true _ ?side1 ?side2 A10.out).mono ?_); (case side1 => exact zC (Kd.C_below HR169_0.out HB.out)); (case side2 => exact HC169_0.out); rintro e w' ⟨rfl, ⟨nd, rfl⟩⟩; (try exact zD); have p171 : 0 ≤ ((ji13) : Int) := of_decide_eq_true zA; have q171 : (ji13) < (l0_0.length : Int) := of_decide_eq_true zA; obtain ⟨ad171, A171_0, c171_0, e171, hx171_0, hl171_0, hi171_0⟩ := at_L4 HR0_0.out (ji13) p171 q171; obtain rfl : ad169 = ad171 := (by injection e171); (try replace hx171_0 := (HB.out.cell (World.block_lt_of_cell? w _ hx171_0)).trans hx171_0); have HR171_0 := Aside0.mk hi171_0; have HC171_0 := Aside0.mk hl171_0; clear hi171_0 hl171_0; replace p171 := eq_true p171; replace q171 := eq_true q171; have p172 : 0 ≤ (x3_2 : Int) := of_decide_eq_true zA; have q172 : x3_2 < (l0_0.length : Int) := of_decide_eq_true zA; obtain ⟨ad172, A172_0, c172_0, e172, hx172_0, hl172_0, hi172_0⟩ := at_L4 HR0_0.out x3_2 p172 q172; obtain rfl : ad169 = ad172 := (by injection e172); (try replace hx172_0 := (HB.out.cell (World.block_lt_of_cell? w _ hx172_0)).trans hx172_0); have HR172_0 := Aside0.mk hi172_0; have HC172_0 := Aside0.mk hl172_0; clear hi172_0 hl172_0; replace p172 := eq_true p172; replace q172 := eq_true q172; have ea_ := Option.some.inj (hx169_0.symm.trans hx172_0); injection ea_ with ea_ en_ ec_; subst ea_; subst ec_; clear en_) | (go_at_call 134; (with_reducible refine (spec_l2Before.calls k2 _ _ (rd_L4 l0_0 (ji13)) _ _ (rd_L4 l0_0 x3_2) false _ ?side1 ?side2 ?side3 ?side4 A16.out).mono ?_); (case side1 => exact zC (Kd.C_below HR171_0.out zB)); (case side2 => exact HC171_0.out); (case side3 => exact zC (Kd.C_below HR172_0.out zB)); (case side4 => exact HC172_0.out); rintro e w' ⟨rfl, ⟨nd, rfl⟩⟩; (try exact zD))))
                     go_ret
                     exact ⟨by first | rfl | (simp [errW_none, errW_some] <;> rfl) | (simp only [← hji13]; first | rfl | (simp [errW_none, errW_some] <;> rfl)) | (simp [*, errW_none, errW_some] <;> rfl), zB⟩
                 · rw [if_neg c15] at H
                   exact absurd H (by simp)
               · rw [if_neg c14] at H
                 exact absurd H (by simp)
             · rw [if_neg c12] at H
               have c12b0 : decide (0 < x3_2) = false := decide_eq_false c12
               clear c12
               have H' := Aside0.mk H
               clear H
               have hcz20_0 := zy BK167 0
               have hcz20_1 := zy BK167 1
               have hfz20_0 := blk_frozen BK167.out 0
               have hfz20_1 := blk_frozen BK167.out 1
               have p169 : 0 ≤ (x3_2 : Int) := of_decide_eq_true zA
               have q169 : x3_2 < (l0_0.length : Int) := of_decide_eq_true zA
               obtain ⟨ad169, A169_0, c169_0, e169, hx169_0, hl169_0, hi169_0⟩ := at_L4 HR0_0.out x3_2 p169 q169
               cases e169
               (try replace hx169_0 := (HB.out.cell (World.block_lt_of_cell? w _ hx169_0)).trans hx169_0)
               have HR169_0 := Aside0.mk hi169_0
               have HC169_0 := Aside0.mk hl169_0
               clear hi169_0 hl169_0
               replace p169 := eq_true p169
               replace q169 := eq_true q169
               go_wp2_with (first | (go_at_call 133; (with_reducible refine (spec_l2State.calls k2 _ _ (rd_L4 l0_0 x3_2) true _ ?side1 ?side2 A10.out).mono ?_); (case side1 => exact zC (Kd.C_below HR169_0.out HB.out)); (case side2 => exact HC169_0.out); rintro e w' ⟨rfl, ⟨nd, rfl⟩⟩; (try exact zD)))
               repeat (go_quiet (first | (go_at_call 133; (with_reducible refine (spec_l2State.calls k2 _ _ (rd_L4 l0_0 x3_2) true _ ?side1 ?side2 A10.out).mono ?_); (case side1 => exact zC (Kd.C_below HR169_0.out HB.out)); (case side2 => exact HC169_0.out); rintro e w' ⟨rfl, ⟨nd, rfl⟩⟩; (try exact zD))); try go_wp2_with (first | (go_at_call 133; (with_reducible refine (spec_l2State.calls k2 _ _ (rd_L4 l0_0 x3_2) true _ ?side1 ?side2 A10.out).mono ?_); (case side1 => exact zC (Kd.C_below HR169_0.out HB.out)); (case side2 => exact HC169_0.out); rintro e w' ⟨rfl, ⟨nd, rfl⟩⟩; (try exact zD))))
               go_roundg k2
               case measure => have := HJ1.out; have := HK2.out; omega
               case rel => exact ⟨(wrap64 (x3_2 + 1)), (by first | rfl | (simp; done) | (simp [*]; done)), H', ⟨by have := HJ1.out; have := HK2.out; omega⟩, ⟨zK BK167.out⟩, ⟨zB⟩⟩
           · replace c11 := Bool.eq_false_iff.mpr c11
             subst c11
             have H1 : (some false) = some r := by rw [if_neg (show ¬ (false = true) by decide)] at H; exact H
             clear H
             have H := H1
             clear H1
             obtain rfl := Option.some.inj H
             have hcz21_0 := zy BK167 0
             have hcz21_1 := zy BK167 1
             have hfz21_0 := blk_frozen BK167.out 0
             have hfz21_1 := blk_frozen BK167.out 1
             have p169 : 0 ≤ (x3_2 : Int) := of_decide_eq_true zA
             have q169 : x3_2 < (l0_0.length : Int) := of_decide_eq_true zA
             obtain ⟨ad169, A169_0, c169_0, e169, hx169_0, hl169_0, hi169_0⟩ := at_L4 HR0_0.out x3_2 p169 q169
             cases e169
             (try replace hx169_0 := (HB.out.cell (World.block_lt_of_cell? w _ hx169_0)).trans hx169_0)
             have HR169_0 := Aside0.mk hi169_0
             have HC169_0 := Aside0.mk hl169_0
             clear hi169_0 hl169_0
             replace p169 := eq_true p169
             replace q169 := eq_true q169
             go_wp2_with (first | (go_at_call 133; (with_reducible refine (spec_l2State.calls k2 _ _ (rd_L4 l0_0 x3_2) false _ ?side1 ?side2 A10.out).mono ?_); (case side1 => exact zC (Kd.C_below HR169_0.out HB.out)); (case side2 => exact HC169_0.out); rintro e w' ⟨rfl, ⟨nd, rfl⟩⟩; (try exact zD)))
             repeat (go_quiet (first | (go_at_call 133; (with_reducible refine (spec_l2State.calls k2 _ _ (rd_L4 l0_0 x3_2) false _ ?side1 ?side2 A10.out).mono ?_); (case side1 => exact zC (Kd.C_below HR169_0.out HB.out)); (case side2 => exact HC169_0.out); rintro e w' ⟨rfl, ⟨nd, rfl⟩⟩; (try exact zD))); try go_wp2_with (first | (go_at_call 133; (with_reducible refine (spec_l2State.calls k2 _ _ (rd_L4 l0_0 x3_2) false _ ?side1 ?side2 A10.out).mono ?_); (case side1 => exact zC (Kd.C_below HR169_0.out HB.out)); (case side2 => exact HC169_0.out); rintro e w' ⟨rfl, ⟨nd, rfl⟩⟩; (try exact zD))))
             go_ret
             exact ⟨by first | rfl | (simp [errW_none, errW_some] <;> rfl) | (simp [*, errW_none, errW_some] <;> rfl), zB⟩
         · rw [if_neg c9] at H
           exact absurd H (by simp)
       · rw [if_neg c8] at H
         have c8b0 : decide (x3_2 < (l0_0.length : Int)) = false := decide_eq_false c8
         clear c8
         replace H := Option.bind_eq_some_iff.mp H
         obtain ⟨t168, A220, H⟩ := H
         have A22 := Aside0.mk A220
         clear A220
         obtain rfl := Option.some.inj H
         have hcz23_0 := zy BK167 0
         have hcz23_1 := zy BK167 1
         have hfz23_0 := blk_frozen BK167.out 0
         have hfz23_1 := blk_frozen BK167.out 1
         go_wp2_with (first | (go_at_call 135; (with_reducible refine (spec_l2Pairs.calls k2 _ _ l0_1 (l0_0.length : Int) t168 _ ?side1 ?side2 A22.out).mono ?_); (case side1 => exact zC (Kd.C_below HR0_1.out HB.out)); (case side2 => exact HC0_1.out); rintro e w24 ⟨rfl, hb⟩; replace BK167 := zM (blk_below (g := gb167) (o := .cells #[.slice A0_0 l0_0.length c0_0, .slice A0_1 l0_1.length c0_1] 28 (0, 0)) (zK BK167.out) hb); replace HB := zM (below_step zB hb); (try clear hb); (try clear hb2); (try clear hk); (try clear hi)))
         repeat (go_quiet (first | (go_at_call 135; (with_reducible refine (spec_l2Pairs.calls k2 _ _ l0_1 (l0_0.length : Int) t168 _ ?side1 ?side2 A22.out).mono ?_); (case side1 => exact zC (Kd.C_below HR0_1.out HB.out)); (case side2 => exact HC0_1.out); rintro e w24 ⟨rfl, hb⟩; replace BK167 := zM (blk_below (g := gb167) (o := .cells #[.slice A0_0 l0_0.length c0_0, .slice A0_1 l0_1.length c0_1] 28 (0, 0)) (zK BK167.out) hb); replace HB := zM (below_step zB hb); (try clear hb); (try clear hb2); (try clear hk); (try clear hi))); try go_wp2_with (first | (go_at_call 135; (with_reducible refine (spec_l2Pairs.calls k2 _ _ l0_1 (l0_0.length : Int) t168 _ ?side1 ?side2 A22.out).mono ?_); (case side1 => exact zC (Kd.C_below HR0_1.out HB.out)); (case side2 => exact HC0_1.out); rintro e w24 ⟨rfl, hb⟩; replace BK167 := zM (blk_below (g := gb167) (o := .cells #[.slice A0_0 l0_0.length c0_0, .slice A0_1 l0_1.length c0_1] 28 (0, 0)) (zK BK167.out) hb); replace HB := zM (below_step zB hb); (try clear hb); (try clear hb2); (try clear hk); (try clear hi))))
         go_ret
         exact ⟨by first | rfl | (simp [errW_none, errW_some] <;> rfl) | (simp [*, errW_none, errW_some] <;> rfl), zB⟩

end Go.Proofs.Ythnojbafclglpaa.P
