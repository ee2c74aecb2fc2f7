-- Written by a program of this session (the kit's print, turned: wip/print/patch.py) out of the translation. Not trusted: Lean checks it.
import Derived.Test.YtmhoemdclnlgaaaFirstWayG5
import Derived.Test.YtmhoemdclnlgaaaFirstWayG7
namespace Go.Proofs.Ytmhoemdclnlgaaa.P
open Go.RowKit Go.Proofs.YtmhoemdclnlgaaaW.PrintWords Go.Proofs.YtmhoemdclnlgaaaW.PrintLast Go.Proofs.YtmhoemdclnlgaaaW.PrintMore
attribute [local go_sem] max2_int min2_int max_two min_two max_three min_three max_four min_four   -- for this text's walks alone
set_option linter.unusedVariables false
set_option linter.unusedSimpArgs false

/-! ### spec_l2Space: function 70 -/
mutual
def spec_l2Space.j0 : Nat → Bool → List (List Int) → List (S79) → Option (Bool)
 | 0, _, _, _ => none
 | k + 1, x13, x121000, x121001 => if x13 = true then (some false) else (spec_l2Space.l0 k 0 x121000 x121001)
def spec_l2Space.l0 : Nat → Int → List (List Int) → List (S79) → Option (Bool)
 | 0, _, _, _ => none
 | k + 1, x3, x121000, x121001 => if x3 < (x121000.length : Int) then (if 0 ≤ x3 then ((spec_l2State.f k (rd_L1 x121000 x3)).bind fun t123 => (if t123 = true then (if x3 > 0 then (if 0 ≤ (wrap64 (x3 - 1)) then (if (wrap64 (x3 - 1)) < (x121000.length : Int) then ((spec_l2Before.f k (rd_L1 x121000 (wrap64 (x3 - 1))) (rd_L1 x121000 x3)).bind fun t126 => (if t126 = true then (spec_l2Space.l0 k (wrap64 (x3 + 1)) x121000 x121001) else (some false))) else (none)) else (none)) else (spec_l2Space.l0 k (wrap64 (x3 + 1)) x121000 x121001)) else (some false))) else (none)) else ((spec_l2Pairs.f k x121001 (x121000.length : Int)).bind fun t121 => (some t121))
end
def spec_l2Space.f (k : Nat) (l0_0 : List (List Int)) (l0_1 : List (S79)) : Option (Bool) := if (l0_0.length : Int) > 300 then (spec_l2Space.j0 k true l0_0 l0_1) else (spec_l2Space.j0 k (decide ((l0_1.length : Int) > 6000)) l0_0 l0_1)
set_option maxHeartbeats 8000000 in
set_option maxRecDepth 100000 in
theorem spec_l2Space.calls (k : Nat) (A0_0 : Option Addr) (c0_0 : Nat) (l0_0 : List (List Int)) (A0_1 : Option Addr) (c0_1 : Nat) (l0_1 : List (S79)) (r : Bool) (w : World) (hr0_0 : Kd.C (Kd.slice 3 (Kd.int .i64)) w A0_0 l0_0.length l0_0) (hc0_0 : l0_0.length ≤ c0_0) (hr0_1 : Kd.C k79 w A0_1 l0_1.length l0_1) (hc0_1 : l0_1.length ≤ c0_1) (h : spec_l2Space.f k l0_0 l0_1 = some r) :
 Calls Try.prog 70 #[.agg #[.slice A0_0 l0_0.length c0_0, .slice A0_1 l0_1.length c0_1]] w fun e w' => e = .returned (.bool r) ∧ Below w.heap.size w w' := by
 have hu30 := Try.underlying30
 have HR0_0 := Aside0.mk hr0_0
 have HC0_0 := Aside0.mk hc0_0
 clear hr0_0 hc0_0
 have HR0_1 := Aside0.mk hr0_1
 have HC0_1 := Aside0.mk hc0_1
 clear hr0_1 hc0_1
 have HB := zM (Below.refl w.heap.size w)
 have H : (if (l0_0.length : Int) > 300 then (spec_l2Space.j0 k true l0_0 l0_1) else (spec_l2Space.j0 k (decide ((l0_1.length : Int) > 6000)) l0_0 l0_1)) = some r := h
 clear h
 have HC2 := Aside0.mk H
 clear H
 go_enter Try.func70, Try.ntmps70
 go_upto_region 1 with (first | ((with_reducible refine gate_dst (N := 1) rfl ?_); (try (refine gate_guard (by rfl) ?_; dsimp only)); refine zb (w := w) 1 #[.slice A0_0 l0_0.length c0_0, .slice A0_1 l0_1.length c0_1] 30 zB ?_; clear HB; intro gb120 w3 HB BK120 GW120; have GE120 := GW120))
 repeat (go_quiet (first | ((with_reducible refine gate_dst (N := 1) rfl ?_); (try (refine gate_guard (by rfl) ?_; dsimp only)); refine zb (w := w) 1 #[.slice A0_0 l0_0.length c0_0, .slice A0_1 l0_1.length c0_1] 30 zB ?_; clear HB; intro gb120 w3 HB BK120 GW120; have GE120 := GW120)); go_upto_region 1 with (first | ((with_reducible refine gate_dst (N := 1) rfl ?_); (try (refine gate_guard (by rfl) ?_; dsimp only)); refine zb (w := w) 1 #[.slice A0_0 l0_0.length c0_0, .slice A0_1 l0_1.length c0_1] 30 zB ?_; clear HB; intro gb120 w3 HB BK120 GW120; have GE120 := GW120)))
 (try simp only [Act.put, List.setIfInBounds_toArray, List.set_cons_zero, List.set_cons_succ])
 go_cut [13] (fun v13 wc => ∃ (kq : Nat) (x13_1 : Bool), v13 = .bool x13_1 ∧ Aside0 (spec_l2Space.j0 kq x13_1 l0_0 l0_1 = some r) ∧ Aside0 (kq ≤ k) ∧ Aside0 (wc.heap[gb120]? = some (.cells #[(.slice A0_0 l0_0.length c0_0), (.slice A0_1 l0_1.length c0_1)] 30 (0, 0))) ∧ Aside0 (Below w.heap.size w wc))
 case first =>
  have H := HC2.out
  clear HC2
  by_cases c4 : (l0_0.length : Int) > 300
  · rw [if_pos c4] at H
    have c4b0 : decide (300 < (l0_0.length : Int)) = true := decide_eq_true c4
    have c4b1 : decide (300 < l0_0.length) = true := decide_eq_true (by omega)
    clear c4
    (first | rw [c4b0] | (simp only [i64_w, i32_w]; rw [c4b0]) | skip)
    have H' := Aside0.mk H
    clear H
    have hcz5_0 := zy BK120 0
    have hcz5_1 := zy BK120 1
    have hfz5_0 := blk_frozen BK120.out 0
    have hfz5_1 := blk_frozen BK120.out 1
    go_wp2
    repeat (go_quiet (fail); try go_wp2)
    go_meet
    case rel => exact ⟨_, (true), (by first | rfl | (simp; done) | (simp [*]; done)), H', ⟨by first | omega | exact Nat.le_refl _⟩, ⟨zK BK120.out⟩, ⟨zB⟩⟩
  · rw [if_neg c4] at H
    have c4b0 : decide (300 < (l0_0.length : Int)) = false := decide_eq_false c4
    have c4b1 : decide (300 < l0_0.length) = false := decide_eq_false (by omega)
    clear c4
    (first | rw [c4b0] | (simp only [i64_w, i32_w]; rw [c4b0]) | skip)
    have H' := Aside0.mk H
    clear H
    have hcz6_0 := zy BK120 0
    have hcz6_1 := zy BK120 1
    have hfz6_0 := blk_frozen BK120.out 0
    have hfz6_1 := blk_frozen BK120.out 1
    go_wp2
    repeat (go_quiet (fail); try go_wp2)
    go_meet
    case rel => exact ⟨_, (decide ((l0_1.length : Int) > 6000)), (by first | rfl | (simp; done) | (simp [*]; done)), H', ⟨by first | omega | exact Nat.le_refl _⟩, ⟨zK BK120.out⟩, ⟨zB⟩⟩
 case rest =>
  clear HC2
  try clear p2
  try clear c4
  try clear c4b0
  try clear c4b1
  try clear hcz5_0
  try clear hcz5_1
  try clear hcz6_0
  try clear hcz6_1
  try clear hfz5_0
  try clear hfz5_1
  try clear hfz6_0
  try clear hfz6_1
  obtain ⟨kq, x13_1, rfl, HA, HJ1, BK120, HB⟩ := hcut
  cases kq with
  | zero => exact absurd HA.out (by simp [spec_l2Space.j0])
  | succ kj1 =>
   have H := HA.out
   clear HA
   simp only [spec_l2Space.j0] at H
   by_cases c7 : x13_1 = true
   · subst c7
     rw [if_pos rfl] at H
     obtain rfl := Option.some.inj H
     go_wp2
     repeat (go_quiet (fail); try go_wp2)
     go_ret
     exact ⟨by first | rfl | (simp [errW_none, errW_some] <;> rfl) | (simp [*, errW_none, errW_some] <;> rfl), zB⟩
   · replace c7 := Bool.eq_false_iff.mpr c7
     subst c7
     have H1 : (spec_l2Space.l0 kj1 0 l0_0 l0_1) = some r := by rw [if_neg (show ¬ (false = true) by decide)] at H; exact H
     clear H
     have H := H1
     clear H1
     have H' := Aside0.mk H
     clear H
     go_wp2
     repeat (go_quiet (fail); try go_wp2)
     go_loopg [3] kj1 (fun kq v3 w' => ∃ (x3_2 : Int), v3 = .int .i64 x3_2 ∧ Aside0 (spec_l2Space.l0 kq x3_2 l0_0 l0_1 = some r) ∧ Aside0 (kq ≤ kj1) ∧ Aside0 (w'.heap[gb120]? = some (.cells #[(.slice A0_0 l0_0.length c0_0), (.slice A0_1 l0_1.length c0_1)] 30 (0, 0))) ∧ Aside0 (Below w.heap.size w w'))
     case atStart => exact ⟨(0), (by first | rfl | (simp; done) | (simp [*]; done)), H', ⟨Nat.le_refl _⟩, ⟨zK BK120.out⟩, ⟨zB⟩⟩
     case round =>
      clear H'
      try clear p2
      try clear c4
      try clear c4b0
      try clear c4b1
      try clear c7
      try clear hcz5_0
      try clear hcz5_1
      try clear hcz6_0
      try clear hcz6_1
      try clear hfz5_0
      try clear hfz5_1
      try clear hfz6_0
      try clear hfz6_1
      try clear p2
      obtain ⟨x3_2, rfl, HA, HK2, BK120, HB⟩ := hrel
      cases gk with
      | zero => exact absurd HA.out (by simp [spec_l2Space.l0])
      | succ k2 =>
       have H := HA.out
       clear HA
       simp only [spec_l2Space.l0] at H
       by_cases c8 : x3_2 < (l0_0.length : Int)
       · rw [if_pos c8] at H
         have c8b0 := decide_eq_true c8
         clear c8
         by_cases c9 : 0 ≤ x3_2
         · rw [if_pos c9] at H
           have c9b0 := decide_eq_true c9
           clear c9
           replace H := Option.bind_eq_some_iff.mp H
           obtain ⟨t123, A100, H⟩ := H
           have A10 := Aside0.mk A100
           clear A100
           by_cases c11 : t123 = true
           · subst c11
             rw [if_pos rfl] at H
             by_cases c12 : x3_2 > 0
             · rw [if_pos c12] at H
               have c12b0 : decide (0 < x3_2) = true := decide_eq_true c12
               clear c12
               obtain ⟨ji13, hji13⟩ : ∃ j_ : Int, (wrap64 (x3_2 - 1)) = j_ := ⟨_, rfl⟩
               replace H : (if 0 ≤ (ji13) then (if (ji13) < (l0_0.length : Int) then ((spec_l2Before.f k2 (rd_L1 l0_0 (ji13)) (rd_L1 l0_0 x3_2)).bind fun t126 => (if t126 = true then (spec_l2Space.l0 k2 (wrap64 (x3_2 + 1)) l0_0 l0_1) else (some false))) else (none)) else (none)) = some r := by first | (rw [hji13] at H; exact H) | (simp only [hji13] at H ⊢; exact H)
               (try rw [hji13] at A10)
               have hji13w : (IntKind.i64.wrap (x3_2 - 1)) = ji13 := (i64_w _).trans hji13
               by_cases c14 : 0 ≤ (ji13)
               · rw [if_pos c14] at H
                 have c14b0 := decide_eq_true c14
                 clear c14
                 by_cases c15 : (ji13) < (l0_0.length : Int)
                 · rw [if_pos c15] at H
                   have c15b0 := decide_eq_true c15
                   clear c15
                   replace H := Option.bind_eq_some_iff.mp H
                   obtain ⟨t126, A160, H⟩ := H
                   have A16 := Aside0.mk A160
                   clear A160
                   by_cases c17 : t126 = true
                   · subst c17
                     rw [if_pos rfl] at H
                     have H' := Aside0.mk H
                     clear H
                     have hcz18_0 := zy BK120 0
                     have hcz18_1 := zy BK120 1
                     have hfz18_0 := blk_frozen BK120.out 0
                     have hfz18_1 := blk_frozen BK120.out 1
                     have p122 : 0 ≤ (x3_2 : Int) := of_decide_eq_true zA
                     have q122 : x3_2 < (l0_0.length : Int) := of_decide_eq_true zA
                     obtain ⟨ad122, A122_0, c122_0, e122, hx122_0, hl122_0, hi122_0⟩ := at_L1 HR0_0.out x3_2 p122 q122
                     cases e122
                     (try replace hx122_0 := (HB.out.cell (World.block_lt_of_cell? w _ hx122_0)).trans hx122_0)
                     have HR122_0 := Aside0.mk hi122_0
                     have HC122_0 := Aside0.mk hl122_0
                     clear hi122_0 hl122_0
                     replace p122 := eq_true p122
                     replace q122 := eq_true q122
                     go_wp2_with (first | (go_at_call 130; (with_reducible refine (spec_l2State.calls k2 _ _ (rd_L1 l0_0 x3_2) true _ ?side1 ?side2 A10.out).mono ?_); (case side1 => exact zC (Kd.C_below HR122_0.out HB.out)); (case side2 => exact HC122_0.out); rintro e w' ⟨rfl, ⟨nd, rfl⟩⟩; (try exact zD); have p124 : 0 ≤ ((ji13) : Int) := of_decide_eq_true zA; have q124 : (ji13) < (l0_0.length : Int) := of_decide_eq_true zA; obtain ⟨ad124, A124_0, c124_0, e124, hx124_0, hl124_0, hi124_0⟩ := at_L1 HR0_0.out (ji13) p124 q124; obtain rfl : ad122 = ad124 := (by injection e124); (try replace hx124_0 := (HB.out.cell (World.block_lt_of_cell? w _ hx124_0)).trans hx124_0); have HR124_0 := Aside0.mk hi124_0; have HC124_0 := Aside0.mk hl124_0; clear hi124_0 hl124_0; replace p124 := eq_true p124; replace q124 := eq_true q124; have p125 : 0 ≤ (x3_2 : Int) := of_decide_eq_true zA; have q125 : x3_2 < (l0_0.length : Int) := of_decide_eq_true zA; obtain ⟨ad125, A125_0, c125_0, e125, hx125_0, hl125_0, hi125_0⟩ := at_L1 HR0_0.out x3_2 p125 q125; obtain rfl : ad122 = ad125 := (by injection e125); (try replace hx125_0 := (HB.out.cell (World.block_lt_of_cell? w _ hx125_0)).trans hx125_0); have HR125_0 := Aside0.mk hi125_0; have HC125_0 := Aside0.mk hl125_0; clear hi125_0 hl125_0; replace p125 := eq_true p125; replace q125 := eq_true q125; have ea_ := Option.some.inj (hx122_0.symm.trans hx125_0); injection ea_ with ea_ en_ ec_; subst ea_; subst ec_; clear en_) | (go_at_call 131; (with_reducible refine (spec_l2Before.calls k2 _ _ (rd_L1 l0_0 (ji13)) _ _ (rd_L1 l0_0 x3_2) true _ ?side1 ?side2 ?side3 ?side4 A16.out).mono ?_); (case side1 => exact zC (Kd.C_below HR124_0.out zB)); (case side2 => exact HC124_0.out); (case side3 => exact zC (Kd.C_below HR125_0.out zB)); (case side4 => exact HC125_0.out); rintro e w' ⟨rfl, ⟨nd, rfl⟩⟩; (try exact zD)))
                     repeat (go_quiet (first | (go_at_call 130; (with_reducible refine (spec_l2State.calls k2 _ _ (rd_L1 l0_0 x3_2) true _ ?side1 ?side2 A10.out).mono ?_); (case side1 => exact zC (Kd.C_below HR122_0.out HB.out)); (case side2 => exact HC122_0.out); rintro e w' ⟨rfl, ⟨nd, rfl⟩⟩; (try exact zD); have p124 : 0 ≤ ((ji13) : Int) := of_decide_eq_true zA; have q124 : (ji13) < (l0_0.length : Int) := of_decide_eq_true zA; obtain ⟨ad124, A124_0, c124_0, e124, hx124_0, hl124_0, hi124_0⟩ := at_L1 HR0_0.out (ji13) p124 q124; obtain rfl : ad122 = ad124 := (by injection e124); (try replace hx124_0 := (HB.out.cell (World.block_lt_of_cell? w _ hx124_0)).trans hx124_0); have HR124_0 := Aside0.mk hi124_0; have HC124_0 := Aside0.mk hl124_0; clear hi124_0 hl124_0; replace p124 := eq_true p124; replace q124 := eq_true q124; have p125 : 0 ≤ (x3_2 : Int) := of_decide_eq_true zA; have q125 : x3_2 < (l0_0.length : Int) := of_decide_eq_true zA; obtain ⟨ad125, A125_0, c125_0, e125, hx125_0, hl125_0, hi125_0⟩ := at_L1 HR0_0.out x3_2 p125 q125; obtain rfl : ad122 = ad125 := (by injection e125); (try replace hx125_0 := (HB.out.cell (World.block_lt_of_cell? w _ hx125_0)).trans hx125_0); have HR125_0 := Aside0.mk hi125_0; have HC125_0 := Aside0.mk hl125_0; clear hi125_0 hl125_0; replace p125 := eq_true p125; replace q125 := eq_true q125; have ea_ := Option.some.inj (hx122_0.symm.trans hx125_0); injection ea_ with ea_ en_ ec_; subst ea_; subst ec_; clear en_) | (go_at_call 131; (with_reducible refine (spec_l2Before.calls k2 _ _ (rd_L1 l0_0 (ji13)) _ _ (rd_L1 l0_0 x3_2) true _ ?side1 ?side2 ?side3 ?side4 A16.out).mono ?_); (case side1 => exact zC (Kd.C_below HR124_0.out zB)); (case side2 => exact HC124_0.out); (case side3 => exact zC (Kd.C_below HR125_0.out zB)); (case side4 => exact HC125_0.out); rintro e w' ⟨rfl, ⟨nd, rfl⟩⟩; (try exact zD))); try go_wp2_with (first | (go_at_call 130; (with_reducible refine (spec_l2State.calls k2 _ _ (rd_L1 l0_0 x3_2) true _ ?side1 ?side2 A10.out).mono ?_); (case side1 => exact zC (Kd.C_below HR122_0.out HB.out)); (case side2 => exact HC122_0.out); rintro e w' ⟨rfl, ⟨nd, rfl⟩⟩; (try exact zD); have p124 : 0 ≤ ((ji13) : Int) := of_decide_eq_true zA; have q124 : (ji13) < (l0_0.length : Int) := of_decide_eq_true zA; obtain ⟨ad124, A124_0, c124_0, e124, hx124_0, hl124_0, hi124_0⟩ := at_L1 HR0_0.out (ji13) p124 q124; obtain rfl : ad122 = ad124 := (by injection e124); (try replace hx124_0 := (HB.out.cell (World.block_lt_of_cell? w _ hx124_0)).trans hx124_0); have HR124_0 := Aside0.mk hi124_0; have HC124_0 := Aside0.mk hl124_0; clear hi124_0 hl124_0; replace p124 := eq_true p124; replace q124 := eq_true q124; have p125 : 0 ≤ (x3_2 : Int) := of_decide_eq_true zA; have q125 : x3_2 < (l0_0.length : Int) := of_decide_eq_true zA; obtain ⟨ad125, A125_0, c125_0, e125, hx125_0, hl125_0, hi125_0⟩ := at_L1 HR0_0.out x3_2 p125 q125; obtain rfl : ad122 = ad125 := (by injection e125); (try replace hx125_0 := (HB.out.cell (World.block_lt_of_cell? w _ hx125_0)).trans hx125_0); have HR125_0 := Aside0.mk hi125_0; have HC125_0 := Aside0.mk hl125_0; clear hi125_0 hl125_0; replace p125 := eq_true p125; replace q125 := eq_true q125; have ea_ := Option.some.inj (hx122_0.symm.trans hx125_0); injection ea_ with ea_ en_ ec_; subst ea_; subst ec_; clear en_) | (go_at_call 131; (with_reducible refine (spec_l2Before.calls k2 _ _ (rd_L1 l0_0 (ji13)) _ _ (rd_L1 l0_0 x3_2) true _ ?side1 ?side2 ?side3 ?side4 A16.out).mono ?_); (case side1 => exact zC (Kd.C_below HR124_0.out zB)); (case side2 => exact HC124_0.out); (case side3 => exact zC (Kd.C_below HR125_0.out zB)); (case side4 => exact HC125_0.out); rintro e w' ⟨rfl, ⟨nd, rfl⟩⟩; (try exact zD))))
                     go_roundg k2
                     case measure => have := HJ1.out; have := HK2.out; omega
                     case rel => exact ⟨(wrap64 (x3_2 + 1)), (by first | rfl | (simp; done) | (simp [*]; done)), H', ⟨by have := HJ1.out; have := HK2.out; omega⟩, ⟨zK BK120.out⟩, ⟨zB⟩⟩
                   · replace c17 := Bool.eq_false_iff.mpr c17
                     subst c17
                     have H1 : (some false) = some r := by rw [if_neg (show ¬ (false = true) by decide)] at H; exact H
                     clear H
                     have H := H1
                     clear H1
                     obtain rfl := Option.some.inj H
                     have hcz19_0 := zy BK120 0
                     have hcz19_1 := zy BK120 1
                     have hfz19_0 := blk_frozen BK120.out 0
                     have hfz19_1 := blk_frozen BK120.out 1
                     have p122 : 0 ≤ (x3_2 : Int) := of_decide_eq_true zA
                     have q122 : x3_2 < (l0_0.length : Int) := of_decide_eq_true zA
                     obtain ⟨ad122, A122_0, c122_0, e122, hx122_0, hl122_0, hi122_0⟩ := at_L1 HR0_0.out x3_2 p122 q122
                     cases e122
                     (try replace hx122_0 := (HB.out.cell (World.block_lt_of_cell? w _ hx122_0)).trans hx122_0)
                     have HR122_0 := Aside0.mk hi122_0
                     have HC122_0 := Aside0.mk hl122_0
                     clear hi122_0 hl122_0
                     replace p122 := eq_true p122
                     replace q122 := eq_true q122
                     go_wp2_with (first | (go_at_call 130; (with_reducible refine (spec_l2State.calls k2 _ _ (rd_L1 l0_0 x3_2) true _ ?side1 ?side2 A10.out).mono ?_); (case side1 => exact zC (Kd.C_below HR122_0.out HB.out)); (case side2 => exact HC122_0.out); rintro e w' ⟨rfl, ⟨nd, rfl⟩⟩; (try exact zD); have p124 : 0 ≤ ((ji13) : Int) := of_decide_eq_true zA; have q124 : (ji13) < (l0_0.length : Int) := of_decide_eq_true zA; obtain ⟨ad124, A124_0, c124_0, e124, hx124_0, hl124_0, hi124_0⟩ := at_L1 HR0_0.out (ji13) p124 q124; obtain rfl : ad122 = ad124 := (by injection e124); (try replace hx124_0 := (HB.out.cell (World.block_lt_of_cell? w _ hx124_0)).trans hx124_0); have HR124_0 := Aside0.mk hi124_0; have HC124_0 := Aside0.mk hl124_0; clear hi124_0 hl124_0; replace p124 := eq_true p124; replace q124 := eq_true q124; have p125 : 0 ≤ (x3_2 : Int) := of_decide_eq_true zA; have q125 : x3_2 < (l0_0.length : Int) := of_decide_eq_true zA; obtain ⟨ad125, A125_0, c125_0, e125, hx125_0, hl125_0, hi125_0⟩ := at_L1 HR0_0.out x3_2 p125 q125; obtain rfl : ad122 = ad125 := (by injection e125); (try replace hx125_0 := (HB.out.cell (World.block_lt_of_cell? w _ hx125_0)).trans hx125_0); have HR125_0 := Aside0.mk hi125_0; have HC125_0 := Aside0.mk hl125_0; clear hi125_0 hl125_0; replace p125 := eq_true p125; replace q125 := eq_true q125; have ea_ := Option.some.inj (hx122_0.symm.trans hx125_0); injection ea_ with ea_ en_ ec_; subst ea_; subst ec_; clear en_) | (go_at_call 131; (with_reducible refine (spec_l2Before.calls k2 _ _ (rd_L1 l0_0 (ji13)) _ _ (rd_L1 l0_0 x3_2) false _ ?side1 ?side2 ?side3 ?side4 A16.out).mono ?_); (case side1 => exact zC (Kd.C_below HR124_0.out zB)); (case side2 => exact HC124_0.out); (case side3 => exact zC (Kd.C_below HR125_0.out zB)); (case side4 => exact HC125_0.out); rintro e w' ⟨rfl, ⟨nd, rfl⟩⟩; (try exact zD)))
                     repeat (go_quiet (first | (go_at_call 130; (with_reducible refine (spec_l2State.calls k2 _ _ (rd_L1 l0_0 x3_2) true _ ?side1 ?side2 A10.out).mono ?_); (case side1 => exact zC (Kd.C_below HR122_0.out HB.out)); (case side2 => exact HC122_0.out); rintro e w' ⟨rfl, ⟨nd, rfl⟩⟩; (try exact zD); have p124 : 0 ≤ ((ji13) : Int) := of_decide_eq_true zA; have q124 : (ji13) < (l0_0.length : Int) := of_decide_eq_true zA; obtain ⟨ad124, A124_0, c124_0, e124, hx124_0, hl124_0, hi124_0⟩ := at_L1 HR0_0.out (ji13) p124 q124; obtain rfl : ad122 = ad124 := (by injection e124); (try replace hx124_0 := (HB.out.cell (World.block_lt_of_cell? w _ hx124_0)).trans hx124_0); have HR124_0 := Aside0.mk hi124_0; have HC124_0 := Aside0.mk hl124_0; clear hi124_0 hl124_0; replace p124 := eq_true p124; replace q124 := eq_true q124; have p125 : 0 ≤ (x3_2 : Int) := of_decide_eq_true zA; have q125 : x3_2 < (l0_0.length : Int) := of_decide_eq_true zA; obtain ⟨ad125, A125_0, c125_0, e125, hx125_0, hl125_0, hi125_0⟩ := at_L1 HR0_0.out x3_2 p125 q125; obtain rfl : ad122 = ad125 := (by injection e125); (try replace hx125_0 := (HB.out.cell (World.block_lt_of_cell? w _ hx125_0)).trans hx125_0); have HR125_0 := Aside0.mk hi125_0; have HC125_0 := Aside0.mk hl125_0; clear hi125_0 hl125_0; replace p125 := eq_true p125; replace q125 := eq_true q125; have ea_ := Option.some.inj (hx122_0.symm.trans hx125_0); injection ea_ with ea_ en_ ec_; subst ea_; subst ec_; clear en_) | (go_at_call 131; (with_reducible refine (spec_l2Before.calls k2 _ _ (rd_L1 l0_0 (ji13)) _ _ (rd_L1 l0_0 x3_2) false _ ?side1 ?side2 ?side3 ?side4 A16.out).mono ?_); (case side1 => exact zC (Kd.C_below HR124_0.out zB)); (case side2 => exact HC124_0.out); (case side3 => exact zC (Kd.C_below HR125_0.out zB)); (case side4 => exact HC125_0.out); rintro e w' ⟨rfl, ⟨nd, rfl⟩⟩; (try exact zD))); try go_wp2_with (first | (go_at_call 130; (with_reducible refine (spec_l2State.calls k2 _ _ (rd_L1 l0_0 x3_2) true _ ?side1 ?side2 A10.out).mono ?_); (case side1 => exact zC (Kd.C_below HR122_0.out HB.out)); (case side2 => exact HC122_0.out); rintro e w' ⟨rfl, ⟨nd, rfl⟩⟩; (try exact zD); have p124 : 0 ≤ ((ji13) : Int) := of_decide_eq_true zA; have q124 : (ji13) < (l0_0.length : Int) := of_decide_eq_true zA; obtain ⟨ad124, A124_0, c124_0, e124, hx124_0, hl124_0, hi124_0⟩ := at_L1 HR0_0.out (ji13) p124 q124; obtain rfl : ad122 = ad124 := (by injection e124); (try replace hx124_0 := (HB.out.cell (World.block_lt_of_cell? w _ hx124_0)).trans hx124_0); have HR124_0 := Aside0.mk hi124_0; have HC124_0 := Aside0.mk hl124_0; clear hi124_0 hl124_0; replace p124 := eq_true p124; replace q124 := eq_true q124; have p125 : 0 ≤ (x3_2 : Int) := of_decide_eq_true zA; have q125 : x3_2 < (l0_0.length : Int) := of_decide_eq_true zA; obtain ⟨ad125, A125_0, c125_0, e125, hx125_0, hl125_0, hi125_0⟩ := at_L1 HR0_0.out x3_2 p125 q125; obtain rfl : ad122 = ad125 := (by injection e125); (try replace hx125_0 := (HB.out.cell (World.block_lt_of_cell? w _ hx125_0)).trans hx125_0); have HR125_0 := Aside0.mk hi125_0; have HC125_0 := Aside0.mk hl125_0; clear hi125_0 hl125_0; replace p125 := eq_true p125; replace q125 := eq_true q125; have ea_ := Option.some.inj (hx122_0.symm.trans hx125_0); injection ea_ with ea_ en_ ec_; subst ea_; subst ec_; clear en_) | (go_at_call 131; (with_reducible refine (spec_l2Before.calls k2 _ _ (rd_L1 l0_0 (ji13)) _ _ (rd_L1 l0_0 x3_2) false _ ?side1 ?side2 ?side3 ?side4 A16.out).mono ?_); (case side1 => exact zC (Kd.C_below HR124_0.out zB)); (case side2 => exact HC124_0.out); (case side3 => exact zC (Kd.C_below HR125_0.out zB)); (case side4 => exact HC125_0.out); rintro e w' ⟨rfl, ⟨nd, rfl⟩⟩; (try exact zD))))
                     go_ret
                     exact ⟨by first | rfl | (simp [errW_none, errW_some] <;> rfl) | (simp only [← hji13]; first | rfl | (simp [errW_none, errW_some] <;> rfl)) | (simp [*, errW_none, errW_some] <;> rfl), zB⟩
                 · rw [if_neg c15] at H
                   exact absurd H (by simp)
               · rw [if_neg c14] at H
                 exact absurd H (by simp)
             · rw [if_neg c12] at H
               have c12b0 : decide (0 < x3_2) = false := decide_eq_false c12
               clear c12
               have H' := Aside0.mk H
               clear H
               have hcz20_0 := zy BK120 0
               have hcz20_1 := zy BK120 1
               have hfz20_0 := blk_frozen BK120.out 0
               have hfz20_1 := blk_frozen BK120.out 1
               have p122 : 0 ≤ (x3_2 : Int) := of_decide_eq_true zA
               have q122 : x3_2 < (l0_0.length : Int) := of_decide_eq_true zA
               obtain ⟨ad122, A122_0, c122_0, e122, hx122_0, hl122_0, hi122_0⟩ := at_L1 HR0_0.out x3_2 p122 q122
               cases e122
               (try replace hx122_0 := (HB.out.cell (World.block_lt_of_cell? w _ hx122_0)).trans hx122_0)
               have HR122_0 := Aside0.mk hi122_0
               have HC122_0 := Aside0.mk hl122_0
               clear hi122_0 hl122_0
               replace p122 := eq_true p122
               replace q122 := eq_true q122
               go_wp2_with (first | (go_at_call 130; (with_reducible refine (spec_l2State.calls k2 _ _ (rd_L1 l0_0 x3_2) true _ ?side1 ?side2 A10.out).mono ?_); (case side1 => exact zC (Kd.C_below HR122_0.out HB.out)); (case side2 => exact HC122_0.out); rintro e w' ⟨rfl, ⟨nd, rfl⟩⟩; (try exact zD)))
               repeat (go_quiet (first | (go_at_call 130; (with_reducible refine (spec_l2State.calls k2 _ _ (rd_L1 l0_0 x3_2) true _ ?side1 ?side2 A10.out).mono ?_); (case side1 => exact zC (Kd.C_below HR122_0.out HB.out)); (case side2 => exact HC122_0.out); rintro e w' ⟨rfl, ⟨nd, rfl⟩⟩; (try exact zD))); try go_wp2_with (first | (go_at_call 130; (with_reducible refine (spec_l2State.calls k2 _ _ (rd_L1 l0_0 x3_2) true _ ?side1 ?side2 A10.out).mono ?_); (case side1 => exact zC (Kd.C_below HR122_0.out HB.out)); (case side2 => exact HC122_0.out); rintro e w' ⟨rfl, ⟨nd, rfl⟩⟩; (try exact zD))))
               go_roundg k2
               case measure => have := HJ1.out; have := HK2.out; omega
               case rel => exact ⟨(wrap64 (x3_2 + 1)), (by first | rfl | (simp; done) | (simp [*]; done)), H', ⟨by have := HJ1.out; have := HK2.out; omega⟩, ⟨zK BK120.out⟩, ⟨zB⟩⟩
           · replace c11 := Bool.eq_false_iff.mpr c11
             subst c11
             have H1 : (some false) = some r := by rw [if_neg (show ¬ (false = true) by decide)] at H; exact H
             clear H
             have H := H1
             clear H1
             obtain rfl := Option.some.inj H
             have hcz21_0 := zy BK120 0
             have hcz21_1 := zy BK120 1
             have hfz21_0 := blk_frozen BK120.out 0
             have hfz21_1 := blk_frozen BK120.out 1
             have p122 : 0 ≤ (x3_2 : Int) := of_decide_eq_true zA
             have q122 : x3_2 < (l0_0.length : Int) := of_decide_eq_true zA
             obtain ⟨ad122, A122_0, c122_0, e122, hx122_0, hl122_0, hi122_0⟩ := at_L1 HR0_0.out x3_2 p122 q122
             cases e122
             (try replace hx122_0 := (HB.out.cell (World.block_lt_of_cell? w _ hx122_0)).trans hx122_0)
             have HR122_0 := Aside0.mk hi122_0
             have HC122_0 := Aside0.mk hl122_0
             clear hi122_0 hl122_0
             replace p122 := eq_true p122
             replace q122 := eq_true q122
             go_wp2_with (first | (go_at_call 130; (with_reducible refine (spec_l2State.calls k2 _ _ (rd_L1 l0_0 x3_2) false _ ?side1 ?side2 A10.out).mono ?_); (case side1 => exact zC (Kd.C_below HR122_0.out HB.out)); (case side2 => exact HC122_0.out); rintro e w' ⟨rfl, ⟨nd, rfl⟩⟩; (try exact zD)))
             repeat (go_quiet (first | (go_at_call 130; (with_reducible refine (spec_l2State.calls k2 _ _ (rd_L1 l0_0 x3_2) false _ ?side1 ?side2 A10.out).mono ?_); (case side1 => exact zC (Kd.C_below HR122_0.out HB.out)); (case side2 => exact HC122_0.out); rintro e w' ⟨rfl, ⟨nd, rfl⟩⟩; (try exact zD))); try go_wp2_with (first | (go_at_call 130; (with_reducible refine (spec_l2State.calls k2 _ _ (rd_L1 l0_0 x3_2) false _ ?side1 ?side2 A10.out).mono ?_); (case side1 => exact zC (Kd.C_below HR122_0.out HB.out)); (case side2 => exact HC122_0.out); rintro e w' ⟨rfl, ⟨nd, rfl⟩⟩; (try exact zD))))
             go_ret
             exact ⟨by first | rfl | (simp [errW_none, errW_some] <;> rfl) | (simp [*, errW_none, errW_some] <;> rfl), zB⟩
         · rw [if_neg c9] at H
           exact absurd H (by simp)
       · rw [if_neg c8] at H
         have c8b0 : decide (x3_2 < (l0_0.length : Int)) = false := decide_eq_false c8
         clear c8
         replace H := Option.bind_eq_some_iff.mp H
         obtain ⟨t121, A220, H⟩ := H
         have A22 := Aside0.mk A220
         clear A220
         obtain rfl := Option.some.inj H
         have hcz23_0 := zy BK120 0
         have hcz23_1 := zy BK120 1
         have hfz23_0 := blk_frozen BK120.out 0
         have hfz23_1 := blk_frozen BK120.out 1
         go_wp2_with (first | (go_at_call 132; (with_reducible refine (spec_l2Pairs.calls k2 _ _ l0_1 (l0_0.length : Int) t121 _ ?side1 ?side2 A22.out).mono ?_); (case side1 => exact zC (Kd.C_below HR0_1.out HB.out)); (case side2 => exact HC0_1.out); rintro e w24 ⟨rfl, hb⟩; replace BK120 := zM (blk_below (g := gb120) (o := .cells #[.slice A0_0 l0_0.length c0_0, .slice A0_1 l0_1.length c0_1] 30 (0, 0)) (zK BK120.out) hb); replace HB := zM (below_step zB hb); (try clear hb); (try clear hb2); (try clear hk); (try clear hi)))
         repeat (go_quiet (first | (go_at_call 132; (with_reducible refine (spec_l2Pairs.calls k2 _ _ l0_1 (l0_0.length : Int) t121 _ ?side1 ?side2 A22.out).mono ?_); (case side1 => exact zC (Kd.C_below HR0_1.out HB.out)); (case side2 => exact HC0_1.out); rintro e w24 ⟨rfl, hb⟩; replace BK120 := zM (blk_below (g := gb120) (o := .cells #[.slice A0_0 l0_0.length c0_0, .slice A0_1 l0_1.length c0_1] 30 (0, 0)) (zK BK120.out) hb); replace HB := zM (below_step zB hb); (try clear hb); (try clear hb2); (try clear hk); (try clear hi))); try go_wp2_with (first | (go_at_call 132; (with_reducible refine (spec_l2Pairs.calls k2 _ _ l0_1 (l0_0.length : Int) t121 _ ?side1 ?side2 A22.out).mono ?_); (case side1 => exact zC (Kd.C_below HR0_1.out HB.out)); (case side2 => exact HC0_1.out); rintro e w24 ⟨rfl, hb⟩; replace BK120 := zM (blk_below (g := gb120) (o := .cells #[.slice A0_0 l0_0.length c0_0, .slice A0_1 l0_1.length c0_1] 30 (0, 0)) (zK BK120.out) hb); replace HB := zM (below_step zB hb); (try clear hb); (try clear hb2); (try clear hk); (try clear hi))))
         go_ret
         exact ⟨by first | rfl | (simp [errW_none, errW_some] <;> rfl) | (simp [*, errW_none, errW_some] <;> rfl), zB⟩

/-! ### spec_l2Place: function 53 -/
def spec_l2Place.f (k : Nat) (l0_0 : List (List Int)) (l0_1 : List (S79)) (a1 : Int) : Option (Bool) := (spec_l2Space.f k l0_0 l0_1).bind fun t128 => (if t128 = true then ((spec_l1In.f a1 0 (wrap64 ((l0_0.length : Int) - 1))).bind fun t129 => (some t129)) else (some false))
set_option maxHeartbeats 8000000 in
set_option maxRecDepth 100000 in
theorem spec_l2Place.calls (k : Nat) (A0_0 : Option Addr) (c0_0 : Nat) (l0_0 : List (List Int)) (A0_1 : Option Addr) (c0_1 : Nat) (l0_1 : List (S79)) (a1 : Int) (r : Bool) (w : World) (hr0_0 : Kd.C (Kd.slice 3 (Kd.int .i64)) w A0_0 l0_0.length l0_0) (hc0_0 : l0_0.length ≤ c0_0) (hr0_1 : Kd.C k79 w A0_1 l0_1.length l0_1) (hc0_1 : l0_1.length ≤ c0_1) (h : spec_l2Place.f k l0_0 l0_1 a1 = some r) :
 Calls Try.prog 53 #[.agg #[.slice A0_0 l0_0.length c0_0, .slice A0_1 l0_1.length c0_1], .int .i64 a1] w fun e w' => e = .returned (.bool r) ∧ Below w.heap.size w w' := by
 have hu30 := Try.underlying30
 have HR0_0 := Aside0.mk hr0_0
 have HC0_0 := Aside0.mk hc0_0
 clear hr0_0 hc0_0
 have HR0_1 := Aside0.mk hr0_1
 have HC0_1 := Aside0.mk hc0_1
 clear hr0_1 hc0_1
 have HB := zM (Below.refl w.heap.size w)
 have H : ((spec_l2Space.f k l0_0 l0_1).bind fun t128 => (if t128 = true then ((spec_l1In.f a1 0 (wrap64 ((l0_0.length : Int) - 1))).bind fun t129 => (some t129)) else (some false))) = some r := h
 clear h
 replace H := Option.bind_eq_some_iff.mp H
 obtain ⟨t128, A30, H⟩ := H
 have A3 := Aside0.mk A30
 clear A30
 by_cases c4 : t128 = true
 · subst c4
   rw [if_pos rfl] at H
   replace H := Option.bind_eq_some_iff.mp H
   obtain ⟨t129, A50, H⟩ := H
   have A5 := Aside0.mk A50
   clear A50
   obtain rfl := Option.some.inj H
   go_enter Try.func53, Try.ntmps53
   go_wp2_with (first | ((with_reducible refine gate_dst (N := 2) rfl ?_); (try (refine gate_guard (by rfl) ?_; dsimp only)); refine zb (w := w) 2 #[.slice A0_0 l0_0.length c0_0, .slice A0_1 l0_1.length c0_1] 30 zB ?_; clear HB; intro gb127 w6 HB BK127 GW127; have GE127 := GW127; have hcz7_0 := zy BK127 0; have hcz7_1 := zy BK127 1; have hfz7_0 := blk_frozen BK127.out 0; have hfz7_1 := blk_frozen BK127.out 1) | ((with_reducible refine gate_callee (f := 70) rfl ?_); refine zc 6 Try.func70 #[.agg #[.slice A0_0 l0_0.length c0_0, .slice A0_1 l0_1.length c0_1]] ?_; (with_reducible refine (spec_l2Space.calls k _ _ l0_0 _ _ l0_1 true _ ?side1 ?side2 ?side3 ?side4 A3.out).mono ?_); (case side1 => exact zC (Kd.C_below HR0_0.out HB.out)); (case side2 => exact HC0_0.out); (case side3 => exact zC (Kd.C_below HR0_1.out HB.out)); (case side4 => exact HC0_1.out); rintro e w8 ⟨rfl, hb⟩; refine ⟨_, rfl, ?_⟩; replace BK127 := zM (blk_below (g := gb127) (o := .cells #[.slice A0_0 l0_0.length c0_0, .slice A0_1 l0_1.length c0_1] 30 (0, 0)) (zK BK127.out) hb); replace HB := zM (below_step zB hb); (try clear hb); (try clear hb2); (try clear hk); (try clear hi); have hcz9_0 := zy BK127 0; have hcz9_1 := zy BK127 1; have hfz9_0 := blk_frozen BK127.out 0; have hfz9_1 := blk_frozen BK127.out 1) | (go_at_call 118; (with_reducible refine (spec_l1In.calls a1 0 (wrap64 ((l0_0.length : Int) - 1)) t129 _ A5.out).mono ?_); rintro e w' ⟨rfl, ⟨nd, rfl⟩⟩))
   go_ret
   exact ⟨by first | rfl | (simp [errW_none, errW_some] <;> rfl) | (simp [*, errW_none, errW_some] <;> rfl), zB⟩
 · replace c4 := Bool.eq_false_iff.mpr c4
   subst c4
   have H1 : (some false) = some r := by rw [if_neg (show ¬ (false = true) by decide)] at H; exact H
   clear H
   have H := H1
   clear H1
   obtain rfl := Option.some.inj H
   go_enter Try.func53, Try.ntmps53
   go_wp2_with (first | ((with_reducible refine gate_dst (N := 2) rfl ?_); (try (refine gate_guard (by rfl) ?_; dsimp only)); refine zb (w := w) 2 #[.slice A0_0 l0_0.length c0_0, .slice A0_1 l0_1.length c0_1] 30 zB ?_; clear HB; intro gb127 w10 HB BK127 GW127; have GE127 := GW127; have hcz11_0 := zy BK127 0; have hcz11_1 := zy BK127 1; have hfz11_0 := blk_frozen BK127.out 0; have hfz11_1 := blk_frozen BK127.out 1) | ((with_reducible refine gate_callee (f := 70) rfl ?_); refine zc 6 Try.func70 #[.agg #[.slice A0_0 l0_0.length c0_0, .slice A0_1 l0_1.length c0_1]] ?_; (with_reducible refine (spec_l2Space.calls k _ _ l0_0 _ _ l0_1 false _ ?side1 ?side2 ?side3 ?side4 A3.out).mono ?_); (case side1 => exact zC (Kd.C_below HR0_0.out HB.out)); (case side2 => exact HC0_0.out); (case side3 => exact zC (Kd.C_below HR0_1.out HB.out)); (case side4 => exact HC0_1.out); rintro e w12 ⟨rfl, hb⟩; refine ⟨_, rfl, ?_⟩; replace BK127 := zM (blk_below (g := gb127) (o := .cells #[.slice A0_0 l0_0.length c0_0, .slice A0_1 l0_1.length c0_1] 30 (0, 0)) (zK BK127.out) hb); replace HB := zM (below_step zB hb); (try clear hb); (try clear hb2); (try clear hk); (try clear hi)))
   go_ret
   exact ⟨by first | rfl | (simp [errW_none, errW_some] <;> rfl) | (simp [*, errW_none, errW_some] <;> rfl), zB⟩

/-! ### spec_l2Lists: function 78 -/
mutual
def spec_l2Lists.l0 : Nat → List (List Int) → Int → List (List Int) → List (S79) → Option ((List (List Int)))
 | 0, _, _, _, _ => none
 | k + 1, x3, x4, x131000, x131001 => if x4 < (x131001.length : Int) then (if 0 ≤ x4 then (if 0 ≤ ((rd_T79 x131001 x4).f1) then (if ((rd_T79 x131001 x4).f1) < (x3.length : Int) then (if (rd_L1 x3 ((rd_T79 x131001 x4).f1)).length < 17592186044416 then (spec_l2Lists.l0 k (x3.set (((rd_T79 x131001 x4).f1) : Int).toNat ((rd_L1 x3 ((rd_T79 x131001 x4).f1)) ++ [(rd_T79 x131001 x4).f0])) (wrap64 (x4 + 1)) x131000 x131001) else (none)) else (none)) else (none)) else (none)) else (spec_l2Lists.l1 k x3 0 x131000 x131001)
def spec_l2Lists.l1 : Nat → List (List Int) → Int → List (List Int) → List (S79) → Option ((List (List Int)))
 | 0, _, _, _, _ => none
 | k + 1, x3, x7, x131000, x131001 => if x7 < (x131001.length : Int) then (if 0 ≤ x7 then (if 0 ≤ ((rd_T79 x131001 x7).f0) then (if ((rd_T79 x131001 x7).f0) < (x3.length : Int) then (if (rd_L1 x3 ((rd_T79 x131001 x7).f0)).length < 17592186044416 then (spec_l2Lists.l1 k (x3.set (((rd_T79 x131001 x7).f0) : Int).toNat ((rd_L1 x3 ((rd_T79 x131001 x7).f0)) ++ [(rd_T79 x131001 x7).f1])) (wrap64 (x7 + 1)) x131000 x131001) else (none)) else (none)) else (none)) else (none)) else (some x3)
end
def spec_l2Lists.f (k : Nat) (l0_0 : List (List Int)) (l0_1 : List (S79)) : Option ((List (List Int))) := if 0 ≤ (l0_0.length : Int) then (if ((l0_0.length : Int) : Int).toNat ≤ 11728124029610 then (spec_l2Lists.l0 k (List.replicate ((l0_0.length : Int) : Int).toNat []) 0 l0_0 l0_1) else (none)) else (none)
set_option maxHeartbeats 8000000 in
set_option maxRecDepth 100000 in
theorem spec_l2Lists.calls (k : Nat) (A0_0 : Option Addr) (c0_0 : Nat) (l0_0 : List (List Int)) (A0_1 : Option Addr) (c0_1 : Nat) (l0_1 : List (S79)) (r : List (List Int)) (w : World) (hr0_0 : Kd.C (Kd.slice 3 (Kd.int .i64)) w A0_0 l0_0.length l0_0) (hc0_0 : l0_0.length ≤ c0_0) (hr0_1 : Kd.C k79 w A0_1 l0_1.length l0_1) (hc0_1 : l0_1.length ≤ c0_1) (h : spec_l2Lists.f k l0_0 l0_1 = some r) :
 Calls Try.prog 78 #[.agg #[.slice A0_0 l0_0.length c0_0, .slice A0_1 l0_1.length c0_1]] w fun e w' => ∃ v0_ : Value, e = .returned (v0_) ∧ Kd.S (Kd.slice 3 (Kd.int .i64)) 27 w' w.heap.size (fun _ => True) v0_ r ∧ Below w.heap.size w w' := by
 have hu30 := Try.underlying30
 have HR0_0 := Aside0.mk hr0_0
 have HC0_0 := Aside0.mk hc0_0
 clear hr0_0 hc0_0
 have HR0_1 := Aside0.mk hr0_1
 have HC0_1 := Aside0.mk hc0_1
 clear hr0_1 hc0_1
 have HB := zM (Below.refl w.heap.size w)
 have H : (if 0 ≤ (l0_0.length : Int) then (if ((l0_0.length : Int) : Int).toNat ≤ 11728124029610 then (spec_l2Lists.l0 k (List.replicate ((l0_0.length : Int) : Int).toNat []) 0 l0_0 l0_1) else (none)) else (none)) = some r := h
 clear h
 by_cases c2 : 0 ≤ (l0_0.length : Int)
 · rw [if_pos c2] at H
   have c2b0 := eq_true c2
   have c2b1 : decide (0 ≤ (l0_0.length : Int)) = true := decide_eq_true c2
   clear c2
   by_cases c3 : ((l0_0.length : Int) : Int).toNat ≤ 11728124029610
   · rw [if_pos c3] at H
     have c3b0 := eq_true c3
     have c3b1 : decide (((l0_0.length : Int) : Int).toNat ≤ 11728124029610) = true := decide_eq_true c3
     clear c3
     obtain ⟨y131, hy131⟩ : ∃ y_ : List (List Int), y_ = (List.replicate ((l0_0.length : Int) : Int).toNat []) := ⟨_, rfl⟩
     replace H : (spec_l2Lists.l0 k y131 0 l0_0 l0_1) = some r := by first | (rw [hy131]; with_reducible exact H) | (have H2_ := (Option.bind_some _ _).symm.trans H; rw [hy131]; with_reducible exact H2_) | (have H2_ := (Option.bind_some _ _).symm.trans H; with_reducible exact H2_) | with_reducible exact H | (rw [hy131]; exact H) | exact H
     have Ny131 := Aside0.mk hy131
     clear hy131
     have H' := Aside0.mk H
     clear H
     go_enter Try.func78, Try.ntmps78
     go_wp2_with (first | ((with_reducible refine gate_dst (N := 1) rfl ?_); refine zb (w := w) 1 #[.slice A0_0 l0_0.length c0_0, .slice A0_1 l0_1.length c0_1] 30 zB ?_; clear HB; intro gb130 w4 HB BK130 GW130; have GE130 := GW130; have hcz5_0 := zy BK130 0; have hcz5_1 := zy BK130 1; have hfz5_0 := blk_frozen BK130.out 0; have hfz5_1 := blk_frozen BK130.out 1) | ((with_reducible refine gate_dst (N := 13) rfl ?_); refine Kd.S_make (Kd.slice 3 (Kd.int .i64)) _ 27 rfl (N := 13) rfl 22 _ _ rfl (l0_0.length : Int) rfl rfl Try.underlying22 (.slice none 0 0) 24 info27 rfl (by decide) (by omega) [] (ok := fun _ => True) (okp := fun _ => True) ⟨_, rfl, Kd.R_nil _ _ _ _ _⟩ (fun _ hk => hk) trivial (of_decide_eq_true zA) (Nat.le_trans (Nat.mul_le_mul_right _ (of_decide_eq_true zA : (l0_0.length : Int).toNat ≤ 11728124029610)) (by omega)) (Below.refl _ _) (Nat.le_refl _) ?_; intro v132 w6 ho7 hb hg_ hnew_; clear hg_ hnew_; (first | rw [← Ny131.out] at ho7 | (simp only [Int.reduceToNat] at ho7; rw [← Ny131.out] at ho7)); have HO133 := zM (Kd.S_lower ho7 (below_size zB)); replace BK130 := zM (blk_below (g := gb130) (o := .cells #[.slice A0_0 l0_0.length c0_0, .slice A0_1 l0_1.length c0_1] 30 (0, 0)) (zK BK130.out) hb); replace HB := zM (below_step zB hb); clear hb ho7))
     repeat (go_quiet (first | ((with_reducible refine gate_dst (N := 1) rfl ?_); refine zb (w := w) 1 #[.slice A0_0 l0_0.length c0_0, .slice A0_1 l0_1.length c0_1] 30 zB ?_; clear HB; intro gb130 w4 HB BK130 GW130; have GE130 := GW130; have hcz5_0 := zy BK130 0; have hcz5_1 := zy BK130 1; have hfz5_0 := blk_frozen BK130.out 0; have hfz5_1 := blk_frozen BK130.out 1) | ((with_reducible refine gate_dst (N := 13) rfl ?_); refine Kd.S_make (Kd.slice 3 (Kd.int .i64)) _ 27 rfl (N := 13) rfl 22 _ _ rfl (l0_0.length : Int) rfl rfl Try.underlying22 (.slice none 0 0) 24 info27 rfl (by decide) (by omega) [] (ok := fun _ => True) (okp := fun _ => True) ⟨_, rfl, Kd.R_nil _ _ _ _ _⟩ (fun _ hk => hk) trivial (of_decide_eq_true zA) (Nat.le_trans (Nat.mul_le_mul_right _ (of_decide_eq_true zA : (l0_0.length : Int).toNat ≤ 11728124029610)) (by omega)) (Below.refl _ _) (Nat.le_refl _) ?_; intro v132 w6 ho7 hb hg_ hnew_; clear hg_ hnew_; (first | rw [← Ny131.out] at ho7 | (simp only [Int.reduceToNat] at ho7; rw [← Ny131.out] at ho7)); have HO133 := zM (Kd.S_lower ho7 (below_size zB)); replace BK130 := zM (blk_below (g := gb130) (o := .cells #[.slice A0_0 l0_0.length c0_0, .slice A0_1 l0_1.length c0_1] 30 (0, 0)) (zK BK130.out) hb); replace HB := zM (below_step zB hb); clear hb ho7)); try go_wp2_with (first | ((with_reducible refine gate_dst (N := 1) rfl ?_); refine zb (w := w) 1 #[.slice A0_0 l0_0.length c0_0, .slice A0_1 l0_1.length c0_1] 30 zB ?_; clear HB; intro gb130 w4 HB BK130 GW130; have GE130 := GW130; have hcz5_0 := zy BK130 0; have hcz5_1 := zy BK130 1; have hfz5_0 := blk_frozen BK130.out 0; have hfz5_1 := blk_frozen BK130.out 1) | ((with_reducible refine gate_dst (N := 13) rfl ?_); refine Kd.S_make (Kd.slice 3 (Kd.int .i64)) _ 27 rfl (N := 13) rfl 22 _ _ rfl (l0_0.length : Int) rfl rfl Try.underlying22 (.slice none 0 0) 24 info27 rfl (by decide) (by omega) [] (ok := fun _ => True) (okp := fun _ => True) ⟨_, rfl, Kd.R_nil _ _ _ _ _⟩ (fun _ hk => hk) trivial (of_decide_eq_true zA) (Nat.le_trans (Nat.mul_le_mul_right _ (of_decide_eq_true zA : (l0_0.length : Int).toNat ≤ 11728124029610)) (by omega)) (Below.refl _ _) (Nat.le_refl _) ?_; intro v132 w6 ho7 hb hg_ hnew_; clear hg_ hnew_; (first | rw [← Ny131.out] at ho7 | (simp only [Int.reduceToNat] at ho7; rw [← Ny131.out] at ho7)); have HO133 := zM (Kd.S_lower ho7 (below_size zB)); replace BK130 := zM (blk_below (g := gb130) (o := .cells #[.slice A0_0 l0_0.length c0_0, .slice A0_1 l0_1.length c0_1] 30 (0, 0)) (zK BK130.out) hb); replace HB := zM (below_step zB hb); clear hb ho7)))
     go_loopg [4] k (fun kq v4 w' => ∃ (x3_1 : List (List Int)) (x4_1 : Int), v4 = .int .i64 x4_1 ∧ Aside0 (spec_l2Lists.l0 kq x3_1 x4_1 l0_0 l0_1 = some r) ∧ Aside0 (kq ≤ k) ∧ Aside0 (Kd.S (Kd.slice 3 (Kd.int .i64)) 27 w' w.heap.size (fun _ => True) v132 x3_1) ∧ Aside0 (w'.heap[gb130]? = some (.cells #[(.slice A0_0 l0_0.length c0_0), (.slice A0_1 l0_1.length c0_1)] 30 (0, 0))) ∧ Aside0 (Below w.heap.size w w'))
     case atStart => exact ⟨(y131), (0), (by first | rfl | (simp; done) | (simp [*]; done)), H', ⟨Nat.le_refl _⟩, ⟨by (with_reducible repeat (first | apply Kd.S_alloc | apply Kd.S_drewN | apply Kd.S_drew)); exact HO133.out⟩, ⟨zK BK130.out⟩, ⟨zB⟩⟩
     case round =>
      clear H'
      try clear c2
      try clear c2b0
      try clear c2b1
      try clear p2
      try clear c3
      try clear c3b0
      try clear c3b1
      try clear c7
      try clear hcz5_0
      try clear hcz5_1
      try clear hfz5_0
      try clear hfz5_1
      obtain ⟨x3_1, x4_1, rfl, HA, HK1, HO_3, BK130, HB⟩ := hrel
      cases gk with
      | zero => exact absurd HA.out (by simp [spec_l2Lists.l0])
      | succ k1 =>
       have H := HA.out
       clear HA
       simp only [spec_l2Lists.l0] at H
       by_cases c8 : x4_1 < (l0_1.length : Int)
       · rw [if_pos c8] at H
         have c8b0 := decide_eq_true c8
         clear c8
         by_cases c9 : 0 ≤ x4_1
         · rw [if_pos c9] at H
           have c9b0 := decide_eq_true c9
           clear c9
           by_cases c10 : 0 ≤ ((rd_T79 l0_1 x4_1).f1)
           · rw [if_pos c10] at H
             have c10b0 := decide_eq_true c10
             clear c10
             by_cases c11 : ((rd_T79 l0_1 x4_1).f1) < (x3_1.length : Int)
             · rw [if_pos c11] at H
               have c11b0 := decide_eq_true c11
               clear c11
               by_cases c12 : (rd_L1 x3_1 ((rd_T79 l0_1 x4_1).f1)).length < 17592186044416
               · rw [if_pos c12] at H
                 have LMc12 := Aside0.mk c12
                 clear c12
                 obtain ⟨y137, hy137⟩ : ∃ y_ : List Int, y_ = ((rd_L1 x3_1 ((rd_T79 l0_1 x4_1).f1)) ++ [(rd_T79 l0_1 x4_1).f0]) := ⟨_, rfl⟩
                 replace H : (spec_l2Lists.l0 k1 (x3_1.set (((rd_T79 l0_1 x4_1).f1) : Int).toNat y137) (wrap64 (x4_1 + 1)) l0_0 l0_1) = some r := by first | (rw [hy137]; with_reducible exact H) | (have H2_ := (Option.bind_some _ _).symm.trans H; rw [hy137]; with_reducible exact H2_) | (have H2_ := (Option.bind_some _ _).symm.trans H; with_reducible exact H2_) | with_reducible exact H | (rw [hy137]; exact H) | exact H
                 have Ny137 := Aside0.mk hy137
                 clear hy137
                 obtain ⟨y140, hy140⟩ : ∃ y_ : List (List Int), y_ = (x3_1.set (((rd_T79 l0_1 x4_1).f1) : Int).toNat y137) := ⟨_, rfl⟩
                 replace H : (spec_l2Lists.l0 k1 y140 (wrap64 (x4_1 + 1)) l0_0 l0_1) = some r := by first | (rw [hy140]; with_reducible exact H) | (have H2_ := (Option.bind_some _ _).symm.trans H; rw [hy140]; with_reducible exact H2_) | (have H2_ := (Option.bind_some _ _).symm.trans H; with_reducible exact H2_) | with_reducible exact H | (rw [hy140]; exact H) | exact H
                 have Ny140 := Aside0.mk hy140
                 clear hy140
                 have H' := Aside0.mk H
                 clear H
                 have hcz14_0 := zy BK130 0
                 have hcz14_1 := zy BK130 1
                 have hfz14_0 := blk_frozen BK130.out 0
                 have hfz14_1 := blk_frozen BK130.out 1
                 have p134 : 0 ≤ (x4_1 : Int) := of_decide_eq_true zA
                 have q134 : x4_1 < (l0_1.length : Int) := of_decide_eq_true zA
                 obtain ⟨ad134, e134, hx134_0, hx134_1⟩ := at_T79 HR0_1.out x4_1 p134 q134
                 cases e134
                 (try replace hx134_0 := (HB.out.cell (World.block_lt_of_cell? w _ hx134_0)).trans hx134_0)
                 (try replace hx134_1 := (HB.out.cell (World.block_lt_of_cell? w _ hx134_1)).trans hx134_1)
                 replace p134 := eq_true p134
                 replace q134 := eq_true q134
                 have p135 : 0 ≤ (x4_1 : Int) := of_decide_eq_true zA
                 have q135 : x4_1 < (l0_1.length : Int) := of_decide_eq_true zA
                 obtain ⟨ad135, e135, hx135_0, hx135_1⟩ := at_T79 HR0_1.out x4_1 p135 q135
                 obtain rfl : ad134 = ad135 := (by injection e135)
                 (try replace hx135_0 := (HB.out.cell (World.block_lt_of_cell? w _ hx135_0)).trans hx135_0)
                 (try replace hx135_1 := (HB.out.cell (World.block_lt_of_cell? w _ hx135_1)).trans hx135_1)
                 replace p135 := eq_true p135
                 replace q135 := eq_true q135
                 obtain ⟨Ao15, co15, eo15⟩ := Kd.S_slice HO_3.out
                 subst eo15
                 have p136 : 0 ≤ (((rd_T79 l0_1 x4_1).f1) : Int) := of_decide_eq_true zA
                 have q136 : ((rd_T79 l0_1 x4_1).f1) < (x3_1.length : Int) := of_decide_eq_true zA
                 obtain ⟨ad136, A136_0, c136_0, e136, hx136_0, hl136_0, hi136_0⟩ := at_L1 (Kd.S_reads' HO_3.out).2.2 ((rd_T79 l0_1 x4_1).f1) p136 q136
                 cases e136
                 obtain ⟨ce136, hce136, hMe136, hcc136⟩ := Kd.S_get HO_3.out [] ((rd_T79 l0_1 x4_1).f1) p136 (by first | exact q136 | exact of_decide_eq_true zA | (have e_ := (Kd.S_reads' HO_3.out).1; omega))
                 obtain ⟨ve136_0, rfl, ge136_0⟩ := hMe136
                 have hv136_0 := hcc136 0 _ rfl
                 rw [Nat.add_zero, show ((Kd.slice 3 (Kd.int .i64))).sz = 1 from rfl, Nat.mul_one] at hv136_0
                 replace hv136_0 := Option.some.inj (hv136_0.symm.trans hx136_0)
                 rw [hv136_0] at ge136_0
                 have HL136_0 := zM (show Kd.R (Kd.int .i64) 3 _ _ _ _ (rd_L1 x3_1 ((rd_T79 l0_1 x4_1).f1)) from ge136_0)
                 clear hv136_0 ge136_0
                 have HX136_0 := Aside0.mk hx136_0
                 clear hcc136 hce136
                 have HR136_0 := Aside0.mk hi136_0
                 have HC136_0 := Aside0.mk hl136_0
                 clear hi136_0 hl136_0
                 replace p136 := eq_true p136
                 replace q136 := eq_true q136
                 obtain ⟨go16, co16, eo16, gb16, gl16, cl16, HG16⟩ := Kd.S_form HO_3.out (by have h_ : (((rd_T79 l0_1 x4_1).f1) : Int) < ((x3_1.length : Int) : Int) := of_decide_eq_true zA; have h2_ : 0 ≤ (((rd_T79 l0_1 x4_1).f1) : Int) := (of_decide_eq_true zA); omega)
                 (first | cases eo16 | (injection eo16 with ea_ en_ ec_; (first | subst ea_ | (injection ea_ with ea_; subst ea_)); subst ec_; clear en_))
                 have GB16 := Aside0.mk gb16
                 have GG16 := Aside0.mk HG16
                 clear gb16 gl16 HG16
                 (first | simp only [add_plain] at hx136_0 | skip)
                 obtain ⟨oki16, ce16, hcl16, hM16, hcc16, _, _, hH16⟩ := Kd.S_elem HO_3.out [] (((rd_T79 l0_1 x4_1).f1) : Int) (of_decide_eq_true zA) (by have h_ : (((rd_T79 l0_1 x4_1).f1) : Int) < ((x3_1.length : Int) : Int) := of_decide_eq_true zA; first | exact h_ | (have e_ := (Kd.S_reads' HO_3.out).1; omega) | simpa using h_)
                 obtain ⟨ve16_0, rfl, ge16_0⟩ := hM16
                 have hv16 := hcc16 0 _ rfl
                 have hX16 := HX136_0.out
                 (try simp only [add_plain] at hX16)
                 (try simp only [Nat.add_zero] at hv16)
                 (try rw [show ((Kd.slice 3 (Kd.int .i64))).sz = 1 from rfl, Nat.mul_one] at hv16)
                 replace hv16 := Option.some.inj (hv16.symm.trans hX16)
                 subst hv16
                 clear hX16 hcc16 hcl16
                 have UU16 := zM (show Kd.R (Kd.int .i64) 3 _ w.heap.size oki16 (.slice A136_0 (rd_L1 x3_1 ((rd_T79 l0_1 x4_1).f1)).length c136_0) (rd_L1 x3_1 ((rd_T79 l0_1 x4_1).f1)) from ge16_0)
                 have HH16 := Aside0.mk hH16
                 have HN16 := zM (Kd.S_reads' HO_3.out).1
                 clear hH16 ge16_0
                 go_wp2_with (first | ((with_reducible refine gate_builtin (b := .append) (xs := #[.tmp 38, .tmp 40]) rfl ?_); at_builtin; refine Kd.R_append (Kd.int .i64) (w0 := w) w.heap.size rfl (.tmp 38) (.tmp 40) 27 3 (.int .i64 0) 8 rfl Try.underlying27 info3 rfl (by decide) (by omega) (.slice A136_0 (rd_L1 x3_1 ((rd_T79 l0_1 x4_1).f1)).length c136_0) (rd_L1 x3_1 ((rd_T79 l0_1 x4_1).f1)) ((rd_T79 l0_1 x4_1).f0) [.int .i64 ((rd_T79 l0_1 x4_1).f0)] (fun k_ => oki16 k_ ∨ ((fun _ => True)) k_ ∧ wr.heap.size ≤ k_) (fun _ => False) rfl rfl ?aP (fun _ hk => hk.elim) ?aF ?aO ?aB ?aS ?aL ?_; (case aP => exact rfl); (case aB => exact zB); (case aF => exact (fun k_ hk => .inr ⟨trivial, hk⟩)); (case aO => exact (by (with_reducible repeat (first | apply Kd.R_alloc | apply Kd.R_drewN | apply Kd.R_drew)); exact Kd.R_mono UU16.out (fun _ hk => .inl hk))); (case aS => exact (below_size zB)); (case aL => have := LMc12.out; omega); intro v138 w17 ho hb hg hat; rw [← Ny137.out] at ho; replace BK130 := zM (blk_grown (g := gb130) (o := .cells #[.slice A0_0 l0_0.length c0_0, .slice (some ad134) l0_1.length c0_1] 30 (0, 0)) (zK BK130.out) hg (Kd.R_ne HL136_0.out BK130.out (by decide))); replace HB := zM (hb); replace HH16 := zM (Kd.H_grown (Kd.H_widen (by repeat (first | exact HH16.out | refine Kd.H_alloc ?_ _ | refine Kd.H_drewN ?_ _ | refine Kd.H_drew ?_))) hg (fun k_ e_ => .inl (UU16.out.1 k_ e_))); have HO139 := zM (ho); clear HO_3 UU16 HL136_0; clear ho hb hg hat; have p13 : 0 ≤ (((rd_T79 l0_1 x4_1).f1) : Int) := of_decide_eq_true zA; have q13 : (((rd_T79 l0_1 x4_1).f1) : Int) < ((x3_1.length : Int) : Int) := of_decide_eq_true zA; replace p13 := eq_true p13; replace q13 := eq_true q13; obtain ⟨Ao20, co20, eo20⟩ := Kd.R_slice HO139.out; subst eo20; obtain ⟨_, _, hraw18, _, _, hcc18, _⟩ := Kd.H_raw HH16.out (of_decide_eq_true zA) (by have h_ : (((rd_T79 l0_1 x4_1).f1) : Int) < ((x3_1.length : Int) : Int) := of_decide_eq_true zA; first | exact h_ | (have e_ := (HN16.out); omega) | simpa using h_); obtain ⟨_, hfr18⟩ := Kd.H_at HH16.out (of_decide_eq_true zA) (by have h_ : (((rd_T79 l0_1 x4_1).f1) : Int) < ((x3_1.length : Int) : Int) := of_decide_eq_true zA; first | exact h_ | (have e_ := (HN16.out); omega) | simpa using h_); have hx18_0 := hcc18 0 _ rfl; have hf18_0 := hfr18 0; (try simp only [Nat.add_zero] at hx18_0 hf18_0); (try rw [show ((Kd.slice 3 (Kd.int .i64))).sz = 1 from rfl, Nat.mul_one] at hx18_0); (try rw [show ((Kd.slice 3 (Kd.int .i64))).sz = 1 from rfl, Nat.mul_one] at hf18_0); have HP18 := Kd.S_seg0 HH16.out (of_decide_eq_true zA) (by have h_ : (((rd_T79 l0_1 x4_1).f1) : Int) < ((x3_1.length : Int) : Int) := of_decide_eq_true zA; first | exact h_ | (have e_ := (HN16.out); omega) | simpa using h_) (seg := [.slice Ao20 y137.length co20]) (j := 0) (show 1 ≤ 1 from by decide) (x' := y137) (Kd.M_row HO139.out) (fun _ hk => hk); (try simp only [show ((Kd.slice 3 (Kd.int .i64))).sz = 1 from rfl, Nat.mul_one, Nat.add_zero] at HP18); clear hcc18 hfr18) | ((with_reducible refine gate_store (t := 27) (p := 42) rfl ?_); (try (rw [drewN_self w17]; generalize hq_ : World.drewN w17 _ = w17; have n0_ := zM (Kd.S_at hq_ HO_3.out); have n1_ := zM (blk_at hq_ BK130.out); have n2_ := zM (below_at hq_ HB.out); clear hq_ HO_3 BK130 HB; have HO_3 := n0_; have BK130 := n1_; have HB := n2_; clear n0_ n1_ n2_; (try (obtain ⟨Ao20, co20, eo20⟩ := Kd.R_slice HO139.out)); (try (subst eo20)); (try (obtain ⟨_, _, hraw18, _, _, hcc18, _⟩ := Kd.H_raw HH16.out (of_decide_eq_true zA) (by have h_ : (((rd_T79 l0_1 x4_1).f1) : Int) < ((x3_1.length : Int) : Int) := of_decide_eq_true zA; first | exact h_ | (have e_ := (HN16.out); omega) | simpa using h_))); (try (obtain ⟨_, hfr18⟩ := Kd.H_at HH16.out (of_decide_eq_true zA) (by have h_ : (((rd_T79 l0_1 x4_1).f1) : Int) < ((x3_1.length : Int) : Int) := of_decide_eq_true zA; first | exact h_ | (have e_ := (HN16.out); omega) | simpa using h_))); (try (have hx18_0 := hcc18 0 _ rfl)); (try (have hf18_0 := hfr18 0)); (try (try simp only [Nat.add_zero] at hx18_0 hf18_0)); (try (try rw [show ((Kd.slice 3 (Kd.int .i64))).sz = 1 from rfl, Nat.mul_one] at hx18_0)); (try (try rw [show ((Kd.slice 3 (Kd.int .i64))).sz = 1 from rfl, Nat.mul_one] at hf18_0)); (try (have HP18 := Kd.S_seg0 HH16.out (of_decide_eq_true zA) (by have h_ : (((rd_T79 l0_1 x4_1).f1) : Int) < ((x3_1.length : Int) : Int) := of_decide_eq_true zA; first | exact h_ | (have e_ := (HN16.out); omega) | simpa using h_) (seg := [.slice Ao20 y137.length co20]) (j := 0) (show 1 ≤ 1 from by decide) (x' := y137) (Kd.M_row HO139.out) (fun _ hk => hk))); (try (try simp only [show ((Kd.slice 3 (Kd.int .i64))).sz = 1 from rfl, Nat.mul_one, Nat.add_zero] at HP18)); (try (clear hcc18 hfr18)))); refine store_event (t := 27) (p := 42) (v := ?vo_w19) (w1 := (w17.setCell ⟨go16, (((rd_T79 l0_1 x4_1).f1) : Int).toNat, none⟩ (.slice Ao20 y137.length co20))) ?hg ?ho ?hn ?hr ?_; (case ho => rfl); (case hg => rfl); (case hn => rfl); (case hr => first | (go_simp; done) | (go_simp; rfl)); intro w19 hw; have hg : w17.grownBy w19 (some go16) := (by rw [hw]; exact HP18.2); have hp_ : Kd.S (Kd.slice 3 (Kd.int .i64)) 27 w19 w.heap.size (fun _ => True) (.slice (some ⟨go16, 0, none⟩) x3_1.length co15) y140 := (by rw [hw, Ny140.out]; exact HP18.1); clear HP18; replace BK130 := zM (blk_grown (g := gb130) (o := .cells #[.slice A0_0 l0_0.length c0_0, .slice (some ad134) l0_1.length c0_1] 30 (0, 0)) (zK BK130.out) hg (Kd.R_ne hraw18 BK130.out (by decide))); replace HB := zM ((by rw [hw]; exact below_set HB.out GB16.out : Below w.heap.size w w19)); have HO_3 := zM (hp_); clear HO139 HH16; clear hg hw hp_ hraw18))
                 repeat (go_quiet (first | ((with_reducible refine gate_builtin (b := .append) (xs := #[.tmp 38, .tmp 40]) rfl ?_); at_builtin; refine Kd.R_append (Kd.int .i64) (w0 := w) w.heap.size rfl (.tmp 38) (.tmp 40) 27 3 (.int .i64 0) 8 rfl Try.underlying27 info3 rfl (by decide) (by omega) (.slice A136_0 (rd_L1 x3_1 ((rd_T79 l0_1 x4_1).f1)).length c136_0) (rd_L1 x3_1 ((rd_T79 l0_1 x4_1).f1)) ((rd_T79 l0_1 x4_1).f0) [.int .i64 ((rd_T79 l0_1 x4_1).f0)] (fun k_ => oki16 k_ ∨ ((fun _ => True)) k_ ∧ wr.heap.size ≤ k_) (fun _ => False) rfl rfl ?aP (fun _ hk => hk.elim) ?aF ?aO ?aB ?aS ?aL ?_; (case aP => exact rfl); (case aB => exact zB); (case aF => exact (fun k_ hk => .inr ⟨trivial, hk⟩)); (case aO => exact (by (with_reducible repeat (first | apply Kd.R_alloc | apply Kd.R_drewN | apply Kd.R_drew)); exact Kd.R_mono UU16.out (fun _ hk => .inl hk))); (case aS => exact (below_size zB)); (case aL => have := LMc12.out; omega); intro v138 w17 ho hb hg hat; rw [← Ny137.out] at ho; replace BK130 := zM (blk_grown (g := gb130) (o := .cells #[.slice A0_0 l0_0.length c0_0, .slice (some ad134) l0_1.length c0_1] 30 (0, 0)) (zK BK130.out) hg (Kd.R_ne HL136_0.out BK130.out (by decide))); replace HB := zM (hb); replace HH16 := zM (Kd.H_grown (Kd.H_widen (by repeat (first | exact HH16.out | refine Kd.H_alloc ?_ _ | refine Kd.H_drewN ?_ _ | refine Kd.H_drew ?_))) hg (fun k_ e_ => .inl (UU16.out.1 k_ e_))); have HO139 := zM (ho); clear HO_3 UU16 HL136_0; clear ho hb hg hat; have p13 : 0 ≤ (((rd_T79 l0_1 x4_1).f1) : Int) := of_decide_eq_true zA; have q13 : (((rd_T79 l0_1 x4_1).f1) : Int) < ((x3_1.length : Int) : Int) := of_decide_eq_true zA; replace p13 := eq_true p13; replace q13 := eq_true q13; obtain ⟨Ao20, co20, eo20⟩ := Kd.R_slice HO139.out; subst eo20; obtain ⟨_, _, hraw18, _, _, hcc18, _⟩ := Kd.H_raw HH16.out (of_decide_eq_true zA) (by have h_ : (((rd_T79 l0_1 x4_1).f1) : Int) < ((x3_1.length : Int) : Int) := of_decide_eq_true zA; first | exact h_ | (have e_ := (HN16.out); omega) | simpa using h_); obtain ⟨_, hfr18⟩ := Kd.H_at HH16.out (of_decide_eq_true zA) (by have h_ : (((rd_T79 l0_1 x4_1).f1) : Int) < ((x3_1.length : Int) : Int) := of_decide_eq_true zA; first | exact h_ | (have e_ := (HN16.out); omega) | simpa using h_); have hx18_0 := hcc18 0 _ rfl; have hf18_0 := hfr18 0; (try simp only [Nat.add_zero] at hx18_0 hf18_0); (try rw [show ((Kd.slice 3 (Kd.int .i64))).sz = 1 from rfl, Nat.mul_one] at hx18_0); (try rw [show ((Kd.slice 3 (Kd.int .i64))).sz = 1 from rfl, Nat.mul_one] at hf18_0); have HP18 := Kd.S_seg0 HH16.out (of_decide_eq_true zA) (by have h_ : (((rd_T79 l0_1 x4_1).f1) : Int) < ((x3_1.length : Int) : Int) := of_decide_eq_true zA; first | exact h_ | (have e_ := (HN16.out); omega) | simpa using h_) (seg := [.slice Ao20 y137.length co20]) (j := 0) (show 1 ≤ 1 from by decide) (x' := y137) (Kd.M_row HO139.out) (fun _ hk => hk); (try simp only [show ((Kd.slice 3 (Kd.int .i64))).sz = 1 from rfl, Nat.mul_one, Nat.add_zero] at HP18); clear hcc18 hfr18) | ((with_reducible refine gate_store (t := 27) (p := 42) rfl ?_); (try (rw [drewN_self w17]; generalize hq_ : World.drewN w17 _ = w17; have n0_ := zM (Kd.S_at hq_ HO_3.out); have n1_ := zM (blk_at hq_ BK130.out); have n2_ := zM (below_at hq_ HB.out); clear hq_ HO_3 BK130 HB; have HO_3 := n0_; have BK130 := n1_; have HB := n2_; clear n0_ n1_ n2_; (try (obtain ⟨Ao20, co20, eo20⟩ := Kd.R_slice HO139.out)); (try (subst eo20)); (try (obtain ⟨_, _, hraw18, _, _, hcc18, _⟩ := Kd.H_raw HH16.out (of_decide_eq_true zA) (by have h_ : (((rd_T79 l0_1 x4_1).f1) : Int) < ((x3_1.length : Int) : Int) := of_decide_eq_true zA; first | exact h_ | (have e_ := (HN16.out); omega) | simpa using h_))); (try (obtain ⟨_, hfr18⟩ := Kd.H_at HH16.out (of_decide_eq_true zA) (by have h_ : (((rd_T79 l0_1 x4_1).f1) : Int) < ((x3_1.length : Int) : Int) := of_decide_eq_true zA; first | exact h_ | (have e_ := (HN16.out); omega) | simpa using h_))); (try (have hx18_0 := hcc18 0 _ rfl)); (try (have hf18_0 := hfr18 0)); (try (try simp only [Nat.add_zero] at hx18_0 hf18_0)); (try (try rw [show ((Kd.slice 3 (Kd.int .i64))).sz = 1 from rfl, Nat.mul_one] at hx18_0)); (try (try rw [show ((Kd.slice 3 (Kd.int .i64))).sz = 1 from rfl, Nat.mul_one] at hf18_0)); (try (have HP18 := Kd.S_seg0 HH16.out (of_decide_eq_true zA) (by have h_ : (((rd_T79 l0_1 x4_1).f1) : Int) < ((x3_1.length : Int) : Int) := of_decide_eq_true zA; first | exact h_ | (have e_ := (HN16.out); omega) | simpa using h_) (seg := [.slice Ao20 y137.length co20]) (j := 0) (show 1 ≤ 1 from by decide) (x' := y137) (Kd.M_row HO139.out) (fun _ hk => hk))); (try (try simp only [show ((Kd.slice 3 (Kd.int .i64))).sz = 1 from rfl, Nat.mul_one, Nat.add_zero] at HP18)); (try (clear hcc18 hfr18)))); refine store_event (t := 27) (p := 42) (v := ?vo_w19) (w1 := (w17.setCell ⟨go16, (((rd_T79 l0_1 x4_1).f1) : Int).toNat, none⟩ (.slice Ao20 y137.length co20))) ?hg ?ho ?hn ?hr ?_; (case ho => rfl); (case hg => rfl); (case hn => rfl); (case hr => first | (go_simp; done) | (go_simp; rfl)); intro w19 hw; have hg : w17.grownBy w19 (some go16) := (by rw [hw]; exact HP18.2); have hp_ : Kd.S (Kd.slice 3 (Kd.int .i64)) 27 w19 w.heap.size (fun _ => True) (.slice (some ⟨go16, 0, none⟩) x3_1.length co15) y140 := (by rw [hw, Ny140.out]; exact HP18.1); clear HP18; replace BK130 := zM (blk_grown (g := gb130) (o := .cells #[.slice A0_0 l0_0.length c0_0, .slice (some ad134) l0_1.length c0_1] 30 (0, 0)) (zK BK130.out) hg (Kd.R_ne hraw18 BK130.out (by decide))); replace HB := zM ((by rw [hw]; exact below_set HB.out GB16.out : Below w.heap.size w w19)); have HO_3 := zM (hp_); clear HO139 HH16; clear hg hw hp_ hraw18)); try go_wp2_with (first | ((with_reducible refine gate_builtin (b := .append) (xs := #[.tmp 38, .tmp 40]) rfl ?_); at_builtin; refine Kd.R_append (Kd.int .i64) (w0 := w) w.heap.size rfl (.tmp 38) (.tmp 40) 27 3 (.int .i64 0) 8 rfl Try.underlying27 info3 rfl (by decide) (by omega) (.slice A136_0 (rd_L1 x3_1 ((rd_T79 l0_1 x4_1).f1)).length c136_0) (rd_L1 x3_1 ((rd_T79 l0_1 x4_1).f1)) ((rd_T79 l0_1 x4_1).f0) [.int .i64 ((rd_T79 l0_1 x4_1).f0)] (fun k_ => oki16 k_ ∨ ((fun _ => True)) k_ ∧ wr.heap.size ≤ k_) (fun _ => False) rfl rfl ?aP (fun _ hk => hk.elim) ?aF ?aO ?aB ?aS ?aL ?_; (case aP => exact rfl); (case aB => exact zB); (case aF => exact (fun k_ hk => .inr ⟨trivial, hk⟩)); (case aO => exact (by (with_reducible repeat (first | apply Kd.R_alloc | apply Kd.R_drewN | apply Kd.R_drew)); exact Kd.R_mono UU16.out (fun _ hk => .inl hk))); (case aS => exact (below_size zB)); (case aL => have := LMc12.out; omega); intro v138 w17 ho hb hg hat; rw [← Ny137.out] at ho; replace BK130 := zM (blk_grown (g := gb130) (o := .cells #[.slice A0_0 l0_0.length c0_0, .slice (some ad134) l0_1.length c0_1] 30 (0, 0)) (zK BK130.out) hg (Kd.R_ne HL136_0.out BK130.out (by decide))); replace HB := zM (hb); replace HH16 := zM (Kd.H_grown (Kd.H_widen (by repeat (first | exact HH16.out | refine Kd.H_alloc ?_ _ | refine Kd.H_drewN ?_ _ | refine Kd.H_drew ?_))) hg (fun k_ e_ => .inl (UU16.out.1 k_ e_))); have HO139 := zM (ho); clear HO_3 UU16 HL136_0; clear ho hb hg hat; have p13 : 0 ≤ (((rd_T79 l0_1 x4_1).f1) : Int) := of_decide_eq_true zA; have q13 : (((rd_T79 l0_1 x4_1).f1) : Int) < ((x3_1.length : Int) : Int) := of_decide_eq_true zA; replace p13 := eq_true p13; replace q13 := eq_true q13; obtain ⟨Ao20, co20, eo20⟩ := Kd.R_slice HO139.out; subst eo20; obtain ⟨_, _, hraw18, _, _, hcc18, _⟩ := Kd.H_raw HH16.out (of_decide_eq_true zA) (by have h_ : (((rd_T79 l0_1 x4_1).f1) : Int) < ((x3_1.length : Int) : Int) := of_decide_eq_true zA; first | exact h_ | (have e_ := (HN16.out); omega) | simpa using h_); obtain ⟨_, hfr18⟩ := Kd.H_at HH16.out (of_decide_eq_true zA) (by have h_ : (((rd_T79 l0_1 x4_1).f1) : Int) < ((x3_1.length : Int) : Int) := of_decide_eq_true zA; first | exact h_ | (have e_ := (HN16.out); omega) | simpa using h_); have hx18_0 := hcc18 0 _ rfl; have hf18_0 := hfr18 0; (try simp only [Nat.add_zero] at hx18_0 hf18_0); (try rw [show ((Kd.slice 3 (Kd.int .i64))).sz = 1 from rfl, Nat.mul_one] at hx18_0); (try rw [show ((Kd.slice 3 (Kd.int .i64))).sz = 1 from rfl, Nat.mul_one] at hf18_0); have HP18 := Kd.S_seg0 HH16.out (of_decide_eq_true zA) (by have h_ : (((rd_T79 l0_1 x4_1).f1) : Int) < ((x3_1.length : Int) : Int) := of_decide_eq_true zA; first | exact h_ | (have e_ := (HN16.out); omega) | simpa using h_) (seg := [.slice Ao20 y137.length co20]) (j := 0) (show 1 ≤ 1 from by decide) (x' := y137) (Kd.M_row HO139.out) (fun _ hk => hk); (try simp only [show ((Kd.slice 3 (Kd.int .i64))).sz = 1 from rfl, Nat.mul_one, Nat.add_zero] at HP18); clear hcc18 hfr18) | ((with_reducible refine gate_store (t := 27) (p := 42) rfl ?_); (try (rw [drewN_self w17]; generalize hq_ : World.drewN w17 _ = w17; have n0_ := zM (Kd.S_at hq_ HO_3.out); have n1_ := zM (blk_at hq_ BK130.out); have n2_ := zM (below_at hq_ HB.out); clear hq_ HO_3 BK130 HB; have HO_3 := n0_; have BK130 := n1_; have HB := n2_; clear n0_ n1_ n2_; (try (obtain ⟨Ao20, co20, eo20⟩ := Kd.R_slice HO139.out)); (try (subst eo20)); (try (obtain ⟨_, _, hraw18, _, _, hcc18, _⟩ := Kd.H_raw HH16.out (of_decide_eq_true zA) (by have h_ : (((rd_T79 l0_1 x4_1).f1) : Int) < ((x3_1.length : Int) : Int) := of_decide_eq_true zA; first | exact h_ | (have e_ := (HN16.out); omega) | simpa using h_))); (try (obtain ⟨_, hfr18⟩ := Kd.H_at HH16.out (of_decide_eq_true zA) (by have h_ : (((rd_T79 l0_1 x4_1).f1) : Int) < ((x3_1.length : Int) : Int) := of_decide_eq_true zA; first | exact h_ | (have e_ := (HN16.out); omega) | simpa using h_))); (try (have hx18_0 := hcc18 0 _ rfl)); (try (have hf18_0 := hfr18 0)); (try (try simp only [Nat.add_zero] at hx18_0 hf18_0)); (try (try rw [show ((Kd.slice 3 (Kd.int .i64))).sz = 1 from rfl, Nat.mul_one] at hx18_0)); (try (try rw [show ((Kd.slice 3 (Kd.int .i64))).sz = 1 from rfl, Nat.mul_one] at hf18_0)); (try (have HP18 := Kd.S_seg0 HH16.out (of_decide_eq_true zA) (by have h_ : (((rd_T79 l0_1 x4_1).f1) : Int) < ((x3_1.length : Int) : Int) := of_decide_eq_true zA; first | exact h_ | (have e_ := (HN16.out); omega) | simpa using h_) (seg := [.slice Ao20 y137.length co20]) (j := 0) (show 1 ≤ 1 from by decide) (x' := y137) (Kd.M_row HO139.out) (fun _ hk => hk))); (try (try simp only [show ((Kd.slice 3 (Kd.int .i64))).sz = 1 from rfl, Nat.mul_one, Nat.add_zero] at HP18)); (try (clear hcc18 hfr18)))); refine store_event (t := 27) (p := 42) (v := ?vo_w19) (w1 := (w17.setCell ⟨go16, (((rd_T79 l0_1 x4_1).f1) : Int).toNat, none⟩ (.slice Ao20 y137.length co20))) ?hg ?ho ?hn ?hr ?_; (case ho => rfl); (case hg => rfl); (case hn => rfl); (case hr => first | (go_simp; done) | (go_simp; rfl)); intro w19 hw; have hg : w17.grownBy w19 (some go16) := (by rw [hw]; exact HP18.2); have hp_ : Kd.S (Kd.slice 3 (Kd.int .i64)) 27 w19 w.heap.size (fun _ => True) (.slice (some ⟨go16, 0, none⟩) x3_1.length co15) y140 := (by rw [hw, Ny140.out]; exact HP18.1); clear HP18; replace BK130 := zM (blk_grown (g := gb130) (o := .cells #[.slice A0_0 l0_0.length c0_0, .slice (some ad134) l0_1.length c0_1] 30 (0, 0)) (zK BK130.out) hg (Kd.R_ne hraw18 BK130.out (by decide))); replace HB := zM ((by rw [hw]; exact below_set HB.out GB16.out : Below w.heap.size w w19)); have HO_3 := zM (hp_); clear HO139 HH16; clear hg hw hp_ hraw18)))
                 go_roundg k1
                 case measure => have := HK1.out; omega
                 case rel => exact ⟨(y140), (wrap64 (x4_1 + 1)), (by first | rfl | (simp; done) | (simp [*]; done)), H', ⟨by have := HK1.out; omega⟩, ⟨by (with_reducible repeat (first | apply Kd.S_alloc | apply Kd.S_drewN | apply Kd.S_drew)); exact HO_3.out⟩, ⟨zK BK130.out⟩, ⟨zB⟩⟩
               · rw [if_neg c12] at H
                 exact absurd H (by simp)
             · rw [if_neg c11] at H
               exact absurd H (by simp)
           · rw [if_neg c10] at H
             exact absurd H (by simp)
         · rw [if_neg c9] at H
           exact absurd H (by simp)
       · rw [if_neg c8] at H
         have c8b0 : decide (x4_1 < (l0_1.length : Int)) = false := decide_eq_false c8
         clear c8
         have H' := Aside0.mk H
         clear H
         have hcz21_0 := zy BK130 0
         have hcz21_1 := zy BK130 1
         have hfz21_0 := blk_frozen BK130.out 0
         have hfz21_1 := blk_frozen BK130.out 1
         go_wp2
         repeat (go_quiet (fail); try go_wp2)
         go_loopg [7] k1 (fun kq v7 w' => ∃ (x3_2 : List (List Int)) (x7_2 : Int), v7 = .int .i64 x7_2 ∧ Aside0 (spec_l2Lists.l1 kq x3_2 x7_2 l0_0 l0_1 = some r) ∧ Aside0 (kq ≤ k1) ∧ Aside0 (Kd.S (Kd.slice 3 (Kd.int .i64)) 27 w' w.heap.size (fun _ => True) v132 x3_2) ∧ Aside0 (w'.heap[gb130]? = some (.cells #[(.slice A0_0 l0_0.length c0_0), (.slice A0_1 l0_1.length c0_1)] 30 (0, 0))) ∧ Aside0 (Below w.heap.size w w'))
         case atStart => exact ⟨(x3_1), (0), (by first | rfl | (simp; done) | (simp [*]; done)), H', ⟨Nat.le_refl _⟩, ⟨by (with_reducible repeat (first | apply Kd.S_alloc | apply Kd.S_drewN | apply Kd.S_drew)); exact HO_3.out⟩, ⟨zK BK130.out⟩, ⟨zB⟩⟩
         case round =>
          clear H'
          try clear c1
          try clear p1
          try clear q1
          try clear hx1
          try clear hf1
          try clear c2
          try clear c2b0
          try clear c2b1
          try clear p2
          try clear c3
          try clear c3b0
          try clear c3b1
          try clear p6
          try clear c7
          try clear c8
          try clear c8b0
          try clear c9
          try clear c9b0
          try clear c10
          try clear c10b0
          try clear c11
          try clear c11b0
          try clear c12
          try clear c13
          try clear p13
          try clear q13
          try clear hx13
          try clear c16
          try clear c18
          try clear hx18
          try clear hf18
          try clear hcz14_0
          try clear hcz14_1
          try clear hcz21_0
          try clear hcz21_1
          try clear hcz5_0
          try clear hcz5_1
          try clear hfz14_0
          try clear hfz14_1
          try clear hfz21_0
          try clear hfz21_1
          try clear hfz5_0
          try clear hfz5_1
          try clear hx134_0
          try clear hx134_1
          try clear hx135_0
          try clear hx135_1
          try clear hx136_0
          try clear hx18_0
          try clear p13
          try clear p134
          try clear p135
          try clear p136
          try clear p2
          try clear q13
          try clear q134
          try clear q135
          try clear q136
          obtain ⟨x3_2, x7_2, rfl, HA, HK2, HO_3, BK130, HB⟩ := hrel
          cases gk with
          | zero => exact absurd HA.out (by simp [spec_l2Lists.l1])
          | succ k2 =>
           have H := HA.out
           clear HA
           simp only [spec_l2Lists.l1] at H
           by_cases c22 : x7_2 < (l0_1.length : Int)
           · rw [if_pos c22] at H
             have c22b0 := decide_eq_true c22
             clear c22
             by_cases c23 : 0 ≤ x7_2
             · rw [if_pos c23] at H
               have c23b0 := decide_eq_true c23
               clear c23
               by_cases c24 : 0 ≤ ((rd_T79 l0_1 x7_2).f0)
               · rw [if_pos c24] at H
                 have c24b0 := decide_eq_true c24
                 clear c24
                 by_cases c25 : ((rd_T79 l0_1 x7_2).f0) < (x3_2.length : Int)
                 · rw [if_pos c25] at H
                   have c25b0 := decide_eq_true c25
                   clear c25
                   by_cases c26 : (rd_L1 x3_2 ((rd_T79 l0_1 x7_2).f0)).length < 17592186044416
                   · rw [if_pos c26] at H
                     have LMc26 := Aside0.mk c26
                     clear c26
                     obtain ⟨y144, hy144⟩ : ∃ y_ : List Int, y_ = ((rd_L1 x3_2 ((rd_T79 l0_1 x7_2).f0)) ++ [(rd_T79 l0_1 x7_2).f1]) := ⟨_, rfl⟩
                     replace H : (spec_l2Lists.l1 k2 (x3_2.set (((rd_T79 l0_1 x7_2).f0) : Int).toNat y144) (wrap64 (x7_2 + 1)) l0_0 l0_1) = some r := by first | (rw [hy144]; with_reducible exact H) | (have H2_ := (Option.bind_some _ _).symm.trans H; rw [hy144]; with_reducible exact H2_) | (have H2_ := (Option.bind_some _ _).symm.trans H; with_reducible exact H2_) | with_reducible exact H | (rw [hy144]; exact H) | exact H
                     have Ny144 := Aside0.mk hy144
                     clear hy144
                     obtain ⟨y147, hy147⟩ : ∃ y_ : List (List Int), y_ = (x3_2.set (((rd_T79 l0_1 x7_2).f0) : Int).toNat y144) := ⟨_, rfl⟩
                     replace H : (spec_l2Lists.l1 k2 y147 (wrap64 (x7_2 + 1)) l0_0 l0_1) = some r := by first | (rw [hy147]; with_reducible exact H) | (have H2_ := (Option.bind_some _ _).symm.trans H; rw [hy147]; with_reducible exact H2_) | (have H2_ := (Option.bind_some _ _).symm.trans H; with_reducible exact H2_) | with_reducible exact H | (rw [hy147]; exact H) | exact H
                     have Ny147 := Aside0.mk hy147
                     clear hy147
                     have H' := Aside0.mk H
                     clear H
                     have hcz28_0 := zy BK130 0
                     have hcz28_1 := zy BK130 1
                     have hfz28_0 := blk_frozen BK130.out 0
                     have hfz28_1 := blk_frozen BK130.out 1
                     have p141 : 0 ≤ (x7_2 : Int) := of_decide_eq_true zA
                     have q141 : x7_2 < (l0_1.length : Int) := of_decide_eq_true zA
                     obtain ⟨ad141, e141, hx141_0, hx141_1⟩ := at_T79 HR0_1.out x7_2 p141 q141
                     cases e141
                     (try replace hx141_0 := (HB.out.cell (World.block_lt_of_cell? w _ hx141_0)).trans hx141_0)
                     (try replace hx141_1 := (HB.out.cell (World.block_lt_of_cell? w _ hx141_1)).trans hx141_1)
                     replace p141 := eq_true p141
                     replace q141 := eq_true q141
                     have p142 : 0 ≤ (x7_2 : Int) := of_decide_eq_true zA
                     have q142 : x7_2 < (l0_1.length : Int) := of_decide_eq_true zA
                     obtain ⟨ad142, e142, hx142_0, hx142_1⟩ := at_T79 HR0_1.out x7_2 p142 q142
                     obtain rfl : ad141 = ad142 := (by injection e142)
                     (try replace hx142_0 := (HB.out.cell (World.block_lt_of_cell? w _ hx142_0)).trans hx142_0)
                     (try replace hx142_1 := (HB.out.cell (World.block_lt_of_cell? w _ hx142_1)).trans hx142_1)
                     replace p142 := eq_true p142
                     replace q142 := eq_true q142
                     obtain ⟨Ao29, co29, eo29⟩ := Kd.S_slice HO_3.out
                     subst eo29
                     have p143 : 0 ≤ (((rd_T79 l0_1 x7_2).f0) : Int) := of_decide_eq_true zA
                     have q143 : ((rd_T79 l0_1 x7_2).f0) < (x3_2.length : Int) := of_decide_eq_true zA
                     obtain ⟨ad143, A143_0, c143_0, e143, hx143_0, hl143_0, hi143_0⟩ := at_L1 (Kd.S_reads' HO_3.out).2.2 ((rd_T79 l0_1 x7_2).f0) p143 q143
                     cases e143
                     obtain ⟨ce143, hce143, hMe143, hcc143⟩ := Kd.S_get HO_3.out [] ((rd_T79 l0_1 x7_2).f0) p143 (by first | exact q143 | exact of_decide_eq_true zA | (have e_ := (Kd.S_reads' HO_3.out).1; omega))
                     obtain ⟨ve143_0, rfl, ge143_0⟩ := hMe143
                     have hv143_0 := hcc143 0 _ rfl
                     rw [Nat.add_zero, show ((Kd.slice 3 (Kd.int .i64))).sz = 1 from rfl, Nat.mul_one] at hv143_0
                     replace hv143_0 := Option.some.inj (hv143_0.symm.trans hx143_0)
                     rw [hv143_0] at ge143_0
                     have HL143_0 := zM (show Kd.R (Kd.int .i64) 3 _ _ _ _ (rd_L1 x3_2 ((rd_T79 l0_1 x7_2).f0)) from ge143_0)
                     clear hv143_0 ge143_0
                     have HX143_0 := Aside0.mk hx143_0
                     clear hcc143 hce143
                     have HR143_0 := Aside0.mk hi143_0
                     have HC143_0 := Aside0.mk hl143_0
                     clear hi143_0 hl143_0
                     replace p143 := eq_true p143
                     replace q143 := eq_true q143
                     obtain ⟨go30, co30, eo30, gb30, gl30, cl30, HG30⟩ := Kd.S_form HO_3.out (by have h_ : (((rd_T79 l0_1 x7_2).f0) : Int) < ((x3_2.length : Int) : Int) := of_decide_eq_true zA; have h2_ : 0 ≤ (((rd_T79 l0_1 x7_2).f0) : Int) := (of_decide_eq_true zA); omega)
                     (first | cases eo30 | (injection eo30 with ea_ en_ ec_; (first | subst ea_ | (injection ea_ with ea_; subst ea_)); subst ec_; clear en_))
                     have GB30 := Aside0.mk gb30
                     have GG30 := Aside0.mk HG30
                     clear gb30 gl30 HG30
                     (first | simp only [add_plain] at hx143_0 | skip)
                     obtain ⟨oki30, ce30, hcl30, hM30, hcc30, _, _, hH30⟩ := Kd.S_elem HO_3.out [] (((rd_T79 l0_1 x7_2).f0) : Int) (of_decide_eq_true zA) (by have h_ : (((rd_T79 l0_1 x7_2).f0) : Int) < ((x3_2.length : Int) : Int) := of_decide_eq_true zA; first | exact h_ | (have e_ := (Kd.S_reads' HO_3.out).1; omega) | simpa using h_)
                     obtain ⟨ve30_0, rfl, ge30_0⟩ := hM30
                     have hv30 := hcc30 0 _ rfl
                     have hX30 := HX143_0.out
                     (try simp only [add_plain] at hX30)
                     (try simp only [Nat.add_zero] at hv30)
                     (try rw [show ((Kd.slice 3 (Kd.int .i64))).sz = 1 from rfl, Nat.mul_one] at hv30)
                     replace hv30 := Option.some.inj (hv30.symm.trans hX30)
                     subst hv30
                     clear hX30 hcc30 hcl30
                     have UU30 := zM (show Kd.R (Kd.int .i64) 3 _ w.heap.size oki30 (.slice A143_0 (rd_L1 x3_2 ((rd_T79 l0_1 x7_2).f0)).length c143_0) (rd_L1 x3_2 ((rd_T79 l0_1 x7_2).f0)) from ge30_0)
                     have HH30 := Aside0.mk hH30
                     have HN30 := zM (Kd.S_reads' HO_3.out).1
                     clear hH30 ge30_0
                     go_wp2_with (first | ((with_reducible refine gate_builtin (b := .append) (xs := #[.tmp 67, .tmp 69]) rfl ?_); at_builtin; refine Kd.R_append (Kd.int .i64) (w0 := w) w.heap.size rfl (.tmp 67) (.tmp 69) 27 3 (.int .i64 0) 8 rfl Try.underlying27 info3 rfl (by decide) (by omega) (.slice A143_0 (rd_L1 x3_2 ((rd_T79 l0_1 x7_2).f0)).length c143_0) (rd_L1 x3_2 ((rd_T79 l0_1 x7_2).f0)) ((rd_T79 l0_1 x7_2).f1) [.int .i64 ((rd_T79 l0_1 x7_2).f1)] (fun k_ => oki30 k_ ∨ ((fun _ => True)) k_ ∧ wr.heap.size ≤ k_) (fun _ => False) rfl rfl ?aP (fun _ hk => hk.elim) ?aF ?aO ?aB ?aS ?aL ?_; (case aP => exact rfl); (case aB => exact zB); (case aF => exact (fun k_ hk => .inr ⟨trivial, hk⟩)); (case aO => exact (by (with_reducible repeat (first | apply Kd.R_alloc | apply Kd.R_drewN | apply Kd.R_drew)); exact Kd.R_mono UU30.out (fun _ hk => .inl hk))); (case aS => exact (below_size zB)); (case aL => have := LMc26.out; omega); intro v145 w31 ho hb hg hat; rw [← Ny144.out] at ho; replace BK130 := zM (blk_grown (g := gb130) (o := .cells #[.slice A0_0 l0_0.length c0_0, .slice (some ad141) l0_1.length c0_1] 30 (0, 0)) (zK BK130.out) hg (Kd.R_ne HL143_0.out BK130.out (by decide))); replace HB := zM (hb); replace HH30 := zM (Kd.H_grown (Kd.H_widen (by repeat (first | exact HH30.out | refine Kd.H_alloc ?_ _ | refine Kd.H_drewN ?_ _ | refine Kd.H_drew ?_))) hg (fun k_ e_ => .inl (UU30.out.1 k_ e_))); have HO146 := zM (ho); clear HO_3 UU30 HL143_0; clear ho hb hg hat; have p27 : 0 ≤ (((rd_T79 l0_1 x7_2).f0) : Int) := of_decide_eq_true zA; have q27 : (((rd_T79 l0_1 x7_2).f0) : Int) < ((x3_2.length : Int) : Int) := of_decide_eq_true zA; replace p27 := eq_true p27; replace q27 := eq_true q27; obtain ⟨Ao34, co34, eo34⟩ := Kd.R_slice HO146.out; subst eo34; obtain ⟨_, _, hraw32, _, _, hcc32, _⟩ := Kd.H_raw HH30.out (of_decide_eq_true zA) (by have h_ : (((rd_T79 l0_1 x7_2).f0) : Int) < ((x3_2.length : Int) : Int) := of_decide_eq_true zA; first | exact h_ | (have e_ := (HN30.out); omega) | simpa using h_); obtain ⟨_, hfr32⟩ := Kd.H_at HH30.out (of_decide_eq_true zA) (by have h_ : (((rd_T79 l0_1 x7_2).f0) : Int) < ((x3_2.length : Int) : Int) := of_decide_eq_true zA; first | exact h_ | (have e_ := (HN30.out); omega) | simpa using h_); have hx32_0 := hcc32 0 _ rfl; have hf32_0 := hfr32 0; (try simp only [Nat.add_zero] at hx32_0 hf32_0); (try rw [show ((Kd.slice 3 (Kd.int .i64))).sz = 1 from rfl, Nat.mul_one] at hx32_0); (try rw [show ((Kd.slice 3 (Kd.int .i64))).sz = 1 from rfl, Nat.mul_one] at hf32_0); have HP32 := Kd.S_seg0 HH30.out (of_decide_eq_true zA) (by have h_ : (((rd_T79 l0_1 x7_2).f0) : Int) < ((x3_2.length : Int) : Int) := of_decide_eq_true zA; first | exact h_ | (have e_ := (HN30.out); omega) | simpa using h_) (seg := [.slice Ao34 y144.length co34]) (j := 0) (show 1 ≤ 1 from by decide) (x' := y144) (Kd.M_row HO146.out) (fun _ hk => hk); (try simp only [show ((Kd.slice 3 (Kd.int .i64))).sz = 1 from rfl, Nat.mul_one, Nat.add_zero] at HP32); clear hcc32 hfr32) | ((with_reducible refine gate_store (t := 27) (p := 71) rfl ?_); (try (rw [drewN_self w31]; generalize hq_ : World.drewN w31 _ = w31; have n0_ := zM (Kd.S_at hq_ HO_3.out); have n1_ := zM (blk_at hq_ BK130.out); have n2_ := zM (below_at hq_ HB.out); clear hq_ HO_3 BK130 HB; have HO_3 := n0_; have BK130 := n1_; have HB := n2_; clear n0_ n1_ n2_; (try (obtain ⟨Ao34, co34, eo34⟩ := Kd.R_slice HO146.out)); (try (subst eo34)); (try (obtain ⟨_, _, hraw32, _, _, hcc32, _⟩ := Kd.H_raw HH30.out (of_decide_eq_true zA) (by have h_ : (((rd_T79 l0_1 x7_2).f0) : Int) < ((x3_2.length : Int) : Int) := of_decide_eq_true zA; first | exact h_ | (have e_ := (HN30.out); omega) | simpa using h_))); (try (obtain ⟨_, hfr32⟩ := Kd.H_at HH30.out (of_decide_eq_true zA) (by have h_ : (((rd_T79 l0_1 x7_2).f0) : Int) < ((x3_2.length : Int) : Int) := of_decide_eq_true zA; first | exact h_ | (have e_ := (HN30.out); omega) | simpa using h_))); (try (have hx32_0 := hcc32 0 _ rfl)); (try (have hf32_0 := hfr32 0)); (try (try simp only [Nat.add_zero] at hx32_0 hf32_0)); (try (try rw [show ((Kd.slice 3 (Kd.int .i64))).sz = 1 from rfl, Nat.mul_one] at hx32_0)); (try (try rw [show ((Kd.slice 3 (Kd.int .i64))).sz = 1 from rfl, Nat.mul_one] at hf32_0)); (try (have HP32 := Kd.S_seg0 HH30.out (of_decide_eq_true zA) (by have h_ : (((rd_T79 l0_1 x7_2).f0) : Int) < ((x3_2.length : Int) : Int) := of_decide_eq_true zA; first | exact h_ | (have e_ := (HN30.out); omega) | simpa using h_) (seg := [.slice Ao34 y144.length co34]) (j := 0) (show 1 ≤ 1 from by decide) (x' := y144) (Kd.M_row HO146.out) (fun _ hk => hk))); (try (try simp only [show ((Kd.slice 3 (Kd.int .i64))).sz = 1 from rfl, Nat.mul_one, Nat.add_zero] at HP32)); (try (clear hcc32 hfr32)))); refine store_event (t := 27) (p := 71) (v := ?vo_w33) (w1 := (w31.setCell ⟨go30, (((rd_T79 l0_1 x7_2).f0) : Int).toNat, none⟩ (.slice Ao34 y144.length co34))) ?hg ?ho ?hn ?hr ?_; (case ho => rfl); (case hg => rfl); (case hn => rfl); (case hr => first | (go_simp; done) | (go_simp; rfl)); intro w33 hw; have hg : w31.grownBy w33 (some go30) := (by rw [hw]; exact HP32.2); have hp_ : Kd.S (Kd.slice 3 (Kd.int .i64)) 27 w33 w.heap.size (fun _ => True) (.slice (some ⟨go30, 0, none⟩) x3_2.length co29) y147 := (by rw [hw, Ny147.out]; exact HP32.1); clear HP32; replace BK130 := zM (blk_grown (g := gb130) (o := .cells #[.slice A0_0 l0_0.length c0_0, .slice (some ad141) l0_1.length c0_1] 30 (0, 0)) (zK BK130.out) hg (Kd.R_ne hraw32 BK130.out (by decide))); replace HB := zM ((by rw [hw]; exact below_set HB.out GB30.out : Below w.heap.size w w33)); have HO_3 := zM (hp_); clear HO146 HH30; clear hg hw hp_ hraw32))
                     repeat (go_quiet (first | ((with_reducible refine gate_builtin (b := .append) (xs := #[.tmp 67, .tmp 69]) rfl ?_); at_builtin; refine Kd.R_append (Kd.int .i64) (w0 := w) w.heap.size rfl (.tmp 67) (.tmp 69) 27 3 (.int .i64 0) 8 rfl Try.underlying27 info3 rfl (by decide) (by omega) (.slice A143_0 (rd_L1 x3_2 ((rd_T79 l0_1 x7_2).f0)).length c143_0) (rd_L1 x3_2 ((rd_T79 l0_1 x7_2).f0)) ((rd_T79 l0_1 x7_2).f1) [.int .i64 ((rd_T79 l0_1 x7_2).f1)] (fun k_ => oki30 k_ ∨ ((fun _ => True)) k_ ∧ wr.heap.size ≤ k_) (fun _ => False) rfl rfl ?aP (fun _ hk => hk.elim) ?aF ?aO ?aB ?aS ?aL ?_; (case aP => exact rfl); (case aB => exact zB); (case aF => exact (fun k_ hk => .inr ⟨trivial, hk⟩)); (case aO => exact (by (with_reducible repeat (first | apply Kd.R_alloc | apply Kd.R_drewN | apply Kd.R_drew)); exact Kd.R_mono UU30.out (fun _ hk => .inl hk))); (case aS => exact (below_size zB)); (case aL => have := LMc26.out; omega); intro v145 w31 ho hb hg hat; rw [← Ny144.out] at ho; replace BK130 := zM (blk_grown (g := gb130) (o := .cells #[.slice A0_0 l0_0.length c0_0, .slice (some ad141) l0_1.length c0_1] 30 (0, 0)) (zK BK130.out) hg (Kd.R_ne HL143_0.out BK130.out (by decide))); replace HB := zM (hb); replace HH30 := zM (Kd.H_grown (Kd.H_widen (by repeat (first | exact HH30.out | refine Kd.H_alloc ?_ _ | refine Kd.H_drewN ?_ _ | refine Kd.H_drew ?_))) hg (fun k_ e_ => .inl (UU30.out.1 k_ e_))); have HO146 := zM (ho); clear HO_3 UU30 HL143_0; clear ho hb hg hat; have p27 : 0 ≤ (((rd_T79 l0_1 x7_2).f0) : Int) := of_decide_eq_true zA; have q27 : (((rd_T79 l0_1 x7_2).f0) : Int) < ((x3_2.length : Int) : Int) := of_decide_eq_true zA; replace p27 := eq_true p27; replace q27 := eq_true q27; obtain ⟨Ao34, co34, eo34⟩ := Kd.R_slice HO146.out; subst eo34; obtain ⟨_, _, hraw32, _, _, hcc32, _⟩ := Kd.H_raw HH30.out (of_decide_eq_true zA) (by have h_ : (((rd_T79 l0_1 x7_2).f0) : Int) < ((x3_2.length : Int) : Int) := of_decide_eq_true zA; first | exact h_ | (have e_ := (HN30.out); omega) | simpa using h_); obtain ⟨_, hfr32⟩ := Kd.H_at HH30.out (of_decide_eq_true zA) (by have h_ : (((rd_T79 l0_1 x7_2).f0) : Int) < ((x3_2.length : Int) : Int) := of_decide_eq_true zA; first | exact h_ | (have e_ := (HN30.out); omega) | simpa using h_); have hx32_0 := hcc32 0 _ rfl; have hf32_0 := hfr32 0; (try simp only [Nat.add_zero] at hx32_0 hf32_0); (try rw [show ((Kd.slice 3 (Kd.int .i64))).sz = 1 from rfl, Nat.mul_one] at hx32_0); (try rw [show ((Kd.slice 3 (Kd.int .i64))).sz = 1 from rfl, Nat.mul_one] at hf32_0); have HP32 := Kd.S_seg0 HH30.out (of_decide_eq_true zA) (by have h_ : (((rd_T79 l0_1 x7_2).f0) : Int) < ((x3_2.length : Int) : Int) := of_decide_eq_true zA; first | exact h_ | (have e_ := (HN30.out); omega) | simpa using h_) (seg := [.slice Ao34 y144.length co34]) (j := 0) (show 1 ≤ 1 from by decide) (x' := y144) (Kd.M_row HO146.out) (fun _ hk => hk); (try simp only [show ((Kd.slice 3 (Kd.int .i64))).sz = 1 from rfl, Nat.mul_one, Nat.add_zero] at HP32); clear hcc32 hfr32) | ((with_reducible refine gate_store (t := 27) (p := 71) rfl ?_); (try (rw [drewN_self w31]; generalize hq_ : World.drewN w31 _ = w31; have n0_ := zM (Kd.S_at hq_ HO_3.out); have n1_ := zM (blk_at hq_ BK130.out); have n2_ := zM (below_at hq_ HB.out); clear hq_ HO_3 BK130 HB; have HO_3 := n0_; have BK130 := n1_; have HB := n2_; clear n0_ n1_ n2_; (try (obtain ⟨Ao34, co34, eo34⟩ := Kd.R_slice HO146.out)); (try (subst eo34)); (try (obtain ⟨_, _, hraw32, _, _, hcc32, _⟩ := Kd.H_raw HH30.out (of_decide_eq_true zA) (by have h_ : (((rd_T79 l0_1 x7_2).f0) : Int) < ((x3_2.length : Int) : Int) := of_decide_eq_true zA; first | exact h_ | (have e_ := (HN30.out); omega) | simpa using h_))); (try (obtain ⟨_, hfr32⟩ := Kd.H_at HH30.out (of_decide_eq_true zA) (by have h_ : (((rd_T79 l0_1 x7_2).f0) : Int) < ((x3_2.length : Int) : Int) := of_decide_eq_true zA; first | exact h_ | (have e_ := (HN30.out); omega) | simpa using h_))); (try (have hx32_0 := hcc32 0 _ rfl)); (try (have hf32_0 := hfr32 0)); (try (try simp only [Nat.add_zero] at hx32_0 hf32_0)); (try (try rw [show ((Kd.slice 3 (Kd.int .i64))).sz = 1 from rfl, Nat.mul_one] at hx32_0)); (try (try rw [show ((Kd.slice 3 (Kd.int .i64))).sz = 1 from rfl, Nat.mul_one] at hf32_0)); (try (have HP32 := Kd.S_seg0 HH30.out (of_decide_eq_true zA) (by have h_ : (((rd_T79 l0_1 x7_2).f0) : Int) < ((x3_2.length : Int) : Int) := of_decide_eq_true zA; first | exact h_ | (have e_ := (HN30.out); omega) | simpa using h_) (seg := [.slice Ao34 y144.length co34]) (j := 0) (show 1 ≤ 1 from by decide) (x' := y144) (Kd.M_row HO146.out) (fun _ hk => hk))); (try (try simp only [show ((Kd.slice 3 (Kd.int .i64))).sz = 1 from rfl, Nat.mul_one, Nat.add_zero] at HP32)); (try (clear hcc32 hfr32)))); refine store_event (t := 27) (p := 71) (v := ?vo_w33) (w1 := (w31.setCell ⟨go30, (((rd_T79 l0_1 x7_2).f0) : Int).toNat, none⟩ (.slice Ao34 y144.length co34))) ?hg ?ho ?hn ?hr ?_; (case ho => rfl); (case hg => rfl); (case hn => rfl); (case hr => first | (go_simp; done) | (go_simp; rfl)); intro w33 hw; have hg : w31.grownBy w33 (some go30) := (by rw [hw]; exact HP32.2); have hp_ : Kd.S (Kd.slice 3 (Kd.int .i64)) 27 w33 w.heap.size (fun _ => True) (.slice (some ⟨go30, 0, none⟩) x3_2.length co29) y147 := (by rw [hw, Ny147.out]; exact HP32.1); clear HP32; replace BK130 := zM (blk_grown (g := gb130) (o := .cells #[.slice A0_0 l0_0.length c0_0, .slice (some ad141) l0_1.length c0_1] 30 (0, 0)) (zK BK130.out) hg (Kd.R_ne hraw32 BK130.out (by decide))); replace HB := zM ((by rw [hw]; exact below_set HB.out GB30.out : Below w.heap.size w w33)); have HO_3 := zM (hp_); clear HO146 HH30; clear hg hw hp_ hraw32)); try go_wp2_with (first | ((with_reducible refine gate_builtin (b := .append) (xs := #[.tmp 67, .tmp 69]) rfl ?_); at_builtin; refine Kd.R_append (Kd.int .i64) (w0 := w) w.heap.size rfl (.tmp 67) (.tmp 69) 27 3 (.int .i64 0) 8 rfl Try.underlying27 info3 rfl (by decide) (by omega) (.slice A143_0 (rd_L1 x3_2 ((rd_T79 l0_1 x7_2).f0)).length c143_0) (rd_L1 x3_2 ((rd_T79 l0_1 x7_2).f0)) ((rd_T79 l0_1 x7_2).f1) [.int .i64 ((rd_T79 l0_1 x7_2).f1)] (fun k_ => oki30 k_ ∨ ((fun _ => True)) k_ ∧ wr.heap.size ≤ k_) (fun _ => False) rfl rfl ?aP (fun _ hk => hk.elim) ?aF ?aO ?aB ?aS ?aL ?_; (case aP => exact rfl); (case aB => exact zB); (case aF => exact (fun k_ hk => .inr ⟨trivial, hk⟩)); (case aO => exact (by (with_reducible repeat (first | apply Kd.R_alloc | apply Kd.R_drewN | apply Kd.R_drew)); exact Kd.R_mono UU30.out (fun _ hk => .inl hk))); (case aS => exact (below_size zB)); (case aL => have := LMc26.out; omega); intro v145 w31 ho hb hg hat; rw [← Ny144.out] at ho; replace BK130 := zM (blk_grown (g := gb130) (o := .cells #[.slice A0_0 l0_0.length c0_0, .slice (some ad141) l0_1.length c0_1] 30 (0, 0)) (zK BK130.out) hg (Kd.R_ne HL143_0.out BK130.out (by decide))); replace HB := zM (hb); replace HH30 := zM (Kd.H_grown (Kd.H_widen (by repeat (first | exact HH30.out | refine Kd.H_alloc ?_ _ | refine Kd.H_drewN ?_ _ | refine Kd.H_drew ?_))) hg (fun k_ e_ => .inl (UU30.out.1 k_ e_))); have HO146 := zM (ho); clear HO_3 UU30 HL143_0; clear ho hb hg hat; have p27 : 0 ≤ (((rd_T79 l0_1 x7_2).f0) : Int) := of_decide_eq_true zA; have q27 : (((rd_T79 l0_1 x7_2).f0) : Int) < ((x3_2.length : Int) : Int) := of_decide_eq_true zA; replace p27 := eq_true p27; replace q27 := eq_true q27; obtain ⟨Ao34, co34, eo34⟩ := Kd.R_slice HO146.out; subst eo34; obtain ⟨_, _, hraw32, _, _, hcc32, _⟩ := Kd.H_raw HH30.out (of_decide_eq_true zA) (by have h_ : (((rd_T79 l0_1 x7_2).f0) : Int) < ((x3_2.length : Int) : Int) := of_decide_eq_true zA; first | exact h_ | (have e_ := (HN30.out); omega) | simpa using h_); obtain ⟨_, hfr32⟩ := Kd.H_at HH30.out (of_decide_eq_true zA) (by have h_ : (((rd_T79 l0_1 x7_2).f0) : Int) < ((x3_2.length : Int) : Int) := of_decide_eq_true zA; first | exact h_ | (have e_ := (HN30.out); omega) | simpa using h_); have hx32_0 := hcc32 0 _ rfl; have hf32_0 := hfr32 0; (try simp only [Nat.add_zero] at hx32_0 hf32_0); (try rw [show ((Kd.slice 3 (Kd.int .i64))).sz = 1 from rfl, Nat.mul_one] at hx32_0); (try rw [show ((Kd.slice 3 (Kd.int .i64))).sz = 1 from rfl, Nat.mul_one] at hf32_0); have HP32 := Kd.S_seg0 HH30.out (of_decide_eq_true zA) (by have h_ : (((rd_T79 l0_1 x7_2).f0) : Int) < ((x3_2.length : Int) : Int) := of_decide_eq_true zA; first | exact h_ | (have e_ := (HN30.out); omega) | simpa using h_) (seg := [.slice Ao34 y144.length co34]) (j := 0) (show 1 ≤ 1 from by decide) (x' := y144) (Kd.M_row HO146.out) (fun _ hk => hk); (try simp only [show ((Kd.slice 3 (Kd.int .i64))).sz = 1 from rfl, Nat.mul_one, Nat.add_zero] at HP32); clear hcc32 hfr32) | ((with_reducible refine gate_store (t := 27) (p := 71) rfl ?_); (try (rw [drewN_self w31]; generalize hq_ : World.drewN w31 _ = w31; have n0_ := zM (Kd.S_at hq_ HO_3.out); have n1_ := zM (blk_at hq_ BK130.out); have n2_ := zM (below_at hq_ HB.out); clear hq_ HO_3 BK130 HB; have HO_3 := n0_; have BK130 := n1_; have HB := n2_; clear n0_ n1_ n2_; (try (obtain ⟨Ao34, co34, eo34⟩ := Kd.R_slice HO146.out)); (try (subst eo34)); (try (obtain ⟨_, _, hraw32, _, _, hcc32, _⟩ := Kd.H_raw HH30.out (of_decide_eq_true zA) (by have h_ : (((rd_T79 l0_1 x7_2).f0) : Int) < ((x3_2.length : Int) : Int) := of_decide_eq_true zA; first | exact h_ | (have e_ := (HN30.out); omega) | simpa using h_))); (try (obtain ⟨_, hfr32⟩ := Kd.H_at HH30.out (of_decide_eq_true zA) (by have h_ : (((rd_T79 l0_1 x7_2).f0) : Int) < ((x3_2.length : Int) : Int) := of_decide_eq_true zA; first | exact h_ | (have e_ := (HN30.out); omega) | simpa using h_))); (try (have hx32_0 := hcc32 0 _ rfl)); (try (have hf32_0 := hfr32 0)); (try (try simp only [Nat.add_zero] at hx32_0 hf32_0)); (try (try rw [show ((Kd.slice 3 (Kd.int .i64))).sz = 1 from rfl, Nat.mul_one] at hx32_0)); (try (try rw [show ((Kd.slice 3 (Kd.int .i64))).sz = 1 from rfl, Nat.mul_one] at hf32_0)); (try (have HP32 := Kd.S_seg0 HH30.out (of_decide_eq_true zA) (by have h_ : (((rd_T79 l0_1 x7_2).f0) : Int) < ((x3_2.length : Int) : Int) := of_decide_eq_true zA; first | exact h_ | (have e_ := (HN30.out); omega) | simpa using h_) (seg := [.slice Ao34 y144.length co34]) (j := 0) (show 1 ≤ 1 from by decide) (x' := y144) (Kd.M_row HO146.out) (fun _ hk => hk))); (try (try simp only [show ((Kd.slice 3 (Kd.int .i64))).sz = 1 from rfl, Nat.mul_one, Nat.add_zero] at HP32)); (try (clear hcc32 hfr32)))); refine store_event (t := 27) (p := 71) (v := ?vo_w33) (w1 := (w31.setCell ⟨go30, (((rd_T79 l0_1 x7_2).f0) : Int).toNat, none⟩ (.slice Ao34 y144.length co34))) ?hg ?ho ?hn ?hr ?_; (case ho => rfl); (case hg => rfl); (case hn => rfl); (case hr => first | (go_simp; done) | (go_simp; rfl)); intro w33 hw; have hg : w31.grownBy w33 (some go30) := (by rw [hw]; exact HP32.2); have hp_ : Kd.S (Kd.slice 3 (Kd.int .i64)) 27 w33 w.heap.size (fun _ => True) (.slice (some ⟨go30, 0, none⟩) x3_2.length co29) y147 := (by rw [hw, Ny147.out]; exact HP32.1); clear HP32; replace BK130 := zM (blk_grown (g := gb130) (o := .cells #[.slice A0_0 l0_0.length c0_0, .slice (some ad141) l0_1.length c0_1] 30 (0, 0)) (zK BK130.out) hg (Kd.R_ne hraw32 BK130.out (by decide))); replace HB := zM ((by rw [hw]; exact below_set HB.out GB30.out : Below w.heap.size w w33)); have HO_3 := zM (hp_); clear HO146 HH30; clear hg hw hp_ hraw32)))
                     go_roundg k2
                     case measure => have := HK1.out; have := HK2.out; omega
                     case rel => exact ⟨(y147), (wrap64 (x7_2 + 1)), (by first | rfl | (simp; done) | (simp [*]; done)), H', ⟨by have := HK1.out; have := HK2.out; omega⟩, ⟨by (with_reducible repeat (first | apply Kd.S_alloc | apply Kd.S_drewN | apply Kd.S_drew)); exact HO_3.out⟩, ⟨zK BK130.out⟩, ⟨zB⟩⟩
                   · rw [if_neg c26] at H
                     exact absurd H (by simp)
                 · rw [if_neg c25] at H
                   exact absurd H (by simp)
               · rw [if_neg c24] at H
                 exact absurd H (by simp)
             · rw [if_neg c23] at H
               exact absurd H (by simp)
           · rw [if_neg c22] at H
             have c22b0 : decide (x7_2 < (l0_1.length : Int)) = false := decide_eq_false c22
             clear c22
             obtain rfl := Option.some.inj H
             have hcz35_0 := zy BK130 0
             have hcz35_1 := zy BK130 1
             have hfz35_0 := blk_frozen BK130.out 0
             have hfz35_1 := blk_frozen BK130.out 1
             go_wp2
             repeat (go_quiet (fail); try go_wp2)
             go_ret
             exact ⟨_, by first | rfl | (simp [errW_none, errW_some] <;> rfl) | (simp [*, errW_none, errW_some] <;> rfl), by (with_reducible repeat (first | apply Kd.S_alloc | apply Kd.S_drewN | apply Kd.S_drew)); exact HO_3.out, zB⟩
   · rw [if_neg c3] at H
     exact absurd H (by simp)
 · rw [if_neg c2] at H
   exact absurd H (by simp)

end Go.Proofs.Ytmhoemdclnlgaaa.P
