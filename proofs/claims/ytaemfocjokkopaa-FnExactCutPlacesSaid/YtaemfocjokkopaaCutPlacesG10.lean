-- Written by a program of this session (the kit's print, turned: wip/print/patch.py) out of the translation. Not trusted: Lean checks it.
import Derived.Test.YtaemfocjokkopaaCutPlacesG5
import Derived.Test.YtaemfocjokkopaaCutPlacesG8
import Derived.Test.YtaemfocjokkopaaCutPlacesG9
namespace Go.Proofs.Ytaemfocjokkopaa.P
open Go.RowKit Go.Proofs.YtaemfocjokkopaaW.PrintWords Go.Proofs.YtaemfocjokkopaaW.PrintLast Go.Proofs.YtaemfocjokkopaaW.PrintMore
attribute [local go_sem] max2_int min2_int max_two min_two max_three min_three max_four min_four   -- for this text's walks alone
set_option linter.unusedVariables false
set_option linter.unusedSimpArgs false

/-! ### spec_l2Space: function 15 -/
mutual
def spec_l2Space.j0 : Nat → Bool → List (List Int) → List (S54) → Option (Bool)
 | 0, _, _, _ => none
 | k + 1, x13, x188000, x188001 => if x13 = true then (some false) else (spec_l2Space.l0 k 0 x188000 x188001)
def spec_l2Space.l0 : Nat → Int → List (List Int) → List (S54) → Option (Bool)
 | 0, _, _, _ => none
 | k + 1, x3, x188000, x188001 => if x3 < (x188000.length : Int) then (if 0 ≤ x3 then ((spec_l2State.f k (rd_L1 x188000 x3)).bind fun t190 => (if t190 = true then (if x3 > 0 then (if 0 ≤ (wrap64 (x3 - 1)) then (if (wrap64 (x3 - 1)) < (x188000.length : Int) then ((spec_l2Before.f k (rd_L1 x188000 (wrap64 (x3 - 1))) (rd_L1 x188000 x3)).bind fun t193 => (if t193 = true then (spec_l2Space.l0 k (wrap64 (x3 + 1)) x188000 x188001) else (some false))) else (none)) else (none)) else (spec_l2Space.l0 k (wrap64 (x3 + 1)) x188000 x188001)) else (some false))) else (none)) else ((spec_l2Pairs.f k x188001 (x188000.length : Int)).bind fun t188 => (some t188))
end
def spec_l2Space.f (k : Nat) (l0_0 : List (List Int)) (l0_1 : List (S54)) : Option (Bool) := if (l0_0.length : Int) > 300 then (spec_l2Space.j0 k true l0_0 l0_1) else (spec_l2Space.j0 k (decide ((l0_1.length : Int) > 6000)) l0_0 l0_1)
set_option maxHeartbeats 8000000 in
set_option maxRecDepth 100000 in
theorem spec_l2Space.calls (k : Nat) (A0_0 : Option Addr) (c0_0 : Nat) (l0_0 : List (List Int)) (A0_1 : Option Addr) (c0_1 : Nat) (l0_1 : List (S54)) (r : Bool) (w : World) (hr0_0 : Kd.C (Kd.slice 3 (Kd.int .i64)) w A0_0 l0_0.length l0_0) (hc0_0 : l0_0.length ≤ c0_0) (hr0_1 : Kd.C k54 w A0_1 l0_1.length l0_1) (hc0_1 : l0_1.length ≤ c0_1) (h : spec_l2Space.f k l0_0 l0_1 = some r) :
 Calls Try.prog 15 #[.agg #[.slice A0_0 l0_0.length c0_0, .slice A0_1 l0_1.length c0_1]] w fun e w' => e = .returned (.bool r) ∧ Below w.heap.size w w' := by
 have hu30 := Try.underlying30
 have HR0_0 := Aside0.mk hr0_0
 have HC0_0 := Aside0.mk hc0_0
 clear hr0_0 hc0_0
 have HR0_1 := Aside0.mk hr0_1
 have HC0_1 := Aside0.mk hc0_1
 clear hr0_1 hc0_1
 have HB := zM (Below.refl w.heap.size w)
 have H : (if (l0_0.length : Int) > 300 then (spec_l2Space.j0 k true l0_0 l0_1) else (spec_l2Space.j0 k (decide ((l0_1.length : Int) > 6000)) l0_0 l0_1)) = some r := h
 clear h
 have HC2 := Aside0.mk H
 clear H
 go_enter Try.func15, Try.ntmps15
 go_upto_region 1 with (first | ((with_reducible refine gate_dst (N := 1) rfl ?_); (try (refine gate_guard (by rfl) ?_; dsimp only)); refine zb (w := w) 1 #[.slice A0_0 l0_0.length c0_0, .slice A0_1 l0_1.length c0_1] 30 zB ?_; clear HB; intro gb187 w3 HB BK187 GW187; have GE187 := GW187))
 repeat (go_quiet (first | ((with_reducible refine gate_dst (N := 1) rfl ?_); (try (refine gate_guard (by rfl) ?_; dsimp only)); refine zb (w := w) 1 #[.slice A0_0 l0_0.length c0_0, .slice A0_1 l0_1.length c0_1] 30 zB ?_; clear HB; intro gb187 w3 HB BK187 GW187; have GE187 := GW187)); go_upto_region 1 with (first | ((with_reducible refine gate_dst (N := 1) rfl ?_); (try (refine gate_guard (by rfl) ?_; dsimp only)); refine zb (w := w) 1 #[.slice A0_0 l0_0.length c0_0, .slice A0_1 l0_1.length c0_1] 30 zB ?_; clear HB; intro gb187 w3 HB BK187 GW187; have GE187 := GW187)))
 (try simp only [Act.put, List.setIfInBounds_toArray, List.set_cons_zero, List.set_cons_succ])
 go_cut [13] (fun v13 wc => ∃ (kq : Nat) (x13_1 : Bool), v13 = .bool x13_1 ∧ Aside0 (spec_l2Space.j0 kq x13_1 l0_0 l0_1 = some r) ∧ Aside0 (kq ≤ k) ∧ Aside0 (wc.heap[gb187]? = some (.cells #[(.slice A0_0 l0_0.length c0_0), (.slice A0_1 l0_1.length c0_1)] 30 (0, 0))) ∧ Aside0 (Below w.heap.size w wc))
 case first =>
  have H := HC2.out
  clear HC2
  by_cases c4 : (l0_0.length : Int) > 300
  · rw [if_pos c4] at H
    have c4b0 : decide (300 < (l0_0.length : Int)) = true := decide_eq_true c4
    have c4b1 : decide (300 < l0_0.length) = true := decide_eq_true (by omega)
    clear c4
    (first | rw [c4b0] | (simp only [i64_w, i32_w]; rw [c4b0]) | skip)
    have H' := Aside0.mk H
    clear H
    have hcz5_0 := zy BK187 0
    have hcz5_1 := zy BK187 1
    have hfz5_0 := blk_frozen BK187.out 0
    have hfz5_1 := blk_frozen BK187.out 1
    go_wp2
    repeat (go_quiet (fail); try go_wp2)
    go_meet
    case rel => exact ⟨_, (true), (by first | rfl | (simp; done) | (simp [*]; done)), H', ⟨by first | omega | exact Nat.le_refl _⟩, ⟨zK BK187.out⟩, ⟨zB⟩⟩
  · rw [if_neg c4] at H
    have c4b0 : decide (300 < (l0_0.length : Int)) = false := decide_eq_false c4
    have c4b1 : decide (300 < l0_0.length) = false := decide_eq_false (by omega)
    clear c4
    (first | rw [c4b0] | (simp only [i64_w, i32_w]; rw [c4b0]) | skip)
    have H' := Aside0.mk H
    clear H
    have hcz6_0 := zy BK187 0
    have hcz6_1 := zy BK187 1
    have hfz6_0 := blk_frozen BK187.out 0
    have hfz6_1 := blk_frozen BK187.out 1
    go_wp2
    repeat (go_quiet (fail); try go_wp2)
    go_meet
    case rel => exact ⟨_, (decide ((l0_1.length : Int) > 6000)), (by first | rfl | (simp; done) | (simp [*]; done)), H', ⟨by first | omega | exact Nat.le_refl _⟩, ⟨zK BK187.out⟩, ⟨zB⟩⟩
 case rest =>
  clear HC2
  try clear c1
  try clear p2
  try clear c4
  try clear c4b0
  try clear c4b1
  try clear hcz5_0
  try clear hcz5_1
  try clear hcz6_0
  try clear hcz6_1
  try clear hfz5_0
  try clear hfz5_1
  try clear hfz6_0
  try clear hfz6_1
  obtain ⟨kq, x13_1, rfl, HA, HJ1, BK187, HB⟩ := hcut
  cases kq with
  | zero => exact absurd HA.out (by simp [spec_l2Space.j0])
  | succ kj1 =>
   have H := HA.out
   clear HA
   simp only [spec_l2Space.j0] at H
   by_cases c7 : x13_1 = true
   · subst c7
     rw [if_pos rfl] at H
     obtain rfl := Option.some.inj H
     go_wp2
     repeat (go_quiet (fail); try go_wp2)
     go_ret
     exact ⟨by first | rfl | (simp [errW_none, errW_some] <;> rfl) | (simp [*, errW_none, errW_some] <;> rfl), zB⟩
   · replace c7 := Bool.eq_false_iff.mpr c7
     subst c7
     have H1 : (spec_l2Space.l0 kj1 0 l0_0 l0_1) = some r := by rw [if_neg (show ¬ (false = true) by decide)] at H; exact H
     clear H
     have H := H1
     clear H1
     have H' := Aside0.mk H
     clear H
     go_wp2
     repeat (go_quiet (fail); try go_wp2)
     go_loopg [3] kj1 (fun kq v3 w' => ∃ (x3_2 : Int), v3 = .int .i64 x3_2 ∧ Aside0 (spec_l2Space.l0 kq x3_2 l0_0 l0_1 = some r) ∧ Aside0 (kq ≤ kj1) ∧ Aside0 (w'.heap[gb187]? = some (.cells #[(.slice A0_0 l0_0.length c0_0), (.slice A0_1 l0_1.length c0_1)] 30 (0, 0))) ∧ Aside0 (Below w.heap.size w w'))
     case atStart => exact ⟨(0), (by first | rfl | (simp; done) | (simp [*]; done)), H', ⟨Nat.le_refl _⟩, ⟨zK BK187.out⟩, ⟨zB⟩⟩
     case round =>
      clear H'
      try clear c1
      try clear p2
      try clear c4
      try clear c4b0
      try clear c4b1
      try clear c7
      try clear hcz5_0
      try clear hcz5_1
      try clear hcz6_0
      try clear hcz6_1
      try clear hfz5_0
      try clear hfz5_1
      try clear hfz6_0
      try clear hfz6_1
      try clear p2
      obtain ⟨x3_2, rfl, HA, HK2, BK187, HB⟩ := hrel
      cases gk with
      | zero => exact absurd HA.out (by simp [spec_l2Space.l0])
      | succ k2 =>
       have H := HA.out
       clear HA
       simp only [spec_l2Space.l0] at H
       by_cases c8 : x3_2 < (l0_0.length : Int)
       · rw [if_pos c8] at H
         have c8b0 := decide_eq_true c8
         clear c8
         by_cases c9 : 0 ≤ x3_2
         · rw [if_pos c9] at H
           have c9b0 := decide_eq_true c9
           clear c9
           replace H := Option.bind_eq_some_iff.mp H
           obtain ⟨t190, A100, H⟩ := H
           have A10 := Aside0.mk A100
           clear A100
           by_cases c11 : t190 = true
           · subst c11
             rw [if_pos rfl] at H
             by_cases c12 : x3_2 > 0
             · rw [if_pos c12] at H
               have c12b0 : decide (0 < x3_2) = true := decide_eq_true c12
               clear c12
               obtain ⟨ji13, hji13⟩ : ∃ j_ : Int, (wrap64 (x3_2 - 1)) = j_ := ⟨_, rfl⟩
               replace H : (if 0 ≤ (ji13) then (if (ji13) < (l0_0.length : Int) then ((spec_l2Before.f k2 (rd_L1 l0_0 (ji13)) (rd_L1 l0_0 x3_2)).bind fun t193 => (if t193 = true then (spec_l2Space.l0 k2 (wrap64 (x3_2 + 1)) l0_0 l0_1) else (some false))) else (none)) else (none)) = some r := by first | (rw [hji13] at H; exact H) | (simp only [hji13] at H ⊢; exact H)
               (try rw [hji13] at A10)
               have hji13w : (IntKind.i64.wrap (x3_2 - 1)) = ji13 := (i64_w _).trans hji13
               by_cases c14 : 0 ≤ (ji13)
               · rw [if_pos c14] at H
                 have c14b0 := decide_eq_true c14
                 clear c14
                 by_cases c15 : (ji13) < (l0_0.length : Int)
                 · rw [if_pos c15] at H
                   have c15b0 := decide_eq_true c15
                   clear c15
                   replace H := Option.bind_eq_some_iff.mp H
                   obtain ⟨t193, A160, H⟩ := H
                   have A16 := Aside0.mk A160
                   clear A160
                   by_cases c17 : t193 = true
                   · subst c17
                     rw [if_pos rfl] at H
                     have H' := Aside0.mk H
                     clear H
                     have hcz18_0 := zy BK187 0
                     have hcz18_1 := zy BK187 1
                     have hfz18_0 := blk_frozen BK187.out 0
                     have hfz18_1 := blk_frozen BK187.out 1
                     have p189 : 0 ≤ (x3_2 : Int) := of_decide_eq_true zA
                     have q189 : x3_2 < (l0_0.length : Int) := of_decide_eq_true zA
                     obtain ⟨ad189, A189_0, c189_0, e189, hx189_0, hl189_0, hi189_0⟩ := at_L1 HR0_0.out x3_2 p189 q189
                     cases e189
                     (try replace hx189_0 := (HB.out.cell (World.block_lt_of_cell? w _ hx189_0)).trans hx189_0)
                     have HR189_0 := Aside0.mk hi189_0
                     have HC189_0 := Aside0.mk hl189_0
                     clear hi189_0 hl189_0
                     replace p189 := eq_true p189
                     replace q189 := eq_true q189
                     go_wp2_with (first | (go_at_call 30; (with_reducible refine (spec_l2State.calls k2 _ _ (rd_L1 l0_0 x3_2) true _ ?side1 ?side2 A10.out).mono ?_); (case side1 => exact zC (Kd.C_below HR189_0.out HB.out)); (case side2 => exact HC189_0.out); rintro e w' ⟨rfl, ⟨nd, rfl⟩⟩; (try exact zD); have p191 : 0 ≤ ((ji13) : Int) := of_decide_eq_true zA; have q191 : (ji13) < (l0_0.length : Int) := of_decide_eq_true zA; obtain ⟨ad191, A191_0, c191_0, e191, hx191_0, hl191_0, hi191_0⟩ := at_L1 HR0_0.out (ji13) p191 q191; obtain rfl : ad189 = ad191 := (by injection e191); (try replace hx191_0 := (HB.out.cell (World.block_lt_of_cell? w _ hx191_0)).trans hx191_0); have HR191_0 := Aside0.mk hi191_0; have HC191_0 := Aside0.mk hl191_0; clear hi191_0 hl191_0; replace p191 := eq_true p191; replace q191 := eq_true q191; have p192 : 0 ≤ (x3_2 : Int) := of_decide_eq_true zA; have q192 : x3_2 < (l0_0.length : Int) := of_decide_eq_true zA; obtain ⟨ad192, A192_0, c192_0, e192, hx192_0, hl192_0, hi192_0⟩ := at_L1 HR0_0.out x3_2 p192 q192; obtain rfl : ad189 = ad192 := (by injection e192); (try replace hx192_0 := (HB.out.cell (World.block_lt_of_cell? w _ hx192_0)).trans hx192_0); have HR192_0 := Aside0.mk hi192_0; have HC192_0 := Aside0.mk hl192_0; clear hi192_0 hl192_0; replace p192 := eq_true p192; replace q192 := eq_true q192; have ea_ := Option.some.inj (hx189_0.symm.trans hx192_0); injection ea_ with ea_ en_ ec_; subst ea_; subst ec_; clear en_) | (go_at_call 31; (with_reducible refine (spec_l2Before.calls k2 _ _ (rd_L1 l0_0 (ji13)) _ _ (rd_L1 l0_0 x3_2) true _ ?side1 ?side2 ?side3 ?side4 A16.out).mono ?_); (case side1 => exact zC (Kd.C_below HR191_0.out zB)); (case side2 => exact HC191_0.out); (case side3 => exact zC (Kd.C_below HR192_0.out zB)); (case side4 => exact HC192_0.out); rintro e w' ⟨rfl, ⟨nd, rfl⟩⟩; (try exact zD)))
                     repeat (go_quiet (first | (go_at_call 30; (with_reducible refine (spec_l2State.calls k2 _ _ (rd_L1 l0_0 x3_2) true _ ?side1 ?side2 A10.out).mono ?_); (case side1 => exact zC (Kd.C_below HR189_0.out HB.out)); (case side2 => exact HC189_0.out); rintro e w' ⟨rfl, ⟨nd, rfl⟩⟩; (try exact zD); have p191 : 0 ≤ ((ji13) : Int) := of_decide_eq_true zA; have q191 : (ji13) < (l0_0.length : Int) := of_decide_eq_true zA; obtain ⟨ad191, A191_0, c191_0, e191, hx191_0, hl191_0, hi191_0⟩ := at_L1 HR0_0.out (ji13) p191 q191; obtain rfl : ad189 = ad191 := (by injection e191); (try replace hx191_0 := (HB.out.cell (World.block_lt_of_cell? w _ hx191_0)).trans hx191_0); have HR191_0 := Aside0.mk hi191_0; have HC191_0 := Aside0.mk hl191_0; clear hi191_0 hl191_0; replace p191 := eq_true p191; replace q191 := eq_true q191; have p192 : 0 ≤ (x3_2 : Int) := of_decide_eq_true zA; have q192 : x3_2 < (l0_0.length : Int) := of_decide_eq_true zA; obtain ⟨ad192, A192_0, c192_0, e192, hx192_0, hl192_0, hi192_0⟩ := at_L1 HR0_0.out x3_2 p192 q192; obtain rfl : ad189 = ad192 := (by injection e192); (try replace hx192_0 := (HB.out.cell (World.block_lt_of_cell? w _ hx192_0)).trans hx192_0); have HR192_0 := Aside0.mk hi192_0; have HC192_0 := Aside0.mk hl192_0; clear hi192_0 hl192_0; replace p192 := eq_true p192; replace q192 := eq_true q192; have ea_ := Option.some.inj (hx189_0.symm.trans hx192_0); injection ea_ with ea_ en_ ec_; subst ea_; subst ec_; clear en_) | (go_at_call 31; (with_reducible refine (spec_l2Before.calls k2 _ _ (rd_L1 l0_0 (ji13)) _ _ (rd_L1 l0_0 x3_2) true _ ?side1 ?side2 ?side3 ?side4 A16.out).mono ?_); (case side1 => exact zC (Kd.C_below HR191_0.out zB)); (case side2 => exact HC191_0.out); (case side3 => exact zC (Kd.C_below HR192_0.out zB)); (case side4 => exact HC192_0.out); rintro e w' ⟨rfl, ⟨nd, rfl⟩⟩; (try exact zD))); try go_wp2_with (first | (go_at_call 30; (with_reducible refine (spec_l2State.calls k2 _ _ (rd_L1 l0_0 x3_2) true _ ?side1 ?side2 A10.out).mono ?_); (case side1 => exact zC (Kd.C_below HR189_0.out HB.out)); (case side2 => exact HC189_0.out); rintro e w' ⟨rfl, ⟨nd, rfl⟩⟩; (try exact zD); have p191 : 0 ≤ ((ji13) : Int) := of_decide_eq_true zA; have q191 : (ji13) < (l0_0.length : Int) := of_decide_eq_true zA; obtain ⟨ad191, A191_0, c191_0, e191, hx191_0, hl191_0, hi191_0⟩ := at_L1 HR0_0.out (ji13) p191 q191; obtain rfl : ad189 = ad191 := (by injection e191); (try replace hx191_0 := (HB.out.cell (World.block_lt_of_cell? w _ hx191_0)).trans hx191_0); have HR191_0 := Aside0.mk hi191_0; have HC191_0 := Aside0.mk hl191_0; clear hi191_0 hl191_0; replace p191 := eq_true p191; replace q191 := eq_true q191; have p192 : 0 ≤ (x3_2 : Int) := of_decide_eq_true zA; have q192 : x3_2 < (l0_0.length : Int) := of_decide_eq_true zA; obtain ⟨ad192, A192_0, c192_0, e192, hx192_0, hl192_0, hi192_0⟩ := at_L1 HR0_0.out x3_2 p192 q192; obtain rfl : ad189 = ad192 := (by injection e192); (try replace hx192_0 := (HB.out.cell (World.block_lt_of_cell? w _ hx192_0)).trans hx192_0); have HR192_0 := Aside0.mk hi192_0; have HC192_0 := Aside0.mk hl192_0; clear hi192_0 hl192_0; replace p192 := eq_true p192; replace q192 := eq_true q192; have ea_ := Option.some.inj (hx189_0.symm.trans hx192_0); injection ea_ with ea_ en_ ec_; subst ea_; subst ec_; clear en_) | (go_at_call 31; (with_reducible refine (spec_l2Before.calls k2 _ _ (rd_L1 l0_0 (ji13)) _ _ (rd_L1 l0_0 x3_2) true _ ?side1 ?side2 ?side3 ?side4 A16.out).mono ?_); (case side1 => exact zC (Kd.C_below HR191_0.out zB)); (case side2 => exact HC191_0.out); (case side3 => exact zC (Kd.C_below HR192_0.out zB)); (case side4 => exact HC192_0.out); rintro e w' ⟨rfl, ⟨nd, rfl⟩⟩; (try exact zD))))
                     go_roundg k2
                     case measure => have := HJ1.out; have := HK2.out; omega
                     case rel => exact ⟨(wrap64 (x3_2 + 1)), (by first | rfl | (simp; done) | (simp [*]; done)), H', ⟨by have := HJ1.out; have := HK2.out; omega⟩, ⟨zK BK187.out⟩, ⟨zB⟩⟩
                   · replace c17 := Bool.eq_false_iff.mpr c17
                     subst c17
                     have H1 : (some false) = some r := by rw [if_neg (show ¬ (false = true) by decide)] at H; exact H
                     clear H
                     have H := H1
                     clear H1
                     obtain rfl := Option.some.inj H
                     have hcz19_0 := zy BK187 0
                     have hcz19_1 := zy BK187 1
                     have hfz19_0 := blk_frozen BK187.out 0
                     have hfz19_1 := blk_frozen BK187.out 1
                     have p189 : 0 ≤ (x3_2 : Int) := of_decide_eq_true zA
                     have q189 : x3_2 < (l0_0.length : Int) := of_decide_eq_true zA
                     obtain ⟨ad189, A189_0, c189_0, e189, hx189_0, hl189_0, hi189_0⟩ := at_L1 HR0_0.out x3_2 p189 q189
                     cases e189
                     (try replace hx189_0 := (HB.out.cell (World.block_lt_of_cell? w _ hx189_0)).trans hx189_0)
                     have HR189_0 := Aside0.mk hi189_0
                     have HC189_0 := Aside0.mk hl189_0
                     clear hi189_0 hl189_0
                     replace p189 := eq_true p189
                     replace q189 := eq_true q189
                     go_wp2_with (first | (go_at_call 30; (with_reducible refine (spec_l2State.calls k2 _ _ (rd_L1 l0_0 x3_2) true _ ?side1 ?side2 A10.out).mono ?_); (case side1 => exact zC (Kd.C_below HR189_0.out HB.out)); (case side2 => exact HC189_0.out); rintro e w' ⟨rfl, ⟨nd, rfl⟩⟩; (try exact zD); have p191 : 0 ≤ ((ji13) : Int) := of_decide_eq_true zA; have q191 : (ji13) < (l0_0.length : Int) := of_decide_eq_true zA; obtain ⟨ad191, A191_0, c191_0, e191, hx191_0, hl191_0, hi191_0⟩ := at_L1 HR0_0.out (ji13) p191 q191; obtain rfl : ad189 = ad191 := (by injection e191); (try replace hx191_0 := (HB.out.cell (World.block_lt_of_cell? w _ hx191_0)).trans hx191_0); have HR191_0 := Aside0.mk hi191_0; have HC191_0 := Aside0.mk hl191_0; clear hi191_0 hl191_0; replace p191 := eq_true p191; replace q191 := eq_true q191; have p192 : 0 ≤ (x3_2 : Int) := of_decide_eq_true zA; have q192 : x3_2 < (l0_0.length : Int) := of_decide_eq_true zA; obtain ⟨ad192, A192_0, c192_0, e192, hx192_0, hl192_0, hi192_0⟩ := at_L1 HR0_0.out x3_2 p192 q192; obtain rfl : ad189 = ad192 := (by injection e192); (try replace hx192_0 := (HB.out.cell (World.block_lt_of_cell? w _ hx192_0)).trans hx192_0); have HR192_0 := Aside0.mk hi192_0; have HC192_0 := Aside0.mk hl192_0; clear hi192_0 hl192_0; replace p192 := eq_true p192; replace q192 := eq_true q192; have ea_ := Option.some.inj (hx189_0.symm.trans hx192_0); injection ea_ with ea_ en_ ec_; subst ea_; subst ec_; clear en_) | (go_at_call 31; (with_reducible refine (spec_l2Before.calls k2 _ _ (rd_L1 l0_0 (ji13)) _ _ (rd_L1 l0_0 x3_2) false _ ?side1 ?side2 ?side3 ?side4 A16.out).mono ?_); (case side1 => exact zC (Kd.C_below HR191_0.out zB)); (case side2 => exact HC191_0.out); (case side3 => exact zC (Kd.C_below HR192_0.out zB)); (case side4 => exact HC192_0.out); rintro e w' ⟨rfl, ⟨nd, rfl⟩⟩; (try exact zD)))
                     repeat (go_quiet (first | (go_at_call 30; (with_reducible refine (spec_l2State.calls k2 _ _ (rd_L1 l0_0 x3_2) true _ ?side1 ?side2 A10.out).mono ?_); (case side1 => exact zC (Kd.C_below HR189_0.out HB.out)); (case side2 => exact HC189_0.out); rintro e w' ⟨rfl, ⟨nd, rfl⟩⟩; (try exact zD); have p191 : 0 ≤ ((ji13) : Int) := of_decide_eq_true zA; have q191 : (ji13) < (l0_0.length : Int) := of_decide_eq_true zA; obtain ⟨ad191, A191_0, c191_0, e191, hx191_0, hl191_0, hi191_0⟩ := at_L1 HR0_0.out (ji13) p191 q191; obtain rfl : ad189 = ad191 := (by injection e191); (try replace hx191_0 := (HB.out.cell (World.block_lt_of_cell? w _ hx191_0)).trans hx191_0); have HR191_0 := Aside0.mk hi191_0; have HC191_0 := Aside0.mk hl191_0; clear hi191_0 hl191_0; replace p191 := eq_true p191; replace q191 := eq_true q191; have p192 : 0 ≤ (x3_2 : Int) := of_decide_eq_true zA; have q192 : x3_2 < (l0_0.length : Int) := of_decide_eq_true zA; obtain ⟨ad192, A192_0, c192_0, e192, hx192_0, hl192_0, hi192_0⟩ := at_L1 HR0_0.out x3_2 p192 q192; obtain rfl : ad189 = ad192 := (by injection e192); (try replace hx192_0 := (HB.out.cell (World.block_lt_of_cell? w _ hx192_0)).trans hx192_0); have HR192_0 := Aside0.mk hi192_0; have HC192_0 := Aside0.mk hl192_0; clear hi192_0 hl192_0; replace p192 := eq_true p192; replace q192 := eq_true q192; have ea_ := Option.some.inj (hx189_0.symm.trans hx192_0); injection ea_ with ea_ en_ ec_; subst ea_; subst ec_; clear en_) | (go_at_call 31; (with_reducible refine (spec_l2Before.calls k2 _ _ (rd_L1 l0_0 (ji13)) _ _ (rd_L1 l0_0 x3_2) false _ ?side1 ?side2 ?side3 ?side4 A16.out).mono ?_); (case side1 => exact zC (Kd.C_below HR191_0.out zB)); (case side2 => exact HC191_0.out); (case side3 => exact zC (Kd.C_below HR192_0.out zB)); (case side4 => exact HC192_0.out); rintro e w' ⟨rfl, ⟨nd, rfl⟩⟩; (try exact zD))); try go_wp2_with (first | (go_at_call 30; (with_reducible refine (spec_l2State.calls k2 _ _ (rd_L1 l0_0 x3_2) true _ ?side1 ?side2 A10.out).mono ?_); (case side1 => exact zC (Kd.C_below HR189_0.out HB.out)); (case side2 => exact HC189_0.out); rintro e w' ⟨rfl, ⟨nd, rfl⟩⟩; (try exact zD); have p191 : 0 ≤ ((ji13) : Int) := of_decide_eq_true zA; have q191 : (ji13) < (l0_0.length : Int) := of_decide_eq_true zA; obtain ⟨ad191, A191_0, c191_0, e191, hx191_0, hl191_0, hi191_0⟩ := at_L1 HR0_0.out (ji13) p191 q191; obtain rfl : ad189 = ad191 := (by injection e191); (try replace hx191_0 := (HB.out.cell (World.block_lt_of_cell? w _ hx191_0)).trans hx191_0); have HR191_0 := Aside0.mk hi191_0; have HC191_0 := Aside0.mk hl191_0; clear hi191_0 hl191_0; replace p191 := eq_true p191; replace q191 := eq_true q191; have p192 : 0 ≤ (x3_2 : Int) := of_decide_eq_true zA; have q192 : x3_2 < (l0_0.length : Int) := of_decide_eq_true zA; obtain ⟨ad192, A192_0, c192_0, e192, hx192_0, hl192_0, hi192_0⟩ := at_L1 HR0_0.out x3_2 p192 q192; obtain rfl : ad189 = ad192 := (by injection e192); (try replace hx192_0 := (HB.out.cell (World.block_lt_of_cell? w _ hx192_0)).trans hx192_0); have HR192_0 := Aside0.mk hi192_0; have HC192_0 := Aside0.mk hl192_0; clear hi192_0 hl192_0; replace p192 := eq_true p192; replace q192 := eq_true q192; have ea_ := Option.some.inj (hx189_0.symm.trans hx192_0); injection ea_ with ea_ en_ ec_; subst ea_; subst ec_; clear en_) | (go_at_call 31; (with_reducible refine (spec_l2Before.calls k2 _ _ (rd_L1 l0_0 (ji13)) _ _ (rd_L1 l0_0 x3_2) false _ ?side1 ?side2 ?side3 ?side4 A16.out).mono ?_); (case side1 => exact zC (Kd.C_below HR191_0.out zB)); (case side2 => exact HC191_0.out); (case side3 => exact zC (Kd.C_below HR192_0.out zB)); (case side4 => exact HC192_0.out); rintro e w' ⟨rfl, ⟨nd, rfl⟩⟩; (try exact zD))))
                     go_ret
                     exact ⟨by first | rfl | (simp [errW_none, errW_some] <;> rfl) | (simp only [← hji13]; first | rfl | (simp [errW_none, errW_some] <;> rfl)) | (simp [*, errW_none, errW_some] <;> rfl), zB⟩
                 · rw [if_neg c15] at H
                   exact absurd H (by simp)
               · rw [if_neg c14] at H
                 exact absurd H (by simp)
             · rw [if_neg c12] at H
               have c12b0 : decide (0 < x3_2) = false := decide_eq_false c12
               clear c12
               have H' := Aside0.mk H
               clear H
               have hcz20_0 := zy BK187 0
               have hcz20_1 := zy BK187 1
               have hfz20_0 := blk_frozen BK187.out 0
               have hfz20_1 := blk_frozen BK187.out 1
               have p189 : 0 ≤ (x3_2 : Int) := of_decide_eq_true zA
               have q189 : x3_2 < (l0_0.length : Int) := of_decide_eq_true zA
               obtain ⟨ad189, A189_0, c189_0, e189, hx189_0, hl189_0, hi189_0⟩ := at_L1 HR0_0.out x3_2 p189 q189
               cases e189
               (try replace hx189_0 := (HB.out.cell (World.block_lt_of_cell? w _ hx189_0)).trans hx189_0)
               have HR189_0 := Aside0.mk hi189_0
               have HC189_0 := Aside0.mk hl189_0
               clear hi189_0 hl189_0
               replace p189 := eq_true p189
               replace q189 := eq_true q189
               go_wp2_with (first | (go_at_call 30; (with_reducible refine (spec_l2State.calls k2 _ _ (rd_L1 l0_0 x3_2) true _ ?side1 ?side2 A10.out).mono ?_); (case side1 => exact zC (Kd.C_below HR189_0.out HB.out)); (case side2 => exact HC189_0.out); rintro e w' ⟨rfl, ⟨nd, rfl⟩⟩; (try exact zD)))
               repeat (go_quiet (first | (go_at_call 30; (with_reducible refine (spec_l2State.calls k2 _ _ (rd_L1 l0_0 x3_2) true _ ?side1 ?side2 A10.out).mono ?_); (case side1 => exact zC (Kd.C_below HR189_0.out HB.out)); (case side2 => exact HC189_0.out); rintro e w' ⟨rfl, ⟨nd, rfl⟩⟩; (try exact zD))); try go_wp2_with (first | (go_at_call 30; (with_reducible refine (spec_l2State.calls k2 _ _ (rd_L1 l0_0 x3_2) true _ ?side1 ?side2 A10.out).mono ?_); (case side1 => exact zC (Kd.C_below HR189_0.out HB.out)); (case side2 => exact HC189_0.out); rintro e w' ⟨rfl, ⟨nd, rfl⟩⟩; (try exact zD))))
               go_roundg k2
               case measure => have := HJ1.out; have := HK2.out; omega
               case rel => exact ⟨(wrap64 (x3_2 + 1)), (by first | rfl | (simp; done) | (simp [*]; done)), H', ⟨by have := HJ1.out; have := HK2.out; omega⟩, ⟨zK BK187.out⟩, ⟨zB⟩⟩
           · replace c11 := Bool.eq_false_iff.mpr c11
             subst c11
             have H1 : (some false) = some r := by rw [if_neg (show ¬ (false = true) by decide)] at H; exact H
             clear H
             have H := H1
             clear H1
             obtain rfl := Option.some.inj H
             have hcz21_0 := zy BK187 0
             have hcz21_1 := zy BK187 1
             have hfz21_0 := blk_frozen BK187.out 0
             have hfz21_1 := blk_frozen BK187.out 1
             have p189 : 0 ≤ (x3_2 : Int) := of_decide_eq_true zA
             have q189 : x3_2 < (l0_0.length : Int) := of_decide_eq_true zA
             obtain ⟨ad189, A189_0, c189_0, e189, hx189_0, hl189_0, hi189_0⟩ := at_L1 HR0_0.out x3_2 p189 q189
             cases e189
             (try replace hx189_0 := (HB.out.cell (World.block_lt_of_cell? w _ hx189_0)).trans hx189_0)
             have HR189_0 := Aside0.mk hi189_0
             have HC189_0 := Aside0.mk hl189_0
             clear hi189_0 hl189_0
             replace p189 := eq_true p189
             replace q189 := eq_true q189
             go_wp2_with (first | (go_at_call 30; (with_reducible refine (spec_l2State.calls k2 _ _ (rd_L1 l0_0 x3_2) false _ ?side1 ?side2 A10.out).mono ?_); (case side1 => exact zC (Kd.C_below HR189_0.out HB.out)); (case side2 => exact HC189_0.out); rintro e w' ⟨rfl, ⟨nd, rfl⟩⟩; (try exact zD)))
             repeat (go_quiet (first | (go_at_call 30; (with_reducible refine (spec_l2State.calls k2 _ _ (rd_L1 l0_0 x3_2) false _ ?side1 ?side2 A10.out).mono ?_); (case side1 => exact zC (Kd.C_below HR189_0.out HB.out)); (case side2 => exact HC189_0.out); rintro e w' ⟨rfl, ⟨nd, rfl⟩⟩; (try exact zD))); try go_wp2_with (first | (go_at_call 30; (with_reducible refine (spec_l2State.calls k2 _ _ (rd_L1 l0_0 x3_2) false _ ?side1 ?side2 A10.out).mono ?_); (case side1 => exact zC (Kd.C_below HR189_0.out HB.out)); (case side2 => exact HC189_0.out); rintro e w' ⟨rfl, ⟨nd, rfl⟩⟩; (try exact zD))))
             go_ret
             exact ⟨by first | rfl | (simp [errW_none, errW_some] <;> rfl) | (simp [*, errW_none, errW_some] <;> rfl), zB⟩
         · rw [if_neg c9] at H
           exact absurd H (by simp)
       · rw [if_neg c8] at H
         have c8b0 : decide (x3_2 < (l0_0.length : Int)) = false := decide_eq_false c8
         clear c8
         replace H := Option.bind_eq_some_iff.mp H
         obtain ⟨t188, A220, H⟩ := H
         have A22 := Aside0.mk A220
         clear A220
         obtain rfl := Option.some.inj H
         have hcz23_0 := zy BK187 0
         have hcz23_1 := zy BK187 1
         have hfz23_0 := blk_frozen BK187.out 0
         have hfz23_1 := blk_frozen BK187.out 1
         go_wp2_with (first | (go_at_call 32; (with_reducible refine (spec_l2Pairs.calls k2 _ _ l0_1 (l0_0.length : Int) t188 _ ?side1 ?side2 A22.out).mono ?_); (case side1 => exact zC (Kd.C_below HR0_1.out HB.out)); (case side2 => exact HC0_1.out); rintro e w24 ⟨rfl, hb⟩; replace BK187 := zM (blk_below (g := gb187) (o := .cells #[.slice A0_0 l0_0.length c0_0, .slice A0_1 l0_1.length c0_1] 30 (0, 0)) (zK BK187.out) hb); replace HB := zM (below_step zB hb); (try clear hb); (try clear hb2); (try clear hk); (try clear hi)))
         repeat (go_quiet (first | (go_at_call 32; (with_reducible refine (spec_l2Pairs.calls k2 _ _ l0_1 (l0_0.length : Int) t188 _ ?side1 ?side2 A22.out).mono ?_); (case side1 => exact zC (Kd.C_below HR0_1.out HB.out)); (case side2 => exact HC0_1.out); rintro e w24 ⟨rfl, hb⟩; replace BK187 := zM (blk_below (g := gb187) (o := .cells #[.slice A0_0 l0_0.length c0_0, .slice A0_1 l0_1.length c0_1] 30 (0, 0)) (zK BK187.out) hb); replace HB := zM (below_step zB hb); (try clear hb); (try clear hb2); (try clear hk); (try clear hi))); try go_wp2_with (first | (go_at_call 32; (with_reducible refine (spec_l2Pairs.calls k2 _ _ l0_1 (l0_0.length : Int) t188 _ ?side1 ?side2 A22.out).mono ?_); (case side1 => exact zC (Kd.C_below HR0_1.out HB.out)); (case side2 => exact HC0_1.out); rintro e w24 ⟨rfl, hb⟩; replace BK187 := zM (blk_below (g := gb187) (o := .cells #[.slice A0_0 l0_0.length c0_0, .slice A0_1 l0_1.length c0_1] 30 (0, 0)) (zK BK187.out) hb); replace HB := zM (below_step zB hb); (try clear hb); (try clear hb2); (try clear hk); (try clear hi))))
         go_ret
         exact ⟨by first | rfl | (simp [errW_none, errW_some] <;> rfl) | (simp [*, errW_none, errW_some] <;> rfl), zB⟩

/-! ### spec_l2Lists: function 33 -/
mutual
def spec_l2Lists.l0 : Nat → List (List Int) → Int → List (List Int) → List (S54) → Option ((List (List Int)))
 | 0, _, _, _, _ => none
 | k + 1, x3, x4, x195000, x195001 => if x4 < (x195001.length : Int) then (if 0 ≤ x4 then (if 0 ≤ ((rd_T54 x195001 x4).f1) then (if ((rd_T54 x195001 x4).f1) < (x3.length : Int) then (if (rd_L1 x3 ((rd_T54 x195001 x4).f1)).length < 17592186044416 then (spec_l2Lists.l0 k (x3.set (((rd_T54 x195001 x4).f1) : Int).toNat ((rd_L1 x3 ((rd_T54 x195001 x4).f1)) ++ [(rd_T54 x195001 x4).f0])) (wrap64 (x4 + 1)) x195000 x195001) else (none)) else (none)) else (none)) else (none)) else (spec_l2Lists.l1 k x3 0 x195000 x195001)
def spec_l2Lists.l1 : Nat → List (List Int) → Int → List (List Int) → List (S54) → Option ((List (List Int)))
 | 0, _, _, _, _ => none
 | k + 1, x3, x7, x195000, x195001 => if x7 < (x195001.length : Int) then (if 0 ≤ x7 then (if 0 ≤ ((rd_T54 x195001 x7).f0) then (if ((rd_T54 x195001 x7).f0) < (x3.length : Int) then (if (rd_L1 x3 ((rd_T54 x195001 x7).f0)).length < 17592186044416 then (spec_l2Lists.l1 k (x3.set (((rd_T54 x195001 x7).f0) : Int).toNat ((rd_L1 x3 ((rd_T54 x195001 x7).f0)) ++ [(rd_T54 x195001 x7).f1])) (wrap64 (x7 + 1)) x195000 x195001) else (none)) else (none)) else (none)) else (none)) else (some x3)
end
def spec_l2Lists.f (k : Nat) (l0_0 : List (List Int)) (l0_1 : List (S54)) : Option ((List (List Int))) := if 0 ≤ (l0_0.length : Int) then (if ((l0_0.length : Int) : Int).toNat ≤ 11728124029610 then (spec_l2Lists.l0 k (List.replicate ((l0_0.length : Int) : Int).toNat []) 0 l0_0 l0_1) else (none)) else (none)
set_option maxHeartbeats 8000000 in
set_option maxRecDepth 100000 in
theorem spec_l2Lists.calls (k : Nat) (A0_0 : Option Addr) (c0_0 : Nat) (l0_0 : List (List Int)) (A0_1 : Option Addr) (c0_1 : Nat) (l0_1 : List (S54)) (r : List (List Int)) (w : World) (hr0_0 : Kd.C (Kd.slice 3 (Kd.int .i64)) w A0_0 l0_0.length l0_0) (hc0_0 : l0_0.length ≤ c0_0) (hr0_1 : Kd.C k54 w A0_1 l0_1.length l0_1) (hc0_1 : l0_1.length ≤ c0_1) (h : spec_l2Lists.f k l0_0 l0_1 = some r) :
 Calls Try.prog 33 #[.agg #[.slice A0_0 l0_0.length c0_0, .slice A0_1 l0_1.length c0_1]] w fun e w' => ∃ v0_ : Value, e = .returned (v0_) ∧ Kd.S (Kd.slice 3 (Kd.int .i64)) 27 w' w.heap.size (fun _ => True) v0_ r ∧ Below w.heap.size w w' := by
 have hu30 := Try.underlying30
 have HR0_0 := Aside0.mk hr0_0
 have HC0_0 := Aside0.mk hc0_0
 clear hr0_0 hc0_0
 have HR0_1 := Aside0.mk hr0_1
 have HC0_1 := Aside0.mk hc0_1
 clear hr0_1 hc0_1
 have HB := zM (Below.refl w.heap.size w)
 have H : (if 0 ≤ (l0_0.length : Int) then (if ((l0_0.length : Int) : Int).toNat ≤ 11728124029610 then (spec_l2Lists.l0 k (List.replicate ((l0_0.length : Int) : Int).toNat []) 0 l0_0 l0_1) else (none)) else (none)) = some r := h
 clear h
 by_cases c2 : 0 ≤ (l0_0.length : Int)
 · rw [if_pos c2] at H
   have c2b0 := eq_true c2
   have c2b1 : decide (0 ≤ (l0_0.length : Int)) = true := decide_eq_true c2
   clear c2
   by_cases c3 : ((l0_0.length : Int) : Int).toNat ≤ 11728124029610
   · rw [if_pos c3] at H
     have c3b0 := eq_true c3
     have c3b1 : decide (((l0_0.length : Int) : Int).toNat ≤ 11728124029610) = true := decide_eq_true c3
     clear c3
     obtain ⟨y195, hy195⟩ : ∃ y_ : List (List Int), y_ = (List.replicate ((l0_0.length : Int) : Int).toNat []) := ⟨_, rfl⟩
     replace H : (spec_l2Lists.l0 k y195 0 l0_0 l0_1) = some r := by first | (rw [hy195]; with_reducible exact H) | (have H2_ := (Option.bind_some _ _).symm.trans H; rw [hy195]; with_reducible exact H2_) | (have H2_ := (Option.bind_some _ _).symm.trans H; with_reducible exact H2_) | with_reducible exact H | (rw [hy195]; exact H) | exact H
     have Ny195 := Aside0.mk hy195
     clear hy195
     have H' := Aside0.mk H
     clear H
     go_enter Try.func33, Try.ntmps33
     go_wp2_with (first | ((with_reducible refine gate_dst (N := 1) rfl ?_); refine zb (w := w) 1 #[.slice A0_0 l0_0.length c0_0, .slice A0_1 l0_1.length c0_1] 30 zB ?_; clear HB; intro gb194 w4 HB BK194 GW194; have GE194 := GW194; have hcz5_0 := zy BK194 0; have hcz5_1 := zy BK194 1; have hfz5_0 := blk_frozen BK194.out 0; have hfz5_1 := blk_frozen BK194.out 1) | ((with_reducible refine gate_dst (N := 13) rfl ?_); refine Kd.S_make (Kd.slice 3 (Kd.int .i64)) _ 27 rfl (N := 13) rfl 22 _ _ rfl (l0_0.length : Int) rfl rfl Try.underlying22 (.slice none 0 0) 24 info27 rfl (by decide) (by omega) [] (ok := fun _ => True) (okp := fun _ => True) ⟨_, rfl, Kd.R_nil _ _ _ _ _⟩ (fun _ hk => hk) trivial (of_decide_eq_true zA) (Nat.le_trans (Nat.mul_le_mul_right _ (of_decide_eq_true zA : (l0_0.length : Int).toNat ≤ 11728124029610)) (by omega)) (Below.refl _ _) (Nat.le_refl _) ?_; intro v196 w6 ho7 hb hg_ hnew_; clear hg_ hnew_; (first | rw [← Ny195.out] at ho7 | (simp only [Int.reduceToNat] at ho7; rw [← Ny195.out] at ho7)); have HO197 := zM (Kd.S_lower ho7 (below_size zB)); replace BK194 := zM (blk_below (g := gb194) (o := .cells #[.slice A0_0 l0_0.length c0_0, .slice A0_1 l0_1.length c0_1] 30 (0, 0)) (zK BK194.out) hb); replace HB := zM (below_step zB hb); clear hb ho7))
     repeat (go_quiet (first | ((with_reducible refine gate_dst (N := 1) rfl ?_); refine zb (w := w) 1 #[.slice A0_0 l0_0.length c0_0, .slice A0_1 l0_1.length c0_1] 30 zB ?_; clear HB; intro gb194 w4 HB BK194 GW194; have GE194 := GW194; have hcz5_0 := zy BK194 0; have hcz5_1 := zy BK194 1; have hfz5_0 := blk_frozen BK194.out 0; have hfz5_1 := blk_frozen BK194.out 1) | ((with_reducible refine gate_dst (N := 13) rfl ?_); refine Kd.S_make (Kd.slice 3 (Kd.int .i64)) _ 27 rfl (N := 13) rfl 22 _ _ rfl (l0_0.length : Int) rfl rfl Try.underlying22 (.slice none 0 0) 24 info27 rfl (by decide) (by omega) [] (ok := fun _ => True) (okp := fun _ => True) ⟨_, rfl, Kd.R_nil _ _ _ _ _⟩ (fun _ hk => hk) trivial (of_decide_eq_true zA) (Nat.le_trans (Nat.mul_le_mul_right _ (of_decide_eq_true zA : (l0_0.length : Int).toNat ≤ 11728124029610)) (by omega)) (Below.refl _ _) (Nat.le_refl _) ?_; intro v196 w6 ho7 hb hg_ hnew_; clear hg_ hnew_; (first | rw [← Ny195.out] at ho7 | (simp only [Int.reduceToNat] at ho7; rw [← Ny195.out] at ho7)); have HO197 := zM (Kd.S_lower ho7 (below_size zB)); replace BK194 := zM (blk_below (g := gb194) (o := .cells #[.slice A0_0 l0_0.length c0_0, .slice A0_1 l0_1.length c0_1] 30 (0, 0)) (zK BK194.out) hb); replace HB := zM (below_step zB hb); clear hb ho7)); try go_wp2_with (first | ((with_reducible refine gate_dst (N := 1) rfl ?_); refine zb (w := w) 1 #[.slice A0_0 l0_0.length c0_0, .slice A0_1 l0_1.length c0_1] 30 zB ?_; clear HB; intro gb194 w4 HB BK194 GW194; have GE194 := GW194; have hcz5_0 := zy BK194 0; have hcz5_1 := zy BK194 1; have hfz5_0 := blk_frozen BK194.out 0; have hfz5_1 := blk_frozen BK194.out 1) | ((with_reducible refine gate_dst (N := 13) rfl ?_); refine Kd.S_make (Kd.slice 3 (Kd.int .i64)) _ 27 rfl (N := 13) rfl 22 _ _ rfl (l0_0.length : Int) rfl rfl Try.underlying22 (.slice none 0 0) 24 info27 rfl (by decide) (by omega) [] (ok := fun _ => True) (okp := fun _ => True) ⟨_, rfl, Kd.R_nil _ _ _ _ _⟩ (fun _ hk => hk) trivial (of_decide_eq_true zA) (Nat.le_trans (Nat.mul_le_mul_right _ (of_decide_eq_true zA : (l0_0.length : Int).toNat ≤ 11728124029610)) (by omega)) (Below.refl _ _) (Nat.le_refl _) ?_; intro v196 w6 ho7 hb hg_ hnew_; clear hg_ hnew_; (first | rw [← Ny195.out] at ho7 | (simp only [Int.reduceToNat] at ho7; rw [← Ny195.out] at ho7)); have HO197 := zM (Kd.S_lower ho7 (below_size zB)); replace BK194 := zM (blk_below (g := gb194) (o := .cells #[.slice A0_0 l0_0.length c0_0, .slice A0_1 l0_1.length c0_1] 30 (0, 0)) (zK BK194.out) hb); replace HB := zM (below_step zB hb); clear hb ho7)))
     go_loopg [4] k (fun kq v4 w' => ∃ (x3_1 : List (List Int)) (x4_1 : Int), v4 = .int .i64 x4_1 ∧ Aside0 (spec_l2Lists.l0 kq x3_1 x4_1 l0_0 l0_1 = some r) ∧ Aside0 (kq ≤ k) ∧ Aside0 (Kd.S (Kd.slice 3 (Kd.int .i64)) 27 w' w.heap.size (fun _ => True) v196 x3_1) ∧ Aside0 (w'.heap[gb194]? = some (.cells #[(.slice A0_0 l0_0.length c0_0), (.slice A0_1 l0_1.length c0_1)] 30 (0, 0))) ∧ Aside0 (Below w.heap.size w w'))
     case atStart => exact ⟨(y195), (0), (by first | rfl | (simp; done) | (simp [*]; done)), H', ⟨Nat.le_refl _⟩, ⟨by (with_reducible repeat (first | apply Kd.S_alloc | apply Kd.S_drewN | apply Kd.S_drew)); exact HO197.out⟩, ⟨zK BK194.out⟩, ⟨zB⟩⟩
     case round =>
      clear H'
      try clear c2
      try clear c2b0
      try clear c2b1
      try clear p2
      try clear c3
      try clear c3b0
      try clear c3b1
      try clear hcz5_0
      try clear hcz5_1
      try clear hfz5_0
      try clear hfz5_1
      obtain ⟨x3_1, x4_1, rfl, HA, HK1, HO_3, BK194, HB⟩ := hrel
      cases gk with
      | zero => exact absurd HA.out (by simp [spec_l2Lists.l0])
      | succ k1 =>
       have H := HA.out
       clear HA
       simp only [spec_l2Lists.l0] at H
       by_cases c8 : x4_1 < (l0_1.length : Int)
       · rw [if_pos c8] at H
         have c8b0 := decide_eq_true c8
         clear c8
         by_cases c9 : 0 ≤ x4_1
         · rw [if_pos c9] at H
           have c9b0 := decide_eq_true c9
           clear c9
           by_cases c10 : 0 ≤ ((rd_T54 l0_1 x4_1).f1)
           · rw [if_pos c10] at H
             have c10b0 := decide_eq_true c10
             clear c10
             by_cases c11 : ((rd_T54 l0_1 x4_1).f1) < (x3_1.length : Int)
             · rw [if_pos c11] at H
               have c11b0 := decide_eq_true c11
               clear c11
               by_cases c12 : (rd_L1 x3_1 ((rd_T54 l0_1 x4_1).f1)).length < 17592186044416
               · rw [if_pos c12] at H
                 have LMc12 := Aside0.mk c12
                 clear c12
                 obtain ⟨y201, hy201⟩ : ∃ y_ : List Int, y_ = ((rd_L1 x3_1 ((rd_T54 l0_1 x4_1).f1)) ++ [(rd_T54 l0_1 x4_1).f0]) := ⟨_, rfl⟩
                 replace H : (spec_l2Lists.l0 k1 (x3_1.set (((rd_T54 l0_1 x4_1).f1) : Int).toNat y201) (wrap64 (x4_1 + 1)) l0_0 l0_1) = some r := by first | (rw [hy201]; with_reducible exact H) | (have H2_ := (Option.bind_some _ _).symm.trans H; rw [hy201]; with_reducible exact H2_) | (have H2_ := (Option.bind_some _ _).symm.trans H; with_reducible exact H2_) | with_reducible exact H | (rw [hy201]; exact H) | exact H
                 have Ny201 := Aside0.mk hy201
                 clear hy201
                 obtain ⟨y204, hy204⟩ : ∃ y_ : List (List Int), y_ = (x3_1.set (((rd_T54 l0_1 x4_1).f1) : Int).toNat y201) := ⟨_, rfl⟩
                 replace H : (spec_l2Lists.l0 k1 y204 (wrap64 (x4_1 + 1)) l0_0 l0_1) = some r := by first | (rw [hy204]; with_reducible exact H) | (have H2_ := (Option.bind_some _ _).symm.trans H; rw [hy204]; with_reducible exact H2_) | (have H2_ := (Option.bind_some _ _).symm.trans H; with_reducible exact H2_) | with_reducible exact H | (rw [hy204]; exact H) | exact H
                 have Ny204 := Aside0.mk hy204
                 clear hy204
                 have H' := Aside0.mk H
                 clear H
                 have hcz14_0 := zy BK194 0
                 have hcz14_1 := zy BK194 1
                 have hfz14_0 := blk_frozen BK194.out 0
                 have hfz14_1 := blk_frozen BK194.out 1
                 have p198 : 0 ≤ (x4_1 : Int) := of_decide_eq_true zA
                 have q198 : x4_1 < (l0_1.length : Int) := of_decide_eq_true zA
                 obtain ⟨ad198, e198, hx198_0, hx198_1⟩ := at_T54 HR0_1.out x4_1 p198 q198
                 cases e198
                 (try replace hx198_0 := (HB.out.cell (World.block_lt_of_cell? w _ hx198_0)).trans hx198_0)
                 (try replace hx198_1 := (HB.out.cell (World.block_lt_of_cell? w _ hx198_1)).trans hx198_1)
                 replace p198 := eq_true p198
                 replace q198 := eq_true q198
                 have p199 : 0 ≤ (x4_1 : Int) := of_decide_eq_true zA
                 have q199 : x4_1 < (l0_1.length : Int) := of_decide_eq_true zA
                 obtain ⟨ad199, e199, hx199_0, hx199_1⟩ := at_T54 HR0_1.out x4_1 p199 q199
                 obtain rfl : ad198 = ad199 := (by injection e199)
                 (try replace hx199_0 := (HB.out.cell (World.block_lt_of_cell? w _ hx199_0)).trans hx199_0)
                 (try replace hx199_1 := (HB.out.cell (World.block_lt_of_cell? w _ hx199_1)).trans hx199_1)
                 replace p199 := eq_true p199
                 replace q199 := eq_true q199
                 obtain ⟨Ao15, co15, eo15⟩ := Kd.S_slice HO_3.out
                 subst eo15
                 have p200 : 0 ≤ (((rd_T54 l0_1 x4_1).f1) : Int) := of_decide_eq_true zA
                 have q200 : ((rd_T54 l0_1 x4_1).f1) < (x3_1.length : Int) := of_decide_eq_true zA
                 obtain ⟨ad200, A200_0, c200_0, e200, hx200_0, hl200_0, hi200_0⟩ := at_L1 (Kd.S_reads' HO_3.out).2.2 ((rd_T54 l0_1 x4_1).f1) p200 q200
                 cases e200
                 obtain ⟨ce200, hce200, hMe200, hcc200⟩ := Kd.S_get HO_3.out [] ((rd_T54 l0_1 x4_1).f1) p200 (by first | exact q200 | exact of_decide_eq_true zA | (have e_ := (Kd.S_reads' HO_3.out).1; omega))
                 obtain ⟨ve200_0, rfl, ge200_0⟩ := hMe200
                 have hv200_0 := hcc200 0 _ rfl
                 rw [Nat.add_zero, show ((Kd.slice 3 (Kd.int .i64))).sz = 1 from rfl, Nat.mul_one] at hv200_0
                 replace hv200_0 := Option.some.inj (hv200_0.symm.trans hx200_0)
                 rw [hv200_0] at ge200_0
                 have HL200_0 := zM (show Kd.R (Kd.int .i64) 3 _ _ _ _ (rd_L1 x3_1 ((rd_T54 l0_1 x4_1).f1)) from ge200_0)
                 clear hv200_0 ge200_0
                 have HX200_0 := Aside0.mk hx200_0
                 clear hcc200 hce200
                 have HR200_0 := Aside0.mk hi200_0
                 have HC200_0 := Aside0.mk hl200_0
                 clear hi200_0 hl200_0
                 replace p200 := eq_true p200
                 replace q200 := eq_true q200
                 obtain ⟨go16, co16, eo16, gb16, gl16, cl16, HG16⟩ := Kd.S_form HO_3.out (by have h_ : (((rd_T54 l0_1 x4_1).f1) : Int) < ((x3_1.length : Int) : Int) := of_decide_eq_true zA; have h2_ : 0 ≤ (((rd_T54 l0_1 x4_1).f1) : Int) := (of_decide_eq_true zA); omega)
                 (first | cases eo16 | (injection eo16 with ea_ en_ ec_; (first | subst ea_ | (injection ea_ with ea_; subst ea_)); subst ec_; clear en_))
                 have GB16 := Aside0.mk gb16
                 have GG16 := Aside0.mk HG16
                 clear gb16 gl16 HG16
                 (first | simp only [add_plain] at hx200_0 | skip)
                 obtain ⟨oki16, ce16, hcl16, hM16, hcc16, _, _, hH16⟩ := Kd.S_elem HO_3.out [] (((rd_T54 l0_1 x4_1).f1) : Int) (of_decide_eq_true zA) (by have h_ : (((rd_T54 l0_1 x4_1).f1) : Int) < ((x3_1.length : Int) : Int) := of_decide_eq_true zA; first | exact h_ | (have e_ := (Kd.S_reads' HO_3.out).1; omega) | simpa using h_)
                 obtain ⟨ve16_0, rfl, ge16_0⟩ := hM16
                 have hv16 := hcc16 0 _ rfl
                 have hX16 := HX200_0.out
                 (try simp only [add_plain] at hX16)
                 (try simp only [Nat.add_zero] at hv16)
                 (try rw [show ((Kd.slice 3 (Kd.int .i64))).sz = 1 from rfl, Nat.mul_one] at hv16)
                 replace hv16 := Option.some.inj (hv16.symm.trans hX16)
                 subst hv16
                 clear hX16 hcc16 hcl16
                 have UU16 := zM (show Kd.R (Kd.int .i64) 3 _ w.heap.size oki16 (.slice A200_0 (rd_L1 x3_1 ((rd_T54 l0_1 x4_1).f1)).length c200_0) (rd_L1 x3_1 ((rd_T54 l0_1 x4_1).f1)) from ge16_0)
                 have HH16 := Aside0.mk hH16
                 have HN16 := zM (Kd.S_reads' HO_3.out).1
                 clear hH16 ge16_0
                 go_wp2_with (first | ((with_reducible refine gate_builtin (b := .append) (xs := #[.tmp 38, .tmp 40]) rfl ?_); at_builtin; refine Kd.R_append (Kd.int .i64) (w0 := w) w.heap.size rfl (.tmp 38) (.tmp 40) 27 3 (.int .i64 0) 8 rfl Try.underlying27 info3 rfl (by decide) (by omega) (.slice A200_0 (rd_L1 x3_1 ((rd_T54 l0_1 x4_1).f1)).length c200_0) (rd_L1 x3_1 ((rd_T54 l0_1 x4_1).f1)) ((rd_T54 l0_1 x4_1).f0) [.int .i64 ((rd_T54 l0_1 x4_1).f0)] (fun k_ => oki16 k_ ∨ ((fun _ => True)) k_ ∧ wr.heap.size ≤ k_) (fun _ => False) rfl rfl ?aP (fun _ hk => hk.elim) ?aF ?aO ?aB ?aS ?aL ?_; (case aP => exact rfl); (case aB => exact zB); (case aF => exact (fun k_ hk => .inr ⟨trivial, hk⟩)); (case aO => exact (by (with_reducible repeat (first | apply Kd.R_alloc | apply Kd.R_drewN | apply Kd.R_drew)); exact Kd.R_mono UU16.out (fun _ hk => .inl hk))); (case aS => exact (below_size zB)); (case aL => have := LMc12.out; omega); intro v202 w17 ho hb hg hat; rw [← Ny201.out] at ho; replace BK194 := zM (blk_grown (g := gb194) (o := .cells #[.slice A0_0 l0_0.length c0_0, .slice (some ad198) l0_1.length c0_1] 30 (0, 0)) (zK BK194.out) hg (Kd.R_ne HL200_0.out BK194.out (by decide))); replace HB := zM (hb); replace HH16 := zM (Kd.H_grown (Kd.H_widen (by repeat (first | exact HH16.out | refine Kd.H_alloc ?_ _ | refine Kd.H_drewN ?_ _ | refine Kd.H_drew ?_))) hg (fun k_ e_ => .inl (UU16.out.1 k_ e_))); have HO203 := zM (ho); clear HO_3 UU16 HL200_0; clear ho hb hg hat; have p13 : 0 ≤ (((rd_T54 l0_1 x4_1).f1) : Int) := of_decide_eq_true zA; have q13 : (((rd_T54 l0_1 x4_1).f1) : Int) < ((x3_1.length : Int) : Int) := of_decide_eq_true zA; replace p13 := eq_true p13; replace q13 := eq_true q13; obtain ⟨Ao20, co20, eo20⟩ := Kd.R_slice HO203.out; subst eo20; obtain ⟨_, _, hraw18, _, _, hcc18, _⟩ := Kd.H_raw HH16.out (of_decide_eq_true zA) (by have h_ : (((rd_T54 l0_1 x4_1).f1) : Int) < ((x3_1.length : Int) : Int) := of_decide_eq_true zA; first | exact h_ | (have e_ := (HN16.out); omega) | simpa using h_); obtain ⟨_, hfr18⟩ := Kd.H_at HH16.out (of_decide_eq_true zA) (by have h_ : (((rd_T54 l0_1 x4_1).f1) : Int) < ((x3_1.length : Int) : Int) := of_decide_eq_true zA; first | exact h_ | (have e_ := (HN16.out); omega) | simpa using h_); have hx18_0 := hcc18 0 _ rfl; have hf18_0 := hfr18 0; (try simp only [Nat.add_zero] at hx18_0 hf18_0); (try rw [show ((Kd.slice 3 (Kd.int .i64))).sz = 1 from rfl, Nat.mul_one] at hx18_0); (try rw [show ((Kd.slice 3 (Kd.int .i64))).sz = 1 from rfl, Nat.mul_one] at hf18_0); have HP18 := Kd.S_seg0 HH16.out (of_decide_eq_true zA) (by have h_ : (((rd_T54 l0_1 x4_1).f1) : Int) < ((x3_1.length : Int) : Int) := of_decide_eq_true zA; first | exact h_ | (have e_ := (HN16.out); omega) | simpa using h_) (seg := [.slice Ao20 y201.length co20]) (j := 0) (show 1 ≤ 1 from by decide) (x' := y201) (Kd.M_row HO203.out) (fun _ hk => hk); (try simp only [show ((Kd.slice 3 (Kd.int .i64))).sz = 1 from rfl, Nat.mul_one, Nat.add_zero] at HP18); clear hcc18 hfr18) | ((with_reducible refine gate_store (t := 27) (p := 42) rfl ?_); (try (rw [drewN_self w17]; generalize hq_ : World.drewN w17 _ = w17; have n0_ := zM (Kd.S_at hq_ HO_3.out); have n1_ := zM (blk_at hq_ BK194.out); have n2_ := zM (below_at hq_ HB.out); clear hq_ HO_3 BK194 HB; have HO_3 := n0_; have BK194 := n1_; have HB := n2_; clear n0_ n1_ n2_; (try (obtain ⟨Ao20, co20, eo20⟩ := Kd.R_slice HO203.out)); (try (subst eo20)); (try (obtain ⟨_, _, hraw18, _, _, hcc18, _⟩ := Kd.H_raw HH16.out (of_decide_eq_true zA) (by have h_ : (((rd_T54 l0_1 x4_1).f1) : Int) < ((x3_1.length : Int) : Int) := of_decide_eq_true zA; first | exact h_ | (have e_ := (HN16.out); omega) | simpa using h_))); (try (obtain ⟨_, hfr18⟩ := Kd.H_at HH16.out (of_decide_eq_true zA) (by have h_ : (((rd_T54 l0_1 x4_1).f1) : Int) < ((x3_1.length : Int) : Int) := of_decide_eq_true zA; first | exact h_ | (have e_ := (HN16.out); omega) | simpa using h_))); (try (have hx18_0 := hcc18 0 _ rfl)); (try (have hf18_0 := hfr18 0)); (try (try simp only [Nat.add_zero] at hx18_0 hf18_0)); (try (try rw [show ((Kd.slice 3 (Kd.int .i64))).sz = 1 from rfl, Nat.mul_one] at hx18_0)); (try (try rw [show ((Kd.slice 3 (Kd.int .i64))).sz = 1 from rfl, Nat.mul_one] at hf18_0)); (try (have HP18 := Kd.S_seg0 HH16.out (of_decide_eq_true zA) (by have h_ : (((rd_T54 l0_1 x4_1).f1) : Int) < ((x3_1.length : Int) : Int) := of_decide_eq_true zA; first | exact h_ | (have e_ := (HN16.out); omega) | simpa using h_) (seg := [.slice Ao20 y201.length co20]) (j := 0) (show 1 ≤ 1 from by decide) (x' := y201) (Kd.M_row HO203.out) (fun _ hk => hk))); (try (try simp only [show ((Kd.slice 3 (Kd.int .i64))).sz = 1 from rfl, Nat.mul_one, Nat.add_zero] at HP18)); (try (clear hcc18 hfr18)))); refine store_event (t := 27) (p := 42) (v := ?vo_w19) (w1 := (w17.setCell ⟨go16, (((rd_T54 l0_1 x4_1).f1) : Int).toNat, none⟩ (.slice Ao20 y201.length co20))) ?hg ?ho ?hn ?hr ?_; (case ho => rfl); (case hg => rfl); (case hn => rfl); (case hr => first | (go_simp; done) | (go_simp; rfl)); intro w19 hw; have hg : w17.grownBy w19 (some go16) := (by rw [hw]; exact HP18.2); have hp_ : Kd.S (Kd.slice 3 (Kd.int .i64)) 27 w19 w.heap.size (fun _ => True) (.slice (some ⟨go16, 0, none⟩) x3_1.length co15) y204 := (by rw [hw, Ny204.out]; exact HP18.1); clear HP18; replace BK194 := zM (blk_grown (g := gb194) (o := .cells #[.slice A0_0 l0_0.length c0_0, .slice (some ad198) l0_1.length c0_1] 30 (0, 0)) (zK BK194.out) hg (Kd.R_ne hraw18 BK194.out (by decide))); replace HB := zM ((by rw [hw]; exact below_set HB.out GB16.out : Below w.heap.size w w19)); have HO_3 := zM (hp_); clear HO203 HH16; clear hg hw hp_ hraw18))
                 repeat (go_quiet (first | ((with_reducible refine gate_builtin (b := .append) (xs := #[.tmp 38, .tmp 40]) rfl ?_); at_builtin; refine Kd.R_append (Kd.int .i64) (w0 := w) w.heap.size rfl (.tmp 38) (.tmp 40) 27 3 (.int .i64 0) 8 rfl Try.underlying27 info3 rfl (by decide) (by omega) (.slice A200_0 (rd_L1 x3_1 ((rd_T54 l0_1 x4_1).f1)).length c200_0) (rd_L1 x3_1 ((rd_T54 l0_1 x4_1).f1)) ((rd_T54 l0_1 x4_1).f0) [.int .i64 ((rd_T54 l0_1 x4_1).f0)] (fun k_ => oki16 k_ ∨ ((fun _ => True)) k_ ∧ wr.heap.size ≤ k_) (fun _ => False) rfl rfl ?aP (fun _ hk => hk.elim) ?aF ?aO ?aB ?aS ?aL ?_; (case aP => exact rfl); (case aB => exact zB); (case aF => exact (fun k_ hk => .inr ⟨trivial, hk⟩)); (case aO => exact (by (with_reducible repeat (first | apply Kd.R_alloc | apply Kd.R_drewN | apply Kd.R_drew)); exact Kd.R_mono UU16.out (fun _ hk => .inl hk))); (case aS => exact (below_size zB)); (case aL => have := LMc12.out; omega); intro v202 w17 ho hb hg hat; rw [← Ny201.out] at ho; replace BK194 := zM (blk_grown (g := gb194) (o := .cells #[.slice A0_0 l0_0.length c0_0, .slice (some ad198) l0_1.length c0_1] 30 (0, 0)) (zK BK194.out) hg (Kd.R_ne HL200_0.out BK194.out (by decide))); replace HB := zM (hb); replace HH16 := zM (Kd.H_grown (Kd.H_widen (by repeat (first | exact HH16.out | refine Kd.H_alloc ?_ _ | refine Kd.H_drewN ?_ _ | refine Kd.H_drew ?_))) hg (fun k_ e_ => .inl (UU16.out.1 k_ e_))); have HO203 := zM (ho); clear HO_3 UU16 HL200_0; clear ho hb hg hat; have p13 : 0 ≤ (((rd_T54 l0_1 x4_1).f1) : Int) := of_decide_eq_true zA; have q13 : (((rd_T54 l0_1 x4_1).f1) : Int) < ((x3_1.length : Int) : Int) := of_decide_eq_true zA; replace p13 := eq_true p13; replace q13 := eq_true q13; obtain ⟨Ao20, co20, eo20⟩ := Kd.R_slice HO203.out; subst eo20; obtain ⟨_, _, hraw18, _, _, hcc18, _⟩ := Kd.H_raw HH16.out (of_decide_eq_true zA) (by have h_ : (((rd_T54 l0_1 x4_1).f1) : Int) < ((x3_1.length : Int) : Int) := of_decide_eq_true zA; first | exact h_ | (have e_ := (HN16.out); omega) | simpa using h_); obtain ⟨_, hfr18⟩ := Kd.H_at HH16.out (of_decide_eq_true zA) (by have h_ : (((rd_T54 l0_1 x4_1).f1) : Int) < ((x3_1.length : Int) : Int) := of_decide_eq_true zA; first | exact h_ | (have e_ := (HN16.out); omega) | simpa using h_); have hx18_0 := hcc18 0 _ rfl; have hf18_0 := hfr18 0; (try simp only [Nat.add_zero] at hx18_0 hf18_0); (try rw [show ((Kd.slice 3 (Kd.int .i64))).sz = 1 from rfl, Nat.mul_one] at hx18_0); (try rw [show ((Kd.slice 3 (Kd.int .i64))).sz = 1 from rfl, Nat.mul_one] at hf18_0); have HP18 := Kd.S_seg0 HH16.out (of_decide_eq_true zA) (by have h_ : (((rd_T54 l0_1 x4_1).f1) : Int) < ((x3_1.length : Int) : Int) := of_decide_eq_true zA; first | exact h_ | (have e_ := (HN16.out); omega) | simpa using h_) (seg := [.slice Ao20 y201.length co20]) (j := 0) (show 1 ≤ 1 from by decide) (x' := y201) (Kd.M_row HO203.out) (fun _ hk => hk); (try simp only [show ((Kd.slice 3 (Kd.int .i64))).sz = 1 from rfl, Nat.mul_one, Nat.add_zero] at HP18); clear hcc18 hfr18) | ((with_reducible refine gate_store (t := 27) (p := 42) rfl ?_); (try (rw [drewN_self w17]; generalize hq_ : World.drewN w17 _ = w17; have n0_ := zM (Kd.S_at hq_ HO_3.out); have n1_ := zM (blk_at hq_ BK194.out); have n2_ := zM (below_at hq_ HB.out); clear hq_ HO_3 BK194 HB; have HO_3 := n0_; have BK194 := n1_; have HB := n2_; clear n0_ n1_ n2_; (try (obtain ⟨Ao20, co20, eo20⟩ := Kd.R_slice HO203.out)); (try (subst eo20)); (try (obtain ⟨_, _, hraw18, _, _, hcc18, _⟩ := Kd.H_raw HH16.out (of_decide_eq_true zA) (by have h_ : (((rd_T54 l0_1 x4_1).f1) : Int) < ((x3_1.length : Int) : Int) := of_decide_eq_true zA; first | exact h_ | (have e_ := (HN16.out); omega) | simpa using h_))); (try (obtain ⟨_, hfr18⟩ := Kd.H_at HH16.out (of_decide_eq_true zA) (by have h_ : (((rd_T54 l0_1 x4_1).f1) : Int) < ((x3_1.length : Int) : Int) := of_decide_eq_true zA; first | exact h_ | (have e_ := (HN16.out); omega) | simpa using h_))); (try (have hx18_0 := hcc18 0 _ rfl)); (try (have hf18_0 := hfr18 0)); (try (try simp only [Nat.add_zero] at hx18_0 hf18_0)); (try (try rw [show ((Kd.slice 3 (Kd.int .i64))).sz = 1 from rfl, Nat.mul_one] at hx18_0)); (try (try rw [show ((Kd.slice 3 (Kd.int .i64))).sz = 1 from rfl, Nat.mul_one] at hf18_0)); (try (have HP18 := Kd.S_seg0 HH16.out (of_decide_eq_true zA) (by have h_ : (((rd_T54 l0_1 x4_1).f1) : Int) < ((x3_1.length : Int) : Int) := of_decide_eq_true zA; first | exact h_ | (have e_ := (HN16.out); omega) | simpa using h_) (seg := [.slice Ao20 y201.length co20]) (j := 0) (show 1 ≤ 1 from by decide) (x' := y201) (Kd.M_row HO203.out) (fun _ hk => hk))); (try (try simp only [show ((Kd.slice 3 (Kd.int .i64))).sz = 1 from rfl, Nat.mul_one, Nat.add_zero] at HP18)); (try (clear hcc18 hfr18)))); refine store_event (t := 27) (p := 42) (v := ?vo_w19) (w1 := (w17.setCell ⟨go16, (((rd_T54 l0_1 x4_1).f1) : Int).toNat, none⟩ (.slice Ao20 y201.length co20))) ?hg ?ho ?hn ?hr ?_; (case ho => rfl); (case hg => rfl); (case hn => rfl); (case hr => first | (go_simp; done) | (go_simp; rfl)); intro w19 hw; have hg : w17.grownBy w19 (some go16) := (by rw [hw]; exact HP18.2); have hp_ : Kd.S (Kd.slice 3 (Kd.int .i64)) 27 w19 w.heap.size (fun _ => True) (.slice (some ⟨go16, 0, none⟩) x3_1.length co15) y204 := (by rw [hw, Ny204.out]; exact HP18.1); clear HP18; replace BK194 := zM (blk_grown (g := gb194) (o := .cells #[.slice A0_0 l0_0.length c0_0, .slice (some ad198) l0_1.length c0_1] 30 (0, 0)) (zK BK194.out) hg (Kd.R_ne hraw18 BK194.out (by decide))); replace HB := zM ((by rw [hw]; exact below_set HB.out GB16.out : Below w.heap.size w w19)); have HO_3 := zM (hp_); clear HO203 HH16; clear hg hw hp_ hraw18)); try go_wp2_with (first | ((with_reducible refine gate_builtin (b := .append) (xs := #[.tmp 38, .tmp 40]) rfl ?_); at_builtin; refine Kd.R_append (Kd.int .i64) (w0 := w) w.heap.size rfl (.tmp 38) (.tmp 40) 27 3 (.int .i64 0) 8 rfl Try.underlying27 info3 rfl (by decide) (by omega) (.slice A200_0 (rd_L1 x3_1 ((rd_T54 l0_1 x4_1).f1)).length c200_0) (rd_L1 x3_1 ((rd_T54 l0_1 x4_1).f1)) ((rd_T54 l0_1 x4_1).f0) [.int .i64 ((rd_T54 l0_1 x4_1).f0)] (fun k_ => oki16 k_ ∨ ((fun _ => True)) k_ ∧ wr.heap.size ≤ k_) (fun _ => False) rfl rfl ?aP (fun _ hk => hk.elim) ?aF ?aO ?aB ?aS ?aL ?_; (case aP => exact rfl); (case aB => exact zB); (case aF => exact (fun k_ hk => .inr ⟨trivial, hk⟩)); (case aO => exact (by (with_reducible repeat (first | apply Kd.R_alloc | apply Kd.R_drewN | apply Kd.R_drew)); exact Kd.R_mono UU16.out (fun _ hk => .inl hk))); (case aS => exact (below_size zB)); (case aL => have := LMc12.out; omega); intro v202 w17 ho hb hg hat; rw [← Ny201.out] at ho; replace BK194 := zM (blk_grown (g := gb194) (o := .cells #[.slice A0_0 l0_0.length c0_0, .slice (some ad198) l0_1.length c0_1] 30 (0, 0)) (zK BK194.out) hg (Kd.R_ne HL200_0.out BK194.out (by decide))); replace HB := zM (hb); replace HH16 := zM (Kd.H_grown (Kd.H_widen (by repeat (first | exact HH16.out | refine Kd.H_alloc ?_ _ | refine Kd.H_drewN ?_ _ | refine Kd.H_drew ?_))) hg (fun k_ e_ => .inl (UU16.out.1 k_ e_))); have HO203 := zM (ho); clear HO_3 UU16 HL200_0; clear ho hb hg hat; have p13 : 0 ≤ (((rd_T54 l0_1 x4_1).f1) : Int) := of_decide_eq_true zA; have q13 : (((rd_T54 l0_1 x4_1).f1) : Int) < ((x3_1.length : Int) : Int) := of_decide_eq_true zA; replace p13 := eq_true p13; replace q13 := eq_true q13; obtain ⟨Ao20, co20, eo20⟩ := Kd.R_slice HO203.out; subst eo20; obtain ⟨_, _, hraw18, _, _, hcc18, _⟩ := Kd.H_raw HH16.out (of_decide_eq_true zA) (by have h_ : (((rd_T54 l0_1 x4_1).f1) : Int) < ((x3_1.length : Int) : Int) := of_decide_eq_true zA; first | exact h_ | (have e_ := (HN16.out); omega) | simpa using h_); obtain ⟨_, hfr18⟩ := Kd.H_at HH16.out (of_decide_eq_true zA) (by have h_ : (((rd_T54 l0_1 x4_1).f1) : Int) < ((x3_1.length : Int) : Int) := of_decide_eq_true zA; first | exact h_ | (have e_ := (HN16.out); omega) | simpa using h_); have hx18_0 := hcc18 0 _ rfl; have hf18_0 := hfr18 0; (try simp only [Nat.add_zero] at hx18_0 hf18_0); (try rw [show ((Kd.slice 3 (Kd.int .i64))).sz = 1 from rfl, Nat.mul_one] at hx18_0); (try rw [show ((Kd.slice 3 (Kd.int .i64))).sz = 1 from rfl, Nat.mul_one] at hf18_0); have HP18 := Kd.S_seg0 HH16.out (of_decide_eq_true zA) (by have h_ : (((rd_T54 l0_1 x4_1).f1) : Int) < ((x3_1.length : Int) : Int) := of_decide_eq_true zA; first | exact h_ | (have e_ := (HN16.out); omega) | simpa using h_) (seg := [.slice Ao20 y201.length co20]) (j := 0) (show 1 ≤ 1 from by decide) (x' := y201) (Kd.M_row HO203.out) (fun _ hk => hk); (try simp only [show ((Kd.slice 3 (Kd.int .i64))).sz = 1 from rfl, Nat.mul_one, Nat.add_zero] at HP18); clear hcc18 hfr18) | ((with_reducible refine gate_store (t := 27) (p := 42) rfl ?_); (try (rw [drewN_self w17]; generalize hq_ : World.drewN w17 _ = w17; have n0_ := zM (Kd.S_at hq_ HO_3.out); have n1_ := zM (blk_at hq_ BK194.out); have n2_ := zM (below_at hq_ HB.out); clear hq_ HO_3 BK194 HB; have HO_3 := n0_; have BK194 := n1_; have HB := n2_; clear n0_ n1_ n2_; (try (obtain ⟨Ao20, co20, eo20⟩ := Kd.R_slice HO203.out)); (try (subst eo20)); (try (obtain ⟨_, _, hraw18, _, _, hcc18, _⟩ := Kd.H_raw HH16.out (of_decide_eq_true zA) (by have h_ : (((rd_T54 l0_1 x4_1).f1) : Int) < ((x3_1.length : Int) : Int) := of_decide_eq_true zA; first | exact h_ | (have e_ := (HN16.out); omega) | simpa using h_))); (try (obtain ⟨_, hfr18⟩ := Kd.H_at HH16.out (of_decide_eq_true zA) (by have h_ : (((rd_T54 l0_1 x4_1).f1) : Int) < ((x3_1.length : Int) : Int) := of_decide_eq_true zA; first | exact h_ | (have e_ := (HN16.out); omega) | simpa using h_))); (try (have hx18_0 := hcc18 0 _ rfl)); (try (have hf18_0 := hfr18 0)); (try (try simp only [Nat.add_zero] at hx18_0 hf18_0)); (try (try rw [show ((Kd.slice 3 (Kd.int .i64))).sz = 1 from rfl, Nat.mul_one] at hx18_0)); (try (try rw [show ((Kd.slice 3 (Kd.int .i64))).sz = 1 from rfl, Nat.mul_one] at hf18_0)); (try (have HP18 := Kd.S_seg0 HH16.out (of_decide_eq_true zA) (by have h_ : (((rd_T54 l0_1 x4_1).f1) : Int) < ((x3_1.length : Int) : Int) := of_decide_eq_true zA; first | exact h_ | (have e_ := (HN16.out); omega) | simpa using h_) (seg := [.slice Ao20 y201.length co20]) (j := 0) (show 1 ≤ 1 from by decide) (x' := y201) (Kd.M_row HO203.out) (fun _ hk => hk))); (try (try simp only [show ((Kd.slice 3 (Kd.int .i64))).sz = 1 from rfl, Nat.mul_one, Nat.add_zero] at HP18)); (try (clear hcc18 hfr18)))); refine store_event (t := 27) (p := 42) (v := ?vo_w19) (w1 := (w17.setCell ⟨go16, (((rd_T54 l0_1 x4_1).f1) : Int).toNat, none⟩ (.slice Ao20 y201.length co20))) ?hg ?ho ?hn ?hr ?_; (case ho => rfl); (case hg => rfl); (case hn => rfl); (case hr => first | (go_simp; done) | (go_simp; rfl)); intro w19 hw; have hg : w17.grownBy w19 (some go16) := (by rw [hw]; exact HP18.2); have hp_ : Kd.S (Kd.slice 3 (Kd.int .i64)) 27 w19 w.heap.size (fun _ => True) (.slice (some ⟨go16, 0, none⟩) x3_1.length co15) y204 := (by rw [hw, Ny204.out]; exact HP18.1); clear HP18; replace BK194 := zM (blk_grown (g := gb194) (o := .cells #[.slice A0_0 l0_0.length c0_0, .slice (some ad198) l0_1.length c0_1] 30 (0, 0)) (zK BK194.out) hg (Kd.R_ne hraw18 BK194.out (by decide))); replace HB := zM ((by rw [hw]; exact below_set HB.out GB16.out : Below w.heap.size w w19)); have HO_3 := zM (hp_); clear HO203 HH16; clear hg hw hp_ hraw18)))
                 go_roundg k1
                 case measure => have := HK1.out; omega
                 case rel => exact ⟨(y204), (wrap64 (x4_1 + 1)), (by first | rfl | (simp; done) | (simp [*]; done)), H', ⟨by have := HK1.out; omega⟩, ⟨by (with_reducible repeat (first | apply Kd.S_alloc | apply Kd.S_drewN | apply Kd.S_drew)); exact HO_3.out⟩, ⟨zK BK194.out⟩, ⟨zB⟩⟩
               · rw [if_neg c12] at H
                 exact absurd H (by simp)
             · rw [if_neg c11] at H
               exact absurd H (by simp)
           · rw [if_neg c10] at H
             exact absurd H (by simp)
         · rw [if_neg c9] at H
           exact absurd H (by simp)
       · rw [if_neg c8] at H
         have c8b0 : decide (x4_1 < (l0_1.length : Int)) = false := decide_eq_false c8
         clear c8
         have H' := Aside0.mk H
         clear H
         have hcz21_0 := zy BK194 0
         have hcz21_1 := zy BK194 1
         have hfz21_0 := blk_frozen BK194.out 0
         have hfz21_1 := blk_frozen BK194.out 1
         go_wp2
         repeat (go_quiet (fail); try go_wp2)
         go_loopg [7] k1 (fun kq v7 w' => ∃ (x3_2 : List (List Int)) (x7_2 : Int), v7 = .int .i64 x7_2 ∧ Aside0 (spec_l2Lists.l1 kq x3_2 x7_2 l0_0 l0_1 = some r) ∧ Aside0 (kq ≤ k1) ∧ Aside0 (Kd.S (Kd.slice 3 (Kd.int .i64)) 27 w' w.heap.size (fun _ => True) v196 x3_2) ∧ Aside0 (w'.heap[gb194]? = some (.cells #[(.slice A0_0 l0_0.length c0_0), (.slice A0_1 l0_1.length c0_1)] 30 (0, 0))) ∧ Aside0 (Below w.heap.size w w'))
         case atStart => exact ⟨(x3_1), (0), (by first | rfl | (simp; done) | (simp [*]; done)), H', ⟨Nat.le_refl _⟩, ⟨by (with_reducible repeat (first | apply Kd.S_alloc | apply Kd.S_drewN | apply Kd.S_drew)); exact HO_3.out⟩, ⟨zK BK194.out⟩, ⟨zB⟩⟩
         case round =>
          clear H'
          try clear c1
          try clear p1
          try clear q1
          try clear hx1
          try clear hf1
          try clear c2
          try clear c2b0
          try clear c2b1
          try clear p2
          try clear q2
          try clear hx2
          try clear c3
          try clear c3b0
          try clear c3b1
          try clear p6
          try clear c8
          try clear c8b0
          try clear c9
          try clear c9b0
          try clear c10
          try clear c10b0
          try clear c11
          try clear c11b0
          try clear c12
          try clear p13
          try clear q13
          try clear c16
          try clear c18
          try clear hx18
          try clear hf18
          try clear p19
          try clear q19
          try clear hx19
          try clear c20
          try clear p20
          try clear q20
          try clear hx20
          try clear hcz14_0
          try clear hcz14_1
          try clear hcz21_0
          try clear hcz21_1
          try clear hcz5_0
          try clear hcz5_1
          try clear hfz14_0
          try clear hfz14_1
          try clear hfz21_0
          try clear hfz21_1
          try clear hfz5_0
          try clear hfz5_1
          try clear hx18_0
          try clear hx198_0
          try clear hx198_1
          try clear hx199_0
          try clear hx199_1
          try clear hx200_0
          try clear p13
          try clear p198
          try clear p199
          try clear p2
          try clear p200
          try clear q13
          try clear q198
          try clear q199
          try clear q200
          obtain ⟨x3_2, x7_2, rfl, HA, HK2, HO_3, BK194, HB⟩ := hrel
          cases gk with
          | zero => exact absurd HA.out (by simp [spec_l2Lists.l1])
          | succ k2 =>
           have H := HA.out
           clear HA
           simp only [spec_l2Lists.l1] at H
           by_cases c22 : x7_2 < (l0_1.length : Int)
           · rw [if_pos c22] at H
             have c22b0 := decide_eq_true c22
             clear c22
             by_cases c23 : 0 ≤ x7_2
             · rw [if_pos c23] at H
               have c23b0 := decide_eq_true c23
               clear c23
               by_cases c24 : 0 ≤ ((rd_T54 l0_1 x7_2).f0)
               · rw [if_pos c24] at H
                 have c24b0 := decide_eq_true c24
                 clear c24
                 by_cases c25 : ((rd_T54 l0_1 x7_2).f0) < (x3_2.length : Int)
                 · rw [if_pos c25] at H
                   have c25b0 := decide_eq_true c25
                   clear c25
                   by_cases c26 : (rd_L1 x3_2 ((rd_T54 l0_1 x7_2).f0)).length < 17592186044416
                   · rw [if_pos c26] at H
                     have LMc26 := Aside0.mk c26
                     clear c26
                     obtain ⟨y208, hy208⟩ : ∃ y_ : List Int, y_ = ((rd_L1 x3_2 ((rd_T54 l0_1 x7_2).f0)) ++ [(rd_T54 l0_1 x7_2).f1]) := ⟨_, rfl⟩
                     replace H : (spec_l2Lists.l1 k2 (x3_2.set (((rd_T54 l0_1 x7_2).f0) : Int).toNat y208) (wrap64 (x7_2 + 1)) l0_0 l0_1) = some r := by first | (rw [hy208]; with_reducible exact H) | (have H2_ := (Option.bind_some _ _).symm.trans H; rw [hy208]; with_reducible exact H2_) | (have H2_ := (Option.bind_some _ _).symm.trans H; with_reducible exact H2_) | with_reducible exact H | (rw [hy208]; exact H) | exact H
                     have Ny208 := Aside0.mk hy208
                     clear hy208
                     obtain ⟨y211, hy211⟩ : ∃ y_ : List (List Int), y_ = (x3_2.set (((rd_T54 l0_1 x7_2).f0) : Int).toNat y208) := ⟨_, rfl⟩
                     replace H : (spec_l2Lists.l1 k2 y211 (wrap64 (x7_2 + 1)) l0_0 l0_1) = some r := by first | (rw [hy211]; with_reducible exact H) | (have H2_ := (Option.bind_some _ _).symm.trans H; rw [hy211]; with_reducible exact H2_) | (have H2_ := (Option.bind_some _ _).symm.trans H; with_reducible exact H2_) | with_reducible exact H | (rw [hy211]; exact H) | exact H
                     have Ny211 := Aside0.mk hy211
                     clear hy211
                     have H' := Aside0.mk H
                     clear H
                     have hcz28_0 := zy BK194 0
                     have hcz28_1 := zy BK194 1
                     have hfz28_0 := blk_frozen BK194.out 0
                     have hfz28_1 := blk_frozen BK194.out 1
                     have p205 : 0 ≤ (x7_2 : Int) := of_decide_eq_true zA
                     have q205 : x7_2 < (l0_1.length : Int) := of_decide_eq_true zA
                     obtain ⟨ad205, e205, hx205_0, hx205_1⟩ := at_T54 HR0_1.out x7_2 p205 q205
                     cases e205
                     (try replace hx205_0 := (HB.out.cell (World.block_lt_of_cell? w _ hx205_0)).trans hx205_0)
                     (try replace hx205_1 := (HB.out.cell (World.block_lt_of_cell? w _ hx205_1)).trans hx205_1)
                     replace p205 := eq_true p205
                     replace q205 := eq_true q205
                     have p206 : 0 ≤ (x7_2 : Int) := of_decide_eq_true zA
                     have q206 : x7_2 < (l0_1.length : Int) := of_decide_eq_true zA
                     obtain ⟨ad206, e206, hx206_0, hx206_1⟩ := at_T54 HR0_1.out x7_2 p206 q206
                     obtain rfl : ad205 = ad206 := (by injection e206)
                     (try replace hx206_0 := (HB.out.cell (World.block_lt_of_cell? w _ hx206_0)).trans hx206_0)
                     (try replace hx206_1 := (HB.out.cell (World.block_lt_of_cell? w _ hx206_1)).trans hx206_1)
                     replace p206 := eq_true p206
                     replace q206 := eq_true q206
                     obtain ⟨Ao29, co29, eo29⟩ := Kd.S_slice HO_3.out
                     subst eo29
                     have p207 : 0 ≤ (((rd_T54 l0_1 x7_2).f0) : Int) := of_decide_eq_true zA
                     have q207 : ((rd_T54 l0_1 x7_2).f0) < (x3_2.length : Int) := of_decide_eq_true zA
                     obtain ⟨ad207, A207_0, c207_0, e207, hx207_0, hl207_0, hi207_0⟩ := at_L1 (Kd.S_reads' HO_3.out).2.2 ((rd_T54 l0_1 x7_2).f0) p207 q207
                     cases e207
                     obtain ⟨ce207, hce207, hMe207, hcc207⟩ := Kd.S_get HO_3.out [] ((rd_T54 l0_1 x7_2).f0) p207 (by first | exact q207 | exact of_decide_eq_true zA | (have e_ := (Kd.S_reads' HO_3.out).1; omega))
                     obtain ⟨ve207_0, rfl, ge207_0⟩ := hMe207
                     have hv207_0 := hcc207 0 _ rfl
                     rw [Nat.add_zero, show ((Kd.slice 3 (Kd.int .i64))).sz = 1 from rfl, Nat.mul_one] at hv207_0
                     replace hv207_0 := Option.some.inj (hv207_0.symm.trans hx207_0)
                     rw [hv207_0] at ge207_0
                     have HL207_0 := zM (show Kd.R (Kd.int .i64) 3 _ _ _ _ (rd_L1 x3_2 ((rd_T54 l0_1 x7_2).f0)) from ge207_0)
                     clear hv207_0 ge207_0
                     have HX207_0 := Aside0.mk hx207_0
                     clear hcc207 hce207
                     have HR207_0 := Aside0.mk hi207_0
                     have HC207_0 := Aside0.mk hl207_0
                     clear hi207_0 hl207_0
                     replace p207 := eq_true p207
                     replace q207 := eq_true q207
                     obtain ⟨go30, co30, eo30, gb30, gl30, cl30, HG30⟩ := Kd.S_form HO_3.out (by have h_ : (((rd_T54 l0_1 x7_2).f0) : Int) < ((x3_2.length : Int) : Int) := of_decide_eq_true zA; have h2_ : 0 ≤ (((rd_T54 l0_1 x7_2).f0) : Int) := (of_decide_eq_true zA); omega)
                     (first | cases eo30 | (injection eo30 with ea_ en_ ec_; (first | subst ea_ | (injection ea_ with ea_; subst ea_)); subst ec_; clear en_))
                     have GB30 := Aside0.mk gb30
                     have GG30 := Aside0.mk HG30
                     clear gb30 gl30 HG30
                     (first | simp only [add_plain] at hx207_0 | skip)
                     obtain ⟨oki30, ce30, hcl30, hM30, hcc30, _, _, hH30⟩ := Kd.S_elem HO_3.out [] (((rd_T54 l0_1 x7_2).f0) : Int) (of_decide_eq_true zA) (by have h_ : (((rd_T54 l0_1 x7_2).f0) : Int) < ((x3_2.length : Int) : Int) := of_decide_eq_true zA; first | exact h_ | (have e_ := (Kd.S_reads' HO_3.out).1; omega) | simpa using h_)
                     obtain ⟨ve30_0, rfl, ge30_0⟩ := hM30
                     have hv30 := hcc30 0 _ rfl
                     have hX30 := HX207_0.out
                     (try simp only [add_plain] at hX30)
                     (try simp only [Nat.add_zero] at hv30)
                     (try rw [show ((Kd.slice 3 (Kd.int .i64))).sz = 1 from rfl, Nat.mul_one] at hv30)
                     replace hv30 := Option.some.inj (hv30.symm.trans hX30)
                     subst hv30
                     clear hX30 hcc30 hcl30
                     have UU30 := zM (show Kd.R (Kd.int .i64) 3 _ w.heap.size oki30 (.slice A207_0 (rd_L1 x3_2 ((rd_T54 l0_1 x7_2).f0)).length c207_0) (rd_L1 x3_2 ((rd_T54 l0_1 x7_2).f0)) from ge30_0)
                     have HH30 := Aside0.mk hH30
                     have HN30 := zM (Kd.S_reads' HO_3.out).1
                     clear hH30 ge30_0
                     go_wp2_with (first | ((with_reducible refine gate_builtin (b := .append) (xs := #[.tmp 67, .tmp 69]) rfl ?_); at_builtin; refine Kd.R_append (Kd.int .i64) (w0 := w) w.heap.size rfl (.tmp 67) (.tmp 69) 27 3 (.int .i64 0) 8 rfl Try.underlying27 info3 rfl (by decide) (by omega) (.slice A207_0 (rd_L1 x3_2 ((rd_T54 l0_1 x7_2).f0)).length c207_0) (rd_L1 x3_2 ((rd_T54 l0_1 x7_2).f0)) ((rd_T54 l0_1 x7_2).f1) [.int .i64 ((rd_T54 l0_1 x7_2).f1)] (fun k_ => oki30 k_ ∨ ((fun _ => True)) k_ ∧ wr.heap.size ≤ k_) (fun _ => False) rfl rfl ?aP (fun _ hk => hk.elim) ?aF ?aO ?aB ?aS ?aL ?_; (case aP => exact rfl); (case aB => exact zB); (case aF => exact (fun k_ hk => .inr ⟨trivial, hk⟩)); (case aO => exact (by (with_reducible repeat (first | apply Kd.R_alloc | apply Kd.R_drewN | apply Kd.R_drew)); exact Kd.R_mono UU30.out (fun _ hk => .inl hk))); (case aS => exact (below_size zB)); (case aL => have := LMc26.out; omega); intro v209 w31 ho hb hg hat; rw [← Ny208.out] at ho; replace BK194 := zM (blk_grown (g := gb194) (o := .cells #[.slice A0_0 l0_0.length c0_0, .slice (some ad205) l0_1.length c0_1] 30 (0, 0)) (zK BK194.out) hg (Kd.R_ne HL207_0.out BK194.out (by decide))); replace HB := zM (hb); replace HH30 := zM (Kd.H_grown (Kd.H_widen (by repeat (first | exact HH30.out | refine Kd.H_alloc ?_ _ | refine Kd.H_drewN ?_ _ | refine Kd.H_drew ?_))) hg (fun k_ e_ => .inl (UU30.out.1 k_ e_))); have HO210 := zM (ho); clear HO_3 UU30 HL207_0; clear ho hb hg hat; have p27 : 0 ≤ (((rd_T54 l0_1 x7_2).f0) : Int) := of_decide_eq_true zA; have q27 : (((rd_T54 l0_1 x7_2).f0) : Int) < ((x3_2.length : Int) : Int) := of_decide_eq_true zA; replace p27 := eq_true p27; replace q27 := eq_true q27; obtain ⟨Ao34, co34, eo34⟩ := Kd.R_slice HO210.out; subst eo34; obtain ⟨_, _, hraw32, _, _, hcc32, _⟩ := Kd.H_raw HH30.out (of_decide_eq_true zA) (by have h_ : (((rd_T54 l0_1 x7_2).f0) : Int) < ((x3_2.length : Int) : Int) := of_decide_eq_true zA; first | exact h_ | (have e_ := (HN30.out); omega) | simpa using h_); obtain ⟨_, hfr32⟩ := Kd.H_at HH30.out (of_decide_eq_true zA) (by have h_ : (((rd_T54 l0_1 x7_2).f0) : Int) < ((x3_2.length : Int) : Int) := of_decide_eq_true zA; first | exact h_ | (have e_ := (HN30.out); omega) | simpa using h_); have hx32_0 := hcc32 0 _ rfl; have hf32_0 := hfr32 0; (try simp only [Nat.add_zero] at hx32_0 hf32_0); (try rw [show ((Kd.slice 3 (Kd.int .i64))).sz = 1 from rfl, Nat.mul_one] at hx32_0); (try rw [show ((Kd.slice 3 (Kd.int .i64))).sz = 1 from rfl, Nat.mul_one] at hf32_0); have HP32 := Kd.S_seg0 HH30.out (of_decide_eq_true zA) (by have h_ : (((rd_T54 l0_1 x7_2).f0) : Int) < ((x3_2.length : Int) : Int) := of_decide_eq_true zA; first | exact h_ | (have e_ := (HN30.out); omega) | simpa using h_) (seg := [.slice Ao34 y208.length co34]) (j := 0) (show 1 ≤ 1 from by decide) (x' := y208) (Kd.M_row HO210.out) (fun _ hk => hk); (try simp only [show ((Kd.slice 3 (Kd.int .i64))).sz = 1 from rfl, Nat.mul_one, Nat.add_zero] at HP32); clear hcc32 hfr32) | ((with_reducible refine gate_store (t := 27) (p := 71) rfl ?_); (try (rw [drewN_self w31]; generalize hq_ : World.drewN w31 _ = w31; have n0_ := zM (Kd.S_at hq_ HO_3.out); have n1_ := zM (blk_at hq_ BK194.out); have n2_ := zM (below_at hq_ HB.out); clear hq_ HO_3 BK194 HB; have HO_3 := n0_; have BK194 := n1_; have HB := n2_; clear n0_ n1_ n2_; (try (obtain ⟨Ao34, co34, eo34⟩ := Kd.R_slice HO210.out)); (try (subst eo34)); (try (obtain ⟨_, _, hraw32, _, _, hcc32, _⟩ := Kd.H_raw HH30.out (of_decide_eq_true zA) (by have h_ : (((rd_T54 l0_1 x7_2).f0) : Int) < ((x3_2.length : Int) : Int) := of_decide_eq_true zA; first | exact h_ | (have e_ := (HN30.out); omega) | simpa using h_))); (try (obtain ⟨_, hfr32⟩ := Kd.H_at HH30.out (of_decide_eq_true zA) (by have h_ : (((rd_T54 l0_1 x7_2).f0) : Int) < ((x3_2.length : Int) : Int) := of_decide_eq_true zA; first | exact h_ | (have e_ := (HN30.out); omega) | simpa using h_))); (try (have hx32_0 := hcc32 0 _ rfl)); (try (have hf32_0 := hfr32 0)); (try (try simp only [Nat.add_zero] at hx32_0 hf32_0)); (try (try rw [show ((Kd.slice 3 (Kd.int .i64))).sz = 1 from rfl, Nat.mul_one] at hx32_0)); (try (try rw [show ((Kd.slice 3 (Kd.int .i64))).sz = 1 from rfl, Nat.mul_one] at hf32_0)); (try (have HP32 := Kd.S_seg0 HH30.out (of_decide_eq_true zA) (by have h_ : (((rd_T54 l0_1 x7_2).f0) : Int) < ((x3_2.length : Int) : Int) := of_decide_eq_true zA; first | exact h_ | (have e_ := (HN30.out); omega) | simpa using h_) (seg := [.slice Ao34 y208.length co34]) (j := 0) (show 1 ≤ 1 from by decide) (x' := y208) (Kd.M_row HO210.out) (fun _ hk => hk))); (try (try simp only [show ((Kd.slice 3 (Kd.int .i64))).sz = 1 from rfl, Nat.mul_one, Nat.add_zero] at HP32)); (try (clear hcc32 hfr32)))); refine store_event (t := 27) (p := 71) (v := ?vo_w33) (w1 := (w31.setCell ⟨go30, (((rd_T54 l0_1 x7_2).f0) : Int).toNat, none⟩ (.slice Ao34 y208.length co34))) ?hg ?ho ?hn ?hr ?_; (case ho => rfl); (case hg => rfl); (case hn => rfl); (case hr => first | (go_simp; done) | (go_simp; rfl)); intro w33 hw; have hg : w31.grownBy w33 (some go30) := (by rw [hw]; exact HP32.2); have hp_ : Kd.S (Kd.slice 3 (Kd.int .i64)) 27 w33 w.heap.size (fun _ => True) (.slice (some ⟨go30, 0, none⟩) x3_2.length co29) y211 := (by rw [hw, Ny211.out]; exact HP32.1); clear HP32; replace BK194 := zM (blk_grown (g := gb194) (o := .cells #[.slice A0_0 l0_0.length c0_0, .slice (some ad205) l0_1.length c0_1] 30 (0, 0)) (zK BK194.out) hg (Kd.R_ne hraw32 BK194.out (by decide))); replace HB := zM ((by rw [hw]; exact below_set HB.out GB30.out : Below w.heap.size w w33)); have HO_3 := zM (hp_); clear HO210 HH30; clear hg hw hp_ hraw32))
                     repeat (go_quiet (first | ((with_reducible refine gate_builtin (b := .append) (xs := #[.tmp 67, .tmp 69]) rfl ?_); at_builtin; refine Kd.R_append (Kd.int .i64) (w0 := w) w.heap.size rfl (.tmp 67) (.tmp 69) 27 3 (.int .i64 0) 8 rfl Try.underlying27 info3 rfl (by decide) (by omega) (.slice A207_0 (rd_L1 x3_2 ((rd_T54 l0_1 x7_2).f0)).length c207_0) (rd_L1 x3_2 ((rd_T54 l0_1 x7_2).f0)) ((rd_T54 l0_1 x7_2).f1) [.int .i64 ((rd_T54 l0_1 x7_2).f1)] (fun k_ => oki30 k_ ∨ ((fun _ => True)) k_ ∧ wr.heap.size ≤ k_) (fun _ => False) rfl rfl ?aP (fun _ hk => hk.elim) ?aF ?aO ?aB ?aS ?aL ?_; (case aP => exact rfl); (case aB => exact zB); (case aF => exact (fun k_ hk => .inr ⟨trivial, hk⟩)); (case aO => exact (by (with_reducible repeat (first | apply Kd.R_alloc | apply Kd.R_drewN | apply Kd.R_drew)); exact Kd.R_mono UU30.out (fun _ hk => .inl hk))); (case aS => exact (below_size zB)); (case aL => have := LMc26.out; omega); intro v209 w31 ho hb hg hat; rw [← Ny208.out] at ho; replace BK194 := zM (blk_grown (g := gb194) (o := .cells #[.slice A0_0 l0_0.length c0_0, .slice (some ad205) l0_1.length c0_1] 30 (0, 0)) (zK BK194.out) hg (Kd.R_ne HL207_0.out BK194.out (by decide))); replace HB := zM (hb); replace HH30 := zM (Kd.H_grown (Kd.H_widen (by repeat (first | exact HH30.out | refine Kd.H_alloc ?_ _ | refine Kd.H_drewN ?_ _ | refine Kd.H_drew ?_))) hg (fun k_ e_ => .inl (UU30.out.1 k_ e_))); have HO210 := zM (ho); clear HO_3 UU30 HL207_0; clear ho hb hg hat; have p27 : 0 ≤ (((rd_T54 l0_1 x7_2).f0) : Int) := of_decide_eq_true zA; have q27 : (((rd_T54 l0_1 x7_2).f0) : Int) < ((x3_2.length : Int) : Int) := of_decide_eq_true zA; replace p27 := eq_true p27; replace q27 := eq_true q27; obtain ⟨Ao34, co34, eo34⟩ := Kd.R_slice HO210.out; subst eo34; obtain ⟨_, _, hraw32, _, _, hcc32, _⟩ := Kd.H_raw HH30.out (of_decide_eq_true zA) (by have h_ : (((rd_T54 l0_1 x7_2).f0) : Int) < ((x3_2.length : Int) : Int) := of_decide_eq_true zA; first | exact h_ | (have e_ := (HN30.out); omega) | simpa using h_); obtain ⟨_, hfr32⟩ := Kd.H_at HH30.out (of_decide_eq_true zA) (by have h_ : (((rd_T54 l0_1 x7_2).f0) : Int) < ((x3_2.length : Int) : Int) := of_decide_eq_true zA; first | exact h_ | (have e_ := (HN30.out); omega) | simpa using h_); have hx32_0 := hcc32 0 _ rfl; have hf32_0 := hfr32 0; (try simp only [Nat.add_zero] at hx32_0 hf32_0); (try rw [show ((Kd.slice 3 (Kd.int .i64))).sz = 1 from rfl, Nat.mul_one] at hx32_0); (try rw [show ((Kd.slice 3 (Kd.int .i64))).sz = 1 from rfl, Nat.mul_one] at hf32_0); have HP32 := Kd.S_seg0 HH30.out (of_decide_eq_true zA) (by have h_ : (((rd_T54 l0_1 x7_2).f0) : Int) < ((x3_2.length : Int) : Int) := of_decide_eq_true zA; first | exact h_ | (have e_ := (HN30.out); omega) | simpa using h_) (seg := [.slice Ao34 y208.length co34]) (j := 0) (show 1 ≤ 1 from by decide) (x' := y208) (Kd.M_row HO210.out) (fun _ hk => hk); (try simp only [show ((Kd.slice 3 (Kd.int .i64))).sz = 1 from rfl, Nat.mul_one, Nat.add_zero] at HP32); clear hcc32 hfr32) | ((with_reducible refine gate_store (t := 27) (p := 71) rfl ?_); (try (rw [drewN_self w31]; generalize hq_ : World.drewN w31 _ = w31; have n0_ := zM (Kd.S_at hq_ HO_3.out); have n1_ := zM (blk_at hq_ BK194.out); have n2_ := zM (below_at hq_ HB.out); clear hq_ HO_3 BK194 HB; have HO_3 := n0_; have BK194 := n1_; have HB := n2_; clear n0_ n1_ n2_; (try (obtain ⟨Ao34, co34, eo34⟩ := Kd.R_slice HO210.out)); (try (subst eo34)); (try (obtain ⟨_, _, hraw32, _, _, hcc32, _⟩ := Kd.H_raw HH30.out (of_decide_eq_true zA) (by have h_ : (((rd_T54 l0_1 x7_2).f0) : Int) < ((x3_2.length : Int) : Int) := of_decide_eq_true zA; first | exact h_ | (have e_ := (HN30.out); omega) | simpa using h_))); (try (obtain ⟨_, hfr32⟩ := Kd.H_at HH30.out (of_decide_eq_true zA) (by have h_ : (((rd_T54 l0_1 x7_2).f0) : Int) < ((x3_2.length : Int) : Int) := of_decide_eq_true zA; first | exact h_ | (have e_ := (HN30.out); omega) | simpa using h_))); (try (have hx32_0 := hcc32 0 _ rfl)); (try (have hf32_0 := hfr32 0)); (try (try simp only [Nat.add_zero] at hx32_0 hf32_0)); (try (try rw [show ((Kd.slice 3 (Kd.int .i64))).sz = 1 from rfl, Nat.mul_one] at hx32_0)); (try (try rw [show ((Kd.slice 3 (Kd.int .i64))).sz = 1 from rfl, Nat.mul_one] at hf32_0)); (try (have HP32 := Kd.S_seg0 HH30.out (of_decide_eq_true zA) (by have h_ : (((rd_T54 l0_1 x7_2).f0) : Int) < ((x3_2.length : Int) : Int) := of_decide_eq_true zA; first | exact h_ | (have e_ := (HN30.out); omega) | simpa using h_) (seg := [.slice Ao34 y208.length co34]) (j := 0) (show 1 ≤ 1 from by decide) (x' := y208) (Kd.M_row HO210.out) (fun _ hk => hk))); (try (try simp only [show ((Kd.slice 3 (Kd.int .i64))).sz = 1 from rfl, Nat.mul_one, Nat.add_zero] at HP32)); (try (clear hcc32 hfr32)))); refine store_event (t := 27) (p := 71) (v := ?vo_w33) (w1 := (w31.setCell ⟨go30, (((rd_T54 l0_1 x7_2).f0) : Int).toNat, none⟩ (.slice Ao34 y208.length co34))) ?hg ?ho ?hn ?hr ?_; (case ho => rfl); (case hg => rfl); (case hn => rfl); (case hr => first | (go_simp; done) | (go_simp; rfl)); intro w33 hw; have hg : w31.grownBy w33 (some go30) := (by rw [hw]; exact HP32.2); have hp_ : Kd.S (Kd.slice 3 (Kd.int .i64)) 27 w33 w.heap.size (fun _ => True) (.slice (some ⟨go30, 0, none⟩) x3_2.length co29) y211 := (by rw [hw, Ny211.out]; exact HP32.1); clear HP32; replace BK194 := zM (blk_grown (g := gb194) (o := .cells #[.slice A0_0 l0_0.length c0_0, .slice (some ad205) l0_1.length c0_1] 30 (0, 0)) (zK BK194.out) hg (Kd.R_ne hraw32 BK194.out (by decide))); replace HB := zM ((by rw [hw]; exact below_set HB.out GB30.out : Below w.heap.size w w33)); have HO_3 := zM (hp_); clear HO210 HH30; clear hg hw hp_ hraw32)); try go_wp2_with (first | ((with_reducible refine gate_builtin (b := .append) (xs := #[.tmp 67, .tmp 69]) rfl ?_); at_builtin; refine Kd.R_append (Kd.int .i64) (w0 := w) w.heap.size rfl (.tmp 67) (.tmp 69) 27 3 (.int .i64 0) 8 rfl Try.underlying27 info3 rfl (by decide) (by omega) (.slice A207_0 (rd_L1 x3_2 ((rd_T54 l0_1 x7_2).f0)).length c207_0) (rd_L1 x3_2 ((rd_T54 l0_1 x7_2).f0)) ((rd_T54 l0_1 x7_2).f1) [.int .i64 ((rd_T54 l0_1 x7_2).f1)] (fun k_ => oki30 k_ ∨ ((fun _ => True)) k_ ∧ wr.heap.size ≤ k_) (fun _ => False) rfl rfl ?aP (fun _ hk => hk.elim) ?aF ?aO ?aB ?aS ?aL ?_; (case aP => exact rfl); (case aB => exact zB); (case aF => exact (fun k_ hk => .inr ⟨trivial, hk⟩)); (case aO => exact (by (with_reducible repeat (first | apply Kd.R_alloc | apply Kd.R_drewN | apply Kd.R_drew)); exact Kd.R_mono UU30.out (fun _ hk => .inl hk))); (case aS => exact (below_size zB)); (case aL => have := LMc26.out; omega); intro v209 w31 ho hb hg hat; rw [← Ny208.out] at ho; replace BK194 := zM (blk_grown (g := gb194) (o := .cells #[.slice A0_0 l0_0.length c0_0, .slice (some ad205) l0_1.length c0_1] 30 (0, 0)) (zK BK194.out) hg (Kd.R_ne HL207_0.out BK194.out (by decide))); replace HB := zM (hb); replace HH30 := zM (Kd.H_grown (Kd.H_widen (by repeat (first | exact HH30.out | refine Kd.H_alloc ?_ _ | refine Kd.H_drewN ?_ _ | refine Kd.H_drew ?_))) hg (fun k_ e_ => .inl (UU30.out.1 k_ e_))); have HO210 := zM (ho); clear HO_3 UU30 HL207_0; clear ho hb hg hat; have p27 : 0 ≤ (((rd_T54 l0_1 x7_2).f0) : Int) := of_decide_eq_true zA; have q27 : (((rd_T54 l0_1 x7_2).f0) : Int) < ((x3_2.length : Int) : Int) := of_decide_eq_true zA; replace p27 := eq_true p27; replace q27 := eq_true q27; obtain ⟨Ao34, co34, eo34⟩ := Kd.R_slice HO210.out; subst eo34; obtain ⟨_, _, hraw32, _, _, hcc32, _⟩ := Kd.H_raw HH30.out (of_decide_eq_true zA) (by have h_ : (((rd_T54 l0_1 x7_2).f0) : Int) < ((x3_2.length : Int) : Int) := of_decide_eq_true zA; first | exact h_ | (have e_ := (HN30.out); omega) | simpa using h_); obtain ⟨_, hfr32⟩ := Kd.H_at HH30.out (of_decide_eq_true zA) (by have h_ : (((rd_T54 l0_1 x7_2).f0) : Int) < ((x3_2.length : Int) : Int) := of_decide_eq_true zA; first | exact h_ | (have e_ := (HN30.out); omega) | simpa using h_); have hx32_0 := hcc32 0 _ rfl; have hf32_0 := hfr32 0; (try simp only [Nat.add_zero] at hx32_0 hf32_0); (try rw [show ((Kd.slice 3 (Kd.int .i64))).sz = 1 from rfl, Nat.mul_one] at hx32_0); (try rw [show ((Kd.slice 3 (Kd.int .i64))).sz = 1 from rfl, Nat.mul_one] at hf32_0); have HP32 := Kd.S_seg0 HH30.out (of_decide_eq_true zA) (by have h_ : (((rd_T54 l0_1 x7_2).f0) : Int) < ((x3_2.length : Int) : Int) := of_decide_eq_true zA; first | exact h_ | (have e_ := (HN30.out); omega) | simpa using h_) (seg := [.slice Ao34 y208.length co34]) (j := 0) (show 1 ≤ 1 from by decide) (x' := y208) (Kd.M_row HO210.out) (fun _ hk => hk); (try simp only [show ((Kd.slice 3 (Kd.int .i64))).sz = 1 from rfl, Nat.mul_one, Nat.add_zero] at HP32); clear hcc32 hfr32) | ((with_reducible refine gate_store (t := 27) (p := 71) rfl ?_); (try (rw [drewN_self w31]; generalize hq_ : World.drewN w31 _ = w31; have n0_ := zM (Kd.S_at hq_ HO_3.out); have n1_ := zM (blk_at hq_ BK194.out); have n2_ := zM (below_at hq_ HB.out); clear hq_ HO_3 BK194 HB; have HO_3 := n0_; have BK194 := n1_; have HB := n2_; clear n0_ n1_ n2_; (try (obtain ⟨Ao34, co34, eo34⟩ := Kd.R_slice HO210.out)); (try (subst eo34)); (try (obtain ⟨_, _, hraw32, _, _, hcc32, _⟩ := Kd.H_raw HH30.out (of_decide_eq_true zA) (by have h_ : (((rd_T54 l0_1 x7_2).f0) : Int) < ((x3_2.length : Int) : Int) := of_decide_eq_true zA; first | exact h_ | (have e_ := (HN30.out); omega) | simpa using h_))); (try (obtain ⟨_, hfr32⟩ := Kd.H_at HH30.out (of_decide_eq_true zA) (by have h_ : (((rd_T54 l0_1 x7_2).f0) : Int) < ((x3_2.length : Int) : Int) := of_decide_eq_true zA; first | exact h_ | (have e_ := (HN30.out); omega) | simpa using h_))); (try (have hx32_0 := hcc32 0 _ rfl)); (try (have hf32_0 := hfr32 0)); (try (try simp only [Nat.add_zero] at hx32_0 hf32_0)); (try (try rw [show ((Kd.slice 3 (Kd.int .i64))).sz = 1 from rfl, Nat.mul_one] at hx32_0)); (try (try rw [show ((Kd.slice 3 (Kd.int .i64))).sz = 1 from rfl, Nat.mul_one] at hf32_0)); (try (have HP32 := Kd.S_seg0 HH30.out (of_decide_eq_true zA) (by have h_ : (((rd_T54 l0_1 x7_2).f0) : Int) < ((x3_2.length : Int) : Int) := of_decide_eq_true zA; first | exact h_ | (have e_ := (HN30.out); omega) | simpa using h_) (seg := [.slice Ao34 y208.length co34]) (j := 0) (show 1 ≤ 1 from by decide) (x' := y208) (Kd.M_row HO210.out) (fun _ hk => hk))); (try (try simp only [show ((Kd.slice 3 (Kd.int .i64))).sz = 1 from rfl, Nat.mul_one, Nat.add_zero] at HP32)); (try (clear hcc32 hfr32)))); refine store_event (t := 27) (p := 71) (v := ?vo_w33) (w1 := (w31.setCell ⟨go30, (((rd_T54 l0_1 x7_2).f0) : Int).toNat, none⟩ (.slice Ao34 y208.length co34))) ?hg ?ho ?hn ?hr ?_; (case ho => rfl); (case hg => rfl); (case hn => rfl); (case hr => first | (go_simp; done) | (go_simp; rfl)); intro w33 hw; have hg : w31.grownBy w33 (some go30) := (by rw [hw]; exact HP32.2); have hp_ : Kd.S (Kd.slice 3 (Kd.int .i64)) 27 w33 w.heap.size (fun _ => True) (.slice (some ⟨go30, 0, none⟩) x3_2.length co29) y211 := (by rw [hw, Ny211.out]; exact HP32.1); clear HP32; replace BK194 := zM (blk_grown (g := gb194) (o := .cells #[.slice A0_0 l0_0.length c0_0, .slice (some ad205) l0_1.length c0_1] 30 (0, 0)) (zK BK194.out) hg (Kd.R_ne hraw32 BK194.out (by decide))); replace HB := zM ((by rw [hw]; exact below_set HB.out GB30.out : Below w.heap.size w w33)); have HO_3 := zM (hp_); clear HO210 HH30; clear hg hw hp_ hraw32)))
                     go_roundg k2
                     case measure => have := HK1.out; have := HK2.out; omega
                     case rel => exact ⟨(y211), (wrap64 (x7_2 + 1)), (by first | rfl | (simp; done) | (simp [*]; done)), H', ⟨by have := HK1.out; have := HK2.out; omega⟩, ⟨by (with_reducible repeat (first | apply Kd.S_alloc | apply Kd.S_drewN | apply Kd.S_drew)); exact HO_3.out⟩, ⟨zK BK194.out⟩, ⟨zB⟩⟩
                   · rw [if_neg c26] at H
                     exact absurd H (by simp)
                 · rw [if_neg c25] at H
                   exact absurd H (by simp)
               · rw [if_neg c24] at H
                 exact absurd H (by simp)
             · rw [if_neg c23] at H
               exact absurd H (by simp)
           · rw [if_neg c22] at H
             have c22b0 : decide (x7_2 < (l0_1.length : Int)) = false := decide_eq_false c22
             clear c22
             obtain rfl := Option.some.inj H
             have hcz35_0 := zy BK194 0
             have hcz35_1 := zy BK194 1
             have hfz35_0 := blk_frozen BK194.out 0
             have hfz35_1 := blk_frozen BK194.out 1
             go_wp2
             repeat (go_quiet (fail); try go_wp2)
             go_ret
             exact ⟨_, by first | rfl | (simp [errW_none, errW_some] <;> rfl) | (simp [*, errW_none, errW_some] <;> rfl), by (with_reducible repeat (first | apply Kd.S_alloc | apply Kd.S_drewN | apply Kd.S_drew)); exact HO_3.out, zB⟩
   · rw [if_neg c3] at H
     exact absurd H (by simp)
 · rw [if_neg c2] at H
   exact absurd H (by simp)

end Go.Proofs.Ytaemfocjokkopaa.P
