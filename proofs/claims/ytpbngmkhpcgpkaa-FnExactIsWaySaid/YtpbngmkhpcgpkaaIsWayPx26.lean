-- Written by a program of this session (the kit's print, turned: wip/print/patch.py) out of the translation. Not trusted: Lean checks it.
import Derived.Test.YtpbngmkhpcgpkaaIsWayPx0
import Derived.Test.YtpbngmkhpcgpkaaIsWayPx10
import Derived.Test.YtpbngmkhpcgpkaaIsWayPx11
import Derived.Test.YtpbngmkhpcgpkaaIsWayPx17
import Derived.Test.YtpbngmkhpcgpkaaIsWayPx25
import Derived.Test.YtpbngmkhpcgpkaaIsWayExtG
namespace Go.Proofs.Ytpbngmkhpcgpkaa.P
open Go.RowKit Go.Proofs.YtpbngmkhpcgpkaaW.PrintWords Go.Proofs.YtpbngmkhpcgpkaaW.PrintLast Go.Proofs.YtpbngmkhpcgpkaaW.PrintMore
attribute [local go_sem] max2_int min2_int max_two min_two max_three min_three max_four min_four   -- for this text's walks alone
set_option linter.unusedVariables false
set_option linter.unusedSimpArgs false

/-! ### impl_IsSpace: function 37 -/
mutual
def impl_IsSpace.j0 : Nat → Bool → List (List Int) → List (S68) → Option (Bool)
 | 0, _, _, _ => none
 | k + 1, x14, x526000, x526001 => if x14 = true then (some false) else (impl_IsSpace.l0 k x526000 (x526000.length : Int) 0 x526000 x526001)
def impl_IsSpace.l0 : Nat → List (List Int) → Int → Int → List (List Int) → List (S68) → Option (Bool)
 | 0, _, _, _, _, _ => none
 | k + 1, x16, x17, x18, x526000, x526001 => if x18 < x17 then (if 0 ≤ x18 then (if x18 < (x16.length : Int) then ((impl_isState.f (rd_L4 x16 x18)).bind fun t528 => (if t528 = true then (if x18 > 0 then (if 0 ≤ (wrap64 (x18 - 1)) then (if (wrap64 (x18 - 1)) < (x526000.length : Int) then ((slices_Compare_int_int.f k (rd_L4 x526000 (wrap64 (x18 - 1))) (rd_L4 x16 x18)).bind fun t530 => (if t530 ≥ 0 then (some false) else (impl_IsSpace.l0 k x16 x17 (wrap64 (x18 + 1)) x526000 x526001))) else (none)) else (none)) else (impl_IsSpace.l0 k x16 x17 (wrap64 (x18 + 1)) x526000 x526001)) else (some false))) else (none)) else (none)) else ((impl_isPairs.f k x526001 (x526000.length : Int)).bind fun t526 => (some t526))
end
def impl_IsSpace.f (k : Nat) (l0_0 : List (List Int)) (l0_1 : List (S68)) : Option (Bool) := if (l0_0.length : Int) > 300 then (impl_IsSpace.j0 k true l0_0 l0_1) else (impl_IsSpace.j0 k (decide ((l0_1.length : Int) > 6000)) l0_0 l0_1)
set_option maxHeartbeats 8000000 in
set_option maxRecDepth 100000 in
theorem impl_IsSpace.calls (k : Nat) (A0_0 : Option Addr) (c0_0 : Nat) (l0_0 : List (List Int)) (A0_1 : Option Addr) (c0_1 : Nat) (l0_1 : List (S68)) (r : Bool) (w : World) (hr0_0 : Kd.C (Kd.slice 3 (Kd.int .i64)) w A0_0 l0_0.length l0_0) (hc0_0 : l0_0.length ≤ c0_0) (hr0_1 : Kd.C k68 w A0_1 l0_1.length l0_1) (hc0_1 : l0_1.length ≤ c0_1) (h : impl_IsSpace.f k l0_0 l0_1 = some r) :
 Calls Try.prog 37 #[.agg #[.slice A0_0 l0_0.length c0_0, .slice A0_1 l0_1.length c0_1]] w fun e w' => e = .returned (.bool r) ∧ Below w.heap.size w w' := by
 have hu50 := Try.underlying50
 have HR0_0 := Aside0.mk hr0_0
 have HC0_0 := Aside0.mk hc0_0
 clear hr0_0 hc0_0
 have HR0_1 := Aside0.mk hr0_1
 have HC0_1 := Aside0.mk hc0_1
 clear hr0_1 hc0_1
 have HB := zM (Below.refl w.heap.size w)
 have H : (if (l0_0.length : Int) > 300 then (impl_IsSpace.j0 k true l0_0 l0_1) else (impl_IsSpace.j0 k (decide ((l0_1.length : Int) > 6000)) l0_0 l0_1)) = some r := h
 clear h
 have HC2 := Aside0.mk H
 clear H
 go_enter Try.func37, Try.ntmps37
 go_upto_region 1 with (first | ((with_reducible refine gate_dst (N := 1) rfl ?_); (try (refine gate_guard (by rfl) ?_; dsimp only)); refine zb (w := w) 1 #[.slice A0_0 l0_0.length c0_0, .slice A0_1 l0_1.length c0_1] 50 zB ?_; clear HB; intro gb525 w3 HB BK525 GW525; have GE525 := GW525))
 (try simp only [Act.put, List.setIfInBounds_toArray, List.set_cons_zero, List.set_cons_succ])
 go_cut [14] (fun v14 wc => ∃ (kq : Nat) (x14_1 : Bool), v14 = .bool x14_1 ∧ Aside0 (impl_IsSpace.j0 kq x14_1 l0_0 l0_1 = some r) ∧ Aside0 (kq ≤ k) ∧ Aside0 (wc.heap[gb525]? = some (.cells #[(.slice A0_0 l0_0.length c0_0), (.slice A0_1 l0_1.length c0_1)] 50 (0, 0))) ∧ Aside0 (Below w.heap.size w wc))
 case first =>
  have H := HC2.out
  clear HC2
  by_cases c4 : (l0_0.length : Int) > 300
  · rw [if_pos c4] at H
    have c4b0 : decide (300 < (l0_0.length : Int)) = true := decide_eq_true c4
    have c4b1 : decide (300 < l0_0.length) = true := decide_eq_true (by omega)
    clear c4
    (first | rw [c4b0] | (simp only [i64_w, i32_w]; rw [c4b0]) | skip)
    have H' := Aside0.mk H
    clear H
    have hcz5_0 := zy BK525 0
    have hcz5_1 := zy BK525 1
    have hfz5_0 := blk_frozen BK525.out 0
    have hfz5_1 := blk_frozen BK525.out 1
    go_wp2
    go_meet
    case rel => exact ⟨_, (true), (by first | rfl | (simp; done) | (simp [*]; done)), H', ⟨by first | omega | exact Nat.le_refl _⟩, ⟨zK BK525.out⟩, ⟨zB⟩⟩
  · rw [if_neg c4] at H
    have c4b0 : decide (300 < (l0_0.length : Int)) = false := decide_eq_false c4
    have c4b1 : decide (300 < l0_0.length) = false := decide_eq_false (by omega)
    clear c4
    (first | rw [c4b0] | (simp only [i64_w, i32_w]; rw [c4b0]) | skip)
    have H' := Aside0.mk H
    clear H
    have hcz6_0 := zy BK525 0
    have hcz6_1 := zy BK525 1
    have hfz6_0 := blk_frozen BK525.out 0
    have hfz6_1 := blk_frozen BK525.out 1
    go_wp2
    go_meet
    case rel => exact ⟨_, (decide ((l0_1.length : Int) > 6000)), (by first | rfl | (simp; done) | (simp [*]; done)), H', ⟨by first | omega | exact Nat.le_refl _⟩, ⟨zK BK525.out⟩, ⟨zB⟩⟩
 case rest =>
  clear HC2
  try clear p2
  try clear c3
  try clear c4
  try clear c4b0
  try clear c4b1
  try clear hcz5_0
  try clear hcz5_1
  try clear hcz6_0
  try clear hcz6_1
  try clear hfz5_0
  try clear hfz5_1
  try clear hfz6_0
  try clear hfz6_1
  obtain ⟨kq, x14_1, rfl, HA, HJ1, BK525, HB⟩ := hcut
  cases kq with
  | zero => exact absurd HA.out (by simp [impl_IsSpace.j0])
  | succ kj1 =>
   have H := HA.out
   clear HA
   simp only [impl_IsSpace.j0] at H
   by_cases c7 : x14_1 = true
   · subst c7
     rw [if_pos rfl] at H
     obtain rfl := Option.some.inj H
     go_wp2
     go_ret
     exact ⟨by first | rfl | (simp [errW_none, errW_some] <;> rfl) | (simp [*, errW_none, errW_some] <;> rfl), zB⟩
   · replace c7 := Bool.eq_false_iff.mpr c7
     subst c7
     have H1 : (impl_IsSpace.l0 kj1 l0_0 (l0_0.length : Int) 0 l0_0 l0_1) = some r := by rw [if_neg (show ¬ (false = true) by decide)] at H; exact H
     clear H
     have H := H1
     clear H1
     have H' := Aside0.mk H
     clear H
     have hcz8_0 := zy BK525 0
     have hcz8_1 := zy BK525 1
     have hfz8_0 := blk_frozen BK525.out 0
     have hfz8_1 := blk_frozen BK525.out 1
     go_wp2
     go_loopg [18] kj1 (fun kq v18 w' => ∃ (x18_2 : Int), v18 = .int .i64 x18_2 ∧ Aside0 (impl_IsSpace.l0 kq l0_0 (l0_0.length : Int) x18_2 l0_0 l0_1 = some r) ∧ Aside0 (kq ≤ kj1) ∧ Aside0 (w'.heap[gb525]? = some (.cells #[(.slice A0_0 l0_0.length c0_0), (.slice A0_1 l0_1.length c0_1)] 50 (0, 0))) ∧ Aside0 (Below w.heap.size w w'))
     case atStart => exact ⟨(0), (by first | rfl | (simp; done) | (simp [*]; done)), H', ⟨Nat.le_refl _⟩, ⟨zK BK525.out⟩, ⟨zB⟩⟩
     case round =>
      clear H'
      try clear p2
      try clear c3
      try clear c4
      try clear c4b0
      try clear c4b1
      try clear c7
      try clear hcz5_0
      try clear hcz5_1
      try clear hcz6_0
      try clear hcz6_1
      try clear hcz8_0
      try clear hcz8_1
      try clear hfz5_0
      try clear hfz5_1
      try clear hfz6_0
      try clear hfz6_1
      try clear hfz8_0
      try clear hfz8_1
      try clear p2
      obtain ⟨x18_2, rfl, HA, HK2, BK525, HB⟩ := hrel
      cases gk with
      | zero => exact absurd HA.out (by simp [impl_IsSpace.l0])
      | succ k2 =>
       have H := HA.out
       clear HA
       simp only [impl_IsSpace.l0] at H
       by_cases c9 : x18_2 < (l0_0.length : Int)
       · rw [if_pos c9] at H
         have c9b0 := decide_eq_true c9
         clear c9
         by_cases c10 : 0 ≤ x18_2
         · rw [if_pos c10] at H
           have c10b0 := decide_eq_true c10
           clear c10
           by_cases c11 : x18_2 < (l0_0.length : Int)
           · rw [if_pos c11] at H
             have c11b0 := decide_eq_true c11
             clear c11
             replace H := Option.bind_eq_some_iff.mp H
             obtain ⟨t528, A120, H⟩ := H
             have A12 := Aside0.mk A120
             clear A120
             by_cases c13 : t528 = true
             · subst c13
               rw [if_pos rfl] at H
               by_cases c14 : x18_2 > 0
               · rw [if_pos c14] at H
                 have c14b0 : decide (0 < x18_2) = true := decide_eq_true c14
                 clear c14
                 obtain ⟨ji15, hji15⟩ : ∃ j_ : Int, (wrap64 (x18_2 - 1)) = j_ := ⟨_, rfl⟩
                 replace H : (if 0 ≤ (ji15) then (if (ji15) < (l0_0.length : Int) then ((slices_Compare_int_int.f k2 (rd_L4 l0_0 (ji15)) (rd_L4 l0_0 x18_2)).bind fun t530 => (if t530 ≥ 0 then (some false) else (impl_IsSpace.l0 k2 l0_0 (l0_0.length : Int) (wrap64 (x18_2 + 1)) l0_0 l0_1))) else (none)) else (none)) = some r := by first | (rw [hji15] at H; exact H) | (simp only [hji15] at H ⊢; exact H)
                 (try rw [hji15] at A12)
                 have hji15w : (IntKind.i64.wrap (x18_2 - 1)) = ji15 := (i64_w _).trans hji15
                 by_cases c16 : 0 ≤ (ji15)
                 · rw [if_pos c16] at H
                   have c16b0 := decide_eq_true c16
                   clear c16
                   by_cases c17 : (ji15) < (l0_0.length : Int)
                   · rw [if_pos c17] at H
                     have c17b0 := decide_eq_true c17
                     clear c17
                     replace H := Option.bind_eq_some_iff.mp H
                     obtain ⟨t530, A180, H⟩ := H
                     have A18 := Aside0.mk A180
                     clear A180
                     by_cases c19 : t530 ≥ 0
                     · rw [if_pos c19] at H
                       have c19b0 : decide (0 ≤ t530) = true := decide_eq_true c19
                       clear c19
                       obtain rfl := Option.some.inj H
                       have p527 : 0 ≤ (x18_2 : Int) := of_decide_eq_true zA
                       have q527 : x18_2 < (l0_0.length : Int) := of_decide_eq_true zA
                       obtain ⟨ad527, A527_0, c527_0, e527, hx527_0, hl527_0, hi527_0⟩ := at_L4 HR0_0.out x18_2 p527 q527
                       cases e527
                       (try replace hx527_0 := (HB.out.cell (World.block_lt_of_cell? w _ hx527_0)).trans hx527_0)
                       have HR527_0 := Aside0.mk hi527_0
                       have HC527_0 := Aside0.mk hl527_0
                       clear hi527_0 hl527_0
                       replace p527 := eq_true p527
                       replace q527 := eq_true q527
                       go_wp2_with (first | ((with_reducible refine gate_callee (f := 75) rfl ?_); refine zc 24 Try.func75 #[.slice A527_0 (rd_L4 l0_0 x18_2).length c527_0] ?_; (with_reducible refine (impl_isState.calls _ _ (rd_L4 l0_0 x18_2) true _ ?side1 ?side2 A12.out).mono ?_); (case side1 => exact zC (Kd.C_below HR527_0.out HB.out)); (case side2 => exact HC527_0.out); rintro e w20 ⟨rfl, hb⟩; refine ⟨_, rfl, ?_⟩; replace BK525 := zM (blk_below (g := gb525) (o := .cells #[.slice (some ad527) l0_0.length c0_0, .slice A0_1 l0_1.length c0_1] 50 (0, 0)) (zK BK525.out) hb); replace HB := zM (below_step zB hb); (try clear hb); (try clear hb2); (try clear hk); (try clear hi); have hcz21_0 := zy BK525 0; have hcz21_1 := zy BK525 1; have hfz21_0 := blk_frozen BK525.out 0; have hfz21_1 := blk_frozen BK525.out 1; have p529 : 0 ≤ ((ji15) : Int) := of_decide_eq_true zA; have q529 : (ji15) < (l0_0.length : Int) := of_decide_eq_true zA; obtain ⟨ad529, A529_0, c529_0, e529, hx529_0, hl529_0, hi529_0⟩ := at_L4 HR0_0.out (ji15) p529 q529; obtain rfl : ad527 = ad529 := (by injection e529); (try replace hx529_0 := (HB.out.cell (World.block_lt_of_cell? w _ hx529_0)).trans hx529_0); have HR529_0 := Aside0.mk hi529_0; have HC529_0 := Aside0.mk hl529_0; clear hi529_0 hl529_0; replace p529 := eq_true p529; replace q529 := eq_true q529) | (go_at_call 76; (with_reducible refine (slices_Compare_int_int.calls k2 _ _ (rd_L4 l0_0 (ji15)) _ _ (rd_L4 l0_0 x18_2) t530 _ ?side1 ?side2 ?side3 ?side4 A18.out).mono ?_); (case side1 => exact zC (Kd.C_below HR529_0.out HB.out)); (case side2 => exact HC529_0.out); (case side3 => exact zC (Kd.C_below HR527_0.out HB.out)); (case side4 => exact HC527_0.out); rintro e w' ⟨rfl, ⟨nd, rfl⟩⟩))
                       go_ret
                       exact ⟨by first | rfl | (simp [errW_none, errW_some] <;> rfl) | (simp only [← hji15]; first | rfl | (simp [errW_none, errW_some] <;> rfl)) | (simp [*, errW_none, errW_some] <;> rfl), zB⟩
                     · rw [if_neg c19] at H
                       have c19b0 : decide (0 ≤ t530) = false := decide_eq_false c19
                       clear c19
                       have H' := Aside0.mk H
                       clear H
                       have p527 : 0 ≤ (x18_2 : Int) := of_decide_eq_true zA
                       have q527 : x18_2 < (l0_0.length : Int) := of_decide_eq_true zA
                       obtain ⟨ad527, A527_0, c527_0, e527, hx527_0, hl527_0, hi527_0⟩ := at_L4 HR0_0.out x18_2 p527 q527
                       cases e527
                       (try replace hx527_0 := (HB.out.cell (World.block_lt_of_cell? w _ hx527_0)).trans hx527_0)
                       have HR527_0 := Aside0.mk hi527_0
                       have HC527_0 := Aside0.mk hl527_0
                       clear hi527_0 hl527_0
                       replace p527 := eq_true p527
                       replace q527 := eq_true q527
                       go_wp2_with (first | ((with_reducible refine gate_callee (f := 75) rfl ?_); refine zc 24 Try.func75 #[.slice A527_0 (rd_L4 l0_0 x18_2).length c527_0] ?_; (with_reducible refine (impl_isState.calls _ _ (rd_L4 l0_0 x18_2) true _ ?side1 ?side2 A12.out).mono ?_); (case side1 => exact zC (Kd.C_below HR527_0.out HB.out)); (case side2 => exact HC527_0.out); rintro e w22 ⟨rfl, hb⟩; refine ⟨_, rfl, ?_⟩; replace BK525 := zM (blk_below (g := gb525) (o := .cells #[.slice (some ad527) l0_0.length c0_0, .slice A0_1 l0_1.length c0_1] 50 (0, 0)) (zK BK525.out) hb); replace HB := zM (below_step zB hb); (try clear hb); (try clear hb2); (try clear hk); (try clear hi); have hcz23_0 := zy BK525 0; have hcz23_1 := zy BK525 1; have hfz23_0 := blk_frozen BK525.out 0; have hfz23_1 := blk_frozen BK525.out 1; have p529 : 0 ≤ ((ji15) : Int) := of_decide_eq_true zA; have q529 : (ji15) < (l0_0.length : Int) := of_decide_eq_true zA; obtain ⟨ad529, A529_0, c529_0, e529, hx529_0, hl529_0, hi529_0⟩ := at_L4 HR0_0.out (ji15) p529 q529; obtain rfl : ad527 = ad529 := (by injection e529); (try replace hx529_0 := (HB.out.cell (World.block_lt_of_cell? w _ hx529_0)).trans hx529_0); have HR529_0 := Aside0.mk hi529_0; have HC529_0 := Aside0.mk hl529_0; clear hi529_0 hl529_0; replace p529 := eq_true p529; replace q529 := eq_true q529) | (go_at_call 76; (with_reducible refine (slices_Compare_int_int.calls k2 _ _ (rd_L4 l0_0 (ji15)) _ _ (rd_L4 l0_0 x18_2) t530 _ ?side1 ?side2 ?side3 ?side4 A18.out).mono ?_); (case side1 => exact zC (Kd.C_below HR529_0.out HB.out)); (case side2 => exact HC529_0.out); (case side3 => exact zC (Kd.C_below HR527_0.out HB.out)); (case side4 => exact HC527_0.out); rintro e w' ⟨rfl, ⟨nd, rfl⟩⟩))
                       go_roundg k2
                       case measure => have := HJ1.out; have := HK2.out; omega
                       case rel => exact ⟨(wrap64 (x18_2 + 1)), (by first | rfl | (simp; done) | (simp [*]; done)), H', ⟨by have := HJ1.out; have := HK2.out; omega⟩, ⟨zK BK525.out⟩, ⟨zB⟩⟩
                   · rw [if_neg c17] at H
                     exact absurd H (by simp)
                 · rw [if_neg c16] at H
                   exact absurd H (by simp)
               · rw [if_neg c14] at H
                 have c14b0 : decide (0 < x18_2) = false := decide_eq_false c14
                 clear c14
                 have H' := Aside0.mk H
                 clear H
                 have p527 : 0 ≤ (x18_2 : Int) := of_decide_eq_true zA
                 have q527 : x18_2 < (l0_0.length : Int) := of_decide_eq_true zA
                 obtain ⟨ad527, A527_0, c527_0, e527, hx527_0, hl527_0, hi527_0⟩ := at_L4 HR0_0.out x18_2 p527 q527
                 cases e527
                 (try replace hx527_0 := (HB.out.cell (World.block_lt_of_cell? w _ hx527_0)).trans hx527_0)
                 have HR527_0 := Aside0.mk hi527_0
                 have HC527_0 := Aside0.mk hl527_0
                 clear hi527_0 hl527_0
                 replace p527 := eq_true p527
                 replace q527 := eq_true q527
                 go_wp2_with (first | ((with_reducible refine gate_callee (f := 75) rfl ?_); refine zc 24 Try.func75 #[.slice A527_0 (rd_L4 l0_0 x18_2).length c527_0] ?_; (with_reducible refine (impl_isState.calls _ _ (rd_L4 l0_0 x18_2) true _ ?side1 ?side2 A12.out).mono ?_); (case side1 => exact zC (Kd.C_below HR527_0.out HB.out)); (case side2 => exact HC527_0.out); rintro e w24 ⟨rfl, hb⟩; refine ⟨_, rfl, ?_⟩; replace BK525 := zM (blk_below (g := gb525) (o := .cells #[.slice (some ad527) l0_0.length c0_0, .slice A0_1 l0_1.length c0_1] 50 (0, 0)) (zK BK525.out) hb); replace HB := zM (below_step zB hb); (try clear hb); (try clear hb2); (try clear hk); (try clear hi)))
                 go_roundg k2
                 case measure => have := HJ1.out; have := HK2.out; omega
                 case rel => exact ⟨(wrap64 (x18_2 + 1)), (by first | rfl | (simp; done) | (simp [*]; done)), H', ⟨by have := HJ1.out; have := HK2.out; omega⟩, ⟨zK BK525.out⟩, ⟨zB⟩⟩
             · replace c13 := Bool.eq_false_iff.mpr c13
               subst c13
               have H1 : (some false) = some r := by rw [if_neg (show ¬ (false = true) by decide)] at H; exact H
               clear H
               have H := H1
               clear H1
               obtain rfl := Option.some.inj H
               have p527 : 0 ≤ (x18_2 : Int) := of_decide_eq_true zA
               have q527 : x18_2 < (l0_0.length : Int) := of_decide_eq_true zA
               obtain ⟨ad527, A527_0, c527_0, e527, hx527_0, hl527_0, hi527_0⟩ := at_L4 HR0_0.out x18_2 p527 q527
               cases e527
               (try replace hx527_0 := (HB.out.cell (World.block_lt_of_cell? w _ hx527_0)).trans hx527_0)
               have HR527_0 := Aside0.mk hi527_0
               have HC527_0 := Aside0.mk hl527_0
               clear hi527_0 hl527_0
               replace p527 := eq_true p527
               replace q527 := eq_true q527
               go_wp2_with (first | ((with_reducible refine gate_callee (f := 75) rfl ?_); refine zc 24 Try.func75 #[.slice A527_0 (rd_L4 l0_0 x18_2).length c527_0] ?_; (with_reducible refine (impl_isState.calls _ _ (rd_L4 l0_0 x18_2) false _ ?side1 ?side2 A12.out).mono ?_); (case side1 => exact zC (Kd.C_below HR527_0.out HB.out)); (case side2 => exact HC527_0.out); rintro e w25 ⟨rfl, hb⟩; refine ⟨_, rfl, ?_⟩; replace BK525 := zM (blk_below (g := gb525) (o := .cells #[.slice (some ad527) l0_0.length c0_0, .slice A0_1 l0_1.length c0_1] 50 (0, 0)) (zK BK525.out) hb); replace HB := zM (below_step zB hb); (try clear hb); (try clear hb2); (try clear hk); (try clear hi)))
               go_ret
               exact ⟨by first | rfl | (simp [errW_none, errW_some] <;> rfl) | (simp [*, errW_none, errW_some] <;> rfl), zB⟩
           · rw [if_neg c11] at H
             exact absurd H (by simp)
         · rw [if_neg c10] at H
           exact absurd H (by simp)
       · rw [if_neg c9] at H
         have c9b0 : decide (x18_2 < (l0_0.length : Int)) = false := decide_eq_false c9
         clear c9
         replace H := Option.bind_eq_some_iff.mp H
         obtain ⟨t526, A260, H⟩ := H
         have A26 := Aside0.mk A260
         clear A260
         obtain rfl := Option.some.inj H
         have hcz27_0 := zy BK525 0
         have hcz27_1 := zy BK525 1
         have hfz27_0 := blk_frozen BK525.out 0
         have hfz27_1 := blk_frozen BK525.out 1
         go_wp2_with (first | ((with_reducible refine gate_callee (f := 55) rfl ?_); refine zc 47 Try.func55 #[.slice A0_1 l0_1.length c0_1, .int .i64 (l0_0.length : Int)] ?_; (with_reducible refine (impl_isPairs.calls k2 _ _ l0_1 (l0_0.length : Int) t526 _ ?side1 ?side2 A26.out).mono ?_); (case side1 => exact zC (Kd.C_below HR0_1.out HB.out)); (case side2 => exact HC0_1.out); rintro e w28 ⟨rfl, hb⟩; refine ⟨_, rfl, ?_⟩; replace BK525 := zM (blk_below (g := gb525) (o := .cells #[.slice A0_0 l0_0.length c0_0, .slice A0_1 l0_1.length c0_1] 50 (0, 0)) (zK BK525.out) hb); replace HB := zM (below_step zB hb); (try clear hb); (try clear hb2); (try clear hk); (try clear hi)))
         go_ret
         exact ⟨by first | rfl | (simp [errW_none, errW_some] <;> rfl) | (simp [*, errW_none, errW_some] <;> rfl), zB⟩

/-! ### laws_eqIntSS: function 77 -/
def laws_eqIntSS.l0 : Nat → List (List Int) → List (List Int) → Int → Option (Bool)
 | 0, _, _, _ => none
 | k + 1, x0, x1, x5 => if x5 < (x0.length : Int) then (if 0 ≤ x5 then (if x5 < (x1.length : Int) then ((laws_eqIntS.f k (rd_L4 x0 x5) (rd_L4 x1 x5)).bind fun t533 => (if t533 = true then (laws_eqIntSS.l0 k x0 x1 (wrap64 (x5 + 1))) else (some false))) else (none)) else (none)) else (some true)
def laws_eqIntSS.f (k : Nat) (l0 : List (List Int)) (l1 : List (List Int)) : Option (Bool) := if (l0.length : Int) = (l1.length : Int) then (laws_eqIntSS.l0 k l0 l1 0) else (some false)
set_option maxHeartbeats 8000000 in
set_option maxRecDepth 100000 in
theorem laws_eqIntSS.calls (k : Nat) (A0 : Option Addr) (c0 : Nat) (l0 : List (List Int)) (A1 : Option Addr) (c1 : Nat) (l1 : List (List Int)) (r : Bool) (w : World) (hr0 : Kd.C (Kd.slice 3 (Kd.int .i64)) w A0 l0.length l0) (hc0 : l0.length ≤ c0) (hr1 : Kd.C (Kd.slice 3 (Kd.int .i64)) w A1 l1.length l1) (hc1 : l1.length ≤ c1) (h : laws_eqIntSS.f k l0 l1 = some r) :
 Calls Try.prog 77 #[.slice A0 l0.length c0, .slice A1 l1.length c1] w fun e w' => e = .returned (.bool r) ∧ Drawn0 w w' := by
 have HR0 := Aside0.mk hr0
 have HC0 := Aside0.mk hc0
 clear hr0 hc0
 have HR1 := Aside0.mk hr1
 have HC1 := Aside0.mk hc1
 clear hr1 hc1
 have H : (if (l0.length : Int) = (l1.length : Int) then (laws_eqIntSS.l0 k l0 l1 0) else (some false)) = some r := h
 clear h
 by_cases c3 : (l0.length : Int) = (l1.length : Int)
 · rw [if_pos c3] at H
   have c3b0 : ((l0.length : Int) == (l1.length : Int)) = true := beq_iff_eq.mpr c3
   have c3b1 : ((l0.length : Int) != (l1.length : Int)) = false := bne_eq_false_iff_eq.mpr c3
   have c3b2 : (l0.length == l1.length) = true := by first | simpa using c3 | (simp at c3 ⊢; omega)
   clear c3
   have H' := Aside0.mk H
   clear H
   go_enter Try.func77, Try.ntmps77
   go_wp2
   repeat (go_quiet (fail); try go_wp2)
   go_loopg [5] k (fun kq v5 w' => ∃ (x5_1 : Int), v5 = .int .i64 x5_1 ∧ Aside0 (laws_eqIntSS.l0 kq l0 l1 x5_1 = some r) ∧ Aside0 (kq ≤ k) ∧ Drawn0 w w')
   case atStart => exact ⟨(0), (by first | rfl | (simp; done) | (simp [*]; done)), H', ⟨Nat.le_refl _⟩, by repeat (first | exact Drawn0.refl _ | apply Drawn0.step)⟩
   case round =>
    clear H'
    try clear c1
    try clear p2
    try clear c3
    try clear c3b0
    try clear c3b1
    try clear c3b2
    obtain ⟨x5_1, rfl, HA, HK1, ⟨m1, rfl⟩⟩ := hrel
    cases gk with
    | zero => exact absurd HA.out (by simp [laws_eqIntSS.l0])
    | succ k1 =>
     have H := HA.out
     clear HA
     simp only [laws_eqIntSS.l0] at H
     by_cases c4 : x5_1 < (l0.length : Int)
     · rw [if_pos c4] at H
       have c4b0 := decide_eq_true c4
       clear c4
       by_cases c5 : 0 ≤ x5_1
       · rw [if_pos c5] at H
         have c5b0 := decide_eq_true c5
         clear c5
         by_cases c6 : x5_1 < (l1.length : Int)
         · rw [if_pos c6] at H
           have c6b0 := decide_eq_true c6
           clear c6
           replace H := Option.bind_eq_some_iff.mp H
           obtain ⟨t533, A70, H⟩ := H
           have A7 := Aside0.mk A70
           clear A70
           by_cases c8 : t533 = true
           · subst c8
             rw [if_pos rfl] at H
             have H' := Aside0.mk H
             clear H
             have p531 : 0 ≤ (x5_1 : Int) := of_decide_eq_true zA
             have q531 : x5_1 < (l0.length : Int) := of_decide_eq_true zA
             obtain ⟨ad531, A531_0, c531_0, e531, hx531_0, hl531_0, hi531_0⟩ := at_L4 HR0.out x5_1 p531 q531
             cases e531
             have HR531_0 := Aside0.mk hi531_0
             have HC531_0 := Aside0.mk hl531_0
             clear hi531_0 hl531_0
             replace p531 := eq_true p531
             replace q531 := eq_true q531
             have p532 : 0 ≤ (x5_1 : Int) := of_decide_eq_true zA
             have q532 : x5_1 < (l1.length : Int) := of_decide_eq_true zA
             obtain ⟨ad532, A532_0, c532_0, e532, hx532_0, hl532_0, hi532_0⟩ := at_L4 HR1.out x5_1 p532 q532
             cases e532
             have HR532_0 := Aside0.mk hi532_0
             have HC532_0 := Aside0.mk hl532_0
             clear hi532_0 hl532_0
             replace p532 := eq_true p532
             replace q532 := eq_true q532
             go_wp2_with (first | (go_at_call 27; (with_reducible refine (laws_eqIntS.calls k1 _ _ (rd_L4 l0 x5_1) _ _ (rd_L4 l1 x5_1) true _ ?side1 ?side2 ?side3 ?side4 A7.out).mono ?_); (case side1 => exact zC HR531_0.out); (case side2 => exact HC531_0.out); (case side3 => exact zC HR532_0.out); (case side4 => exact HC532_0.out); rintro e w' ⟨rfl, ⟨nd, rfl⟩⟩; (try exact zD)))
             repeat (go_quiet (first | (go_at_call 27; (with_reducible refine (laws_eqIntS.calls k1 _ _ (rd_L4 l0 x5_1) _ _ (rd_L4 l1 x5_1) true _ ?side1 ?side2 ?side3 ?side4 A7.out).mono ?_); (case side1 => exact zC HR531_0.out); (case side2 => exact HC531_0.out); (case side3 => exact zC HR532_0.out); (case side4 => exact HC532_0.out); rintro e w' ⟨rfl, ⟨nd, rfl⟩⟩; (try exact zD))); try go_wp2_with (first | (go_at_call 27; (with_reducible refine (laws_eqIntS.calls k1 _ _ (rd_L4 l0 x5_1) _ _ (rd_L4 l1 x5_1) true _ ?side1 ?side2 ?side3 ?side4 A7.out).mono ?_); (case side1 => exact zC HR531_0.out); (case side2 => exact HC531_0.out); (case side3 => exact zC HR532_0.out); (case side4 => exact HC532_0.out); rintro e w' ⟨rfl, ⟨nd, rfl⟩⟩; (try exact zD))))
             go_roundg k1
             case measure => have := HK1.out; omega
             case rel => exact ⟨(wrap64 (x5_1 + 1)), (by first | rfl | (simp; done) | (simp [*]; done)), H', ⟨by have := HK1.out; omega⟩, by repeat (first | exact Drawn0.refl _ | apply Drawn0.step)⟩
           · replace c8 := Bool.eq_false_iff.mpr c8
             subst c8
             have H1 : (some false) = some r := by rw [if_neg (show ¬ (false = true) by decide)] at H; exact H
             clear H
             have H := H1
             clear H1
             obtain rfl := Option.some.inj H
             have p531 : 0 ≤ (x5_1 : Int) := of_decide_eq_true zA
             have q531 : x5_1 < (l0.length : Int) := of_decide_eq_true zA
             obtain ⟨ad531, A531_0, c531_0, e531, hx531_0, hl531_0, hi531_0⟩ := at_L4 HR0.out x5_1 p531 q531
             cases e531
             have HR531_0 := Aside0.mk hi531_0
             have HC531_0 := Aside0.mk hl531_0
             clear hi531_0 hl531_0
             replace p531 := eq_true p531
             replace q531 := eq_true q531
             have p532 : 0 ≤ (x5_1 : Int) := of_decide_eq_true zA
             have q532 : x5_1 < (l1.length : Int) := of_decide_eq_true zA
             obtain ⟨ad532, A532_0, c532_0, e532, hx532_0, hl532_0, hi532_0⟩ := at_L4 HR1.out x5_1 p532 q532
             cases e532
             have HR532_0 := Aside0.mk hi532_0
             have HC532_0 := Aside0.mk hl532_0
             clear hi532_0 hl532_0
             replace p532 := eq_true p532
             replace q532 := eq_true q532
             go_wp2_with (first | (go_at_call 27; (with_reducible refine (laws_eqIntS.calls k1 _ _ (rd_L4 l0 x5_1) _ _ (rd_L4 l1 x5_1) false _ ?side1 ?side2 ?side3 ?side4 A7.out).mono ?_); (case side1 => exact zC HR531_0.out); (case side2 => exact HC531_0.out); (case side3 => exact zC HR532_0.out); (case side4 => exact HC532_0.out); rintro e w' ⟨rfl, ⟨nd, rfl⟩⟩; (try exact zD)))
             repeat (go_quiet (first | (go_at_call 27; (with_reducible refine (laws_eqIntS.calls k1 _ _ (rd_L4 l0 x5_1) _ _ (rd_L4 l1 x5_1) false _ ?side1 ?side2 ?side3 ?side4 A7.out).mono ?_); (case side1 => exact zC HR531_0.out); (case side2 => exact HC531_0.out); (case side3 => exact zC HR532_0.out); (case side4 => exact HC532_0.out); rintro e w' ⟨rfl, ⟨nd, rfl⟩⟩; (try exact zD))); try go_wp2_with (first | (go_at_call 27; (with_reducible refine (laws_eqIntS.calls k1 _ _ (rd_L4 l0 x5_1) _ _ (rd_L4 l1 x5_1) false _ ?side1 ?side2 ?side3 ?side4 A7.out).mono ?_); (case side1 => exact zC HR531_0.out); (case side2 => exact HC531_0.out); (case side3 => exact zC HR532_0.out); (case side4 => exact HC532_0.out); rintro e w' ⟨rfl, ⟨nd, rfl⟩⟩; (try exact zD))))
             go_ret
             exact ⟨by first | rfl | (simp; done) | (simp [*]; done), by repeat (first | exact Drawn0.refl _ | apply Drawn0.step)⟩
         · rw [if_neg c6] at H
           exact absurd H (by simp)
       · rw [if_neg c5] at H
         exact absurd H (by simp)
     · rw [if_neg c4] at H
       have c4b0 : decide (x5_1 < (l0.length : Int)) = false := decide_eq_false c4
       clear c4
       obtain rfl := Option.some.inj H
       go_wp2
       repeat (go_quiet (fail); try go_wp2)
       go_ret
       exact ⟨by first | rfl | (simp; done) | (simp [*]; done), by repeat (first | exact Drawn0.refl _ | apply Drawn0.step)⟩
 · rw [if_neg c3] at H
   have c3b0 : ((l0.length : Int) == (l1.length : Int)) = false := beq_eq_false_iff_ne.mpr c3
   have c3b1 : ((l0.length : Int) != (l1.length : Int)) = true := bne_iff_ne.mpr c3
   have c3b2 : (l0.length == l1.length) = false := by first | simpa using c3 | (simp at c3 ⊢; omega)
   obtain rfl := Option.some.inj H
   go_enter Try.func77, Try.ntmps77
   go_wp2
   repeat (go_quiet (fail); try go_wp2)
   go_ret
   exact ⟨by first | rfl | (simp; done) | (simp [*]; done), by repeat (first | exact Drawn0.refl _ | apply Drawn0.step)⟩

/-! ### laws_eqSpace: function 38 -/
def laws_eqSpace.f (k : Nat) (l0_0 : List (List Int)) (l0_1 : List (S68)) (l1_0 : List (List Int)) (l1_1 : List (S68)) : Option (Bool) := (laws_eqIntSS.f k l0_0 l1_0).bind fun t536 => (if t536 = true then ((laws_eqIntA2S.f k l0_1 l1_1).bind fun t537 => (if t537 = true then (some true) else (some false))) else (some false))
set_option maxHeartbeats 8000000 in
set_option maxRecDepth 100000 in
theorem laws_eqSpace.calls (k : Nat) (A0_0 : Option Addr) (c0_0 : Nat) (l0_0 : List (List Int)) (A0_1 : Option Addr) (c0_1 : Nat) (l0_1 : List (S68)) (A1_0 : Option Addr) (c1_0 : Nat) (l1_0 : List (List Int)) (A1_1 : Option Addr) (c1_1 : Nat) (l1_1 : List (S68)) (r : Bool) (w : World) (hr0_0 : Kd.C (Kd.slice 3 (Kd.int .i64)) w A0_0 l0_0.length l0_0) (hc0_0 : l0_0.length ≤ c0_0) (hr0_1 : Kd.C k68 w A0_1 l0_1.length l0_1) (hc0_1 : l0_1.length ≤ c0_1) (hr1_0 : Kd.C (Kd.slice 3 (Kd.int .i64)) w A1_0 l1_0.length l1_0) (hc1_0 : l1_0.length ≤ c1_0) (hr1_1 : Kd.C k68 w A1_1 l1_1.length l1_1) (hc1_1 : l1_1.length ≤ c1_1) (h : laws_eqSpace.f k l0_0 l0_1 l1_0 l1_1 = some r) :
 Calls Try.prog 38 #[.agg #[.slice A0_0 l0_0.length c0_0, .slice A0_1 l0_1.length c0_1], .agg #[.slice A1_0 l1_0.length c1_0, .slice A1_1 l1_1.length c1_1]] w fun e w' => e = .returned (.bool r) ∧ Below w.heap.size w w' := by
 have hu50 := Try.underlying50
 have HR0_0 := Aside0.mk hr0_0
 have HC0_0 := Aside0.mk hc0_0
 clear hr0_0 hc0_0
 have HR0_1 := Aside0.mk hr0_1
 have HC0_1 := Aside0.mk hc0_1
 clear hr0_1 hc0_1
 have HR1_0 := Aside0.mk hr1_0
 have HC1_0 := Aside0.mk hc1_0
 clear hr1_0 hc1_0
 have HR1_1 := Aside0.mk hr1_1
 have HC1_1 := Aside0.mk hc1_1
 clear hr1_1 hc1_1
 have HB := zM (Below.refl w.heap.size w)
 have H : ((laws_eqIntSS.f k l0_0 l1_0).bind fun t536 => (if t536 = true then ((laws_eqIntA2S.f k l0_1 l1_1).bind fun t537 => (if t537 = true then (some true) else (some false))) else (some false))) = some r := h
 clear h
 replace H := Option.bind_eq_some_iff.mp H
 obtain ⟨t536, A30, H⟩ := H
 have A3 := Aside0.mk A30
 clear A30
 by_cases c4 : t536 = true
 · subst c4
   rw [if_pos rfl] at H
   replace H := Option.bind_eq_some_iff.mp H
   obtain ⟨t537, A50, H⟩ := H
   have A5 := Aside0.mk A50
   clear A50
   by_cases c6 : t537 = true
   · subst c6
     rw [if_pos rfl] at H
     obtain rfl := Option.some.inj H
     go_enter Try.func38, Try.ntmps38
     go_wp2_with (first | ((with_reducible refine gate_dst (N := 2) rfl ?_); refine zb (w := w) 2 #[.slice A0_0 l0_0.length c0_0, .slice A0_1 l0_1.length c0_1] 50 zB ?_; clear HB; intro gb534 w7 HB BK534 GW534; have GE534 := GW534) | ((with_reducible refine gate_dst (N := 3) rfl ?_); refine ze 3 #[.slice A1_0 l1_0.length c1_0, .slice A1_1 l1_1.length c1_1] 50 ?_; intro gb535 hg w8 hbox hb; have BK535 := zM (hbox); have GW535 := zM ((by rw [hg]; exact (below_size zB) : w.heap.size ≤ gb535)); have GE535 := zM ((by rw [hg]; exact (below_size zB) : w.heap.size ≤ gb535)); replace HB := zM (below_step zB hb); have NB534_535 := zM ((by rw [hg]; exact Nat.ne_of_lt (blk_lt (g := gb534) (o := .cells #[.slice A0_0 l0_0.length c0_0, .slice A0_1 l0_1.length c0_1] 50 (0, 0)) (zK BK534.out)) : gb534 ≠ gb535)); have NB535_534 := zM ((by rw [hg]; exact Nat.ne_of_gt (blk_lt (g := gb534) (o := .cells #[.slice A0_0 l0_0.length c0_0, .slice A0_1 l0_1.length c0_1] 50 (0, 0)) (zK BK534.out)) : gb535 ≠ gb534)); replace BK534 := zM (blk_below (g := gb534) (o := .cells #[.slice A0_0 l0_0.length c0_0, .slice A0_1 l0_1.length c0_1] 50 (0, 0)) (zK BK534.out) hb); clear hb hbox hg; have hnb9 := NB534_535.out; have hnc9 := NB535_534.out; have hcz10_0 := zy BK534 0; have hcz10_1 := zy BK534 1; have hfz10_0 := blk_frozen BK534.out 0; have hfz10_1 := blk_frozen BK534.out 1; have hcz11_0 := zy BK535 0; have hcz11_1 := zy BK535 1; have hfz11_0 := blk_frozen BK535.out 0; have hfz11_1 := blk_frozen BK535.out 1) | ((with_reducible refine gate_callee (f := 77) rfl ?_); refine zc 9 Try.func77 #[.slice A0_0 l0_0.length c0_0, .slice A1_0 l1_0.length c1_0] ?_; (with_reducible refine (laws_eqIntSS.calls k _ _ l0_0 _ _ l1_0 true _ ?side1 ?side2 ?side3 ?side4 A3.out).mono ?_); (case side1 => exact zC (Kd.C_below HR0_0.out HB.out)); (case side2 => exact HC0_0.out); (case side3 => exact zC (Kd.C_below HR1_0.out HB.out)); (case side4 => exact HC1_0.out); rintro e w' ⟨rfl, ⟨nd, rfl⟩⟩; refine ⟨_, rfl, ?_⟩) | ((with_reducible refine gate_callee (f := 56) rfl ?_); refine zc 15 Try.func56 #[.slice A0_1 l0_1.length c0_1, .slice A1_1 l1_1.length c1_1] ?_; (with_reducible refine (laws_eqIntA2S.calls k _ _ l0_1 _ _ l1_1 true _ ?side1 ?side2 ?side3 ?side4 A5.out).mono ?_); (case side1 => exact zC (Kd.C_below HR0_1.out zB)); (case side2 => exact HC0_1.out); (case side3 => exact zC (Kd.C_below HR1_1.out zB)); (case side4 => exact HC1_1.out); rintro e w12 ⟨rfl, hb⟩; refine ⟨_, rfl, ?_⟩; replace BK534 := zM (blk_below (g := gb534) (o := .cells #[.slice A0_0 l0_0.length c0_0, .slice A0_1 l0_1.length c0_1] 50 (0, 0)) (zK BK534.out) hb); replace BK535 := zM (blk_below (g := gb535) (o := .cells #[.slice A1_0 l1_0.length c1_0, .slice A1_1 l1_1.length c1_1] 50 (0, 0)) (zK BK535.out) hb); replace HB := zM (below_step zB hb); (try clear hb); (try clear hb2); (try clear hk); (try clear hi)))
     go_ret
     exact ⟨by first | rfl | (simp [errW_none, errW_some] <;> rfl) | (simp [*, errW_none, errW_some] <;> rfl), zB⟩
   · replace c6 := Bool.eq_false_iff.mpr c6
     subst c6
     have H1 : (some false) = some r := by rw [if_neg (show ¬ (false = true) by decide)] at H; exact H
     clear H
     have H := H1
     clear H1
     obtain rfl := Option.some.inj H
     go_enter Try.func38, Try.ntmps38
     go_wp2_with (first | ((with_reducible refine gate_dst (N := 2) rfl ?_); refine zb (w := w) 2 #[.slice A0_0 l0_0.length c0_0, .slice A0_1 l0_1.length c0_1] 50 zB ?_; clear HB; intro gb534 w13 HB BK534 GW534; have GE534 := GW534) | ((with_reducible refine gate_dst (N := 3) rfl ?_); refine ze 3 #[.slice A1_0 l1_0.length c1_0, .slice A1_1 l1_1.length c1_1] 50 ?_; intro gb535 hg w14 hbox hb; have BK535 := zM (hbox); have GW535 := zM ((by rw [hg]; exact (below_size zB) : w.heap.size ≤ gb535)); have GE535 := zM ((by rw [hg]; exact (below_size zB) : w.heap.size ≤ gb535)); replace HB := zM (below_step zB hb); have NB534_535 := zM ((by rw [hg]; exact Nat.ne_of_lt (blk_lt (g := gb534) (o := .cells #[.slice A0_0 l0_0.length c0_0, .slice A0_1 l0_1.length c0_1] 50 (0, 0)) (zK BK534.out)) : gb534 ≠ gb535)); have NB535_534 := zM ((by rw [hg]; exact Nat.ne_of_gt (blk_lt (g := gb534) (o := .cells #[.slice A0_0 l0_0.length c0_0, .slice A0_1 l0_1.length c0_1] 50 (0, 0)) (zK BK534.out)) : gb535 ≠ gb534)); replace BK534 := zM (blk_below (g := gb534) (o := .cells #[.slice A0_0 l0_0.length c0_0, .slice A0_1 l0_1.length c0_1] 50 (0, 0)) (zK BK534.out) hb); clear hb hbox hg; have hnb15 := NB534_535.out; have hnc15 := NB535_534.out; have hcz16_0 := zy BK534 0; have hcz16_1 := zy BK534 1; have hfz16_0 := blk_frozen BK534.out 0; have hfz16_1 := blk_frozen BK534.out 1; have hcz17_0 := zy BK535 0; have hcz17_1 := zy BK535 1; have hfz17_0 := blk_frozen BK535.out 0; have hfz17_1 := blk_frozen BK535.out 1) | ((with_reducible refine gate_callee (f := 77) rfl ?_); refine zc 9 Try.func77 #[.slice A0_0 l0_0.length c0_0, .slice A1_0 l1_0.length c1_0] ?_; (with_reducible refine (laws_eqIntSS.calls k _ _ l0_0 _ _ l1_0 true _ ?side1 ?side2 ?side3 ?side4 A3.out).mono ?_); (case side1 => exact zC (Kd.C_below HR0_0.out HB.out)); (case side2 => exact HC0_0.out); (case side3 => exact zC (Kd.C_below HR1_0.out HB.out)); (case side4 => exact HC1_0.out); rintro e w' ⟨rfl, ⟨nd, rfl⟩⟩; refine ⟨_, rfl, ?_⟩) | ((with_reducible refine gate_callee (f := 56) rfl ?_); refine zc 15 Try.func56 #[.slice A0_1 l0_1.length c0_1, .slice A1_1 l1_1.length c1_1] ?_; (with_reducible refine (laws_eqIntA2S.calls k _ _ l0_1 _ _ l1_1 false _ ?side1 ?side2 ?side3 ?side4 A5.out).mono ?_); (case side1 => exact zC (Kd.C_below HR0_1.out zB)); (case side2 => exact HC0_1.out); (case side3 => exact zC (Kd.C_below HR1_1.out zB)); (case side4 => exact HC1_1.out); rintro e w18 ⟨rfl, hb⟩; refine ⟨_, rfl, ?_⟩; replace BK534 := zM (blk_below (g := gb534) (o := .cells #[.slice A0_0 l0_0.length c0_0, .slice A0_1 l0_1.length c0_1] 50 (0, 0)) (zK BK534.out) hb); replace BK535 := zM (blk_below (g := gb535) (o := .cells #[.slice A1_0 l1_0.length c1_0, .slice A1_1 l1_1.length c1_1] 50 (0, 0)) (zK BK535.out) hb); replace HB := zM (below_step zB hb); (try clear hb); (try clear hb2); (try clear hk); (try clear hi)))
     go_ret
     exact ⟨by first | rfl | (simp [errW_none, errW_some] <;> rfl) | (simp [*, errW_none, errW_some] <;> rfl), zB⟩
 · replace c4 := Bool.eq_false_iff.mpr c4
   subst c4
   have H1 : (some false) = some r := by rw [if_neg (show ¬ (false = true) by decide)] at H; exact H
   clear H
   have H := H1
   clear H1
   obtain rfl := Option.some.inj H
   go_enter Try.func38, Try.ntmps38
   go_wp2_with (first | ((with_reducible refine gate_dst (N := 2) rfl ?_); refine zb (w := w) 2 #[.slice A0_0 l0_0.length c0_0, .slice A0_1 l0_1.length c0_1] 50 zB ?_; clear HB; intro gb534 w19 HB BK534 GW534; have GE534 := GW534) | ((with_reducible refine gate_dst (N := 3) rfl ?_); refine ze 3 #[.slice A1_0 l1_0.length c1_0, .slice A1_1 l1_1.length c1_1] 50 ?_; intro gb535 hg w20 hbox hb; have BK535 := zM (hbox); have GW535 := zM ((by rw [hg]; exact (below_size zB) : w.heap.size ≤ gb535)); have GE535 := zM ((by rw [hg]; exact (below_size zB) : w.heap.size ≤ gb535)); replace HB := zM (below_step zB hb); have NB534_535 := zM ((by rw [hg]; exact Nat.ne_of_lt (blk_lt (g := gb534) (o := .cells #[.slice A0_0 l0_0.length c0_0, .slice A0_1 l0_1.length c0_1] 50 (0, 0)) (zK BK534.out)) : gb534 ≠ gb535)); have NB535_534 := zM ((by rw [hg]; exact Nat.ne_of_gt (blk_lt (g := gb534) (o := .cells #[.slice A0_0 l0_0.length c0_0, .slice A0_1 l0_1.length c0_1] 50 (0, 0)) (zK BK534.out)) : gb535 ≠ gb534)); replace BK534 := zM (blk_below (g := gb534) (o := .cells #[.slice A0_0 l0_0.length c0_0, .slice A0_1 l0_1.length c0_1] 50 (0, 0)) (zK BK534.out) hb); clear hb hbox hg; have hnb21 := NB534_535.out; have hnc21 := NB535_534.out; have hcz22_0 := zy BK534 0; have hcz22_1 := zy BK534 1; have hfz22_0 := blk_frozen BK534.out 0; have hfz22_1 := blk_frozen BK534.out 1; have hcz23_0 := zy BK535 0; have hcz23_1 := zy BK535 1; have hfz23_0 := blk_frozen BK535.out 0; have hfz23_1 := blk_frozen BK535.out 1) | ((with_reducible refine gate_callee (f := 77) rfl ?_); refine zc 9 Try.func77 #[.slice A0_0 l0_0.length c0_0, .slice A1_0 l1_0.length c1_0] ?_; (with_reducible refine (laws_eqIntSS.calls k _ _ l0_0 _ _ l1_0 false _ ?side1 ?side2 ?side3 ?side4 A3.out).mono ?_); (case side1 => exact zC (Kd.C_below HR0_0.out HB.out)); (case side2 => exact HC0_0.out); (case side3 => exact zC (Kd.C_below HR1_0.out HB.out)); (case side4 => exact HC1_0.out); rintro e w' ⟨rfl, ⟨nd, rfl⟩⟩; refine ⟨_, rfl, ?_⟩))
   go_ret
   exact ⟨by first | rfl | (simp [errW_none, errW_some] <;> rfl) | (simp [*, errW_none, errW_some] <;> rfl), zB⟩

end Go.Proofs.Ytpbngmkhpcgpkaa.P
