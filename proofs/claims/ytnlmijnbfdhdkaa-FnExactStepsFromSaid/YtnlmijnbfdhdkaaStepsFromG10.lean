-- Written by a program of this session (the kit's print, turned: wip/print/patch.py) out of the translation. Not trusted: Lean checks it.
import Derived.Test.YtnlmijnbfdhdkaaStepsFromG4
import Derived.Test.YtnlmijnbfdhdkaaStepsFromG5
import Derived.Test.YtnlmijnbfdhdkaaStepsFromG9
import Derived.Shelf.Sort.Plain
import Derived.Shelf.Bits.Mul64
import Derived.Shelf.Slices.Turned
import Derived.Ground.Names2Prog
import Derived.Shelf.Slices.Clone
import Derived.Shelf.Slices.SearchI
import Derived.Shelf.Slices.In.SortNone
import Derived.Test.YtnlmijnbfdhdkaaProg
import Derived.Sort.OwnSortedInts
namespace Go.Proofs.Ytnlmijnbfdhdkaa.P
open Go.RowKit Go.Proofs.YtnlmijnbfdhdkaaW.PrintWords Go.Proofs.YtnlmijnbfdhdkaaW.PrintLast Go.Proofs.YtnlmijnbfdhdkaaW.PrintMore
attribute [local go_sem] max2_int min2_int max_two min_two max_three min_three max_four min_four   -- for this text's walks alone
set_option linter.unusedVariables false
set_option linter.unusedSimpArgs false

/-! ### impl_IsSpace: function 83 -/
mutual
def impl_IsSpace.j0 : Nat → Bool → List (List Int) → List (S88) → Option (Bool)
 | 0, _, _, _ => none
 | k + 1, x14, x588000, x588001 => if x14 = true then (some false) else (impl_IsSpace.l0 k x588000 (x588000.length : Int) 0 x588000 x588001)
def impl_IsSpace.l0 : Nat → List (List Int) → Int → Int → List (List Int) → List (S88) → Option (Bool)
 | 0, _, _, _, _, _ => none
 | k + 1, x16, x17, x18, x588000, x588001 => if x18 < x17 then (if 0 ≤ x18 then (if x18 < (x16.length : Int) then ((impl_isState.f (rd_L4 x16 x18)).bind fun t590 => (if t590 = true then (if x18 > 0 then (if 0 ≤ (wrap64 (x18 - 1)) then (if (wrap64 (x18 - 1)) < (x588000.length : Int) then ((slices_Compare_int_int.f k (rd_L4 x588000 (wrap64 (x18 - 1))) (rd_L4 x16 x18)).bind fun t592 => (if t592 ≥ 0 then (some false) else (impl_IsSpace.l0 k x16 x17 (wrap64 (x18 + 1)) x588000 x588001))) else (none)) else (none)) else (impl_IsSpace.l0 k x16 x17 (wrap64 (x18 + 1)) x588000 x588001)) else (some false))) else (none)) else (none)) else ((impl_isPairs.f k x588001 (x588000.length : Int)).bind fun t588 => (some t588))
end
def impl_IsSpace.f (k : Nat) (l0_0 : List (List Int)) (l0_1 : List (S88)) : Option (Bool) := if (l0_0.length : Int) > 300 then (impl_IsSpace.j0 k true l0_0 l0_1) else (impl_IsSpace.j0 k (decide ((l0_1.length : Int) > 6000)) l0_0 l0_1)
set_option maxHeartbeats 8000000 in
set_option maxRecDepth 100000 in
theorem impl_IsSpace.calls (k : Nat) (A0_0 : Option Addr) (c0_0 : Nat) (l0_0 : List (List Int)) (A0_1 : Option Addr) (c0_1 : Nat) (l0_1 : List (S88)) (r : Bool) (w : World) (hr0_0 : Kd.C (Kd.slice 3 (Kd.int .i64)) w A0_0 l0_0.length l0_0) (hc0_0 : l0_0.length ≤ c0_0) (hr0_1 : Kd.C k88 w A0_1 l0_1.length l0_1) (hc0_1 : l0_1.length ≤ c0_1) (h : impl_IsSpace.f k l0_0 l0_1 = some r) :
 Calls Try.prog 83 #[.agg #[.slice A0_0 l0_0.length c0_0, .slice A0_1 l0_1.length c0_1]] w fun e w' => e = .returned (.bool r) ∧ Below w.heap.size w w' := by
 have hu46 := Try.underlying46
 have HR0_0 := Aside0.mk hr0_0
 have HC0_0 := Aside0.mk hc0_0
 clear hr0_0 hc0_0
 have HR0_1 := Aside0.mk hr0_1
 have HC0_1 := Aside0.mk hc0_1
 clear hr0_1 hc0_1
 have HB := zM (Below.refl w.heap.size w)
 have H : (if (l0_0.length : Int) > 300 then (impl_IsSpace.j0 k true l0_0 l0_1) else (impl_IsSpace.j0 k (decide ((l0_1.length : Int) > 6000)) l0_0 l0_1)) = some r := h
 clear h
 have HC2 := Aside0.mk H
 clear H
 go_enter Try.func83, Try.ntmps83
 go_upto_region 1 with (first | ((with_reducible refine gate_dst (N := 1) rfl ?_); (try (refine gate_guard (by rfl) ?_; dsimp only)); refine zb (w := w) 1 #[.slice A0_0 l0_0.length c0_0, .slice A0_1 l0_1.length c0_1] 46 zB ?_; clear HB; intro gb587 w3 HB BK587 GW587; have GE587 := GW587))
 (try simp only [Act.put, List.setIfInBounds_toArray, List.set_cons_zero, List.set_cons_succ])
 go_cut [14] (fun v14 wc => ∃ (kq : Nat) (x14_1 : Bool), v14 = .bool x14_1 ∧ Aside0 (impl_IsSpace.j0 kq x14_1 l0_0 l0_1 = some r) ∧ Aside0 (kq ≤ k) ∧ Aside0 (wc.heap[gb587]? = some (.cells #[(.slice A0_0 l0_0.length c0_0), (.slice A0_1 l0_1.length c0_1)] 46 (0, 0))) ∧ Aside0 (Below w.heap.size w wc))
 case first =>
  have H := HC2.out
  clear HC2
  by_cases c4 : (l0_0.length : Int) > 300
  · rw [if_pos c4] at H
    have c4b0 : decide (300 < (l0_0.length : Int)) = true := decide_eq_true c4
    have c4b1 : decide (300 < l0_0.length) = true := decide_eq_true (by omega)
    clear c4
    (first | rw [c4b0] | (simp only [i64_w, i32_w]; rw [c4b0]) | skip)
    have H' := Aside0.mk H
    clear H
    have hcz5_0 := zy BK587 0
    have hcz5_1 := zy BK587 1
    have hfz5_0 := blk_frozen BK587.out 0
    have hfz5_1 := blk_frozen BK587.out 1
    go_wp2
    go_meet
    case rel => exact ⟨_, (true), (by first | rfl | (simp; done) | (simp [*]; done)), H', ⟨by first | omega | exact Nat.le_refl _⟩, ⟨zK BK587.out⟩, ⟨zB⟩⟩
  · rw [if_neg c4] at H
    have c4b0 : decide (300 < (l0_0.length : Int)) = false := decide_eq_false c4
    have c4b1 : decide (300 < l0_0.length) = false := decide_eq_false (by omega)
    clear c4
    (first | rw [c4b0] | (simp only [i64_w, i32_w]; rw [c4b0]) | skip)
    have H' := Aside0.mk H
    clear H
    have hcz6_0 := zy BK587 0
    have hcz6_1 := zy BK587 1
    have hfz6_0 := blk_frozen BK587.out 0
    have hfz6_1 := blk_frozen BK587.out 1
    go_wp2
    go_meet
    case rel => exact ⟨_, (decide ((l0_1.length : Int) > 6000)), (by first | rfl | (simp; done) | (simp [*]; done)), H', ⟨by first | omega | exact Nat.le_refl _⟩, ⟨zK BK587.out⟩, ⟨zB⟩⟩
 case rest =>
  clear HC2
  try clear p2
  try clear c4
  try clear c4b0
  try clear c4b1
  try clear hcz5_0
  try clear hcz5_1
  try clear hcz6_0
  try clear hcz6_1
  try clear hfz5_0
  try clear hfz5_1
  try clear hfz6_0
  try clear hfz6_1
  obtain ⟨kq, x14_1, rfl, HA, HJ1, BK587, HB⟩ := hcut
  cases kq with
  | zero => exact absurd HA.out (by simp [impl_IsSpace.j0])
  | succ kj1 =>
   have H := HA.out
   clear HA
   simp only [impl_IsSpace.j0] at H
   by_cases c7 : x14_1 = true
   · subst c7
     rw [if_pos rfl] at H
     obtain rfl := Option.some.inj H
     go_wp2
     go_ret
     exact ⟨by first | rfl | (simp [errW_none, errW_some] <;> rfl) | (simp [*, errW_none, errW_some] <;> rfl), zB⟩
   · replace c7 := Bool.eq_false_iff.mpr c7
     subst c7
     have H1 : (impl_IsSpace.l0 kj1 l0_0 (l0_0.length : Int) 0 l0_0 l0_1) = some r := by rw [if_neg (show ¬ (false = true) by decide)] at H; exact H
     clear H
     have H := H1
     clear H1
     have H' := Aside0.mk H
     clear H
     have hcz8_0 := zy BK587 0
     have hcz8_1 := zy BK587 1
     have hfz8_0 := blk_frozen BK587.out 0
     have hfz8_1 := blk_frozen BK587.out 1
     go_wp2
     go_loopg [18] kj1 (fun kq v18 w' => ∃ (x18_2 : Int), v18 = .int .i64 x18_2 ∧ Aside0 (impl_IsSpace.l0 kq l0_0 (l0_0.length : Int) x18_2 l0_0 l0_1 = some r) ∧ Aside0 (kq ≤ kj1) ∧ Aside0 (w'.heap[gb587]? = some (.cells #[(.slice A0_0 l0_0.length c0_0), (.slice A0_1 l0_1.length c0_1)] 46 (0, 0))) ∧ Aside0 (Below w.heap.size w w'))
     case atStart => exact ⟨(0), (by first | rfl | (simp; done) | (simp [*]; done)), H', ⟨Nat.le_refl _⟩, ⟨zK BK587.out⟩, ⟨zB⟩⟩
     case round =>
      clear H'
      try clear p2
      try clear c4
      try clear c4b0
      try clear c4b1
      try clear c7
      try clear c8
      try clear hcz5_0
      try clear hcz5_1
      try clear hcz6_0
      try clear hcz6_1
      try clear hcz8_0
      try clear hcz8_1
      try clear hfz5_0
      try clear hfz5_1
      try clear hfz6_0
      try clear hfz6_1
      try clear hfz8_0
      try clear hfz8_1
      try clear p2
      obtain ⟨x18_2, rfl, HA, HK2, BK587, HB⟩ := hrel
      cases gk with
      | zero => exact absurd HA.out (by simp [impl_IsSpace.l0])
      | succ k2 =>
       have H := HA.out
       clear HA
       simp only [impl_IsSpace.l0] at H
       by_cases c9 : x18_2 < (l0_0.length : Int)
       · rw [if_pos c9] at H
         have c9b0 := decide_eq_true c9
         clear c9
         by_cases c10 : 0 ≤ x18_2
         · rw [if_pos c10] at H
           have c10b0 := decide_eq_true c10
           clear c10
           by_cases c11 : x18_2 < (l0_0.length : Int)
           · rw [if_pos c11] at H
             have c11b0 := decide_eq_true c11
             clear c11
             replace H := Option.bind_eq_some_iff.mp H
             obtain ⟨t590, A120, H⟩ := H
             have A12 := Aside0.mk A120
             clear A120
             by_cases c13 : t590 = true
             · subst c13
               rw [if_pos rfl] at H
               by_cases c14 : x18_2 > 0
               · rw [if_pos c14] at H
                 have c14b0 : decide (0 < x18_2) = true := decide_eq_true c14
                 clear c14
                 obtain ⟨ji15, hji15⟩ : ∃ j_ : Int, (wrap64 (x18_2 - 1)) = j_ := ⟨_, rfl⟩
                 replace H : (if 0 ≤ (ji15) then (if (ji15) < (l0_0.length : Int) then ((slices_Compare_int_int.f k2 (rd_L4 l0_0 (ji15)) (rd_L4 l0_0 x18_2)).bind fun t592 => (if t592 ≥ 0 then (some false) else (impl_IsSpace.l0 k2 l0_0 (l0_0.length : Int) (wrap64 (x18_2 + 1)) l0_0 l0_1))) else (none)) else (none)) = some r := by first | (rw [hji15] at H; exact H) | (simp only [hji15] at H ⊢; exact H)
                 (try rw [hji15] at A12)
                 have hji15w : (IntKind.i64.wrap (x18_2 - 1)) = ji15 := (i64_w _).trans hji15
                 by_cases c16 : 0 ≤ (ji15)
                 · rw [if_pos c16] at H
                   have c16b0 := decide_eq_true c16
                   clear c16
                   by_cases c17 : (ji15) < (l0_0.length : Int)
                   · rw [if_pos c17] at H
                     have c17b0 := decide_eq_true c17
                     clear c17
                     replace H := Option.bind_eq_some_iff.mp H
                     obtain ⟨t592, A180, H⟩ := H
                     have A18 := Aside0.mk A180
                     clear A180
                     by_cases c19 : t592 ≥ 0
                     · rw [if_pos c19] at H
                       have c19b0 : decide (0 ≤ t592) = true := decide_eq_true c19
                       clear c19
                       obtain rfl := Option.some.inj H
                       have p589 : 0 ≤ (x18_2 : Int) := of_decide_eq_true zA
                       have q589 : x18_2 < (l0_0.length : Int) := of_decide_eq_true zA
                       obtain ⟨ad589, A589_0, c589_0, e589, hx589_0, hl589_0, hi589_0⟩ := at_L4 HR0_0.out x18_2 p589 q589
                       cases e589
                       (try replace hx589_0 := (HB.out.cell (World.block_lt_of_cell? w _ hx589_0)).trans hx589_0)
                       have HR589_0 := Aside0.mk hi589_0
                       have HC589_0 := Aside0.mk hl589_0
                       clear hi589_0 hl589_0
                       replace p589 := eq_true p589
                       replace q589 := eq_true q589
                       go_wp2_with (first | ((with_reducible refine gate_callee (f := 126) rfl ?_); refine zc 24 Try.func126 #[.slice A589_0 (rd_L4 l0_0 x18_2).length c589_0] ?_; (with_reducible refine (impl_isState.calls _ _ (rd_L4 l0_0 x18_2) true _ ?side1 ?side2 A12.out).mono ?_); (case side1 => exact zC (Kd.C_below HR589_0.out HB.out)); (case side2 => exact HC589_0.out); rintro e w20 ⟨rfl, hb⟩; refine ⟨_, rfl, ?_⟩; replace BK587 := zM (blk_below (g := gb587) (o := .cells #[.slice (some ad589) l0_0.length c0_0, .slice A0_1 l0_1.length c0_1] 46 (0, 0)) (zK BK587.out) hb); replace HB := zM (below_step zB hb); (try clear hb); (try clear hb2); (try clear hk); (try clear hi); have hcz21_0 := zy BK587 0; have hcz21_1 := zy BK587 1; have hfz21_0 := blk_frozen BK587.out 0; have hfz21_1 := blk_frozen BK587.out 1; have p591 : 0 ≤ ((ji15) : Int) := of_decide_eq_true zA; have q591 : (ji15) < (l0_0.length : Int) := of_decide_eq_true zA; obtain ⟨ad591, A591_0, c591_0, e591, hx591_0, hl591_0, hi591_0⟩ := at_L4 HR0_0.out (ji15) p591 q591; obtain rfl : ad589 = ad591 := (by injection e591); (try replace hx591_0 := (HB.out.cell (World.block_lt_of_cell? w _ hx591_0)).trans hx591_0); have HR591_0 := Aside0.mk hi591_0; have HC591_0 := Aside0.mk hl591_0; clear hi591_0 hl591_0; replace p591 := eq_true p591; replace q591 := eq_true q591) | (go_at_call 127; (with_reducible refine (slices_Compare_int_int.calls k2 _ _ (rd_L4 l0_0 (ji15)) _ _ (rd_L4 l0_0 x18_2) t592 _ ?side1 ?side2 ?side3 ?side4 A18.out).mono ?_); (case side1 => exact zC (Kd.C_below HR591_0.out HB.out)); (case side2 => exact HC591_0.out); (case side3 => exact zC (Kd.C_below HR589_0.out HB.out)); (case side4 => exact HC589_0.out); rintro e w' ⟨rfl, ⟨nd, rfl⟩⟩))
                       go_ret
                       exact ⟨by first | rfl | (simp [errW_none, errW_some] <;> rfl) | (simp only [← hji15]; first | rfl | (simp [errW_none, errW_some] <;> rfl)) | (simp [*, errW_none, errW_some] <;> rfl), zB⟩
                     · rw [if_neg c19] at H
                       have c19b0 : decide (0 ≤ t592) = false := decide_eq_false c19
                       clear c19
                       have H' := Aside0.mk H
                       clear H
                       have p589 : 0 ≤ (x18_2 : Int) := of_decide_eq_true zA
                       have q589 : x18_2 < (l0_0.length : Int) := of_decide_eq_true zA
                       obtain ⟨ad589, A589_0, c589_0, e589, hx589_0, hl589_0, hi589_0⟩ := at_L4 HR0_0.out x18_2 p589 q589
                       cases e589
                       (try replace hx589_0 := (HB.out.cell (World.block_lt_of_cell? w _ hx589_0)).trans hx589_0)
                       have HR589_0 := Aside0.mk hi589_0
                       have HC589_0 := Aside0.mk hl589_0
                       clear hi589_0 hl589_0
                       replace p589 := eq_true p589
                       replace q589 := eq_true q589
                       go_wp2_with (first | ((with_reducible refine gate_callee (f := 126) rfl ?_); refine zc 24 Try.func126 #[.slice A589_0 (rd_L4 l0_0 x18_2).length c589_0] ?_; (with_reducible refine (impl_isState.calls _ _ (rd_L4 l0_0 x18_2) true _ ?side1 ?side2 A12.out).mono ?_); (case side1 => exact zC (Kd.C_below HR589_0.out HB.out)); (case side2 => exact HC589_0.out); rintro e w22 ⟨rfl, hb⟩; refine ⟨_, rfl, ?_⟩; replace BK587 := zM (blk_below (g := gb587) (o := .cells #[.slice (some ad589) l0_0.length c0_0, .slice A0_1 l0_1.length c0_1] 46 (0, 0)) (zK BK587.out) hb); replace HB := zM (below_step zB hb); (try clear hb); (try clear hb2); (try clear hk); (try clear hi); have hcz23_0 := zy BK587 0; have hcz23_1 := zy BK587 1; have hfz23_0 := blk_frozen BK587.out 0; have hfz23_1 := blk_frozen BK587.out 1; have p591 : 0 ≤ ((ji15) : Int) := of_decide_eq_true zA; have q591 : (ji15) < (l0_0.length : Int) := of_decide_eq_true zA; obtain ⟨ad591, A591_0, c591_0, e591, hx591_0, hl591_0, hi591_0⟩ := at_L4 HR0_0.out (ji15) p591 q591; obtain rfl : ad589 = ad591 := (by injection e591); (try replace hx591_0 := (HB.out.cell (World.block_lt_of_cell? w _ hx591_0)).trans hx591_0); have HR591_0 := Aside0.mk hi591_0; have HC591_0 := Aside0.mk hl591_0; clear hi591_0 hl591_0; replace p591 := eq_true p591; replace q591 := eq_true q591) | (go_at_call 127; (with_reducible refine (slices_Compare_int_int.calls k2 _ _ (rd_L4 l0_0 (ji15)) _ _ (rd_L4 l0_0 x18_2) t592 _ ?side1 ?side2 ?side3 ?side4 A18.out).mono ?_); (case side1 => exact zC (Kd.C_below HR591_0.out HB.out)); (case side2 => exact HC591_0.out); (case side3 => exact zC (Kd.C_below HR589_0.out HB.out)); (case side4 => exact HC589_0.out); rintro e w' ⟨rfl, ⟨nd, rfl⟩⟩))
                       go_roundg k2
                       case measure => have := HJ1.out; have := HK2.out; omega
                       case rel => exact ⟨(wrap64 (x18_2 + 1)), (by first | rfl | (simp; done) | (simp [*]; done)), H', ⟨by have := HJ1.out; have := HK2.out; omega⟩, ⟨zK BK587.out⟩, ⟨zB⟩⟩
                   · rw [if_neg c17] at H
                     exact absurd H (by simp)
                 · rw [if_neg c16] at H
                   exact absurd H (by simp)
               · rw [if_neg c14] at H
                 have c14b0 : decide (0 < x18_2) = false := decide_eq_false c14
                 clear c14
                 have H' := Aside0.mk H
                 clear H
                 have p589 : 0 ≤ (x18_2 : Int) := of_decide_eq_true zA
                 have q589 : x18_2 < (l0_0.length : Int) := of_decide_eq_true zA
                 obtain ⟨ad589, A589_0, c589_0, e589, hx589_0, hl589_0, hi589_0⟩ := at_L4 HR0_0.out x18_2 p589 q589
                 cases e589
                 (try replace hx589_0 := (HB.out.cell (World.block_lt_of_cell? w _ hx589_0)).trans hx589_0)
                 have HR589_0 := Aside0.mk hi589_0
                 have HC589_0 := Aside0.mk hl589_0
                 clear hi589_0 hl589_0
                 replace p589 := eq_true p589
                 replace q589 := eq_true q589
                 go_wp2_with (first | ((with_reducible refine gate_callee (f := 126) rfl ?_); refine zc 24 Try.func126 #[.slice A589_0 (rd_L4 l0_0 x18_2).length c589_0] ?_; (with_reducible refine (impl_isState.calls _ _ (rd_L4 l0_0 x18_2) true _ ?side1 ?side2 A12.out).mono ?_); (case side1 => exact zC (Kd.C_below HR589_0.out HB.out)); (case side2 => exact HC589_0.out); rintro e w24 ⟨rfl, hb⟩; refine ⟨_, rfl, ?_⟩; replace BK587 := zM (blk_below (g := gb587) (o := .cells #[.slice (some ad589) l0_0.length c0_0, .slice A0_1 l0_1.length c0_1] 46 (0, 0)) (zK BK587.out) hb); replace HB := zM (below_step zB hb); (try clear hb); (try clear hb2); (try clear hk); (try clear hi)))
                 go_roundg k2
                 case measure => have := HJ1.out; have := HK2.out; omega
                 case rel => exact ⟨(wrap64 (x18_2 + 1)), (by first | rfl | (simp; done) | (simp [*]; done)), H', ⟨by have := HJ1.out; have := HK2.out; omega⟩, ⟨zK BK587.out⟩, ⟨zB⟩⟩
             · replace c13 := Bool.eq_false_iff.mpr c13
               subst c13
               have H1 : (some false) = some r := by rw [if_neg (show ¬ (false = true) by decide)] at H; exact H
               clear H
               have H := H1
               clear H1
               obtain rfl := Option.some.inj H
               have p589 : 0 ≤ (x18_2 : Int) := of_decide_eq_true zA
               have q589 : x18_2 < (l0_0.length : Int) := of_decide_eq_true zA
               obtain ⟨ad589, A589_0, c589_0, e589, hx589_0, hl589_0, hi589_0⟩ := at_L4 HR0_0.out x18_2 p589 q589
               cases e589
               (try replace hx589_0 := (HB.out.cell (World.block_lt_of_cell? w _ hx589_0)).trans hx589_0)
               have HR589_0 := Aside0.mk hi589_0
               have HC589_0 := Aside0.mk hl589_0
               clear hi589_0 hl589_0
               replace p589 := eq_true p589
               replace q589 := eq_true q589
               go_wp2_with (first | ((with_reducible refine gate_callee (f := 126) rfl ?_); refine zc 24 Try.func126 #[.slice A589_0 (rd_L4 l0_0 x18_2).length c589_0] ?_; (with_reducible refine (impl_isState.calls _ _ (rd_L4 l0_0 x18_2) false _ ?side1 ?side2 A12.out).mono ?_); (case side1 => exact zC (Kd.C_below HR589_0.out HB.out)); (case side2 => exact HC589_0.out); rintro e w25 ⟨rfl, hb⟩; refine ⟨_, rfl, ?_⟩; replace BK587 := zM (blk_below (g := gb587) (o := .cells #[.slice (some ad589) l0_0.length c0_0, .slice A0_1 l0_1.length c0_1] 46 (0, 0)) (zK BK587.out) hb); replace HB := zM (below_step zB hb); (try clear hb); (try clear hb2); (try clear hk); (try clear hi)))
               go_ret
               exact ⟨by first | rfl | (simp [errW_none, errW_some] <;> rfl) | (simp [*, errW_none, errW_some] <;> rfl), zB⟩
           · rw [if_neg c11] at H
             exact absurd H (by simp)
         · rw [if_neg c10] at H
           exact absurd H (by simp)
       · rw [if_neg c9] at H
         have c9b0 : decide (x18_2 < (l0_0.length : Int)) = false := decide_eq_false c9
         clear c9
         replace H := Option.bind_eq_some_iff.mp H
         obtain ⟨t588, A260, H⟩ := H
         have A26 := Aside0.mk A260
         clear A260
         obtain rfl := Option.some.inj H
         have hcz27_0 := zy BK587 0
         have hcz27_1 := zy BK587 1
         have hfz27_0 := blk_frozen BK587.out 0
         have hfz27_1 := blk_frozen BK587.out 1
         go_wp2_with (first | ((with_reducible refine gate_callee (f := 128) rfl ?_); refine zc 47 Try.func128 #[.slice A0_1 l0_1.length c0_1, .int .i64 (l0_0.length : Int)] ?_; (with_reducible refine (impl_isPairs.calls k2 _ _ l0_1 (l0_0.length : Int) t588 _ ?side1 ?side2 A26.out).mono ?_); (case side1 => exact zC (Kd.C_below HR0_1.out HB.out)); (case side2 => exact HC0_1.out); rintro e w28 ⟨rfl, hb⟩; refine ⟨_, rfl, ?_⟩; replace BK587 := zM (blk_below (g := gb587) (o := .cells #[.slice A0_0 l0_0.length c0_0, .slice A0_1 l0_1.length c0_1] 46 (0, 0)) (zK BK587.out) hb); replace HB := zM (below_step zB hb); (try clear hb); (try clear hb2); (try clear hk); (try clear hi)))
         go_ret
         exact ⟨by first | rfl | (simp [errW_none, errW_some] <;> rfl) | (simp [*, errW_none, errW_some] <;> rfl), zB⟩

end Go.Proofs.Ytnlmijnbfdhdkaa.P
namespace Go.Proofs
open Go.Shelf
def Try.lays189_ren : Go.Shelf.Ren := ⟨fun | 189 => 131 | 125 => 152 | 257 => 151 | 128 => 172 | 129 => 173 | 294 => 164 | 295 => 165 | 296 => 166 | 297 => 167 | 298 => 168 | 299 => 169 | 216 => 129 | 300 => 170 | 301 => 171 | 328 => 177 | 329 => 178 | 330 => 179 | 331 => 180 | 332 => 181 | 215 => 150 | 343 => 190 | n => n, fun | 28 => 25 | 3 => 3 | 46 => 70 | 0 => 0 | 51 => 130 | 53 => 133 | 4 => 4 | 183 => 140 | 182 => 139 | 131 => 39 | 5 => 5 | 9 => 9 | 218 => 147 | 222 => 151 | 228 => 158 | 229 => 159 | n => n, fun | n => n⟩
theorem Try.lays189 : Go.Proofs.Lays.n189 Try.prog Try.lays189_ren := {
  mixed := by kernel_rfl
  f125 := Try.func152.trans (congrArg some (by kernel_rfl))
  f128 := Try.func172.trans (congrArg some (by kernel_rfl))
  f129 := Try.func173.trans (congrArg some (by kernel_rfl))
  f189 := Try.func131.trans (congrArg some (by kernel_rfl))
  f215 := Try.func150.trans (congrArg some (by kernel_rfl))
  f216 := Try.func129.trans (congrArg some (by kernel_rfl))
  f257 := Try.func151.trans (congrArg some (by kernel_rfl))
  f294 := Try.func164.trans (congrArg some (by kernel_rfl))
  f295 := Try.func165.trans (congrArg some (by kernel_rfl))
  f296 := Try.func166.trans (congrArg some (by kernel_rfl))
  f297 := Try.func167.trans (congrArg some (by kernel_rfl))
  f298 := Try.func168.trans (congrArg some (by kernel_rfl))
  f299 := Try.func169.trans (congrArg some (by kernel_rfl))
  f300 := Try.func170.trans (congrArg some (by kernel_rfl))
  f301 := Try.func171.trans (congrArg some (by kernel_rfl))
  f328 := Try.func177.trans (congrArg some (by kernel_rfl))
  f329 := Try.func178.trans (congrArg some (by kernel_rfl))
  f330 := Try.func179.trans (congrArg some (by kernel_rfl))
  f331 := Try.func180.trans (congrArg some (by kernel_rfl))
  f332 := Try.func181.trans (congrArg some (by kernel_rfl))
  f343 := Try.func190.trans (congrArg some (by kernel_rfl))
  t0 := Try.underlying0
  a0 := Try.isAgg0
  z0 := Try.sizeOf0
  v0 := Try.zeroValue0
  t3 := Try.underlying3
  a3 := Try.isAgg3
  z3 := Try.sizeOf3
  v3 := Try.zeroValue3
  t4 := Try.underlying4
  a4 := Try.isAgg4
  z4 := Try.sizeOf4
  v4 := Try.zeroValue4
  t5 := Try.underlying5
  a5 := Try.isAgg5
  z5 := Try.sizeOf5
  v5 := Try.zeroValue5
  t9 := Try.underlying9
  a9 := Try.isAgg9
  z9 := Try.sizeOf9
  v9 := Try.zeroValue9
  t28 := Try.underlying25
  a28 := Try.isAgg25
  z28 := Try.sizeOf25
  v28 := Try.zeroValue25
  t46 := Try.underlying70
  a46 := Try.isAgg70
  z46 := Try.sizeOf70
  v46 := Try.zeroValue70
  t51 := Try.underlying130
  a51 := Try.isAgg130
  z51 := Try.sizeOf130
  v51 := Try.zeroValue130
  t53 := Try.underlying133
  a53 := Try.isAgg133
  z53 := Try.sizeOf133
  v53 := Try.zeroValue133
  t131 := Try.underlying39
  a131 := Try.isAgg39
  z131 := Try.sizeOf39
  v131 := Try.zeroValue39
  t182 := Try.underlying139
  a182 := Try.isAgg139
  z182 := Try.sizeOf139
  v182 := Try.zeroValue139
  t183 := Try.underlying140
  a183 := Try.isAgg140
  z183 := Try.sizeOf140
  v183 := Try.zeroValue140
  t218 := Try.underlying147
  a218 := Try.isAgg147
  z218 := Try.sizeOf147
  v218 := Try.zeroValue147
  t222 := Try.underlying151
  a222 := Try.isAgg151
  z222 := Try.sizeOf151
  v222 := Try.zeroValue151
  t228 := Try.underlying158
  a228 := Try.isAgg158
  z228 := Try.sizeOf158
  v228 := Try.zeroValue158
  t229 := Try.underlying159
  a229 := Try.isAgg159
  z229 := Try.sizeOf159
  v229 := Try.zeroValue159 }
open Go.Sort Go.RowKit in
theorem Try.slices_Sort_int (blk off cap : Nat) (zs : List Int) (w : World) (hH : Holds (Value.int .i64) w blk off zs.toArray) (hblk : blk < w.heap.size) (hsz : zs.length < 4611686018427387904) :
    Calls Try.prog 131 #[.slice (some ⟨blk, off, none⟩) zs.length cap] w fun e w' =>
      e = .returned (.tuple #[]) ∧ ∃ n os, w' = grow (putRow (Value.int .i64) (Sort.ahead w n) blk off (zs.mergeSort fun x y => decide (x ≤ y)).toArray) os := Any.slices_Sort_int Try.lays189 blk off cap zs w hH hblk hsz
open Go.RowKit Go.Sort in
/-- .. and plain. (LAID: no walk: one application.) -/
theorem Try.slices_Sort_int_none (p : Option Addr) (cap : Nat) (w : World) :
    Calls Try.prog 131 #[.slice p 0 cap] w fun e w' => e = .returned (.tuple #[]) ∧ w' = w := Any.slices_Sort_int_none Try.lays189 p cap w
end Go.Proofs
namespace Go.Proofs.Ytnlmijnbfdhdkaa.P
open Go.RowKit Go.Proofs.YtnlmijnbfdhdkaaW.PrintWords Go.Proofs.YtnlmijnbfdhdkaaW.PrintLast Go.Proofs.YtnlmijnbfdhdkaaW.PrintMore
set_option linter.unusedVariables false
set_option linter.unusedSimpArgs false

def sortL (l : List Int) : List Int := l.mergeSort fun x y => decide (x ≤ y)
def slices_Sort_int_int.f (l : List Int) : Option (List Int) := if l.length < 4611686018427387904 then some (sortL l) else none
theorem sortL_len (l : List Int) : (sortL l).length = l.length := List.length_mergeSort l
theorem slices_Sort_int_int.calls (P0_ : Nat → Prop) (u9000_ : Value) (l0 r : List Int) (w0 w : World) (hB : Below w0.heap.size w0 w) (ho0 : Kd.R (Kd.int .i64) 3 w w0.heap.size P0_ u9000_ l0) (h : slices_Sort_int_int.f l0 = some r) :
    Calls Try.prog 131 #[u9000_] w fun e w' => e = .returned (.tuple #[]) ∧ Kd.R (Kd.int .i64) 3 w' w0.heap.size (fun k_ => (P0_ k_ ∨ w.heap.size ≤ k_)) u9000_ r ∧ Below w0.heap.size w0 w' ∧ Kept w w' (fun k_ => P0_ k_) := by
  unfold slices_Sort_int_int.f at h
  by_cases hl : l0.length < 4611686018427387904
  · rw [if_pos hl] at h
    obtain rfl := Option.some.inj h
    have hown := Kd.own_of_R (enc := Value.int .i64) ho0
    rcases hown.2 with ⟨hnil, hz⟩ | ⟨g, cap, cur, rfl, hbase, hb, h1, h2, h3, h4⟩
    · have h0 : l0 = [] := by
        cases l0 with
        | nil => rfl
        | cons x t => simp at hz
      subst h0
      subst hnil
      refine (Try.slices_Sort_int_none none 0 w).mono ?_
      rintro e w' ⟨rfl, rfl⟩
      refine ⟨rfl, ?_, hB, Kept.refl _ _⟩
      rw [show sortL [] = [] from by simp [sortL]]
      exact Kd.R_mono ho0 (fun k hk => .inl hk)
    · have hgl : g < w.heap.size := (Array.getElem?_eq_some_iff.1 hb).1
      refine (Try.slices_Sort_int g 0 cap l0 w (holds_of_blockI hb (by simpa [encs] using h4)) hgl hl).mono ?_
      rintro e w' ⟨rfl, nn, os, rfl⟩
      have hgr := grownBy_sortedI (w := w) (g := g) (n := nn) (os := os) (sortL l0).toArray
      refine ⟨rfl, ?_, hB.grown hgr hB.size (fun k hk => by injection hk with hk; omega), Kept.of_grown hgr (Kept.refl w _) (fun k hk => .inl (ho0.1 k hk))⟩
      refine Kd.R_of_own (enc := Value.int .i64) ?_ (fun k hk => .inl (ho0.1 k hk))
      rw [sortL_len]
      exact ownsRow_sortedI (sortL_len l0) hbase hb h1 h2 h3
  · rw [if_neg hl] at h
    cases h

end Go.Proofs.Ytnlmijnbfdhdkaa.P
