-- Written by a program of this session (the kit's print, turned: wip/print/patch.py) out of the translation. Not trusted: Lean checks it.
import Derived.Test.YtnlmijnbfdhdkaaStepsFromG4
import Derived.Test.YtnlmijnbfdhdkaaStepsFromG7
import Derived.Test.YtnlmijnbfdhdkaaStepsFromG8
import Derived.Test.YtnlmijnbfdhdkaaStepsFromG6
namespace Go.Proofs.Ytnlmijnbfdhdkaa.P
open Go.RowKit Go.Proofs.YtnlmijnbfdhdkaaW.PrintWords Go.Proofs.YtnlmijnbfdhdkaaW.PrintLast Go.Proofs.YtnlmijnbfdhdkaaW.PrintMore
attribute [local go_sem] max2_int min2_int max_two min_two max_three min_three max_four min_four   -- for this text's walks alone
set_option linter.unusedVariables false
set_option linter.unusedSimpArgs false

/-! ### laws_eqIntSS: function 46 -/
def laws_eqIntSS.l0 : Nat → List (List Int) → List (List Int) → Int → Option (Bool)
 | 0, _, _, _ => none
 | k + 1, x0, x1, x5 => if x5 < (x0.length : Int) then (if 0 ≤ x5 then (if x5 < (x1.length : Int) then ((laws_eqIntS.f k (rd_L4 x0 x5) (rd_L4 x1 x5)).bind fun t625 => (if t625 = true then (laws_eqIntSS.l0 k x0 x1 (wrap64 (x5 + 1))) else (some false))) else (none)) else (none)) else (some true)
def laws_eqIntSS.f (k : Nat) (l0 : List (List Int)) (l1 : List (List Int)) : Option (Bool) := if (l0.length : Int) = (l1.length : Int) then (laws_eqIntSS.l0 k l0 l1 0) else (some false)
set_option maxHeartbeats 8000000 in
set_option maxRecDepth 100000 in
theorem laws_eqIntSS.calls (k : Nat) (A0 : Option Addr) (c0 : Nat) (l0 : List (List Int)) (A1 : Option Addr) (c1 : Nat) (l1 : List (List Int)) (r : Bool) (w : World) (hr0 : Kd.C (Kd.slice 3 (Kd.int .i64)) w A0 l0.length l0) (hc0 : l0.length ≤ c0) (hr1 : Kd.C (Kd.slice 3 (Kd.int .i64)) w A1 l1.length l1) (hc1 : l1.length ≤ c1) (h : laws_eqIntSS.f k l0 l1 = some r) :
 Calls Try.prog 46 #[.slice A0 l0.length c0, .slice A1 l1.length c1] w fun e w' => e = .returned (.bool r) ∧ Drawn0 w w' := by
 have HR0 := Aside0.mk hr0
 have HC0 := Aside0.mk hc0
 clear hr0 hc0
 have HR1 := Aside0.mk hr1
 have HC1 := Aside0.mk hc1
 clear hr1 hc1
 have H : (if (l0.length : Int) = (l1.length : Int) then (laws_eqIntSS.l0 k l0 l1 0) else (some false)) = some r := h
 clear h
 by_cases c3 : (l0.length : Int) = (l1.length : Int)
 · rw [if_pos c3] at H
   have c3b0 : ((l0.length : Int) == (l1.length : Int)) = true := beq_iff_eq.mpr c3
   have c3b1 : ((l0.length : Int) != (l1.length : Int)) = false := bne_eq_false_iff_eq.mpr c3
   have c3b2 : (l0.length == l1.length) = true := by first | simpa using c3 | (simp at c3 ⊢; omega)
   clear c3
   have H' := Aside0.mk H
   clear H
   go_enter Try.func46, Try.ntmps46
   go_wp2
   repeat (go_quiet (fail); try go_wp2)
   go_loopg [5] k (fun kq v5 w' => ∃ (x5_1 : Int), v5 = .int .i64 x5_1 ∧ Aside0 (laws_eqIntSS.l0 kq l0 l1 x5_1 = some r) ∧ Aside0 (kq ≤ k) ∧ Drawn0 w w')
   case atStart => exact ⟨(0), (by first | rfl | (simp; done) | (simp [*]; done)), H', ⟨Nat.le_refl _⟩, by repeat (first | exact Drawn0.refl _ | apply Drawn0.step)⟩
   case round =>
    clear H'
    try clear c1
    try clear p2
    try clear c3
    try clear c3b0
    try clear c3b1
    try clear c3b2
    obtain ⟨x5_1, rfl, HA, HK1, ⟨m1, rfl⟩⟩ := hrel
    cases gk with
    | zero => exact absurd HA.out (by simp [laws_eqIntSS.l0])
    | succ k1 =>
     have H := HA.out
     clear HA
     simp only [laws_eqIntSS.l0] at H
     by_cases c4 : x5_1 < (l0.length : Int)
     · rw [if_pos c4] at H
       have c4b0 := decide_eq_true c4
       clear c4
       by_cases c5 : 0 ≤ x5_1
       · rw [if_pos c5] at H
         have c5b0 := decide_eq_true c5
         clear c5
         by_cases c6 : x5_1 < (l1.length : Int)
         · rw [if_pos c6] at H
           have c6b0 := decide_eq_true c6
           clear c6
           replace H := Option.bind_eq_some_iff.mp H
           obtain ⟨t625, A70, H⟩ := H
           have A7 := Aside0.mk A70
           clear A70
           by_cases c8 : t625 = true
           · subst c8
             rw [if_pos rfl] at H
             have H' := Aside0.mk H
             clear H
             have p623 : 0 ≤ (x5_1 : Int) := of_decide_eq_true zA
             have q623 : x5_1 < (l0.length : Int) := of_decide_eq_true zA
             obtain ⟨ad623, A623_0, c623_0, e623, hx623_0, hl623_0, hi623_0⟩ := at_L4 HR0.out x5_1 p623 q623
             cases e623
             have HR623_0 := Aside0.mk hi623_0
             have HC623_0 := Aside0.mk hl623_0
             clear hi623_0 hl623_0
             replace p623 := eq_true p623
             replace q623 := eq_true q623
             have p624 : 0 ≤ (x5_1 : Int) := of_decide_eq_true zA
             have q624 : x5_1 < (l1.length : Int) := of_decide_eq_true zA
             obtain ⟨ad624, A624_0, c624_0, e624, hx624_0, hl624_0, hi624_0⟩ := at_L4 HR1.out x5_1 p624 q624
             cases e624
             have HR624_0 := Aside0.mk hi624_0
             have HC624_0 := Aside0.mk hl624_0
             clear hi624_0 hl624_0
             replace p624 := eq_true p624
             replace q624 := eq_true q624
             go_wp2_with (first | (go_at_call 21; (with_reducible refine (laws_eqIntS.calls k1 _ _ (rd_L4 l0 x5_1) _ _ (rd_L4 l1 x5_1) true _ ?side1 ?side2 ?side3 ?side4 A7.out).mono ?_); (case side1 => exact zC HR623_0.out); (case side2 => exact HC623_0.out); (case side3 => exact zC HR624_0.out); (case side4 => exact HC624_0.out); rintro e w' ⟨rfl, ⟨nd, rfl⟩⟩; (try exact zD)))
             repeat (go_quiet (first | (go_at_call 21; (with_reducible refine (laws_eqIntS.calls k1 _ _ (rd_L4 l0 x5_1) _ _ (rd_L4 l1 x5_1) true _ ?side1 ?side2 ?side3 ?side4 A7.out).mono ?_); (case side1 => exact zC HR623_0.out); (case side2 => exact HC623_0.out); (case side3 => exact zC HR624_0.out); (case side4 => exact HC624_0.out); rintro e w' ⟨rfl, ⟨nd, rfl⟩⟩; (try exact zD))); try go_wp2_with (first | (go_at_call 21; (with_reducible refine (laws_eqIntS.calls k1 _ _ (rd_L4 l0 x5_1) _ _ (rd_L4 l1 x5_1) true _ ?side1 ?side2 ?side3 ?side4 A7.out).mono ?_); (case side1 => exact zC HR623_0.out); (case side2 => exact HC623_0.out); (case side3 => exact zC HR624_0.out); (case side4 => exact HC624_0.out); rintro e w' ⟨rfl, ⟨nd, rfl⟩⟩; (try exact zD))))
             go_roundg k1
             case measure => have := HK1.out; omega
             case rel => exact ⟨(wrap64 (x5_1 + 1)), (by first | rfl | (simp; done) | (simp [*]; done)), H', ⟨by have := HK1.out; omega⟩, by repeat (first | exact Drawn0.refl _ | apply Drawn0.step)⟩
           · replace c8 := Bool.eq_false_iff.mpr c8
             subst c8
             have H1 : (some false) = some r := by rw [if_neg (show ¬ (false = true) by decide)] at H; exact H
             clear H
             have H := H1
             clear H1
             obtain rfl := Option.some.inj H
             have p623 : 0 ≤ (x5_1 : Int) := of_decide_eq_true zA
             have q623 : x5_1 < (l0.length : Int) := of_decide_eq_true zA
             obtain ⟨ad623, A623_0, c623_0, e623, hx623_0, hl623_0, hi623_0⟩ := at_L4 HR0.out x5_1 p623 q623
             cases e623
             have HR623_0 := Aside0.mk hi623_0
             have HC623_0 := Aside0.mk hl623_0
             clear hi623_0 hl623_0
             replace p623 := eq_true p623
             replace q623 := eq_true q623
             have p624 : 0 ≤ (x5_1 : Int) := of_decide_eq_true zA
             have q624 : x5_1 < (l1.length : Int) := of_decide_eq_true zA
             obtain ⟨ad624, A624_0, c624_0, e624, hx624_0, hl624_0, hi624_0⟩ := at_L4 HR1.out x5_1 p624 q624
             cases e624
             have HR624_0 := Aside0.mk hi624_0
             have HC624_0 := Aside0.mk hl624_0
             clear hi624_0 hl624_0
             replace p624 := eq_true p624
             replace q624 := eq_true q624
             go_wp2_with (first | (go_at_call 21; (with_reducible refine (laws_eqIntS.calls k1 _ _ (rd_L4 l0 x5_1) _ _ (rd_L4 l1 x5_1) false _ ?side1 ?side2 ?side3 ?side4 A7.out).mono ?_); (case side1 => exact zC HR623_0.out); (case side2 => exact HC623_0.out); (case side3 => exact zC HR624_0.out); (case side4 => exact HC624_0.out); rintro e w' ⟨rfl, ⟨nd, rfl⟩⟩; (try exact zD)))
             repeat (go_quiet (first | (go_at_call 21; (with_reducible refine (laws_eqIntS.calls k1 _ _ (rd_L4 l0 x5_1) _ _ (rd_L4 l1 x5_1) false _ ?side1 ?side2 ?side3 ?side4 A7.out).mono ?_); (case side1 => exact zC HR623_0.out); (case side2 => exact HC623_0.out); (case side3 => exact zC HR624_0.out); (case side4 => exact HC624_0.out); rintro e w' ⟨rfl, ⟨nd, rfl⟩⟩; (try exact zD))); try go_wp2_with (first | (go_at_call 21; (with_reducible refine (laws_eqIntS.calls k1 _ _ (rd_L4 l0 x5_1) _ _ (rd_L4 l1 x5_1) false _ ?side1 ?side2 ?side3 ?side4 A7.out).mono ?_); (case side1 => exact zC HR623_0.out); (case side2 => exact HC623_0.out); (case side3 => exact zC HR624_0.out); (case side4 => exact HC624_0.out); rintro e w' ⟨rfl, ⟨nd, rfl⟩⟩; (try exact zD))))
             go_ret
             exact ⟨by first | rfl | (simp; done) | (simp [*]; done), by repeat (first | exact Drawn0.refl _ | apply Drawn0.step)⟩
         · rw [if_neg c6] at H
           exact absurd H (by simp)
       · rw [if_neg c5] at H
         exact absurd H (by simp)
     · rw [if_neg c4] at H
       have c4b0 : decide (x5_1 < (l0.length : Int)) = false := decide_eq_false c4
       clear c4
       obtain rfl := Option.some.inj H
       go_wp2
       repeat (go_quiet (fail); try go_wp2)
       go_ret
       exact ⟨by first | rfl | (simp; done) | (simp [*]; done), by repeat (first | exact Drawn0.refl _ | apply Drawn0.step)⟩
 · rw [if_neg c3] at H
   have c3b0 : ((l0.length : Int) == (l1.length : Int)) = false := beq_eq_false_iff_ne.mpr c3
   have c3b1 : ((l0.length : Int) != (l1.length : Int)) = true := bne_iff_ne.mpr c3
   have c3b2 : (l0.length == l1.length) = false := by first | simpa using c3 | (simp at c3 ⊢; omega)
   obtain rfl := Option.some.inj H
   go_enter Try.func46, Try.ntmps46
   go_wp2
   repeat (go_quiet (fail); try go_wp2)
   go_ret
   exact ⟨by first | rfl | (simp; done) | (simp [*]; done), by repeat (first | exact Drawn0.refl _ | apply Drawn0.step)⟩

/-! ### laws_eqSpace: function 35 -/
def laws_eqSpace.f (k : Nat) (l0_0 : List (List Int)) (l0_1 : List (S88)) (l1_0 : List (List Int)) (l1_1 : List (S88)) : Option (Bool) := (laws_eqIntSS.f k l0_0 l1_0).bind fun t628 => (if t628 = true then ((laws_eqIntA2S.f k l0_1 l1_1).bind fun t629 => (if t629 = true then (some true) else (some false))) else (some false))
set_option maxHeartbeats 8000000 in
set_option maxRecDepth 100000 in
theorem laws_eqSpace.calls (k : Nat) (A0_0 : Option Addr) (c0_0 : Nat) (l0_0 : List (List Int)) (A0_1 : Option Addr) (c0_1 : Nat) (l0_1 : List (S88)) (A1_0 : Option Addr) (c1_0 : Nat) (l1_0 : List (List Int)) (A1_1 : Option Addr) (c1_1 : Nat) (l1_1 : List (S88)) (r : Bool) (w : World) (hr0_0 : Kd.C (Kd.slice 3 (Kd.int .i64)) w A0_0 l0_0.length l0_0) (hc0_0 : l0_0.length ≤ c0_0) (hr0_1 : Kd.C k88 w A0_1 l0_1.length l0_1) (hc0_1 : l0_1.length ≤ c0_1) (hr1_0 : Kd.C (Kd.slice 3 (Kd.int .i64)) w A1_0 l1_0.length l1_0) (hc1_0 : l1_0.length ≤ c1_0) (hr1_1 : Kd.C k88 w A1_1 l1_1.length l1_1) (hc1_1 : l1_1.length ≤ c1_1) (h : laws_eqSpace.f k l0_0 l0_1 l1_0 l1_1 = some r) :
 Calls Try.prog 35 #[.agg #[.slice A0_0 l0_0.length c0_0, .slice A0_1 l0_1.length c0_1], .agg #[.slice A1_0 l1_0.length c1_0, .slice A1_1 l1_1.length c1_1]] w fun e w' => e = .returned (.bool r) ∧ Below w.heap.size w w' := by
 have hu46 := Try.underlying46
 have HR0_0 := Aside0.mk hr0_0
 have HC0_0 := Aside0.mk hc0_0
 clear hr0_0 hc0_0
 have HR0_1 := Aside0.mk hr0_1
 have HC0_1 := Aside0.mk hc0_1
 clear hr0_1 hc0_1
 have HR1_0 := Aside0.mk hr1_0
 have HC1_0 := Aside0.mk hc1_0
 clear hr1_0 hc1_0
 have HR1_1 := Aside0.mk hr1_1
 have HC1_1 := Aside0.mk hc1_1
 clear hr1_1 hc1_1
 have HB := zM (Below.refl w.heap.size w)
 have H : ((laws_eqIntSS.f k l0_0 l1_0).bind fun t628 => (if t628 = true then ((laws_eqIntA2S.f k l0_1 l1_1).bind fun t629 => (if t629 = true then (some true) else (some false))) else (some false))) = some r := h
 clear h
 replace H := Option.bind_eq_some_iff.mp H
 obtain ⟨t628, A30, H⟩ := H
 have A3 := Aside0.mk A30
 clear A30
 by_cases c4 : t628 = true
 · subst c4
   rw [if_pos rfl] at H
   replace H := Option.bind_eq_some_iff.mp H
   obtain ⟨t629, A50, H⟩ := H
   have A5 := Aside0.mk A50
   clear A50
   by_cases c6 : t629 = true
   · subst c6
     rw [if_pos rfl] at H
     obtain rfl := Option.some.inj H
     go_enter Try.func35, Try.ntmps35
     go_wp2_with (first | ((with_reducible refine gate_dst (N := 2) rfl ?_); refine zb (w := w) 2 #[.slice A0_0 l0_0.length c0_0, .slice A0_1 l0_1.length c0_1] 46 zB ?_; clear HB; intro gb626 w7 HB BK626 GW626; have GE626 := GW626) | ((with_reducible refine gate_dst (N := 3) rfl ?_); refine ze 3 #[.slice A1_0 l1_0.length c1_0, .slice A1_1 l1_1.length c1_1] 46 ?_; intro gb627 hg w8 hbox hb; have BK627 := zM (hbox); have GW627 := zM ((by rw [hg]; exact (below_size zB) : w.heap.size ≤ gb627)); have GE627 := zM ((by rw [hg]; exact (below_size zB) : w.heap.size ≤ gb627)); replace HB := zM (below_step zB hb); have NB626_627 := zM ((by rw [hg]; exact Nat.ne_of_lt (blk_lt (g := gb626) (o := .cells #[.slice A0_0 l0_0.length c0_0, .slice A0_1 l0_1.length c0_1] 46 (0, 0)) (zK BK626.out)) : gb626 ≠ gb627)); have NB627_626 := zM ((by rw [hg]; exact Nat.ne_of_gt (blk_lt (g := gb626) (o := .cells #[.slice A0_0 l0_0.length c0_0, .slice A0_1 l0_1.length c0_1] 46 (0, 0)) (zK BK626.out)) : gb627 ≠ gb626)); replace BK626 := zM (blk_below (g := gb626) (o := .cells #[.slice A0_0 l0_0.length c0_0, .slice A0_1 l0_1.length c0_1] 46 (0, 0)) (zK BK626.out) hb); clear hb hbox hg; have hnb9 := NB626_627.out; have hnc9 := NB627_626.out; have hcz10_0 := zy BK626 0; have hcz10_1 := zy BK626 1; have hfz10_0 := blk_frozen BK626.out 0; have hfz10_1 := blk_frozen BK626.out 1; have hcz11_0 := zy BK627 0; have hcz11_1 := zy BK627 1; have hfz11_0 := blk_frozen BK627.out 0; have hfz11_1 := blk_frozen BK627.out 1) | ((with_reducible refine gate_callee (f := 46) rfl ?_); refine zc 9 Try.func46 #[.slice A0_0 l0_0.length c0_0, .slice A1_0 l1_0.length c1_0] ?_; (with_reducible refine (laws_eqIntSS.calls k _ _ l0_0 _ _ l1_0 true _ ?side1 ?side2 ?side3 ?side4 A3.out).mono ?_); (case side1 => exact zC (Kd.C_below HR0_0.out HB.out)); (case side2 => exact HC0_0.out); (case side3 => exact zC (Kd.C_below HR1_0.out HB.out)); (case side4 => exact HC1_0.out); rintro e w' ⟨rfl, ⟨nd, rfl⟩⟩; refine ⟨_, rfl, ?_⟩) | ((with_reducible refine gate_callee (f := 62) rfl ?_); refine zc 15 Try.func62 #[.slice A0_1 l0_1.length c0_1, .slice A1_1 l1_1.length c1_1] ?_; (with_reducible refine (laws_eqIntA2S.calls k _ _ l0_1 _ _ l1_1 true _ ?side1 ?side2 ?side3 ?side4 A5.out).mono ?_); (case side1 => exact zC (Kd.C_below HR0_1.out zB)); (case side2 => exact HC0_1.out); (case side3 => exact zC (Kd.C_below HR1_1.out zB)); (case side4 => exact HC1_1.out); rintro e w12 ⟨rfl, hb⟩; refine ⟨_, rfl, ?_⟩; replace BK626 := zM (blk_below (g := gb626) (o := .cells #[.slice A0_0 l0_0.length c0_0, .slice A0_1 l0_1.length c0_1] 46 (0, 0)) (zK BK626.out) hb); replace BK627 := zM (blk_below (g := gb627) (o := .cells #[.slice A1_0 l1_0.length c1_0, .slice A1_1 l1_1.length c1_1] 46 (0, 0)) (zK BK627.out) hb); replace HB := zM (below_step zB hb); (try clear hb); (try clear hb2); (try clear hk); (try clear hi)))
     go_ret
     exact ⟨by first | rfl | (simp [errW_none, errW_some] <;> rfl) | (simp [*, errW_none, errW_some] <;> rfl), zB⟩
   · replace c6 := Bool.eq_false_iff.mpr c6
     subst c6
     have H1 : (some false) = some r := by rw [if_neg (show ¬ (false = true) by decide)] at H; exact H
     clear H
     have H := H1
     clear H1
     obtain rfl := Option.some.inj H
     go_enter Try.func35, Try.ntmps35
     go_wp2_with (first | ((with_reducible refine gate_dst (N := 2) rfl ?_); refine zb (w := w) 2 #[.slice A0_0 l0_0.length c0_0, .slice A0_1 l0_1.length c0_1] 46 zB ?_; clear HB; intro gb626 w13 HB BK626 GW626; have GE626 := GW626) | ((with_reducible refine gate_dst (N := 3) rfl ?_); refine ze 3 #[.slice A1_0 l1_0.length c1_0, .slice A1_1 l1_1.length c1_1] 46 ?_; intro gb627 hg w14 hbox hb; have BK627 := zM (hbox); have GW627 := zM ((by rw [hg]; exact (below_size zB) : w.heap.size ≤ gb627)); have GE627 := zM ((by rw [hg]; exact (below_size zB) : w.heap.size ≤ gb627)); replace HB := zM (below_step zB hb); have NB626_627 := zM ((by rw [hg]; exact Nat.ne_of_lt (blk_lt (g := gb626) (o := .cells #[.slice A0_0 l0_0.length c0_0, .slice A0_1 l0_1.length c0_1] 46 (0, 0)) (zK BK626.out)) : gb626 ≠ gb627)); have NB627_626 := zM ((by rw [hg]; exact Nat.ne_of_gt (blk_lt (g := gb626) (o := .cells #[.slice A0_0 l0_0.length c0_0, .slice A0_1 l0_1.length c0_1] 46 (0, 0)) (zK BK626.out)) : gb627 ≠ gb626)); replace BK626 := zM (blk_below (g := gb626) (o := .cells #[.slice A0_0 l0_0.length c0_0, .slice A0_1 l0_1.length c0_1] 46 (0, 0)) (zK BK626.out) hb); clear hb hbox hg; have hnb15 := NB626_627.out; have hnc15 := NB627_626.out; have hcz16_0 := zy BK626 0; have hcz16_1 := zy BK626 1; have hfz16_0 := blk_frozen BK626.out 0; have hfz16_1 := blk_frozen BK626.out 1; have hcz17_0 := zy BK627 0; have hcz17_1 := zy BK627 1; have hfz17_0 := blk_frozen BK627.out 0; have hfz17_1 := blk_frozen BK627.out 1) | ((with_reducible refine gate_callee (f := 46) rfl ?_); refine zc 9 Try.func46 #[.slice A0_0 l0_0.length c0_0, .slice A1_0 l1_0.length c1_0] ?_; (with_reducible refine (laws_eqIntSS.calls k _ _ l0_0 _ _ l1_0 true _ ?side1 ?side2 ?side3 ?side4 A3.out).mono ?_); (case side1 => exact zC (Kd.C_below HR0_0.out HB.out)); (case side2 => exact HC0_0.out); (case side3 => exact zC (Kd.C_below HR1_0.out HB.out)); (case side4 => exact HC1_0.out); rintro e w' ⟨rfl, ⟨nd, rfl⟩⟩; refine ⟨_, rfl, ?_⟩) | ((with_reducible refine gate_callee (f := 62) rfl ?_); refine zc 15 Try.func62 #[.slice A0_1 l0_1.length c0_1, .slice A1_1 l1_1.length c1_1] ?_; (with_reducible refine (laws_eqIntA2S.calls k _ _ l0_1 _ _ l1_1 false _ ?side1 ?side2 ?side3 ?side4 A5.out).mono ?_); (case side1 => exact zC (Kd.C_below HR0_1.out zB)); (case side2 => exact HC0_1.out); (case side3 => exact zC (Kd.C_below HR1_1.out zB)); (case side4 => exact HC1_1.out); rintro e w18 ⟨rfl, hb⟩; refine ⟨_, rfl, ?_⟩; replace BK626 := zM (blk_below (g := gb626) (o := .cells #[.slice A0_0 l0_0.length c0_0, .slice A0_1 l0_1.length c0_1] 46 (0, 0)) (zK BK626.out) hb); replace BK627 := zM (blk_below (g := gb627) (o := .cells #[.slice A1_0 l1_0.length c1_0, .slice A1_1 l1_1.length c1_1] 46 (0, 0)) (zK BK627.out) hb); replace HB := zM (below_step zB hb); (try clear hb); (try clear hb2); (try clear hk); (try clear hi)))
     go_ret
     exact ⟨by first | rfl | (simp [errW_none, errW_some] <;> rfl) | (simp [*, errW_none, errW_some] <;> rfl), zB⟩
 · replace c4 := Bool.eq_false_iff.mpr c4
   subst c4
   have H1 : (some false) = some r := by rw [if_neg (show ¬ (false = true) by decide)] at H; exact H
   clear H
   have H := H1
   clear H1
   obtain rfl := Option.some.inj H
   go_enter Try.func35, Try.ntmps35
   go_wp2_with (first | ((with_reducible refine gate_dst (N := 2) rfl ?_); refine zb (w := w) 2 #[.slice A0_0 l0_0.length c0_0, .slice A0_1 l0_1.length c0_1] 46 zB ?_; clear HB; intro gb626 w19 HB BK626 GW626; have GE626 := GW626) | ((with_reducible refine gate_dst (N := 3) rfl ?_); refine ze 3 #[.slice A1_0 l1_0.length c1_0, .slice A1_1 l1_1.length c1_1] 46 ?_; intro gb627 hg w20 hbox hb; have BK627 := zM (hbox); have GW627 := zM ((by rw [hg]; exact (below_size zB) : w.heap.size ≤ gb627)); have GE627 := zM ((by rw [hg]; exact (below_size zB) : w.heap.size ≤ gb627)); replace HB := zM (below_step zB hb); have NB626_627 := zM ((by rw [hg]; exact Nat.ne_of_lt (blk_lt (g := gb626) (o := .cells #[.slice A0_0 l0_0.length c0_0, .slice A0_1 l0_1.length c0_1] 46 (0, 0)) (zK BK626.out)) : gb626 ≠ gb627)); have NB627_626 := zM ((by rw [hg]; exact Nat.ne_of_gt (blk_lt (g := gb626) (o := .cells #[.slice A0_0 l0_0.length c0_0, .slice A0_1 l0_1.length c0_1] 46 (0, 0)) (zK BK626.out)) : gb627 ≠ gb626)); replace BK626 := zM (blk_below (g := gb626) (o := .cells #[.slice A0_0 l0_0.length c0_0, .slice A0_1 l0_1.length c0_1] 46 (0, 0)) (zK BK626.out) hb); clear hb hbox hg; have hnb21 := NB626_627.out; have hnc21 := NB627_626.out; have hcz22_0 := zy BK626 0; have hcz22_1 := zy BK626 1; have hfz22_0 := blk_frozen BK626.out 0; have hfz22_1 := blk_frozen BK626.out 1; have hcz23_0 := zy BK627 0; have hcz23_1 := zy BK627 1; have hfz23_0 := blk_frozen BK627.out 0; have hfz23_1 := blk_frozen BK627.out 1) | ((with_reducible refine gate_callee (f := 46) rfl ?_); refine zc 9 Try.func46 #[.slice A0_0 l0_0.length c0_0, .slice A1_0 l1_0.length c1_0] ?_; (with_reducible refine (laws_eqIntSS.calls k _ _ l0_0 _ _ l1_0 false _ ?side1 ?side2 ?side3 ?side4 A3.out).mono ?_); (case side1 => exact zC (Kd.C_below HR0_0.out HB.out)); (case side2 => exact HC0_0.out); (case side3 => exact zC (Kd.C_below HR1_0.out HB.out)); (case side4 => exact HC1_0.out); rintro e w' ⟨rfl, ⟨nd, rfl⟩⟩; refine ⟨_, rfl, ?_⟩))
   go_ret
   exact ⟨by first | rfl | (simp [errW_none, errW_some] <;> rfl) | (simp [*, errW_none, errW_some] <;> rfl), zB⟩

-- NOT PRINTED: function 36 (laws_markSpace)

/-! ### spec_l2Place: function 88 -/
def spec_l2Place.f (k : Nat) (l0_0 : List (List Int)) (l0_1 : List (S88)) (a1 : Int) : Option (Bool) := (spec_l2Space.f k l0_0 l0_1).bind fun t686 => (if t686 = true then ((spec_l1In.f a1 0 (wrap64 ((l0_0.length : Int) - 1))).bind fun t687 => (some t687)) else (some false))
set_option maxHeartbeats 8000000 in
set_option maxRecDepth 100000 in
theorem spec_l2Place.calls (k : Nat) (A0_0 : Option Addr) (c0_0 : Nat) (l0_0 : List (List Int)) (A0_1 : Option Addr) (c0_1 : Nat) (l0_1 : List (S88)) (a1 : Int) (r : Bool) (w : World) (hr0_0 : Kd.C (Kd.slice 3 (Kd.int .i64)) w A0_0 l0_0.length l0_0) (hc0_0 : l0_0.length ≤ c0_0) (hr0_1 : Kd.C k88 w A0_1 l0_1.length l0_1) (hc0_1 : l0_1.length ≤ c0_1) (h : spec_l2Place.f k l0_0 l0_1 a1 = some r) :
 Calls Try.prog 88 #[.agg #[.slice A0_0 l0_0.length c0_0, .slice A0_1 l0_1.length c0_1], .int .i64 a1] w fun e w' => e = .returned (.bool r) ∧ Below w.heap.size w w' := by
 have hu46 := Try.underlying46
 have HR0_0 := Aside0.mk hr0_0
 have HC0_0 := Aside0.mk hc0_0
 clear hr0_0 hc0_0
 have HR0_1 := Aside0.mk hr0_1
 have HC0_1 := Aside0.mk hc0_1
 clear hr0_1 hc0_1
 have HB := zM (Below.refl w.heap.size w)
 have H : ((spec_l2Space.f k l0_0 l0_1).bind fun t686 => (if t686 = true then ((spec_l1In.f a1 0 (wrap64 ((l0_0.length : Int) - 1))).bind fun t687 => (some t687)) else (some false))) = some r := h
 clear h
 replace H := Option.bind_eq_some_iff.mp H
 obtain ⟨t686, A30, H⟩ := H
 have A3 := Aside0.mk A30
 clear A30
 by_cases c4 : t686 = true
 · subst c4
   rw [if_pos rfl] at H
   replace H := Option.bind_eq_some_iff.mp H
   obtain ⟨t687, A50, H⟩ := H
   have A5 := Aside0.mk A50
   clear A50
   obtain rfl := Option.some.inj H
   go_enter Try.func88, Try.ntmps88
   go_wp2_with (first | ((with_reducible refine gate_dst (N := 2) rfl ?_); (try (refine gate_guard (by rfl) ?_; dsimp only)); refine zb (w := w) 2 #[.slice A0_0 l0_0.length c0_0, .slice A0_1 l0_1.length c0_1] 46 zB ?_; clear HB; intro gb685 w6 HB BK685 GW685; have GE685 := GW685; have hcz7_0 := zy BK685 0; have hcz7_1 := zy BK685 1; have hfz7_0 := blk_frozen BK685.out 0; have hfz7_1 := blk_frozen BK685.out 1) | ((with_reducible refine gate_callee (f := 79) rfl ?_); refine zc 6 Try.func79 #[.agg #[.slice A0_0 l0_0.length c0_0, .slice A0_1 l0_1.length c0_1]] ?_; (with_reducible refine (spec_l2Space.calls k _ _ l0_0 _ _ l0_1 true _ ?side1 ?side2 ?side3 ?side4 A3.out).mono ?_); (case side1 => exact zC (Kd.C_below HR0_0.out HB.out)); (case side2 => exact HC0_0.out); (case side3 => exact zC (Kd.C_below HR0_1.out HB.out)); (case side4 => exact HC0_1.out); rintro e w8 ⟨rfl, hb⟩; refine ⟨_, rfl, ?_⟩; replace BK685 := zM (blk_below (g := gb685) (o := .cells #[.slice A0_0 l0_0.length c0_0, .slice A0_1 l0_1.length c0_1] 46 (0, 0)) (zK BK685.out) hb); replace HB := zM (below_step zB hb); (try clear hb); (try clear hb2); (try clear hk); (try clear hi); have hcz9_0 := zy BK685 0; have hcz9_1 := zy BK685 1; have hfz9_0 := blk_frozen BK685.out 0; have hfz9_1 := blk_frozen BK685.out 1) | (go_at_call 125; (with_reducible refine (spec_l1In.calls a1 0 (wrap64 ((l0_0.length : Int) - 1)) t687 _ A5.out).mono ?_); rintro e w' ⟨rfl, ⟨nd, rfl⟩⟩))
   go_ret
   exact ⟨by first | rfl | (simp [errW_none, errW_some] <;> rfl) | (simp [*, errW_none, errW_some] <;> rfl), zB⟩
 · replace c4 := Bool.eq_false_iff.mpr c4
   subst c4
   have H1 : (some false) = some r := by rw [if_neg (show ¬ (false = true) by decide)] at H; exact H
   clear H
   have H := H1
   clear H1
   obtain rfl := Option.some.inj H
   go_enter Try.func88, Try.ntmps88
   go_wp2_with (first | ((with_reducible refine gate_dst (N := 2) rfl ?_); (try (refine gate_guard (by rfl) ?_; dsimp only)); refine zb (w := w) 2 #[.slice A0_0 l0_0.length c0_0, .slice A0_1 l0_1.length c0_1] 46 zB ?_; clear HB; intro gb685 w10 HB BK685 GW685; have GE685 := GW685; have hcz11_0 := zy BK685 0; have hcz11_1 := zy BK685 1; have hfz11_0 := blk_frozen BK685.out 0; have hfz11_1 := blk_frozen BK685.out 1) | ((with_reducible refine gate_callee (f := 79) rfl ?_); refine zc 6 Try.func79 #[.agg #[.slice A0_0 l0_0.length c0_0, .slice A0_1 l0_1.length c0_1]] ?_; (with_reducible refine (spec_l2Space.calls k _ _ l0_0 _ _ l0_1 false _ ?side1 ?side2 ?side3 ?side4 A3.out).mono ?_); (case side1 => exact zC (Kd.C_below HR0_0.out HB.out)); (case side2 => exact HC0_0.out); (case side3 => exact zC (Kd.C_below HR0_1.out HB.out)); (case side4 => exact HC0_1.out); rintro e w12 ⟨rfl, hb⟩; refine ⟨_, rfl, ?_⟩; replace BK685 := zM (blk_below (g := gb685) (o := .cells #[.slice A0_0 l0_0.length c0_0, .slice A0_1 l0_1.length c0_1] 46 (0, 0)) (zK BK685.out) hb); replace HB := zM (below_step zB hb); (try clear hb); (try clear hb2); (try clear hk); (try clear hi)))
   go_ret
   exact ⟨by first | rfl | (simp [errW_none, errW_some] <;> rfl) | (simp [*, errW_none, errW_some] <;> rfl), zB⟩

/-! ### spec_l2From: function 89 -/
def spec_l2From.l0 : Nat → Int → List Int → Int → List (List Int) → List (S88) → Option (List Int)
 | 0, _, _, _, _, _ => none
 | k + 1, x1, x5, x6, x689000, x689001 => if x6 < (x689001.length : Int) then (if 0 ≤ x6 then (if ((rd_T88 x689001 x6).f0) = x1 then (if x5.length < 17592186044416 then ((some (x5 ++ [(rd_T88 x689001 x6).f1] : List Int)).bind fun y694 => (if ((rd_T88 x689001 x6).f1) = x1 then (if y694.length < 17592186044416 then (spec_l2From.l0 k x1 (y694 ++ [(rd_T88 x689001 x6).f0]) (wrap64 (x6 + 1)) x689000 x689001) else (none)) else (spec_l2From.l0 k x1 y694 (wrap64 (x6 + 1)) x689000 x689001))) else (none)) else (if ((rd_T88 x689001 x6).f1) = x1 then (if x5.length < 17592186044416 then (spec_l2From.l0 k x1 (x5 ++ [(rd_T88 x689001 x6).f0]) (wrap64 (x6 + 1)) x689000 x689001) else (none)) else (spec_l2From.l0 k x1 x5 (wrap64 (x6 + 1)) x689000 x689001))) else (none)) else (some x5)
def spec_l2From.f (k : Nat) (l0_0 : List (List Int)) (l0_1 : List (S88)) (a1 : Int) : Option (List Int) := spec_l2From.l0 k a1 (([] : List Int)) 0 l0_0 l0_1
set_option maxHeartbeats 8000000 in
set_option maxRecDepth 100000 in
theorem spec_l2From.calls (k : Nat) (A0_0 : Option Addr) (c0_0 : Nat) (l0_0 : List (List Int)) (A0_1 : Option Addr) (c0_1 : Nat) (l0_1 : List (S88)) (a1 : Int) (r : List Int) (w : World) (hr0_0 : Kd.C (Kd.slice 3 (Kd.int .i64)) w A0_0 l0_0.length l0_0) (hc0_0 : l0_0.length ≤ c0_0) (hr0_1 : Kd.C k88 w A0_1 l0_1.length l0_1) (hc0_1 : l0_1.length ≤ c0_1) (h : spec_l2From.f k l0_0 l0_1 a1 = some r) :
 Calls Try.prog 89 #[.agg #[.slice A0_0 l0_0.length c0_0, .slice A0_1 l0_1.length c0_1], .int .i64 a1] w fun e w' => ∃ v0_ : Value, e = .returned (v0_) ∧ Kd.R (Kd.int .i64) 3 w' w.heap.size (fun _ => True) v0_ r ∧ Below w.heap.size w w' := by
 have hu46 := Try.underlying46
 have HR0_0 := Aside0.mk hr0_0
 have HC0_0 := Aside0.mk hc0_0
 clear hr0_0 hc0_0
 have HR0_1 := Aside0.mk hr0_1
 have HC0_1 := Aside0.mk hc0_1
 clear hr0_1 hc0_1
 have HB := zM (Below.refl w.heap.size w)
 have H : (spec_l2From.l0 k a1 (([] : List Int)) 0 l0_0 l0_1) = some r := h
 clear h
 obtain ⟨y689, hy689⟩ : ∃ y_ : List Int, y_ = (([] : List Int)) := ⟨_, rfl⟩
 replace H : (spec_l2From.l0 k a1 y689 0 l0_0 l0_1) = some r := by first | (rw [hy689]; with_reducible exact H) | (have H2_ := (Option.bind_some _ _).symm.trans H; rw [hy689]; with_reducible exact H2_) | (have H2_ := (Option.bind_some _ _).symm.trans H; with_reducible exact H2_) | with_reducible exact H | (rw [hy689]; exact H) | exact H
 have Ny689 := Aside0.mk hy689
 clear hy689
 have H' := Aside0.mk H
 clear H
 go_enter Try.func89, Try.ntmps89
 go_wp2_with (first | ((with_reducible refine gate_dst (N := 2) rfl ?_); refine zb (w := w) 2 #[.slice A0_0 l0_0.length c0_0, .slice A0_1 l0_1.length c0_1] 46 zB ?_; clear HB; intro gb688 w3 HB BK688 GW688; have GE688 := GW688) | ((with_reducible refine gate_dst (N := 7) rfl ?_); refine Kd.R_lit (Kd.int .i64) _ 3 ?hg (N := 7) ?hd (xs := ([] : List Int)) (inner := []) (ok := fun _ => True) (okp := fun _ => True) ?hr ?hp (fun _ hk => hk) trivial (Below.refl _ _) (Nat.le_refl _) (by simp) ?_; (case hd => rfl); (case hg => rfl); (case hr => first | (go_simp; done) | (go_simp; rfl)); (case hp => exact (Reps.none _ _)); intro v690 w4 ho5 hb hg_ hnew_; clear hg_ hnew_; (first | rw [← Ny689.out] at ho5 | (simp only [Int.reduceToNat] at ho5; rw [← Ny689.out] at ho5)); have HO691 := zM (Kd.R_lower ho5 (below_size zB)); replace BK688 := zM (blk_below (g := gb688) (o := .cells #[.slice A0_0 l0_0.length c0_0, .slice A0_1 l0_1.length c0_1] 46 (0, 0)) (zK BK688.out) hb); replace HB := zM (below_step zB hb); clear hb ho5))
 go_loopg [5, 6] k (fun kq v5 v6 w' => ∃ (x5_1 : List Int) (x6_1 : Int), v6 = .int .i64 x6_1 ∧ Aside0 (spec_l2From.l0 kq a1 x5_1 x6_1 l0_0 l0_1 = some r) ∧ Aside0 (kq ≤ k) ∧ Aside0 (Kd.R (Kd.int .i64) 3 w' w.heap.size (fun _ => True) v5 x5_1) ∧ Aside0 (w'.heap[gb688]? = some (.cells #[(.slice A0_0 l0_0.length c0_0), (.slice A0_1 l0_1.length c0_1)] 46 (0, 0))) ∧ Aside0 (Below w.heap.size w w'))
 case atStart => exact ⟨(y689), (0), (by first | rfl | (simp; done) | (simp [*]; done)), H', ⟨Nat.le_refl _⟩, ⟨zR HO691.out⟩, ⟨zK BK688.out⟩, ⟨zB⟩⟩
 case round =>
  clear H'
  try clear p2
  obtain ⟨x5_1, x6_1, rfl, HA, HK1, HO_5, BK688, HB⟩ := hrel
  cases gk with
  | zero => exact absurd HA.out (by simp [spec_l2From.l0])
  | succ k1 =>
   have H := HA.out
   clear HA
   simp only [spec_l2From.l0] at H
   by_cases c6 : x6_1 < (l0_1.length : Int)
   · rw [if_pos c6] at H
     have c6b0 := decide_eq_true c6
     clear c6
     by_cases c7 : 0 ≤ x6_1
     · rw [if_pos c7] at H
       have c7b0 := decide_eq_true c7
       clear c7
       by_cases c8 : ((rd_T88 l0_1 x6_1).f0) = a1
       · rw [if_pos c8] at H
         have c8b0 : (((rd_T88 l0_1 x6_1).f0) == a1) = true := beq_iff_eq.mpr c8
         have c8b1 : (((rd_T88 l0_1 x6_1).f0) != a1) = false := bne_eq_false_iff_eq.mpr c8
         clear c8
         by_cases c9 : x5_1.length < 17592186044416
         · rw [if_pos c9] at H
           have LMc9 := Aside0.mk c9
           clear c9
           obtain ⟨y694, hy694⟩ : ∃ y_ : List Int, y_ = (x5_1 ++ [(rd_T88 l0_1 x6_1).f1]) := ⟨_, rfl⟩
           replace H : (if ((rd_T88 l0_1 x6_1).f1) = a1 then (if y694.length < 17592186044416 then (spec_l2From.l0 k1 a1 (y694 ++ [(rd_T88 l0_1 x6_1).f0]) (wrap64 (x6_1 + 1)) l0_0 l0_1) else (none)) else (spec_l2From.l0 k1 a1 y694 (wrap64 (x6_1 + 1)) l0_0 l0_1)) = some r := by first | (rw [hy694]; with_reducible exact H) | (have H2_ := (Option.bind_some _ _).symm.trans H; rw [hy694]; with_reducible exact H2_) | (have H2_ := (Option.bind_some _ _).symm.trans H; with_reducible exact H2_) | with_reducible exact H | (rw [hy694]; exact H) | exact H
           have Ny694 := Aside0.mk hy694
           clear hy694
           by_cases c10 : ((rd_T88 l0_1 x6_1).f1) = a1
           · rw [if_pos c10] at H
             have c10b0 : (((rd_T88 l0_1 x6_1).f1) == a1) = true := beq_iff_eq.mpr c10
             have c10b1 : (((rd_T88 l0_1 x6_1).f1) != a1) = false := bne_eq_false_iff_eq.mpr c10
             clear c10
             by_cases c11 : y694.length < 17592186044416
             · rw [if_pos c11] at H
               have LMc11 := Aside0.mk c11
               clear c11
               obtain ⟨y699, hy699⟩ : ∃ y_ : List Int, y_ = (y694 ++ [(rd_T88 l0_1 x6_1).f0]) := ⟨_, rfl⟩
               replace H : (spec_l2From.l0 k1 a1 y699 (wrap64 (x6_1 + 1)) l0_0 l0_1) = some r := by first | (rw [hy699]; with_reducible exact H) | (have H2_ := (Option.bind_some _ _).symm.trans H; rw [hy699]; with_reducible exact H2_) | (have H2_ := (Option.bind_some _ _).symm.trans H; with_reducible exact H2_) | with_reducible exact H | (rw [hy699]; exact H) | exact H
               have Ny699 := Aside0.mk hy699
               clear hy699
               have H' := Aside0.mk H
               clear H
               have hcz12_0 := zy BK688 0
               have hcz12_1 := zy BK688 1
               have hfz12_0 := blk_frozen BK688.out 0
               have hfz12_1 := blk_frozen BK688.out 1
               have p692 : 0 ≤ (x6_1 : Int) := of_decide_eq_true zA
               have q692 : x6_1 < (l0_1.length : Int) := of_decide_eq_true zA
               obtain ⟨ad692, e692, hx692_0, hx692_1⟩ := at_T88 HR0_1.out x6_1 p692 q692
               cases e692
               (try replace hx692_0 := (HB.out.cell (World.block_lt_of_cell? w _ hx692_0)).trans hx692_0)
               (try replace hx692_1 := (HB.out.cell (World.block_lt_of_cell? w _ hx692_1)).trans hx692_1)
               replace p692 := eq_true p692
               replace q692 := eq_true q692
               have p693 : 0 ≤ (x6_1 : Int) := of_decide_eq_true zA
               have q693 : x6_1 < (l0_1.length : Int) := of_decide_eq_true zA
               obtain ⟨ad693, e693, hx693_0, hx693_1⟩ := at_T88 HR0_1.out x6_1 p693 q693
               obtain rfl : ad692 = ad693 := (by injection e693)
               (try replace hx693_0 := (HB.out.cell (World.block_lt_of_cell? w _ hx693_0)).trans hx693_0)
               (try replace hx693_1 := (HB.out.cell (World.block_lt_of_cell? w _ hx693_1)).trans hx693_1)
               replace p693 := eq_true p693
               replace q693 := eq_true q693
               go_wp2_with (first | ((with_reducible refine gate_builtin (b := .append) (xs := #[.tmp 23, .tmp 30]) rfl ?_); at_builtin; refine Kd.R_append (Kd.int .i64) (w0 := w) w.heap.size rfl (.tmp 23) (.tmp 30) 25 3 (.int .i64 0) 8 rfl Try.underlying25 info3 rfl (by decide) (by omega) u5 x5_1 ((rd_T88 l0_1 x6_1).f1) [.int .i64 ((rd_T88 l0_1 x6_1).f1)] (fun _ => True) (fun _ => False) rfl rfl ?aP (fun _ hk => hk.elim) ?aF ?aO ?aB ?aS ?aL ?_; (case aP => exact rfl); (case aB => exact zB); (case aF => exact (fun _ _ => trivial)); (case aO => exact (zR HO_5.out)); (case aS => exact (below_size zB)); (case aL => have := LMc9.out; omega); intro v695 w13 ho hb hg hat; rw [← Ny694.out] at ho; replace BK688 := zM (blk_grown (g := gb688) (o := .cells #[.slice A0_0 l0_0.length c0_0, .slice (some ad692) l0_1.length c0_1] 46 (0, 0)) (zK BK688.out) hg (Kd.R_ne HO_5.out BK688.out (by decide))); replace HB := zM (hb); have HO696 := zM (ho); clear HO_5; clear ho hb hg hat; have hcz14_0 := zy BK688 0; have hcz14_1 := zy BK688 1; have hfz14_0 := blk_frozen BK688.out 0; have hfz14_1 := blk_frozen BK688.out 1; have p697 : 0 ≤ (x6_1 : Int) := of_decide_eq_true zA; have q697 : x6_1 < (l0_1.length : Int) := of_decide_eq_true zA; obtain ⟨ad697, e697, hx697_0, hx697_1⟩ := at_T88 HR0_1.out x6_1 p697 q697; obtain rfl : ad692 = ad697 := (by injection e697); (try replace hx697_0 := (HB.out.cell (World.block_lt_of_cell? w _ hx697_0)).trans hx697_0); (try replace hx697_1 := (HB.out.cell (World.block_lt_of_cell? w _ hx697_1)).trans hx697_1); replace p697 := eq_true p697; replace q697 := eq_true q697; have p698 : 0 ≤ (x6_1 : Int) := of_decide_eq_true zA; have q698 : x6_1 < (l0_1.length : Int) := of_decide_eq_true zA; obtain ⟨ad698, e698, hx698_0, hx698_1⟩ := at_T88 HR0_1.out x6_1 p698 q698; obtain rfl : ad692 = ad698 := (by injection e698); (try replace hx698_0 := (HB.out.cell (World.block_lt_of_cell? w _ hx698_0)).trans hx698_0); (try replace hx698_1 := (HB.out.cell (World.block_lt_of_cell? w _ hx698_1)).trans hx698_1); replace p698 := eq_true p698; replace q698 := eq_true q698) | ((with_reducible refine gate_builtin (b := .append) (xs := #[.tmp 40, .tmp 47]) rfl ?_); at_builtin; refine Kd.R_append (Kd.int .i64) (w0 := w) w.heap.size rfl (.tmp 40) (.tmp 47) 25 3 (.int .i64 0) 8 rfl Try.underlying25 info3 rfl (by decide) (by omega) v695 y694 ((rd_T88 l0_1 x6_1).f0) [.int .i64 ((rd_T88 l0_1 x6_1).f0)] (fun _ => True) (fun _ => False) rfl rfl ?aP (fun _ hk => hk.elim) ?aF ?aO ?aB ?aS ?aL ?_; (case aP => exact rfl); (case aB => exact zB); (case aF => exact (fun _ _ => trivial)); (case aO => exact (zR HO696.out)); (case aS => exact (below_size zB)); (case aL => have := LMc11.out; omega); intro v700 w15 ho hb hg hat; rw [← Ny699.out] at ho; replace BK688 := zM (blk_grown (g := gb688) (o := .cells #[.slice A0_0 l0_0.length c0_0, .slice (some ad692) l0_1.length c0_1] 46 (0, 0)) (zK BK688.out) hg (Kd.R_ne HO696.out BK688.out (by decide))); replace HB := zM (hb); have HO701 := zM (ho); clear HO696; clear ho hb hg hat))
               go_roundg k1
               case measure => have := HK1.out; omega
               case rel => exact ⟨(y699), (wrap64 (x6_1 + 1)), (by first | rfl | (simp; done) | (simp [*]; done)), H', ⟨by have := HK1.out; omega⟩, ⟨zR HO701.out⟩, ⟨zK BK688.out⟩, ⟨zB⟩⟩
             · rw [if_neg c11] at H
               exact absurd H (by simp)
           · rw [if_neg c10] at H
             have c10b0 : (((rd_T88 l0_1 x6_1).f1) == a1) = false := beq_eq_false_iff_ne.mpr c10
             have c10b1 : (((rd_T88 l0_1 x6_1).f1) != a1) = true := bne_iff_ne.mpr c10
             have H' := Aside0.mk H
             clear H
             have hcz16_0 := zy BK688 0
             have hcz16_1 := zy BK688 1
             have hfz16_0 := blk_frozen BK688.out 0
             have hfz16_1 := blk_frozen BK688.out 1
             have p692 : 0 ≤ (x6_1 : Int) := of_decide_eq_true zA
             have q692 : x6_1 < (l0_1.length : Int) := of_decide_eq_true zA
             obtain ⟨ad692, e692, hx692_0, hx692_1⟩ := at_T88 HR0_1.out x6_1 p692 q692
             cases e692
             (try replace hx692_0 := (HB.out.cell (World.block_lt_of_cell? w _ hx692_0)).trans hx692_0)
             (try replace hx692_1 := (HB.out.cell (World.block_lt_of_cell? w _ hx692_1)).trans hx692_1)
             replace p692 := eq_true p692
             replace q692 := eq_true q692
             have p693 : 0 ≤ (x6_1 : Int) := of_decide_eq_true zA
             have q693 : x6_1 < (l0_1.length : Int) := of_decide_eq_true zA
             obtain ⟨ad693, e693, hx693_0, hx693_1⟩ := at_T88 HR0_1.out x6_1 p693 q693
             obtain rfl : ad692 = ad693 := (by injection e693)
             (try replace hx693_0 := (HB.out.cell (World.block_lt_of_cell? w _ hx693_0)).trans hx693_0)
             (try replace hx693_1 := (HB.out.cell (World.block_lt_of_cell? w _ hx693_1)).trans hx693_1)
             replace p693 := eq_true p693
             replace q693 := eq_true q693
             go_wp2_with (first | ((with_reducible refine gate_builtin (b := .append) (xs := #[.tmp 23, .tmp 30]) rfl ?_); at_builtin; refine Kd.R_append (Kd.int .i64) (w0 := w) w.heap.size rfl (.tmp 23) (.tmp 30) 25 3 (.int .i64 0) 8 rfl Try.underlying25 info3 rfl (by decide) (by omega) u5 x5_1 ((rd_T88 l0_1 x6_1).f1) [.int .i64 ((rd_T88 l0_1 x6_1).f1)] (fun _ => True) (fun _ => False) rfl rfl ?aP (fun _ hk => hk.elim) ?aF ?aO ?aB ?aS ?aL ?_; (case aP => exact rfl); (case aB => exact zB); (case aF => exact (fun _ _ => trivial)); (case aO => exact (zR HO_5.out)); (case aS => exact (below_size zB)); (case aL => have := LMc9.out; omega); intro v695 w17 ho hb hg hat; rw [← Ny694.out] at ho; replace BK688 := zM (blk_grown (g := gb688) (o := .cells #[.slice A0_0 l0_0.length c0_0, .slice (some ad692) l0_1.length c0_1] 46 (0, 0)) (zK BK688.out) hg (Kd.R_ne HO_5.out BK688.out (by decide))); replace HB := zM (hb); have HO696 := zM (ho); clear HO_5; clear ho hb hg hat; have hcz18_0 := zy BK688 0; have hcz18_1 := zy BK688 1; have hfz18_0 := blk_frozen BK688.out 0; have hfz18_1 := blk_frozen BK688.out 1; have p697 : 0 ≤ (x6_1 : Int) := of_decide_eq_true zA; have q697 : x6_1 < (l0_1.length : Int) := of_decide_eq_true zA; obtain ⟨ad697, e697, hx697_0, hx697_1⟩ := at_T88 HR0_1.out x6_1 p697 q697; obtain rfl : ad692 = ad697 := (by injection e697); (try replace hx697_0 := (HB.out.cell (World.block_lt_of_cell? w _ hx697_0)).trans hx697_0); (try replace hx697_1 := (HB.out.cell (World.block_lt_of_cell? w _ hx697_1)).trans hx697_1); replace p697 := eq_true p697; replace q697 := eq_true q697))
             go_roundg k1
             case measure => have := HK1.out; omega
             case rel => exact ⟨(y694), (wrap64 (x6_1 + 1)), (by first | rfl | (simp; done) | (simp [*]; done)), H', ⟨by have := HK1.out; omega⟩, ⟨zR HO696.out⟩, ⟨zK BK688.out⟩, ⟨zB⟩⟩
         · rw [if_neg c9] at H
           exact absurd H (by simp)
       · rw [if_neg c8] at H
         have c8b0 : (((rd_T88 l0_1 x6_1).f0) == a1) = false := beq_eq_false_iff_ne.mpr c8
         have c8b1 : (((rd_T88 l0_1 x6_1).f0) != a1) = true := bne_iff_ne.mpr c8
         by_cases c19 : ((rd_T88 l0_1 x6_1).f1) = a1
         · rw [if_pos c19] at H
           have c19b0 : (((rd_T88 l0_1 x6_1).f1) == a1) = true := beq_iff_eq.mpr c19
           have c19b1 : (((rd_T88 l0_1 x6_1).f1) != a1) = false := bne_eq_false_iff_eq.mpr c19
           clear c19
           by_cases c20 : x5_1.length < 17592186044416
           · rw [if_pos c20] at H
             have LMc20 := Aside0.mk c20
             clear c20
             obtain ⟨y704, hy704⟩ : ∃ y_ : List Int, y_ = (x5_1 ++ [(rd_T88 l0_1 x6_1).f0]) := ⟨_, rfl⟩
             replace H : (spec_l2From.l0 k1 a1 y704 (wrap64 (x6_1 + 1)) l0_0 l0_1) = some r := by first | (rw [hy704]; with_reducible exact H) | (have H2_ := (Option.bind_some _ _).symm.trans H; rw [hy704]; with_reducible exact H2_) | (have H2_ := (Option.bind_some _ _).symm.trans H; with_reducible exact H2_) | with_reducible exact H | (rw [hy704]; exact H) | exact H
             have Ny704 := Aside0.mk hy704
             clear hy704
             have H' := Aside0.mk H
             clear H
             have hcz21_0 := zy BK688 0
             have hcz21_1 := zy BK688 1
             have hfz21_0 := blk_frozen BK688.out 0
             have hfz21_1 := blk_frozen BK688.out 1
             have p692 : 0 ≤ (x6_1 : Int) := of_decide_eq_true zA
             have q692 : x6_1 < (l0_1.length : Int) := of_decide_eq_true zA
             obtain ⟨ad692, e692, hx692_0, hx692_1⟩ := at_T88 HR0_1.out x6_1 p692 q692
             cases e692
             (try replace hx692_0 := (HB.out.cell (World.block_lt_of_cell? w _ hx692_0)).trans hx692_0)
             (try replace hx692_1 := (HB.out.cell (World.block_lt_of_cell? w _ hx692_1)).trans hx692_1)
             replace p692 := eq_true p692
             replace q692 := eq_true q692
             have p702 : 0 ≤ (x6_1 : Int) := of_decide_eq_true zA
             have q702 : x6_1 < (l0_1.length : Int) := of_decide_eq_true zA
             obtain ⟨ad702, e702, hx702_0, hx702_1⟩ := at_T88 HR0_1.out x6_1 p702 q702
             obtain rfl : ad692 = ad702 := (by injection e702)
             (try replace hx702_0 := (HB.out.cell (World.block_lt_of_cell? w _ hx702_0)).trans hx702_0)
             (try replace hx702_1 := (HB.out.cell (World.block_lt_of_cell? w _ hx702_1)).trans hx702_1)
             replace p702 := eq_true p702
             replace q702 := eq_true q702
             have p703 : 0 ≤ (x6_1 : Int) := of_decide_eq_true zA
             have q703 : x6_1 < (l0_1.length : Int) := of_decide_eq_true zA
             obtain ⟨ad703, e703, hx703_0, hx703_1⟩ := at_T88 HR0_1.out x6_1 p703 q703
             obtain rfl : ad692 = ad703 := (by injection e703)
             (try replace hx703_0 := (HB.out.cell (World.block_lt_of_cell? w _ hx703_0)).trans hx703_0)
             (try replace hx703_1 := (HB.out.cell (World.block_lt_of_cell? w _ hx703_1)).trans hx703_1)
             replace p703 := eq_true p703
             replace q703 := eq_true q703
             go_wp2_with (first | ((with_reducible refine gate_builtin (b := .append) (xs := #[.tmp 40, .tmp 47]) rfl ?_); at_builtin; refine Kd.R_append (Kd.int .i64) (w0 := w) w.heap.size rfl (.tmp 40) (.tmp 47) 25 3 (.int .i64 0) 8 rfl Try.underlying25 info3 rfl (by decide) (by omega) u5 x5_1 ((rd_T88 l0_1 x6_1).f0) [.int .i64 ((rd_T88 l0_1 x6_1).f0)] (fun _ => True) (fun _ => False) rfl rfl ?aP (fun _ hk => hk.elim) ?aF ?aO ?aB ?aS ?aL ?_; (case aP => exact rfl); (case aB => exact zB); (case aF => exact (fun _ _ => trivial)); (case aO => exact (zR HO_5.out)); (case aS => exact (below_size zB)); (case aL => have := LMc20.out; omega); intro v705 w22 ho hb hg hat; rw [← Ny704.out] at ho; replace BK688 := zM (blk_grown (g := gb688) (o := .cells #[.slice A0_0 l0_0.length c0_0, .slice (some ad692) l0_1.length c0_1] 46 (0, 0)) (zK BK688.out) hg (Kd.R_ne HO_5.out BK688.out (by decide))); replace HB := zM (hb); have HO706 := zM (ho); clear HO_5; clear ho hb hg hat))
             go_roundg k1
             case measure => have := HK1.out; omega
             case rel => exact ⟨(y704), (wrap64 (x6_1 + 1)), (by first | rfl | (simp; done) | (simp [*]; done)), H', ⟨by have := HK1.out; omega⟩, ⟨zR HO706.out⟩, ⟨zK BK688.out⟩, ⟨zB⟩⟩
           · rw [if_neg c20] at H
             exact absurd H (by simp)
         · rw [if_neg c19] at H
           have c19b0 : (((rd_T88 l0_1 x6_1).f1) == a1) = false := beq_eq_false_iff_ne.mpr c19
           have c19b1 : (((rd_T88 l0_1 x6_1).f1) != a1) = true := bne_iff_ne.mpr c19
           have H' := Aside0.mk H
           clear H
           have hcz23_0 := zy BK688 0
           have hcz23_1 := zy BK688 1
           have hfz23_0 := blk_frozen BK688.out 0
           have hfz23_1 := blk_frozen BK688.out 1
           have p692 : 0 ≤ (x6_1 : Int) := of_decide_eq_true zA
           have q692 : x6_1 < (l0_1.length : Int) := of_decide_eq_true zA
           obtain ⟨ad692, e692, hx692_0, hx692_1⟩ := at_T88 HR0_1.out x6_1 p692 q692
           cases e692
           (try replace hx692_0 := (HB.out.cell (World.block_lt_of_cell? w _ hx692_0)).trans hx692_0)
           (try replace hx692_1 := (HB.out.cell (World.block_lt_of_cell? w _ hx692_1)).trans hx692_1)
           replace p692 := eq_true p692
           replace q692 := eq_true q692
           have p702 : 0 ≤ (x6_1 : Int) := of_decide_eq_true zA
           have q702 : x6_1 < (l0_1.length : Int) := of_decide_eq_true zA
           obtain ⟨ad702, e702, hx702_0, hx702_1⟩ := at_T88 HR0_1.out x6_1 p702 q702
           obtain rfl : ad692 = ad702 := (by injection e702)
           (try replace hx702_0 := (HB.out.cell (World.block_lt_of_cell? w _ hx702_0)).trans hx702_0)
           (try replace hx702_1 := (HB.out.cell (World.block_lt_of_cell? w _ hx702_1)).trans hx702_1)
           replace p702 := eq_true p702
           replace q702 := eq_true q702
           go_wp2
           go_roundg k1
           case measure => have := HK1.out; omega
           case rel => exact ⟨(x5_1), (wrap64 (x6_1 + 1)), (by first | rfl | (simp; done) | (simp [*]; done)), H', ⟨by have := HK1.out; omega⟩, ⟨zR HO_5.out⟩, ⟨zK BK688.out⟩, ⟨zB⟩⟩
     · rw [if_neg c7] at H
       exact absurd H (by simp)
   · rw [if_neg c6] at H
     have c6b0 : decide (x6_1 < (l0_1.length : Int)) = false := decide_eq_false c6
     clear c6
     obtain rfl := Option.some.inj H
     have hcz24_0 := zy BK688 0
     have hcz24_1 := zy BK688 1
     have hfz24_0 := blk_frozen BK688.out 0
     have hfz24_1 := blk_frozen BK688.out 1
     go_wp2
     go_ret
     exact ⟨_, by first | rfl | (simp [errW_none, errW_some] <;> rfl) | (simp [*, errW_none, errW_some] <;> rfl), by (with_reducible repeat (first | apply Kd.R_alloc | apply Kd.R_drewN | apply Kd.R_drew)); exact HO_5.out, zB⟩

/-! ### spec_StepsFrom: function 38 -/
def spec_StepsFrom.f (k : Nat) (l0_0 : List (List Int)) (l0_1 : List (S88)) (a1 : Int) : Option (List Int × Bool) := (spec_l2Place.f k l0_0 l0_1 a1).bind fun t708 => (if t708 = true then ((spec_l2From.f k l0_0 l0_1 a1).bind fun t709 => (some (t709, true))) else (some ((([] : List Int)), false)))
set_option maxHeartbeats 8000000 in
set_option maxRecDepth 100000 in
theorem spec_StepsFrom.calls (k : Nat) (A0_0 : Option Addr) (c0_0 : Nat) (l0_0 : List (List Int)) (A0_1 : Option Addr) (c0_1 : Nat) (l0_1 : List (S88)) (a1 : Int) (r1 : List Int) (r2 : Bool) (w : World) (hr0_0 : Kd.C (Kd.slice 3 (Kd.int .i64)) w A0_0 l0_0.length l0_0) (hc0_0 : l0_0.length ≤ c0_0) (hr0_1 : Kd.C k88 w A0_1 l0_1.length l0_1) (hc0_1 : l0_1.length ≤ c0_1) (h : spec_StepsFrom.f k l0_0 l0_1 a1 = some (r1, r2)) :
 Calls Try.prog 38 #[.agg #[.slice A0_0 l0_0.length c0_0, .slice A0_1 l0_1.length c0_1], .int .i64 a1] w fun e w' => ∃ v0_ : Value, e = .returned (.tuple #[v0_, .bool r2]) ∧ Kd.R (Kd.int .i64) 3 w' w.heap.size (fun _ => True) v0_ r1 ∧ Below w.heap.size w w' := by
 have hu46 := Try.underlying46
 have HR0_0 := Aside0.mk hr0_0
 have HC0_0 := Aside0.mk hc0_0
 clear hr0_0 hc0_0
 have HR0_1 := Aside0.mk hr0_1
 have HC0_1 := Aside0.mk hc0_1
 clear hr0_1 hc0_1
 have HB := zM (Below.refl w.heap.size w)
 have H : ((spec_l2Place.f k l0_0 l0_1 a1).bind fun t708 => (if t708 = true then ((spec_l2From.f k l0_0 l0_1 a1).bind fun t709 => (some (t709, true))) else (some ((([] : List Int)), false)))) = some (r1, r2) := h
 clear h
 replace H := Option.bind_eq_some_iff.mp H
 obtain ⟨t708, A30, H⟩ := H
 replace H : (if t708 = true then ((spec_l2From.f k l0_0 l0_1 a1).bind fun t709 => (some (t709, true))) else (some ((([] : List Int)), false))) = some (r1, r2) := H
 have A3 := Aside0.mk A30
 clear A30
 by_cases c4 : t708 = true
 · subst c4
   have H1 : ((spec_l2From.f k l0_0 l0_1 a1).bind fun t709 => (some (t709, true))) = some (r1, r2) := by rw [if_pos rfl] at H; exact H
   clear H
   have H := H1
   clear H1
   replace H := Option.bind_eq_some_iff.mp H
   obtain ⟨t709, A50, H⟩ := H
   replace H : (some (t709, true)) = some (r1, r2) := H
   have A5 := Aside0.mk A50
   clear A50
   simp only [Option.some.injEq, Prod.mk.injEq] at H
   obtain ⟨rfl, rfl⟩ := H
   go_enter Try.func38, Try.ntmps38
   go_wp2_with (first | ((with_reducible refine gate_dst (N := 2) rfl ?_); refine zb (w := w) 2 #[.slice A0_0 l0_0.length c0_0, .slice A0_1 l0_1.length c0_1] 46 zB ?_; clear HB; intro gb707 w6 HB BK707 GW707; have GE707 := GW707; have hcz7_0 := zy BK707 0; have hcz7_1 := zy BK707 1; have hfz7_0 := blk_frozen BK707.out 0; have hfz7_1 := blk_frozen BK707.out 1) | ((with_reducible refine gate_callee (f := 88) rfl ?_); refine zc 8 Try.func88 #[.agg #[.slice A0_0 l0_0.length c0_0, .slice A0_1 l0_1.length c0_1], .int .i64 a1] ?_; (with_reducible refine (spec_l2Place.calls k _ _ l0_0 _ _ l0_1 a1 true _ ?side1 ?side2 ?side3 ?side4 A3.out).mono ?_); (case side1 => exact zC (Kd.C_below HR0_0.out HB.out)); (case side2 => exact HC0_0.out); (case side3 => exact zC (Kd.C_below HR0_1.out HB.out)); (case side4 => exact HC0_1.out); rintro e w8 ⟨rfl, hb⟩; refine ⟨_, rfl, ?_⟩; replace BK707 := zM (blk_below (g := gb707) (o := .cells #[.slice A0_0 l0_0.length c0_0, .slice A0_1 l0_1.length c0_1] 46 (0, 0)) (zK BK707.out) hb); replace HB := zM (below_step zB hb); (try clear hb); (try clear hb2); (try clear hk); (try clear hi); have hcz9_0 := zy BK707 0; have hcz9_1 := zy BK707 1; have hfz9_0 := blk_frozen BK707.out 0; have hfz9_1 := blk_frozen BK707.out 1) | ((with_reducible refine gate_callee (f := 89) rfl ?_); refine zc 13 Try.func89 #[.agg #[.slice A0_0 l0_0.length c0_0, .slice A0_1 l0_1.length c0_1], .int .i64 a1] ?_; (with_reducible refine (spec_l2From.calls k _ _ l0_0 _ _ l0_1 a1 t709 _ ?side1 ?side2 ?side3 ?side4 A5.out).mono ?_); (case side1 => exact zC (Kd.C_below HR0_0.out HB.out)); (case side2 => exact HC0_0.out); (case side3 => exact zC (Kd.C_below HR0_1.out HB.out)); (case side4 => exact HC0_1.out); rintro e w10 ⟨v710, rfl, ho0, hb⟩; refine ⟨_, rfl, ?_⟩; have HO711 := zM (Kd.R_lower ho0 (below_size zB)); replace BK707 := zM (blk_below (g := gb707) (o := .cells #[.slice A0_0 l0_0.length c0_0, .slice A0_1 l0_1.length c0_1] 46 (0, 0)) (zK BK707.out) hb); replace HB := zM (below_step zB hb); (try clear hb); (try clear hb2); (try clear hk); (try clear hi); (try clear ho0)))
   go_ret2
   exact ⟨_, by first | rfl | (simp [errW_none, errW_some] <;> rfl) | (simp [*, errW_none, errW_some] <;> rfl), by (with_reducible repeat (first | apply Kd.R_alloc | apply Kd.R_drewN | apply Kd.R_drew)); exact HO711.out, zB⟩
 · replace c4 := Bool.eq_false_iff.mpr c4
   subst c4
   have H1 : (some ((([] : List Int)), false)) = some (r1, r2) := by rw [if_neg (show ¬ (false = true) by decide)] at H; exact H
   clear H
   have H := H1
   clear H1
   obtain ⟨y712, hy712⟩ : ∃ y_ : List Int, y_ = (([] : List Int)) := ⟨_, rfl⟩
   replace H : (some (y712, false)) = some (r1, r2) := by first | (rw [hy712]; with_reducible exact H) | (have H2_ := (Option.bind_some _ _).symm.trans H; rw [hy712]; with_reducible exact H2_) | (have H2_ := (Option.bind_some _ _).symm.trans H; with_reducible exact H2_) | with_reducible exact H | (rw [hy712]; exact H) | exact H
   have Ny712 := Aside0.mk hy712
   clear hy712
   simp only [Option.some.injEq, Prod.mk.injEq] at H
   obtain ⟨rfl, rfl⟩ := H
   go_enter Try.func38, Try.ntmps38
   go_wp2_with (first | ((with_reducible refine gate_dst (N := 2) rfl ?_); refine zb (w := w) 2 #[.slice A0_0 l0_0.length c0_0, .slice A0_1 l0_1.length c0_1] 46 zB ?_; clear HB; intro gb707 w11 HB BK707 GW707; have GE707 := GW707; have hcz12_0 := zy BK707 0; have hcz12_1 := zy BK707 1; have hfz12_0 := blk_frozen BK707.out 0; have hfz12_1 := blk_frozen BK707.out 1) | ((with_reducible refine gate_callee (f := 88) rfl ?_); refine zc 8 Try.func88 #[.agg #[.slice A0_0 l0_0.length c0_0, .slice A0_1 l0_1.length c0_1], .int .i64 a1] ?_; (with_reducible refine (spec_l2Place.calls k _ _ l0_0 _ _ l0_1 a1 false _ ?side1 ?side2 ?side3 ?side4 A3.out).mono ?_); (case side1 => exact zC (Kd.C_below HR0_0.out HB.out)); (case side2 => exact HC0_0.out); (case side3 => exact zC (Kd.C_below HR0_1.out HB.out)); (case side4 => exact HC0_1.out); rintro e w13 ⟨rfl, hb⟩; refine ⟨_, rfl, ?_⟩; replace BK707 := zM (blk_below (g := gb707) (o := .cells #[.slice A0_0 l0_0.length c0_0, .slice A0_1 l0_1.length c0_1] 46 (0, 0)) (zK BK707.out) hb); replace HB := zM (below_step zB hb); (try clear hb); (try clear hb2); (try clear hk); (try clear hi)) | ((with_reducible refine gate_dst (N := 10) rfl ?_); refine Kd.R_lit (Kd.int .i64) _ 3 ?hg (N := 10) ?hd (xs := ([] : List Int)) (inner := []) (ok := fun _ => True) (okp := fun _ => True) ?hr ?hp (fun _ hk => hk) trivial (Below.refl _ _) (Nat.le_refl _) (by simp) ?_; (case hd => rfl); (case hg => rfl); (case hr => first | (go_simp; done) | (go_simp; rfl)); (case hp => exact (Reps.none _ _)); intro v713 w14 ho15 hb hg_ hnew_; clear hg_ hnew_; (first | rw [← Ny712.out] at ho15 | (simp only [Int.reduceToNat] at ho15; rw [← Ny712.out] at ho15)); have HO714 := zM (Kd.R_lower ho15 (below_size zB)); replace BK707 := zM (blk_below (g := gb707) (o := .cells #[.slice A0_0 l0_0.length c0_0, .slice A0_1 l0_1.length c0_1] 46 (0, 0)) (zK BK707.out) hb); replace HB := zM (below_step zB hb); clear hb ho15))
   go_ret2
   exact ⟨_, by first | rfl | (simp [errW_none, errW_some] <;> rfl) | (simp [*, errW_none, errW_some] <;> rfl), by (with_reducible repeat (first | apply Kd.R_alloc | apply Kd.R_drewN | apply Kd.R_drew)); exact HO714.out, zB⟩

/-! ### impl_Space_isPlace: function 90 -/
def impl_Space_isPlace.f (l0_0 : List (List Int)) (l0_1 : List (S88)) (a1 : Int) : Option (Bool) := (impl_between.f a1 0 (wrap64 ((l0_0.length : Int) - 1))).bind fun t716 => (some t716)
set_option maxHeartbeats 8000000 in
set_option maxRecDepth 100000 in
theorem impl_Space_isPlace.calls (A0_0 : Option Addr) (c0_0 : Nat) (l0_0 : List (List Int)) (A0_1 : Option Addr) (c0_1 : Nat) (l0_1 : List (S88)) (a1 : Int) (r : Bool) (w : World) (hr0_0 : Kd.C (Kd.slice 3 (Kd.int .i64)) w A0_0 l0_0.length l0_0) (hc0_0 : l0_0.length ≤ c0_0) (hr0_1 : Kd.C k88 w A0_1 l0_1.length l0_1) (hc0_1 : l0_1.length ≤ c0_1) (h : impl_Space_isPlace.f l0_0 l0_1 a1 = some r) :
 Calls Try.prog 90 #[.agg #[.slice A0_0 l0_0.length c0_0, .slice A0_1 l0_1.length c0_1], .int .i64 a1] w fun e w' => e = .returned (.bool r) ∧ Below w.heap.size w w' := by
 have hu46 := Try.underlying46
 have HR0_0 := Aside0.mk hr0_0
 have HC0_0 := Aside0.mk hc0_0
 clear hr0_0 hc0_0
 have HR0_1 := Aside0.mk hr0_1
 have HC0_1 := Aside0.mk hc0_1
 clear hr0_1 hc0_1
 have HB := zM (Below.refl w.heap.size w)
 have H : ((impl_between.f a1 0 (wrap64 ((l0_0.length : Int) - 1))).bind fun t716 => (some t716)) = some r := h
 clear h
 replace H := Option.bind_eq_some_iff.mp H
 obtain ⟨t716, A30, H⟩ := H
 have A3 := Aside0.mk A30
 clear A30
 obtain rfl := Option.some.inj H
 go_enter Try.func90, Try.ntmps90
 go_wp2_with (first | ((with_reducible refine gate_dst (N := 2) rfl ?_); refine zb (w := w) 2 #[.slice A0_0 l0_0.length c0_0, .slice A0_1 l0_1.length c0_1] 46 zB ?_; clear HB; intro gb715 w4 HB BK715 GW715; have GE715 := GW715; have hcz5_0 := zy BK715 0; have hcz5_1 := zy BK715 1; have hfz5_0 := blk_frozen BK715.out 0; have hfz5_1 := blk_frozen BK715.out 1) | ((with_reducible refine gate_callee (f := 99) rfl ?_); refine zc 10 Try.func99 #[.int .i64 a1, .int .i64 0, .int .i64 (wrap64 ((l0_0.length : Int) - 1))] ?_; (with_reducible refine (impl_between.calls a1 0 (wrap64 ((l0_0.length : Int) - 1)) t716 _ A3.out).mono ?_); rintro e w' ⟨rfl, ⟨nd, rfl⟩⟩; refine ⟨_, rfl, ?_⟩))
 go_ret
 exact ⟨by first | rfl | (simp [errW_none, errW_some] <;> rfl) | (simp [*, errW_none, errW_some] <;> rfl), zB⟩

end Go.Proofs.Ytnlmijnbfdhdkaa.P
namespace Go.Proofs.Ytnlmijnbfdhdkaa.P
open Go.RowKit Go.Proofs.YtnlmijnbfdhdkaaW.PrintWords Go.Proofs.YtnlmijnbfdhdkaaW.PrintLast Go.Proofs.YtnlmijnbfdhdkaaW.PrintMore
attribute [local go_sem] max2_int min2_int max_two min_two max_three min_three max_four min_four   -- for this text's walks alone
set_option linter.unusedVariables false
set_option linter.unusedSimpArgs false

/-! ### slices_Compare_int_int: function 127 -/
def slices_Compare_int_int.l0 : Nat → List Int → List Int → List Int → Int → Int → Option (Int)
 | 0, _, _, _, _, _ => none
 | k + 1, x0, x1, x9, x10, x11 => if x11 < x10 then (if 0 ≤ x11 then (if x11 < (x9.length : Int) then (if x11 ≥ (x1.length : Int) then (some 1) else (if x11 < (x1.length : Int) then ((cmp_Compare_int.f (rd x9 x11) (rd x1 x11)).bind fun t586 => (if t586 = 0 then (slices_Compare_int_int.l0 k x0 x1 x9 x10 (wrap64 (x11 + 1))) else (some t586))) else (none))) else (none)) else (none)) else (if (x0.length : Int) < (x1.length : Int) then (some (-1)) else (some 0))
def slices_Compare_int_int.f (k : Nat) (l0 : List Int) (l1 : List Int) : Option (Int) := slices_Compare_int_int.l0 k l0 l1 l0 (l0.length : Int) 0
set_option maxHeartbeats 8000000 in
set_option maxRecDepth 100000 in
theorem slices_Compare_int_int.calls (k : Nat) (A0 : Option Addr) (c0 : Nat) (l0 : List Int) (A1 : Option Addr) (c1 : Nat) (l1 : List Int) (r : Int) (w : World) (hr0 : Kd.C (Kd.int .i64) w A0 l0.length l0) (hc0 : l0.length ≤ c0) (hr1 : Kd.C (Kd.int .i64) w A1 l1.length l1) (hc1 : l1.length ≤ c1) (h : slices_Compare_int_int.f k l0 l1 = some r) :
 Calls Try.prog 127 #[.slice A0 l0.length c0, .slice A1 l1.length c1] w fun e w' => e = .returned (.int .i64 r) ∧ Drawn0 w w' := by
 have HR0 := Aside0.mk hr0
 have HC0 := Aside0.mk hc0
 clear hr0 hc0
 have HR1 := Aside0.mk hr1
 have HC1 := Aside0.mk hc1
 clear hr1 hc1
 have H : (slices_Compare_int_int.l0 k l0 l1 l0 (l0.length : Int) 0) = some r := h
 clear h
 have H' := Aside0.mk H
 clear H
 go_enter Try.func127, Try.ntmps127
 go_wp2
 go_loopg [11] k (fun kq v11 w' => ∃ (x11_1 : Int), v11 = .int .i64 x11_1 ∧ Aside0 (slices_Compare_int_int.l0 kq l0 l1 l0 (l0.length : Int) x11_1 = some r) ∧ Aside0 (kq ≤ k) ∧ Drawn0 w w')
 case atStart => exact ⟨(0), (by first | rfl | (simp; done) | (simp [*]; done)), H', ⟨Nat.le_refl _⟩, by repeat (first | exact Drawn0.refl _ | apply Drawn0.step)⟩
 case round =>
  clear H'
  try clear c1
  try clear p2
  obtain ⟨x11_1, rfl, HA, HK1, ⟨m1, rfl⟩⟩ := hrel
  cases gk with
  | zero => exact absurd HA.out (by simp [slices_Compare_int_int.l0])
  | succ k1 =>
   have H := HA.out
   clear HA
   simp only [slices_Compare_int_int.l0] at H
   by_cases c3 : x11_1 < (l0.length : Int)
   · rw [if_pos c3] at H
     have c3b0 := decide_eq_true c3
     clear c3
     by_cases c4 : 0 ≤ x11_1
     · rw [if_pos c4] at H
       have c4b0 := decide_eq_true c4
       clear c4
       by_cases c5 : x11_1 < (l0.length : Int)
       · rw [if_pos c5] at H
         have c5b0 := decide_eq_true c5
         clear c5
         by_cases c6 : x11_1 ≥ (l1.length : Int)
         · rw [if_pos c6] at H
           have c6b0 : decide ((l1.length : Int) ≤ x11_1) = true := decide_eq_true c6
           clear c6
           obtain rfl := Option.some.inj H
           have p584 : 0 ≤ (x11_1 : Int) := of_decide_eq_true zA
           have q584 : x11_1 < (l0.length : Int) := of_decide_eq_true zA
           obtain ⟨ad584, e584, hx584_0⟩ := Kd.at_int HR0.out x11_1 p584 q584
           cases e584
           replace p584 := eq_true p584
           replace q584 := eq_true q584
           go_wp2
           go_ret
           exact ⟨by first | rfl | (simp; done) | (simp [*]; done), by repeat (first | exact Drawn0.refl _ | apply Drawn0.step)⟩
         · rw [if_neg c6] at H
           have c6b0 : decide ((l1.length : Int) ≤ x11_1) = false := decide_eq_false c6
           clear c6
           by_cases c7 : x11_1 < (l1.length : Int)
           · rw [if_pos c7] at H
             have c7b0 := decide_eq_true c7
             clear c7
             replace H := Option.bind_eq_some_iff.mp H
             obtain ⟨t586, A80, H⟩ := H
             have A8 := Aside0.mk A80
             clear A80
             by_cases c9 : t586 = 0
             · rw [if_pos c9] at H
               have c9b0 : (t586 == 0) = true := beq_iff_eq.mpr c9
               have c9b1 : (t586 != 0) = false := bne_eq_false_iff_eq.mpr c9
               clear c9
               have H' := Aside0.mk H
               clear H
               have p584 : 0 ≤ (x11_1 : Int) := of_decide_eq_true zA
               have q584 : x11_1 < (l0.length : Int) := of_decide_eq_true zA
               obtain ⟨ad584, e584, hx584_0⟩ := Kd.at_int HR0.out x11_1 p584 q584
               cases e584
               replace p584 := eq_true p584
               replace q584 := eq_true q584
               have p585 : 0 ≤ (x11_1 : Int) := of_decide_eq_true zA
               have q585 : x11_1 < (l1.length : Int) := of_decide_eq_true zA
               obtain ⟨ad585, e585, hx585_0⟩ := Kd.at_int HR1.out x11_1 p585 q585
               cases e585
               replace p585 := eq_true p585
               replace q585 := eq_true q585
               go_wp2_with (first | ((with_reducible refine gate_callee (f := 148) rfl ?_); refine zc 26 Try.func148 #[.int .i64 (rd l0 x11_1), .int .i64 (rd l1 x11_1)] ?_; (with_reducible refine (cmp_Compare_int.calls (rd l0 x11_1) (rd l1 x11_1) t586 _ A8.out).mono ?_); rintro e w' ⟨rfl, ⟨nd, rfl⟩⟩; refine ⟨_, rfl, ?_⟩))
               go_roundg k1
               case measure => have := HK1.out; omega
               case rel => exact ⟨(wrap64 (x11_1 + 1)), (by first | rfl | (simp; done) | (simp [*]; done)), H', ⟨by have := HK1.out; omega⟩, by repeat (first | exact Drawn0.refl _ | apply Drawn0.step)⟩
             · rw [if_neg c9] at H
               have c9b0 : (t586 == 0) = false := beq_eq_false_iff_ne.mpr c9
               have c9b1 : (t586 != 0) = true := bne_iff_ne.mpr c9
               obtain rfl := Option.some.inj H
               have p584 : 0 ≤ (x11_1 : Int) := of_decide_eq_true zA
               have q584 : x11_1 < (l0.length : Int) := of_decide_eq_true zA
               obtain ⟨ad584, e584, hx584_0⟩ := Kd.at_int HR0.out x11_1 p584 q584
               cases e584
               replace p584 := eq_true p584
               replace q584 := eq_true q584
               have p585 : 0 ≤ (x11_1 : Int) := of_decide_eq_true zA
               have q585 : x11_1 < (l1.length : Int) := of_decide_eq_true zA
               obtain ⟨ad585, e585, hx585_0⟩ := Kd.at_int HR1.out x11_1 p585 q585
               cases e585
               replace p585 := eq_true p585
               replace q585 := eq_true q585
               go_wp2_with (first | ((with_reducible refine gate_callee (f := 148) rfl ?_); refine zc 26 Try.func148 #[.int .i64 (rd l0 x11_1), .int .i64 (rd l1 x11_1)] ?_; (with_reducible refine (cmp_Compare_int.calls (rd l0 x11_1) (rd l1 x11_1) t586 _ A8.out).mono ?_); rintro e w' ⟨rfl, ⟨nd, rfl⟩⟩; refine ⟨_, rfl, ?_⟩))
               go_ret
               exact ⟨by first | rfl | (simp; done) | (simp [*]; done), by repeat (first | exact Drawn0.refl _ | apply Drawn0.step)⟩
           · rw [if_neg c7] at H
             exact absurd H (by simp)
       · rw [if_neg c5] at H
         exact absurd H (by simp)
     · rw [if_neg c4] at H
       exact absurd H (by simp)
   · rw [if_neg c3] at H
     have c3b0 : decide (x11_1 < (l0.length : Int)) = false := decide_eq_false c3
     clear c3
     by_cases c10 : (l0.length : Int) < (l1.length : Int)
     · rw [if_pos c10] at H
       have c10b0 := decide_eq_true c10
       have c10b1 : decide (l0.length < l1.length) = true := decide_eq_true (Int.ofNat_lt.mp c10)
       clear c10
       obtain rfl := Option.some.inj H
       go_wp2
       go_ret
       exact ⟨by first | rfl | (simp; done) | (simp [*]; done), by repeat (first | exact Drawn0.refl _ | apply Drawn0.step)⟩
     · rw [if_neg c10] at H
       have c10b0 : decide ((l0.length : Int) < (l1.length : Int)) = false := decide_eq_false c10
       have c10b1 : decide (l0.length < l1.length) = false := decide_eq_false (fun h => c10 (Int.ofNat_lt.mpr h))
       clear c10
       obtain rfl := Option.some.inj H
       go_wp2
       go_ret
       exact ⟨by first | rfl | (simp; done) | (simp [*]; done), by repeat (first | exact Drawn0.refl _ | apply Drawn0.step)⟩

end Go.Proofs.Ytnlmijnbfdhdkaa.P
namespace Go.Proofs.Ytnlmijnbfdhdkaa.P
open Go.RowKit Go.Proofs.YtnlmijnbfdhdkaaW.PrintWords Go.Proofs.YtnlmijnbfdhdkaaW.PrintLast Go.Proofs.YtnlmijnbfdhdkaaW.PrintMore
set_option linter.unusedVariables false
set_option linter.unusedSimpArgs false

/-- Not from -b to b. -/
def outB (b n : Int) : Bool := !(decide (-b ≤ n) && decide (n ≤ b))
set_option maxHeartbeats 1000000 in
theorem isState1_any (n : Int) (W : World) : Calls Try.prog 147 #[.int .i64 n] W fun e w' => e = .returned (.bool (outB 99 n)) ∧ Below W.heap.size W w' := by
  have e : outB 99 n = !(decide (-99 ≤ n) && decide (n ≤ 99)) := rfl
  rw [e]
  clear e
  by_cases h0 : -99 ≤ n
  · have h0b : decide (-99 ≤ n) = true := decide_eq_true h0
    have h0c : decide (n ≥ -99) = true := decide_eq_true h0
    clear h0
    go_enter Try.func147, Try.ntmps147
    go_wp2
    go_ret
    exact ⟨by first | rfl | simp [*], by repeat (first | exact Below.refl _ _ | apply below_alloc | apply pw_below_drewN | apply below_drew1)⟩
  · have h0b : decide (-99 ≤ n) = false := decide_eq_false h0
    have h0c : decide (n ≥ -99) = false := decide_eq_false h0
    clear h0
    go_enter Try.func147, Try.ntmps147
    go_wp2
    go_ret
    exact ⟨by first | rfl | simp [*], by repeat (first | exact Below.refl _ _ | apply below_alloc | apply pw_below_drewN | apply below_drew1)⟩
def impl_isState.f (l0 : List Int) : Option Bool := some (decide ((l0.length : Int) ≤ 24) && !(l0.any (outB 99)))
set_option maxHeartbeats 1000000 in
theorem impl_isState.calls (A0 : Option Addr) (c0 : Nat) (l0 : List Int) (r : Bool) (w : World) (hr0 : Kd.C (Kd.int .i64) w A0 l0.length l0) (hc0 : l0.length ≤ c0) (h : impl_isState.f l0 = some r) :
    Calls Try.prog 126 #[.slice A0 l0.length c0] w fun e w' => e = .returned (.bool r) ∧ Below w.heap.size w w' := by
  obtain rfl := Option.some.inj h
  clear h
  have HP := Aside0.mk (show PredB 147 #[] (Value.int .i64) (outB 99) l0 w from fun W x _ _ => isState1_any x W)
  have HR0 := Aside0.mk hr0
  clear hr0
  generalize hg : l0.any (outB 99) = b
  have HG := Aside0.mk hg
  clear hg
  by_cases h0 : (l0.length : Int) ≤ 24
  · have h0b : decide ((l0.length : Int) ≤ 24) = true := decide_eq_true h0
    have h0c : decide (l0.length ≤ 24) = true := decide_eq_true (by omega)
    rw [h0b]
    clear h0
    go_enter Try.func126, Try.ntmps126
    go_wp2_with (go_at_call 146; refine (cont_ints _ #[] (enters_of Try.func147 (by kernel_rfl) rfl) _ A0 c0 l0 _ HR0.out HP.out).mono ?_; rintro e w' ⟨rfl, hb⟩; rw [HG.out]; have HB := Aside0.mk hb; clear hb)
    go_ret
    exact ⟨by first | rfl | (simp; done), HB.out⟩
  · have h0b : decide ((l0.length : Int) ≤ 24) = false := decide_eq_false h0
    have h0c : decide (l0.length ≤ 24) = false := decide_eq_false (by omega)
    rw [h0b]
    clear h0
    go_enter Try.func126, Try.ntmps126
    go_wp2
    go_ret
    exact ⟨by first | rfl | (simp; done), Below.refl _ _⟩


end Go.Proofs.Ytnlmijnbfdhdkaa.P
