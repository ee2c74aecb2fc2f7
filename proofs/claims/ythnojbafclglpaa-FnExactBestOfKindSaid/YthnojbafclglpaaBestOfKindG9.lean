-- Written by a program of this session (the kit's print, turned: wip/print/patch.py) out of the translation. Not trusted: Lean checks it.
import Derived.Test.YthnojbafclglpaaBestOfKindG5
namespace Go.Proofs.Ythnojbafclglpaa.P
open Go.RowKit Go.Proofs.YthnojbafclglpaaW.PrintWords Go.Proofs.YthnojbafclglpaaW.PrintLast Go.Proofs.YthnojbafclglpaaW.PrintMore
attribute [local go_sem] max2_int min2_int max_two min_two max_three min_three max_four min_four   -- for this text's walks alone
set_option linter.unusedVariables false
set_option linter.unusedSimpArgs false

/-! ### spec_l2Bits: function 168 -/
def spec_l2Bits.l0 : Nat → Int → Int → List Int → Int → Option (List Int)
 | 0, _, _, _, _ => none
 | k + 1, x0, x1, x5, x6 => if x6 < x0 then (if 0 ≤ x6 then (if (Go.bits .and .i64 (shr .i64 x1 x6) 1) = 1 then (if x5.length < 17592186044416 then (spec_l2Bits.l0 k x0 x1 (x5 ++ [x6]) (wrap64 (x6 + 1))) else (none)) else (spec_l2Bits.l0 k x0 x1 x5 (wrap64 (x6 + 1)))) else (none)) else (some x5)
def spec_l2Bits.f (k : Nat) (a0 : Int) (a1 : Int) : Option (List Int) := spec_l2Bits.l0 k a0 a1 (([] : List Int)) 0
set_option maxHeartbeats 8000000 in
set_option maxRecDepth 100000 in
theorem spec_l2Bits.calls (k : Nat) (a0 : Int) (a1 : Int) (r : List Int) (w : World) (h : spec_l2Bits.f k a0 a1 = some r) :
 Calls Try.prog 168 #[.int .i64 a0, .int .i64 a1] w fun e w' => ∃ v0_ : Value, e = .returned (v0_) ∧ Kd.R (Kd.int .i64) 3 w' w.heap.size (fun _ => True) v0_ r ∧ Below w.heap.size w w' := by
 have HB := zM (Below.refl w.heap.size w)
 have H : (spec_l2Bits.l0 k a0 a1 (([] : List Int)) 0) = some r := h
 clear h
 obtain ⟨y457, hy457⟩ : ∃ y_ : List Int, y_ = (([] : List Int)) := ⟨_, rfl⟩
 replace H : (spec_l2Bits.l0 k a0 a1 y457 0) = some r := by first | (rw [hy457]; with_reducible exact H) | (have H2_ := (Option.bind_some _ _).symm.trans H; rw [hy457]; with_reducible exact H2_) | (have H2_ := (Option.bind_some _ _).symm.trans H; with_reducible exact H2_) | with_reducible exact H | (rw [hy457]; exact H) | exact H
 have Ny457 := Aside0.mk hy457
 clear hy457
 have H' := Aside0.mk H
 clear H
 go_enter Try.func168, Try.ntmps168
 go_wp2_with (first | ((with_reducible refine gate_dst (N := 7) rfl ?_); refine Kd.R_lit (Kd.int .i64) _ 3 ?hg (N := 7) ?hd (xs := ([] : List Int)) (inner := []) (ok := fun _ => True) (okp := fun _ => True) ?hr ?hp (fun _ hk => hk) trivial (Below.refl _ _) (Nat.le_refl _) (by simp) ?_; (case hd => rfl); (case hg => rfl); (case hr => first | (go_simp; done) | (go_simp; rfl)); (case hp => exact (Reps.none _ _)); intro v458 w3 ho4 hb hg_ hnew_; clear hg_ hnew_; (first | rw [← Ny457.out] at ho4 | (simp only [Int.reduceToNat] at ho4; rw [← Ny457.out] at ho4)); have HO459 := zM (Kd.R_lower ho4 (below_size zB)); replace HB := zM (below_step zB hb); clear hb ho4))
 go_loopg [5, 6] k (fun kq v5 v6 w' => ∃ (x5_1 : List Int) (x6_1 : Int), v6 = .int .i64 x6_1 ∧ Aside0 (spec_l2Bits.l0 kq a0 a1 x5_1 x6_1 = some r) ∧ Aside0 (kq ≤ k) ∧ Aside0 (Kd.R (Kd.int .i64) 3 w' w.heap.size (fun _ => True) v5 x5_1) ∧ Aside0 (Below w.heap.size w w'))
 case atStart => exact ⟨(y457), (0), (by first | rfl | (simp; done) | (simp [*]; done)), H', ⟨Nat.le_refl _⟩, ⟨zR HO459.out⟩, ⟨zB⟩⟩
 case round =>
  clear H'
  try clear c1
  try clear p2
  obtain ⟨x5_1, x6_1, rfl, HA, HK1, HO_5, HB⟩ := hrel
  cases gk with
  | zero => exact absurd HA.out (by simp [spec_l2Bits.l0])
  | succ k1 =>
   have H := HA.out
   clear HA
   simp only [spec_l2Bits.l0] at H
   by_cases c5 : x6_1 < a0
   · rw [if_pos c5] at H
     have c5b0 := decide_eq_true c5
     clear c5
     by_cases c6 : 0 ≤ x6_1
     · rw [if_pos c6] at H
       have c6b0 := eq_true c6
       have c6b1 : decide (0 ≤ x6_1) = true := decide_eq_true c6
       clear c6
       obtain ⟨ji7, hji7⟩ : ∃ j_ : Int, (shr .i64 a1 x6_1) = j_ := ⟨_, rfl⟩
       replace H : (if (Go.bits .and .i64 (ji7) 1) = 1 then (if x5_1.length < 17592186044416 then (spec_l2Bits.l0 k1 a0 a1 (x5_1 ++ [x6_1]) (wrap64 (x6_1 + 1))) else (none)) else (spec_l2Bits.l0 k1 a0 a1 x5_1 (wrap64 (x6_1 + 1)))) = some r := by first | (rw [hji7] at H; exact H) | (simp only [hji7] at H ⊢; exact H)
       have hji7_ : (a1 / 2 ^ min x6_1.toNat 64) = ji7 := hji7
       have hji7z : x6_1 ≤ 64 → (a1 / 2 ^ x6_1.toNat) = ji7 := shr_small hji7
       by_cases c8 : (Go.bits .and .i64 (ji7) 1) = 1
       · rw [if_pos c8] at H
         have c8b0 : ((Go.bits .and .i64 (ji7) 1) == 1) = true := beq_iff_eq.mpr c8
         have c8b1 : ((Go.bits .and .i64 (ji7) 1) != 1) = false := bne_eq_false_iff_eq.mpr c8
         clear c8
         by_cases c9 : x5_1.length < 17592186044416
         · rw [if_pos c9] at H
           have LMc9 := Aside0.mk c9
           clear c9
           obtain ⟨y460, hy460⟩ : ∃ y_ : List Int, y_ = (x5_1 ++ [x6_1]) := ⟨_, rfl⟩
           replace H : (spec_l2Bits.l0 k1 a0 a1 y460 (wrap64 (x6_1 + 1))) = some r := by first | (rw [hy460]; with_reducible exact H) | (have H2_ := (Option.bind_some _ _).symm.trans H; rw [hy460]; with_reducible exact H2_) | (have H2_ := (Option.bind_some _ _).symm.trans H; with_reducible exact H2_) | with_reducible exact H | (rw [hy460]; exact H) | exact H
           have Ny460 := Aside0.mk hy460
           clear hy460
           have H' := Aside0.mk H
           clear H
           go_wp2_with (first | ((with_reducible refine gate_builtin (b := .append) (xs := #[.tmp 18, .tmp 20]) rfl ?_); at_builtin; refine Kd.R_append (Kd.int .i64) (w0 := w) w.heap.size rfl (.tmp 18) (.tmp 20) 26 3 (.int .i64 0) 8 rfl Try.underlying26 info3 rfl (by decide) (by omega) u5 x5_1 x6_1 [.int .i64 x6_1] (fun _ => True) (fun _ => False) rfl rfl ?aP (fun _ hk => hk.elim) ?aF ?aO ?aB ?aS ?aL ?_; (case aP => exact rfl); (case aB => exact zB); (case aF => exact (fun _ _ => trivial)); (case aO => exact (zR HO_5.out)); (case aS => exact (below_size zB)); (case aL => have := LMc9.out; omega); intro v461 w10 ho hb hg hat; rw [← Ny460.out] at ho; replace HB := zM (hb); have HO462 := zM (ho); clear HO_5; clear ho hb hg hat))
           go_roundg k1
           case measure => have := HK1.out; omega
           case rel => exact ⟨(y460), (wrap64 (x6_1 + 1)), (by first | rfl | (simp; done) | (simp [*]; done)), H', ⟨by have := HK1.out; omega⟩, ⟨zR HO462.out⟩, ⟨zB⟩⟩
         · rw [if_neg c9] at H
           exact absurd H (by simp)
       · rw [if_neg c8] at H
         have c8b0 : ((Go.bits .and .i64 (ji7) 1) == 1) = false := beq_eq_false_iff_ne.mpr c8
         have c8b1 : ((Go.bits .and .i64 (ji7) 1) != 1) = true := bne_iff_ne.mpr c8
         have H' := Aside0.mk H
         clear H
         go_wp2
         go_roundg k1
         case measure => have := HK1.out; omega
         case rel => exact ⟨(x5_1), (wrap64 (x6_1 + 1)), (by first | rfl | (simp; done) | (simp [*]; done)), H', ⟨by have := HK1.out; omega⟩, ⟨zR HO_5.out⟩, ⟨zB⟩⟩
     · rw [if_neg c6] at H
       exact absurd H (by simp)
   · rw [if_neg c5] at H
     have c5b0 : decide (x6_1 < a0) = false := decide_eq_false c5
     clear c5
     obtain rfl := Option.some.inj H
     go_wp2
     go_ret
     exact ⟨_, by first | rfl | (simp [errW_none, errW_some] <;> rfl) | (simp [*, errW_none, errW_some] <;> rfl), by (with_reducible repeat (first | apply Kd.R_alloc | apply Kd.R_drewN | apply Kd.R_drew)); exact HO_5.out, zB⟩

/-! ### spec_l1Has: function 205 -/
def spec_l1Has.l0 : Nat → List Int → Int → Int → Option (Bool)
 | 0, _, _, _ => none
 | k + 1, x0, x1, x5 => if x5 < (x0.length : Int) then (if 0 ≤ x5 then (if (rd x0 x5) = x1 then (some true) else (spec_l1Has.l0 k x0 x1 (wrap64 (x5 + 1)))) else (none)) else (some false)
def spec_l1Has.f (k : Nat) (l0 : List Int) (a1 : Int) : Option (Bool) := spec_l1Has.l0 k l0 a1 0
set_option maxHeartbeats 8000000 in
set_option maxRecDepth 100000 in
theorem spec_l1Has.calls (k : Nat) (A0 : Option Addr) (c0 : Nat) (l0 : List Int) (a1 : Int) (r : Bool) (w : World) (hr0 : Kd.C (Kd.int .i64) w A0 l0.length l0) (hc0 : l0.length ≤ c0) (h : spec_l1Has.f k l0 a1 = some r) :
 Calls Try.prog 205 #[.slice A0 l0.length c0, .int .i64 a1] w fun e w' => e = .returned (.bool r) ∧ Drawn0 w w' := by
 have HR0 := Aside0.mk hr0
 have HC0 := Aside0.mk hc0
 clear hr0 hc0
 have H : (spec_l1Has.l0 k l0 a1 0) = some r := h
 clear h
 have H' := Aside0.mk H
 clear H
 go_enter Try.func205, Try.ntmps205
 go_wp2
 go_loopg [5] k (fun kq v5 w' => ∃ (x5_1 : Int), v5 = .int .i64 x5_1 ∧ Aside0 (spec_l1Has.l0 kq l0 a1 x5_1 = some r) ∧ Aside0 (kq ≤ k) ∧ Drawn0 w w')
 case atStart => exact ⟨(0), (by first | rfl | (simp; done) | (simp [*]; done)), H', ⟨Nat.le_refl _⟩, by repeat (first | exact Drawn0.refl _ | apply Drawn0.step)⟩
 case round =>
  clear H'
  try clear c2
  try clear p2
  obtain ⟨x5_1, rfl, HA, HK1, ⟨m1, rfl⟩⟩ := hrel
  cases gk with
  | zero => exact absurd HA.out (by simp [spec_l1Has.l0])
  | succ k1 =>
   have H := HA.out
   clear HA
   simp only [spec_l1Has.l0] at H
   by_cases c3 : x5_1 < (l0.length : Int)
   · rw [if_pos c3] at H
     have c3b0 := decide_eq_true c3
     clear c3
     by_cases c4 : 0 ≤ x5_1
     · rw [if_pos c4] at H
       have c4b0 := decide_eq_true c4
       clear c4
       by_cases c5 : (rd l0 x5_1) = a1
       · rw [if_pos c5] at H
         have c5b0 : ((rd l0 x5_1) == a1) = true := beq_iff_eq.mpr c5
         have c5b1 : ((rd l0 x5_1) != a1) = false := bne_eq_false_iff_eq.mpr c5
         clear c5
         obtain rfl := Option.some.inj H
         have p463 : 0 ≤ (x5_1 : Int) := of_decide_eq_true zA
         have q463 : x5_1 < (l0.length : Int) := of_decide_eq_true zA
         obtain ⟨ad463, e463, hx463_0⟩ := Kd.at_int HR0.out x5_1 p463 q463
         cases e463
         replace p463 := eq_true p463
         replace q463 := eq_true q463
         go_wp2
         go_ret
         exact ⟨by first | rfl | (simp; done) | (simp [*]; done), by repeat (first | exact Drawn0.refl _ | apply Drawn0.step)⟩
       · rw [if_neg c5] at H
         have c5b0 : ((rd l0 x5_1) == a1) = false := beq_eq_false_iff_ne.mpr c5
         have c5b1 : ((rd l0 x5_1) != a1) = true := bne_iff_ne.mpr c5
         have H' := Aside0.mk H
         clear H
         have p463 : 0 ≤ (x5_1 : Int) := of_decide_eq_true zA
         have q463 : x5_1 < (l0.length : Int) := of_decide_eq_true zA
         obtain ⟨ad463, e463, hx463_0⟩ := Kd.at_int HR0.out x5_1 p463 q463
         cases e463
         replace p463 := eq_true p463
         replace q463 := eq_true q463
         go_wp2
         go_roundg k1
         case measure => have := HK1.out; omega
         case rel => exact ⟨(wrap64 (x5_1 + 1)), (by first | rfl | (simp; done) | (simp [*]; done)), H', ⟨by have := HK1.out; omega⟩, by repeat (first | exact Drawn0.refl _ | apply Drawn0.step)⟩
     · rw [if_neg c4] at H
       exact absurd H (by simp)
   · rw [if_neg c3] at H
     have c3b0 : decide (x5_1 < (l0.length : Int)) = false := decide_eq_false c3
     clear c3
     obtain rfl := Option.some.inj H
     go_wp2
     go_ret
     exact ⟨by first | rfl | (simp; done) | (simp [*]; done), by repeat (first | exact Drawn0.refl _ | apply Drawn0.step)⟩

/-! ### spec_l2Near: function 206 -/
def spec_l2Near.l0 : Nat → Int → Int → Int → Int → List (S64) → Option (Bool)
 | 0, _, _, _, _, _ => none
 | k + 1, x1, x2, x7, x465000, x465001 => if x7 < (x465001.length : Int) then (if 0 ≤ x7 then (if ((rd_T64 x465001 x7).f0) = x1 then (if ((rd_T64 x465001 x7).f1) = x2 then (some true) else (if ((rd_T64 x465001 x7).f0) = x2 then (if ((rd_T64 x465001 x7).f1) = x1 then (some true) else (spec_l2Near.l0 k x1 x2 (wrap64 (x7 + 1)) x465000 x465001)) else (spec_l2Near.l0 k x1 x2 (wrap64 (x7 + 1)) x465000 x465001))) else (if ((rd_T64 x465001 x7).f0) = x2 then (if ((rd_T64 x465001 x7).f1) = x1 then (some true) else (spec_l2Near.l0 k x1 x2 (wrap64 (x7 + 1)) x465000 x465001)) else (spec_l2Near.l0 k x1 x2 (wrap64 (x7 + 1)) x465000 x465001))) else (none)) else (some false)
def spec_l2Near.f (k : Nat) (a0_0 : Int) (l0_1 : List (S64)) (a1 : Int) (a2 : Int) : Option (Bool) := spec_l2Near.l0 k a1 a2 0 a0_0 l0_1
set_option maxHeartbeats 8000000 in
set_option maxRecDepth 100000 in
theorem spec_l2Near.calls (k : Nat) (a0_0 : Int) (A0_1 : Option Addr) (c0_1 : Nat) (l0_1 : List (S64)) (a1 : Int) (a2 : Int) (r : Bool) (w : World) (hr0_1 : Kd.C k64 w A0_1 l0_1.length l0_1) (hc0_1 : l0_1.length ≤ c0_1) (h : spec_l2Near.f k a0_0 l0_1 a1 a2 = some r) :
 Calls Try.prog 206 #[.agg #[.int .i64 a0_0, .slice A0_1 l0_1.length c0_1], .int .i64 a1, .int .i64 a2] w fun e w' => e = .returned (.bool r) ∧ Below w.heap.size w w' := by
 have hu43 := Try.underlying43
 have hu64 := Try.underlying64
 have HR0_1 := Aside0.mk hr0_1
 have HC0_1 := Aside0.mk hc0_1
 clear hr0_1 hc0_1
 have HB := zM (Below.refl w.heap.size w)
 have H : (spec_l2Near.l0 k a1 a2 0 a0_0 l0_1) = some r := h
 clear h
 have H' := Aside0.mk H
 clear H
 go_enter Try.func206, Try.ntmps206
 go_wp2_with (first | ((with_reducible refine gate_dst (N := 3) rfl ?_); refine zb (w := w) 3 #[.int .i64 a0_0, .slice A0_1 l0_1.length c0_1] 43 zB ?_; clear HB; intro gb464 w4 HB BK464 GW464; have GE464 := GW464))
 go_loopg [7] k (fun kq v7 w' => ∃ (x7_1 : Int), v7 = .int .i64 x7_1 ∧ Aside0 (spec_l2Near.l0 kq a1 a2 x7_1 a0_0 l0_1 = some r) ∧ Aside0 (kq ≤ k) ∧ Aside0 (w'.heap[gb464]? = some (.cells #[.int .i64 a0_0, (.slice A0_1 l0_1.length c0_1)] 43 (0, 0))) ∧ Aside0 (Below w.heap.size w w'))
 case atStart => exact ⟨(0), (by first | rfl | (simp; done) | (simp [*]; done)), H', ⟨Nat.le_refl _⟩, ⟨zK BK464.out⟩, ⟨zB⟩⟩
 case round =>
  clear H'
  try clear c2
  try clear p2
  obtain ⟨x7_1, rfl, HA, HK1, BK464, HB⟩ := hrel
  cases gk with
  | zero => exact absurd HA.out (by simp [spec_l2Near.l0])
  | succ k1 =>
   have H := HA.out
   clear HA
   simp only [spec_l2Near.l0] at H
   by_cases c5 : x7_1 < (l0_1.length : Int)
   · rw [if_pos c5] at H
     have c5b0 := decide_eq_true c5
     clear c5
     by_cases c6 : 0 ≤ x7_1
     · rw [if_pos c6] at H
       have c6b0 := decide_eq_true c6
       clear c6
       by_cases c7 : ((rd_T64 l0_1 x7_1).f0) = a1
       · rw [if_pos c7] at H
         have c7b0 : (((rd_T64 l0_1 x7_1).f0) == a1) = true := beq_iff_eq.mpr c7
         have c7b1 : (((rd_T64 l0_1 x7_1).f0) != a1) = false := bne_eq_false_iff_eq.mpr c7
         clear c7
         by_cases c8 : ((rd_T64 l0_1 x7_1).f1) = a2
         · rw [if_pos c8] at H
           have c8b0 : (((rd_T64 l0_1 x7_1).f1) == a2) = true := beq_iff_eq.mpr c8
           have c8b1 : (((rd_T64 l0_1 x7_1).f1) != a2) = false := bne_eq_false_iff_eq.mpr c8
           clear c8
           obtain rfl := Option.some.inj H
           have hcz9_0 := zy BK464 0
           have hcz9_1 := zy BK464 1
           have hfz9_0 := blk_frozen BK464.out 0
           have hfz9_1 := blk_frozen BK464.out 1
           have p465 : 0 ≤ (x7_1 : Int) := of_decide_eq_true zA
           have q465 : x7_1 < (l0_1.length : Int) := of_decide_eq_true zA
           obtain ⟨ad465, e465, hx465_0, hx465_1⟩ := at_T64 HR0_1.out x7_1 p465 q465
           cases e465
           (try replace hx465_0 := (HB.out.cell (World.block_lt_of_cell? w _ hx465_0)).trans hx465_0)
           (try replace hx465_1 := (HB.out.cell (World.block_lt_of_cell? w _ hx465_1)).trans hx465_1)
           replace p465 := eq_true p465
           replace q465 := eq_true q465
           go_wp2_with (first | ((with_reducible refine gate_dst (N := 8) rfl ?_); refine ze 8 #[.int .i64 0, .int .i64 0] 64 ?_; intro gb466 hg w10 hbox hb; have BK466 := zM (hbox); have GW466 := zM ((by rw [hg]; exact (below_size zB) : w.heap.size ≤ gb466)); have GE466 := zM ((by rw [hg]; exact (below_size zB) : w.heap.size ≤ gb466)); replace HB := zM (below_step zB hb); have NB464_466 := zM ((by rw [hg]; exact Nat.ne_of_lt (blk_lt (g := gb464) (o := .cells #[.int .i64 a0_0, .slice (some ad465) l0_1.length c0_1] 43 (0, 0)) (zK BK464.out)) : gb464 ≠ gb466)); have NB466_464 := zM ((by rw [hg]; exact Nat.ne_of_gt (blk_lt (g := gb464) (o := .cells #[.int .i64 a0_0, .slice (some ad465) l0_1.length c0_1] 43 (0, 0)) (zK BK464.out)) : gb466 ≠ gb464)); replace BK464 := zM (blk_below (g := gb464) (o := .cells #[.int .i64 a0_0, .slice (some ad465) l0_1.length c0_1] 43 (0, 0)) (zK BK464.out) hb); clear hb hbox hg; have hnb11 := NB466_464.out; have hnc11 := NB464_466.out; have hcz12_0 := zy BK466 0; have hcz12_1 := zy BK466 1; have hfz12_0 := blk_frozen BK466.out 0; have hfz12_1 := blk_frozen BK466.out 1))
           go_ret
           exact ⟨by first | rfl | (simp [errW_none, errW_some] <;> rfl) | (simp [*, errW_none, errW_some] <;> rfl), zB⟩
         · rw [if_neg c8] at H
           have c8b0 : (((rd_T64 l0_1 x7_1).f1) == a2) = false := beq_eq_false_iff_ne.mpr c8
           have c8b1 : (((rd_T64 l0_1 x7_1).f1) != a2) = true := bne_iff_ne.mpr c8
           by_cases c13 : ((rd_T64 l0_1 x7_1).f0) = a2
           · rw [if_pos c13] at H
             have c13b0 : (((rd_T64 l0_1 x7_1).f0) == a2) = true := beq_iff_eq.mpr c13
             have c13b1 : (((rd_T64 l0_1 x7_1).f0) != a2) = false := bne_eq_false_iff_eq.mpr c13
             clear c13
             by_cases c14 : ((rd_T64 l0_1 x7_1).f1) = a1
             · rw [if_pos c14] at H
               have c14b0 : (((rd_T64 l0_1 x7_1).f1) == a1) = true := beq_iff_eq.mpr c14
               have c14b1 : (((rd_T64 l0_1 x7_1).f1) != a1) = false := bne_eq_false_iff_eq.mpr c14
               clear c14
               obtain rfl := Option.some.inj H
               have hcz15_0 := zy BK464 0
               have hcz15_1 := zy BK464 1
               have hfz15_0 := blk_frozen BK464.out 0
               have hfz15_1 := blk_frozen BK464.out 1
               have p465 : 0 ≤ (x7_1 : Int) := of_decide_eq_true zA
               have q465 : x7_1 < (l0_1.length : Int) := of_decide_eq_true zA
               obtain ⟨ad465, e465, hx465_0, hx465_1⟩ := at_T64 HR0_1.out x7_1 p465 q465
               cases e465
               (try replace hx465_0 := (HB.out.cell (World.block_lt_of_cell? w _ hx465_0)).trans hx465_0)
               (try replace hx465_1 := (HB.out.cell (World.block_lt_of_cell? w _ hx465_1)).trans hx465_1)
               replace p465 := eq_true p465
               replace q465 := eq_true q465
               go_wp2_with (first | ((with_reducible refine gate_dst (N := 8) rfl ?_); refine ze 8 #[.int .i64 0, .int .i64 0] 64 ?_; intro gb466 hg w16 hbox hb; have BK466 := zM (hbox); have GW466 := zM ((by rw [hg]; exact (below_size zB) : w.heap.size ≤ gb466)); have GE466 := zM ((by rw [hg]; exact (below_size zB) : w.heap.size ≤ gb466)); replace HB := zM (below_step zB hb); have NB464_466 := zM ((by rw [hg]; exact Nat.ne_of_lt (blk_lt (g := gb464) (o := .cells #[.int .i64 a0_0, .slice (some ad465) l0_1.length c0_1] 43 (0, 0)) (zK BK464.out)) : gb464 ≠ gb466)); have NB466_464 := zM ((by rw [hg]; exact Nat.ne_of_gt (blk_lt (g := gb464) (o := .cells #[.int .i64 a0_0, .slice (some ad465) l0_1.length c0_1] 43 (0, 0)) (zK BK464.out)) : gb466 ≠ gb464)); replace BK464 := zM (blk_below (g := gb464) (o := .cells #[.int .i64 a0_0, .slice (some ad465) l0_1.length c0_1] 43 (0, 0)) (zK BK464.out) hb); clear hb hbox hg; have hnb17 := NB466_464.out; have hnc17 := NB464_466.out; have hcz18_0 := zy BK466 0; have hcz18_1 := zy BK466 1; have hfz18_0 := blk_frozen BK466.out 0; have hfz18_1 := blk_frozen BK466.out 1))
               go_ret
               exact ⟨by first | rfl | (simp [errW_none, errW_some] <;> rfl) | (simp [*, errW_none, errW_some] <;> rfl), zB⟩
             · rw [if_neg c14] at H
               have c14b0 : (((rd_T64 l0_1 x7_1).f1) == a1) = false := beq_eq_false_iff_ne.mpr c14
               have c14b1 : (((rd_T64 l0_1 x7_1).f1) != a1) = true := bne_iff_ne.mpr c14
               have H' := Aside0.mk H
               clear H
               have hcz19_0 := zy BK464 0
               have hcz19_1 := zy BK464 1
               have hfz19_0 := blk_frozen BK464.out 0
               have hfz19_1 := blk_frozen BK464.out 1
               have p465 : 0 ≤ (x7_1 : Int) := of_decide_eq_true zA
               have q465 : x7_1 < (l0_1.length : Int) := of_decide_eq_true zA
               obtain ⟨ad465, e465, hx465_0, hx465_1⟩ := at_T64 HR0_1.out x7_1 p465 q465
               cases e465
               (try replace hx465_0 := (HB.out.cell (World.block_lt_of_cell? w _ hx465_0)).trans hx465_0)
               (try replace hx465_1 := (HB.out.cell (World.block_lt_of_cell? w _ hx465_1)).trans hx465_1)
               replace p465 := eq_true p465
               replace q465 := eq_true q465
               go_wp2_with (first | ((with_reducible refine gate_dst (N := 8) rfl ?_); refine ze 8 #[.int .i64 0, .int .i64 0] 64 ?_; intro gb466 hg w20 hbox hb; have BK466 := zM (hbox); have GW466 := zM ((by rw [hg]; exact (below_size zB) : w.heap.size ≤ gb466)); have GE466 := zM ((by rw [hg]; exact (below_size zB) : w.heap.size ≤ gb466)); replace HB := zM (below_step zB hb); have NB464_466 := zM ((by rw [hg]; exact Nat.ne_of_lt (blk_lt (g := gb464) (o := .cells #[.int .i64 a0_0, .slice (some ad465) l0_1.length c0_1] 43 (0, 0)) (zK BK464.out)) : gb464 ≠ gb466)); have NB466_464 := zM ((by rw [hg]; exact Nat.ne_of_gt (blk_lt (g := gb464) (o := .cells #[.int .i64 a0_0, .slice (some ad465) l0_1.length c0_1] 43 (0, 0)) (zK BK464.out)) : gb466 ≠ gb464)); replace BK464 := zM (blk_below (g := gb464) (o := .cells #[.int .i64 a0_0, .slice (some ad465) l0_1.length c0_1] 43 (0, 0)) (zK BK464.out) hb); clear hb hbox hg; have hnb21 := NB466_464.out; have hnc21 := NB464_466.out; have hcz22_0 := zy BK466 0; have hcz22_1 := zy BK466 1; have hfz22_0 := blk_frozen BK466.out 0; have hfz22_1 := blk_frozen BK466.out 1))
               go_roundg k1
               case measure => have := HK1.out; omega
               case rel => exact ⟨(wrap64 (x7_1 + 1)), (by first | rfl | (simp; done) | (simp [*]; done)), H', ⟨by have := HK1.out; omega⟩, ⟨by (with_reducible repeat (first | refine blk_drewN ?_ _ | refine blk_drew ?_ | refine blk_alloc ?_ _)); refine blk_far ?_ NB464_466.out _; (with_reducible repeat (first | refine blk_drewN ?_ _ | refine blk_drew ?_ | refine blk_alloc ?_ _)); refine blk_far ?_ NB464_466.out _; (with_reducible repeat (first | refine blk_drewN ?_ _ | refine blk_drew ?_ | refine blk_alloc ?_ _)); exact BK464.out⟩, ⟨zB⟩⟩
           · rw [if_neg c13] at H
             have c13b0 : (((rd_T64 l0_1 x7_1).f0) == a2) = false := beq_eq_false_iff_ne.mpr c13
             have c13b1 : (((rd_T64 l0_1 x7_1).f0) != a2) = true := bne_iff_ne.mpr c13
             have H' := Aside0.mk H
             clear H
             have hcz23_0 := zy BK464 0
             have hcz23_1 := zy BK464 1
             have hfz23_0 := blk_frozen BK464.out 0
             have hfz23_1 := blk_frozen BK464.out 1
             have p465 : 0 ≤ (x7_1 : Int) := of_decide_eq_true zA
             have q465 : x7_1 < (l0_1.length : Int) := of_decide_eq_true zA
             obtain ⟨ad465, e465, hx465_0, hx465_1⟩ := at_T64 HR0_1.out x7_1 p465 q465
             cases e465
             (try replace hx465_0 := (HB.out.cell (World.block_lt_of_cell? w _ hx465_0)).trans hx465_0)
             (try replace hx465_1 := (HB.out.cell (World.block_lt_of_cell? w _ hx465_1)).trans hx465_1)
             replace p465 := eq_true p465
             replace q465 := eq_true q465
             go_wp2_with (first | ((with_reducible refine gate_dst (N := 8) rfl ?_); refine ze 8 #[.int .i64 0, .int .i64 0] 64 ?_; intro gb466 hg w24 hbox hb; have BK466 := zM (hbox); have GW466 := zM ((by rw [hg]; exact (below_size zB) : w.heap.size ≤ gb466)); have GE466 := zM ((by rw [hg]; exact (below_size zB) : w.heap.size ≤ gb466)); replace HB := zM (below_step zB hb); have NB464_466 := zM ((by rw [hg]; exact Nat.ne_of_lt (blk_lt (g := gb464) (o := .cells #[.int .i64 a0_0, .slice (some ad465) l0_1.length c0_1] 43 (0, 0)) (zK BK464.out)) : gb464 ≠ gb466)); have NB466_464 := zM ((by rw [hg]; exact Nat.ne_of_gt (blk_lt (g := gb464) (o := .cells #[.int .i64 a0_0, .slice (some ad465) l0_1.length c0_1] 43 (0, 0)) (zK BK464.out)) : gb466 ≠ gb464)); replace BK464 := zM (blk_below (g := gb464) (o := .cells #[.int .i64 a0_0, .slice (some ad465) l0_1.length c0_1] 43 (0, 0)) (zK BK464.out) hb); clear hb hbox hg; have hnb25 := NB466_464.out; have hnc25 := NB464_466.out; have hcz26_0 := zy BK466 0; have hcz26_1 := zy BK466 1; have hfz26_0 := blk_frozen BK466.out 0; have hfz26_1 := blk_frozen BK466.out 1))
             go_roundg k1
             case measure => have := HK1.out; omega
             case rel => exact ⟨(wrap64 (x7_1 + 1)), (by first | rfl | (simp; done) | (simp [*]; done)), H', ⟨by have := HK1.out; omega⟩, ⟨by (with_reducible repeat (first | refine blk_drewN ?_ _ | refine blk_drew ?_ | refine blk_alloc ?_ _)); refine blk_far ?_ NB464_466.out _; (with_reducible repeat (first | refine blk_drewN ?_ _ | refine blk_drew ?_ | refine blk_alloc ?_ _)); refine blk_far ?_ NB464_466.out _; (with_reducible repeat (first | refine blk_drewN ?_ _ | refine blk_drew ?_ | refine blk_alloc ?_ _)); exact BK464.out⟩, ⟨zB⟩⟩
       · rw [if_neg c7] at H
         have c7b0 : (((rd_T64 l0_1 x7_1).f0) == a1) = false := beq_eq_false_iff_ne.mpr c7
         have c7b1 : (((rd_T64 l0_1 x7_1).f0) != a1) = true := bne_iff_ne.mpr c7
         by_cases c27 : ((rd_T64 l0_1 x7_1).f0) = a2
         · rw [if_pos c27] at H
           have c27b0 : (((rd_T64 l0_1 x7_1).f0) == a2) = true := beq_iff_eq.mpr c27
           have c27b1 : (((rd_T64 l0_1 x7_1).f0) != a2) = false := bne_eq_false_iff_eq.mpr c27
           clear c27
           by_cases c28 : ((rd_T64 l0_1 x7_1).f1) = a1
           · rw [if_pos c28] at H
             have c28b0 : (((rd_T64 l0_1 x7_1).f1) == a1) = true := beq_iff_eq.mpr c28
             have c28b1 : (((rd_T64 l0_1 x7_1).f1) != a1) = false := bne_eq_false_iff_eq.mpr c28
             clear c28
             obtain rfl := Option.some.inj H
             have hcz29_0 := zy BK464 0
             have hcz29_1 := zy BK464 1
             have hfz29_0 := blk_frozen BK464.out 0
             have hfz29_1 := blk_frozen BK464.out 1
             have p465 : 0 ≤ (x7_1 : Int) := of_decide_eq_true zA
             have q465 : x7_1 < (l0_1.length : Int) := of_decide_eq_true zA
             obtain ⟨ad465, e465, hx465_0, hx465_1⟩ := at_T64 HR0_1.out x7_1 p465 q465
             cases e465
             (try replace hx465_0 := (HB.out.cell (World.block_lt_of_cell? w _ hx465_0)).trans hx465_0)
             (try replace hx465_1 := (HB.out.cell (World.block_lt_of_cell? w _ hx465_1)).trans hx465_1)
             replace p465 := eq_true p465
             replace q465 := eq_true q465
             go_wp2_with (first | ((with_reducible refine gate_dst (N := 8) rfl ?_); refine ze 8 #[.int .i64 0, .int .i64 0] 64 ?_; intro gb466 hg w30 hbox hb; have BK466 := zM (hbox); have GW466 := zM ((by rw [hg]; exact (below_size zB) : w.heap.size ≤ gb466)); have GE466 := zM ((by rw [hg]; exact (below_size zB) : w.heap.size ≤ gb466)); replace HB := zM (below_step zB hb); have NB464_466 := zM ((by rw [hg]; exact Nat.ne_of_lt (blk_lt (g := gb464) (o := .cells #[.int .i64 a0_0, .slice (some ad465) l0_1.length c0_1] 43 (0, 0)) (zK BK464.out)) : gb464 ≠ gb466)); have NB466_464 := zM ((by rw [hg]; exact Nat.ne_of_gt (blk_lt (g := gb464) (o := .cells #[.int .i64 a0_0, .slice (some ad465) l0_1.length c0_1] 43 (0, 0)) (zK BK464.out)) : gb466 ≠ gb464)); replace BK464 := zM (blk_below (g := gb464) (o := .cells #[.int .i64 a0_0, .slice (some ad465) l0_1.length c0_1] 43 (0, 0)) (zK BK464.out) hb); clear hb hbox hg; have hnb31 := NB466_464.out; have hnc31 := NB464_466.out; have hcz32_0 := zy BK466 0; have hcz32_1 := zy BK466 1; have hfz32_0 := blk_frozen BK466.out 0; have hfz32_1 := blk_frozen BK466.out 1))
             go_ret
             exact ⟨by first | rfl | (simp [errW_none, errW_some] <;> rfl) | (simp [*, errW_none, errW_some] <;> rfl), zB⟩
           · rw [if_neg c28] at H
             have c28b0 : (((rd_T64 l0_1 x7_1).f1) == a1) = false := beq_eq_false_iff_ne.mpr c28
             have c28b1 : (((rd_T64 l0_1 x7_1).f1) != a1) = true := bne_iff_ne.mpr c28
             have H' := Aside0.mk H
             clear H
             have hcz33_0 := zy BK464 0
             have hcz33_1 := zy BK464 1
             have hfz33_0 := blk_frozen BK464.out 0
             have hfz33_1 := blk_frozen BK464.out 1
             have p465 : 0 ≤ (x7_1 : Int) := of_decide_eq_true zA
             have q465 : x7_1 < (l0_1.length : Int) := of_decide_eq_true zA
             obtain ⟨ad465, e465, hx465_0, hx465_1⟩ := at_T64 HR0_1.out x7_1 p465 q465
             cases e465
             (try replace hx465_0 := (HB.out.cell (World.block_lt_of_cell? w _ hx465_0)).trans hx465_0)
             (try replace hx465_1 := (HB.out.cell (World.block_lt_of_cell? w _ hx465_1)).trans hx465_1)
             replace p465 := eq_true p465
             replace q465 := eq_true q465
             go_wp2_with (first | ((with_reducible refine gate_dst (N := 8) rfl ?_); refine ze 8 #[.int .i64 0, .int .i64 0] 64 ?_; intro gb466 hg w34 hbox hb; have BK466 := zM (hbox); have GW466 := zM ((by rw [hg]; exact (below_size zB) : w.heap.size ≤ gb466)); have GE466 := zM ((by rw [hg]; exact (below_size zB) : w.heap.size ≤ gb466)); replace HB := zM (below_step zB hb); have NB464_466 := zM ((by rw [hg]; exact Nat.ne_of_lt (blk_lt (g := gb464) (o := .cells #[.int .i64 a0_0, .slice (some ad465) l0_1.length c0_1] 43 (0, 0)) (zK BK464.out)) : gb464 ≠ gb466)); have NB466_464 := zM ((by rw [hg]; exact Nat.ne_of_gt (blk_lt (g := gb464) (o := .cells #[.int .i64 a0_0, .slice (some ad465) l0_1.length c0_1] 43 (0, 0)) (zK BK464.out)) : gb466 ≠ gb464)); replace BK464 := zM (blk_below (g := gb464) (o := .cells #[.int .i64 a0_0, .slice (some ad465) l0_1.length c0_1] 43 (0, 0)) (zK BK464.out) hb); clear hb hbox hg; have hnb35 := NB466_464.out; have hnc35 := NB464_466.out; have hcz36_0 := zy BK466 0; have hcz36_1 := zy BK466 1; have hfz36_0 := blk_frozen BK466.out 0; have hfz36_1 := blk_frozen BK466.out 1))
             go_roundg k1
             case measure => have := HK1.out; omega
             case rel => exact ⟨(wrap64 (x7_1 + 1)), (by first | rfl | (simp; done) | (simp [*]; done)), H', ⟨by have := HK1.out; omega⟩, ⟨by (with_reducible repeat (first | refine blk_drewN ?_ _ | refine blk_drew ?_ | refine blk_alloc ?_ _)); refine blk_far ?_ NB464_466.out _; (with_reducible repeat (first | refine blk_drewN ?_ _ | refine blk_drew ?_ | refine blk_alloc ?_ _)); refine blk_far ?_ NB464_466.out _; (with_reducible repeat (first | refine blk_drewN ?_ _ | refine blk_drew ?_ | refine blk_alloc ?_ _)); exact BK464.out⟩, ⟨zB⟩⟩
         · rw [if_neg c27] at H
           have c27b0 : (((rd_T64 l0_1 x7_1).f0) == a2) = false := beq_eq_false_iff_ne.mpr c27
           have c27b1 : (((rd_T64 l0_1 x7_1).f0) != a2) = true := bne_iff_ne.mpr c27
           have H' := Aside0.mk H
           clear H
           have hcz37_0 := zy BK464 0
           have hcz37_1 := zy BK464 1
           have hfz37_0 := blk_frozen BK464.out 0
           have hfz37_1 := blk_frozen BK464.out 1
           have p465 : 0 ≤ (x7_1 : Int) := of_decide_eq_true zA
           have q465 : x7_1 < (l0_1.length : Int) := of_decide_eq_true zA
           obtain ⟨ad465, e465, hx465_0, hx465_1⟩ := at_T64 HR0_1.out x7_1 p465 q465
           cases e465
           (try replace hx465_0 := (HB.out.cell (World.block_lt_of_cell? w _ hx465_0)).trans hx465_0)
           (try replace hx465_1 := (HB.out.cell (World.block_lt_of_cell? w _ hx465_1)).trans hx465_1)
           replace p465 := eq_true p465
           replace q465 := eq_true q465
           go_wp2_with (first | ((with_reducible refine gate_dst (N := 8) rfl ?_); refine ze 8 #[.int .i64 0, .int .i64 0] 64 ?_; intro gb466 hg w38 hbox hb; have BK466 := zM (hbox); have GW466 := zM ((by rw [hg]; exact (below_size zB) : w.heap.size ≤ gb466)); have GE466 := zM ((by rw [hg]; exact (below_size zB) : w.heap.size ≤ gb466)); replace HB := zM (below_step zB hb); have NB464_466 := zM ((by rw [hg]; exact Nat.ne_of_lt (blk_lt (g := gb464) (o := .cells #[.int .i64 a0_0, .slice (some ad465) l0_1.length c0_1] 43 (0, 0)) (zK BK464.out)) : gb464 ≠ gb466)); have NB466_464 := zM ((by rw [hg]; exact Nat.ne_of_gt (blk_lt (g := gb464) (o := .cells #[.int .i64 a0_0, .slice (some ad465) l0_1.length c0_1] 43 (0, 0)) (zK BK464.out)) : gb466 ≠ gb464)); replace BK464 := zM (blk_below (g := gb464) (o := .cells #[.int .i64 a0_0, .slice (some ad465) l0_1.length c0_1] 43 (0, 0)) (zK BK464.out) hb); clear hb hbox hg; have hnb39 := NB466_464.out; have hnc39 := NB464_466.out; have hcz40_0 := zy BK466 0; have hcz40_1 := zy BK466 1; have hfz40_0 := blk_frozen BK466.out 0; have hfz40_1 := blk_frozen BK466.out 1))
           go_roundg k1
           case measure => have := HK1.out; omega
           case rel => exact ⟨(wrap64 (x7_1 + 1)), (by first | rfl | (simp; done) | (simp [*]; done)), H', ⟨by have := HK1.out; omega⟩, ⟨by (with_reducible repeat (first | refine blk_drewN ?_ _ | refine blk_drew ?_ | refine blk_alloc ?_ _)); refine blk_far ?_ NB464_466.out _; (with_reducible repeat (first | refine blk_drewN ?_ _ | refine blk_drew ?_ | refine blk_alloc ?_ _)); refine blk_far ?_ NB464_466.out _; (with_reducible repeat (first | refine blk_drewN ?_ _ | refine blk_drew ?_ | refine blk_alloc ?_ _)); exact BK464.out⟩, ⟨zB⟩⟩
     · rw [if_neg c6] at H
       exact absurd H (by simp)
   · rw [if_neg c5] at H
     have c5b0 : decide (x7_1 < (l0_1.length : Int)) = false := decide_eq_false c5
     clear c5
     obtain rfl := Option.some.inj H
     have hcz41_0 := zy BK464 0
     have hcz41_1 := zy BK464 1
     have hfz41_0 := blk_frozen BK464.out 0
     have hfz41_1 := blk_frozen BK464.out 1
     go_wp2
     go_ret
     exact ⟨by first | rfl | (simp [errW_none, errW_some] <;> rfl) | (simp [*, errW_none, errW_some] <;> rfl), zB⟩

end Go.Proofs.Ythnojbafclglpaa.P
