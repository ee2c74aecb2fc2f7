-- Written by a program of this session (the kit's print, turned: wip/print/patch.py) out of the translation. Not trusted: Lean checks it.
import Derived.Test.YtadjbmcfgjmhkaaGreatStuckSetsG5
import Derived.Test.YtadjbmcfgjmhkaaGreatStuckSetsG8
import Derived.Test.YtadjbmcfgjmhkaaGreatStuckSetsG10
import Derived.Test.YtadjbmcfgjmhkaaGreatStuckSetsG9
namespace Go.Proofs.YtadjbmcfgjmhkaaGreat.P
open Go.RowKit Go.Proofs.YtadjbmcfgjmhkaaGreatW.PrintWords Go.Proofs.YtadjbmcfgjmhkaaGreatW.PrintLast Go.Proofs.YtadjbmcfgjmhkaaGreatW.PrintMore
attribute [local go_sem] max2_int min2_int max_two min_two max_three min_three max_four min_four   -- for this text's walks alone
set_option linter.unusedVariables false
set_option linter.unusedSimpArgs false

/-! ### impl_bagOf: function 74 -/
def impl_bagOf.l0 : Nat → Int → List Int → Int → Int → Option (Int)
 | 0, _, _, _, _ => none
 | k + 1, x3, x6, x7, x8 => if x8 < x7 then (if 0 ≤ x8 then (if x8 < (x6.length : Int) then (if 0 ≤ (rd x6 x8) then (impl_bagOf.l0 k (Go.bits .or .u64 x3 (shl .u64 1 (rd x6 x8))) x6 x7 (wrap64 (x8 + 1))) else (none)) else (none)) else (none)) else (some x3)
def impl_bagOf.f (k : Nat) (l0 : List Int) : Option (Int) := impl_bagOf.l0 k 0 l0 (l0.length : Int) 0
set_option maxHeartbeats 8000000 in
set_option maxRecDepth 100000 in
theorem impl_bagOf.calls (k : Nat) (A0 : Option Addr) (c0 : Nat) (l0 : List Int) (r : Int) (w : World) (hr0 : Kd.C (Kd.int .i64) w A0 l0.length l0) (hc0 : l0.length ≤ c0) (h : impl_bagOf.f k l0 = some r) :
 Calls Tryz.prog 74 #[.slice A0 l0.length c0] w fun e w' => e = .returned (.int .u64 r) ∧ Drawn0 w w' := by
 have HR0 := Aside0.mk hr0
 have HC0 := Aside0.mk hc0
 clear hr0 hc0
 have H : (impl_bagOf.l0 k 0 l0 (l0.length : Int) 0) = some r := h
 clear h
 have H' := Aside0.mk H
 clear H
 go_enter Tryz.func74, Tryz.ntmps74
 go_wp2
 go_loopg [3, 8] k (fun kq v3 v8 w' => ∃ (x3_1 : Int) (x8_1 : Int), v3 = .int .u64 x3_1 ∧ v8 = .int .i64 x8_1 ∧ Aside0 (impl_bagOf.l0 kq x3_1 l0 (l0.length : Int) x8_1 = some r) ∧ Aside0 (kq ≤ k) ∧ Drawn0 w w')
 case atStart => exact ⟨(0), (0), (by first | rfl | (simp; done) | (simp [*]; done)), (by first | rfl | (simp; done) | (simp [*]; done)), H', ⟨Nat.le_refl _⟩, by repeat (first | exact Drawn0.refl _ | apply Drawn0.step)⟩
 case round =>
  clear H'
  obtain ⟨x3_1, x8_1, rfl, rfl, HA, HK1, ⟨m1, rfl⟩⟩ := hrel
  cases gk with
  | zero => exact absurd HA.out (by simp [impl_bagOf.l0])
  | succ k1 =>
   have H := HA.out
   clear HA
   simp only [impl_bagOf.l0] at H
   by_cases c2 : x8_1 < (l0.length : Int)
   · rw [if_pos c2] at H
     have c2b0 := decide_eq_true c2
     clear c2
     by_cases c3 : 0 ≤ x8_1
     · rw [if_pos c3] at H
       have c3b0 := decide_eq_true c3
       clear c3
       by_cases c4 : x8_1 < (l0.length : Int)
       · rw [if_pos c4] at H
         have c4b0 := decide_eq_true c4
         clear c4
         by_cases c5 : 0 ≤ (rd l0 x8_1)
         · rw [if_pos c5] at H
           have c5b0 := eq_true c5
           have c5b1 : decide (0 ≤ (rd l0 x8_1)) = true := decide_eq_true c5
           clear c5
           obtain ⟨ji6, hji6⟩ : ∃ j_ : Int, (shl .u64 1 (rd l0 x8_1)) = j_ := ⟨_, rfl⟩
           replace H : (impl_bagOf.l0 k1 (Go.bits .or .u64 x3_1 (ji6)) l0 (l0.length : Int) (wrap64 (x8_1 + 1))) = some r := by first | (rw [hji6] at H; exact H) | (simp only [hji6] at H ⊢; exact H)
           have hji6_ : (IntKind.u64.wrap (1 * 2 ^ min (rd l0 x8_1).toNat 64)) = ji6 := hji6
           have hji6z : (rd l0 x8_1) ≤ 64 → (IntKind.u64.wrap (1 * 2 ^ (rd l0 x8_1).toNat)) = ji6 := shl_small hji6
           have hji6u : (IntKind.u64.wrap (2 ^ min (rd l0 x8_1).toNat 64)) = ji6 := by have h_ := hji6_; rw [Int.one_mul] at h_; exact h_
           have hji6v : (rd l0 x8_1) ≤ 64 → (IntKind.u64.wrap (2 ^ (rd l0 x8_1).toNat)) = ji6 := fun hle_ => by have h_ := hji6z hle_; rw [Int.one_mul] at h_; exact h_
           have H' := Aside0.mk H
           clear H
           have p264 : 0 ≤ (x8_1 : Int) := of_decide_eq_true zA
           have q264 : x8_1 < (l0.length : Int) := of_decide_eq_true zA
           obtain ⟨ad264, e264, hx264_0⟩ := Kd.at_int HR0.out x8_1 p264 q264
           cases e264
           replace p264 := eq_true p264
           replace q264 := eq_true q264
           go_wp2
           go_roundg k1
           case measure => have := HK1.out; omega
           case rel => exact ⟨(Go.bits .or .u64 x3_1 (ji6)), (wrap64 (x8_1 + 1)), (by first | rfl | (simp; done) | (simp only [← hji6] <;> (first | rfl | simp)) | (simp [*]; done)), (by first | rfl | (simp; done) | (simp [*]; done)), H', ⟨by have := HK1.out; omega⟩, by repeat (first | exact Drawn0.refl _ | apply Drawn0.step)⟩
         · rw [if_neg c5] at H
           exact absurd H (by simp)
       · rw [if_neg c4] at H
         exact absurd H (by simp)
     · rw [if_neg c3] at H
       exact absurd H (by simp)
   · rw [if_neg c2] at H
     have c2b0 : decide (x8_1 < (l0.length : Int)) = false := decide_eq_false c2
     clear c2
     obtain rfl := Option.some.inj H
     go_wp2
     go_ret
     exact ⟨by first | rfl | (simp; done) | (simp [*]; done), by repeat (first | exact Drawn0.refl _ | apply Drawn0.step)⟩

/-! ### spec_l1Has: function 95 -/
def spec_l1Has.l0 : Nat → List Int → Int → Int → Option (Bool)
 | 0, _, _, _ => none
 | k + 1, x0, x1, x5 => if x5 < (x0.length : Int) then (if 0 ≤ x5 then (if (rd x0 x5) = x1 then (some true) else (spec_l1Has.l0 k x0 x1 (wrap64 (x5 + 1)))) else (none)) else (some false)
def spec_l1Has.f (k : Nat) (l0 : List Int) (a1 : Int) : Option (Bool) := spec_l1Has.l0 k l0 a1 0
set_option maxHeartbeats 8000000 in
set_option maxRecDepth 100000 in
theorem spec_l1Has.calls (k : Nat) (A0 : Option Addr) (c0 : Nat) (l0 : List Int) (a1 : Int) (r : Bool) (w : World) (hr0 : Kd.C (Kd.int .i64) w A0 l0.length l0) (hc0 : l0.length ≤ c0) (h : spec_l1Has.f k l0 a1 = some r) :
 Calls Tryz.prog 95 #[.slice A0 l0.length c0, .int .i64 a1] w fun e w' => e = .returned (.bool r) ∧ Drawn0 w w' := by
 have HR0 := Aside0.mk hr0
 have HC0 := Aside0.mk hc0
 clear hr0 hc0
 have H : (spec_l1Has.l0 k l0 a1 0) = some r := h
 clear h
 have H' := Aside0.mk H
 clear H
 go_enter Tryz.func95, Tryz.ntmps95
 go_wp2
 go_loopg [5] k (fun kq v5 w' => ∃ (x5_1 : Int), v5 = .int .i64 x5_1 ∧ Aside0 (spec_l1Has.l0 kq l0 a1 x5_1 = some r) ∧ Aside0 (kq ≤ k) ∧ Drawn0 w w')
 case atStart => exact ⟨(0), (by first | rfl | (simp; done) | (simp [*]; done)), H', ⟨Nat.le_refl _⟩, by repeat (first | exact Drawn0.refl _ | apply Drawn0.step)⟩
 case round =>
  clear H'
  try clear p2
  obtain ⟨x5_1, rfl, HA, HK1, ⟨m1, rfl⟩⟩ := hrel
  cases gk with
  | zero => exact absurd HA.out (by simp [spec_l1Has.l0])
  | succ k1 =>
   have H := HA.out
   clear HA
   simp only [spec_l1Has.l0] at H
   by_cases c3 : x5_1 < (l0.length : Int)
   · rw [if_pos c3] at H
     have c3b0 := decide_eq_true c3
     clear c3
     by_cases c4 : 0 ≤ x5_1
     · rw [if_pos c4] at H
       have c4b0 := decide_eq_true c4
       clear c4
       by_cases c5 : (rd l0 x5_1) = a1
       · rw [if_pos c5] at H
         have c5b0 : ((rd l0 x5_1) == a1) = true := beq_iff_eq.mpr c5
         have c5b1 : ((rd l0 x5_1) != a1) = false := bne_eq_false_iff_eq.mpr c5
         clear c5
         obtain rfl := Option.some.inj H
         have p265 : 0 ≤ (x5_1 : Int) := of_decide_eq_true zA
         have q265 : x5_1 < (l0.length : Int) := of_decide_eq_true zA
         obtain ⟨ad265, e265, hx265_0⟩ := Kd.at_int HR0.out x5_1 p265 q265
         cases e265
         replace p265 := eq_true p265
         replace q265 := eq_true q265
         go_wp2
         go_ret
         exact ⟨by first | rfl | (simp; done) | (simp [*]; done), by repeat (first | exact Drawn0.refl _ | apply Drawn0.step)⟩
       · rw [if_neg c5] at H
         have c5b0 : ((rd l0 x5_1) == a1) = false := beq_eq_false_iff_ne.mpr c5
         have c5b1 : ((rd l0 x5_1) != a1) = true := bne_iff_ne.mpr c5
         have H' := Aside0.mk H
         clear H
         have p265 : 0 ≤ (x5_1 : Int) := of_decide_eq_true zA
         have q265 : x5_1 < (l0.length : Int) := of_decide_eq_true zA
         obtain ⟨ad265, e265, hx265_0⟩ := Kd.at_int HR0.out x5_1 p265 q265
         cases e265
         replace p265 := eq_true p265
         replace q265 := eq_true q265
         go_wp2
         go_roundg k1
         case measure => have := HK1.out; omega
         case rel => exact ⟨(wrap64 (x5_1 + 1)), (by first | rfl | (simp; done) | (simp [*]; done)), H', ⟨by have := HK1.out; omega⟩, by repeat (first | exact Drawn0.refl _ | apply Drawn0.step)⟩
     · rw [if_neg c4] at H
       exact absurd H (by simp)
   · rw [if_neg c3] at H
     have c3b0 : decide (x5_1 < (l0.length : Int)) = false := decide_eq_false c3
     clear c3
     obtain rfl := Option.some.inj H
     go_wp2
     go_ret
     exact ⟨by first | rfl | (simp; done) | (simp [*]; done), by repeat (first | exact Drawn0.refl _ | apply Drawn0.step)⟩

end Go.Proofs.YtadjbmcfgjmhkaaGreat.P
namespace Go.Proofs.YtadjbmcfgjmhkaaGreat.P
open Go.RowKit Go.Proofs.YtadjbmcfgjmhkaaGreatW.PrintWords Go.Proofs.YtadjbmcfgjmhkaaGreatW.PrintLast Go.Proofs.YtadjbmcfgjmhkaaGreatW.PrintMore
attribute [local go_sem] max2_int min2_int max_two min_two max_three min_three max_four min_four   -- for this text's walks alone
set_option linter.unusedVariables false
set_option linter.unusedSimpArgs false

/-! ### spec_l3Walk: function 32 -/
/-! ### spec_l3Only: function 73 -/
def spec_l3Only.l0 : Nat → List Int → List Int → List Int → Int → Option (List Int)
 | 0, _, _, _, _ => none
 | k + 1, x0, x1, x5, x6 => if x6 < (x0.length : Int) then (if 0 ≤ x6 then ((spec_l1Has.f k x1 (rd x0 x6)).bind fun t408 => (if t408 = true then (spec_l3Only.l0 k x0 x1 x5 (wrap64 (x6 + 1))) else (if x5.length < 17592186044416 then (spec_l3Only.l0 k x0 x1 (x5 ++ [rd x0 x6]) (wrap64 (x6 + 1))) else (none)))) else (none)) else (some x5)
def spec_l3Only.f (k : Nat) (l0 : List Int) (l1 : List Int) : Option (List Int) := spec_l3Only.l0 k l0 l1 (([] : List Int)) 0
set_option maxHeartbeats 8000000 in
set_option maxRecDepth 100000 in
theorem spec_l3Only.calls (k : Nat) (A0 : Option Addr) (c0 : Nat) (l0 : List Int) (A1 : Option Addr) (c1 : Nat) (l1 : List Int) (r : List Int) (w : World) (hr0 : Kd.C (Kd.int .i64) w A0 l0.length l0) (hc0 : l0.length ≤ c0) (hr1 : Kd.C (Kd.int .i64) w A1 l1.length l1) (hc1 : l1.length ≤ c1) (h : spec_l3Only.f k l0 l1 = some r) :
 Calls Tryz.prog 73 #[.slice A0 l0.length c0, .slice A1 l1.length c1] w fun e w' => ∃ v0_ : Value, e = .returned (v0_) ∧ Kd.R (Kd.int .i64) 3 w' w.heap.size (fun _ => True) v0_ r ∧ Below w.heap.size w w' := by
 have HR0 := Aside0.mk hr0
 have HC0 := Aside0.mk hc0
 clear hr0 hc0
 have HR1 := Aside0.mk hr1
 have HC1 := Aside0.mk hc1
 clear hr1 hc1
 have HB := zM (Below.refl w.heap.size w)
 have H : (spec_l3Only.l0 k l0 l1 (([] : List Int)) 0) = some r := h
 clear h
 obtain ⟨y404, hy404⟩ : ∃ y_ : List Int, y_ = (([] : List Int)) := ⟨_, rfl⟩
 replace H : (spec_l3Only.l0 k l0 l1 y404 0) = some r := by first | (rw [hy404]; with_reducible exact H) | (have H2_ := (Option.bind_some _ _).symm.trans H; rw [hy404]; with_reducible exact H2_) | (have H2_ := (Option.bind_some _ _).symm.trans H; with_reducible exact H2_) | with_reducible exact H | (rw [hy404]; exact H) | exact H
 have Ny404 := Aside0.mk hy404
 clear hy404
 have H' := Aside0.mk H
 clear H
 go_enter Tryz.func73, Tryz.ntmps73
 go_wp2_with (first | ((with_reducible refine gate_dst (N := 7) rfl ?_); refine Kd.R_lit (Kd.int .i64) _ 3 ?hg (N := 7) ?hd (xs := ([] : List Int)) (inner := []) (ok := fun _ => True) (okp := fun _ => True) ?hr ?hp (fun _ hk => hk) trivial (Below.refl _ _) (Nat.le_refl _) (by simp) ?_; (case hd => rfl); (case hg => rfl); (case hr => first | (go_simp; done) | (go_simp; rfl)); (case hp => exact (Reps.none _ _)); intro v405 w3 ho4 hb hg_ hnew_; clear hg_ hnew_; (first | rw [← Ny404.out] at ho4 | (simp only [Int.reduceToNat] at ho4; rw [← Ny404.out] at ho4)); have HO406 := zM (Kd.R_lower ho4 (below_size zB)); replace HB := zM (below_step zB hb); clear hb ho4))
 go_loopg [5, 6] k (fun kq v5 v6 w' => ∃ (x5_1 : List Int) (x6_1 : Int), v6 = .int .i64 x6_1 ∧ Aside0 (spec_l3Only.l0 kq l0 l1 x5_1 x6_1 = some r) ∧ Aside0 (kq ≤ k) ∧ Aside0 (Kd.R (Kd.int .i64) 3 w' w.heap.size (fun _ => True) v5 x5_1) ∧ Aside0 (Below w.heap.size w w'))
 case atStart => exact ⟨(y404), (0), (by first | rfl | (simp; done) | (simp [*]; done)), H', ⟨Nat.le_refl _⟩, ⟨zR HO406.out⟩, ⟨zB⟩⟩
 case round =>
  clear H'
  try clear c1
  try clear p2
  obtain ⟨x5_1, x6_1, rfl, HA, HK1, HO_5, HB⟩ := hrel
  cases gk with
  | zero => exact absurd HA.out (by simp [spec_l3Only.l0])
  | succ k1 =>
   have H := HA.out
   clear HA
   simp only [spec_l3Only.l0] at H
   by_cases c5 : x6_1 < (l0.length : Int)
   · rw [if_pos c5] at H
     have c5b0 := decide_eq_true c5
     clear c5
     by_cases c6 : 0 ≤ x6_1
     · rw [if_pos c6] at H
       have c6b0 := decide_eq_true c6
       clear c6
       replace H := Option.bind_eq_some_iff.mp H
       obtain ⟨t408, A70, H⟩ := H
       have A7 := Aside0.mk A70
       clear A70
       by_cases c8 : t408 = true
       · subst c8
         rw [if_pos rfl] at H
         have H' := Aside0.mk H
         clear H
         have p407 : 0 ≤ (x6_1 : Int) := of_decide_eq_true zA
         have q407 : x6_1 < (l0.length : Int) := of_decide_eq_true zA
         obtain ⟨ad407, e407, hx407_0⟩ := Kd.at_int HR0.out x6_1 p407 q407
         cases e407
         (try replace hx407_0 := (HB.out.cell (World.block_lt_of_cell? w _ hx407_0)).trans hx407_0)
         replace p407 := eq_true p407
         replace q407 := eq_true q407
         go_wp2_with (first | ((with_reducible refine gate_callee (f := 95) rfl ?_); refine zc 19 Tryz.func95 #[.slice A1 l1.length c1, .int .i64 (rd l0 x6_1)] ?_; (with_reducible refine (spec_l1Has.calls k1 _ _ l1 (rd l0 x6_1) true _ ?side1 ?side2 A7.out).mono ?_); (case side1 => exact zC (Kd.C_below HR1.out HB.out)); (case side2 => exact HC1.out); rintro e w' ⟨rfl, ⟨nd, rfl⟩⟩; refine ⟨_, rfl, ?_⟩))
         go_roundg k1
         case measure => have := HK1.out; omega
         case rel => exact ⟨(x5_1), (wrap64 (x6_1 + 1)), (by first | rfl | (simp; done) | (simp [*]; done)), H', ⟨by have := HK1.out; omega⟩, ⟨zR HO_5.out⟩, ⟨zB⟩⟩
       · replace c8 := Bool.eq_false_iff.mpr c8
         subst c8
         have H1 : (if x5_1.length < 17592186044416 then (spec_l3Only.l0 k1 l0 l1 (x5_1 ++ [rd l0 x6_1]) (wrap64 (x6_1 + 1))) else (none)) = some r := by rw [if_neg (show ¬ (false = true) by decide)] at H; exact H
         clear H
         have H := H1
         clear H1
         by_cases c9 : x5_1.length < 17592186044416
         · rw [if_pos c9] at H
           have LMc9 := Aside0.mk c9
           clear c9
           obtain ⟨y410, hy410⟩ : ∃ y_ : List Int, y_ = (x5_1 ++ [rd l0 x6_1]) := ⟨_, rfl⟩
           replace H : (spec_l3Only.l0 k1 l0 l1 y410 (wrap64 (x6_1 + 1))) = some r := by first | (rw [hy410]; with_reducible exact H) | (have H2_ := (Option.bind_some _ _).symm.trans H; rw [hy410]; with_reducible exact H2_) | (have H2_ := (Option.bind_some _ _).symm.trans H; with_reducible exact H2_) | with_reducible exact H | (rw [hy410]; exact H) | exact H
           have Ny410 := Aside0.mk hy410
           clear hy410
           have H' := Aside0.mk H
           clear H
           have p407 : 0 ≤ (x6_1 : Int) := of_decide_eq_true zA
           have q407 : x6_1 < (l0.length : Int) := of_decide_eq_true zA
           obtain ⟨ad407, e407, hx407_0⟩ := Kd.at_int HR0.out x6_1 p407 q407
           cases e407
           (try replace hx407_0 := (HB.out.cell (World.block_lt_of_cell? w _ hx407_0)).trans hx407_0)
           replace p407 := eq_true p407
           replace q407 := eq_true q407
           go_wp2_with (first | ((with_reducible refine gate_callee (f := 95) rfl ?_); refine zc 19 Tryz.func95 #[.slice A1 l1.length c1, .int .i64 (rd l0 x6_1)] ?_; (with_reducible refine (spec_l1Has.calls k1 _ _ l1 (rd l0 x6_1) false _ ?side1 ?side2 A7.out).mono ?_); (case side1 => exact zC (Kd.C_below HR1.out HB.out)); (case side2 => exact HC1.out); rintro e w' ⟨rfl, ⟨nd, rfl⟩⟩; refine ⟨_, rfl, ?_⟩; have p409 : 0 ≤ (x6_1 : Int) := of_decide_eq_true zA; have q409 : x6_1 < (l0.length : Int) := of_decide_eq_true zA; obtain ⟨ad409, e409, hx409_0⟩ := Kd.at_int HR0.out x6_1 p409 q409; obtain rfl : ad407 = ad409 := (by injection e409); (try replace hx409_0 := (HB.out.cell (World.block_lt_of_cell? w _ hx409_0)).trans hx409_0); replace p409 := eq_true p409; replace q409 := eq_true q409) | ((with_reducible refine gate_builtin (b := .append) (xs := #[.tmp 21, .tmp 26]) rfl ?_); at_builtin; refine Kd.R_append (Kd.int .i64) (w0 := w) w.heap.size rfl (.tmp 21) (.tmp 26) 25 3 (.int .i64 0) 8 rfl Tryz.underlying25 info3 rfl (by decide) (by omega) u5 x5_1 (rd l0 x6_1) [.int .i64 (rd l0 x6_1)] (fun _ => True) (fun _ => False) rfl rfl ?aP (fun _ hk => hk.elim) ?aF ?aO ?aB ?aS ?aL ?_; (case aP => exact rfl); (case aB => exact zB); (case aF => exact (fun _ _ => trivial)); (case aO => exact (zR HO_5.out)); (case aS => exact (below_size zB)); (case aL => have := LMc9.out; omega); intro v411 w10 ho hb hg hat; rw [← Ny410.out] at ho; replace HB := zM (hb); have HO412 := zM (ho); clear HO_5; clear ho hb hg hat))
           go_roundg k1
           case measure => have := HK1.out; omega
           case rel => exact ⟨(y410), (wrap64 (x6_1 + 1)), (by first | rfl | (simp; done) | (simp [*]; done)), H', ⟨by have := HK1.out; omega⟩, ⟨zR HO412.out⟩, ⟨zB⟩⟩
         · rw [if_neg c9] at H
           exact absurd H (by simp)
     · rw [if_neg c6] at H
       exact absurd H (by simp)
   · rw [if_neg c5] at H
     have c5b0 : decide (x6_1 < (l0.length : Int)) = false := decide_eq_false c5
     clear c5
     obtain rfl := Option.some.inj H
     go_wp2
     go_ret
     exact ⟨_, by first | rfl | (simp [errW_none, errW_some] <;> rfl) | (simp [*, errW_none, errW_some] <;> rfl), by (with_reducible repeat (first | apply Kd.R_alloc | apply Kd.R_drewN | apply Kd.R_drew)); exact HO_5.out, zB⟩

end Go.Proofs.YtadjbmcfgjmhkaaGreat.P
namespace Go.Proofs.YtadjbmcfgjmhkaaGreat.P
open Go.RowKit Go.Proofs.YtadjbmcfgjmhkaaGreatW.PrintWords Go.Proofs.YtadjbmcfgjmhkaaGreatW.PrintLast Go.Proofs.YtadjbmcfgjmhkaaGreatW.PrintMore
attribute [local go_sem] max2_int min2_int max_two min_two max_three min_three max_four min_four   -- for this text's walks alone
set_option linter.unusedVariables false
set_option linter.unusedSimpArgs false

def spec_l3Step.f (k : Nat) (a0_0 : Int) (l0_1 : List (S69)) (a1 : Int) (l2 : List Int) (l3 : List Int) : Option (Bool) := (spec_l3Only.f k l2 l3).bind fun t414 => ((spec_l3Only.f k l3 l2).bind fun t417 => (if a1 = 2 then (some ((wrap64 ((t414.length : Int) + (t417.length : Int))) == 1)) else (if (t414.length : Int) = 1 then (if (t417.length : Int) = 1 then (if a1 = 1 then (some true) else (if 0 < (t414.length : Int) then (if 0 < (t417.length : Int) then ((spec_l2Near.f k a0_0 l0_1 (rd t414 0) (rd t417 0)).bind fun t422 => (some t422)) else (none)) else (none))) else (some false)) else (some false))))
def spec_l3Step.T4 : Bool × List (List Nat × List Nat) := (true, [([], []), ([0], [0]), ([1], [1]), ([2], [2]), ([3], [3]), ([4, 3], [3, 4]), ([5, 3], [3, 5]), ([3, 6], [3, 6]), ([7, 3], [7]), ([8], [8]), ([9, 8], [8, 9]), ([10, 8, 8], [8, 10]), ([11], [11]), ([11], [11]), ([13, 11], [11, 13]), ([14, 11], [11, 14]), ([11], [11]), ([16, 11], [11, 16]), ([17, 11], [11, 17]), ([12, 15, 18, 11, 11], [11, 12, 15, 18]), ([11, 19, 8], [8, 11, 19]), ([8, 20], [8, 20]), ([21, 19, 0, 1, 2, 3, 4, 5, 6, 7, 8, 9, 10, 11, 12, 13, 14, 15, 16, 17, 18, 19, 20, 21], [21])])
def spec_l3Step.B4 : List Nat := [0, 1, 3, 7, 15, 31, 63, 127, 255, 511, 1023, 2047, 4095, 4095, 12287, 28671, 4095, 69631, 200703, 524287, 1048575, 2097151, 4194303]
theorem spec_l3Step.tab4 : rtab .any (opsOf Tryz.f54 4) = spec_l3Step.T4 := by kernel_rfl
theorem spec_l3Step.bits4 : waitsOk spec_l3Step.T4.2 spec_l3Step.B4 = true := by kernel_rfl
set_option maxHeartbeats 8000000 in
set_option maxRecDepth 100000 in
theorem spec_l3Step.calls (k : Nat) (a0_0 : Int) (A0_1 : Option Addr) (c0_1 : Nat) (l0_1 : List (S69)) (a1 : Int) (A2 : Option Addr) (c2 : Nat) (l2 : List Int) (A3 : Option Addr) (c3 : Nat) (l3 : List Int) (r : Bool) (w : World) (hr0_1 : Kd.C k69 w A0_1 l0_1.length l0_1) (hc0_1 : l0_1.length ≤ c0_1) (hr2 : Kd.C (Kd.int .i64) w A2 l2.length l2) (hc2 : l2.length ≤ c2) (hr3 : Kd.C (Kd.int .i64) w A3 l3.length l3) (hc3 : l3.length ≤ c3) (h : spec_l3Step.f k a0_0 l0_1 a1 l2 l3 = some r) :
 Calls Tryz.prog 54 #[.agg #[.int .i64 a0_0, .slice A0_1 l0_1.length c0_1], .int .i64 a1, .slice A2 l2.length c2, .slice A3 l3.length c3] w fun e w' => e = .returned (.bool r) ∧ Below w.heap.size w w' := by
 have hu30 := Tryz.underlying30
 have HR0_1 := Aside0.mk hr0_1
 have HC0_1 := Aside0.mk hc0_1
 clear hr0_1 hc0_1
 have HR2 := Aside0.mk hr2
 have HC2 := Aside0.mk hc2
 clear hr2 hc2
 have HR3 := Aside0.mk hr3
 have HC3 := Aside0.mk hc3
 clear hr3 hc3
 have HB := zM (Below.refl w.heap.size w)
 have H : ((spec_l3Only.f k l2 l3).bind fun t414 => ((spec_l3Only.f k l3 l2).bind fun t417 => (if a1 = 2 then (some ((wrap64 ((t414.length : Int) + (t417.length : Int))) == 1)) else (if (t414.length : Int) = 1 then (if (t417.length : Int) = 1 then (if a1 = 1 then (some true) else (if 0 < (t414.length : Int) then (if 0 < (t417.length : Int) then ((spec_l2Near.f k a0_0 l0_1 (rd t414 0) (rd t417 0)).bind fun t422 => (some t422)) else (none)) else (none))) else (some false)) else (some false))))) = some r := h
 clear h
 replace H := Option.bind_eq_some_iff.mp H
 obtain ⟨t414, A50, H⟩ := H
 have A5 := Aside0.mk A50
 clear A50
 replace H := Option.bind_eq_some_iff.mp H
 obtain ⟨t417, A60, H⟩ := H
 have A6 := Aside0.mk A60
 clear A60
 by_cases c7 : a1 = 2
 · rw [if_pos c7] at H
   have c7b0 : (a1 == 2) = true := beq_iff_eq.mpr c7
   have c7b1 : (a1 != 2) = false := bne_eq_false_iff_eq.mpr c7
   clear c7
   obtain rfl := Option.some.inj H
   go_enter Tryz.func54, Tryz.ntmps54
   go_wp2_with (first | ((with_reducible refine gate_dst (N := 4) rfl ?_); (try (refine gate_guard (by rfl) ?_; dsimp only)); refine zb (w := w) 4 #[.int .i64 a0_0, .slice A0_1 l0_1.length c0_1] 30 zB ?_; clear HB; intro gb413 w8 HB BK413 GW413; have GE413 := GW413) | ((with_reducible refine gate_callee (f := 73) rfl ?_); refine zc 13 Tryz.func73 #[.slice A2 l2.length c2, .slice A3 l3.length c3] ?_; (with_reducible refine (spec_l3Only.calls k _ _ l2 _ _ l3 t414 _ ?side1 ?side2 ?side3 ?side4 A5.out).mono ?_); (case side1 => exact zC (Kd.C_below HR2.out HB.out)); (case side2 => exact HC2.out); (case side3 => exact zC (Kd.C_below HR3.out HB.out)); (case side4 => exact HC3.out); rintro e w9 ⟨v415, rfl, ho0, hb⟩; refine ⟨_, rfl, ?_⟩; have HO416 := zM (Kd.R_lower ho0 (below_size zB)); replace BK413 := zM (blk_below (g := gb413) (o := .cells #[.int .i64 a0_0, .slice A0_1 l0_1.length c0_1] 30 (0, 0)) (zK BK413.out) hb); replace HB := zM (below_step zB hb); (try clear hb); (try clear hb2); (try clear hk); (try clear hi); (try clear ho0)) | ((with_reducible refine gate_callee (f := 73) rfl ?_); refine zc 16 Tryz.func73 #[.slice A3 l3.length c3, .slice A2 l2.length c2] ?_; (with_reducible refine (spec_l3Only.calls k _ _ l3 _ _ l2 t417 _ ?side1 ?side2 ?side3 ?side4 A6.out).mono ?_); (case side1 => exact zC (Kd.C_below HR3.out HB.out)); (case side2 => exact HC3.out); (case side3 => exact zC (Kd.C_below HR2.out HB.out)); (case side4 => exact HC2.out); rintro e w10 ⟨v418, rfl, ho0, hb⟩; refine ⟨_, rfl, ?_⟩; have HO419 := zM (Kd.R_lower (Kd.R_new' ho0 (Kd.R_lt (zR HO416.out))) (below_size zB)); replace HO416 := zM (Kd.R_elder' (zR HO416.out) (Kd.R_base ho0) hb); replace BK413 := zM (blk_below (g := gb413) (o := .cells #[.int .i64 a0_0, .slice A0_1 l0_1.length c0_1] 30 (0, 0)) (zK BK413.out) hb); replace HB := zM (below_step zB hb); (try clear hb); (try clear hb2); (try clear hk); (try clear hi); (try clear ho0); obtain ⟨Ao11, co11, eo11⟩ := Kd.R_slice HO416.out; subst eo11; obtain ⟨Ao12, co12, eo12⟩ := Kd.R_slice HO419.out; subst eo12))
   go_ret
   exact ⟨by first | rfl | (simp [errW_none, errW_some] <;> rfl) | (simp [*, errW_none, errW_some] <;> rfl), zB⟩
 · rw [if_neg c7] at H
   have c7b0 : (a1 == 2) = false := beq_eq_false_iff_ne.mpr c7
   have c7b1 : (a1 != 2) = true := bne_iff_ne.mpr c7
   by_cases c13 : (t414.length : Int) = 1
   · rw [if_pos c13] at H
     have c13b0 : ((t414.length : Int) == 1) = true := beq_iff_eq.mpr c13
     have c13b1 : ((t414.length : Int) != 1) = false := bne_eq_false_iff_eq.mpr c13
     clear c13
     by_cases c14 : (t417.length : Int) = 1
     · rw [if_pos c14] at H
       have c14b0 : ((t417.length : Int) == 1) = true := beq_iff_eq.mpr c14
       have c14b1 : ((t417.length : Int) != 1) = false := bne_eq_false_iff_eq.mpr c14
       clear c14
       by_cases c15 : a1 = 1
       · rw [if_pos c15] at H
         have c15b0 : (a1 == 1) = true := beq_iff_eq.mpr c15
         have c15b1 : (a1 != 1) = false := bne_eq_false_iff_eq.mpr c15
         clear c15
         obtain rfl := Option.some.inj H
         go_enter Tryz.func54, Tryz.ntmps54
         try go_wp2_with (first | ((with_reducible refine gate_dst (N := 4) rfl ?_); (try (refine gate_guard (by rfl) ?_; dsimp only)); refine zb (w := w) 4 #[.int .i64 a0_0, .slice A0_1 l0_1.length c0_1] 30 zB ?_; clear HB; intro gb413 w16 HB BK413 GW413; have GE413 := GW413) | ((with_reducible refine gate_callee (f := 73) rfl ?_); refine zc 13 Tryz.func73 #[.slice A2 l2.length c2, .slice A3 l3.length c3] ?_; (with_reducible refine (spec_l3Only.calls k _ _ l2 _ _ l3 t414 _ ?side1 ?side2 ?side3 ?side4 A5.out).mono ?_); (case side1 => exact zC (Kd.C_below HR2.out HB.out)); (case side2 => exact HC2.out); (case side3 => exact zC (Kd.C_below HR3.out HB.out)); (case side4 => exact HC3.out); rintro e w17 ⟨v415, rfl, ho0, hb⟩; refine ⟨_, rfl, ?_⟩; have HO416 := zM (Kd.R_lower ho0 (below_size zB)); replace BK413 := zM (blk_below (g := gb413) (o := .cells #[.int .i64 a0_0, .slice A0_1 l0_1.length c0_1] 30 (0, 0)) (zK BK413.out) hb); replace HB := zM (below_step zB hb); (try clear hb); (try clear hb2); (try clear hk); (try clear hi); (try clear ho0)) | ((with_reducible refine gate_callee (f := 73) rfl ?_); refine zc 16 Tryz.func73 #[.slice A3 l3.length c3, .slice A2 l2.length c2] ?_; (with_reducible refine (spec_l3Only.calls k _ _ l3 _ _ l2 t417 _ ?side1 ?side2 ?side3 ?side4 A6.out).mono ?_); (case side1 => exact zC (Kd.C_below HR3.out HB.out)); (case side2 => exact HC3.out); (case side3 => exact zC (Kd.C_below HR2.out HB.out)); (case side4 => exact HC2.out); rintro e w18 ⟨v418, rfl, ho0, hb⟩; refine ⟨_, rfl, ?_⟩; have HO419 := zM (Kd.R_lower (Kd.R_new' ho0 (Kd.R_lt (zR HO416.out))) (below_size zB)); replace HO416 := zM (Kd.R_elder' (zR HO416.out) (Kd.R_base ho0) hb); replace BK413 := zM (blk_below (g := gb413) (o := .cells #[.int .i64 a0_0, .slice A0_1 l0_1.length c0_1] 30 (0, 0)) (zK BK413.out) hb); replace HB := zM (below_step zB hb); (try clear hb); (try clear hb2); (try clear hk); (try clear hi); (try clear ho0)))
         replace HO416 := zM (Kd.R_drew HO416.out)
         replace HO419 := zM (Kd.R_drew HO419.out)
         replace BK413 := zM (blk_drew BK413.out)
         replace HB := zM (below_drew1 HB.out)
         obtain ⟨Ao20, co20, eo20⟩ := Kd.R_slice HO416.out
         (first | subst eo20 | (injection eo20 with f1_ f2_ f3_; have f4_ := f1_.symm; have f5_ := f3_.symm; clear f1_ f2_ f3_; subst f4_; subst f5_))
         obtain ⟨Ao21, co21, eo21⟩ := Kd.R_slice HO419.out
         (first | subst eo21 | (injection eo21 with f1_ f2_ f3_; have f4_ := f1_.symm; have f5_ := f3_.symm; clear f1_ f2_ f3_; subst f4_; subst f5_))
         refine zs (n := 23) (fun w' => True) trivial (fun hHeld => ?_); refine with_tabW spec_l3Step.tab4 spec_l3Step.bits4 (fun HT_ HW_ => ?_)
         generalize w18.drew = w19 at HO416 HO419 BK413 HB hHeld ⊢
         refine zp HT_ 0 25 ?_
         refine zp HT_ 1 26 ?_
         refine zp HT_ 2 27 ?_
         refine zp HT_ 3 28 ?_
         refine zp HT_ 4 29 ?_
         refine zp HT_ 5 30 ?_
         refine zp HT_ 6 31 ?_
         refine zp HT_ 7 32 ?_
         refine zp HT_ 8 33 ?_
         refine zp HT_ 9 34 ?_
         refine zp HT_ 10 35 ?_
         refine zp HT_ 11 36 ?_
         refine zu HT_ 12 37 ?_
         refine zu HT_ 13 38 ?_
         refine zu HT_ 14 39 ?_
         refine zu HT_ 15 40 ?_
         refine zu HT_ 16 41 ?_
         refine zu HT_ 17 42 ?_
         refine zu HT_ 18 43 ?_
         refine zu HT_ 19 44 ?_
         refine zp HT_ 20 45 ?_
         refine zp HT_ 21 46 ?_
         refine zp HT_ 22 8 ?_
         refine zo HT_ ?_
         try go_wp2
         go_ret
         exact ⟨by first | rfl | (simp [errW_none, errW_some] <;> rfl) | (simp [*, errW_none, errW_some] <;> rfl), zB⟩
       · rw [if_neg c15] at H
         have c15b0 : (a1 == 1) = false := beq_eq_false_iff_ne.mpr c15
         have c15b1 : (a1 != 1) = true := bne_iff_ne.mpr c15
         by_cases c22 : 0 < (t414.length : Int)
         · rw [if_pos c22] at H
           have c22b0 := decide_eq_true c22
           have c22b1 : decide (0 < t414.length) = true := decide_eq_true (by omega)
           clear c22
           by_cases c23 : 0 < (t417.length : Int)
           · rw [if_pos c23] at H
             have c23b0 := decide_eq_true c23
             have c23b1 : decide (0 < t417.length) = true := decide_eq_true (by omega)
             clear c23
             replace H := Option.bind_eq_some_iff.mp H
             obtain ⟨t422, A240, H⟩ := H
             have A24 := Aside0.mk A240
             clear A240
             obtain rfl := Option.some.inj H
             go_enter Tryz.func54, Tryz.ntmps54
             try go_wp2_with (first | ((with_reducible refine gate_dst (N := 4) rfl ?_); (try (refine gate_guard (by rfl) ?_; dsimp only)); refine zb (w := w) 4 #[.int .i64 a0_0, .slice A0_1 l0_1.length c0_1] 30 zB ?_; clear HB; intro gb413 w25 HB BK413 GW413; have GE413 := GW413) | ((with_reducible refine gate_callee (f := 73) rfl ?_); refine zc 13 Tryz.func73 #[.slice A2 l2.length c2, .slice A3 l3.length c3] ?_; (with_reducible refine (spec_l3Only.calls k _ _ l2 _ _ l3 t414 _ ?side1 ?side2 ?side3 ?side4 A5.out).mono ?_); (case side1 => exact zC (Kd.C_below HR2.out HB.out)); (case side2 => exact HC2.out); (case side3 => exact zC (Kd.C_below HR3.out HB.out)); (case side4 => exact HC3.out); rintro e w26 ⟨v415, rfl, ho0, hb⟩; refine ⟨_, rfl, ?_⟩; have HO416 := zM (Kd.R_lower ho0 (below_size zB)); replace BK413 := zM (blk_below (g := gb413) (o := .cells #[.int .i64 a0_0, .slice A0_1 l0_1.length c0_1] 30 (0, 0)) (zK BK413.out) hb); replace HB := zM (below_step zB hb); (try clear hb); (try clear hb2); (try clear hk); (try clear hi); (try clear ho0)) | ((with_reducible refine gate_callee (f := 73) rfl ?_); refine zc 16 Tryz.func73 #[.slice A3 l3.length c3, .slice A2 l2.length c2] ?_; (with_reducible refine (spec_l3Only.calls k _ _ l3 _ _ l2 t417 _ ?side1 ?side2 ?side3 ?side4 A6.out).mono ?_); (case side1 => exact zC (Kd.C_below HR3.out HB.out)); (case side2 => exact HC3.out); (case side3 => exact zC (Kd.C_below HR2.out HB.out)); (case side4 => exact HC2.out); rintro e w27 ⟨v418, rfl, ho0, hb⟩; refine ⟨_, rfl, ?_⟩; have HO419 := zM (Kd.R_lower (Kd.R_new' ho0 (Kd.R_lt (zR HO416.out))) (below_size zB)); replace HO416 := zM (Kd.R_elder' (zR HO416.out) (Kd.R_base ho0) hb); replace BK413 := zM (blk_below (g := gb413) (o := .cells #[.int .i64 a0_0, .slice A0_1 l0_1.length c0_1] 30 (0, 0)) (zK BK413.out) hb); replace HB := zM (below_step zB hb); (try clear hb); (try clear hb2); (try clear hk); (try clear hi); (try clear ho0)))
             replace HO416 := zM (Kd.R_drew HO416.out)
             replace HO419 := zM (Kd.R_drew HO419.out)
             replace BK413 := zM (blk_drew BK413.out)
             replace HB := zM (below_drew1 HB.out)
             obtain ⟨Ao29, co29, eo29⟩ := Kd.R_slice HO416.out
             (first | subst eo29 | (injection eo29 with f1_ f2_ f3_; have f4_ := f1_.symm; have f5_ := f3_.symm; clear f1_ f2_ f3_; subst f4_; subst f5_))
             obtain ⟨Ao30, co30, eo30⟩ := Kd.R_slice HO419.out
             (first | subst eo30 | (injection eo30 with f1_ f2_ f3_; have f4_ := f1_.symm; have f5_ := f3_.symm; clear f1_ f2_ f3_; subst f4_; subst f5_))
             have p420 : 0 ≤ (0 : Int) := (by omega)
             have q420 : 0 < (t414.length : Int) := of_decide_eq_true zA
             obtain ⟨ad420, e420, hx420_0⟩ := Kd.at_int (Kd.R_reads' HO416.out).2.2 0 p420 q420
             cases e420
             have qi420 : (0 < t414.length) = True := eq_true (by omega)
             (try rw [show ((0 : Int)).toNat = 0 from rfl] at hx420_0)
             (try rw [Addr.add_zero'] at hx420_0)
             replace p420 := eq_true p420
             replace q420 := eq_true q420
             have p421 : 0 ≤ (0 : Int) := (by omega)
             have q421 : 0 < (t417.length : Int) := of_decide_eq_true zA
             obtain ⟨ad421, e421, hx421_0⟩ := Kd.at_int (Kd.R_reads' HO419.out).2.2 0 p421 q421
             cases e421
             have qi421 : (0 < t417.length) = True := eq_true (by omega)
             (try rw [show ((0 : Int)).toNat = 0 from rfl] at hx421_0)
             (try rw [Addr.add_zero'] at hx421_0)
             replace p421 := eq_true p421
             replace q421 := eq_true q421
             refine zs (n := 23) (fun w' => w'.cell? ⟨gb413, 0, none⟩ = some (.int .i64 a0_0) ∧ w'.cell? ⟨gb413, 1, none⟩ = some (.slice A0_1 l0_1.length c0_1) ∧ w'.cell? ad420 = some (.int .i64 (rd t414 0)) ∧ w'.cell? ad421 = some (.int .i64 (rd t417 0))) ⟨(blk_cell BK413.out 0).trans rfl, (blk_cell BK413.out 1).trans rfl, hx420_0, hx421_0⟩ (fun hHeld => ?_); refine with_tabW spec_l3Step.tab4 spec_l3Step.bits4 (fun HT_ HW_ => ?_)
             generalize w27.drew = w28 at HO416 HO419 BK413 HB hx420_0 hx421_0 hHeld ⊢
             refine zp HT_ 0 25 ?_
             refine zp HT_ 1 26 ?_
             refine zp HT_ 2 27 ?_
             refine zp HT_ 3 28 ?_
             refine zp HT_ 4 29 ?_
             refine zp HT_ 5 30 ?_
             refine zp HT_ 6 31 ?_
             refine zp HT_ 7 32 ?_
             refine zp HT_ 8 33 ?_
             refine zp HT_ 9 34 ?_
             refine zp HT_ 10 35 ?_
             refine zp HT_ 11 36 ?_
             refine zp HT_ 13 38 ?_
             refine zp HT_ 14 39 ?_
             refine zp HT_ 16 41 ?_
             refine zp HT_ 17 42 ?_
             refine zt HT_ HW_ 12 37 hHeld ?_ (hy := by rintro w' ⟨s0, s1, s2, s3⟩; go_simp; with_reducible rfl)
             refine zt HT_ HW_ 15 40 hHeld ?_ (hy := by rintro w' ⟨s0, s1, s2, s3⟩; go_simp; with_reducible rfl)
             refine zt HT_ HW_ 18 43 hHeld ?_ (hy := by rintro w' ⟨s0, s1, s2, s3⟩; go_simp; with_reducible rfl)
             refine zg HT_ 19 44 Tryz.func80 #[.agg #[.int .i64 a0_0, .slice A0_1 l0_1.length c0_1], .int .i64 (rd t414 0), .int .i64 (rd t417 0)] (fun K hK => ?_)
             with_reducible refine (spec_l2Near.calls k a0_0 _ _ l0_1 (rd t414 0) (rd t417 0) t422 _ ?side1 ?side2 A24.out).mono ?_
             (case side1 => exact zC (Kd.C_below HR0_1.out HB.out))
             (case side2 => exact HC0_1.out)
             rintro e w31 ⟨rfl, hb⟩
             have HS2_ := (hb.cell (World.block_lt_of_cell? _ _ (hHeld.2.2.1))).trans (hHeld.2.2.1)
             have HS3_ := (hb.cell (World.block_lt_of_cell? _ _ (hHeld.2.2.2))).trans (hHeld.2.2.2)
             refine ⟨_, rfl, ?_⟩
             replace HO416 := zM (Kd.R_below (zR HO416.out) hb)
             replace HO419 := zM (Kd.R_below (zR HO419.out) hb)
             replace BK413 := zM (blk_below (g := gb413) (o := .cells #[.int .i64 a0_0, .slice A0_1 l0_1.length c0_1] 30 (0, 0)) (zK BK413.out) hb)
             replace HB := zM (below_step zB hb)
             (try clear hb)
             (try clear hb2)
             (try clear hk)
             (try clear hi)
             refine hK.out _ _ ⟨(blk_cell BK413.out 0).trans rfl, (blk_cell BK413.out 1).trans rfl, HS2_, HS3_⟩ (fun hHeld => ?_)
             clear hK K
             refine zn 44 ?_
             refine zp HT_ 20 45 ?_
             refine zp HT_ 21 46 ?_
             refine zp HT_ 22 8 ?_
             refine zo HT_ ?_
             try go_wp2
             go_ret
             exact ⟨by first | rfl | (simp [errW_none, errW_some] <;> rfl) | (simp [*, errW_none, errW_some] <;> rfl), zB⟩
           · rw [if_neg c23] at H
             exact absurd H (by simp)
         · rw [if_neg c22] at H
           exact absurd H (by simp)
     · rw [if_neg c14] at H
       have c14b0 : ((t417.length : Int) == 1) = false := beq_eq_false_iff_ne.mpr c14
       have c14b1 : ((t417.length : Int) != 1) = true := bne_iff_ne.mpr c14
       obtain rfl := Option.some.inj H
       go_enter Tryz.func54, Tryz.ntmps54
       try go_wp2_with (first | ((with_reducible refine gate_dst (N := 4) rfl ?_); (try (refine gate_guard (by rfl) ?_; dsimp only)); refine zb (w := w) 4 #[.int .i64 a0_0, .slice A0_1 l0_1.length c0_1] 30 zB ?_; clear HB; intro gb413 w32 HB BK413 GW413; have GE413 := GW413) | ((with_reducible refine gate_callee (f := 73) rfl ?_); refine zc 13 Tryz.func73 #[.slice A2 l2.length c2, .slice A3 l3.length c3] ?_; (with_reducible refine (spec_l3Only.calls k _ _ l2 _ _ l3 t414 _ ?side1 ?side2 ?side3 ?side4 A5.out).mono ?_); (case side1 => exact zC (Kd.C_below HR2.out HB.out)); (case side2 => exact HC2.out); (case side3 => exact zC (Kd.C_below HR3.out HB.out)); (case side4 => exact HC3.out); rintro e w33 ⟨v415, rfl, ho0, hb⟩; refine ⟨_, rfl, ?_⟩; have HO416 := zM (Kd.R_lower ho0 (below_size zB)); replace BK413 := zM (blk_below (g := gb413) (o := .cells #[.int .i64 a0_0, .slice A0_1 l0_1.length c0_1] 30 (0, 0)) (zK BK413.out) hb); replace HB := zM (below_step zB hb); (try clear hb); (try clear hb2); (try clear hk); (try clear hi); (try clear ho0)) | ((with_reducible refine gate_callee (f := 73) rfl ?_); refine zc 16 Tryz.func73 #[.slice A3 l3.length c3, .slice A2 l2.length c2] ?_; (with_reducible refine (spec_l3Only.calls k _ _ l3 _ _ l2 t417 _ ?side1 ?side2 ?side3 ?side4 A6.out).mono ?_); (case side1 => exact zC (Kd.C_below HR3.out HB.out)); (case side2 => exact HC3.out); (case side3 => exact zC (Kd.C_below HR2.out HB.out)); (case side4 => exact HC2.out); rintro e w34 ⟨v418, rfl, ho0, hb⟩; refine ⟨_, rfl, ?_⟩; have HO419 := zM (Kd.R_lower (Kd.R_new' ho0 (Kd.R_lt (zR HO416.out))) (below_size zB)); replace HO416 := zM (Kd.R_elder' (zR HO416.out) (Kd.R_base ho0) hb); replace BK413 := zM (blk_below (g := gb413) (o := .cells #[.int .i64 a0_0, .slice A0_1 l0_1.length c0_1] 30 (0, 0)) (zK BK413.out) hb); replace HB := zM (below_step zB hb); (try clear hb); (try clear hb2); (try clear hk); (try clear hi); (try clear ho0)))
       replace HO416 := zM (Kd.R_drew HO416.out)
       replace HO419 := zM (Kd.R_drew HO419.out)
       replace BK413 := zM (blk_drew BK413.out)
       replace HB := zM (below_drew1 HB.out)
       obtain ⟨Ao36, co36, eo36⟩ := Kd.R_slice HO416.out
       (first | subst eo36 | (injection eo36 with f1_ f2_ f3_; have f4_ := f1_.symm; have f5_ := f3_.symm; clear f1_ f2_ f3_; subst f4_; subst f5_))
       obtain ⟨Ao37, co37, eo37⟩ := Kd.R_slice HO419.out
       (first | subst eo37 | (injection eo37 with f1_ f2_ f3_; have f4_ := f1_.symm; have f5_ := f3_.symm; clear f1_ f2_ f3_; subst f4_; subst f5_))
       refine zs (n := 23) (fun w' => True) trivial (fun hHeld => ?_); refine with_tabW spec_l3Step.tab4 spec_l3Step.bits4 (fun HT_ HW_ => ?_)
       generalize w34.drew = w35 at HO416 HO419 BK413 HB hHeld ⊢
       refine zp HT_ 0 25 ?_
       refine zp HT_ 1 26 ?_
       refine zp HT_ 2 27 ?_
       refine zp HT_ 3 28 ?_
       refine zp HT_ 4 29 ?_
       refine zp HT_ 5 30 ?_
       refine zp HT_ 6 31 ?_
       refine zp HT_ 7 32 ?_
       refine zp HT_ 8 33 ?_
       refine zu HT_ 9 34 ?_
       refine zu HT_ 10 35 ?_
       refine zu HT_ 11 36 ?_
       refine zu HT_ 12 37 ?_
       refine zu HT_ 13 38 ?_
       refine zu HT_ 14 39 ?_
       refine zu HT_ 15 40 ?_
       refine zu HT_ 16 41 ?_
       refine zu HT_ 17 42 ?_
       refine zu HT_ 18 43 ?_
       refine zu HT_ 19 44 ?_
       refine zu HT_ 20 45 ?_
       refine zp HT_ 21 46 ?_
       refine zp HT_ 22 8 ?_
       refine zo HT_ ?_
       try go_wp2
       go_ret
       exact ⟨by first | rfl | (simp [errW_none, errW_some] <;> rfl) | (simp [*, errW_none, errW_some] <;> rfl), zB⟩
   · rw [if_neg c13] at H
     have c13b0 : ((t414.length : Int) == 1) = false := beq_eq_false_iff_ne.mpr c13
     have c13b1 : ((t414.length : Int) != 1) = true := bne_iff_ne.mpr c13
     obtain rfl := Option.some.inj H
     go_enter Tryz.func54, Tryz.ntmps54
     try go_wp2_with (first | ((with_reducible refine gate_dst (N := 4) rfl ?_); (try (refine gate_guard (by rfl) ?_; dsimp only)); refine zb (w := w) 4 #[.int .i64 a0_0, .slice A0_1 l0_1.length c0_1] 30 zB ?_; clear HB; intro gb413 w38 HB BK413 GW413; have GE413 := GW413) | ((with_reducible refine gate_callee (f := 73) rfl ?_); refine zc 13 Tryz.func73 #[.slice A2 l2.length c2, .slice A3 l3.length c3] ?_; (with_reducible refine (spec_l3Only.calls k _ _ l2 _ _ l3 t414 _ ?side1 ?side2 ?side3 ?side4 A5.out).mono ?_); (case side1 => exact zC (Kd.C_below HR2.out HB.out)); (case side2 => exact HC2.out); (case side3 => exact zC (Kd.C_below HR3.out HB.out)); (case side4 => exact HC3.out); rintro e w39 ⟨v415, rfl, ho0, hb⟩; refine ⟨_, rfl, ?_⟩; have HO416 := zM (Kd.R_lower ho0 (below_size zB)); replace BK413 := zM (blk_below (g := gb413) (o := .cells #[.int .i64 a0_0, .slice A0_1 l0_1.length c0_1] 30 (0, 0)) (zK BK413.out) hb); replace HB := zM (below_step zB hb); (try clear hb); (try clear hb2); (try clear hk); (try clear hi); (try clear ho0)) | ((with_reducible refine gate_callee (f := 73) rfl ?_); refine zc 16 Tryz.func73 #[.slice A3 l3.length c3, .slice A2 l2.length c2] ?_; (with_reducible refine (spec_l3Only.calls k _ _ l3 _ _ l2 t417 _ ?side1 ?side2 ?side3 ?side4 A6.out).mono ?_); (case side1 => exact zC (Kd.C_below HR3.out HB.out)); (case side2 => exact HC3.out); (case side3 => exact zC (Kd.C_below HR2.out HB.out)); (case side4 => exact HC2.out); rintro e w40 ⟨v418, rfl, ho0, hb⟩; refine ⟨_, rfl, ?_⟩; have HO419 := zM (Kd.R_lower (Kd.R_new' ho0 (Kd.R_lt (zR HO416.out))) (below_size zB)); replace HO416 := zM (Kd.R_elder' (zR HO416.out) (Kd.R_base ho0) hb); replace BK413 := zM (blk_below (g := gb413) (o := .cells #[.int .i64 a0_0, .slice A0_1 l0_1.length c0_1] 30 (0, 0)) (zK BK413.out) hb); replace HB := zM (below_step zB hb); (try clear hb); (try clear hb2); (try clear hk); (try clear hi); (try clear ho0)))
     replace HO416 := zM (Kd.R_drew HO416.out)
     replace HO419 := zM (Kd.R_drew HO419.out)
     replace BK413 := zM (blk_drew BK413.out)
     replace HB := zM (below_drew1 HB.out)
     obtain ⟨Ao42, co42, eo42⟩ := Kd.R_slice HO416.out
     (first | subst eo42 | (injection eo42 with f1_ f2_ f3_; have f4_ := f1_.symm; have f5_ := f3_.symm; clear f1_ f2_ f3_; subst f4_; subst f5_))
     refine zs (n := 23) (fun w' => True) trivial (fun hHeld => ?_); refine with_tabW spec_l3Step.tab4 spec_l3Step.bits4 (fun HT_ HW_ => ?_)
     generalize w40.drew = w41 at HO416 HO419 BK413 HB hHeld ⊢
     refine zp HT_ 0 25 ?_
     refine zp HT_ 1 26 ?_
     refine zp HT_ 2 27 ?_
     refine zp HT_ 3 28 ?_
     refine zu HT_ 4 29 ?_
     refine zu HT_ 5 30 ?_
     refine zu HT_ 6 31 ?_
     refine zp HT_ 7 32 ?_
     refine zp HT_ 8 33 ?_
     refine zu HT_ 9 34 ?_
     refine zu HT_ 10 35 ?_
     refine zu HT_ 11 36 ?_
     refine zu HT_ 12 37 ?_
     refine zu HT_ 13 38 ?_
     refine zu HT_ 14 39 ?_
     refine zu HT_ 15 40 ?_
     refine zu HT_ 16 41 ?_
     refine zu HT_ 17 42 ?_
     refine zu HT_ 18 43 ?_
     refine zu HT_ 19 44 ?_
     refine zu HT_ 20 45 ?_
     refine zp HT_ 21 46 ?_
     refine zp HT_ 22 8 ?_
     refine zo HT_ ?_
     try go_wp2
     go_ret
     exact ⟨by first | rfl | (simp [errW_none, errW_some] <;> rfl) | (simp [*, errW_none, errW_some] <;> rfl), zB⟩

end Go.Proofs.YtadjbmcfgjmhkaaGreat.P
