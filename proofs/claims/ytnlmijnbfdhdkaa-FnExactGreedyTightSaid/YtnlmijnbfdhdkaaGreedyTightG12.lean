-- Written by a program of this session (the kit's print, turned: wip/print/patch.py) out of the translation. Not trusted: Lean checks it.
import Derived.Test.YtnlmijnbfdhdkaaGreedyTightG3
import Derived.Test.YtnlmijnbfdhdkaaGreedyTightG8
import Derived.Test.YtnlmijnbfdhdkaaGreedyTightG10
import Derived.Test.YtnlmijnbfdhdkaaGreedyTightG11
import Derived.Test.YtnlmijnbfdhdkaaGreedyTightG9
namespace Go.Proofs.Ytnlmijnbfdhdkaa.P
open Go.RowKit Go.Proofs.YtnlmijnbfdhdkaaW.PrintWords Go.Proofs.YtnlmijnbfdhdkaaW.PrintLast Go.Proofs.YtnlmijnbfdhdkaaW.PrintMore
attribute [local go_sem] max2_int min2_int max_two min_two max_three min_three max_four min_four   -- for this text's walks alone
set_option linter.unusedVariables false
set_option linter.unusedSimpArgs false

/-! ### impl_IsGraph: function 95 -/
def impl_IsGraph.f (k : Nat) (a0_0 : Int) (l0_1 : List (S88)) : Option (Bool) := (impl_between.f a0_0 0 8).bind fun t286 => (if t286 = true then ((impl_isPairs.f k l0_1 a0_0).bind fun t287 => (some t287)) else (some false))
set_option maxHeartbeats 8000000 in
set_option maxRecDepth 100000 in
theorem impl_IsGraph.calls (k : Nat) (a0_0 : Int) (A0_1 : Option Addr) (c0_1 : Nat) (l0_1 : List (S88)) (r : Bool) (w : World) (hr0_1 : Kd.C k88 w A0_1 l0_1.length l0_1) (hc0_1 : l0_1.length ≤ c0_1) (h : impl_IsGraph.f k a0_0 l0_1 = some r) :
 Calls Try.prog 95 #[.agg #[.int .i64 a0_0, .slice A0_1 l0_1.length c0_1]] w fun e w' => e = .returned (.bool r) ∧ Below w.heap.size w w' := by
 have hu29 := Try.underlying29
 have HR0_1 := Aside0.mk hr0_1
 have HC0_1 := Aside0.mk hc0_1
 clear hr0_1 hc0_1
 have HB := zM (Below.refl w.heap.size w)
 have H : ((impl_between.f a0_0 0 8).bind fun t286 => (if t286 = true then ((impl_isPairs.f k l0_1 a0_0).bind fun t287 => (some t287)) else (some false))) = some r := h
 clear h
 replace H := Option.bind_eq_some_iff.mp H
 obtain ⟨t286, A20, H⟩ := H
 have A2 := Aside0.mk A20
 clear A20
 by_cases c3 : t286 = true
 · subst c3
   rw [if_pos rfl] at H
   replace H := Option.bind_eq_some_iff.mp H
   obtain ⟨t287, A40, H⟩ := H
   have A4 := Aside0.mk A40
   clear A40
   obtain rfl := Option.some.inj H
   go_enter Try.func95, Try.ntmps95
   go_wp2_with (first | ((with_reducible refine gate_dst (N := 1) rfl ?_); refine zb (w := w) 1 #[.int .i64 a0_0, .slice A0_1 l0_1.length c0_1] 29 zB ?_; clear HB; intro gb285 w5 HB BK285 GW285; have GE285 := GW285; have hcz6_0 := zy BK285 0; have hcz6_1 := zy BK285 1; have hfz6_0 := blk_frozen BK285.out 0; have hfz6_1 := blk_frozen BK285.out 1) | ((with_reducible refine gate_callee (f := 99) rfl ?_); refine zc 5 Try.func99 #[.int .i64 a0_0, .int .i64 0, .int .i64 8] ?_; (with_reducible refine (impl_between.calls a0_0 0 8 true _ A2.out).mono ?_); rintro e w' ⟨rfl, ⟨nd, rfl⟩⟩; refine ⟨_, rfl, ?_⟩) | (go_at_call 128; (with_reducible refine (impl_isPairs.calls k _ _ l0_1 a0_0 t287 _ ?side1 ?side2 A4.out).mono ?_); (case side1 => exact zC (Kd.C_below HR0_1.out zB)); (case side2 => exact HC0_1.out); rintro e w7 ⟨rfl, hb⟩; replace BK285 := zM (blk_below (g := gb285) (o := .cells #[.int .i64 a0_0, .slice A0_1 l0_1.length c0_1] 29 (0, 0)) (zK BK285.out) hb); replace HB := zM (below_step zB hb); (try clear hb); (try clear hb2); (try clear hk); (try clear hi)))
   go_ret
   exact ⟨by first | rfl | (simp [errW_none, errW_some] <;> rfl) | (simp [*, errW_none, errW_some] <;> rfl), zB⟩
 · replace c3 := Bool.eq_false_iff.mpr c3
   subst c3
   have H1 : (some false) = some r := by rw [if_neg (show ¬ (false = true) by decide)] at H; exact H
   clear H
   have H := H1
   clear H1
   obtain rfl := Option.some.inj H
   go_enter Try.func95, Try.ntmps95
   go_wp2_with (first | ((with_reducible refine gate_dst (N := 1) rfl ?_); refine zb (w := w) 1 #[.int .i64 a0_0, .slice A0_1 l0_1.length c0_1] 29 zB ?_; clear HB; intro gb285 w8 HB BK285 GW285; have GE285 := GW285; have hcz9_0 := zy BK285 0; have hcz9_1 := zy BK285 1; have hfz9_0 := blk_frozen BK285.out 0; have hfz9_1 := blk_frozen BK285.out 1) | ((with_reducible refine gate_callee (f := 99) rfl ?_); refine zc 5 Try.func99 #[.int .i64 a0_0, .int .i64 0, .int .i64 8] ?_; (with_reducible refine (impl_between.calls a0_0 0 8 false _ A2.out).mono ?_); rintro e w' ⟨rfl, ⟨nd, rfl⟩⟩; refine ⟨_, rfl, ?_⟩))
   go_ret
   exact ⟨by first | rfl | (simp [errW_none, errW_some] <;> rfl) | (simp [*, errW_none, errW_some] <;> rfl), zB⟩

/-! ### impl_isKind: function 157 -/
def impl_isKind.f (a0 : Int) : Option (Bool) := (impl_between.f a0 1 3).bind fun t288 => (some t288)
set_option maxHeartbeats 8000000 in
set_option maxRecDepth 100000 in
theorem impl_isKind.calls (a0 : Int) (r : Bool) (w : World) (h : impl_isKind.f a0 = some r) :
 Calls Try.prog 157 #[.int .i64 a0] w fun e w' => e = .returned (.bool r) ∧ Drawn0 w w' := by
 have H : ((impl_between.f a0 1 3).bind fun t288 => (some t288)) = some r := h
 clear h
 replace H := Option.bind_eq_some_iff.mp H
 obtain ⟨t288, A20, H⟩ := H
 have A2 := Aside0.mk A20
 clear A20
 obtain rfl := Option.some.inj H
 go_enter Try.func157, Try.ntmps157
 go_wp2_with (first | ((with_reducible refine gate_callee (f := 99) rfl ?_); refine zc 4 Try.func99 #[.int .i64 a0, .int .i64 1, .int .i64 3] ?_; (with_reducible refine (impl_between.calls a0 1 3 t288 _ A2.out).mono ?_); rintro e w' ⟨rfl, ⟨nd, rfl⟩⟩; refine ⟨_, rfl, ?_⟩))
 go_ret
 exact ⟨by first | rfl | (simp; done) | (simp [*]; done), by repeat (first | exact Drawn0.refl _ | apply Drawn0.step)⟩

/-! ### impl_isSetCase: function 139 -/
def impl_isSetCase.f (k : Nat) (a0_0 : Int) (l0_1 : List (S88)) (a1 : Int) (l2 : List Int) : Option (Bool) := (impl_IsGraph.f k a0_0 l0_1).bind fun t290 => (if t290 = true then ((impl_isKind.f a1).bind fun t291 => (if t291 = true then ((impl_isRising.f k l2 a0_0).bind fun t292 => (some t292)) else (some false))) else (some false))
set_option maxHeartbeats 8000000 in
set_option maxRecDepth 100000 in
theorem impl_isSetCase.calls (k : Nat) (a0_0 : Int) (A0_1 : Option Addr) (c0_1 : Nat) (l0_1 : List (S88)) (a1 : Int) (A2 : Option Addr) (c2 : Nat) (l2 : List Int) (r : Bool) (w : World) (hr0_1 : Kd.C k88 w A0_1 l0_1.length l0_1) (hc0_1 : l0_1.length ≤ c0_1) (hr2 : Kd.C (Kd.int .i64) w A2 l2.length l2) (hc2 : l2.length ≤ c2) (h : impl_isSetCase.f k a0_0 l0_1 a1 l2 = some r) :
 Calls Try.prog 139 #[.agg #[.int .i64 a0_0, .slice A0_1 l0_1.length c0_1], .int .i64 a1, .slice A2 l2.length c2] w fun e w' => e = .returned (.bool r) ∧ Below w.heap.size w w' := by
 have hu29 := Try.underlying29
 have HR0_1 := Aside0.mk hr0_1
 have HC0_1 := Aside0.mk hc0_1
 clear hr0_1 hc0_1
 have HR2 := Aside0.mk hr2
 have HC2 := Aside0.mk hc2
 clear hr2 hc2
 have HB := zM (Below.refl w.heap.size w)
 have H : ((impl_IsGraph.f k a0_0 l0_1).bind fun t290 => (if t290 = true then ((impl_isKind.f a1).bind fun t291 => (if t291 = true then ((impl_isRising.f k l2 a0_0).bind fun t292 => (some t292)) else (some false))) else (some false))) = some r := h
 clear h
 replace H := Option.bind_eq_some_iff.mp H
 obtain ⟨t290, A40, H⟩ := H
 have A4 := Aside0.mk A40
 clear A40
 by_cases c5 : t290 = true
 · subst c5
   rw [if_pos rfl] at H
   replace H := Option.bind_eq_some_iff.mp H
   obtain ⟨t291, A60, H⟩ := H
   have A6 := Aside0.mk A60
   clear A60
   by_cases c7 : t291 = true
   · subst c7
     rw [if_pos rfl] at H
     replace H := Option.bind_eq_some_iff.mp H
     obtain ⟨t292, A80, H⟩ := H
     have A8 := Aside0.mk A80
     clear A80
     obtain rfl := Option.some.inj H
     go_enter Try.func139, Try.ntmps139
     go_wp2_with (first | ((with_reducible refine gate_dst (N := 3) rfl ?_); refine zb (w := w) 3 #[.int .i64 a0_0, .slice A0_1 l0_1.length c0_1] 29 zB ?_; clear HB; intro gb289 w9 HB BK289 GW289; have GE289 := GW289; have hcz10_0 := zy BK289 0; have hcz10_1 := zy BK289 1; have hfz10_0 := blk_frozen BK289.out 0; have hfz10_1 := blk_frozen BK289.out 1) | ((with_reducible refine gate_callee (f := 95) rfl ?_); refine zc 8 Try.func95 #[.agg #[.int .i64 a0_0, .slice A0_1 l0_1.length c0_1]] ?_; (with_reducible refine (impl_IsGraph.calls k a0_0 _ _ l0_1 true _ ?side1 ?side2 A4.out).mono ?_); (case side1 => exact zC (Kd.C_below HR0_1.out HB.out)); (case side2 => exact HC0_1.out); rintro e w11 ⟨rfl, hb⟩; refine ⟨_, rfl, ?_⟩; replace BK289 := zM (blk_below (g := gb289) (o := .cells #[.int .i64 a0_0, .slice A0_1 l0_1.length c0_1] 29 (0, 0)) (zK BK289.out) hb); replace HB := zM (below_step zB hb); (try clear hb); (try clear hb2); (try clear hk); (try clear hi)) | (go_at_call 157; (with_reducible refine (impl_isKind.calls a1 true _ A6.out).mono ?_); rintro e w' ⟨rfl, ⟨nd, rfl⟩⟩; have hcz12_0 := zy BK289 0; have hcz12_1 := zy BK289 1; have hfz12_0 := blk_frozen BK289.out 0; have hfz12_1 := blk_frozen BK289.out 1) | (go_at_call 84; (with_reducible refine (impl_isRising.calls k _ _ l2 a0_0 t292 _ ?side1 ?side2 A8.out).mono ?_); (case side1 => exact zC (Kd.C_below HR2.out zB)); (case side2 => exact HC2.out); rintro e w' ⟨rfl, ⟨nd, rfl⟩⟩))
     go_ret
     exact ⟨by first | rfl | (simp [errW_none, errW_some] <;> rfl) | (simp [*, errW_none, errW_some] <;> rfl), zB⟩
   · replace c7 := Bool.eq_false_iff.mpr c7
     subst c7
     have H1 : (some false) = some r := by rw [if_neg (show ¬ (false = true) by decide)] at H; exact H
     clear H
     have H := H1
     clear H1
     obtain rfl := Option.some.inj H
     go_enter Try.func139, Try.ntmps139
     go_wp2_with (first | ((with_reducible refine gate_dst (N := 3) rfl ?_); refine zb (w := w) 3 #[.int .i64 a0_0, .slice A0_1 l0_1.length c0_1] 29 zB ?_; clear HB; intro gb289 w13 HB BK289 GW289; have GE289 := GW289; have hcz14_0 := zy BK289 0; have hcz14_1 := zy BK289 1; have hfz14_0 := blk_frozen BK289.out 0; have hfz14_1 := blk_frozen BK289.out 1) | ((with_reducible refine gate_callee (f := 95) rfl ?_); refine zc 8 Try.func95 #[.agg #[.int .i64 a0_0, .slice A0_1 l0_1.length c0_1]] ?_; (with_reducible refine (impl_IsGraph.calls k a0_0 _ _ l0_1 true _ ?side1 ?side2 A4.out).mono ?_); (case side1 => exact zC (Kd.C_below HR0_1.out HB.out)); (case side2 => exact HC0_1.out); rintro e w15 ⟨rfl, hb⟩; refine ⟨_, rfl, ?_⟩; replace BK289 := zM (blk_below (g := gb289) (o := .cells #[.int .i64 a0_0, .slice A0_1 l0_1.length c0_1] 29 (0, 0)) (zK BK289.out) hb); replace HB := zM (below_step zB hb); (try clear hb); (try clear hb2); (try clear hk); (try clear hi)) | (go_at_call 157; (with_reducible refine (impl_isKind.calls a1 false _ A6.out).mono ?_); rintro e w' ⟨rfl, ⟨nd, rfl⟩⟩))
     go_ret
     exact ⟨by first | rfl | (simp [errW_none, errW_some] <;> rfl) | (simp [*, errW_none, errW_some] <;> rfl), zB⟩
 · replace c5 := Bool.eq_false_iff.mpr c5
   subst c5
   have H1 : (some false) = some r := by rw [if_neg (show ¬ (false = true) by decide)] at H; exact H
   clear H
   have H := H1
   clear H1
   obtain rfl := Option.some.inj H
   go_enter Try.func139, Try.ntmps139
   go_wp2_with (first | ((with_reducible refine gate_dst (N := 3) rfl ?_); refine zb (w := w) 3 #[.int .i64 a0_0, .slice A0_1 l0_1.length c0_1] 29 zB ?_; clear HB; intro gb289 w16 HB BK289 GW289; have GE289 := GW289; have hcz17_0 := zy BK289 0; have hcz17_1 := zy BK289 1; have hfz17_0 := blk_frozen BK289.out 0; have hfz17_1 := blk_frozen BK289.out 1) | ((with_reducible refine gate_callee (f := 95) rfl ?_); refine zc 8 Try.func95 #[.agg #[.int .i64 a0_0, .slice A0_1 l0_1.length c0_1]] ?_; (with_reducible refine (impl_IsGraph.calls k a0_0 _ _ l0_1 false _ ?side1 ?side2 A4.out).mono ?_); (case side1 => exact zC (Kd.C_below HR0_1.out HB.out)); (case side2 => exact HC0_1.out); rintro e w18 ⟨rfl, hb⟩; refine ⟨_, rfl, ?_⟩; replace BK289 := zM (blk_below (g := gb289) (o := .cells #[.int .i64 a0_0, .slice A0_1 l0_1.length c0_1] 29 (0, 0)) (zK BK289.out) hb); replace HB := zM (below_step zB hb); (try clear hb); (try clear hb2); (try clear hk); (try clear hi)))
   go_ret
   exact ⟨by first | rfl | (simp [errW_none, errW_some] <;> rfl) | (simp [*, errW_none, errW_some] <;> rfl), zB⟩

/-! ### impl_HasKind: function 107 -/
def impl_HasKind.f (k : Nat) (a0_0 : Int) (l0_1 : List (S88)) (a1 : Int) (l2 : List Int) : Option (Bool × Bool) := (impl_isSetCase.f k a0_0 l0_1 a1 l2).bind fun t294 => (if t294 = true then ((impl_bagOf.f k l2).bind fun t295 => ((impl_Graph_hasKind.f k a0_0 l0_1 a1 t295).bind fun t296 => (some (t296, true)))) else (some (false, false)))
set_option maxHeartbeats 8000000 in
set_option maxRecDepth 100000 in
theorem impl_HasKind.calls (k : Nat) (a0_0 : Int) (A0_1 : Option Addr) (c0_1 : Nat) (l0_1 : List (S88)) (a1 : Int) (A2 : Option Addr) (c2 : Nat) (l2 : List Int) (r1 : Bool) (r2 : Bool) (w : World) (hr0_1 : Kd.C k88 w A0_1 l0_1.length l0_1) (hc0_1 : l0_1.length ≤ c0_1) (hr2 : Kd.C (Kd.int .i64) w A2 l2.length l2) (hc2 : l2.length ≤ c2) (h : impl_HasKind.f k a0_0 l0_1 a1 l2 = some (r1, r2)) :
 Calls Try.prog 107 #[.agg #[.int .i64 a0_0, .slice A0_1 l0_1.length c0_1], .int .i64 a1, .slice A2 l2.length c2] w fun e w' => e = .returned (.tuple #[.bool r1, .bool r2]) ∧ Below w.heap.size w w' := by
 have hu29 := Try.underlying29
 have HR0_1 := Aside0.mk hr0_1
 have HC0_1 := Aside0.mk hc0_1
 clear hr0_1 hc0_1
 have HR2 := Aside0.mk hr2
 have HC2 := Aside0.mk hc2
 clear hr2 hc2
 have HB := zM (Below.refl w.heap.size w)
 have H : ((impl_isSetCase.f k a0_0 l0_1 a1 l2).bind fun t294 => (if t294 = true then ((impl_bagOf.f k l2).bind fun t295 => ((impl_Graph_hasKind.f k a0_0 l0_1 a1 t295).bind fun t296 => (some (t296, true)))) else (some (false, false)))) = some (r1, r2) := h
 clear h
 replace H := Option.bind_eq_some_iff.mp H
 obtain ⟨t294, A40, H⟩ := H
 replace H : (if t294 = true then ((impl_bagOf.f k l2).bind fun t295 => ((impl_Graph_hasKind.f k a0_0 l0_1 a1 t295).bind fun t296 => (some (t296, true)))) else (some (false, false))) = some (r1, r2) := H
 have A4 := Aside0.mk A40
 clear A40
 by_cases c5 : t294 = true
 · subst c5
   have H1 : ((impl_bagOf.f k l2).bind fun t295 => ((impl_Graph_hasKind.f k a0_0 l0_1 a1 t295).bind fun t296 => (some (t296, true)))) = some (r1, r2) := by rw [if_pos rfl] at H; exact H
   clear H
   have H := H1
   clear H1
   replace H := Option.bind_eq_some_iff.mp H
   obtain ⟨t295, A60, H⟩ := H
   replace H : ((impl_Graph_hasKind.f k a0_0 l0_1 a1 t295).bind fun t296 => (some (t296, true))) = some (r1, r2) := H
   have A6 := Aside0.mk A60
   clear A60
   replace H := Option.bind_eq_some_iff.mp H
   obtain ⟨t296, A70, H⟩ := H
   replace H : (some (t296, true)) = some (r1, r2) := H
   have A7 := Aside0.mk A70
   clear A70
   simp only [Option.some.injEq, Prod.mk.injEq] at H
   obtain ⟨rfl, rfl⟩ := H
   go_enter Try.func107, Try.ntmps107
   try go_wp2_with (first | ((with_reducible refine gate_dst (N := 3) rfl ?_); refine zb (w := w) 3 #[.int .i64 a0_0, .slice A0_1 l0_1.length c0_1] 29 zB ?_; clear HB; intro gb293 w8 HB BK293 GW293; have GE293 := GW293; have hcz9_0 := zy BK293 0; have hcz9_1 := zy BK293 1; have hfz9_0 := blk_frozen BK293.out 0; have hfz9_1 := blk_frozen BK293.out 1) | ((with_reducible refine gate_callee (f := 139) rfl ?_); refine zc 11 Try.func139 #[.agg #[.int .i64 a0_0, .slice A0_1 l0_1.length c0_1], .int .i64 a1, .slice A2 l2.length c2] ?_; (with_reducible refine (impl_isSetCase.calls k a0_0 _ _ l0_1 a1 _ _ l2 true _ ?side1 ?side2 ?side3 ?side4 A4.out).mono ?_); (case side1 => exact zC (Kd.C_below HR0_1.out HB.out)); (case side2 => exact HC0_1.out); (case side3 => exact zC (Kd.C_below HR2.out HB.out)); (case side4 => exact HC2.out); rintro e w10 ⟨rfl, hb⟩; refine ⟨_, rfl, ?_⟩; replace BK293 := zM (blk_below (g := gb293) (o := .cells #[.int .i64 a0_0, .slice A0_1 l0_1.length c0_1] 29 (0, 0)) (zK BK293.out) hb); replace HB := zM (below_step zB hb); (try clear hb); (try clear hb2); (try clear hk); (try clear hi)))
   replace BK293 := zM (blk_drew BK293.out)
   replace HB := zM (below_drew1 HB.out)
   refine zs (n := 7) (fun w' => w'.cell? ⟨gb293, 0, none⟩ = some (.int .i64 a0_0) ∧ w'.cell? ⟨gb293, 1, none⟩ = some (.slice A0_1 l0_1.length c0_1)) ⟨(blk_cell BK293.out 0).trans rfl, (blk_cell BK293.out 1).trans rfl⟩ (fun hHeld => ?_)
   generalize w10.drew = w11 at BK293 HB hHeld ⊢
   refine zq 1 14 ?_
   refine zq 2 15 ?_
   refine zl 0 13 hHeld ?_ (hy := by rintro w' ⟨s0, s1⟩; go_simp; with_reducible rfl)
   refine zh 3 16 Try.func61 #[.slice A2 l2.length c2] (fun K hK => ?_)
   with_reducible refine (impl_bagOf.calls k _ _ l2 t295 _ ?side1 ?side2 A6.out).mono ?_
   (case side1 => exact zC (Kd.C_below HR2.out HB.out))
   (case side2 => exact HC2.out)
   rintro e w' ⟨rfl, ⟨nd, rfl⟩⟩
   refine ⟨_, rfl, ?_⟩
   refine hK.out _ _ ⟨(blk_cell BK293.out 0).trans rfl, (blk_cell BK293.out 1).trans rfl⟩ (fun hHeld => ?_)
   clear hK K
   refine zn 16 ?_
   refine zh 4 17 Try.func65 #[.agg #[.int .i64 a0_0, .slice A0_1 l0_1.length c0_1], .int .i64 a1, .int .u64 t295] (fun K hK => ?_)
   with_reducible refine (impl_Graph_hasKind.calls k a0_0 _ _ l0_1 a1 t295 t296 _ ?side1 ?side2 A7.out).mono ?_
   (case side1 => exact zC (Kd.C_below HR0_1.out zB))
   (case side2 => exact HC0_1.out)
   rintro e w12 ⟨rfl, hb⟩
   refine ⟨_, rfl, ?_⟩
   replace BK293 := zM (blk_below (g := gb293) (o := .cells #[.int .i64 a0_0, .slice A0_1 l0_1.length c0_1] 29 (0, 0)) (zK BK293.out) hb)
   replace HB := zM (below_step zB hb)
   (try clear hb)
   (try clear hb2)
   (try clear hk)
   (try clear hi)
   refine hK.out _ _ ⟨(blk_cell BK293.out 0).trans rfl, (blk_cell BK293.out 1).trans rfl⟩ (fun hHeld => ?_)
   clear hK K
   refine zn 17 ?_
   refine zq 5 6 ?_
   refine zq 6 7 ?_
   refine zx ?_
   try go_wp2
   go_ret2
   exact ⟨by first | rfl | (simp [errW_none, errW_some] <;> rfl) | (simp [*, errW_none, errW_some] <;> rfl), zB⟩
 · replace c5 := Bool.eq_false_iff.mpr c5
   subst c5
   have H1 : (some (false, false)) = some (r1, r2) := by rw [if_neg (show ¬ (false = true) by decide)] at H; exact H
   clear H
   have H := H1
   clear H1
   simp only [Option.some.injEq, Prod.mk.injEq] at H
   obtain ⟨rfl, rfl⟩ := H
   go_enter Try.func107, Try.ntmps107
   go_wp2_with (first | ((with_reducible refine gate_dst (N := 3) rfl ?_); refine zb (w := w) 3 #[.int .i64 a0_0, .slice A0_1 l0_1.length c0_1] 29 zB ?_; clear HB; intro gb293 w13 HB BK293 GW293; have GE293 := GW293; have hcz14_0 := zy BK293 0; have hcz14_1 := zy BK293 1; have hfz14_0 := blk_frozen BK293.out 0; have hfz14_1 := blk_frozen BK293.out 1) | ((with_reducible refine gate_callee (f := 139) rfl ?_); refine zc 11 Try.func139 #[.agg #[.int .i64 a0_0, .slice A0_1 l0_1.length c0_1], .int .i64 a1, .slice A2 l2.length c2] ?_; (with_reducible refine (impl_isSetCase.calls k a0_0 _ _ l0_1 a1 _ _ l2 false _ ?side1 ?side2 ?side3 ?side4 A4.out).mono ?_); (case side1 => exact zC (Kd.C_below HR0_1.out HB.out)); (case side2 => exact HC0_1.out); (case side3 => exact zC (Kd.C_below HR2.out HB.out)); (case side4 => exact HC2.out); rintro e w15 ⟨rfl, hb⟩; refine ⟨_, rfl, ?_⟩; replace BK293 := zM (blk_below (g := gb293) (o := .cells #[.int .i64 a0_0, .slice A0_1 l0_1.length c0_1] 29 (0, 0)) (zK BK293.out) hb); replace HB := zM (below_step zB hb); (try clear hb); (try clear hb2); (try clear hk); (try clear hi)))
   go_ret2
   exact ⟨by first | rfl | (simp [errW_none, errW_some] <;> rfl) | (simp [*, errW_none, errW_some] <;> rfl), zB⟩

/-! ### impl_isOfKind: function 59 -/
def impl_isOfKind.f (k : Nat) (a0_0 : Int) (l0_1 : List (S88)) (a1 : Int) (l2 : List Int) : Option (Bool) := (impl_HasKind.f k a0_0 l0_1 a1 l2).bind fun bt298 => (some bt298.1)
set_option maxHeartbeats 8000000 in
set_option maxRecDepth 100000 in
theorem impl_isOfKind.calls (k : Nat) (a0_0 : Int) (A0_1 : Option Addr) (c0_1 : Nat) (l0_1 : List (S88)) (a1 : Int) (A2 : Option Addr) (c2 : Nat) (l2 : List Int) (r : Bool) (w : World) (hr0_1 : Kd.C k88 w A0_1 l0_1.length l0_1) (hc0_1 : l0_1.length ≤ c0_1) (hr2 : Kd.C (Kd.int .i64) w A2 l2.length l2) (hc2 : l2.length ≤ c2) (h : impl_isOfKind.f k a0_0 l0_1 a1 l2 = some r) :
 Calls Try.prog 59 #[.agg #[.int .i64 a0_0, .slice A0_1 l0_1.length c0_1], .int .i64 a1, .slice A2 l2.length c2] w fun e w' => e = .returned (.bool r) ∧ Below w.heap.size w w' := by
 have hu29 := Try.underlying29
 have HR0_1 := Aside0.mk hr0_1
 have HC0_1 := Aside0.mk hc0_1
 clear hr0_1 hc0_1
 have HR2 := Aside0.mk hr2
 have HC2 := Aside0.mk hc2
 clear hr2 hc2
 have HB := zM (Below.refl w.heap.size w)
 have H : ((impl_HasKind.f k a0_0 l0_1 a1 l2).bind fun bt298 => (some bt298.1)) = some r := h
 clear h
 replace H := Option.bind_eq_some_iff.mp H
 obtain ⟨⟨t298, t299⟩, A40, H⟩ := H
 replace H : (some t298) = some r := H
 have A4 := Aside0.mk A40
 clear A40
 obtain rfl := Option.some.inj H
 go_enter Try.func59, Try.ntmps59
 go_wp2_with (first | ((with_reducible refine gate_dst (N := 3) rfl ?_); refine zb (w := w) 3 #[.int .i64 a0_0, .slice A0_1 l0_1.length c0_1] 29 zB ?_; clear HB; intro gb297 w5 HB BK297 GW297; have GE297 := GW297; have hcz6_0 := zy BK297 0; have hcz6_1 := zy BK297 1; have hfz6_0 := blk_frozen BK297.out 0; have hfz6_1 := blk_frozen BK297.out 1) | ((with_reducible refine gate_callee (f := 107) rfl ?_); refine zc 13 Try.func107 #[.agg #[.int .i64 a0_0, .slice A0_1 l0_1.length c0_1], .int .i64 a1, .slice A2 l2.length c2] ?_; (with_reducible refine (impl_HasKind.calls k a0_0 _ _ l0_1 a1 _ _ l2 t298 t299 _ ?side1 ?side2 ?side3 ?side4 A4.out).mono ?_); (case side1 => exact zC (Kd.C_below HR0_1.out HB.out)); (case side2 => exact HC0_1.out); (case side3 => exact zC (Kd.C_below HR2.out HB.out)); (case side4 => exact HC2.out); rintro e w7 ⟨rfl, hb⟩; refine ⟨_, rfl, ?_⟩; replace BK297 := zM (blk_below (g := gb297) (o := .cells #[.int .i64 a0_0, .slice A0_1 l0_1.length c0_1] 29 (0, 0)) (zK BK297.out) hb); replace HB := zM (below_step zB hb); (try clear hb); (try clear hb2); (try clear hk); (try clear hi)))
 go_ret
 exact ⟨by first | rfl | (simp [errW_none, errW_some] <;> rfl) | (simp [*, errW_none, errW_some] <;> rfl), zB⟩

end Go.Proofs.Ytnlmijnbfdhdkaa.P
namespace Go.Proofs.Ytnlmijnbfdhdkaa.P
open Go.RowKit Go.Proofs.YtnlmijnbfdhdkaaW.PrintWords Go.Proofs.YtnlmijnbfdhdkaaW.PrintLast Go.Proofs.YtnlmijnbfdhdkaaW.PrintMore
attribute [local go_sem] max2_int min2_int max_two min_two max_three min_three max_four min_four   -- for this text's walks alone
set_option linter.unusedVariables false
set_option linter.unusedSimpArgs false

/-! ### impl_GreedyTight: function 28 -/
def impl_GreedyTight.l0 : Nat → Int → Int → Int → Int → Int → List (S88) → Option (List Int × Bool)
 | 0, _, _, _, _, _, _ => none
 | k + 1, x1, x8, x18, x19, x451000, x451001 => if x19 < x18 then ((impl_bag_has.f x8 x19).bind fun t456 => (if (t456 != (x1 == 2)) = true then (if 0 ≤ x19 then ((impl_Graph_hasKind.f k x451000 x451001 x1 (Go.bits .xor .u64 x8 (shl .u64 1 x19))).bind fun t457 => (if t457 = true then (impl_GreedyTight.l0 k x1 (Go.bits .xor .u64 x8 (shl .u64 1 x19)) x18 (wrap64 (x19 + 1)) x451000 x451001) else (impl_GreedyTight.l0 k x1 x8 x18 (wrap64 (x19 + 1)) x451000 x451001))) else (none)) else (impl_GreedyTight.l0 k x1 x8 x18 (wrap64 (x19 + 1)) x451000 x451001))) else ((impl_bag_list.f k x8).bind fun t453 => (some (t453, true)))
def impl_GreedyTight.f (k : Nat) (a0_0 : Int) (l0_1 : List (S88)) (a1 : Int) (l2 : List Int) : Option (List Int × Bool) := (impl_isOfKind.f k a0_0 l0_1 a1 l2).bind fun t451 => (if t451 = true then ((impl_bagOf.f k l2).bind fun t452 => (impl_GreedyTight.l0 k a1 t452 a0_0 0 a0_0 l0_1)) else (some (([] : List Int), false)))
def impl_GreedyTight.T7 : Bool × List (List Nat × List Nat) := (true, [([], []), ([], []), ([0, 1], [0, 1]), ([], []), ([3], [3]), ([2, 4], [2, 4]), ([5, 2], [5]), ([6], [6]), ([6], [6]), ([6], [6]), ([6], [6]), ([10, 6], [6, 10]), ([9, 11, 6], [6, 9, 11]), ([7, 8, 12, 6, 6], [6, 7, 8, 12]), ([6, 13], [6, 13])])
def impl_GreedyTight.B7 : List Nat := [0, 0, 3, 0, 8, 31, 63, 127, 127, 127, 127, 1151, 3711, 8191, 16383]
theorem impl_GreedyTight.tab7 : rtab .any (opsOf Try.f28 7) = impl_GreedyTight.T7 := by kernel_rfl
theorem impl_GreedyTight.bits7 : waitsOk impl_GreedyTight.T7.2 impl_GreedyTight.B7 = true := by kernel_rfl
set_option maxHeartbeats 8000000 in
set_option maxRecDepth 100000 in
theorem impl_GreedyTight.calls (k : Nat) (a0_0 : Int) (A0_1 : Option Addr) (c0_1 : Nat) (l0_1 : List (S88)) (a1 : Int) (A2 : Option Addr) (c2 : Nat) (l2 : List Int) (r1 : List Int) (r2 : Bool) (w : World) (hr0_1 : Kd.C k88 w A0_1 l0_1.length l0_1) (hc0_1 : l0_1.length ≤ c0_1) (hr2 : Kd.C (Kd.int .i64) w A2 l2.length l2) (hc2 : l2.length ≤ c2) (h : impl_GreedyTight.f k a0_0 l0_1 a1 l2 = some (r1, r2)) :
 Calls Try.prog 28 #[.agg #[.int .i64 a0_0, .slice A0_1 l0_1.length c0_1], .int .i64 a1, .slice A2 l2.length c2] w fun e w' => ∃ v0_ : Value, e = .returned (.tuple #[v0_, .bool r2]) ∧ Kd.R (Kd.int .i64) 3 w' w.heap.size (fun _ => True) v0_ r1 ∧ Below w.heap.size w w' := by
 have hu29 := Try.underlying29
 have HR0_1 := Aside0.mk hr0_1
 have HC0_1 := Aside0.mk hc0_1
 clear hr0_1 hc0_1
 have HR2 := Aside0.mk hr2
 have HC2 := Aside0.mk hc2
 clear hr2 hc2
 have HB := zM (Below.refl w.heap.size w)
 have H : ((impl_isOfKind.f k a0_0 l0_1 a1 l2).bind fun t451 => (if t451 = true then ((impl_bagOf.f k l2).bind fun t452 => (impl_GreedyTight.l0 k a1 t452 a0_0 0 a0_0 l0_1)) else (some (([] : List Int), false)))) = some (r1, r2) := h
 clear h
 replace H := Option.bind_eq_some_iff.mp H
 obtain ⟨t451, A40, H⟩ := H
 replace H : (if t451 = true then ((impl_bagOf.f k l2).bind fun t452 => (impl_GreedyTight.l0 k a1 t452 a0_0 0 a0_0 l0_1)) else (some (([] : List Int), false))) = some (r1, r2) := H
 have A4 := Aside0.mk A40
 clear A40
 by_cases c5 : t451 = true
 · subst c5
   have H1 : ((impl_bagOf.f k l2).bind fun t452 => (impl_GreedyTight.l0 k a1 t452 a0_0 0 a0_0 l0_1)) = some (r1, r2) := by rw [if_pos rfl] at H; exact H
   clear H
   have H := H1
   clear H1
   replace H := Option.bind_eq_some_iff.mp H
   obtain ⟨t452, A60, H⟩ := H
   replace H : (impl_GreedyTight.l0 k a1 t452 a0_0 0 a0_0 l0_1) = some (r1, r2) := H
   have A6 := Aside0.mk A60
   clear A60
   have H' := Aside0.mk H
   clear H
   go_enter Try.func28, Try.ntmps28
   go_wp2_with (first | ((with_reducible refine gate_dst (N := 3) rfl ?_); refine zb (w := w) 3 #[.int .i64 a0_0, .slice A0_1 l0_1.length c0_1] 29 zB ?_; clear HB; intro gb450 w7 HB BK450 GW450; have GE450 := GW450; have hcz8_0 := zy BK450 0; have hcz8_1 := zy BK450 1; have hfz8_0 := blk_frozen BK450.out 0; have hfz8_1 := blk_frozen BK450.out 1) | ((with_reducible refine gate_callee (f := 59) rfl ?_); refine zc 13 Try.func59 #[.agg #[.int .i64 a0_0, .slice A0_1 l0_1.length c0_1], .int .i64 a1, .slice A2 l2.length c2] ?_; (with_reducible refine (impl_isOfKind.calls k a0_0 _ _ l0_1 a1 _ _ l2 true _ ?side1 ?side2 ?side3 ?side4 A4.out).mono ?_); (case side1 => exact zC (Kd.C_below HR0_1.out HB.out)); (case side2 => exact HC0_1.out); (case side3 => exact zC (Kd.C_below HR2.out HB.out)); (case side4 => exact HC2.out); rintro e w9 ⟨rfl, hb⟩; refine ⟨_, rfl, ?_⟩; replace BK450 := zM (blk_below (g := gb450) (o := .cells #[.int .i64 a0_0, .slice A0_1 l0_1.length c0_1] 29 (0, 0)) (zK BK450.out) hb); replace HB := zM (below_step zB hb); (try clear hb); (try clear hb2); (try clear hk); (try clear hi)) | ((with_reducible refine gate_callee (f := 61) rfl ?_); refine zc 16 Try.func61 #[.slice A2 l2.length c2] ?_; (with_reducible refine (impl_bagOf.calls k _ _ l2 t452 _ ?side1 ?side2 A6.out).mono ?_); (case side1 => exact zC (Kd.C_below HR2.out HB.out)); (case side2 => exact HC2.out); rintro e w' ⟨rfl, ⟨nd, rfl⟩⟩; refine ⟨_, rfl, ?_⟩; have hcz10_0 := zy BK450 0; have hcz10_1 := zy BK450 1; have hfz10_0 := blk_frozen BK450.out 0; have hfz10_1 := blk_frozen BK450.out 1))
   go_loopg [8, 19] k (fun kq v8 v19 w' => ∃ (x8_1 : Int) (x19_1 : Int), v8 = .int .u64 x8_1 ∧ v19 = .int .i64 x19_1 ∧ Aside0 (impl_GreedyTight.l0 kq a1 x8_1 a0_0 x19_1 a0_0 l0_1 = some (r1, r2)) ∧ Aside0 (kq ≤ k) ∧ Aside0 (w'.heap[gb450]? = some (.cells #[.int .i64 a0_0, (.slice A0_1 l0_1.length c0_1)] 29 (0, 0))) ∧ Aside0 (Below w.heap.size w w'))
   case atStart => exact ⟨(t452), (0), (by first | rfl | (simp; done) | (simp [*]; done)), (by first | rfl | (simp; done) | (simp [*]; done)), H', ⟨Nat.le_refl _⟩, ⟨zK BK450.out⟩, ⟨zB⟩⟩
   case round =>
    clear H'
    try clear c2
    try clear p2
    try clear c5
    try clear c6
    try clear hcz10_0
    try clear hcz10_1
    try clear hcz8_0
    try clear hcz8_1
    try clear hfz10_0
    try clear hfz10_1
    try clear hfz8_0
    try clear hfz8_1
    obtain ⟨x8_1, x19_1, rfl, rfl, HA, HK1, BK450, HB⟩ := hrel
    cases gk with
    | zero => exact absurd HA.out (by simp [impl_GreedyTight.l0])
    | succ k1 =>
     have H := HA.out
     clear HA
     simp only [impl_GreedyTight.l0] at H
     by_cases c11 : x19_1 < a0_0
     · rw [if_pos c11] at H
       have c11b0 := decide_eq_true c11
       clear c11
       replace H := Option.bind_eq_some_iff.mp H
       obtain ⟨t456, A120, H⟩ := H
       replace H : (if (t456 != (a1 == 2)) = true then (if 0 ≤ x19_1 then ((impl_Graph_hasKind.f k1 a0_0 l0_1 a1 (Go.bits .xor .u64 x8_1 (shl .u64 1 x19_1))).bind fun t457 => (if t457 = true then (impl_GreedyTight.l0 k1 a1 (Go.bits .xor .u64 x8_1 (shl .u64 1 x19_1)) a0_0 (wrap64 (x19_1 + 1)) a0_0 l0_1) else (impl_GreedyTight.l0 k1 a1 x8_1 a0_0 (wrap64 (x19_1 + 1)) a0_0 l0_1))) else (none)) else (impl_GreedyTight.l0 k1 a1 x8_1 a0_0 (wrap64 (x19_1 + 1)) a0_0 l0_1)) = some (r1, r2) := H
       have A12 := Aside0.mk A120
       clear A120
       by_cases c13 : (t456 != (a1 == 2)) = true
       · rw [if_pos c13] at H
         have c13b0 : (t456 != (a1 == 2)) = true := c13
         (try (have c13b1 : decide (t456 = (a1 == 2)) = false := by simpa using c13))
         (try (have c13b2 : (t456 == (a1 == 2)) = false := by simpa using c13))
         (try (have c13b3 : ¬ (t456 = (a1 == 2)) := by simpa using c13))
         clear c13
         by_cases c14 : 0 ≤ x19_1
         · rw [if_pos c14] at H
           have c14b0 := eq_true c14
           have c14b1 : decide (0 ≤ x19_1) = true := decide_eq_true c14
           clear c14
           obtain ⟨ji15, hji15⟩ : ∃ j_ : Int, (shl .u64 1 x19_1) = j_ := ⟨_, rfl⟩
           replace H : ((impl_Graph_hasKind.f k1 a0_0 l0_1 a1 (Go.bits .xor .u64 x8_1 (ji15))).bind fun t457 => (if t457 = true then (impl_GreedyTight.l0 k1 a1 (Go.bits .xor .u64 x8_1 (ji15)) a0_0 (wrap64 (x19_1 + 1)) a0_0 l0_1) else (impl_GreedyTight.l0 k1 a1 x8_1 a0_0 (wrap64 (x19_1 + 1)) a0_0 l0_1))) = some (r1, r2) := by first | (rw [hji15] at H; exact H) | (simp only [hji15] at H ⊢; exact H)
           (try rw [hji15] at A12)
           have hji15_ : (IntKind.u64.wrap (1 * 2 ^ min x19_1.toNat 64)) = ji15 := hji15
           have hji15z : x19_1 ≤ 64 → (IntKind.u64.wrap (1 * 2 ^ x19_1.toNat)) = ji15 := shl_small hji15
           have hji15u : (IntKind.u64.wrap (2 ^ min x19_1.toNat 64)) = ji15 := by have h_ := hji15_; rw [Int.one_mul] at h_; exact h_
           have hji15v : x19_1 ≤ 64 → (IntKind.u64.wrap (2 ^ x19_1.toNat)) = ji15 := fun hle_ => by have h_ := hji15z hle_; rw [Int.one_mul] at h_; exact h_
           replace H := Option.bind_eq_some_iff.mp H
           obtain ⟨t457, A160, H⟩ := H
           replace H : (if t457 = true then (impl_GreedyTight.l0 k1 a1 (Go.bits .xor .u64 x8_1 (ji15)) a0_0 (wrap64 (x19_1 + 1)) a0_0 l0_1) else (impl_GreedyTight.l0 k1 a1 x8_1 a0_0 (wrap64 (x19_1 + 1)) a0_0 l0_1)) = some (r1, r2) := H
           have A16 := Aside0.mk A160
           clear A160
           by_cases c17 : t457 = true
           · subst c17
             have H1 : (impl_GreedyTight.l0 k1 a1 (Go.bits .xor .u64 x8_1 (ji15)) a0_0 (wrap64 (x19_1 + 1)) a0_0 l0_1) = some (r1, r2) := by rw [if_pos rfl] at H; exact H
             clear H
             have H := H1
             clear H1
             have c18b0 := eq_true (of_decide_eq_true zA : 0 ≤ x19_1)
             have H' := Aside0.mk H
             clear H
             try go_wp2
             replace BK450 := zM (blk_drew BK450.out)
             replace HB := zM (below_drew1 HB.out)
             refine zs (n := 15) (fun w' => w'.cell? ⟨gb450, 0, none⟩ = some (.int .i64 a0_0) ∧ w'.cell? ⟨gb450, 1, none⟩ = some (.slice A0_1 l0_1.length c0_1)) ⟨(blk_cell BK450.out 0).trans rfl, (blk_cell BK450.out 1).trans rfl⟩ (fun hHeld => ?_); refine with_tabW impl_GreedyTight.tab7 impl_GreedyTight.bits7 (fun HT_ HW_ => ?_)
             generalize wr.drew = w20 at BK450 HB hHeld ⊢
             refine zp HT_ 0 22 ?_
             refine zp HT_ 1 23 ?_
             refine zp HT_ 3 25 ?_
             refine zp HT_ 4 26 ?_
             refine zg HT_ 2 24 Try.func69 #[.int .u64 x8_1, .int .i64 x19_1] (fun K hK => ?_)
             with_reducible refine (impl_bag_has.calls x8_1 x19_1 t456 _ A12.out).mono ?_
             rintro e w' ⟨rfl, ⟨nd, rfl⟩⟩
             refine ⟨_, rfl, ?_⟩
             refine hK.out _ _ ⟨(blk_cell BK450.out 0).trans rfl, (blk_cell BK450.out 1).trans rfl⟩ (fun hHeld => ?_)
             clear hK K
             refine zn 24 ?_
             refine zp HT_ 5 27 ?_
             refine zp HT_ 6 28 ?_
             refine zp HT_ 8 30 ?_
             refine zp HT_ 9 31 ?_
             refine zp HT_ 10 32 ?_
             refine zp HT_ 11 33 ?_
             refine zp HT_ 12 34 ?_
             refine zt HT_ HW_ 7 29 hHeld ?_ (hy := by rintro w' ⟨s0, s1⟩; go_simp; with_reducible rfl)
             refine one_ (i := 13) (N := some 35) #[true, true, true, true, true, true, true, true, true, true, true, true, true, true, false] rfl rfl (one_of HT_.out (by kernel_rfl)) (by decide) (fun K hK => ?_)
             refine goes_ Try.func65 (by kernel_rfl) rfl #[.agg #[.int .i64 a0_0, .slice A0_1 l0_1.length c0_1], .int .i64 a1, .int .u64 (Go.bits .xor .u64 x8_1 (ji15))] (by rfl) rfl rfl (by (try simp only [List.map_toArray, List.map_cons, List.map_nil]); first | done | (simp only [hji15]; rfl) | rfl | (simp only [List.length_drop, List.length_take]; rfl)) ?_
             with_reducible refine (impl_Graph_hasKind.calls k1 a0_0 _ _ l0_1 a1 (Go.bits .xor .u64 x8_1 (ji15)) true _ ?side1 ?side2 A16.out).mono ?_
             (case side1 => exact zC (Kd.C_below HR0_1.out zB))
             (case side2 => exact HC0_1.out)
             rintro e w21 ⟨rfl, hb⟩
             refine ⟨_, rfl, ?_⟩
             replace BK450 := zM (blk_below (g := gb450) (o := .cells #[.int .i64 a0_0, .slice A0_1 l0_1.length c0_1] 29 (0, 0)) (zK BK450.out) hb)
             replace HB := zM (below_step zB hb)
             (try clear hb)
             (try clear hb2)
             (try clear hk)
             (try clear hi)
             refine hK.out _ _ ⟨(blk_cell BK450.out 0).trans rfl, (blk_cell BK450.out 1).trans rfl⟩ (fun hHeld => ?_)
             clear hK K
             refine zn 35 ?_
             refine zp HT_ 14 36 ?_
             refine zo HT_ ?_
             try go_wp2
             go_roundg k1
             case measure => have := HK1.out; omega
             case rel => exact ⟨(Go.bits .xor .u64 x8_1 (ji15)), (wrap64 (x19_1 + 1)), (by first | rfl | (simp; done) | (simp only [← hji15] <;> (first | rfl | simp)) | (simp [*]; done)), (by first | rfl | (simp; done) | (simp [*]; done)), H', ⟨by have := HK1.out; omega⟩, ⟨zK BK450.out⟩, ⟨zB⟩⟩
           · replace c17 := Bool.eq_false_iff.mpr c17
             subst c17
             have H1 : (impl_GreedyTight.l0 k1 a1 x8_1 a0_0 (wrap64 (x19_1 + 1)) a0_0 l0_1) = some (r1, r2) := by rw [if_neg (show ¬ (false = true) by decide)] at H; exact H
             clear H
             have H := H1
             clear H1
             have H' := Aside0.mk H
             clear H
             try go_wp2
             replace BK450 := zM (blk_drew BK450.out)
             replace HB := zM (below_drew1 HB.out)
             refine zs (n := 15) (fun w' => w'.cell? ⟨gb450, 0, none⟩ = some (.int .i64 a0_0) ∧ w'.cell? ⟨gb450, 1, none⟩ = some (.slice A0_1 l0_1.length c0_1)) ⟨(blk_cell BK450.out 0).trans rfl, (blk_cell BK450.out 1).trans rfl⟩ (fun hHeld => ?_); refine with_tabW impl_GreedyTight.tab7 impl_GreedyTight.bits7 (fun HT_ HW_ => ?_)
             generalize wr.drew = w22 at BK450 HB hHeld ⊢
             refine zp HT_ 0 22 ?_
             refine zp HT_ 1 23 ?_
             refine zp HT_ 3 25 ?_
             refine zp HT_ 4 26 ?_
             refine zg HT_ 2 24 Try.func69 #[.int .u64 x8_1, .int .i64 x19_1] (fun K hK => ?_)
             with_reducible refine (impl_bag_has.calls x8_1 x19_1 t456 _ A12.out).mono ?_
             rintro e w' ⟨rfl, ⟨nd, rfl⟩⟩
             refine ⟨_, rfl, ?_⟩
             refine hK.out _ _ ⟨(blk_cell BK450.out 0).trans rfl, (blk_cell BK450.out 1).trans rfl⟩ (fun hHeld => ?_)
             clear hK K
             refine zn 24 ?_
             refine zp HT_ 5 27 ?_
             refine zp HT_ 6 28 ?_
             refine zp HT_ 8 30 ?_
             refine zp HT_ 9 31 ?_
             refine zp HT_ 10 32 ?_
             refine zp HT_ 11 33 ?_
             refine zp HT_ 12 34 ?_
             refine zt HT_ HW_ 7 29 hHeld ?_ (hy := by rintro w' ⟨s0, s1⟩; go_simp; with_reducible rfl)
             refine one_ (i := 13) (N := some 35) #[true, true, true, true, true, true, true, true, true, true, true, true, true, true, false] rfl rfl (one_of HT_.out (by kernel_rfl)) (by decide) (fun K hK => ?_)
             refine goes_ Try.func65 (by kernel_rfl) rfl #[.agg #[.int .i64 a0_0, .slice A0_1 l0_1.length c0_1], .int .i64 a1, .int .u64 (Go.bits .xor .u64 x8_1 (ji15))] (by rfl) rfl rfl (by (try simp only [List.map_toArray, List.map_cons, List.map_nil]); first | done | (simp only [hji15]; rfl) | rfl | (simp only [List.length_drop, List.length_take]; rfl)) ?_
             with_reducible refine (impl_Graph_hasKind.calls k1 a0_0 _ _ l0_1 a1 (Go.bits .xor .u64 x8_1 (ji15)) false _ ?side1 ?side2 A16.out).mono ?_
             (case side1 => exact zC (Kd.C_below HR0_1.out zB))
             (case side2 => exact HC0_1.out)
             rintro e w23 ⟨rfl, hb⟩
             refine ⟨_, rfl, ?_⟩
             replace BK450 := zM (blk_below (g := gb450) (o := .cells #[.int .i64 a0_0, .slice A0_1 l0_1.length c0_1] 29 (0, 0)) (zK BK450.out) hb)
             replace HB := zM (below_step zB hb)
             (try clear hb)
             (try clear hb2)
             (try clear hk)
             (try clear hi)
             refine hK.out _ _ ⟨(blk_cell BK450.out 0).trans rfl, (blk_cell BK450.out 1).trans rfl⟩ (fun hHeld => ?_)
             clear hK K
             refine zn 35 ?_
             refine zp HT_ 14 36 ?_
             refine zo HT_ ?_
             try go_wp2
             go_roundg k1
             case measure => have := HK1.out; omega
             case rel => exact ⟨(x8_1), (wrap64 (x19_1 + 1)), (by first | rfl | (simp; done) | (simp [*]; done)), (by first | rfl | (simp; done) | (simp [*]; done)), H', ⟨by have := HK1.out; omega⟩, ⟨zK BK450.out⟩, ⟨zB⟩⟩
         · rw [if_neg c14] at H
           exact absurd H (by simp)
       · rw [if_neg c13] at H
         have c13b0 : (t456 != (a1 == 2)) = false := by simpa using c13
         (try (have c13b1 : decide (t456 = (a1 == 2)) = true := by simpa using c13))
         (try (have c13b2 : (t456 == (a1 == 2)) = true := by simpa using c13))
         clear c13
         have H' := Aside0.mk H
         clear H
         try go_wp2
         replace BK450 := zM (blk_drew BK450.out)
         replace HB := zM (below_drew1 HB.out)
         refine zs (n := 15) (fun w' => True) trivial (fun hHeld => ?_); refine with_tabW impl_GreedyTight.tab7 impl_GreedyTight.bits7 (fun HT_ HW_ => ?_)
         generalize wr.drew = w24 at BK450 HB hHeld ⊢
         refine zp HT_ 0 22 ?_
         refine zp HT_ 1 23 ?_
         refine zp HT_ 3 25 ?_
         refine zp HT_ 4 26 ?_
         refine zg HT_ 2 24 Try.func69 #[.int .u64 x8_1, .int .i64 x19_1] (fun K hK => ?_)
         with_reducible refine (impl_bag_has.calls x8_1 x19_1 t456 _ A12.out).mono ?_
         rintro e w' ⟨rfl, ⟨nd, rfl⟩⟩
         refine ⟨_, rfl, ?_⟩
         refine hK.out _ _ trivial (fun hHeld => ?_)
         clear hK K
         refine zn 24 ?_
         refine zp HT_ 5 27 ?_
         refine zp HT_ 6 28 ?_
         refine zu HT_ 7 29 ?_
         refine zu HT_ 8 30 ?_
         refine zu HT_ 9 31 ?_
         refine zu HT_ 10 32 ?_
         refine zu HT_ 11 33 ?_
         refine zu HT_ 12 34 ?_
         refine zu HT_ 13 35 ?_
         refine zp HT_ 14 36 ?_
         refine zo HT_ ?_
         try go_wp2
         go_roundg k1
         case measure => have := HK1.out; omega
         case rel => exact ⟨(x8_1), (wrap64 (x19_1 + 1)), (by first | rfl | (simp; done) | (simp [*]; done)), (by first | rfl | (simp; done) | (simp [*]; done)), H', ⟨by have := HK1.out; omega⟩, ⟨zK BK450.out⟩, ⟨zB⟩⟩
     · rw [if_neg c11] at H
       have c11b0 : decide (x19_1 < a0_0) = false := decide_eq_false c11
       clear c11
       replace H := Option.bind_eq_some_iff.mp H
       obtain ⟨t453, A250, H⟩ := H
       replace H : (some (t453, true)) = some (r1, r2) := H
       have A25 := Aside0.mk A250
       clear A250
       simp only [Option.some.injEq, Prod.mk.injEq] at H
       obtain ⟨rfl, rfl⟩ := H
       go_wp2_with (first | ((with_reducible refine gate_callee (f := 70) rfl ?_); refine zc 43 Try.func70 #[.int .u64 x8_1] ?_; (with_reducible refine (impl_bag_list.calls k1 x8_1 t453 _ A25.out).mono ?_); rintro e w26 ⟨v454, rfl, ho0, hb⟩; refine ⟨_, rfl, ?_⟩; have HO455 := zM (Kd.R_lower ho0 (below_size zB)); replace BK450 := zM (blk_below (g := gb450) (o := .cells #[.int .i64 a0_0, .slice A0_1 l0_1.length c0_1] 29 (0, 0)) (zK BK450.out) hb); replace HB := zM (below_step zB hb); (try clear hb); (try clear hb2); (try clear hk); (try clear hi); (try clear ho0)))
       go_ret2
       exact ⟨_, by first | rfl | (simp [errW_none, errW_some] <;> rfl) | (simp [*, errW_none, errW_some] <;> rfl), by (with_reducible repeat (first | apply Kd.R_alloc | apply Kd.R_drewN | apply Kd.R_drew)); exact HO455.out, zB⟩
 · replace c5 := Bool.eq_false_iff.mpr c5
   subst c5
   have H1 : (some (([] : List Int), false)) = some (r1, r2) := by rw [if_neg (show ¬ (false = true) by decide)] at H; exact H
   clear H
   have H := H1
   clear H1
   simp only [Option.some.injEq, Prod.mk.injEq] at H
   obtain ⟨rfl, rfl⟩ := H
   go_enter Try.func28, Try.ntmps28
   go_wp2_with (first | ((with_reducible refine gate_dst (N := 3) rfl ?_); refine zb (w := w) 3 #[.int .i64 a0_0, .slice A0_1 l0_1.length c0_1] 29 zB ?_; clear HB; intro gb450 w27 HB BK450 GW450; have GE450 := GW450; have hcz28_0 := zy BK450 0; have hcz28_1 := zy BK450 1; have hfz28_0 := blk_frozen BK450.out 0; have hfz28_1 := blk_frozen BK450.out 1) | ((with_reducible refine gate_callee (f := 59) rfl ?_); refine zc 13 Try.func59 #[.agg #[.int .i64 a0_0, .slice A0_1 l0_1.length c0_1], .int .i64 a1, .slice A2 l2.length c2] ?_; (with_reducible refine (impl_isOfKind.calls k a0_0 _ _ l0_1 a1 _ _ l2 false _ ?side1 ?side2 ?side3 ?side4 A4.out).mono ?_); (case side1 => exact zC (Kd.C_below HR0_1.out HB.out)); (case side2 => exact HC0_1.out); (case side3 => exact zC (Kd.C_below HR2.out HB.out)); (case side4 => exact HC2.out); rintro e w29 ⟨rfl, hb⟩; refine ⟨_, rfl, ?_⟩; replace BK450 := zM (blk_below (g := gb450) (o := .cells #[.int .i64 a0_0, .slice A0_1 l0_1.length c0_1] 29 (0, 0)) (zK BK450.out) hb); replace HB := zM (below_step zB hb); (try clear hb); (try clear hb2); (try clear hk); (try clear hi)))
   go_ret2
   exact ⟨_, by first | rfl | (simp [errW_none, errW_some] <;> rfl) | (simp [*, errW_none, errW_some] <;> rfl), by first | exact Kd.R_nil _ _ _ _ _ | exact Kd.N_nil _ _ _ _ _ | exact Kd.V_nil _ _ _ _ _ | exact Kd.Q_nil _ _ _ _ _ | exact Kd.S_nil _ _ _ _ _, zB⟩

end Go.Proofs.Ytnlmijnbfdhdkaa.P
