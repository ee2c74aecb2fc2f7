-- Written by a program of this session (the kit's print, turned: wip/print/patch.py) out of the translation. Not trusted: Lean checks it.
import Derived.Test.YtnlmijnbfdhdkaaIsTightSetG3
import Derived.Test.YtnlmijnbfdhdkaaIsTightSetG8
import Derived.Test.YtnlmijnbfdhdkaaIsTightSetG10
import Derived.Test.YtnlmijnbfdhdkaaIsTightSetG11
namespace Go.Proofs.Ytnlmijnbfdhdkaa.P
open Go.RowKit Go.Proofs.YtnlmijnbfdhdkaaW.PrintWords Go.Proofs.YtnlmijnbfdhdkaaW.PrintLast Go.Proofs.YtnlmijnbfdhdkaaW.PrintMore
attribute [local go_sem] max2_int min2_int max_two min_two max_three min_three max_four min_four   -- for this text's walks alone
set_option linter.unusedVariables false
set_option linter.unusedSimpArgs false

/-! ### impl_IsGraph: function 95 -/
def impl_IsGraph.f (k : Nat) (a0_0 : Int) (l0_1 : List (S88)) : Option (Bool) := (impl_between.f a0_0 0 8).bind fun t286 => (if t286 = true then ((impl_isPairs.f k l0_1 a0_0).bind fun t287 => (some t287)) else (some false))
set_option maxHeartbeats 8000000 in
set_option maxRecDepth 100000 in
theorem impl_IsGraph.calls (k : Nat) (a0_0 : Int) (A0_1 : Option Addr) (c0_1 : Nat) (l0_1 : List (S88)) (r : Bool) (w : World) (hr0_1 : Kd.C k88 w A0_1 l0_1.length l0_1) (hc0_1 : l0_1.length ≤ c0_1) (h : impl_IsGraph.f k a0_0 l0_1 = some r) :
 Calls Try.prog 95 #[.agg #[.int .i64 a0_0, .slice A0_1 l0_1.length c0_1]] w fun e w' => e = .returned (.bool r) ∧ Below w.heap.size w w' := by
 have hu29 := Try.underlying29
 have HR0_1 := Aside0.mk hr0_1
 have HC0_1 := Aside0.mk hc0_1
 clear hr0_1 hc0_1
 have HB := zM (Below.refl w.heap.size w)
 have H : ((impl_between.f a0_0 0 8).bind fun t286 => (if t286 = true then ((impl_isPairs.f k l0_1 a0_0).bind fun t287 => (some t287)) else (some false))) = some r := h
 clear h
 replace H := Option.bind_eq_some_iff.mp H
 obtain ⟨t286, A20, H⟩ := H
 have A2 := Aside0.mk A20
 clear A20
 by_cases c3 : t286 = true
 · subst c3
   rw [if_pos rfl] at H
   replace H := Option.bind_eq_some_iff.mp H
   obtain ⟨t287, A40, H⟩ := H
   have A4 := Aside0.mk A40
   clear A40
   obtain rfl := Option.some.inj H
   go_enter Try.func95, Try.ntmps95
   go_wp2_with (first | ((with_reducible refine gate_dst (N := 1) rfl ?_); refine zb (w := w) 1 #[.int .i64 a0_0, .slice A0_1 l0_1.length c0_1] 29 zB ?_; clear HB; intro gb285 w5 HB BK285 GW285; have GE285 := GW285; have hcz6_0 := zy BK285 0; have hcz6_1 := zy BK285 1; have hfz6_0 := blk_frozen BK285.out 0; have hfz6_1 := blk_frozen BK285.out 1) | ((with_reducible refine gate_callee (f := 99) rfl ?_); refine zc 5 Try.func99 #[.int .i64 a0_0, .int .i64 0, .int .i64 8] ?_; (with_reducible refine (impl_between.calls a0_0 0 8 true _ A2.out).mono ?_); rintro e w' ⟨rfl, ⟨nd, rfl⟩⟩; refine ⟨_, rfl, ?_⟩) | (go_at_call 128; (with_reducible refine (impl_isPairs.calls k _ _ l0_1 a0_0 t287 _ ?side1 ?side2 A4.out).mono ?_); (case side1 => exact zC (Kd.C_below HR0_1.out zB)); (case side2 => exact HC0_1.out); rintro e w7 ⟨rfl, hb⟩; replace BK285 := zM (blk_below (g := gb285) (o := .cells #[.int .i64 a0_0, .slice A0_1 l0_1.length c0_1] 29 (0, 0)) (zK BK285.out) hb); replace HB := zM (below_step zB hb); (try clear hb); (try clear hb2); (try clear hk); (try clear hi)))
   go_ret
   exact ⟨by first | rfl | (simp [errW_none, errW_some] <;> rfl) | (simp [*, errW_none, errW_some] <;> rfl), zB⟩
 · replace c3 := Bool.eq_false_iff.mpr c3
   subst c3
   have H1 : (some false) = some r := by rw [if_neg (show ¬ (false = true) by decide)] at H; exact H
   clear H
   have H := H1
   clear H1
   obtain rfl := Option.some.inj H
   go_enter Try.func95, Try.ntmps95
   go_wp2_with (first | ((with_reducible refine gate_dst (N := 1) rfl ?_); refine zb (w := w) 1 #[.int .i64 a0_0, .slice A0_1 l0_1.length c0_1] 29 zB ?_; clear HB; intro gb285 w8 HB BK285 GW285; have GE285 := GW285; have hcz9_0 := zy BK285 0; have hcz9_1 := zy BK285 1; have hfz9_0 := blk_frozen BK285.out 0; have hfz9_1 := blk_frozen BK285.out 1) | ((with_reducible refine gate_callee (f := 99) rfl ?_); refine zc 5 Try.func99 #[.int .i64 a0_0, .int .i64 0, .int .i64 8] ?_; (with_reducible refine (impl_between.calls a0_0 0 8 false _ A2.out).mono ?_); rintro e w' ⟨rfl, ⟨nd, rfl⟩⟩; refine ⟨_, rfl, ?_⟩))
   go_ret
   exact ⟨by first | rfl | (simp [errW_none, errW_some] <;> rfl) | (simp [*, errW_none, errW_some] <;> rfl), zB⟩

/-! ### impl_isKind: function 157 -/
def impl_isKind.f (a0 : Int) : Option (Bool) := (impl_between.f a0 1 3).bind fun t288 => (some t288)
set_option maxHeartbeats 8000000 in
set_option maxRecDepth 100000 in
theorem impl_isKind.calls (a0 : Int) (r : Bool) (w : World) (h : impl_isKind.f a0 = some r) :
 Calls Try.prog 157 #[.int .i64 a0] w fun e w' => e = .returned (.bool r) ∧ Drawn0 w w' := by
 have H : ((impl_between.f a0 1 3).bind fun t288 => (some t288)) = some r := h
 clear h
 replace H := Option.bind_eq_some_iff.mp H
 obtain ⟨t288, A20, H⟩ := H
 have A2 := Aside0.mk A20
 clear A20
 obtain rfl := Option.some.inj H
 go_enter Try.func157, Try.ntmps157
 go_wp2_with (first | ((with_reducible refine gate_callee (f := 99) rfl ?_); refine zc 4 Try.func99 #[.int .i64 a0, .int .i64 1, .int .i64 3] ?_; (with_reducible refine (impl_between.calls a0 1 3 t288 _ A2.out).mono ?_); rintro e w' ⟨rfl, ⟨nd, rfl⟩⟩; refine ⟨_, rfl, ?_⟩))
 go_ret
 exact ⟨by first | rfl | (simp; done) | (simp [*]; done), by repeat (first | exact Drawn0.refl _ | apply Drawn0.step)⟩

/-! ### impl_isSetCase: function 139 -/
def impl_isSetCase.f (k : Nat) (a0_0 : Int) (l0_1 : List (S88)) (a1 : Int) (l2 : List Int) : Option (Bool) := (impl_IsGraph.f k a0_0 l0_1).bind fun t290 => (if t290 = true then ((impl_isKind.f a1).bind fun t291 => (if t291 = true then ((impl_isRising.f k l2 a0_0).bind fun t292 => (some t292)) else (some false))) else (some false))
set_option maxHeartbeats 8000000 in
set_option maxRecDepth 100000 in
theorem impl_isSetCase.calls (k : Nat) (a0_0 : Int) (A0_1 : Option Addr) (c0_1 : Nat) (l0_1 : List (S88)) (a1 : Int) (A2 : Option Addr) (c2 : Nat) (l2 : List Int) (r : Bool) (w : World) (hr0_1 : Kd.C k88 w A0_1 l0_1.length l0_1) (hc0_1 : l0_1.length ≤ c0_1) (hr2 : Kd.C (Kd.int .i64) w A2 l2.length l2) (hc2 : l2.length ≤ c2) (h : impl_isSetCase.f k a0_0 l0_1 a1 l2 = some r) :
 Calls Try.prog 139 #[.agg #[.int .i64 a0_0, .slice A0_1 l0_1.length c0_1], .int .i64 a1, .slice A2 l2.length c2] w fun e w' => e = .returned (.bool r) ∧ Below w.heap.size w w' := by
 have hu29 := Try.underlying29
 have HR0_1 := Aside0.mk hr0_1
 have HC0_1 := Aside0.mk hc0_1
 clear hr0_1 hc0_1
 have HR2 := Aside0.mk hr2
 have HC2 := Aside0.mk hc2
 clear hr2 hc2
 have HB := zM (Below.refl w.heap.size w)
 have H : ((impl_IsGraph.f k a0_0 l0_1).bind fun t290 => (if t290 = true then ((impl_isKind.f a1).bind fun t291 => (if t291 = true then ((impl_isRising.f k l2 a0_0).bind fun t292 => (some t292)) else (some false))) else (some false))) = some r := h
 clear h
 replace H := Option.bind_eq_some_iff.mp H
 obtain ⟨t290, A40, H⟩ := H
 have A4 := Aside0.mk A40
 clear A40
 by_cases c5 : t290 = true
 · subst c5
   rw [if_pos rfl] at H
   replace H := Option.bind_eq_some_iff.mp H
   obtain ⟨t291, A60, H⟩ := H
   have A6 := Aside0.mk A60
   clear A60
   by_cases c7 : t291 = true
   · subst c7
     rw [if_pos rfl] at H
     replace H := Option.bind_eq_some_iff.mp H
     obtain ⟨t292, A80, H⟩ := H
     have A8 := Aside0.mk A80
     clear A80
     obtain rfl := Option.some.inj H
     go_enter Try.func139, Try.ntmps139
     go_wp2_with (first | ((with_reducible refine gate_dst (N := 3) rfl ?_); refine zb (w := w) 3 #[.int .i64 a0_0, .slice A0_1 l0_1.length c0_1] 29 zB ?_; clear HB; intro gb289 w9 HB BK289 GW289; have GE289 := GW289; have hcz10_0 := zy BK289 0; have hcz10_1 := zy BK289 1; have hfz10_0 := blk_frozen BK289.out 0; have hfz10_1 := blk_frozen BK289.out 1) | ((with_reducible refine gate_callee (f := 95) rfl ?_); refine zc 8 Try.func95 #[.agg #[.int .i64 a0_0, .slice A0_1 l0_1.length c0_1]] ?_; (with_reducible refine (impl_IsGraph.calls k a0_0 _ _ l0_1 true _ ?side1 ?side2 A4.out).mono ?_); (case side1 => exact zC (Kd.C_below HR0_1.out HB.out)); (case side2 => exact HC0_1.out); rintro e w11 ⟨rfl, hb⟩; refine ⟨_, rfl, ?_⟩; replace BK289 := zM (blk_below (g := gb289) (o := .cells #[.int .i64 a0_0, .slice A0_1 l0_1.length c0_1] 29 (0, 0)) (zK BK289.out) hb); replace HB := zM (below_step zB hb); (try clear hb); (try clear hb2); (try clear hk); (try clear hi)) | (go_at_call 157; (with_reducible refine (impl_isKind.calls a1 true _ A6.out).mono ?_); rintro e w' ⟨rfl, ⟨nd, rfl⟩⟩; have hcz12_0 := zy BK289 0; have hcz12_1 := zy BK289 1; have hfz12_0 := blk_frozen BK289.out 0; have hfz12_1 := blk_frozen BK289.out 1) | (go_at_call 84; (with_reducible refine (impl_isRising.calls k _ _ l2 a0_0 t292 _ ?side1 ?side2 A8.out).mono ?_); (case side1 => exact zC (Kd.C_below HR2.out zB)); (case side2 => exact HC2.out); rintro e w' ⟨rfl, ⟨nd, rfl⟩⟩))
     go_ret
     exact ⟨by first | rfl | (simp [errW_none, errW_some] <;> rfl) | (simp [*, errW_none, errW_some] <;> rfl), zB⟩
   · replace c7 := Bool.eq_false_iff.mpr c7
     subst c7
     have H1 : (some false) = some r := by rw [if_neg (show ¬ (false = true) by decide)] at H; exact H
     clear H
     have H := H1
     clear H1
     obtain rfl := Option.some.inj H
     go_enter Try.func139, Try.ntmps139
     go_wp2_with (first | ((with_reducible refine gate_dst (N := 3) rfl ?_); refine zb (w := w) 3 #[.int .i64 a0_0, .slice A0_1 l0_1.length c0_1] 29 zB ?_; clear HB; intro gb289 w13 HB BK289 GW289; have GE289 := GW289; have hcz14_0 := zy BK289 0; have hcz14_1 := zy BK289 1; have hfz14_0 := blk_frozen BK289.out 0; have hfz14_1 := blk_frozen BK289.out 1) | ((with_reducible refine gate_callee (f := 95) rfl ?_); refine zc 8 Try.func95 #[.agg #[.int .i64 a0_0, .slice A0_1 l0_1.length c0_1]] ?_; (with_reducible refine (impl_IsGraph.calls k a0_0 _ _ l0_1 true _ ?side1 ?side2 A4.out).mono ?_); (case side1 => exact zC (Kd.C_below HR0_1.out HB.out)); (case side2 => exact HC0_1.out); rintro e w15 ⟨rfl, hb⟩; refine ⟨_, rfl, ?_⟩; replace BK289 := zM (blk_below (g := gb289) (o := .cells #[.int .i64 a0_0, .slice A0_1 l0_1.length c0_1] 29 (0, 0)) (zK BK289.out) hb); replace HB := zM (below_step zB hb); (try clear hb); (try clear hb2); (try clear hk); (try clear hi)) | (go_at_call 157; (with_reducible refine (impl_isKind.calls a1 false _ A6.out).mono ?_); rintro e w' ⟨rfl, ⟨nd, rfl⟩⟩))
     go_ret
     exact ⟨by first | rfl | (simp [errW_none, errW_some] <;> rfl) | (simp [*, errW_none, errW_some] <;> rfl), zB⟩
 · replace c5 := Bool.eq_false_iff.mpr c5
   subst c5
   have H1 : (some false) = some r := by rw [if_neg (show ¬ (false = true) by decide)] at H; exact H
   clear H
   have H := H1
   clear H1
   obtain rfl := Option.some.inj H
   go_enter Try.func139, Try.ntmps139
   go_wp2_with (first | ((with_reducible refine gate_dst (N := 3) rfl ?_); refine zb (w := w) 3 #[.int .i64 a0_0, .slice A0_1 l0_1.length c0_1] 29 zB ?_; clear HB; intro gb289 w16 HB BK289 GW289; have GE289 := GW289; have hcz17_0 := zy BK289 0; have hcz17_1 := zy BK289 1; have hfz17_0 := blk_frozen BK289.out 0; have hfz17_1 := blk_frozen BK289.out 1) | ((with_reducible refine gate_callee (f := 95) rfl ?_); refine zc 8 Try.func95 #[.agg #[.int .i64 a0_0, .slice A0_1 l0_1.length c0_1]] ?_; (with_reducible refine (impl_IsGraph.calls k a0_0 _ _ l0_1 false _ ?side1 ?side2 A4.out).mono ?_); (case side1 => exact zC (Kd.C_below HR0_1.out HB.out)); (case side2 => exact HC0_1.out); rintro e w18 ⟨rfl, hb⟩; refine ⟨_, rfl, ?_⟩; replace BK289 := zM (blk_below (g := gb289) (o := .cells #[.int .i64 a0_0, .slice A0_1 l0_1.length c0_1] 29 (0, 0)) (zK BK289.out) hb); replace HB := zM (below_step zB hb); (try clear hb); (try clear hb2); (try clear hk); (try clear hi)))
   go_ret
   exact ⟨by first | rfl | (simp [errW_none, errW_some] <;> rfl) | (simp [*, errW_none, errW_some] <;> rfl), zB⟩

/-! ### impl_HasKind: function 107 -/
def impl_HasKind.f (k : Nat) (a0_0 : Int) (l0_1 : List (S88)) (a1 : Int) (l2 : List Int) : Option (Bool × Bool) := (impl_isSetCase.f k a0_0 l0_1 a1 l2).bind fun t294 => (if t294 = true then ((impl_bagOf.f k l2).bind fun t295 => ((impl_Graph_hasKind.f k a0_0 l0_1 a1 t295).bind fun t296 => (some (t296, true)))) else (some (false, false)))
set_option maxHeartbeats 8000000 in
set_option maxRecDepth 100000 in
theorem impl_HasKind.calls (k : Nat) (a0_0 : Int) (A0_1 : Option Addr) (c0_1 : Nat) (l0_1 : List (S88)) (a1 : Int) (A2 : Option Addr) (c2 : Nat) (l2 : List Int) (r1 : Bool) (r2 : Bool) (w : World) (hr0_1 : Kd.C k88 w A0_1 l0_1.length l0_1) (hc0_1 : l0_1.length ≤ c0_1) (hr2 : Kd.C (Kd.int .i64) w A2 l2.length l2) (hc2 : l2.length ≤ c2) (h : impl_HasKind.f k a0_0 l0_1 a1 l2 = some (r1, r2)) :
 Calls Try.prog 107 #[.agg #[.int .i64 a0_0, .slice A0_1 l0_1.length c0_1], .int .i64 a1, .slice A2 l2.length c2] w fun e w' => e = .returned (.tuple #[.bool r1, .bool r2]) ∧ Below w.heap.size w w' := by
 have hu29 := Try.underlying29
 have HR0_1 := Aside0.mk hr0_1
 have HC0_1 := Aside0.mk hc0_1
 clear hr0_1 hc0_1
 have HR2 := Aside0.mk hr2
 have HC2 := Aside0.mk hc2
 clear hr2 hc2
 have HB := zM (Below.refl w.heap.size w)
 have H : ((impl_isSetCase.f k a0_0 l0_1 a1 l2).bind fun t294 => (if t294 = true then ((impl_bagOf.f k l2).bind fun t295 => ((impl_Graph_hasKind.f k a0_0 l0_1 a1 t295).bind fun t296 => (some (t296, true)))) else (some (false, false)))) = some (r1, r2) := h
 clear h
 replace H := Option.bind_eq_some_iff.mp H
 obtain ⟨t294, A40, H⟩ := H
 replace H : (if t294 = true then ((impl_bagOf.f k l2).bind fun t295 => ((impl_Graph_hasKind.f k a0_0 l0_1 a1 t295).bind fun t296 => (some (t296, true)))) else (some (false, false))) = some (r1, r2) := H
 have A4 := Aside0.mk A40
 clear A40
 by_cases c5 : t294 = true
 · subst c5
   have H1 : ((impl_bagOf.f k l2).bind fun t295 => ((impl_Graph_hasKind.f k a0_0 l0_1 a1 t295).bind fun t296 => (some (t296, true)))) = some (r1, r2) := by rw [if_pos rfl] at H; exact H
   clear H
   have H := H1
   clear H1
   replace H := Option.bind_eq_some_iff.mp H
   obtain ⟨t295, A60, H⟩ := H
   replace H : ((impl_Graph_hasKind.f k a0_0 l0_1 a1 t295).bind fun t296 => (some (t296, true))) = some (r1, r2) := H
   have A6 := Aside0.mk A60
   clear A60
   replace H := Option.bind_eq_some_iff.mp H
   obtain ⟨t296, A70, H⟩ := H
   replace H : (some (t296, true)) = some (r1, r2) := H
   have A7 := Aside0.mk A70
   clear A70
   simp only [Option.some.injEq, Prod.mk.injEq] at H
   obtain ⟨rfl, rfl⟩ := H
   go_enter Try.func107, Try.ntmps107
   try go_wp2_with (first | ((with_reducible refine gate_dst (N := 3) rfl ?_); refine zb (w := w) 3 #[.int .i64 a0_0, .slice A0_1 l0_1.length c0_1] 29 zB ?_; clear HB; intro gb293 w8 HB BK293 GW293; have GE293 := GW293; have hcz9_0 := zy BK293 0; have hcz9_1 := zy BK293 1; have hfz9_0 := blk_frozen BK293.out 0; have hfz9_1 := blk_frozen BK293.out 1) | ((with_reducible refine gate_callee (f := 139) rfl ?_); refine zc 11 Try.func139 #[.agg #[.int .i64 a0_0, .slice A0_1 l0_1.length c0_1], .int .i64 a1, .slice A2 l2.length c2] ?_; (with_reducible refine (impl_isSetCase.calls k a0_0 _ _ l0_1 a1 _ _ l2 true _ ?side1 ?side2 ?side3 ?side4 A4.out).mono ?_); (case side1 => exact zC (Kd.C_below HR0_1.out HB.out)); (case side2 => exact HC0_1.out); (case side3 => exact zC (Kd.C_below HR2.out HB.out)); (case side4 => exact HC2.out); rintro e w10 ⟨rfl, hb⟩; refine ⟨_, rfl, ?_⟩; replace BK293 := zM (blk_below (g := gb293) (o := .cells #[.int .i64 a0_0, .slice A0_1 l0_1.length c0_1] 29 (0, 0)) (zK BK293.out) hb); replace HB := zM (below_step zB hb); (try clear hb); (try clear hb2); (try clear hk); (try clear hi)))
   replace BK293 := zM (blk_drew BK293.out)
   replace HB := zM (below_drew1 HB.out)
   refine zs (n := 7) (fun w' => w'.cell? ⟨gb293, 0, none⟩ = some (.int .i64 a0_0) ∧ w'.cell? ⟨gb293, 1, none⟩ = some (.slice A0_1 l0_1.length c0_1)) ⟨(blk_cell BK293.out 0).trans rfl, (blk_cell BK293.out 1).trans rfl⟩ (fun hHeld => ?_)
   generalize w10.drew = w11 at BK293 HB hHeld ⊢
   refine zq 1 14 ?_
   refine zq 2 15 ?_
   refine zl 0 13 hHeld ?_ (hy := by rintro w' ⟨s0, s1⟩; go_simp; with_reducible rfl)
   refine zh 3 16 Try.func61 #[.slice A2 l2.length c2] (fun K hK => ?_)
   with_reducible refine (impl_bagOf.calls k _ _ l2 t295 _ ?side1 ?side2 A6.out).mono ?_
   (case side1 => exact zC (Kd.C_below HR2.out HB.out))
   (case side2 => exact HC2.out)
   rintro e w' ⟨rfl, ⟨nd, rfl⟩⟩
   refine ⟨_, rfl, ?_⟩
   refine hK.out _ _ ⟨(blk_cell BK293.out 0).trans rfl, (blk_cell BK293.out 1).trans rfl⟩ (fun hHeld => ?_)
   clear hK K
   refine zn 16 ?_
   refine zh 4 17 Try.func65 #[.agg #[.int .i64 a0_0, .slice A0_1 l0_1.length c0_1], .int .i64 a1, .int .u64 t295] (fun K hK => ?_)
   with_reducible refine (impl_Graph_hasKind.calls k a0_0 _ _ l0_1 a1 t295 t296 _ ?side1 ?side2 A7.out).mono ?_
   (case side1 => exact zC (Kd.C_below HR0_1.out zB))
   (case side2 => exact HC0_1.out)
   rintro e w12 ⟨rfl, hb⟩
   refine ⟨_, rfl, ?_⟩
   replace BK293 := zM (blk_below (g := gb293) (o := .cells #[.int .i64 a0_0, .slice A0_1 l0_1.length c0_1] 29 (0, 0)) (zK BK293.out) hb)
   replace HB := zM (below_step zB hb)
   (try clear hb)
   (try clear hb2)
   (try clear hk)
   (try clear hi)
   refine hK.out _ _ ⟨(blk_cell BK293.out 0).trans rfl, (blk_cell BK293.out 1).trans rfl⟩ (fun hHeld => ?_)
   clear hK K
   refine zn 17 ?_
   refine zq 5 6 ?_
   refine zq 6 7 ?_
   refine zx ?_
   try go_wp2
   go_ret2
   exact ⟨by first | rfl | (simp [errW_none, errW_some] <;> rfl) | (simp [*, errW_none, errW_some] <;> rfl), zB⟩
 · replace c5 := Bool.eq_false_iff.mpr c5
   subst c5
   have H1 : (some (false, false)) = some (r1, r2) := by rw [if_neg (show ¬ (false = true) by decide)] at H; exact H
   clear H
   have H := H1
   clear H1
   simp only [Option.some.injEq, Prod.mk.injEq] at H
   obtain ⟨rfl, rfl⟩ := H
   go_enter Try.func107, Try.ntmps107
   go_wp2_with (first | ((with_reducible refine gate_dst (N := 3) rfl ?_); refine zb (w := w) 3 #[.int .i64 a0_0, .slice A0_1 l0_1.length c0_1] 29 zB ?_; clear HB; intro gb293 w13 HB BK293 GW293; have GE293 := GW293; have hcz14_0 := zy BK293 0; have hcz14_1 := zy BK293 1; have hfz14_0 := blk_frozen BK293.out 0; have hfz14_1 := blk_frozen BK293.out 1) | ((with_reducible refine gate_callee (f := 139) rfl ?_); refine zc 11 Try.func139 #[.agg #[.int .i64 a0_0, .slice A0_1 l0_1.length c0_1], .int .i64 a1, .slice A2 l2.length c2] ?_; (with_reducible refine (impl_isSetCase.calls k a0_0 _ _ l0_1 a1 _ _ l2 false _ ?side1 ?side2 ?side3 ?side4 A4.out).mono ?_); (case side1 => exact zC (Kd.C_below HR0_1.out HB.out)); (case side2 => exact HC0_1.out); (case side3 => exact zC (Kd.C_below HR2.out HB.out)); (case side4 => exact HC2.out); rintro e w15 ⟨rfl, hb⟩; refine ⟨_, rfl, ?_⟩; replace BK293 := zM (blk_below (g := gb293) (o := .cells #[.int .i64 a0_0, .slice A0_1 l0_1.length c0_1] 29 (0, 0)) (zK BK293.out) hb); replace HB := zM (below_step zB hb); (try clear hb); (try clear hb2); (try clear hk); (try clear hi)))
   go_ret2
   exact ⟨by first | rfl | (simp [errW_none, errW_some] <;> rfl) | (simp [*, errW_none, errW_some] <;> rfl), zB⟩

/-! ### impl_isOfKind: function 59 -/
def impl_isOfKind.f (k : Nat) (a0_0 : Int) (l0_1 : List (S88)) (a1 : Int) (l2 : List Int) : Option (Bool) := (impl_HasKind.f k a0_0 l0_1 a1 l2).bind fun bt298 => (some bt298.1)
set_option maxHeartbeats 8000000 in
set_option maxRecDepth 100000 in
theorem impl_isOfKind.calls (k : Nat) (a0_0 : Int) (A0_1 : Option Addr) (c0_1 : Nat) (l0_1 : List (S88)) (a1 : Int) (A2 : Option Addr) (c2 : Nat) (l2 : List Int) (r : Bool) (w : World) (hr0_1 : Kd.C k88 w A0_1 l0_1.length l0_1) (hc0_1 : l0_1.length ≤ c0_1) (hr2 : Kd.C (Kd.int .i64) w A2 l2.length l2) (hc2 : l2.length ≤ c2) (h : impl_isOfKind.f k a0_0 l0_1 a1 l2 = some r) :
 Calls Try.prog 59 #[.agg #[.int .i64 a0_0, .slice A0_1 l0_1.length c0_1], .int .i64 a1, .slice A2 l2.length c2] w fun e w' => e = .returned (.bool r) ∧ Below w.heap.size w w' := by
 have hu29 := Try.underlying29
 have HR0_1 := Aside0.mk hr0_1
 have HC0_1 := Aside0.mk hc0_1
 clear hr0_1 hc0_1
 have HR2 := Aside0.mk hr2
 have HC2 := Aside0.mk hc2
 clear hr2 hc2
 have HB := zM (Below.refl w.heap.size w)
 have H : ((impl_HasKind.f k a0_0 l0_1 a1 l2).bind fun bt298 => (some bt298.1)) = some r := h
 clear h
 replace H := Option.bind_eq_some_iff.mp H
 obtain ⟨⟨t298, t299⟩, A40, H⟩ := H
 replace H : (some t298) = some r := H
 have A4 := Aside0.mk A40
 clear A40
 obtain rfl := Option.some.inj H
 go_enter Try.func59, Try.ntmps59
 go_wp2_with (first | ((with_reducible refine gate_dst (N := 3) rfl ?_); refine zb (w := w) 3 #[.int .i64 a0_0, .slice A0_1 l0_1.length c0_1] 29 zB ?_; clear HB; intro gb297 w5 HB BK297 GW297; have GE297 := GW297; have hcz6_0 := zy BK297 0; have hcz6_1 := zy BK297 1; have hfz6_0 := blk_frozen BK297.out 0; have hfz6_1 := blk_frozen BK297.out 1) | ((with_reducible refine gate_callee (f := 107) rfl ?_); refine zc 13 Try.func107 #[.agg #[.int .i64 a0_0, .slice A0_1 l0_1.length c0_1], .int .i64 a1, .slice A2 l2.length c2] ?_; (with_reducible refine (impl_HasKind.calls k a0_0 _ _ l0_1 a1 _ _ l2 t298 t299 _ ?side1 ?side2 ?side3 ?side4 A4.out).mono ?_); (case side1 => exact zC (Kd.C_below HR0_1.out HB.out)); (case side2 => exact HC0_1.out); (case side3 => exact zC (Kd.C_below HR2.out HB.out)); (case side4 => exact HC2.out); rintro e w7 ⟨rfl, hb⟩; refine ⟨_, rfl, ?_⟩; replace BK297 := zM (blk_below (g := gb297) (o := .cells #[.int .i64 a0_0, .slice A0_1 l0_1.length c0_1] 29 (0, 0)) (zK BK297.out) hb); replace HB := zM (below_step zB hb); (try clear hb); (try clear hb2); (try clear hk); (try clear hi)))
 go_ret
 exact ⟨by first | rfl | (simp [errW_none, errW_some] <;> rfl) | (simp [*, errW_none, errW_some] <;> rfl), zB⟩

end Go.Proofs.Ytnlmijnbfdhdkaa.P
namespace Go.Proofs.Ytnlmijnbfdhdkaa.P
open Go.RowKit Go.Proofs.YtnlmijnbfdhdkaaW.PrintWords Go.Proofs.YtnlmijnbfdhdkaaW.PrintLast Go.Proofs.YtnlmijnbfdhdkaaW.PrintMore
attribute [local go_sem] max2_int min2_int max_two min_two max_three min_three max_four min_four   -- for this text's walks alone
set_option linter.unusedVariables false
set_option linter.unusedSimpArgs false

/-! ### impl_Graph_isTight: function 60 -/
def impl_Graph_isTight.l0 : Nat → Int → Int → Int → Int → Int → List (S88) → Option (Bool)
 | 0, _, _, _, _, _, _ => none
 | k + 1, x1, x2, x9, x10, x301000, x301001 => if x10 < x9 then ((impl_bag_has.f x2 x10).bind fun t301 => (if (t301 != (x1 == 2)) = true then (if 0 ≤ x10 then ((impl_Graph_hasKind.f k x301000 x301001 x1 (Go.bits .xor .u64 x2 (shl .u64 1 x10))).bind fun t302 => (if t302 = true then (some false) else (impl_Graph_isTight.l0 k x1 x2 x9 (wrap64 (x10 + 1)) x301000 x301001))) else (none)) else (impl_Graph_isTight.l0 k x1 x2 x9 (wrap64 (x10 + 1)) x301000 x301001))) else (some true)
def impl_Graph_isTight.f (k : Nat) (a0_0 : Int) (l0_1 : List (S88)) (a1 : Int) (a2 : Int) : Option (Bool) := impl_Graph_isTight.l0 k a1 a2 a0_0 0 a0_0 l0_1
def impl_Graph_isTight.T4 : Bool × List (List Nat × List Nat) := (true, [([], []), ([], []), ([0, 1], [0, 1]), ([], []), ([3], [3]), ([2, 4], [2, 4]), ([5, 2], [5]), ([6], [6]), ([6], [6]), ([6], [6]), ([6], [6]), ([10, 6], [6, 10]), ([9, 11, 6], [6, 9, 11]), ([7, 8, 12, 6, 6], [6, 7, 8, 12]), ([6, 13], [6, 13])])
def impl_Graph_isTight.B4 : List Nat := [0, 0, 3, 0, 8, 31, 63, 127, 127, 127, 127, 1151, 3711, 8191, 16383]
theorem impl_Graph_isTight.tab4 : rtab .any (opsOf Try.f60 4) = impl_Graph_isTight.T4 := by kernel_rfl
theorem impl_Graph_isTight.bits4 : waitsOk impl_Graph_isTight.T4.2 impl_Graph_isTight.B4 = true := by kernel_rfl
set_option maxHeartbeats 8000000 in
set_option maxRecDepth 100000 in
theorem impl_Graph_isTight.calls (k : Nat) (a0_0 : Int) (A0_1 : Option Addr) (c0_1 : Nat) (l0_1 : List (S88)) (a1 : Int) (a2 : Int) (r : Bool) (w : World) (hr0_1 : Kd.C k88 w A0_1 l0_1.length l0_1) (hc0_1 : l0_1.length ≤ c0_1) (h : impl_Graph_isTight.f k a0_0 l0_1 a1 a2 = some r) :
 Calls Try.prog 60 #[.agg #[.int .i64 a0_0, .slice A0_1 l0_1.length c0_1], .int .i64 a1, .int .u64 a2] w fun e w' => e = .returned (.bool r) ∧ Below w.heap.size w w' := by
 have hu29 := Try.underlying29
 have HR0_1 := Aside0.mk hr0_1
 have HC0_1 := Aside0.mk hc0_1
 clear hr0_1 hc0_1
 have HB := zM (Below.refl w.heap.size w)
 have H : (impl_Graph_isTight.l0 k a1 a2 a0_0 0 a0_0 l0_1) = some r := h
 clear h
 have H' := Aside0.mk H
 clear H
 go_enter Try.func60, Try.ntmps60
 go_wp2_with (first | ((with_reducible refine gate_dst (N := 3) rfl ?_); refine zb (w := w) 3 #[.int .i64 a0_0, .slice A0_1 l0_1.length c0_1] 29 zB ?_; clear HB; intro gb300 w4 HB BK300 GW300; have GE300 := GW300; have hcz5_0 := zy BK300 0; have hcz5_1 := zy BK300 1; have hfz5_0 := blk_frozen BK300.out 0; have hfz5_1 := blk_frozen BK300.out 1))
 go_loopg [10] k (fun kq v10 w' => ∃ (x10_1 : Int), v10 = .int .i64 x10_1 ∧ Aside0 (impl_Graph_isTight.l0 kq a1 a2 a0_0 x10_1 a0_0 l0_1 = some r) ∧ Aside0 (kq ≤ k) ∧ Aside0 (w'.heap[gb300]? = some (.cells #[.int .i64 a0_0, (.slice A0_1 l0_1.length c0_1)] 29 (0, 0))) ∧ Aside0 (Below w.heap.size w w'))
 case atStart => exact ⟨(0), (by first | rfl | (simp; done) | (simp [*]; done)), H', ⟨Nat.le_refl _⟩, ⟨zK BK300.out⟩, ⟨zB⟩⟩
 case round =>
  clear H'
  try clear p2
  try clear hcz5_0
  try clear hcz5_1
  try clear hfz5_0
  try clear hfz5_1
  obtain ⟨x10_1, rfl, HA, HK1, BK300, HB⟩ := hrel
  cases gk with
  | zero => exact absurd HA.out (by simp [impl_Graph_isTight.l0])
  | succ k1 =>
   have H := HA.out
   clear HA
   simp only [impl_Graph_isTight.l0] at H
   by_cases c6 : x10_1 < a0_0
   · rw [if_pos c6] at H
     have c6b0 := decide_eq_true c6
     clear c6
     replace H := Option.bind_eq_some_iff.mp H
     obtain ⟨t301, A70, H⟩ := H
     have A7 := Aside0.mk A70
     clear A70
     by_cases c8 : (t301 != (a1 == 2)) = true
     · rw [if_pos c8] at H
       have c8b0 : (t301 != (a1 == 2)) = true := c8
       (try (have c8b1 : decide (t301 = (a1 == 2)) = false := by simpa using c8))
       (try (have c8b2 : (t301 == (a1 == 2)) = false := by simpa using c8))
       (try (have c8b3 : ¬ (t301 = (a1 == 2)) := by simpa using c8))
       clear c8
       by_cases c9 : 0 ≤ x10_1
       · rw [if_pos c9] at H
         have c9b0 := eq_true c9
         have c9b1 : decide (0 ≤ x10_1) = true := decide_eq_true c9
         clear c9
         obtain ⟨ji10, hji10⟩ : ∃ j_ : Int, (shl .u64 1 x10_1) = j_ := ⟨_, rfl⟩
         replace H : ((impl_Graph_hasKind.f k1 a0_0 l0_1 a1 (Go.bits .xor .u64 a2 (ji10))).bind fun t302 => (if t302 = true then (some false) else (impl_Graph_isTight.l0 k1 a1 a2 a0_0 (wrap64 (x10_1 + 1)) a0_0 l0_1))) = some r := by first | (rw [hji10] at H; exact H) | (simp only [hji10] at H ⊢; exact H)
         (try rw [hji10] at A7)
         have hji10_ : (IntKind.u64.wrap (1 * 2 ^ min x10_1.toNat 64)) = ji10 := hji10
         have hji10z : x10_1 ≤ 64 → (IntKind.u64.wrap (1 * 2 ^ x10_1.toNat)) = ji10 := shl_small hji10
         have hji10u : (IntKind.u64.wrap (2 ^ min x10_1.toNat 64)) = ji10 := by have h_ := hji10_; rw [Int.one_mul] at h_; exact h_
         have hji10v : x10_1 ≤ 64 → (IntKind.u64.wrap (2 ^ x10_1.toNat)) = ji10 := fun hle_ => by have h_ := hji10z hle_; rw [Int.one_mul] at h_; exact h_
         replace H := Option.bind_eq_some_iff.mp H
         obtain ⟨t302, A110, H⟩ := H
         have A11 := Aside0.mk A110
         clear A110
         by_cases c12 : t302 = true
         · subst c12
           rw [if_pos rfl] at H
           obtain rfl := Option.some.inj H
           try go_wp2
           replace BK300 := zM (blk_drew BK300.out)
           replace HB := zM (below_drew1 HB.out)
           refine zs (n := 15) (fun w' => w'.cell? ⟨gb300, 0, none⟩ = some (.int .i64 a0_0) ∧ w'.cell? ⟨gb300, 1, none⟩ = some (.slice A0_1 l0_1.length c0_1)) ⟨(blk_cell BK300.out 0).trans rfl, (blk_cell BK300.out 1).trans rfl⟩ (fun hHeld => ?_); refine with_tabW impl_Graph_isTight.tab4 impl_Graph_isTight.bits4 (fun HT_ HW_ => ?_)
           generalize wr.drew = w13 at BK300 HB hHeld ⊢
           refine zp HT_ 0 13 ?_
           refine zp HT_ 1 14 ?_
           refine zp HT_ 3 16 ?_
           refine zp HT_ 4 17 ?_
           refine zg HT_ 2 15 Try.func69 #[.int .u64 a2, .int .i64 x10_1] (fun K hK => ?_)
           with_reducible refine (impl_bag_has.calls a2 x10_1 t301 _ A7.out).mono ?_
           rintro e w' ⟨rfl, ⟨nd, rfl⟩⟩
           refine ⟨_, rfl, ?_⟩
           refine hK.out _ _ ⟨(blk_cell BK300.out 0).trans rfl, (blk_cell BK300.out 1).trans rfl⟩ (fun hHeld => ?_)
           clear hK K
           refine zn 15 ?_
           refine zp HT_ 5 18 ?_
           refine zp HT_ 6 19 ?_
           refine zp HT_ 8 21 ?_
           refine zp HT_ 9 22 ?_
           refine zp HT_ 10 23 ?_
           refine zp HT_ 11 24 ?_
           refine zp HT_ 12 25 ?_
           refine zt HT_ HW_ 7 20 hHeld ?_ (hy := by rintro w' ⟨s0, s1⟩; go_simp; with_reducible rfl)
           refine one_ (i := 13) (N := some 26) #[true, true, true, true, true, true, true, true, true, true, true, true, true, true, false] rfl rfl (one_of HT_.out (by kernel_rfl)) (by decide) (fun K hK => ?_)
           refine goes_ Try.func65 (by kernel_rfl) rfl #[.agg #[.int .i64 a0_0, .slice A0_1 l0_1.length c0_1], .int .i64 a1, .int .u64 (Go.bits .xor .u64 a2 (ji10))] (by rfl) rfl rfl (by (try simp only [List.map_toArray, List.map_cons, List.map_nil]); first | done | (simp only [hji10]; rfl) | rfl | (simp only [List.length_drop, List.length_take]; rfl)) ?_
           with_reducible refine (impl_Graph_hasKind.calls k1 a0_0 _ _ l0_1 a1 (Go.bits .xor .u64 a2 (ji10)) true _ ?side1 ?side2 A11.out).mono ?_
           (case side1 => exact zC (Kd.C_below HR0_1.out zB))
           (case side2 => exact HC0_1.out)
           rintro e w14 ⟨rfl, hb⟩
           refine ⟨_, rfl, ?_⟩
           replace BK300 := zM (blk_below (g := gb300) (o := .cells #[.int .i64 a0_0, .slice A0_1 l0_1.length c0_1] 29 (0, 0)) (zK BK300.out) hb)
           replace HB := zM (below_step zB hb)
           (try clear hb)
           (try clear hb2)
           (try clear hk)
           (try clear hi)
           refine hK.out _ _ ⟨(blk_cell BK300.out 0).trans rfl, (blk_cell BK300.out 1).trans rfl⟩ (fun hHeld => ?_)
           clear hK K
           refine zn 26 ?_
           refine zp HT_ 14 27 ?_
           refine zo HT_ ?_
           try go_wp2
           go_ret
           exact ⟨by first | rfl | (simp [errW_none, errW_some] <;> rfl) | (simp only [← hji10]; first | rfl | (simp [errW_none, errW_some] <;> rfl)) | (simp [*, errW_none, errW_some] <;> rfl), zB⟩
         · replace c12 := Bool.eq_false_iff.mpr c12
           subst c12
           have H1 : (impl_Graph_isTight.l0 k1 a1 a2 a0_0 (wrap64 (x10_1 + 1)) a0_0 l0_1) = some r := by rw [if_neg (show ¬ (false = true) by decide)] at H; exact H
           clear H
           have H := H1
           clear H1
           have H' := Aside0.mk H
           clear H
           try go_wp2
           replace BK300 := zM (blk_drew BK300.out)
           replace HB := zM (below_drew1 HB.out)
           refine zs (n := 15) (fun w' => w'.cell? ⟨gb300, 0, none⟩ = some (.int .i64 a0_0) ∧ w'.cell? ⟨gb300, 1, none⟩ = some (.slice A0_1 l0_1.length c0_1)) ⟨(blk_cell BK300.out 0).trans rfl, (blk_cell BK300.out 1).trans rfl⟩ (fun hHeld => ?_); refine with_tabW impl_Graph_isTight.tab4 impl_Graph_isTight.bits4 (fun HT_ HW_ => ?_)
           generalize wr.drew = w15 at BK300 HB hHeld ⊢
           refine zp HT_ 0 13 ?_
           refine zp HT_ 1 14 ?_
           refine zp HT_ 3 16 ?_
           refine zp HT_ 4 17 ?_
           refine zg HT_ 2 15 Try.func69 #[.int .u64 a2, .int .i64 x10_1] (fun K hK => ?_)
           with_reducible refine (impl_bag_has.calls a2 x10_1 t301 _ A7.out).mono ?_
           rintro e w' ⟨rfl, ⟨nd, rfl⟩⟩
           refine ⟨_, rfl, ?_⟩
           refine hK.out _ _ ⟨(blk_cell BK300.out 0).trans rfl, (blk_cell BK300.out 1).trans rfl⟩ (fun hHeld => ?_)
           clear hK K
           refine zn 15 ?_
           refine zp HT_ 5 18 ?_
           refine zp HT_ 6 19 ?_
           refine zp HT_ 8 21 ?_
           refine zp HT_ 9 22 ?_
           refine zp HT_ 10 23 ?_
           refine zp HT_ 11 24 ?_
           refine zp HT_ 12 25 ?_
           refine zt HT_ HW_ 7 20 hHeld ?_ (hy := by rintro w' ⟨s0, s1⟩; go_simp; with_reducible rfl)
           refine one_ (i := 13) (N := some 26) #[true, true, true, true, true, true, true, true, true, true, true, true, true, true, false] rfl rfl (one_of HT_.out (by kernel_rfl)) (by decide) (fun K hK => ?_)
           refine goes_ Try.func65 (by kernel_rfl) rfl #[.agg #[.int .i64 a0_0, .slice A0_1 l0_1.length c0_1], .int .i64 a1, .int .u64 (Go.bits .xor .u64 a2 (ji10))] (by rfl) rfl rfl (by (try simp only [List.map_toArray, List.map_cons, List.map_nil]); first | done | (simp only [hji10]; rfl) | rfl | (simp only [List.length_drop, List.length_take]; rfl)) ?_
           with_reducible refine (impl_Graph_hasKind.calls k1 a0_0 _ _ l0_1 a1 (Go.bits .xor .u64 a2 (ji10)) false _ ?side1 ?side2 A11.out).mono ?_
           (case side1 => exact zC (Kd.C_below HR0_1.out zB))
           (case side2 => exact HC0_1.out)
           rintro e w16 ⟨rfl, hb⟩
           refine ⟨_, rfl, ?_⟩
           replace BK300 := zM (blk_below (g := gb300) (o := .cells #[.int .i64 a0_0, .slice A0_1 l0_1.length c0_1] 29 (0, 0)) (zK BK300.out) hb)
           replace HB := zM (below_step zB hb)
           (try clear hb)
           (try clear hb2)
           (try clear hk)
           (try clear hi)
           refine hK.out _ _ ⟨(blk_cell BK300.out 0).trans rfl, (blk_cell BK300.out 1).trans rfl⟩ (fun hHeld => ?_)
           clear hK K
           refine zn 26 ?_
           refine zp HT_ 14 27 ?_
           refine zo HT_ ?_
           try go_wp2
           go_roundg k1
           case measure => have := HK1.out; omega
           case rel => exact ⟨(wrap64 (x10_1 + 1)), (by first | rfl | (simp; done) | (simp [*]; done)), H', ⟨by have := HK1.out; omega⟩, ⟨zK BK300.out⟩, ⟨zB⟩⟩
       · rw [if_neg c9] at H
         exact absurd H (by simp)
     · rw [if_neg c8] at H
       have c8b0 : (t301 != (a1 == 2)) = false := by simpa using c8
       (try (have c8b1 : decide (t301 = (a1 == 2)) = true := by simpa using c8))
       (try (have c8b2 : (t301 == (a1 == 2)) = true := by simpa using c8))
       clear c8
       have H' := Aside0.mk H
       clear H
       try go_wp2
       replace BK300 := zM (blk_drew BK300.out)
       replace HB := zM (below_drew1 HB.out)
       refine zs (n := 15) (fun w' => True) trivial (fun hHeld => ?_); refine with_tabW impl_Graph_isTight.tab4 impl_Graph_isTight.bits4 (fun HT_ HW_ => ?_)
       generalize wr.drew = w17 at BK300 HB hHeld ⊢
       refine zp HT_ 0 13 ?_
       refine zp HT_ 1 14 ?_
       refine zp HT_ 3 16 ?_
       refine zp HT_ 4 17 ?_
       refine zg HT_ 2 15 Try.func69 #[.int .u64 a2, .int .i64 x10_1] (fun K hK => ?_)
       with_reducible refine (impl_bag_has.calls a2 x10_1 t301 _ A7.out).mono ?_
       rintro e w' ⟨rfl, ⟨nd, rfl⟩⟩
       refine ⟨_, rfl, ?_⟩
       refine hK.out _ _ trivial (fun hHeld => ?_)
       clear hK K
       refine zn 15 ?_
       refine zp HT_ 5 18 ?_
       refine zp HT_ 6 19 ?_
       refine zu HT_ 7 20 ?_
       refine zu HT_ 8 21 ?_
       refine zu HT_ 9 22 ?_
       refine zu HT_ 10 23 ?_
       refine zu HT_ 11 24 ?_
       refine zu HT_ 12 25 ?_
       refine zu HT_ 13 26 ?_
       refine zp HT_ 14 27 ?_
       refine zo HT_ ?_
       try go_wp2
       go_roundg k1
       case measure => have := HK1.out; omega
       case rel => exact ⟨(wrap64 (x10_1 + 1)), (by first | rfl | (simp; done) | (simp [*]; done)), H', ⟨by have := HK1.out; omega⟩, ⟨zK BK300.out⟩, ⟨zB⟩⟩
   · rw [if_neg c6] at H
     have c6b0 : decide (x10_1 < a0_0) = false := decide_eq_false c6
     clear c6
     obtain rfl := Option.some.inj H
     go_wp2
     go_ret
     exact ⟨by first | rfl | (simp [errW_none, errW_some] <;> rfl) | (simp [*, errW_none, errW_some] <;> rfl), zB⟩

/-! ### impl_IsTightSet: function 19 -/
def impl_IsTightSet.f (k : Nat) (a0_0 : Int) (l0_1 : List (S88)) (a1 : Int) (l2 : List Int) : Option (Bool × Bool) := (impl_isOfKind.f k a0_0 l0_1 a1 l2).bind fun t304 => (if t304 = true then ((impl_bagOf.f k l2).bind fun t305 => ((impl_Graph_isTight.f k a0_0 l0_1 a1 t305).bind fun t306 => (some (t306, true)))) else (some (false, false)))
set_option maxHeartbeats 8000000 in
set_option maxRecDepth 100000 in
theorem impl_IsTightSet.calls (k : Nat) (a0_0 : Int) (A0_1 : Option Addr) (c0_1 : Nat) (l0_1 : List (S88)) (a1 : Int) (A2 : Option Addr) (c2 : Nat) (l2 : List Int) (r1 : Bool) (r2 : Bool) (w : World) (hr0_1 : Kd.C k88 w A0_1 l0_1.length l0_1) (hc0_1 : l0_1.length ≤ c0_1) (hr2 : Kd.C (Kd.int .i64) w A2 l2.length l2) (hc2 : l2.length ≤ c2) (h : impl_IsTightSet.f k a0_0 l0_1 a1 l2 = some (r1, r2)) :
 Calls Try.prog 19 #[.agg #[.int .i64 a0_0, .slice A0_1 l0_1.length c0_1], .int .i64 a1, .slice A2 l2.length c2] w fun e w' => e = .returned (.tuple #[.bool r1, .bool r2]) ∧ Below w.heap.size w w' := by
 have hu29 := Try.underlying29
 have HR0_1 := Aside0.mk hr0_1
 have HC0_1 := Aside0.mk hc0_1
 clear hr0_1 hc0_1
 have HR2 := Aside0.mk hr2
 have HC2 := Aside0.mk hc2
 clear hr2 hc2
 have HB := zM (Below.refl w.heap.size w)
 have H : ((impl_isOfKind.f k a0_0 l0_1 a1 l2).bind fun t304 => (if t304 = true then ((impl_bagOf.f k l2).bind fun t305 => ((impl_Graph_isTight.f k a0_0 l0_1 a1 t305).bind fun t306 => (some (t306, true)))) else (some (false, false)))) = some (r1, r2) := h
 clear h
 replace H := Option.bind_eq_some_iff.mp H
 obtain ⟨t304, A40, H⟩ := H
 replace H : (if t304 = true then ((impl_bagOf.f k l2).bind fun t305 => ((impl_Graph_isTight.f k a0_0 l0_1 a1 t305).bind fun t306 => (some (t306, true)))) else (some (false, false))) = some (r1, r2) := H
 have A4 := Aside0.mk A40
 clear A40
 by_cases c5 : t304 = true
 · subst c5
   have H1 : ((impl_bagOf.f k l2).bind fun t305 => ((impl_Graph_isTight.f k a0_0 l0_1 a1 t305).bind fun t306 => (some (t306, true)))) = some (r1, r2) := by rw [if_pos rfl] at H; exact H
   clear H
   have H := H1
   clear H1
   replace H := Option.bind_eq_some_iff.mp H
   obtain ⟨t305, A60, H⟩ := H
   replace H : ((impl_Graph_isTight.f k a0_0 l0_1 a1 t305).bind fun t306 => (some (t306, true))) = some (r1, r2) := H
   have A6 := Aside0.mk A60
   clear A60
   replace H := Option.bind_eq_some_iff.mp H
   obtain ⟨t306, A70, H⟩ := H
   replace H : (some (t306, true)) = some (r1, r2) := H
   have A7 := Aside0.mk A70
   clear A70
   simp only [Option.some.injEq, Prod.mk.injEq] at H
   obtain ⟨rfl, rfl⟩ := H
   go_enter Try.func19, Try.ntmps19
   try go_wp2_with (first | ((with_reducible refine gate_dst (N := 3) rfl ?_); refine zb (w := w) 3 #[.int .i64 a0_0, .slice A0_1 l0_1.length c0_1] 29 zB ?_; clear HB; intro gb303 w8 HB BK303 GW303; have GE303 := GW303; have hcz9_0 := zy BK303 0; have hcz9_1 := zy BK303 1; have hfz9_0 := blk_frozen BK303.out 0; have hfz9_1 := blk_frozen BK303.out 1) | ((with_reducible refine gate_callee (f := 59) rfl ?_); refine zc 11 Try.func59 #[.agg #[.int .i64 a0_0, .slice A0_1 l0_1.length c0_1], .int .i64 a1, .slice A2 l2.length c2] ?_; (with_reducible refine (impl_isOfKind.calls k a0_0 _ _ l0_1 a1 _ _ l2 true _ ?side1 ?side2 ?side3 ?side4 A4.out).mono ?_); (case side1 => exact zC (Kd.C_below HR0_1.out HB.out)); (case side2 => exact HC0_1.out); (case side3 => exact zC (Kd.C_below HR2.out HB.out)); (case side4 => exact HC2.out); rintro e w10 ⟨rfl, hb⟩; refine ⟨_, rfl, ?_⟩; replace BK303 := zM (blk_below (g := gb303) (o := .cells #[.int .i64 a0_0, .slice A0_1 l0_1.length c0_1] 29 (0, 0)) (zK BK303.out) hb); replace HB := zM (below_step zB hb); (try clear hb); (try clear hb2); (try clear hk); (try clear hi)))
   replace BK303 := zM (blk_drew BK303.out)
   replace HB := zM (below_drew1 HB.out)
   refine zs (n := 7) (fun w' => w'.cell? ⟨gb303, 0, none⟩ = some (.int .i64 a0_0) ∧ w'.cell? ⟨gb303, 1, none⟩ = some (.slice A0_1 l0_1.length c0_1)) ⟨(blk_cell BK303.out 0).trans rfl, (blk_cell BK303.out 1).trans rfl⟩ (fun hHeld => ?_)
   generalize w10.drew = w11 at BK303 HB hHeld ⊢
   refine zq 1 14 ?_
   refine zq 2 15 ?_
   refine zl 0 13 hHeld ?_ (hy := by rintro w' ⟨s0, s1⟩; go_simp; with_reducible rfl)
   refine zh 3 16 Try.func61 #[.slice A2 l2.length c2] (fun K hK => ?_)
   with_reducible refine (impl_bagOf.calls k _ _ l2 t305 _ ?side1 ?side2 A6.out).mono ?_
   (case side1 => exact zC (Kd.C_below HR2.out HB.out))
   (case side2 => exact HC2.out)
   rintro e w' ⟨rfl, ⟨nd, rfl⟩⟩
   refine ⟨_, rfl, ?_⟩
   refine hK.out _ _ ⟨(blk_cell BK303.out 0).trans rfl, (blk_cell BK303.out 1).trans rfl⟩ (fun hHeld => ?_)
   clear hK K
   refine zn 16 ?_
   refine zh 4 17 Try.func60 #[.agg #[.int .i64 a0_0, .slice A0_1 l0_1.length c0_1], .int .i64 a1, .int .u64 t305] (fun K hK => ?_)
   with_reducible refine (impl_Graph_isTight.calls k a0_0 _ _ l0_1 a1 t305 t306 _ ?side1 ?side2 A7.out).mono ?_
   (case side1 => exact zC (Kd.C_below HR0_1.out zB))
   (case side2 => exact HC0_1.out)
   rintro e w12 ⟨rfl, hb⟩
   refine ⟨_, rfl, ?_⟩
   replace BK303 := zM (blk_below (g := gb303) (o := .cells #[.int .i64 a0_0, .slice A0_1 l0_1.length c0_1] 29 (0, 0)) (zK BK303.out) hb)
   replace HB := zM (below_step zB hb)
   (try clear hb)
   (try clear hb2)
   (try clear hk)
   (try clear hi)
   refine hK.out _ _ ⟨(blk_cell BK303.out 0).trans rfl, (blk_cell BK303.out 1).trans rfl⟩ (fun hHeld => ?_)
   clear hK K
   refine zn 17 ?_
   refine zq 5 6 ?_
   refine zq 6 7 ?_
   refine zx ?_
   try go_wp2
   go_ret2
   exact ⟨by first | rfl | (simp [errW_none, errW_some] <;> rfl) | (simp [*, errW_none, errW_some] <;> rfl), zB⟩
 · replace c5 := Bool.eq_false_iff.mpr c5
   subst c5
   have H1 : (some (false, false)) = some (r1, r2) := by rw [if_neg (show ¬ (false = true) by decide)] at H; exact H
   clear H
   have H := H1
   clear H1
   simp only [Option.some.injEq, Prod.mk.injEq] at H
   obtain ⟨rfl, rfl⟩ := H
   go_enter Try.func19, Try.ntmps19
   go_wp2_with (first | ((with_reducible refine gate_dst (N := 3) rfl ?_); refine zb (w := w) 3 #[.int .i64 a0_0, .slice A0_1 l0_1.length c0_1] 29 zB ?_; clear HB; intro gb303 w13 HB BK303 GW303; have GE303 := GW303; have hcz14_0 := zy BK303 0; have hcz14_1 := zy BK303 1; have hfz14_0 := blk_frozen BK303.out 0; have hfz14_1 := blk_frozen BK303.out 1) | ((with_reducible refine gate_callee (f := 59) rfl ?_); refine zc 11 Try.func59 #[.agg #[.int .i64 a0_0, .slice A0_1 l0_1.length c0_1], .int .i64 a1, .slice A2 l2.length c2] ?_; (with_reducible refine (impl_isOfKind.calls k a0_0 _ _ l0_1 a1 _ _ l2 false _ ?side1 ?side2 ?side3 ?side4 A4.out).mono ?_); (case side1 => exact zC (Kd.C_below HR0_1.out HB.out)); (case side2 => exact HC0_1.out); (case side3 => exact zC (Kd.C_below HR2.out HB.out)); (case side4 => exact HC2.out); rintro e w15 ⟨rfl, hb⟩; refine ⟨_, rfl, ?_⟩; replace BK303 := zM (blk_below (g := gb303) (o := .cells #[.int .i64 a0_0, .slice A0_1 l0_1.length c0_1] 29 (0, 0)) (zK BK303.out) hb); replace HB := zM (below_step zB hb); (try clear hb); (try clear hb2); (try clear hk); (try clear hi)))
   go_ret2
   exact ⟨by first | rfl | (simp [errW_none, errW_some] <;> rfl) | (simp [*, errW_none, errW_some] <;> rfl), zB⟩

end Go.Proofs.Ytnlmijnbfdhdkaa.P
