-- Written by a program of this session (the kit's print, turned: wip/print/patch.py) out of the translation. Not trusted: Lean checks it.
import Derived.Test.YtpbngmkhpcgpkaaPx0
import Derived.Test.YtpbngmkhpcgpkaaPx2
import Derived.Test.YtpbngmkhpcgpkaaPx4
import Derived.Test.YtpbngmkhpcgpkaaPx11
import Derived.Test.YtpbngmkhpcgpkaaPx14
import Derived.Test.YtpbngmkhpcgpkaaPx17
import Derived.Test.YtpbngmkhpcgpkaaPx18
import Derived.Test.YtpbngmkhpcgpkaaPx19
namespace Go.Proofs.Ytpbngmkhpcgpkaa.P
open Go.RowKit Go.Proofs.YtpbngmkhpcgpkaaW.PrintWords Go.Proofs.YtpbngmkhpcgpkaaW.PrintLast Go.Proofs.YtpbngmkhpcgpkaaW.PrintMore
attribute [local go_sem] max2_int min2_int max_two min_two max_three min_three max_four min_four   -- for this text's walks alone
set_option linter.unusedVariables false
set_option linter.unusedSimpArgs false

/-! ### laws_FnExactNeighborsOf: function 6 -/
mutual
def laws_FnExactNeighborsOf.j0 : Nat → Int → List Int → Bool → List Int → Bool → Bool → Int → List (S68) → Int → List (S68) → Option (Bool)
 | 0, _, _, _, _, _, _, _, _, _, _ => none
 | k + 1, x1, x6, x7, x9, x10, x44, x353000, x353001, x367000, x367001 => if x44 = true then (some false) else ((laws_toGraph.f k x353000 x353001).bind fun bt372 => ((laws_eqGraph.f k x367000 x367001 bt372.1 bt372.2).bind fun t376 => (if t376 = true then ((laws_markGraph.f x367000 x367001 1).bind fun bt377 => (if bt377.1 < 0 then (laws_FnExactNeighborsOf.j1 k x1 x6 x7 x9 true x353000 x353001) else ((laws_eqIntS.f k x9 x6).bind fun t379 => (if t379 = true then (laws_FnExactNeighborsOf.j1 k x1 x6 x7 x9 (x10 != x7) x353000 x353001) else (laws_FnExactNeighborsOf.j1 k x1 x6 x7 x9 true x353000 x353001))))) else (some false))))
def laws_FnExactNeighborsOf.j1 : Nat → Int → List Int → Bool → List Int → Bool → Int → List (S68) → Option (Bool)
 | 0, _, _, _, _, _, _, _ => none
 | k + 1, x1, x6, x7, x9, x65, x353000, x353001 => if x65 = true then (some false) else ((laws_markIntS.f k x9 1).bind fun bt380 => ((laws_heldIntS.f k bt380.2 1).bind fun t382 => (if t382 < 0 then (some false) else (if t382 = bt380.1 then ((laws_toGraph.f k x353000 x353001).bind fun bt383 => ((impl_NeighborsOf.f k bt383.1 bt383.2 x1).bind fun bt387 => ((laws_eqIntS.f k bt387.1 x6).bind fun t391 => (if t391 = true then (laws_FnExactNeighborsOf.j2 k bt380.2 bt380.1 (bt387.2 != x7)) else (laws_FnExactNeighborsOf.j2 k bt380.2 bt380.1 true))))) else (some false)))))
def laws_FnExactNeighborsOf.j2 : Nat → List Int → Int → Bool → Option (Bool)
 | 0, _, _, _ => none
 | k + 1, x9, x12, x92 => if x92 = true then (some false) else ((laws_heldIntS.f k x9 1).bind fun t392 => (if t392 < 0 then (some false) else (if t392 = x12 then (some true) else (some false))))
end
def laws_FnExactNeighborsOf.f (k : Nat) (a0_0 : Int) (l0_1 : List (S68)) (a1 : Int) : Option (Bool) := (laws_szGraph.f a0_0 l0_1 1048576).bind fun t353 => (if t353 < 0 then (some true) else ((laws_toGraph.f k a0_0 l0_1).bind fun bt354 => ((spec_NeighborsOf.f k bt354.1 bt354.2 a1).bind fun bt358 => ((laws_toGraph.f k a0_0 l0_1).bind fun bt362 => ((impl_NeighborsOf.f k bt362.1 bt362.2 a1).bind fun bt367 => ((laws_eqIntS.f k bt367.1 bt358.1).bind fun t371 => (if t371 = true then (laws_FnExactNeighborsOf.j0 k a1 bt358.1 bt358.2 bt367.1 bt367.2 (bt367.2 != bt358.2) a0_0 l0_1 bt362.1 bt362.2) else (laws_FnExactNeighborsOf.j0 k a1 bt358.1 bt358.2 bt367.1 bt367.2 true a0_0 l0_1 bt362.1 bt362.2))))))))
theorem laws_FnExactNeighborsOf.mono_l : ∀ k, (∀ y0 y1 y2 y3 y4 y5 y6 y7 y8 y9, LeO (laws_FnExactNeighborsOf.j0 k y0 y1 y2 y3 y4 y5 y6 y7 y8 y9) (laws_FnExactNeighborsOf.j0 (k + 1) y0 y1 y2 y3 y4 y5 y6 y7 y8 y9)) ∧ (∀ y0 y1 y2 y3 y4 y5 y6, LeO (laws_FnExactNeighborsOf.j1 k y0 y1 y2 y3 y4 y5 y6) (laws_FnExactNeighborsOf.j1 (k + 1) y0 y1 y2 y3 y4 y5 y6)) ∧ (∀ y0 y1 y2, LeO (laws_FnExactNeighborsOf.j2 k y0 y1 y2) (laws_FnExactNeighborsOf.j2 (k + 1) y0 y1 y2))
 | 0 => ⟨fun _ _ _ _ _ _ _ _ _ _ r h => by simp [laws_FnExactNeighborsOf.j0] at h, fun _ _ _ _ _ _ _ r h => by simp [laws_FnExactNeighborsOf.j1] at h, fun _ _ _ r h => by simp [laws_FnExactNeighborsOf.j2] at h⟩
 | k + 1 => by
  obtain ⟨ih0, ih1, ih2⟩ := laws_FnExactNeighborsOf.mono_l k
  refine ⟨?_, ?_, ?_⟩
  · intro y0 y1 y2 y3 y4 y5 y6 y7 y8 y9
    unfold laws_FnExactNeighborsOf.j0
    repeat' first
    | (with_reducible exact ih0 _ _ _ _ _ _ _ _ _ _)
    | (with_reducible exact ih1 _ _ _ _ _ _ _)
    | (with_reducible exact ih2 _ _ _)
    | (with_reducible exact impl_NeighborsOf.mono _ _ _ _)
    | (with_reducible exact laws_eqGraph.mono _ _ _ _ _)
    | (with_reducible exact laws_eqIntS.mono _ _ _)
    | (with_reducible exact laws_heldIntS.mono _ _ _)
    | (with_reducible exact laws_markIntS.mono _ _ _)
    | (with_reducible exact laws_toGraph.mono _ _ _)
    | (with_reducible exact spec_NeighborsOf.mono _ _ _ _)
    | (with_reducible exact LeO.refl _)
    | (with_reducible exact LeO.none _)
    | (with_reducible refine LeO.ite ?_ ?_)
    | (with_reducible refine LeO.bind ?_ (fun _ => ?_))
    | exact ih0 _ _ _ _ _ _ _ _ _ _
    | exact ih1 _ _ _ _ _ _ _
    | exact ih2 _ _ _
    | exact impl_NeighborsOf.mono _ _ _ _
    | exact laws_eqGraph.mono _ _ _ _ _
    | exact laws_eqIntS.mono _ _ _
    | exact laws_heldIntS.mono _ _ _
    | exact laws_markIntS.mono _ _ _
    | exact laws_toGraph.mono _ _ _
    | exact spec_NeighborsOf.mono _ _ _ _
    | exact LeO.none _
    | refine LeO.ite ?_ ?_
    | refine LeO.bind ?_ (fun _ => ?_)
  · intro y0 y1 y2 y3 y4 y5 y6
    unfold laws_FnExactNeighborsOf.j1
    repeat' first
    | (with_reducible exact ih0 _ _ _ _ _ _ _ _ _ _)
    | (with_reducible exact ih1 _ _ _ _ _ _ _)
    | (with_reducible exact ih2 _ _ _)
    | (with_reducible exact impl_NeighborsOf.mono _ _ _ _)
    | (with_reducible exact laws_eqGraph.mono _ _ _ _ _)
    | (with_reducible exact laws_eqIntS.mono _ _ _)
    | (with_reducible exact laws_heldIntS.mono _ _ _)
    | (with_reducible exact laws_markIntS.mono _ _ _)
    | (with_reducible exact laws_toGraph.mono _ _ _)
    | (with_reducible exact spec_NeighborsOf.mono _ _ _ _)
    | (with_reducible exact LeO.refl _)
    | (with_reducible exact LeO.none _)
    | (with_reducible refine LeO.ite ?_ ?_)
    | (with_reducible refine LeO.bind ?_ (fun _ => ?_))
    | exact ih0 _ _ _ _ _ _ _ _ _ _
    | exact ih1 _ _ _ _ _ _ _
    | exact ih2 _ _ _
    | exact impl_NeighborsOf.mono _ _ _ _
    | exact laws_eqGraph.mono _ _ _ _ _
    | exact laws_eqIntS.mono _ _ _
    | exact laws_heldIntS.mono _ _ _
    | exact laws_markIntS.mono _ _ _
    | exact laws_toGraph.mono _ _ _
    | exact spec_NeighborsOf.mono _ _ _ _
    | exact LeO.none _
    | refine LeO.ite ?_ ?_
    | refine LeO.bind ?_ (fun _ => ?_)
  · intro y0 y1 y2
    unfold laws_FnExactNeighborsOf.j2
    repeat' first
    | (with_reducible exact ih0 _ _ _ _ _ _ _ _ _ _)
    | (with_reducible exact ih1 _ _ _ _ _ _ _)
    | (with_reducible exact ih2 _ _ _)
    | (with_reducible exact impl_NeighborsOf.mono _ _ _ _)
    | (with_reducible exact laws_eqGraph.mono _ _ _ _ _)
    | (with_reducible exact laws_eqIntS.mono _ _ _)
    | (with_reducible exact laws_heldIntS.mono _ _ _)
    | (with_reducible exact laws_markIntS.mono _ _ _)
    | (with_reducible exact laws_toGraph.mono _ _ _)
    | (with_reducible exact spec_NeighborsOf.mono _ _ _ _)
    | (with_reducible exact LeO.refl _)
    | (with_reducible exact LeO.none _)
    | (with_reducible refine LeO.ite ?_ ?_)
    | (with_reducible refine LeO.bind ?_ (fun _ => ?_))
    | exact ih0 _ _ _ _ _ _ _ _ _ _
    | exact ih1 _ _ _ _ _ _ _
    | exact ih2 _ _ _
    | exact impl_NeighborsOf.mono _ _ _ _
    | exact laws_eqGraph.mono _ _ _ _ _
    | exact laws_eqIntS.mono _ _ _
    | exact laws_heldIntS.mono _ _ _
    | exact laws_markIntS.mono _ _ _
    | exact laws_toGraph.mono _ _ _
    | exact spec_NeighborsOf.mono _ _ _ _
    | exact LeO.none _
    | refine LeO.ite ?_ ?_
    | refine LeO.bind ?_ (fun _ => ?_)
theorem laws_FnExactNeighborsOf.mono : ∀ a0 a1 a2 k, LeO (laws_FnExactNeighborsOf.f k a0 a1 a2) (laws_FnExactNeighborsOf.f (k + 1) a0 a1 a2) := by
 intro a0 a1 a2 k
 obtain ⟨ih0, ih1, ih2⟩ := laws_FnExactNeighborsOf.mono_l k
 unfold laws_FnExactNeighborsOf.f
 repeat' first
  | (with_reducible exact ih0 _ _ _ _ _ _ _ _ _ _)
  | (with_reducible exact ih1 _ _ _ _ _ _ _)
  | (with_reducible exact ih2 _ _ _)
  | (with_reducible exact impl_NeighborsOf.mono _ _ _ _)
  | (with_reducible exact laws_eqGraph.mono _ _ _ _ _)
  | (with_reducible exact laws_eqIntS.mono _ _ _)
  | (with_reducible exact laws_heldIntS.mono _ _ _)
  | (with_reducible exact laws_markIntS.mono _ _ _)
  | (with_reducible exact laws_toGraph.mono _ _ _)
  | (with_reducible exact spec_NeighborsOf.mono _ _ _ _)
  | (with_reducible exact LeO.refl _)
  | (with_reducible exact LeO.none _)
  | (with_reducible refine LeO.ite ?_ ?_)
  | (with_reducible refine LeO.bind ?_ (fun _ => ?_))
  | exact ih0 _ _ _ _ _ _ _ _ _ _
  | exact ih1 _ _ _ _ _ _ _
  | exact ih2 _ _ _
  | exact impl_NeighborsOf.mono _ _ _ _
  | exact laws_eqGraph.mono _ _ _ _ _
  | exact laws_eqIntS.mono _ _ _
  | exact laws_heldIntS.mono _ _ _
  | exact laws_markIntS.mono _ _ _
  | exact laws_toGraph.mono _ _ _
  | exact spec_NeighborsOf.mono _ _ _ _
  | exact LeO.none _
  | refine LeO.ite ?_ ?_
  | refine LeO.bind ?_ (fun _ => ?_)
set_option maxHeartbeats 8000000 in
set_option maxRecDepth 100000 in
theorem laws_FnExactNeighborsOf.calls (k : Nat) (a0_0 : Int) (A0_1 : Option Addr) (c0_1 : Nat) (l0_1 : List (S68)) (a1 : Int) (r : Bool) (w : World) (hr0_1 : Kd.C k68 w A0_1 l0_1.length l0_1) (hc0_1 : l0_1.length ≤ c0_1) (h : laws_FnExactNeighborsOf.f k a0_0 l0_1 a1 = some r) :
 Calls Try.prog 6 #[.agg #[.int .i64 a0_0, .slice A0_1 l0_1.length c0_1], .int .i64 a1] w fun e w' => e = .returned (.bool r) ∧ Below w.heap.size w w' := by
 have hu24 := Try.underlying24
 have hu27 := Try.underlying27
 have HR0_1 := Aside0.mk hr0_1
 have HC0_1 := Aside0.mk hc0_1
 clear hr0_1 hc0_1
 have HB := zM (Below.refl w.heap.size w)
 have H : ((laws_szGraph.f a0_0 l0_1 1048576).bind fun t353 => (if t353 < 0 then (some true) else ((laws_toGraph.f k a0_0 l0_1).bind fun bt354 => ((spec_NeighborsOf.f k bt354.1 bt354.2 a1).bind fun bt358 => ((laws_toGraph.f k a0_0 l0_1).bind fun bt362 => ((impl_NeighborsOf.f k bt362.1 bt362.2 a1).bind fun bt367 => ((laws_eqIntS.f k bt367.1 bt358.1).bind fun t371 => (if t371 = true then (laws_FnExactNeighborsOf.j0 k a1 bt358.1 bt358.2 bt367.1 bt367.2 (bt367.2 != bt358.2) a0_0 l0_1 bt362.1 bt362.2) else (laws_FnExactNeighborsOf.j0 k a1 bt358.1 bt358.2 bt367.1 bt367.2 true a0_0 l0_1 bt362.1 bt362.2))))))))) = some r := h
 clear h
 replace H := Option.bind_eq_some_iff.mp H
 obtain ⟨t353, A30, H⟩ := H
 have A3 := Aside0.mk A30
 clear A30
 by_cases c4 : t353 < 0
 · rw [if_pos c4] at H
   have c4b0 := decide_eq_true c4
   clear c4
   obtain rfl := Option.some.inj H
   go_enter Try.func6, Try.ntmps6
   go_wp2_with (first | ((with_reducible refine gate_dst (N := 2) rfl ?_); refine zb (w := w) 2 #[.int .i64 a0_0, .slice A0_1 l0_1.length c0_1] 24 zB ?_; clear HB; intro gb352 w5 HB BK352 GW352; have GE352 := GW352; have hcz6_0 := zy BK352 0; have hcz6_1 := zy BK352 1; have hfz6_0 := blk_frozen BK352.out 0; have hfz6_1 := blk_frozen BK352.out 1) | ((with_reducible refine gate_callee (f := 15) rfl ?_); refine zc 18 Try.func15 #[.agg #[.int .i64 a0_0, .slice A0_1 l0_1.length c0_1], .int .i64 1048576] ?_; (with_reducible refine (laws_szGraph.calls a0_0 _ _ l0_1 1048576 t353 _ ?side1 ?side2 A3.out).mono ?_); (case side1 => exact zC (Kd.C_below HR0_1.out HB.out)); (case side2 => exact HC0_1.out); rintro e w7 ⟨rfl, hb⟩; refine ⟨_, rfl, ?_⟩; replace BK352 := zM (blk_below (g := gb352) (o := .cells #[.int .i64 a0_0, .slice A0_1 l0_1.length c0_1] 24 (0, 0)) (zK BK352.out) hb); replace HB := zM (below_step zB hb); (try clear hb); (try clear hb2); (try clear hk); (try clear hi)))
   go_ret
   exact ⟨by first | rfl | (simp [errW_none, errW_some] <;> rfl) | (simp [*, errW_none, errW_some] <;> rfl), zB⟩
 · rw [if_neg c4] at H
   have c4b0 : decide (t353 < 0) = false := decide_eq_false c4
   clear c4
   replace H := Option.bind_eq_some_iff.mp H
   obtain ⟨⟨t354, t355⟩, A80, H⟩ := H
   replace H : ((spec_NeighborsOf.f k t354 t355 a1).bind fun bt358 => ((laws_toGraph.f k a0_0 l0_1).bind fun bt362 => ((impl_NeighborsOf.f k bt362.1 bt362.2 a1).bind fun bt367 => ((laws_eqIntS.f k bt367.1 bt358.1).bind fun t371 => (if t371 = true then (laws_FnExactNeighborsOf.j0 k a1 bt358.1 bt358.2 bt367.1 bt367.2 (bt367.2 != bt358.2) a0_0 l0_1 bt362.1 bt362.2) else (laws_FnExactNeighborsOf.j0 k a1 bt358.1 bt358.2 bt367.1 bt367.2 true a0_0 l0_1 bt362.1 bt362.2)))))) = some r := H
   have A8 := Aside0.mk A80
   clear A80
   replace H := Option.bind_eq_some_iff.mp H
   obtain ⟨⟨t358, t361⟩, A90, H⟩ := H
   replace H : ((laws_toGraph.f k a0_0 l0_1).bind fun bt362 => ((impl_NeighborsOf.f k bt362.1 bt362.2 a1).bind fun bt367 => ((laws_eqIntS.f k bt367.1 t358).bind fun t371 => (if t371 = true then (laws_FnExactNeighborsOf.j0 k a1 t358 t361 bt367.1 bt367.2 (bt367.2 != t361) a0_0 l0_1 bt362.1 bt362.2) else (laws_FnExactNeighborsOf.j0 k a1 t358 t361 bt367.1 bt367.2 true a0_0 l0_1 bt362.1 bt362.2))))) = some r := H
   have A9 := Aside0.mk A90
   clear A90
   replace H := Option.bind_eq_some_iff.mp H
   obtain ⟨⟨t362, t363⟩, A100, H⟩ := H
   replace H : ((impl_NeighborsOf.f k t362 t363 a1).bind fun bt367 => ((laws_eqIntS.f k bt367.1 t358).bind fun t371 => (if t371 = true then (laws_FnExactNeighborsOf.j0 k a1 t358 t361 bt367.1 bt367.2 (bt367.2 != t361) a0_0 l0_1 t362 t363) else (laws_FnExactNeighborsOf.j0 k a1 t358 t361 bt367.1 bt367.2 true a0_0 l0_1 t362 t363)))) = some r := H
   have A10 := Aside0.mk A100
   clear A100
   replace H := Option.bind_eq_some_iff.mp H
   obtain ⟨⟨t367, t370⟩, A110, H⟩ := H
   replace H : ((laws_eqIntS.f k t367 t358).bind fun t371 => (if t371 = true then (laws_FnExactNeighborsOf.j0 k a1 t358 t361 t367 t370 (t370 != t361) a0_0 l0_1 t362 t363) else (laws_FnExactNeighborsOf.j0 k a1 t358 t361 t367 t370 true a0_0 l0_1 t362 t363))) = some r := H
   have A11 := Aside0.mk A110
   clear A110
   have HC12 := Aside0.mk H
   clear H
   go_enter Try.func6, Try.ntmps6
   go_upto_region 8 with (first | ((with_reducible refine gate_dst (N := 2) rfl ?_); refine zb (w := w) 2 #[.int .i64 a0_0, .slice A0_1 l0_1.length c0_1] 24 zB ?_; clear HB; intro gb352 w13 HB BK352 GW352; have GE352 := GW352; have hcz14_0 := zy BK352 0; have hcz14_1 := zy BK352 1; have hfz14_0 := blk_frozen BK352.out 0; have hfz14_1 := blk_frozen BK352.out 1) | ((with_reducible refine gate_callee (f := 15) rfl ?_); refine zc 18 Try.func15 #[.agg #[.int .i64 a0_0, .slice A0_1 l0_1.length c0_1], .int .i64 1048576] ?_; (with_reducible refine (laws_szGraph.calls a0_0 _ _ l0_1 1048576 t353 _ ?side1 ?side2 A3.out).mono ?_); (case side1 => exact zC (Kd.C_below HR0_1.out HB.out)); (case side2 => exact HC0_1.out); rintro e w15 ⟨rfl, hb⟩; refine ⟨_, rfl, ?_⟩; replace BK352 := zM (blk_below (g := gb352) (o := .cells #[.int .i64 a0_0, .slice A0_1 l0_1.length c0_1] 24 (0, 0)) (zK BK352.out) hb); replace HB := zM (below_step zB hb); (try clear hb); (try clear hb2); (try clear hk); (try clear hi); have hcz16_0 := zy BK352 0; have hcz16_1 := zy BK352 1; have hfz16_0 := blk_frozen BK352.out 0; have hfz16_1 := blk_frozen BK352.out 1) | ((with_reducible refine gate_callee (f := 17) rfl ?_); refine zc 23 Try.func17 #[.agg #[.int .i64 a0_0, .slice A0_1 l0_1.length c0_1]] ?_; (with_reducible refine (laws_toGraph.calls k a0_0 _ _ l0_1 t354 t355 _ ?side1 ?side2 A8.out).mono ?_); (case side1 => exact zC (Kd.C_below HR0_1.out HB.out)); (case side2 => exact HC0_1.out); rintro e w17 ⟨v356, rfl, ho0, hb⟩; refine ⟨_, rfl, ?_⟩; have HO357 := zM (Kd.R_lower ho0 (below_size zB)); replace BK352 := zM (blk_below (g := gb352) (o := .cells #[.int .i64 a0_0, .slice A0_1 l0_1.length c0_1] 24 (0, 0)) (zK BK352.out) hb); replace HB := zM (below_step zB hb); (try clear hb); (try clear hb2); (try clear hk); (try clear hi); (try clear ho0); obtain ⟨Ao18, co18, eo18⟩ := Kd.R_slice HO357.out; subst eo18) | ((with_reducible refine gate_callee (f := 28) rfl ?_); refine zc 25 Try.func28 #[.agg #[.int .i64 t354, .slice Ao18 t355.length co18], .int .i64 a1] ?_; (with_reducible refine (spec_NeighborsOf.calls k t354 _ _ t355 a1 t358 t361 _ ?side1 ?side2 A9.out).mono ?_); (case side1 => exact zC (Kd.R_reads' HO357.out).2.2); (case side2 => exact (Kd.R_reads' HO357.out).2.1); rintro e w19 ⟨v359, rfl, ho0, hb⟩; refine ⟨_, rfl, ?_⟩; replace HO357 := zM (Kd.R_below (zR HO357.out) hb); have HO360 := zM (Kd.R_lower ho0 (below_size zB)); replace BK352 := zM (blk_below (g := gb352) (o := .cells #[.int .i64 a0_0, .slice A0_1 l0_1.length c0_1] 24 (0, 0)) (zK BK352.out) hb); replace HB := zM (below_step zB hb); (try clear hb); (try clear hb2); (try clear hk); (try clear hi); (try clear ho0); have hcz20_0 := zy BK352 0; have hcz20_1 := zy BK352 1; have hfz20_0 := blk_frozen BK352.out 0; have hfz20_1 := blk_frozen BK352.out 1) | ((with_reducible refine gate_callee (f := 17) rfl ?_); refine zc 29 Try.func17 #[.agg #[.int .i64 a0_0, .slice A0_1 l0_1.length c0_1]] ?_; (with_reducible refine (laws_toGraph.calls k a0_0 _ _ l0_1 t362 t363 _ ?side1 ?side2 A10.out).mono ?_); (case side1 => exact zC (Kd.C_below HR0_1.out HB.out)); (case side2 => exact HC0_1.out); rintro e w21 ⟨v364, rfl, ho0, hb⟩; refine ⟨_, rfl, ?_⟩; replace HO360 := zM (Kd.R_below (zR HO360.out) hb); have HO365 := zM (Kd.R_lower (Kd.R_new' ho0 (Kd.R_lt (zR HO357.out))) (below_size zB)); replace HO357 := zM (Kd.R_elder' (zR HO357.out) (Kd.R_base ho0) hb); replace BK352 := zM (blk_below (g := gb352) (o := .cells #[.int .i64 a0_0, .slice A0_1 l0_1.length c0_1] 24 (0, 0)) (zK BK352.out) hb); replace HB := zM (below_step zB hb); (try clear hb); (try clear hb2); (try clear hk); (try clear hi); (try clear ho0)) | ((with_reducible refine gate_dst (N := 8) rfl ?_); refine ze 8 #[.int .i64 0, .slice none 0 0] 27 ?_; intro gb366 hg w22 hbox hb; replace HO357 := zM (Kd.R_below (zR HO357.out) hb); replace HO360 := zM (Kd.R_below (zR HO360.out) hb); replace HO365 := zM (Kd.R_below (zR HO365.out) hb); have BK366 := zM (hbox); have GW366 := zM ((by rw [hg]; exact (below_size zB) : w.heap.size ≤ gb366)); have GE366 := zM ((by rw [hg]; exact (below_size zB) : w.heap.size ≤ gb366)); replace HB := zM (below_step zB hb); have NB352_366 := zM ((by rw [hg]; exact Nat.ne_of_lt (blk_lt (g := gb352) (o := .cells #[.int .i64 a0_0, .slice A0_1 l0_1.length c0_1] 24 (0, 0)) (zK BK352.out)) : gb352 ≠ gb366)); have NB366_352 := zM ((by rw [hg]; exact Nat.ne_of_gt (blk_lt (g := gb352) (o := .cells #[.int .i64 a0_0, .slice A0_1 l0_1.length c0_1] 24 (0, 0)) (zK BK352.out)) : gb366 ≠ gb352)); replace BK352 := zM (blk_below (g := gb352) (o := .cells #[.int .i64 a0_0, .slice A0_1 l0_1.length c0_1] 24 (0, 0)) (zK BK352.out) hb); clear hb hbox hg; have hnb23 := NB366_352.out; have hnc23 := NB352_366.out; have hcz24_0 := zy BK366 0; have hcz24_1 := zy BK366 1; have hfz24_0 := blk_frozen BK366.out 0; have hfz24_1 := blk_frozen BK366.out 1; obtain ⟨Ao25, co25, eo25⟩ := Kd.R_slice HO365.out; subst eo25) | ((with_reducible refine gate_callee (f := 29) rfl ?_); refine zc 33 Try.func29 #[.agg #[.int .i64 t362, .slice Ao25 t363.length co25], .int .i64 a1] ?_; (with_reducible refine (impl_NeighborsOf.calls k t362 _ _ t363 a1 t367 t370 _ ?side1 ?side2 A11.out).mono ?_); (case side1 => refine (Kd.R_reads' (e := 68) (base := w.heap.size) (ok := fun k_ => (True ∧ some k_ ≠ (.slice Ao18 t355.length co18 : Value).ownBlock)) (n := t363.length) (c := co25) ?_).2.2; exact (by (with_reducible repeat (first | apply Kd.R_alloc | apply Kd.R_drewN | apply Kd.R_drew)); exact (Kd.R_mono (Kd.R_far (p := ⟨gb366, 1, none⟩) (Kd.R_far (p := ⟨gb366, 0, none⟩) (Kd.R_types HO365.out BK366.out (by decide)) (fun _ hk => hk.2) (.int .i64 t362)) (fun _ hk => hk.2) (.slice Ao25 t363.length co25)) (fun _ h_ => h_.1)))); (case side2 => exact (Kd.R_reads' HO365.out).2.1); rintro e w26 ⟨v368, rfl, ho0, hb⟩; refine ⟨_, rfl, ?_⟩; replace HO357 := zM (Kd.R_below (by (with_reducible repeat (first | apply Kd.R_alloc | apply Kd.R_drewN | apply Kd.R_drew)); exact (Kd.R_mono (Kd.R_far (p := ⟨gb366, 1, none⟩) (Kd.R_far (p := ⟨gb366, 0, none⟩) (Kd.R_types HO357.out BK366.out (by decide)) (fun _ hk => hk.2) (.int .i64 t362)) (fun _ hk => hk.2) (.slice Ao25 t363.length co25)) (fun _ h_ => h_.1))) hb); replace HO365 := zM (Kd.R_below (by (with_reducible repeat (first | apply Kd.R_alloc | apply Kd.R_drewN | apply Kd.R_drew)); exact (Kd.R_mono (Kd.R_far (p := ⟨gb366, 1, none⟩) (Kd.R_far (p := ⟨gb366, 0, none⟩) (Kd.R_types HO365.out BK366.out (by decide)) (fun _ hk => hk.2) (.int .i64 t362)) (fun _ hk => hk.2) (.slice Ao25 t363.length co25)) (fun _ h_ => h_.1))) hb); have HO369 := zM (Kd.R_lower (Kd.R_new' ho0 (Kd.R_lt (by (with_reducible repeat (first | apply Kd.R_alloc | apply Kd.R_drewN | apply Kd.R_drew)); exact (Kd.R_mono (Kd.R_far (p := ⟨gb366, 1, none⟩) (Kd.R_far (p := ⟨gb366, 0, none⟩) (Kd.R_types HO360.out BK366.out (by decide)) (fun _ hk => hk.2) (.int .i64 t362)) (fun _ hk => hk.2) (.slice Ao25 t363.length co25)) (fun _ h_ => h_.1))))) (below_size zB)); replace HO360 := zM (Kd.R_elder' (by (with_reducible repeat (first | apply Kd.R_alloc | apply Kd.R_drewN | apply Kd.R_drew)); exact (Kd.R_mono (Kd.R_far (p := ⟨gb366, 1, none⟩) (Kd.R_far (p := ⟨gb366, 0, none⟩) (Kd.R_types HO360.out BK366.out (by decide)) (fun _ hk => hk.2) (.int .i64 t362)) (fun _ hk => hk.2) (.slice Ao25 t363.length co25)) (fun _ h_ => h_.1))) (Kd.R_base ho0) hb); replace BK352 := zM (blk_below (g := gb352) (o := .cells #[.int .i64 a0_0, .slice A0_1 l0_1.length c0_1] 24 (0, 0)) (by (with_reducible repeat (first | refine blk_drewN ?_ _ | refine blk_drew ?_ | refine blk_alloc ?_ _)); refine blk_far ?_ NB352_366.out _; (with_reducible repeat (first | refine blk_drewN ?_ _ | refine blk_drew ?_ | refine blk_alloc ?_ _)); refine blk_far ?_ NB352_366.out _; (with_reducible repeat (first | refine blk_drewN ?_ _ | refine blk_drew ?_ | refine blk_alloc ?_ _)); exact BK352.out) hb); replace BK366 := zM (blk_below (g := gb366) (o := .cells #[.int .i64 t362, .slice Ao25 t363.length co25] 27 (0, 0)) (by (with_reducible repeat (first | refine blk_drewN ?_ _ | refine blk_drew ?_ | refine blk_alloc ?_ _)); refine blk_put (cs := #[.int .i64 t362, .slice none 0 0]) ?_ 1 _ rfl; (with_reducible repeat (first | refine blk_drewN ?_ _ | refine blk_drew ?_ | refine blk_alloc ?_ _)); refine blk_put (cs := #[.int .i64 0, .slice none 0 0]) ?_ 0 _ rfl; (with_reducible repeat (first | refine blk_drewN ?_ _ | refine blk_drew ?_ | refine blk_alloc ?_ _)); exact BK366.out) hb); replace HB := zM (below_step zB hb); (try clear hb); (try clear hb2); (try clear hk); (try clear hi); (try clear ho0)))
   (try simp only [Act.put, List.setIfInBounds_toArray, List.set_cons_zero, List.set_cons_succ])
   go_cut [44] (fun v44 wc => ∃ (kq : Nat) (x44_11 : Bool), v44 = .bool x44_11 ∧ Aside0 (laws_FnExactNeighborsOf.j0 kq a1 t358 t361 t367 t370 x44_11 a0_0 l0_1 t362 t363 = some r) ∧ Aside0 (kq ≤ k) ∧ Aside0 (Kd.R (Kd.int .i64) 3 wc w.heap.size (fun k_ => some k_ ≠ (v368 : Value).ownBlock) v359 t358) ∧ Aside0 (Kd.R (Kd.int .i64) 3 wc w.heap.size (fun k_ => some k_ ≠ (v359 : Value).ownBlock) v368 t367) ∧ Aside0 (Kd.R k68 68 wc w.heap.size (fun _ => True) (.slice Ao25 t363.length co25) t363) ∧ Aside0 (wc.heap[gb352]? = some (.cells #[.int .i64 a0_0, (.slice A0_1 l0_1.length c0_1)] 24 (0, 0))) ∧ Aside0 (wc.heap[gb366]? = some (.cells #[.int .i64 t362, (.slice Ao25 t363.length co25)] 27 (0, 0))) ∧ Aside0 (Below w.heap.size w wc))
   case first =>
    have H := HC12.out
    clear HC12
    replace H := Option.bind_eq_some_iff.mp H
    obtain ⟨t371, A270, H⟩ := H
    have A27 := Aside0.mk A270
    clear A270
    by_cases c28 : t371 = true
    · subst c28
      rw [if_pos rfl] at H
      have H' := Aside0.mk H
      clear H
      obtain ⟨Ao29, co29, eo29⟩ := Kd.R_slice HO369.out
      subst eo29
      obtain ⟨Ao30, co30, eo30⟩ := Kd.R_slice HO360.out
      subst eo30
      go_wp2_with (first | ((with_reducible refine gate_callee (f := 27) rfl ?_); refine zc 38 Try.func27 #[.slice Ao29 t367.length co29, .slice Ao30 t358.length co30] ?_; (with_reducible refine (laws_eqIntS.calls k _ _ t367 _ _ t358 true _ ?side1 ?side2 ?side3 ?side4 A27.out).mono ?_); (case side1 => exact zC (Kd.R_reads' HO369.out).2.2); (case side2 => exact (Kd.R_reads' HO369.out).2.1); (case side3 => exact zC (Kd.R_reads' HO360.out).2.2); (case side4 => exact (Kd.R_reads' HO360.out).2.1); rintro e w' ⟨rfl, ⟨nd, rfl⟩⟩; refine ⟨_, rfl, ?_⟩))
      go_meet
      case rel => exact ⟨_, ((t370 != t361)), (by first | rfl | (simp; done) | (simp [*]; done)), H', ⟨by first | omega | exact Nat.le_refl _⟩, ⟨by (with_reducible repeat (first | apply Kd.R_alloc | apply Kd.R_drewN | apply Kd.R_drew)); exact Kd.R_mono HO360.out (fun _ hk => hk.2)⟩, ⟨by (with_reducible repeat (first | apply Kd.R_alloc | apply Kd.R_drewN | apply Kd.R_drew)); exact Kd.R_mono HO369.out (fun _ hk => hk.2)⟩, ⟨by (with_reducible repeat (first | apply Kd.R_alloc | apply Kd.R_drewN | apply Kd.R_drew)); exact Kd.R_mono HO365.out (fun _ hk => trivial)⟩, ⟨zK BK352.out⟩, ⟨zK BK366.out⟩, ⟨zB⟩⟩
    · replace c28 := Bool.eq_false_iff.mpr c28
      subst c28
      have H1 : (laws_FnExactNeighborsOf.j0 k a1 t358 t361 t367 t370 true a0_0 l0_1 t362 t363) = some r := by rw [if_neg (show ¬ (false = true) by decide)] at H; exact H
      clear H
      have H := H1
      clear H1
      have H' := Aside0.mk H
      clear H
      obtain ⟨Ao31, co31, eo31⟩ := Kd.R_slice HO369.out
      subst eo31
      obtain ⟨Ao32, co32, eo32⟩ := Kd.R_slice HO360.out
      subst eo32
      go_wp2_with (first | ((with_reducible refine gate_callee (f := 27) rfl ?_); refine zc 38 Try.func27 #[.slice Ao31 t367.length co31, .slice Ao32 t358.length co32] ?_; (with_reducible refine (laws_eqIntS.calls k _ _ t367 _ _ t358 false _ ?side1 ?side2 ?side3 ?side4 A27.out).mono ?_); (case side1 => exact zC (Kd.R_reads' HO369.out).2.2); (case side2 => exact (Kd.R_reads' HO369.out).2.1); (case side3 => exact zC (Kd.R_reads' HO360.out).2.2); (case side4 => exact (Kd.R_reads' HO360.out).2.1); rintro e w' ⟨rfl, ⟨nd, rfl⟩⟩; refine ⟨_, rfl, ?_⟩))
      go_meet
      case rel => exact ⟨_, (true), (by first | rfl | (simp; done) | (simp [*]; done)), H', ⟨by first | omega | exact Nat.le_refl _⟩, ⟨by (with_reducible repeat (first | apply Kd.R_alloc | apply Kd.R_drewN | apply Kd.R_drew)); exact Kd.R_mono HO360.out (fun _ hk => hk.2)⟩, ⟨by (with_reducible repeat (first | apply Kd.R_alloc | apply Kd.R_drewN | apply Kd.R_drew)); exact Kd.R_mono HO369.out (fun _ hk => hk.2)⟩, ⟨by (with_reducible repeat (first | apply Kd.R_alloc | apply Kd.R_drewN | apply Kd.R_drew)); exact Kd.R_mono HO365.out (fun _ hk => trivial)⟩, ⟨zK BK352.out⟩, ⟨zK BK366.out⟩, ⟨zB⟩⟩
   case rest =>
    clear HC12
    try clear c1
    try clear c2
    try clear p2
    try clear c4
    try clear c4b0
    try clear c6
    try clear c15
    try clear c17
    try clear c23
    try clear c27
    try clear c28
    try clear c29
    try clear hcz14_0
    try clear hcz14_1
    try clear hcz16_0
    try clear hcz16_1
    try clear hcz20_0
    try clear hcz20_1
    try clear hcz24_0
    try clear hcz24_1
    try clear hcz6_0
    try clear hcz6_1
    try clear hfz14_0
    try clear hfz14_1
    try clear hfz16_0
    try clear hfz16_1
    try clear hfz20_0
    try clear hfz20_1
    try clear hfz24_0
    try clear hfz24_1
    try clear hfz6_0
    try clear hfz6_1
    obtain ⟨kq, x44_11, rfl, HA, HJ11, HO_6, HO_9, HO_367001, BK352, BK366, HB⟩ := hcut
    cases kq with
    | zero => exact absurd HA.out (by simp [laws_FnExactNeighborsOf.j0])
    | succ kj11 =>
     have H := HA.out
     clear HA
     simp only [laws_FnExactNeighborsOf.j0] at H
     by_cases c33 : x44_11 = true
     · subst c33
       rw [if_pos rfl] at H
       obtain rfl := Option.some.inj H
       go_wp2
       go_ret
       exact ⟨by first | rfl | (simp [errW_none, errW_some] <;> rfl) | (simp [*, errW_none, errW_some] <;> rfl), zB⟩
     · replace c33 := Bool.eq_false_iff.mpr c33
       subst c33
       have H1 : ((laws_toGraph.f kj11 a0_0 l0_1).bind fun bt372 => ((laws_eqGraph.f kj11 t362 t363 bt372.1 bt372.2).bind fun t376 => (if t376 = true then ((laws_markGraph.f t362 t363 1).bind fun bt377 => (if bt377.1 < 0 then (laws_FnExactNeighborsOf.j1 kj11 a1 t358 t361 t367 true a0_0 l0_1) else ((laws_eqIntS.f kj11 t367 t358).bind fun t379 => (if t379 = true then (laws_FnExactNeighborsOf.j1 kj11 a1 t358 t361 t367 (t370 != t361) a0_0 l0_1) else (laws_FnExactNeighborsOf.j1 kj11 a1 t358 t361 t367 true a0_0 l0_1))))) else (some false)))) = some r := by rw [if_neg (show ¬ (false = true) by decide)] at H; exact H
       clear H
       have H := H1
       clear H1
       replace H := Option.bind_eq_some_iff.mp H
       obtain ⟨⟨t372, t373⟩, A340, H⟩ := H
       replace H : ((laws_eqGraph.f kj11 t362 t363 t372 t373).bind fun t376 => (if t376 = true then ((laws_markGraph.f t362 t363 1).bind fun bt377 => (if bt377.1 < 0 then (laws_FnExactNeighborsOf.j1 kj11 a1 t358 t361 t367 true a0_0 l0_1) else ((laws_eqIntS.f kj11 t367 t358).bind fun t379 => (if t379 = true then (laws_FnExactNeighborsOf.j1 kj11 a1 t358 t361 t367 (t370 != t361) a0_0 l0_1) else (laws_FnExactNeighborsOf.j1 kj11 a1 t358 t361 t367 true a0_0 l0_1))))) else (some false))) = some r := H
       have A34 := Aside0.mk A340
       clear A340
       replace H := Option.bind_eq_some_iff.mp H
       obtain ⟨t376, A350, H⟩ := H
       have A35 := Aside0.mk A350
       clear A350
       by_cases c36 : t376 = true
       · subst c36
         rw [if_pos rfl] at H
         replace H := Option.bind_eq_some_iff.mp H
         obtain ⟨⟨t377, t378⟩, A370, H⟩ := H
         replace H : (if t377 < 0 then (laws_FnExactNeighborsOf.j1 kj11 a1 t358 t361 t367 true a0_0 l0_1) else ((laws_eqIntS.f kj11 t367 t358).bind fun t379 => (if t379 = true then (laws_FnExactNeighborsOf.j1 kj11 a1 t358 t361 t367 (t370 != t361) a0_0 l0_1) else (laws_FnExactNeighborsOf.j1 kj11 a1 t358 t361 t367 true a0_0 l0_1)))) = some r := H
         have A37 := Aside0.mk A370
         clear A370
         have HC38 := Aside0.mk H
         clear H
         try go_wp2
         replace HO_6 := zM (Kd.R_drew HO_6.out)
         replace HO_9 := zM (Kd.R_drew HO_9.out)
         replace HO_367001 := zM (Kd.R_drew HO_367001.out)
         replace BK352 := zM (blk_drew BK352.out)
         replace BK366 := zM (blk_drew BK366.out)
         replace HB := zM (below_drew1 HB.out)
         refine zs (n := 5) (fun w' => w'.cell? ⟨gb366, 0, none⟩ = some (.int .i64 t362) ∧ w'.cell? ⟨gb366, 1, none⟩ = some (.slice Ao25 t363.length co25) ∧ w'.cell? ⟨gb352, 0, none⟩ = some (.int .i64 a0_0) ∧ w'.cell? ⟨gb352, 1, none⟩ = some (.slice A0_1 l0_1.length c0_1)) ⟨(blk_cell BK366.out 0).trans rfl, (blk_cell BK366.out 1).trans rfl, (blk_cell BK352.out 0).trans rfl, (blk_cell BK352.out 1).trans rfl⟩ (fun hHeld => ?_)
         generalize wc.drew = w39 at HO_6 HO_9 HO_367001 BK352 BK366 HB hHeld ⊢
         refine zl 0 45 hHeld ?_ (hy := by rintro w' ⟨s0, s1, s2, s3⟩; go_simp; with_reducible rfl)
         refine zl 1 46 hHeld ?_ (hy := by rintro w' ⟨s0, s1, s2, s3⟩; go_simp; with_reducible rfl)
         refine zh 2 47 Try.func17 #[.agg #[.int .i64 a0_0, .slice A0_1 l0_1.length c0_1]] (fun K hK => ?_)
         with_reducible refine (laws_toGraph.calls kj11 a0_0 _ _ l0_1 t372 t373 _ ?side1 ?side2 A34.out).mono ?_
         (case side1 => exact zC (Kd.C_below HR0_1.out HB.out))
         (case side2 => exact HC0_1.out)
         rintro e w40 ⟨v374, rfl, ho0, hb⟩
         refine ⟨_, rfl, ?_⟩
         replace HO_6 := zM (Kd.R_below (zR HO_6.out) hb)
         replace HO_9 := zM (Kd.R_below (zR HO_9.out) hb)
         have HO375 := zM (Kd.R_lower (Kd.R_new' ho0 (Kd.R_lt (zR HO_367001.out))) (below_size zB))
         replace HO_367001 := zM (Kd.R_elder' (zR HO_367001.out) (Kd.R_base ho0) hb)
         replace BK352 := zM (blk_below (g := gb352) (o := .cells #[.int .i64 a0_0, .slice A0_1 l0_1.length c0_1] 24 (0, 0)) (zK BK352.out) hb)
         replace BK366 := zM (blk_below (g := gb366) (o := .cells #[.int .i64 t362, .slice Ao25 t363.length co25] 27 (0, 0)) (zK BK366.out) hb)
         replace HB := zM (below_step zB hb)
         (try clear hb)
         (try clear hb2)
         (try clear hk)
         (try clear hi)
         (try clear ho0)
         obtain ⟨Ao41, co41, eo41⟩ := Kd.R_slice HO375.out
         (first | subst eo41 | (injection eo41 with f1_ f2_ f3_; have f4_ := f1_.symm; have f5_ := f3_.symm; clear f1_ f2_ f3_; subst f4_; subst f5_))
         refine hK.out _ _ ⟨(blk_cell BK366.out 0).trans rfl, (blk_cell BK366.out 1).trans rfl, (blk_cell BK352.out 0).trans rfl, (blk_cell BK352.out 1).trans rfl⟩ (fun hHeld => ?_)
         clear hK K
         refine zn 47 ?_
         refine zh 3 48 Try.func19 #[.agg #[.int .i64 t362, .slice Ao25 t363.length co25], .agg #[.int .i64 t372, .slice Ao41 t373.length co41]] (fun K hK => ?_)
         with_reducible refine (laws_eqGraph.calls kj11 t362 _ _ t363 t372 _ _ t373 true _ ?side1 ?side2 ?side3 ?side4 A35.out).mono ?_
         (case side1 => exact zC (Kd.R_reads' HO_367001.out).2.2)
         (case side2 => exact (Kd.R_reads' HO_367001.out).2.1)
         (case side3 => exact zC (Kd.R_reads' HO375.out).2.2)
         (case side4 => exact (Kd.R_reads' HO375.out).2.1)
         rintro e w42 ⟨rfl, hb⟩
         refine ⟨_, rfl, ?_⟩
         replace HO_6 := zM (Kd.R_below (zR HO_6.out) hb)
         replace HO_9 := zM (Kd.R_below (zR HO_9.out) hb)
         replace HO_367001 := zM (Kd.R_below (zR HO_367001.out) hb)
         replace HO375 := zM (Kd.R_below (zR HO375.out) hb)
         replace BK352 := zM (blk_below (g := gb352) (o := .cells #[.int .i64 a0_0, .slice A0_1 l0_1.length c0_1] 24 (0, 0)) (zK BK352.out) hb)
         replace BK366 := zM (blk_below (g := gb366) (o := .cells #[.int .i64 t362, .slice Ao25 t363.length co25] 27 (0, 0)) (zK BK366.out) hb)
         replace HB := zM (below_step zB hb)
         (try clear hb)
         (try clear hb2)
         (try clear hk)
         (try clear hi)
         refine hK.out _ _ ⟨(blk_cell BK366.out 0).trans rfl, (blk_cell BK366.out 1).trans rfl, (blk_cell BK352.out 0).trans rfl, (blk_cell BK352.out 1).trans rfl⟩ (fun hHeld => ?_)
         clear hK K
         refine zn 48 ?_
         refine zq 4 49 ?_
         refine zx ?_
         have hnb43 := NB366_352.out
         have hnc43 := NB352_366.out
         have hcz44_0 := zy BK366 0
         have hcz44_1 := zy BK366 1
         have hfz44_0 := blk_frozen BK366.out 0
         have hfz44_1 := blk_frozen BK366.out 1
         go_upto_region 14 with (first | ((with_reducible refine gate_callee (f := 22) rfl ?_); refine zc 52 Try.func22 #[.agg #[.int .i64 t362, .slice Ao25 t363.length co25], .int .i64 1] ?_; (with_reducible refine (laws_markGraph.calls t362 (fun k_ => some k_ = (.slice Ao25 t363.length co25 : Value).ownBlock) (.slice Ao25 t363.length co25) t363 1 t377 t378 w _ ?side1 ?side2 A37.out).mono ?_); (case side1 => repeat (first | (with_reducible first | exact HB.out | apply below_alloc | apply pw_below_drewN | apply below_drew1 | refine below_set ?_ GE352.out | refine below_set ?_ GE366.out) | exact HB.out)); (case side2 => exact Kd.R_tight rfl HO_367001.out); rintro e w45 ⟨rfl, hy0, hb, hkp⟩; refine ⟨_, rfl, ?_⟩; replace HO_6 := zM (Kd.R_mono (ok' := fun k_ => some k_ ≠ (v368 : Value).ownBlock) (Kd.R_keptB ((Kd.R_apart' HO_6.out (Kd.R_typed HO_367001.out) (by decide))) hkp (fun k_ hk_ hs_ => (hk_.2) hs_)) (fun k_ hk_ => hk_.1.1)); replace HO_9 := zM (Kd.R_mono (ok' := fun k_ => some k_ ≠ (v359 : Value).ownBlock) (Kd.R_keptB ((Kd.R_apart' HO_9.out (Kd.R_typed HO_367001.out) (by decide))) hkp (fun k_ hk_ hs_ => (hk_.2) hs_)) (fun k_ hk_ => hk_.1.1)); replace BK352 := zM (blk_kept (zK BK352.out) hkp (fun hs_ => (fun e_ => (Kd.R_ne HO_367001.out BK352.out (by decide)) e_) hs_)); replace BK366 := zM (blk_kept (zK BK366.out) hkp (fun hs_ => (fun e_ => (Kd.R_ne HO_367001.out BK366.out (by decide)) e_) hs_)); replace HO_367001 := zM (Kd.R_reok rfl hy0 (fun k_ e_ => HO_367001.out.1 k_ e_)); replace HO375 := zM (Kd.R_mono (ok' := fun k_ => some k_ ≠ (.slice Ao25 t363.length co25 : Value).ownBlock) (Kd.R_keptB (HO375.out) hkp (fun k_ hk_ hs_ => (hk_.2) hs_)) (fun k_ hk_ => hk_.1.2)); replace HB := zM (hb); (try clear hb); (try clear hkp); (try clear hy0)))
         (try simp only [Act.put, List.setIfInBounds_toArray, List.set_cons_zero, List.set_cons_succ])
         go_cut [65] (fun v65 wc => ∃ (kq : Nat) (x65_37 : Bool), v65 = .bool x65_37 ∧ Aside0 (laws_FnExactNeighborsOf.j1 kq a1 t358 t361 t367 x65_37 a0_0 l0_1 = some r) ∧ Aside0 (kq ≤ kj11) ∧ Aside0 (Kd.R (Kd.int .i64) 3 wc w.heap.size (fun k_ => some k_ ≠ (v368 : Value).ownBlock) v359 t358) ∧ Aside0 (Kd.R (Kd.int .i64) 3 wc w.heap.size (fun k_ => some k_ ≠ (v359 : Value).ownBlock) v368 t367) ∧ Aside0 (Kd.R k68 68 wc w.heap.size (fun _ => True) (.slice Ao25 t363.length co25) t378) ∧ Aside0 (wc.heap[gb352]? = some (.cells #[.int .i64 a0_0, (.slice A0_1 l0_1.length c0_1)] 24 (0, 0))) ∧ Aside0 (wc.heap[gb366]? = some (.cells #[.int .i64 t362, (.slice Ao25 t363.length co25)] 27 (0, 0))) ∧ Aside0 (Below w.heap.size w wc))
         case first =>
          have H := HC38.out
          clear HC38
          by_cases c46 : t377 < 0
          · rw [if_pos c46] at H
            have c46b0 := decide_eq_true c46
            clear c46
            (first | rw [c46b0] | (simp only [i64_w, i32_w]; rw [c46b0]) | skip)
            have H' := Aside0.mk H
            clear H
            go_wp2
            go_meet
            case rel => exact ⟨_, (true), (by first | rfl | (simp; done) | (simp [*]; done)), H', ⟨by have := HJ11.out; first | omega | exact Nat.le_refl _⟩, ⟨zR HO_6.out⟩, ⟨zR HO_9.out⟩, ⟨by (with_reducible repeat (first | apply Kd.R_alloc | apply Kd.R_drewN | apply Kd.R_drew)); exact Kd.R_mono HO_367001.out (fun _ hk => trivial)⟩, ⟨zK BK352.out⟩, ⟨zK BK366.out⟩, ⟨zB⟩⟩
          · rw [if_neg c46] at H
            have c46b0 : decide (t377 < 0) = false := decide_eq_false c46
            clear c46
            (first | rw [c46b0] | (simp only [i64_w, i32_w]; rw [c46b0]) | skip)
            replace H := Option.bind_eq_some_iff.mp H
            obtain ⟨t379, A470, H⟩ := H
            have A47 := Aside0.mk A470
            clear A470
            by_cases c48 : t379 = true
            · subst c48
              rw [if_pos rfl] at H
              have H' := Aside0.mk H
              clear H
              obtain ⟨Ao49, co49, eo49⟩ := Kd.R_slice HO_9.out
              subst eo49
              obtain ⟨Ao50, co50, eo50⟩ := Kd.R_slice HO_6.out
              subst eo50
              go_wp2_with (first | (go_at_call 27; (with_reducible refine (laws_eqIntS.calls kj11 _ _ t367 _ _ t358 true _ ?side1 ?side2 ?side3 ?side4 A47.out).mono ?_); (case side1 => exact zC (Kd.R_reads' HO_9.out).2.2); (case side2 => exact (Kd.R_reads' HO_9.out).2.1); (case side3 => exact zC (Kd.R_reads' HO_6.out).2.2); (case side4 => exact (Kd.R_reads' HO_6.out).2.1); rintro e w' ⟨rfl, ⟨nd, rfl⟩⟩))
              go_meet
              case rel => exact ⟨_, ((t370 != t361)), (by first | rfl | (simp; done) | (simp [*]; done)), H', ⟨by have := HJ11.out; first | omega | exact Nat.le_refl _⟩, ⟨zR HO_6.out⟩, ⟨zR HO_9.out⟩, ⟨by (with_reducible repeat (first | apply Kd.R_alloc | apply Kd.R_drewN | apply Kd.R_drew)); exact Kd.R_mono HO_367001.out (fun _ hk => trivial)⟩, ⟨zK BK352.out⟩, ⟨zK BK366.out⟩, ⟨zB⟩⟩
            · replace c48 := Bool.eq_false_iff.mpr c48
              subst c48
              have H1 : (laws_FnExactNeighborsOf.j1 kj11 a1 t358 t361 t367 true a0_0 l0_1) = some r := by rw [if_neg (show ¬ (false = true) by decide)] at H; exact H
              clear H
              have H := H1
              clear H1
              have H' := Aside0.mk H
              clear H
              obtain ⟨Ao51, co51, eo51⟩ := Kd.R_slice HO_9.out
              subst eo51
              obtain ⟨Ao52, co52, eo52⟩ := Kd.R_slice HO_6.out
              subst eo52
              go_wp2_with (first | (go_at_call 27; (with_reducible refine (laws_eqIntS.calls kj11 _ _ t367 _ _ t358 false _ ?side1 ?side2 ?side3 ?side4 A47.out).mono ?_); (case side1 => exact zC (Kd.R_reads' HO_9.out).2.2); (case side2 => exact (Kd.R_reads' HO_9.out).2.1); (case side3 => exact zC (Kd.R_reads' HO_6.out).2.2); (case side4 => exact (Kd.R_reads' HO_6.out).2.1); rintro e w' ⟨rfl, ⟨nd, rfl⟩⟩))
              go_meet
              case rel => exact ⟨_, (true), (by first | rfl | (simp; done) | (simp [*]; done)), H', ⟨by have := HJ11.out; first | omega | exact Nat.le_refl _⟩, ⟨zR HO_6.out⟩, ⟨zR HO_9.out⟩, ⟨by (with_reducible repeat (first | apply Kd.R_alloc | apply Kd.R_drewN | apply Kd.R_drew)); exact Kd.R_mono HO_367001.out (fun _ hk => trivial)⟩, ⟨zK BK352.out⟩, ⟨zK BK366.out⟩, ⟨zB⟩⟩
         case rest =>
          clear HC38
          try clear c1
          try clear c2
          try clear p2
          try clear c3
          try clear c4
          try clear c4b0
          try clear c6
          try clear c15
          try clear c17
          try clear c19
          try clear c22
          try clear c23
          try clear c27
          try clear c28
          try clear c29
          try clear c33
          try clear c36
          try clear c43
          try clear c46
          try clear c46b0
          try clear c48
          try clear hcz14_0
          try clear hcz14_1
          try clear hcz16_0
          try clear hcz16_1
          try clear hcz20_0
          try clear hcz20_1
          try clear hcz24_0
          try clear hcz24_1
          try clear hcz44_0
          try clear hcz44_1
          try clear hcz6_0
          try clear hcz6_1
          try clear hfz14_0
          try clear hfz14_1
          try clear hfz16_0
          try clear hfz16_1
          try clear hfz20_0
          try clear hfz20_1
          try clear hfz24_0
          try clear hfz24_1
          try clear hfz44_0
          try clear hfz44_1
          try clear hfz6_0
          try clear hfz6_1
          try clear p2
          obtain ⟨kq, x65_37, rfl, HA, HJ37, HO_6, HO_9, HO_367001, BK352, BK366, HB⟩ := hcut
          have hl367001_37 := (Kd.R_reads' HO_367001.out).1
          rw [hl367001_37] at HO_367001
          (try simp only [hl367001_37])
          (try simp only [hl367001_37] at BK352)
          (try simp only [hl367001_37] at BK366)
          (try simp only [hl367001_37] at HO_6)
          (try simp only [hl367001_37] at HO_9)
          cases kq with
          | zero => exact absurd HA.out (by simp [laws_FnExactNeighborsOf.j1])
          | succ kj37 =>
           have H := HA.out
           clear HA
           simp only [laws_FnExactNeighborsOf.j1] at H
           by_cases c53 : x65_37 = true
           · subst c53
             rw [if_pos rfl] at H
             obtain rfl := Option.some.inj H
             go_wp2
             go_ret
             exact ⟨by first | rfl | (simp [errW_none, errW_some] <;> rfl) | (simp [*, errW_none, errW_some] <;> rfl), zB⟩
           · replace c53 := Bool.eq_false_iff.mpr c53
             subst c53
             have H1 : ((laws_markIntS.f kj37 t367 1).bind fun bt380 => ((laws_heldIntS.f kj37 bt380.2 1).bind fun t382 => (if t382 < 0 then (some false) else (if t382 = bt380.1 then ((laws_toGraph.f kj37 a0_0 l0_1).bind fun bt383 => ((impl_NeighborsOf.f kj37 bt383.1 bt383.2 a1).bind fun bt387 => ((laws_eqIntS.f kj37 bt387.1 t358).bind fun t391 => (if t391 = true then (laws_FnExactNeighborsOf.j2 kj37 bt380.2 bt380.1 (bt387.2 != t361)) else (laws_FnExactNeighborsOf.j2 kj37 bt380.2 bt380.1 true))))) else (some false))))) = some r := by rw [if_neg (show ¬ (false = true) by decide)] at H; exact H
             clear H
             have H := H1
             clear H1
             replace H := Option.bind_eq_some_iff.mp H
             obtain ⟨⟨t380, t381⟩, A540, H⟩ := H
             replace H : ((laws_heldIntS.f kj37 t381 1).bind fun t382 => (if t382 < 0 then (some false) else (if t382 = t380 then ((laws_toGraph.f kj37 a0_0 l0_1).bind fun bt383 => ((impl_NeighborsOf.f kj37 bt383.1 bt383.2 a1).bind fun bt387 => ((laws_eqIntS.f kj37 bt387.1 t358).bind fun t391 => (if t391 = true then (laws_FnExactNeighborsOf.j2 kj37 t381 t380 (bt387.2 != t361)) else (laws_FnExactNeighborsOf.j2 kj37 t381 t380 true))))) else (some false)))) = some r := H
             have A54 := Aside0.mk A540
             clear A540
             replace H := Option.bind_eq_some_iff.mp H
             obtain ⟨t382, A550, H⟩ := H
             have A55 := Aside0.mk A550
             clear A550
             by_cases c56 : t382 < 0
             · rw [if_pos c56] at H
               have c56b0 := decide_eq_true c56
               clear c56
               obtain rfl := Option.some.inj H
               obtain ⟨Ao57, co57, eo57⟩ := Kd.R_slice HO_9.out
               subst eo57
               go_wp2_with (first | ((with_reducible refine gate_callee (f := 30) rfl ?_); refine zc 68 Try.func30 #[.slice Ao57 t367.length co57, .int .i64 1] ?_; (with_reducible refine (laws_markIntS.calls kj37 (fun k_ => some k_ = (.slice Ao57 t367.length co57 : Value).ownBlock) (.slice Ao57 t367.length co57) t367 1 t380 t381 w _ ?side1 ?side2 A54.out).mono ?_); (case side1 => repeat (first | (with_reducible first | exact HB.out | apply below_alloc | apply pw_below_drewN | apply below_drew1 | refine below_set ?_ GE352.out | refine below_set ?_ GE366.out) | exact HB.out)); (case side2 => exact Kd.R_tight rfl HO_9.out); rintro e w58 ⟨rfl, hy0, hb, hkp⟩; refine ⟨_, rfl, ?_⟩; replace HO_6 := zM (Kd.R_mono (ok' := fun k_ => some k_ ≠ (.slice Ao57 t367.length co57 : Value).ownBlock) (Kd.R_keptB (HO_6.out) hkp (fun k_ hk_ hs_ => (hk_) hs_)) (fun k_ hk_ => hk_.1)); replace HO_367001 := zM (Kd.R_mono (ok' := fun k_ => True) (Kd.R_keptB ((Kd.R_apart' HO_367001.out (Kd.R_typed HO_9.out) (by decide))) hkp (fun k_ hk_ hs_ => (hk_.2) hs_)) (fun k_ hk_ => trivial)); replace BK352 := zM (blk_kept (zK BK352.out) hkp (fun hs_ => (fun e_ => (Kd.R_ne HO_9.out BK352.out (by decide)) e_) hs_)); replace BK366 := zM (blk_kept (zK BK366.out) hkp (fun hs_ => (fun e_ => (Kd.R_ne HO_9.out BK366.out (by decide)) e_) hs_)); replace HO_9 := zM (Kd.R_reok rfl hy0 (fun k_ e_ => HO_9.out.1 k_ e_)); replace HB := zM (hb); (try clear hb); (try clear hkp); (try clear hy0)) | ((with_reducible refine gate_callee (f := 31) rfl ?_); refine goesL_ (some 71) rfl rfl Try.func31 (by kernel_rfl) rfl #[.slice Ao57 t381.length co57, .int .i64 1] rfl (by (try simp only [List.map_toArray, List.map_cons, List.map_nil]); first | done | (rw [show t381.length = t367.length from (Kd.R_reads' HO_9.out).1.symm] <;> rfl) | rfl | (simp only [List.length_drop, List.length_take]; rfl)) ?_; (with_reducible refine (laws_heldIntS.calls kj37 _ _ t381 1 t382 _ ?side1 ?side2 A55.out).mono ?_); (case side1 => exact zC (Kd.R_reads' HO_9.out).2.2); (case side2 => rw [show t381.length = t367.length from (Kd.R_reads' HO_9.out).1.symm]; exact (Kd.R_reads' HO_9.out).2.1); rintro e w' ⟨rfl, ⟨nd, rfl⟩⟩; refine ⟨_, rfl, ?_⟩))
               go_ret
               exact ⟨by first | rfl | (simp [errW_none, errW_some] <;> rfl) | (simp [*, errW_none, errW_some] <;> rfl), zB⟩
             · rw [if_neg c56] at H
               have c56b0 : decide (t382 < 0) = false := decide_eq_false c56
               clear c56
               by_cases c59 : t382 = t380
               · rw [if_pos c59] at H
                 have c59b0 : (t382 == t380) = true := beq_iff_eq.mpr c59
                 have c59b1 : (t382 != t380) = false := bne_eq_false_iff_eq.mpr c59
                 clear c59
                 replace H := Option.bind_eq_some_iff.mp H
                 obtain ⟨⟨t383, t384⟩, A600, H⟩ := H
                 replace H : ((impl_NeighborsOf.f kj37 t383 t384 a1).bind fun bt387 => ((laws_eqIntS.f kj37 bt387.1 t358).bind fun t391 => (if t391 = true then (laws_FnExactNeighborsOf.j2 kj37 t381 t380 (bt387.2 != t361)) else (laws_FnExactNeighborsOf.j2 kj37 t381 t380 true)))) = some r := H
                 have A60 := Aside0.mk A600
                 clear A600
                 replace H := Option.bind_eq_some_iff.mp H
                 obtain ⟨⟨t387, t390⟩, A610, H⟩ := H
                 replace H : ((laws_eqIntS.f kj37 t387 t358).bind fun t391 => (if t391 = true then (laws_FnExactNeighborsOf.j2 kj37 t381 t380 (t390 != t361)) else (laws_FnExactNeighborsOf.j2 kj37 t381 t380 true))) = some r := H
                 have A61 := Aside0.mk A610
                 clear A610
                 have HC62 := Aside0.mk H
                 clear H
                 obtain ⟨Ao63, co63, eo63⟩ := Kd.R_slice HO_9.out
                 subst eo63
                 go_upto_region 25 with (first | ((with_reducible refine gate_callee (f := 30) rfl ?_); refine zc 68 Try.func30 #[.slice Ao63 t367.length co63, .int .i64 1] ?_; (with_reducible refine (laws_markIntS.calls kj37 (fun k_ => some k_ = (.slice Ao63 t367.length co63 : Value).ownBlock) (.slice Ao63 t367.length co63) t367 1 t380 t381 w _ ?side1 ?side2 A54.out).mono ?_); (case side1 => repeat (first | (with_reducible first | exact HB.out | apply below_alloc | apply pw_below_drewN | apply below_drew1 | refine below_set ?_ GE352.out | refine below_set ?_ GE366.out) | exact HB.out)); (case side2 => exact Kd.R_tight rfl HO_9.out); rintro e w64 ⟨rfl, hy0, hb, hkp⟩; refine ⟨_, rfl, ?_⟩; replace HO_6 := zM (Kd.R_mono (ok' := fun k_ => some k_ ≠ (.slice Ao63 t367.length co63 : Value).ownBlock) (Kd.R_keptB (HO_6.out) hkp (fun k_ hk_ hs_ => (hk_) hs_)) (fun k_ hk_ => hk_.1)); replace HO_367001 := zM (Kd.R_mono (ok' := fun k_ => True) (Kd.R_keptB ((Kd.R_apart' HO_367001.out (Kd.R_typed HO_9.out) (by decide))) hkp (fun k_ hk_ hs_ => (hk_.2) hs_)) (fun k_ hk_ => trivial)); replace BK352 := zM (blk_kept (zK BK352.out) hkp (fun hs_ => (fun e_ => (Kd.R_ne HO_9.out BK352.out (by decide)) e_) hs_)); replace BK366 := zM (blk_kept (zK BK366.out) hkp (fun hs_ => (fun e_ => (Kd.R_ne HO_9.out BK366.out (by decide)) e_) hs_)); replace HO_9 := zM (Kd.R_reok rfl hy0 (fun k_ e_ => HO_9.out.1 k_ e_)); replace HB := zM (hb); (try clear hb); (try clear hkp); (try clear hy0)) | ((with_reducible refine gate_callee (f := 31) rfl ?_); refine goesL_ (some 71) rfl rfl Try.func31 (by kernel_rfl) rfl #[.slice Ao63 t381.length co63, .int .i64 1] rfl (by (try simp only [List.map_toArray, List.map_cons, List.map_nil]); first | done | (rw [show t381.length = t367.length from (Kd.R_reads' HO_9.out).1.symm] <;> rfl) | rfl | (simp only [List.length_drop, List.length_take]; rfl)) ?_; (with_reducible refine (laws_heldIntS.calls kj37 _ _ t381 1 t382 _ ?side1 ?side2 A55.out).mono ?_); (case side1 => exact zC (Kd.R_reads' HO_9.out).2.2); (case side2 => rw [show t381.length = t367.length from (Kd.R_reads' HO_9.out).1.symm]; exact (Kd.R_reads' HO_9.out).2.1); rintro e w' ⟨rfl, ⟨nd, rfl⟩⟩; refine ⟨_, rfl, ?_⟩; have hnb65 := NB352_366.out; have hnc65 := NB366_352.out; have hcz66_0 := zy BK352 0; have hcz66_1 := zy BK352 1; have hfz66_0 := blk_frozen BK352.out 0; have hfz66_1 := blk_frozen BK352.out 1) | ((with_reducible refine gate_callee (f := 17) rfl ?_); refine zc 79 Try.func17 #[.agg #[.int .i64 a0_0, .slice A0_1 l0_1.length c0_1]] ?_; (with_reducible refine (laws_toGraph.calls kj37 a0_0 _ _ l0_1 t383 t384 _ ?side1 ?side2 A60.out).mono ?_); (case side1 => exact zC (Kd.C_below HR0_1.out zB)); (case side2 => exact HC0_1.out); rintro e w67 ⟨v385, rfl, ho0, hb⟩; refine ⟨_, rfl, ?_⟩; replace HO_6 := zM (Kd.R_below (zR HO_6.out) hb); replace HO_9 := zM (Kd.R_below (zR HO_9.out) hb); have HO386 := zM (Kd.R_lower (Kd.R_new' ho0 (Kd.R_lt (zR HO_367001.out))) (below_size zB)); replace HO_367001 := zM (Kd.R_elder' (zR HO_367001.out) (Kd.R_base ho0) hb); replace BK352 := zM (blk_below (g := gb352) (o := .cells #[.int .i64 a0_0, .slice A0_1 l0_1.length c0_1] 24 (0, 0)) (zK BK352.out) hb); replace BK366 := zM (blk_below (g := gb366) (o := .cells #[.int .i64 t362, .slice Ao25 t378.length co25] 27 (0, 0)) (zK BK366.out) hb); replace HB := zM (below_step zB hb); (try clear hb); (try clear hb2); (try clear hk); (try clear hi); (try clear ho0); obtain ⟨Ao68, co68, eo68⟩ := Kd.R_slice HO386.out; subst eo68) | ((with_reducible refine gate_callee (f := 29) rfl ?_); refine zc 81 Try.func29 #[.agg #[.int .i64 t383, .slice Ao68 t384.length co68], .int .i64 a1] ?_; (with_reducible refine (impl_NeighborsOf.calls kj37 t383 _ _ t384 a1 t387 t390 _ ?side1 ?side2 A61.out).mono ?_); (case side1 => exact zC (Kd.R_reads' HO386.out).2.2); (case side2 => exact (Kd.R_reads' HO386.out).2.1); rintro e w69 ⟨v388, rfl, ho0, hb⟩; refine ⟨_, rfl, ?_⟩; replace HO_367001 := zM (Kd.R_below (zR HO_367001.out) hb); replace HO386 := zM (Kd.R_below (zR HO386.out) hb); have HO389 := zM (Kd.R_lower (Kd.R_new' (Kd.R_new' ho0 (Kd.R_lt (zR HO_6.out))) (Kd.R_lt (zR HO_9.out))) (below_size zB)); replace HO_6 := zM (Kd.R_elder' (zR HO_6.out) (Kd.R_base ho0) hb); replace HO_9 := zM (Kd.R_elder' (zR HO_9.out) (Kd.R_base ho0) hb); replace BK352 := zM (blk_below (g := gb352) (o := .cells #[.int .i64 a0_0, .slice A0_1 l0_1.length c0_1] 24 (0, 0)) (zK BK352.out) hb); replace BK366 := zM (blk_below (g := gb366) (o := .cells #[.int .i64 t362, .slice Ao25 t378.length co25] 27 (0, 0)) (zK BK366.out) hb); replace HB := zM (below_step zB hb); (try clear hb); (try clear hb2); (try clear hk); (try clear hi); (try clear ho0)))
                 (try simp only [Act.put, List.setIfInBounds_toArray, List.set_cons_zero, List.set_cons_succ])
                 go_cut [92] (fun v92 wc => ∃ (kq : Nat) (x92_61 : Bool), v92 = .bool x92_61 ∧ Aside0 (laws_FnExactNeighborsOf.j2 kq t381 t380 x92_61 = some r) ∧ Aside0 (kq ≤ kj37) ∧ Aside0 (Kd.R (Kd.int .i64) 3 wc w.heap.size (fun _ => True) (.slice Ao63 t367.length co63) t381) ∧ Aside0 (Kd.R k68 68 wc w.heap.size (fun _ => True) (.slice Ao25 t378.length co25) t378) ∧ Aside0 (wc.heap[gb352]? = some (.cells #[.int .i64 a0_0, (.slice A0_1 l0_1.length c0_1)] 24 (0, 0))) ∧ Aside0 (wc.heap[gb366]? = some (.cells #[.int .i64 t362, (.slice Ao25 t378.length co25)] 27 (0, 0))) ∧ Aside0 (Below w.heap.size w wc))
                 case first =>
                  have H := HC62.out
                  clear HC62
                  replace H := Option.bind_eq_some_iff.mp H
                  obtain ⟨t391, A700, H⟩ := H
                  have A70 := Aside0.mk A700
                  clear A700
                  by_cases c71 : t391 = true
                  · subst c71
                    rw [if_pos rfl] at H
                    have H' := Aside0.mk H
                    clear H
                    obtain ⟨Ao72, co72, eo72⟩ := Kd.R_slice HO389.out
                    subst eo72
                    obtain ⟨Ao73, co73, eo73⟩ := Kd.R_slice HO_6.out
                    subst eo73
                    go_wp2_with (first | ((with_reducible refine gate_callee (f := 27) rfl ?_); refine zc 86 Try.func27 #[.slice Ao72 t387.length co72, .slice Ao73 t358.length co73] ?_; (with_reducible refine (laws_eqIntS.calls kj37 _ _ t387 _ _ t358 true _ ?side1 ?side2 ?side3 ?side4 A70.out).mono ?_); (case side1 => exact zC (Kd.R_reads' HO389.out).2.2); (case side2 => exact (Kd.R_reads' HO389.out).2.1); (case side3 => exact zC (Kd.R_reads' HO_6.out).2.2); (case side4 => exact (Kd.R_reads' HO_6.out).2.1); rintro e w' ⟨rfl, ⟨nd, rfl⟩⟩; refine ⟨_, rfl, ?_⟩))
                    go_meet
                    case rel => exact ⟨_, ((t390 != t361)), (by first | rfl | (simp; done) | (simp [*]; done)), H', ⟨by have := HJ11.out; have := HJ37.out; first | omega | exact Nat.le_refl _⟩, ⟨by (try simp only [hl367001_37]); (with_reducible repeat (first | apply Kd.R_alloc | apply Kd.R_drewN | apply Kd.R_drew)); exact Kd.R_mono HO_9.out (fun _ hk => trivial)⟩, ⟨by (try simp only [hl367001_37]); (with_reducible repeat (first | apply Kd.R_alloc | apply Kd.R_drewN | apply Kd.R_drew)); exact Kd.R_mono HO_367001.out (fun _ hk => trivial)⟩, ⟨by (try simp only [hl367001_37]); (with_reducible repeat (first | refine blk_drewN ?_ _ | refine blk_drew ?_ | refine blk_alloc ?_ _)); exact BK352.out⟩, ⟨by (try simp only [hl367001_37]); (with_reducible repeat (first | refine blk_drewN ?_ _ | refine blk_drew ?_ | refine blk_alloc ?_ _)); exact BK366.out⟩, ⟨zB⟩⟩
                  · replace c71 := Bool.eq_false_iff.mpr c71
                    subst c71
                    have H1 : (laws_FnExactNeighborsOf.j2 kj37 t381 t380 true) = some r := by rw [if_neg (show ¬ (false = true) by decide)] at H; exact H
                    clear H
                    have H := H1
                    clear H1
                    have H' := Aside0.mk H
                    clear H
                    obtain ⟨Ao74, co74, eo74⟩ := Kd.R_slice HO389.out
                    subst eo74
                    obtain ⟨Ao75, co75, eo75⟩ := Kd.R_slice HO_6.out
                    subst eo75
                    go_wp2_with (first | ((with_reducible refine gate_callee (f := 27) rfl ?_); refine zc 86 Try.func27 #[.slice Ao74 t387.length co74, .slice Ao75 t358.length co75] ?_; (with_reducible refine (laws_eqIntS.calls kj37 _ _ t387 _ _ t358 false _ ?side1 ?side2 ?side3 ?side4 A70.out).mono ?_); (case side1 => exact zC (Kd.R_reads' HO389.out).2.2); (case side2 => exact (Kd.R_reads' HO389.out).2.1); (case side3 => exact zC (Kd.R_reads' HO_6.out).2.2); (case side4 => exact (Kd.R_reads' HO_6.out).2.1); rintro e w' ⟨rfl, ⟨nd, rfl⟩⟩; refine ⟨_, rfl, ?_⟩))
                    go_meet
                    case rel => exact ⟨_, (true), (by first | rfl | (simp; done) | (simp [*]; done)), H', ⟨by have := HJ11.out; have := HJ37.out; first | omega | exact Nat.le_refl _⟩, ⟨by (try simp only [hl367001_37]); (with_reducible repeat (first | apply Kd.R_alloc | apply Kd.R_drewN | apply Kd.R_drew)); exact Kd.R_mono HO_9.out (fun _ hk => trivial)⟩, ⟨by (try simp only [hl367001_37]); (with_reducible repeat (first | apply Kd.R_alloc | apply Kd.R_drewN | apply Kd.R_drew)); exact Kd.R_mono HO_367001.out (fun _ hk => trivial)⟩, ⟨by (try simp only [hl367001_37]); (with_reducible repeat (first | refine blk_drewN ?_ _ | refine blk_drew ?_ | refine blk_alloc ?_ _)); exact BK352.out⟩, ⟨by (try simp only [hl367001_37]); (with_reducible repeat (first | refine blk_drewN ?_ _ | refine blk_drew ?_ | refine blk_alloc ?_ _)); exact BK366.out⟩, ⟨zB⟩⟩
                 case rest =>
                  clear HC62
                  try clear c1
                  try clear c2
                  try clear p2
                  try clear c3
                  try clear c4
                  try clear c4b0
                  try clear c5
                  try clear c6
                  try clear c7
                  try clear c15
                  try clear c17
                  try clear c19
                  try clear c22
                  try clear c23
                  try clear c27
                  try clear c28
                  try clear c29
                  try clear c30
                  try clear c31
                  try clear c33
                  try clear c36
                  try clear c43
                  try clear c46
                  try clear c46b0
                  try clear c48
                  try clear c53
                  try clear c56
                  try clear c56b0
                  try clear c59
                  try clear c59b0
                  try clear c59b1
                  try clear c65
                  try clear c71
                  try clear hcz14_0
                  try clear hcz14_1
                  try clear hcz16_0
                  try clear hcz16_1
                  try clear hcz20_0
                  try clear hcz20_1
                  try clear hcz24_0
                  try clear hcz24_1
                  try clear hcz44_0
                  try clear hcz44_1
                  try clear hcz66_0
                  try clear hcz66_1
                  try clear hcz6_0
                  try clear hcz6_1
                  try clear hfz14_0
                  try clear hfz14_1
                  try clear hfz16_0
                  try clear hfz16_1
                  try clear hfz20_0
                  try clear hfz20_1
                  try clear hfz24_0
                  try clear hfz24_1
                  try clear hfz44_0
                  try clear hfz44_1
                  try clear hfz66_0
                  try clear hfz66_1
                  try clear hfz6_0
                  try clear hfz6_1
                  try clear p2
                  obtain ⟨kq, x92_61, rfl, HA, HJ61, HO_9, HO_367001, BK352, BK366, HB⟩ := hcut
                  have hl9_61 := (Kd.R_reads' HO_9.out).1
                  rw [hl9_61] at HO_9
                  (try simp only [hl9_61])
                  (try simp only [hl9_61] at BK352)
                  (try simp only [hl9_61] at BK366)
                  (try simp only [hl9_61] at HO_367001)
                  cases kq with
                  | zero => exact absurd HA.out (by simp [laws_FnExactNeighborsOf.j2])
                  | succ kj61 =>
                   have H := HA.out
                   clear HA
                   simp only [laws_FnExactNeighborsOf.j2] at H
                   by_cases c76 : x92_61 = true
                   · subst c76
                     rw [if_pos rfl] at H
                     obtain rfl := Option.some.inj H
                     go_wp2
                     go_ret
                     exact ⟨by first | rfl | (simp [errW_none, errW_some] <;> rfl) | (simp [*, errW_none, errW_some] <;> rfl), zB⟩
                   · replace c76 := Bool.eq_false_iff.mpr c76
                     subst c76
                     have H1 : ((laws_heldIntS.f kj61 t381 1).bind fun t392 => (if t392 < 0 then (some false) else (if t392 = t380 then (some true) else (some false)))) = some r := by rw [if_neg (show ¬ (false = true) by decide)] at H; exact H
                     clear H
                     have H := H1
                     clear H1
                     replace H := Option.bind_eq_some_iff.mp H
                     obtain ⟨t392, A770, H⟩ := H
                     have A77 := Aside0.mk A770
                     clear A770
                     by_cases c78 : t392 < 0
                     · rw [if_pos c78] at H
                       have c78b0 := decide_eq_true c78
                       clear c78
                       obtain rfl := Option.some.inj H
                       go_wp2_with (first | ((with_reducible refine gate_callee (f := 31) rfl ?_); refine zc 95 Try.func31 #[.slice Ao63 t381.length co63, .int .i64 1] ?_; (with_reducible refine (laws_heldIntS.calls kj61 _ _ t381 1 t392 _ ?side1 ?side2 A77.out).mono ?_); (case side1 => exact zC (Kd.R_reads' HO_9.out).2.2); (case side2 => exact (Kd.R_reads' HO_9.out).2.1); rintro e w' ⟨rfl, ⟨nd, rfl⟩⟩; refine ⟨_, rfl, ?_⟩))
                       go_ret
                       exact ⟨by first | rfl | (simp [errW_none, errW_some] <;> rfl) | (simp [*, errW_none, errW_some] <;> rfl), zB⟩
                     · rw [if_neg c78] at H
                       have c78b0 : decide (t392 < 0) = false := decide_eq_false c78
                       clear c78
                       by_cases c79 : t392 = t380
                       · rw [if_pos c79] at H
                         have c79b0 : (t392 == t380) = true := beq_iff_eq.mpr c79
                         have c79b1 : (t392 != t380) = false := bne_eq_false_iff_eq.mpr c79
                         clear c79
                         obtain rfl := Option.some.inj H
                         go_wp2_with (first | ((with_reducible refine gate_callee (f := 31) rfl ?_); refine zc 95 Try.func31 #[.slice Ao63 t381.length co63, .int .i64 1] ?_; (with_reducible refine (laws_heldIntS.calls kj61 _ _ t381 1 t392 _ ?side1 ?side2 A77.out).mono ?_); (case side1 => exact zC (Kd.R_reads' HO_9.out).2.2); (case side2 => exact (Kd.R_reads' HO_9.out).2.1); rintro e w' ⟨rfl, ⟨nd, rfl⟩⟩; refine ⟨_, rfl, ?_⟩))
                         go_ret
                         exact ⟨by first | rfl | (simp [errW_none, errW_some] <;> rfl) | (simp [*, errW_none, errW_some] <;> rfl), zB⟩
                       · rw [if_neg c79] at H
                         have c79b0 : (t392 == t380) = false := beq_eq_false_iff_ne.mpr c79
                         have c79b1 : (t392 != t380) = true := bne_iff_ne.mpr c79
                         obtain rfl := Option.some.inj H
                         go_wp2_with (first | ((with_reducible refine gate_callee (f := 31) rfl ?_); refine zc 95 Try.func31 #[.slice Ao63 t381.length co63, .int .i64 1] ?_; (with_reducible refine (laws_heldIntS.calls kj61 _ _ t381 1 t392 _ ?side1 ?side2 A77.out).mono ?_); (case side1 => exact zC (Kd.R_reads' HO_9.out).2.2); (case side2 => exact (Kd.R_reads' HO_9.out).2.1); rintro e w' ⟨rfl, ⟨nd, rfl⟩⟩; refine ⟨_, rfl, ?_⟩))
                         go_ret
                         exact ⟨by first | rfl | (simp [errW_none, errW_some] <;> rfl) | (simp [*, errW_none, errW_some] <;> rfl), zB⟩
               · rw [if_neg c59] at H
                 have c59b0 : (t382 == t380) = false := beq_eq_false_iff_ne.mpr c59
                 have c59b1 : (t382 != t380) = true := bne_iff_ne.mpr c59
                 obtain rfl := Option.some.inj H
                 obtain ⟨Ao80, co80, eo80⟩ := Kd.R_slice HO_9.out
                 subst eo80
                 go_wp2_with (first | ((with_reducible refine gate_callee (f := 30) rfl ?_); refine zc 68 Try.func30 #[.slice Ao80 t367.length co80, .int .i64 1] ?_; (with_reducible refine (laws_markIntS.calls kj37 (fun k_ => some k_ = (.slice Ao80 t367.length co80 : Value).ownBlock) (.slice Ao80 t367.length co80) t367 1 t380 t381 w _ ?side1 ?side2 A54.out).mono ?_); (case side1 => repeat (first | (with_reducible first | exact HB.out | apply below_alloc | apply pw_below_drewN | apply below_drew1 | refine below_set ?_ GE352.out | refine below_set ?_ GE366.out) | exact HB.out)); (case side2 => exact Kd.R_tight rfl HO_9.out); rintro e w81 ⟨rfl, hy0, hb, hkp⟩; refine ⟨_, rfl, ?_⟩; replace HO_6 := zM (Kd.R_mono (ok' := fun k_ => some k_ ≠ (.slice Ao80 t367.length co80 : Value).ownBlock) (Kd.R_keptB (HO_6.out) hkp (fun k_ hk_ hs_ => (hk_) hs_)) (fun k_ hk_ => hk_.1)); replace HO_367001 := zM (Kd.R_mono (ok' := fun k_ => True) (Kd.R_keptB ((Kd.R_apart' HO_367001.out (Kd.R_typed HO_9.out) (by decide))) hkp (fun k_ hk_ hs_ => (hk_.2) hs_)) (fun k_ hk_ => trivial)); replace BK352 := zM (blk_kept (zK BK352.out) hkp (fun hs_ => (fun e_ => (Kd.R_ne HO_9.out BK352.out (by decide)) e_) hs_)); replace BK366 := zM (blk_kept (zK BK366.out) hkp (fun hs_ => (fun e_ => (Kd.R_ne HO_9.out BK366.out (by decide)) e_) hs_)); replace HO_9 := zM (Kd.R_reok rfl hy0 (fun k_ e_ => HO_9.out.1 k_ e_)); replace HB := zM (hb); (try clear hb); (try clear hkp); (try clear hy0)) | ((with_reducible refine gate_callee (f := 31) rfl ?_); refine goesL_ (some 71) rfl rfl Try.func31 (by kernel_rfl) rfl #[.slice Ao80 t381.length co80, .int .i64 1] rfl (by (try simp only [List.map_toArray, List.map_cons, List.map_nil]); first | done | (rw [show t381.length = t367.length from (Kd.R_reads' HO_9.out).1.symm] <;> rfl) | rfl | (simp only [List.length_drop, List.length_take]; rfl)) ?_; (with_reducible refine (laws_heldIntS.calls kj37 _ _ t381 1 t382 _ ?side1 ?side2 A55.out).mono ?_); (case side1 => exact zC (Kd.R_reads' HO_9.out).2.2); (case side2 => rw [show t381.length = t367.length from (Kd.R_reads' HO_9.out).1.symm]; exact (Kd.R_reads' HO_9.out).2.1); rintro e w' ⟨rfl, ⟨nd, rfl⟩⟩; refine ⟨_, rfl, ?_⟩))
                 go_ret
                 exact ⟨by first | rfl | (simp [errW_none, errW_some] <;> rfl) | (simp [*, errW_none, errW_some] <;> rfl), zB⟩
       · replace c36 := Bool.eq_false_iff.mpr c36
         subst c36
         have H1 : (some false) = some r := by rw [if_neg (show ¬ (false = true) by decide)] at H; exact H
         clear H
         have H := H1
         clear H1
         obtain rfl := Option.some.inj H
         try go_wp2
         replace HO_6 := zM (Kd.R_drew HO_6.out)
         replace HO_9 := zM (Kd.R_drew HO_9.out)
         replace HO_367001 := zM (Kd.R_drew HO_367001.out)
         replace BK352 := zM (blk_drew BK352.out)
         replace BK366 := zM (blk_drew BK366.out)
         replace HB := zM (below_drew1 HB.out)
         refine zs (n := 5) (fun w' => w'.cell? ⟨gb366, 0, none⟩ = some (.int .i64 t362) ∧ w'.cell? ⟨gb366, 1, none⟩ = some (.slice Ao25 t363.length co25) ∧ w'.cell? ⟨gb352, 0, none⟩ = some (.int .i64 a0_0) ∧ w'.cell? ⟨gb352, 1, none⟩ = some (.slice A0_1 l0_1.length c0_1)) ⟨(blk_cell BK366.out 0).trans rfl, (blk_cell BK366.out 1).trans rfl, (blk_cell BK352.out 0).trans rfl, (blk_cell BK352.out 1).trans rfl⟩ (fun hHeld => ?_)
         generalize wc.drew = w82 at HO_6 HO_9 HO_367001 BK352 BK366 HB hHeld ⊢
         refine zl 0 45 hHeld ?_ (hy := by rintro w' ⟨s0, s1, s2, s3⟩; go_simp; with_reducible rfl)
         refine zl 1 46 hHeld ?_ (hy := by rintro w' ⟨s0, s1, s2, s3⟩; go_simp; with_reducible rfl)
         refine zh 2 47 Try.func17 #[.agg #[.int .i64 a0_0, .slice A0_1 l0_1.length c0_1]] (fun K hK => ?_)
         with_reducible refine (laws_toGraph.calls kj11 a0_0 _ _ l0_1 t372 t373 _ ?side1 ?side2 A34.out).mono ?_
         (case side1 => exact zC (Kd.C_below HR0_1.out HB.out))
         (case side2 => exact HC0_1.out)
         rintro e w83 ⟨v374, rfl, ho0, hb⟩
         refine ⟨_, rfl, ?_⟩
         replace HO_6 := zM (Kd.R_below (zR HO_6.out) hb)
         replace HO_9 := zM (Kd.R_below (zR HO_9.out) hb)
         have HO375 := zM (Kd.R_lower (Kd.R_new' ho0 (Kd.R_lt (zR HO_367001.out))) (below_size zB))
         replace HO_367001 := zM (Kd.R_elder' (zR HO_367001.out) (Kd.R_base ho0) hb)
         replace BK352 := zM (blk_below (g := gb352) (o := .cells #[.int .i64 a0_0, .slice A0_1 l0_1.length c0_1] 24 (0, 0)) (zK BK352.out) hb)
         replace BK366 := zM (blk_below (g := gb366) (o := .cells #[.int .i64 t362, .slice Ao25 t363.length co25] 27 (0, 0)) (zK BK366.out) hb)
         replace HB := zM (below_step zB hb)
         (try clear hb)
         (try clear hb2)
         (try clear hk)
         (try clear hi)
         (try clear ho0)
         obtain ⟨Ao84, co84, eo84⟩ := Kd.R_slice HO375.out
         (first | subst eo84 | (injection eo84 with f1_ f2_ f3_; have f4_ := f1_.symm; have f5_ := f3_.symm; clear f1_ f2_ f3_; subst f4_; subst f5_))
         refine hK.out _ _ ⟨(blk_cell BK366.out 0).trans rfl, (blk_cell BK366.out 1).trans rfl, (blk_cell BK352.out 0).trans rfl, (blk_cell BK352.out 1).trans rfl⟩ (fun hHeld => ?_)
         clear hK K
         refine zn 47 ?_
         refine zh 3 48 Try.func19 #[.agg #[.int .i64 t362, .slice Ao25 t363.length co25], .agg #[.int .i64 t372, .slice Ao84 t373.length co84]] (fun K hK => ?_)
         with_reducible refine (laws_eqGraph.calls kj11 t362 _ _ t363 t372 _ _ t373 false _ ?side1 ?side2 ?side3 ?side4 A35.out).mono ?_
         (case side1 => exact zC (Kd.R_reads' HO_367001.out).2.2)
         (case side2 => exact (Kd.R_reads' HO_367001.out).2.1)
         (case side3 => exact zC (Kd.R_reads' HO375.out).2.2)
         (case side4 => exact (Kd.R_reads' HO375.out).2.1)
         rintro e w85 ⟨rfl, hb⟩
         refine ⟨_, rfl, ?_⟩
         replace HO_6 := zM (Kd.R_below (zR HO_6.out) hb)
         replace HO_9 := zM (Kd.R_below (zR HO_9.out) hb)
         replace HO_367001 := zM (Kd.R_below (zR HO_367001.out) hb)
         replace HO375 := zM (Kd.R_below (zR HO375.out) hb)
         replace BK352 := zM (blk_below (g := gb352) (o := .cells #[.int .i64 a0_0, .slice A0_1 l0_1.length c0_1] 24 (0, 0)) (zK BK352.out) hb)
         replace BK366 := zM (blk_below (g := gb366) (o := .cells #[.int .i64 t362, .slice Ao25 t363.length co25] 27 (0, 0)) (zK BK366.out) hb)
         replace HB := zM (below_step zB hb)
         (try clear hb)
         (try clear hb2)
         (try clear hk)
         (try clear hi)
         refine hK.out _ _ ⟨(blk_cell BK366.out 0).trans rfl, (blk_cell BK366.out 1).trans rfl, (blk_cell BK352.out 0).trans rfl, (blk_cell BK352.out 1).trans rfl⟩ (fun hHeld => ?_)
         clear hK K
         refine zn 48 ?_
         refine zq 4 49 ?_
         refine zx ?_
         try go_wp2
         go_ret
         exact ⟨by first | rfl | (simp [errW_none, errW_some] <;> rfl) | (simp [*, errW_none, errW_some] <;> rfl), zB⟩

end Go.Proofs.Ytpbngmkhpcgpkaa.P
