-- Written by a program of this session (the kit's print, turned: wip/print/patch.py) out of the translation. Not trusted: Lean checks it.
import Derived.Test.YtpbngmkhpcgpkaaPx0
import Derived.Test.YtpbngmkhpcgpkaaPx2
import Derived.Test.YtpbngmkhpcgpkaaPx4
import Derived.Test.YtpbngmkhpcgpkaaPx11
import Derived.Test.YtpbngmkhpcgpkaaPx12
import Derived.Test.YtpbngmkhpcgpkaaPx14
namespace Go.Proofs.Ytpbngmkhpcgpkaa.P
open Go.RowKit Go.Proofs.YtpbngmkhpcgpkaaW.PrintWords Go.Proofs.YtpbngmkhpcgpkaaW.PrintLast Go.Proofs.YtpbngmkhpcgpkaaW.PrintMore
attribute [local go_sem] max2_int min2_int max_two min_two max_three min_three max_four min_four   -- for this text's walks alone
set_option linter.unusedVariables false
set_option linter.unusedSimpArgs false

/-! ### laws_FnExactCliqueGraph: function 4 -/
mutual
def laws_FnExactCliqueGraph.j0 : Nat → Bool → Bool → Bool → Int → List (S68) → Int → List (S68) → Int → List (S68) → Int → List (S68) → Option (Bool)
 | 0, _, _, _, _, _, _, _, _, _, _, _ => none
 | k + 1, x5, x8, x40, x208000, x208001, x219000, x219001, x224000, x224001, x230000, x230001 => if x40 = true then (some false) else ((laws_toGraph.f k x208000 x208001).bind fun bt231 => ((laws_eqGraph.f k x224000 x224001 bt231.1 bt231.2).bind fun t235 => (if t235 = true then ((laws_markGraph.f x224000 x224001 1).bind fun bt236 => (if bt236.1 < 0 then (laws_FnExactCliqueGraph.j1 k x5 true x208000 x208001 x219000 x219001 x230000 x230001) else ((laws_eqGraph.f k x230000 x230001 x219000 x219001).bind fun t238 => (if t238 = true then (laws_FnExactCliqueGraph.j1 k x5 (x8 != x5) x208000 x208001 x219000 x219001 x230000 x230001) else (laws_FnExactCliqueGraph.j1 k x5 true x208000 x208001 x219000 x219001 x230000 x230001))))) else (some false))))
def laws_FnExactCliqueGraph.j1 : Nat → Bool → Bool → Int → List (S68) → Int → List (S68) → Int → List (S68) → Option (Bool)
 | 0, _, _, _, _, _, _, _, _ => none
 | k + 1, x5, x61, x208000, x208001, x219000, x219001, x230000, x230001 => if x61 = true then (some false) else ((laws_markGraph.f x230000 x230001 1).bind fun bt239 => ((laws_heldGraph.f x230000 bt239.2 1).bind fun t241 => (if t241 < 0 then (some false) else (if t241 = bt239.1 then ((laws_toGraph.f k x208000 x208001).bind fun bt242 => ((impl_CliqueGraph.f k bt242.1 bt242.2).bind fun bt246 => ((laws_eqGraph.f k bt246.1 bt246.2.1 x219000 x219001).bind fun t252 => (if t252 = true then (laws_FnExactCliqueGraph.j2 k bt239.1 (bt246.2.2 != x5) x230000 bt239.2) else (laws_FnExactCliqueGraph.j2 k bt239.1 true x230000 bt239.2))))) else (some false)))))
def laws_FnExactCliqueGraph.j2 : Nat → Int → Bool → Int → List (S68) → Option (Bool)
 | 0, _, _, _, _ => none
 | k + 1, x10, x87, x230000, x230001 => if x87 = true then (some false) else ((laws_heldGraph.f x230000 x230001 1).bind fun t253 => (if t253 < 0 then (some false) else (if t253 = x10 then (some true) else (some false))))
end
def laws_FnExactCliqueGraph.f (k : Nat) (a0_0 : Int) (l0_1 : List (S68)) : Option (Bool) := (laws_szGraph.f a0_0 l0_1 1048576).bind fun t208 => (if t208 < 0 then (some true) else ((laws_toGraph.f k a0_0 l0_1).bind fun bt209 => ((spec_CliqueGraph.f k bt209.1 bt209.2).bind fun bt213 => ((laws_toGraph.f k a0_0 l0_1).bind fun bt219 => ((impl_CliqueGraph.f k bt219.1 bt219.2).bind fun bt224 => ((laws_eqGraph.f k bt224.1 bt224.2.1 bt213.1 bt213.2.1).bind fun t230 => (if t230 = true then (laws_FnExactCliqueGraph.j0 k bt213.2.2 bt224.2.2 (bt224.2.2 != bt213.2.2) a0_0 l0_1 bt213.1 bt213.2.1 bt219.1 bt219.2 bt224.1 bt224.2.1) else (laws_FnExactCliqueGraph.j0 k bt213.2.2 bt224.2.2 true a0_0 l0_1 bt213.1 bt213.2.1 bt219.1 bt219.2 bt224.1 bt224.2.1))))))))
theorem laws_FnExactCliqueGraph.mono_l : ∀ k, (∀ y0 y1 y2 y3 y4 y5 y6 y7 y8 y9 y10, LeO (laws_FnExactCliqueGraph.j0 k y0 y1 y2 y3 y4 y5 y6 y7 y8 y9 y10) (laws_FnExactCliqueGraph.j0 (k + 1) y0 y1 y2 y3 y4 y5 y6 y7 y8 y9 y10)) ∧ (∀ y0 y1 y2 y3 y4 y5 y6 y7, LeO (laws_FnExactCliqueGraph.j1 k y0 y1 y2 y3 y4 y5 y6 y7) (laws_FnExactCliqueGraph.j1 (k + 1) y0 y1 y2 y3 y4 y5 y6 y7)) ∧ (∀ y0 y1 y2 y3, LeO (laws_FnExactCliqueGraph.j2 k y0 y1 y2 y3) (laws_FnExactCliqueGraph.j2 (k + 1) y0 y1 y2 y3))
 | 0 => ⟨fun _ _ _ _ _ _ _ _ _ _ _ r h => by simp [laws_FnExactCliqueGraph.j0] at h, fun _ _ _ _ _ _ _ _ r h => by simp [laws_FnExactCliqueGraph.j1] at h, fun _ _ _ _ r h => by simp [laws_FnExactCliqueGraph.j2] at h⟩
 | k + 1 => by
  obtain ⟨ih0, ih1, ih2⟩ := laws_FnExactCliqueGraph.mono_l k
  refine ⟨?_, ?_, ?_⟩
  · intro y0 y1 y2 y3 y4 y5 y6 y7 y8 y9 y10
    unfold laws_FnExactCliqueGraph.j0
    repeat' first
    | (with_reducible exact ih0 _ _ _ _ _ _ _ _ _ _ _)
    | (with_reducible exact ih1 _ _ _ _ _ _ _ _)
    | (with_reducible exact ih2 _ _ _ _)
    | (with_reducible exact impl_CliqueGraph.mono _ _ _)
    | (with_reducible exact laws_eqGraph.mono _ _ _ _ _)
    | (with_reducible exact laws_toGraph.mono _ _ _)
    | (with_reducible exact spec_CliqueGraph.mono _ _ _)
    | (with_reducible exact LeO.refl _)
    | (with_reducible exact LeO.none _)
    | (with_reducible refine LeO.ite ?_ ?_)
    | (with_reducible refine LeO.bind ?_ (fun _ => ?_))
    | exact ih0 _ _ _ _ _ _ _ _ _ _ _
    | exact ih1 _ _ _ _ _ _ _ _
    | exact ih2 _ _ _ _
    | exact impl_CliqueGraph.mono _ _ _
    | exact laws_eqGraph.mono _ _ _ _ _
    | exact laws_toGraph.mono _ _ _
    | exact spec_CliqueGraph.mono _ _ _
    | exact LeO.none _
    | refine LeO.ite ?_ ?_
    | refine LeO.bind ?_ (fun _ => ?_)
  · intro y0 y1 y2 y3 y4 y5 y6 y7
    unfold laws_FnExactCliqueGraph.j1
    repeat' first
    | (with_reducible exact ih0 _ _ _ _ _ _ _ _ _ _ _)
    | (with_reducible exact ih1 _ _ _ _ _ _ _ _)
    | (with_reducible exact ih2 _ _ _ _)
    | (with_reducible exact impl_CliqueGraph.mono _ _ _)
    | (with_reducible exact laws_eqGraph.mono _ _ _ _ _)
    | (with_reducible exact laws_toGraph.mono _ _ _)
    | (with_reducible exact spec_CliqueGraph.mono _ _ _)
    | (with_reducible exact LeO.refl _)
    | (with_reducible exact LeO.none _)
    | (with_reducible refine LeO.ite ?_ ?_)
    | (with_reducible refine LeO.bind ?_ (fun _ => ?_))
    | exact ih0 _ _ _ _ _ _ _ _ _ _ _
    | exact ih1 _ _ _ _ _ _ _ _
    | exact ih2 _ _ _ _
    | exact impl_CliqueGraph.mono _ _ _
    | exact laws_eqGraph.mono _ _ _ _ _
    | exact laws_toGraph.mono _ _ _
    | exact spec_CliqueGraph.mono _ _ _
    | exact LeO.none _
    | refine LeO.ite ?_ ?_
    | refine LeO.bind ?_ (fun _ => ?_)
  · intro y0 y1 y2 y3
    unfold laws_FnExactCliqueGraph.j2
    repeat' first
    | (with_reducible exact ih0 _ _ _ _ _ _ _ _ _ _ _)
    | (with_reducible exact ih1 _ _ _ _ _ _ _ _)
    | (with_reducible exact ih2 _ _ _ _)
    | (with_reducible exact impl_CliqueGraph.mono _ _ _)
    | (with_reducible exact laws_eqGraph.mono _ _ _ _ _)
    | (with_reducible exact laws_toGraph.mono _ _ _)
    | (with_reducible exact spec_CliqueGraph.mono _ _ _)
    | (with_reducible exact LeO.refl _)
    | (with_reducible exact LeO.none _)
    | (with_reducible refine LeO.ite ?_ ?_)
    | (with_reducible refine LeO.bind ?_ (fun _ => ?_))
    | exact ih0 _ _ _ _ _ _ _ _ _ _ _
    | exact ih1 _ _ _ _ _ _ _ _
    | exact ih2 _ _ _ _
    | exact impl_CliqueGraph.mono _ _ _
    | exact laws_eqGraph.mono _ _ _ _ _
    | exact laws_toGraph.mono _ _ _
    | exact spec_CliqueGraph.mono _ _ _
    | exact LeO.none _
    | refine LeO.ite ?_ ?_
    | refine LeO.bind ?_ (fun _ => ?_)
theorem laws_FnExactCliqueGraph.mono : ∀ a0 a1 k, LeO (laws_FnExactCliqueGraph.f k a0 a1) (laws_FnExactCliqueGraph.f (k + 1) a0 a1) := by
 intro a0 a1 k
 obtain ⟨ih0, ih1, ih2⟩ := laws_FnExactCliqueGraph.mono_l k
 unfold laws_FnExactCliqueGraph.f
 repeat' first
  | (with_reducible exact ih0 _ _ _ _ _ _ _ _ _ _ _)
  | (with_reducible exact ih1 _ _ _ _ _ _ _ _)
  | (with_reducible exact ih2 _ _ _ _)
  | (with_reducible exact impl_CliqueGraph.mono _ _ _)
  | (with_reducible exact laws_eqGraph.mono _ _ _ _ _)
  | (with_reducible exact laws_toGraph.mono _ _ _)
  | (with_reducible exact spec_CliqueGraph.mono _ _ _)
  | (with_reducible exact LeO.refl _)
  | (with_reducible exact LeO.none _)
  | (with_reducible refine LeO.ite ?_ ?_)
  | (with_reducible refine LeO.bind ?_ (fun _ => ?_))
  | exact ih0 _ _ _ _ _ _ _ _ _ _ _
  | exact ih1 _ _ _ _ _ _ _ _
  | exact ih2 _ _ _ _
  | exact impl_CliqueGraph.mono _ _ _
  | exact laws_eqGraph.mono _ _ _ _ _
  | exact laws_toGraph.mono _ _ _
  | exact spec_CliqueGraph.mono _ _ _
  | exact LeO.none _
  | refine LeO.ite ?_ ?_
  | refine LeO.bind ?_ (fun _ => ?_)
set_option maxHeartbeats 8000000 in
set_option maxRecDepth 100000 in
theorem laws_FnExactCliqueGraph.calls (k : Nat) (a0_0 : Int) (A0_1 : Option Addr) (c0_1 : Nat) (l0_1 : List (S68)) (r : Bool) (w : World) (hr0_1 : Kd.C k68 w A0_1 l0_1.length l0_1) (hc0_1 : l0_1.length ≤ c0_1) (h : laws_FnExactCliqueGraph.f k a0_0 l0_1 = some r) :
 Calls Try.prog 4 #[.agg #[.int .i64 a0_0, .slice A0_1 l0_1.length c0_1]] w fun e w' => e = .returned (.bool r) ∧ Below w.heap.size w w' := by
 have hu24 := Try.underlying24
 have hu27 := Try.underlying27
 have HR0_1 := Aside0.mk hr0_1
 have HC0_1 := Aside0.mk hc0_1
 clear hr0_1 hc0_1
 have HB := zM (Below.refl w.heap.size w)
 have H : ((laws_szGraph.f a0_0 l0_1 1048576).bind fun t208 => (if t208 < 0 then (some true) else ((laws_toGraph.f k a0_0 l0_1).bind fun bt209 => ((spec_CliqueGraph.f k bt209.1 bt209.2).bind fun bt213 => ((laws_toGraph.f k a0_0 l0_1).bind fun bt219 => ((impl_CliqueGraph.f k bt219.1 bt219.2).bind fun bt224 => ((laws_eqGraph.f k bt224.1 bt224.2.1 bt213.1 bt213.2.1).bind fun t230 => (if t230 = true then (laws_FnExactCliqueGraph.j0 k bt213.2.2 bt224.2.2 (bt224.2.2 != bt213.2.2) a0_0 l0_1 bt213.1 bt213.2.1 bt219.1 bt219.2 bt224.1 bt224.2.1) else (laws_FnExactCliqueGraph.j0 k bt213.2.2 bt224.2.2 true a0_0 l0_1 bt213.1 bt213.2.1 bt219.1 bt219.2 bt224.1 bt224.2.1))))))))) = some r := h
 clear h
 replace H := Option.bind_eq_some_iff.mp H
 obtain ⟨t208, A20, H⟩ := H
 have A2 := Aside0.mk A20
 clear A20
 by_cases c3 : t208 < 0
 · rw [if_pos c3] at H
   have c3b0 := decide_eq_true c3
   clear c3
   obtain rfl := Option.some.inj H
   go_enter Try.func4, Try.ntmps4
   go_wp2_with (first | ((with_reducible refine gate_dst (N := 1) rfl ?_); refine zb (w := w) 1 #[.int .i64 a0_0, .slice A0_1 l0_1.length c0_1] 24 zB ?_; clear HB; intro gb207 w4 HB BK207 GW207; have GE207 := GW207; have hcz5_0 := zy BK207 0; have hcz5_1 := zy BK207 1; have hfz5_0 := blk_frozen BK207.out 0; have hfz5_1 := blk_frozen BK207.out 1) | ((with_reducible refine gate_callee (f := 15) rfl ?_); refine zc 16 Try.func15 #[.agg #[.int .i64 a0_0, .slice A0_1 l0_1.length c0_1], .int .i64 1048576] ?_; (with_reducible refine (laws_szGraph.calls a0_0 _ _ l0_1 1048576 t208 _ ?side1 ?side2 A2.out).mono ?_); (case side1 => exact zC (Kd.C_below HR0_1.out HB.out)); (case side2 => exact HC0_1.out); rintro e w6 ⟨rfl, hb⟩; refine ⟨_, rfl, ?_⟩; replace BK207 := zM (blk_below (g := gb207) (o := .cells #[.int .i64 a0_0, .slice A0_1 l0_1.length c0_1] 24 (0, 0)) (zK BK207.out) hb); replace HB := zM (below_step zB hb); (try clear hb); (try clear hb2); (try clear hk); (try clear hi)))
   go_ret
   exact ⟨by first | rfl | (simp [errW_none, errW_some] <;> rfl) | (simp [*, errW_none, errW_some] <;> rfl), zB⟩
 · rw [if_neg c3] at H
   have c3b0 : decide (t208 < 0) = false := decide_eq_false c3
   clear c3
   replace H := Option.bind_eq_some_iff.mp H
   obtain ⟨⟨t209, t210⟩, A70, H⟩ := H
   replace H : ((spec_CliqueGraph.f k t209 t210).bind fun bt213 => ((laws_toGraph.f k a0_0 l0_1).bind fun bt219 => ((impl_CliqueGraph.f k bt219.1 bt219.2).bind fun bt224 => ((laws_eqGraph.f k bt224.1 bt224.2.1 bt213.1 bt213.2.1).bind fun t230 => (if t230 = true then (laws_FnExactCliqueGraph.j0 k bt213.2.2 bt224.2.2 (bt224.2.2 != bt213.2.2) a0_0 l0_1 bt213.1 bt213.2.1 bt219.1 bt219.2 bt224.1 bt224.2.1) else (laws_FnExactCliqueGraph.j0 k bt213.2.2 bt224.2.2 true a0_0 l0_1 bt213.1 bt213.2.1 bt219.1 bt219.2 bt224.1 bt224.2.1)))))) = some r := H
   have A7 := Aside0.mk A70
   clear A70
   replace H := Option.bind_eq_some_iff.mp H
   obtain ⟨⟨t213, t214, t217⟩, A80, H⟩ := H
   replace H : ((laws_toGraph.f k a0_0 l0_1).bind fun bt219 => ((impl_CliqueGraph.f k bt219.1 bt219.2).bind fun bt224 => ((laws_eqGraph.f k bt224.1 bt224.2.1 t213 t214).bind fun t230 => (if t230 = true then (laws_FnExactCliqueGraph.j0 k t217 bt224.2.2 (bt224.2.2 != t217) a0_0 l0_1 t213 t214 bt219.1 bt219.2 bt224.1 bt224.2.1) else (laws_FnExactCliqueGraph.j0 k t217 bt224.2.2 true a0_0 l0_1 t213 t214 bt219.1 bt219.2 bt224.1 bt224.2.1))))) = some r := H
   have A8 := Aside0.mk A80
   clear A80
   replace H := Option.bind_eq_some_iff.mp H
   obtain ⟨⟨t219, t220⟩, A90, H⟩ := H
   replace H : ((impl_CliqueGraph.f k t219 t220).bind fun bt224 => ((laws_eqGraph.f k bt224.1 bt224.2.1 t213 t214).bind fun t230 => (if t230 = true then (laws_FnExactCliqueGraph.j0 k t217 bt224.2.2 (bt224.2.2 != t217) a0_0 l0_1 t213 t214 t219 t220 bt224.1 bt224.2.1) else (laws_FnExactCliqueGraph.j0 k t217 bt224.2.2 true a0_0 l0_1 t213 t214 t219 t220 bt224.1 bt224.2.1)))) = some r := H
   have A9 := Aside0.mk A90
   clear A90
   replace H := Option.bind_eq_some_iff.mp H
   obtain ⟨⟨t224, t225, t228⟩, A100, H⟩ := H
   replace H : ((laws_eqGraph.f k t224 t225 t213 t214).bind fun t230 => (if t230 = true then (laws_FnExactCliqueGraph.j0 k t217 t228 (t228 != t217) a0_0 l0_1 t213 t214 t219 t220 t224 t225) else (laws_FnExactCliqueGraph.j0 k t217 t228 true a0_0 l0_1 t213 t214 t219 t220 t224 t225))) = some r := H
   have A10 := Aside0.mk A100
   clear A100
   have HC11 := Aside0.mk H
   clear H
   go_enter Try.func4, Try.ntmps4
   go_upto_region 8 with (first | ((with_reducible refine gate_dst (N := 1) rfl ?_); refine zb (w := w) 1 #[.int .i64 a0_0, .slice A0_1 l0_1.length c0_1] 24 zB ?_; clear HB; intro gb207 w12 HB BK207 GW207; have GE207 := GW207; have hcz13_0 := zy BK207 0; have hcz13_1 := zy BK207 1; have hfz13_0 := blk_frozen BK207.out 0; have hfz13_1 := blk_frozen BK207.out 1) | ((with_reducible refine gate_callee (f := 15) rfl ?_); refine zc 16 Try.func15 #[.agg #[.int .i64 a0_0, .slice A0_1 l0_1.length c0_1], .int .i64 1048576] ?_; (with_reducible refine (laws_szGraph.calls a0_0 _ _ l0_1 1048576 t208 _ ?side1 ?side2 A2.out).mono ?_); (case side1 => exact zC (Kd.C_below HR0_1.out HB.out)); (case side2 => exact HC0_1.out); rintro e w14 ⟨rfl, hb⟩; refine ⟨_, rfl, ?_⟩; replace BK207 := zM (blk_below (g := gb207) (o := .cells #[.int .i64 a0_0, .slice A0_1 l0_1.length c0_1] 24 (0, 0)) (zK BK207.out) hb); replace HB := zM (below_step zB hb); (try clear hb); (try clear hb2); (try clear hk); (try clear hi); have hcz15_0 := zy BK207 0; have hcz15_1 := zy BK207 1; have hfz15_0 := blk_frozen BK207.out 0; have hfz15_1 := blk_frozen BK207.out 1) | ((with_reducible refine gate_callee (f := 17) rfl ?_); refine zc 21 Try.func17 #[.agg #[.int .i64 a0_0, .slice A0_1 l0_1.length c0_1]] ?_; (with_reducible refine (laws_toGraph.calls k a0_0 _ _ l0_1 t209 t210 _ ?side1 ?side2 A7.out).mono ?_); (case side1 => exact zC (Kd.C_below HR0_1.out HB.out)); (case side2 => exact HC0_1.out); rintro e w16 ⟨v211, rfl, ho0, hb⟩; refine ⟨_, rfl, ?_⟩; have HO212 := zM (Kd.R_lower ho0 (below_size zB)); replace BK207 := zM (blk_below (g := gb207) (o := .cells #[.int .i64 a0_0, .slice A0_1 l0_1.length c0_1] 24 (0, 0)) (zK BK207.out) hb); replace HB := zM (below_step zB hb); (try clear hb); (try clear hb2); (try clear hk); (try clear hi); (try clear ho0); obtain ⟨Ao17, co17, eo17⟩ := Kd.R_slice HO212.out; subst eo17) | ((with_reducible refine gate_callee (f := 20) rfl ?_); refine zc 22 Try.func20 #[.agg #[.int .i64 t209, .slice Ao17 t210.length co17]] ?_; (with_reducible refine (spec_CliqueGraph.calls k t209 _ _ t210 t213 t214 t217 _ ?side1 ?side2 A8.out).mono ?_); (case side1 => exact zC (Kd.R_reads' HO212.out).2.2); (case side2 => exact (Kd.R_reads' HO212.out).2.1); rintro e w18 ⟨v215, rfl, ho0, hb⟩; refine ⟨_, rfl, ?_⟩; have HO216 := zM (Kd.R_lower (Kd.R_new' ho0 (Kd.R_lt (zR HO212.out))) (below_size zB)); replace HO212 := zM (Kd.R_elder' (zR HO212.out) (Kd.R_base ho0) hb); replace BK207 := zM (blk_below (g := gb207) (o := .cells #[.int .i64 a0_0, .slice A0_1 l0_1.length c0_1] 24 (0, 0)) (zK BK207.out) hb); replace HB := zM (below_step zB hb); (try clear hb); (try clear hb2); (try clear hk); (try clear hi); (try clear ho0)) | ((with_reducible refine gate_dst (N := 4) rfl ?_); refine ze 4 #[.int .i64 0, .slice none 0 0] 27 ?_; intro gb218 hg w19 hbox hb; replace HO212 := zM (Kd.R_below (zR HO212.out) hb); replace HO216 := zM (Kd.R_below (zR HO216.out) hb); have BK218 := zM (hbox); have GW218 := zM ((by rw [hg]; exact (below_size zB) : w.heap.size ≤ gb218)); have GE218 := zM ((by rw [hg]; exact (below_size zB) : w.heap.size ≤ gb218)); replace HB := zM (below_step zB hb); have NB207_218 := zM ((by rw [hg]; exact Nat.ne_of_lt (blk_lt (g := gb207) (o := .cells #[.int .i64 a0_0, .slice A0_1 l0_1.length c0_1] 24 (0, 0)) (zK BK207.out)) : gb207 ≠ gb218)); have NB218_207 := zM ((by rw [hg]; exact Nat.ne_of_gt (blk_lt (g := gb207) (o := .cells #[.int .i64 a0_0, .slice A0_1 l0_1.length c0_1] 24 (0, 0)) (zK BK207.out)) : gb218 ≠ gb207)); replace BK207 := zM (blk_below (g := gb207) (o := .cells #[.int .i64 a0_0, .slice A0_1 l0_1.length c0_1] 24 (0, 0)) (zK BK207.out) hb); clear hb hbox hg; have hnb20 := NB218_207.out; have hnc20 := NB207_218.out; have hcz21_0 := zy BK218 0; have hcz21_1 := zy BK218 1; have hfz21_0 := blk_frozen BK218.out 0; have hfz21_1 := blk_frozen BK218.out 1; obtain ⟨Ao22, co22, eo22⟩ := Kd.R_slice HO216.out; subst eo22; have hcz23_0 := zy BK207 0; have hcz23_1 := zy BK207 1; have hfz23_0 := blk_frozen BK207.out 0; have hfz23_1 := blk_frozen BK207.out 1) | ((with_reducible refine gate_callee (f := 17) rfl ?_); refine zc 26 Try.func17 #[.agg #[.int .i64 a0_0, .slice A0_1 l0_1.length c0_1]] ?_; (with_reducible refine (laws_toGraph.calls k a0_0 _ _ l0_1 t219 t220 _ ?side1 ?side2 A9.out).mono ?_); (case side1 => exact Kd.C_below HR0_1.out zB); (case side2 => exact HC0_1.out); rintro e w24 ⟨v221, rfl, ho0, hb⟩; refine ⟨_, rfl, ?_⟩; have HO222 := zM (Kd.R_lower (Kd.R_new' (Kd.R_new' ho0 (Kd.R_lt (by (with_reducible repeat (first | apply Kd.R_alloc | apply Kd.R_drewN | apply Kd.R_drew)); exact (Kd.R_mono (Kd.R_far (p := ⟨gb218, 1, none⟩) (Kd.R_far (p := ⟨gb218, 0, none⟩) (Kd.R_types HO212.out BK218.out (by decide)) (fun _ hk => hk.2) (.int .i64 t213)) (fun _ hk => hk.2) (.slice Ao22 t214.length co22)) (fun _ h_ => h_.1))))) (Kd.R_lt (by (with_reducible repeat (first | apply Kd.R_alloc | apply Kd.R_drewN | apply Kd.R_drew)); exact (Kd.R_mono (Kd.R_far (p := ⟨gb218, 1, none⟩) (Kd.R_far (p := ⟨gb218, 0, none⟩) (Kd.R_types HO216.out BK218.out (by decide)) (fun _ hk => hk.2) (.int .i64 t213)) (fun _ hk => hk.2) (.slice Ao22 t214.length co22)) (fun _ h_ => h_.1))))) (below_size zB)); replace HO212 := zM (Kd.R_elder' (by (with_reducible repeat (first | apply Kd.R_alloc | apply Kd.R_drewN | apply Kd.R_drew)); exact (Kd.R_mono (Kd.R_far (p := ⟨gb218, 1, none⟩) (Kd.R_far (p := ⟨gb218, 0, none⟩) (Kd.R_types HO212.out BK218.out (by decide)) (fun _ hk => hk.2) (.int .i64 t213)) (fun _ hk => hk.2) (.slice Ao22 t214.length co22)) (fun _ h_ => h_.1))) (Kd.R_base ho0) hb); replace HO216 := zM (Kd.R_elder' (by (with_reducible repeat (first | apply Kd.R_alloc | apply Kd.R_drewN | apply Kd.R_drew)); exact (Kd.R_mono (Kd.R_far (p := ⟨gb218, 1, none⟩) (Kd.R_far (p := ⟨gb218, 0, none⟩) (Kd.R_types HO216.out BK218.out (by decide)) (fun _ hk => hk.2) (.int .i64 t213)) (fun _ hk => hk.2) (.slice Ao22 t214.length co22)) (fun _ h_ => h_.1))) (Kd.R_base ho0) hb); replace BK207 := zM (blk_below (g := gb207) (o := .cells #[.int .i64 a0_0, .slice A0_1 l0_1.length c0_1] 24 (0, 0)) (by (with_reducible repeat (first | refine blk_drewN ?_ _ | refine blk_drew ?_ | refine blk_alloc ?_ _)); refine blk_far ?_ NB207_218.out _; (with_reducible repeat (first | refine blk_drewN ?_ _ | refine blk_drew ?_ | refine blk_alloc ?_ _)); refine blk_far ?_ NB207_218.out _; (with_reducible repeat (first | refine blk_drewN ?_ _ | refine blk_drew ?_ | refine blk_alloc ?_ _)); exact BK207.out) hb); replace BK218 := zM (blk_below (g := gb218) (o := .cells #[.int .i64 t213, .slice Ao22 t214.length co22] 27 (0, 0)) (by (with_reducible repeat (first | refine blk_drewN ?_ _ | refine blk_drew ?_ | refine blk_alloc ?_ _)); refine blk_put (cs := #[.int .i64 t213, .slice none 0 0]) ?_ 1 _ rfl; (with_reducible repeat (first | refine blk_drewN ?_ _ | refine blk_drew ?_ | refine blk_alloc ?_ _)); refine blk_put (cs := #[.int .i64 0, .slice none 0 0]) ?_ 0 _ rfl; (with_reducible repeat (first | refine blk_drewN ?_ _ | refine blk_drew ?_ | refine blk_alloc ?_ _)); exact BK218.out) hb); replace HB := zM (below_step zB hb); (try clear hb); (try clear hb2); (try clear hk); (try clear hi); (try clear ho0)) | ((with_reducible refine gate_dst (N := 6) rfl ?_); refine ze 6 #[.int .i64 0, .slice none 0 0] 27 ?_; intro gb223 hg w25 hbox hb; replace HO212 := zM (Kd.R_below (zR HO212.out) hb); replace HO216 := zM (Kd.R_below (zR HO216.out) hb); replace HO222 := zM (Kd.R_below (zR HO222.out) hb); have BK223 := zM (hbox); have GW223 := zM ((by rw [hg]; exact (below_size zB) : w.heap.size ≤ gb223)); have GE223 := zM ((by rw [hg]; exact (below_size zB) : w.heap.size ≤ gb223)); replace HB := zM (below_step zB hb); have NB207_223 := zM ((by rw [hg]; exact Nat.ne_of_lt (blk_lt (g := gb207) (o := .cells #[.int .i64 a0_0, .slice A0_1 l0_1.length c0_1] 24 (0, 0)) (zK BK207.out)) : gb207 ≠ gb223)); have NB223_207 := zM ((by rw [hg]; exact Nat.ne_of_gt (blk_lt (g := gb207) (o := .cells #[.int .i64 a0_0, .slice A0_1 l0_1.length c0_1] 24 (0, 0)) (zK BK207.out)) : gb223 ≠ gb207)); replace BK207 := zM (blk_below (g := gb207) (o := .cells #[.int .i64 a0_0, .slice A0_1 l0_1.length c0_1] 24 (0, 0)) (zK BK207.out) hb); have NB218_223 := zM ((by rw [hg]; exact Nat.ne_of_lt (blk_lt (g := gb218) (o := .cells #[.int .i64 t213, .slice Ao22 t214.length co22] 27 (0, 0)) (zK BK218.out)) : gb218 ≠ gb223)); have NB223_218 := zM ((by rw [hg]; exact Nat.ne_of_gt (blk_lt (g := gb218) (o := .cells #[.int .i64 t213, .slice Ao22 t214.length co22] 27 (0, 0)) (zK BK218.out)) : gb223 ≠ gb218)); replace BK218 := zM (blk_below (g := gb218) (o := .cells #[.int .i64 t213, .slice Ao22 t214.length co22] 27 (0, 0)) (zK BK218.out) hb); clear hb hbox hg; have hnb26 := NB223_207.out; have hnc26 := NB207_223.out; have hnb27 := NB223_218.out; have hnc27 := NB218_223.out; have hcz28_0 := zy BK223 0; have hcz28_1 := zy BK223 1; have hfz28_0 := blk_frozen BK223.out 0; have hfz28_1 := blk_frozen BK223.out 1; obtain ⟨Ao29, co29, eo29⟩ := Kd.R_slice HO222.out; subst eo29) | ((with_reducible refine gate_callee (f := 21) rfl ?_); refine zc 29 Try.func21 #[.agg #[.int .i64 t219, .slice Ao29 t220.length co29]] ?_; (with_reducible refine (impl_CliqueGraph.calls k t219 _ _ t220 t224 t225 t228 _ ?side1 ?side2 A10.out).mono ?_); (case side1 => refine (Kd.R_reads' (e := 68) (base := w.heap.size) (ok := fun k_ => ((True ∧ some k_ ≠ (.slice Ao17 t210.length co17 : Value).ownBlock) ∧ some k_ ≠ (.slice Ao22 t214.length co22 : Value).ownBlock)) (n := t220.length) (c := co29) ?_).2.2; exact (by (with_reducible repeat (first | apply Kd.R_alloc | apply Kd.R_drewN | apply Kd.R_drew)); exact (Kd.R_mono (Kd.R_far (p := ⟨gb223, 1, none⟩) (Kd.R_far (p := ⟨gb223, 0, none⟩) (Kd.R_types HO222.out BK223.out (by decide)) (fun _ hk => hk.2) (.int .i64 t219)) (fun _ hk => hk.2) (.slice Ao29 t220.length co29)) (fun _ h_ => h_.1)))); (case side2 => exact (Kd.R_reads' HO222.out).2.1); rintro e w30 ⟨v226, rfl, ho0, hb⟩; refine ⟨_, rfl, ?_⟩; have HO227 := zM (Kd.R_lower (Kd.R_new' (Kd.R_new' (Kd.R_new' ho0 (Kd.R_lt (by (with_reducible repeat (first | apply Kd.R_alloc | apply Kd.R_drewN | apply Kd.R_drew)); exact (Kd.R_mono (Kd.R_far (p := ⟨gb223, 1, none⟩) (Kd.R_far (p := ⟨gb223, 0, none⟩) (Kd.R_types HO212.out BK223.out (by decide)) (fun _ hk => hk.2) (.int .i64 t219)) (fun _ hk => hk.2) (.slice Ao29 t220.length co29)) (fun _ h_ => h_.1))))) (Kd.R_lt (by (with_reducible repeat (first | apply Kd.R_alloc | apply Kd.R_drewN | apply Kd.R_drew)); exact (Kd.R_mono (Kd.R_far (p := ⟨gb223, 1, none⟩) (Kd.R_far (p := ⟨gb223, 0, none⟩) (Kd.R_types HO216.out BK223.out (by decide)) (fun _ hk => hk.2) (.int .i64 t219)) (fun _ hk => hk.2) (.slice Ao29 t220.length co29)) (fun _ h_ => h_.1))))) (Kd.R_lt (by (with_reducible repeat (first | apply Kd.R_alloc | apply Kd.R_drewN | apply Kd.R_drew)); exact (Kd.R_mono (Kd.R_far (p := ⟨gb223, 1, none⟩) (Kd.R_far (p := ⟨gb223, 0, none⟩) (Kd.R_types HO222.out BK223.out (by decide)) (fun _ hk => hk.2) (.int .i64 t219)) (fun _ hk => hk.2) (.slice Ao29 t220.length co29)) (fun _ h_ => h_.1))))) (below_size zB)); replace HO212 := zM (Kd.R_elder' (by (with_reducible repeat (first | apply Kd.R_alloc | apply Kd.R_drewN | apply Kd.R_drew)); exact (Kd.R_mono (Kd.R_far (p := ⟨gb223, 1, none⟩) (Kd.R_far (p := ⟨gb223, 0, none⟩) (Kd.R_types HO212.out BK223.out (by decide)) (fun _ hk => hk.2) (.int .i64 t219)) (fun _ hk => hk.2) (.slice Ao29 t220.length co29)) (fun _ h_ => h_.1))) (Kd.R_base ho0) hb); replace HO216 := zM (Kd.R_elder' (by (with_reducible repeat (first | apply Kd.R_alloc | apply Kd.R_drewN | apply Kd.R_drew)); exact (Kd.R_mono (Kd.R_far (p := ⟨gb223, 1, none⟩) (Kd.R_far (p := ⟨gb223, 0, none⟩) (Kd.R_types HO216.out BK223.out (by decide)) (fun _ hk => hk.2) (.int .i64 t219)) (fun _ hk => hk.2) (.slice Ao29 t220.length co29)) (fun _ h_ => h_.1))) (Kd.R_base ho0) hb); replace HO222 := zM (Kd.R_elder' (by (with_reducible repeat (first | apply Kd.R_alloc | apply Kd.R_drewN | apply Kd.R_drew)); exact (Kd.R_mono (Kd.R_far (p := ⟨gb223, 1, none⟩) (Kd.R_far (p := ⟨gb223, 0, none⟩) (Kd.R_types HO222.out BK223.out (by decide)) (fun _ hk => hk.2) (.int .i64 t219)) (fun _ hk => hk.2) (.slice Ao29 t220.length co29)) (fun _ h_ => h_.1))) (Kd.R_base ho0) hb); replace BK207 := zM (blk_below (g := gb207) (o := .cells #[.int .i64 a0_0, .slice A0_1 l0_1.length c0_1] 24 (0, 0)) (by (with_reducible repeat (first | refine blk_drewN ?_ _ | refine blk_drew ?_ | refine blk_alloc ?_ _)); refine blk_far ?_ NB207_223.out _; (with_reducible repeat (first | refine blk_drewN ?_ _ | refine blk_drew ?_ | refine blk_alloc ?_ _)); refine blk_far ?_ NB207_223.out _; (with_reducible repeat (first | refine blk_drewN ?_ _ | refine blk_drew ?_ | refine blk_alloc ?_ _)); exact BK207.out) hb); replace BK218 := zM (blk_below (g := gb218) (o := .cells #[.int .i64 t213, .slice Ao22 t214.length co22] 27 (0, 0)) (by (with_reducible repeat (first | refine blk_drewN ?_ _ | refine blk_drew ?_ | refine blk_alloc ?_ _)); refine blk_far ?_ NB218_223.out _; (with_reducible repeat (first | refine blk_drewN ?_ _ | refine blk_drew ?_ | refine blk_alloc ?_ _)); refine blk_far ?_ NB218_223.out _; (with_reducible repeat (first | refine blk_drewN ?_ _ | refine blk_drew ?_ | refine blk_alloc ?_ _)); exact BK218.out) hb); replace BK223 := zM (blk_below (g := gb223) (o := .cells #[.int .i64 t219, .slice Ao29 t220.length co29] 27 (0, 0)) (by (with_reducible repeat (first | refine blk_drewN ?_ _ | refine blk_drew ?_ | refine blk_alloc ?_ _)); refine blk_put (cs := #[.int .i64 t219, .slice none 0 0]) ?_ 1 _ rfl; (with_reducible repeat (first | refine blk_drewN ?_ _ | refine blk_drew ?_ | refine blk_alloc ?_ _)); refine blk_put (cs := #[.int .i64 0, .slice none 0 0]) ?_ 0 _ rfl; (with_reducible repeat (first | refine blk_drewN ?_ _ | refine blk_drew ?_ | refine blk_alloc ?_ _)); exact BK223.out) hb); replace HB := zM (below_step zB hb); (try clear hb); (try clear hb2); (try clear hk); (try clear hi); (try clear ho0)) | ((with_reducible refine gate_dst (N := 7) rfl ?_); refine ze 7 #[.int .i64 0, .slice none 0 0] 27 ?_; intro gb229 hg w31 hbox hb; replace HO212 := zM (Kd.R_below (zR HO212.out) hb); replace HO216 := zM (Kd.R_below (zR HO216.out) hb); replace HO222 := zM (Kd.R_below (zR HO222.out) hb); replace HO227 := zM (Kd.R_below (zR HO227.out) hb); have BK229 := zM (hbox); have GW229 := zM ((by rw [hg]; exact (below_size zB) : w.heap.size ≤ gb229)); have GE229 := zM ((by rw [hg]; exact (below_size zB) : w.heap.size ≤ gb229)); replace HB := zM (below_step zB hb); have NB207_229 := zM ((by rw [hg]; exact Nat.ne_of_lt (blk_lt (g := gb207) (o := .cells #[.int .i64 a0_0, .slice A0_1 l0_1.length c0_1] 24 (0, 0)) (zK BK207.out)) : gb207 ≠ gb229)); have NB229_207 := zM ((by rw [hg]; exact Nat.ne_of_gt (blk_lt (g := gb207) (o := .cells #[.int .i64 a0_0, .slice A0_1 l0_1.length c0_1] 24 (0, 0)) (zK BK207.out)) : gb229 ≠ gb207)); replace BK207 := zM (blk_below (g := gb207) (o := .cells #[.int .i64 a0_0, .slice A0_1 l0_1.length c0_1] 24 (0, 0)) (zK BK207.out) hb); have NB218_229 := zM ((by rw [hg]; exact Nat.ne_of_lt (blk_lt (g := gb218) (o := .cells #[.int .i64 t213, .slice Ao22 t214.length co22] 27 (0, 0)) (zK BK218.out)) : gb218 ≠ gb229)); have NB229_218 := zM ((by rw [hg]; exact Nat.ne_of_gt (blk_lt (g := gb218) (o := .cells #[.int .i64 t213, .slice Ao22 t214.length co22] 27 (0, 0)) (zK BK218.out)) : gb229 ≠ gb218)); replace BK218 := zM (blk_below (g := gb218) (o := .cells #[.int .i64 t213, .slice Ao22 t214.length co22] 27 (0, 0)) (zK BK218.out) hb); have NB223_229 := zM ((by rw [hg]; exact Nat.ne_of_lt (blk_lt (g := gb223) (o := .cells #[.int .i64 t219, .slice Ao29 t220.length co29] 27 (0, 0)) (zK BK223.out)) : gb223 ≠ gb229)); have NB229_223 := zM ((by rw [hg]; exact Nat.ne_of_gt (blk_lt (g := gb223) (o := .cells #[.int .i64 t219, .slice Ao29 t220.length co29] 27 (0, 0)) (zK BK223.out)) : gb229 ≠ gb223)); replace BK223 := zM (blk_below (g := gb223) (o := .cells #[.int .i64 t219, .slice Ao29 t220.length co29] 27 (0, 0)) (zK BK223.out) hb); clear hb hbox hg; have hnb32 := NB229_207.out; have hnc32 := NB207_229.out; have hnb33 := NB229_218.out; have hnc33 := NB218_229.out; have hnb34 := NB229_223.out; have hnc34 := NB223_229.out; have hcz35_0 := zy BK229 0; have hcz35_1 := zy BK229 1; have hfz35_0 := blk_frozen BK229.out 0; have hfz35_1 := blk_frozen BK229.out 1; obtain ⟨Ao36, co36, eo36⟩ := Kd.R_slice HO227.out; subst eo36))
   (try simp only [Act.put, List.setIfInBounds_toArray, List.set_cons_zero, List.set_cons_succ])
   go_cut [40] (fun v40 wc => ∃ (kq : Nat) (x40_10 : Bool), v40 = .bool x40_10 ∧ Aside0 (laws_FnExactCliqueGraph.j0 kq t217 t228 x40_10 a0_0 l0_1 t213 t214 t219 t220 t224 t225 = some r) ∧ Aside0 (kq ≤ k) ∧ Aside0 (Kd.R k68 68 wc w.heap.size (fun k_ => some k_ ≠ ((.slice Ao29 t220.length co29) : Value).ownBlock ∧ some k_ ≠ ((.slice Ao36 t225.length co36) : Value).ownBlock) (.slice Ao22 t214.length co22) t214) ∧ Aside0 (Kd.R k68 68 wc w.heap.size (fun k_ => some k_ ≠ ((.slice Ao22 t214.length co22) : Value).ownBlock ∧ some k_ ≠ ((.slice Ao36 t225.length co36) : Value).ownBlock) (.slice Ao29 t220.length co29) t220) ∧ Aside0 (Kd.R k68 68 wc w.heap.size (fun k_ => some k_ ≠ ((.slice Ao22 t214.length co22) : Value).ownBlock ∧ some k_ ≠ ((.slice Ao29 t220.length co29) : Value).ownBlock) (.slice Ao36 t225.length co36) t225) ∧ Aside0 (wc.heap[gb207]? = some (.cells #[.int .i64 a0_0, (.slice A0_1 l0_1.length c0_1)] 24 (0, 0))) ∧ Aside0 (wc.heap[gb218]? = some (.cells #[.int .i64 t213, (.slice Ao22 t214.length co22)] 27 (0, 0))) ∧ Aside0 (wc.heap[gb223]? = some (.cells #[.int .i64 t219, (.slice Ao29 t220.length co29)] 27 (0, 0))) ∧ Aside0 (wc.heap[gb229]? = some (.cells #[.int .i64 t224, (.slice Ao36 t225.length co36)] 27 (0, 0))) ∧ Aside0 (Below w.heap.size w wc))
   case first =>
    have H := HC11.out
    clear HC11
    replace H := Option.bind_eq_some_iff.mp H
    obtain ⟨t230, A370, H⟩ := H
    have A37 := Aside0.mk A370
    clear A370
    by_cases c38 : t230 = true
    · subst c38
      rw [if_pos rfl] at H
      have H' := Aside0.mk H
      clear H
      have hnb39 := NB229_207.out
      have hnc39 := NB207_229.out
      have hnb40 := NB229_218.out
      have hnc40 := NB218_229.out
      have hnb41 := NB229_223.out
      have hnc41 := NB223_229.out
      have hcz42_0 := zy BK229 0
      have hcz42_1 := zy BK229 1
      have hfz42_0 := blk_frozen BK229.out 0
      have hfz42_1 := blk_frozen BK229.out 1
      have hnb43 := NB218_207.out
      have hnc43 := NB207_218.out
      have hnb44 := NB218_223.out
      have hnc44 := NB223_218.out
      have hcz45_0 := zy BK218 0
      have hcz45_1 := zy BK218 1
      have hfz45_0 := blk_frozen BK218.out 0
      have hfz45_1 := blk_frozen BK218.out 1
      go_wp2_with (first | ((with_reducible refine gate_callee (f := 19) rfl ?_); refine zc 34 Try.func19 #[.agg #[.int .i64 t224, .slice Ao36 t225.length co36], .agg #[.int .i64 t213, .slice Ao22 t214.length co22]] ?_; (with_reducible refine (laws_eqGraph.calls k t224 _ _ t225 t213 _ _ t214 true _ ?side1 ?side2 ?side3 ?side4 A37.out).mono ?_); (case side1 => refine (Kd.R_reads' (e := 68) (base := w.heap.size) (ok := fun k_ => (((True ∧ some k_ ≠ (.slice Ao17 t210.length co17 : Value).ownBlock) ∧ some k_ ≠ (.slice Ao22 t214.length co22 : Value).ownBlock) ∧ some k_ ≠ (.slice Ao29 t220.length co29 : Value).ownBlock)) (n := t225.length) (c := co36) ?_).2.2; exact (by (with_reducible repeat (first | apply Kd.R_alloc | apply Kd.R_drewN | apply Kd.R_drew)); exact (Kd.R_mono (Kd.R_far (p := ⟨gb229, 1, none⟩) (Kd.R_far (p := ⟨gb229, 0, none⟩) (Kd.R_types HO227.out BK229.out (by decide)) (fun _ hk => hk.2) (.int .i64 t224)) (fun _ hk => hk.2) (.slice Ao36 t225.length co36)) (fun _ h_ => h_.1)))); (case side2 => exact (Kd.R_reads' HO227.out).2.1); (case side3 => refine (Kd.R_reads' (e := 68) (base := w.heap.size) (ok := fun k_ => (((True ∧ some k_ ≠ (.slice Ao17 t210.length co17 : Value).ownBlock) ∧ some k_ ≠ (.slice Ao29 t220.length co29 : Value).ownBlock) ∧ some k_ ≠ (.slice Ao36 t225.length co36 : Value).ownBlock)) (n := t214.length) (c := co22) ?_).2.2; exact (by (with_reducible repeat (first | apply Kd.R_alloc | apply Kd.R_drewN | apply Kd.R_drew)); exact (Kd.R_mono (Kd.R_far (p := ⟨gb229, 1, none⟩) (Kd.R_far (p := ⟨gb229, 0, none⟩) (Kd.R_types HO216.out BK229.out (by decide)) (fun _ hk => hk.2) (.int .i64 t224)) (fun _ hk => hk.2) (.slice Ao36 t225.length co36)) (fun _ h_ => h_.1)))); (case side4 => exact (Kd.R_reads' HO216.out).2.1); rintro e w46 ⟨rfl, hb⟩; refine ⟨_, rfl, ?_⟩; replace HO212 := zM (Kd.R_below (by (with_reducible repeat (first | apply Kd.R_alloc | apply Kd.R_drewN | apply Kd.R_drew)); exact (Kd.R_mono (Kd.R_far (p := ⟨gb229, 1, none⟩) (Kd.R_far (p := ⟨gb229, 0, none⟩) (Kd.R_types HO212.out BK229.out (by decide)) (fun _ hk => hk.2) (.int .i64 t224)) (fun _ hk => hk.2) (.slice Ao36 t225.length co36)) (fun _ h_ => h_.1))) hb); replace HO216 := zM (Kd.R_below (by (with_reducible repeat (first | apply Kd.R_alloc | apply Kd.R_drewN | apply Kd.R_drew)); exact (Kd.R_mono (Kd.R_far (p := ⟨gb229, 1, none⟩) (Kd.R_far (p := ⟨gb229, 0, none⟩) (Kd.R_types HO216.out BK229.out (by decide)) (fun _ hk => hk.2) (.int .i64 t224)) (fun _ hk => hk.2) (.slice Ao36 t225.length co36)) (fun _ h_ => h_.1))) hb); replace HO222 := zM (Kd.R_below (by (with_reducible repeat (first | apply Kd.R_alloc | apply Kd.R_drewN | apply Kd.R_drew)); exact (Kd.R_mono (Kd.R_far (p := ⟨gb229, 1, none⟩) (Kd.R_far (p := ⟨gb229, 0, none⟩) (Kd.R_types HO222.out BK229.out (by decide)) (fun _ hk => hk.2) (.int .i64 t224)) (fun _ hk => hk.2) (.slice Ao36 t225.length co36)) (fun _ h_ => h_.1))) hb); replace HO227 := zM (Kd.R_below (by (with_reducible repeat (first | apply Kd.R_alloc | apply Kd.R_drewN | apply Kd.R_drew)); exact (Kd.R_mono (Kd.R_far (p := ⟨gb229, 1, none⟩) (Kd.R_far (p := ⟨gb229, 0, none⟩) (Kd.R_types HO227.out BK229.out (by decide)) (fun _ hk => hk.2) (.int .i64 t224)) (fun _ hk => hk.2) (.slice Ao36 t225.length co36)) (fun _ h_ => h_.1))) hb); replace BK207 := zM (blk_below (g := gb207) (o := .cells #[.int .i64 a0_0, .slice A0_1 l0_1.length c0_1] 24 (0, 0)) (by (with_reducible repeat (first | refine blk_drewN ?_ _ | refine blk_drew ?_ | refine blk_alloc ?_ _)); refine blk_far ?_ NB207_229.out _; (with_reducible repeat (first | refine blk_drewN ?_ _ | refine blk_drew ?_ | refine blk_alloc ?_ _)); refine blk_far ?_ NB207_229.out _; (with_reducible repeat (first | refine blk_drewN ?_ _ | refine blk_drew ?_ | refine blk_alloc ?_ _)); exact BK207.out) hb); replace BK218 := zM (blk_below (g := gb218) (o := .cells #[.int .i64 t213, .slice Ao22 t214.length co22] 27 (0, 0)) (by (with_reducible repeat (first | refine blk_drewN ?_ _ | refine blk_drew ?_ | refine blk_alloc ?_ _)); refine blk_far ?_ NB218_229.out _; (with_reducible repeat (first | refine blk_drewN ?_ _ | refine blk_drew ?_ | refine blk_alloc ?_ _)); refine blk_far ?_ NB218_229.out _; (with_reducible repeat (first | refine blk_drewN ?_ _ | refine blk_drew ?_ | refine blk_alloc ?_ _)); exact BK218.out) hb); replace BK223 := zM (blk_below (g := gb223) (o := .cells #[.int .i64 t219, .slice Ao29 t220.length co29] 27 (0, 0)) (by (with_reducible repeat (first | refine blk_drewN ?_ _ | refine blk_drew ?_ | refine blk_alloc ?_ _)); refine blk_far ?_ NB223_229.out _; (with_reducible repeat (first | refine blk_drewN ?_ _ | refine blk_drew ?_ | refine blk_alloc ?_ _)); refine blk_far ?_ NB223_229.out _; (with_reducible repeat (first | refine blk_drewN ?_ _ | refine blk_drew ?_ | refine blk_alloc ?_ _)); exact BK223.out) hb); replace BK229 := zM (blk_below (g := gb229) (o := .cells #[.int .i64 t224, .slice Ao36 t225.length co36] 27 (0, 0)) (by (with_reducible repeat (first | refine blk_drewN ?_ _ | refine blk_drew ?_ | refine blk_alloc ?_ _)); refine blk_put (cs := #[.int .i64 t224, .slice none 0 0]) ?_ 1 _ rfl; (with_reducible repeat (first | refine blk_drewN ?_ _ | refine blk_drew ?_ | refine blk_alloc ?_ _)); refine blk_put (cs := #[.int .i64 0, .slice none 0 0]) ?_ 0 _ rfl; (with_reducible repeat (first | refine blk_drewN ?_ _ | refine blk_drew ?_ | refine blk_alloc ?_ _)); exact BK229.out) hb); replace HB := zM (below_step zB hb); (try clear hb); (try clear hb2); (try clear hk); (try clear hi)))
      go_meet
      case rel => exact ⟨_, ((t228 != t217)), (by first | rfl | (simp; done) | (simp [*]; done)), H', ⟨by first | omega | exact Nat.le_refl _⟩, ⟨by (with_reducible repeat (first | apply Kd.R_alloc | apply Kd.R_drewN | apply Kd.R_drew)); exact Kd.R_mono HO216.out (fun _ hk => ⟨hk.1.2, hk.2⟩)⟩, ⟨by (with_reducible repeat (first | apply Kd.R_alloc | apply Kd.R_drewN | apply Kd.R_drew)); exact Kd.R_mono HO222.out (fun _ hk => ⟨hk.1.2, hk.2⟩)⟩, ⟨by (with_reducible repeat (first | apply Kd.R_alloc | apply Kd.R_drewN | apply Kd.R_drew)); exact Kd.R_mono HO227.out (fun _ hk => ⟨hk.1.2, hk.2⟩)⟩, ⟨zK BK207.out⟩, ⟨zK BK218.out⟩, ⟨zK BK223.out⟩, ⟨zK BK229.out⟩, ⟨zB⟩⟩
    · replace c38 := Bool.eq_false_iff.mpr c38
      subst c38
      have H1 : (laws_FnExactCliqueGraph.j0 k t217 t228 true a0_0 l0_1 t213 t214 t219 t220 t224 t225) = some r := by rw [if_neg (show ¬ (false = true) by decide)] at H; exact H
      clear H
      have H := H1
      clear H1
      have H' := Aside0.mk H
      clear H
      have hnb47 := NB229_207.out
      have hnc47 := NB207_229.out
      have hnb48 := NB229_218.out
      have hnc48 := NB218_229.out
      have hnb49 := NB229_223.out
      have hnc49 := NB223_229.out
      have hcz50_0 := zy BK229 0
      have hcz50_1 := zy BK229 1
      have hfz50_0 := blk_frozen BK229.out 0
      have hfz50_1 := blk_frozen BK229.out 1
      have hnb51 := NB218_207.out
      have hnc51 := NB207_218.out
      have hnb52 := NB218_223.out
      have hnc52 := NB223_218.out
      have hcz53_0 := zy BK218 0
      have hcz53_1 := zy BK218 1
      have hfz53_0 := blk_frozen BK218.out 0
      have hfz53_1 := blk_frozen BK218.out 1
      go_wp2_with (first | ((with_reducible refine gate_callee (f := 19) rfl ?_); refine zc 34 Try.func19 #[.agg #[.int .i64 t224, .slice Ao36 t225.length co36], .agg #[.int .i64 t213, .slice Ao22 t214.length co22]] ?_; (with_reducible refine (laws_eqGraph.calls k t224 _ _ t225 t213 _ _ t214 false _ ?side1 ?side2 ?side3 ?side4 A37.out).mono ?_); (case side1 => refine (Kd.R_reads' (e := 68) (base := w.heap.size) (ok := fun k_ => (((True ∧ some k_ ≠ (.slice Ao17 t210.length co17 : Value).ownBlock) ∧ some k_ ≠ (.slice Ao22 t214.length co22 : Value).ownBlock) ∧ some k_ ≠ (.slice Ao29 t220.length co29 : Value).ownBlock)) (n := t225.length) (c := co36) ?_).2.2; exact (by (with_reducible repeat (first | apply Kd.R_alloc | apply Kd.R_drewN | apply Kd.R_drew)); exact (Kd.R_mono (Kd.R_far (p := ⟨gb229, 1, none⟩) (Kd.R_far (p := ⟨gb229, 0, none⟩) (Kd.R_types HO227.out BK229.out (by decide)) (fun _ hk => hk.2) (.int .i64 t224)) (fun _ hk => hk.2) (.slice Ao36 t225.length co36)) (fun _ h_ => h_.1)))); (case side2 => exact (Kd.R_reads' HO227.out).2.1); (case side3 => refine (Kd.R_reads' (e := 68) (base := w.heap.size) (ok := fun k_ => (((True ∧ some k_ ≠ (.slice Ao17 t210.length co17 : Value).ownBlock) ∧ some k_ ≠ (.slice Ao29 t220.length co29 : Value).ownBlock) ∧ some k_ ≠ (.slice Ao36 t225.length co36 : Value).ownBlock)) (n := t214.length) (c := co22) ?_).2.2; exact (by (with_reducible repeat (first | apply Kd.R_alloc | apply Kd.R_drewN | apply Kd.R_drew)); exact (Kd.R_mono (Kd.R_far (p := ⟨gb229, 1, none⟩) (Kd.R_far (p := ⟨gb229, 0, none⟩) (Kd.R_types HO216.out BK229.out (by decide)) (fun _ hk => hk.2) (.int .i64 t224)) (fun _ hk => hk.2) (.slice Ao36 t225.length co36)) (fun _ h_ => h_.1)))); (case side4 => exact (Kd.R_reads' HO216.out).2.1); rintro e w54 ⟨rfl, hb⟩; refine ⟨_, rfl, ?_⟩; replace HO212 := zM (Kd.R_below (by (with_reducible repeat (first | apply Kd.R_alloc | apply Kd.R_drewN | apply Kd.R_drew)); exact (Kd.R_mono (Kd.R_far (p := ⟨gb229, 1, none⟩) (Kd.R_far (p := ⟨gb229, 0, none⟩) (Kd.R_types HO212.out BK229.out (by decide)) (fun _ hk => hk.2) (.int .i64 t224)) (fun _ hk => hk.2) (.slice Ao36 t225.length co36)) (fun _ h_ => h_.1))) hb); replace HO216 := zM (Kd.R_below (by (with_reducible repeat (first | apply Kd.R_alloc | apply Kd.R_drewN | apply Kd.R_drew)); exact (Kd.R_mono (Kd.R_far (p := ⟨gb229, 1, none⟩) (Kd.R_far (p := ⟨gb229, 0, none⟩) (Kd.R_types HO216.out BK229.out (by decide)) (fun _ hk => hk.2) (.int .i64 t224)) (fun _ hk => hk.2) (.slice Ao36 t225.length co36)) (fun _ h_ => h_.1))) hb); replace HO222 := zM (Kd.R_below (by (with_reducible repeat (first | apply Kd.R_alloc | apply Kd.R_drewN | apply Kd.R_drew)); exact (Kd.R_mono (Kd.R_far (p := ⟨gb229, 1, none⟩) (Kd.R_far (p := ⟨gb229, 0, none⟩) (Kd.R_types HO222.out BK229.out (by decide)) (fun _ hk => hk.2) (.int .i64 t224)) (fun _ hk => hk.2) (.slice Ao36 t225.length co36)) (fun _ h_ => h_.1))) hb); replace HO227 := zM (Kd.R_below (by (with_reducible repeat (first | apply Kd.R_alloc | apply Kd.R_drewN | apply Kd.R_drew)); exact (Kd.R_mono (Kd.R_far (p := ⟨gb229, 1, none⟩) (Kd.R_far (p := ⟨gb229, 0, none⟩) (Kd.R_types HO227.out BK229.out (by decide)) (fun _ hk => hk.2) (.int .i64 t224)) (fun _ hk => hk.2) (.slice Ao36 t225.length co36)) (fun _ h_ => h_.1))) hb); replace BK207 := zM (blk_below (g := gb207) (o := .cells #[.int .i64 a0_0, .slice A0_1 l0_1.length c0_1] 24 (0, 0)) (by (with_reducible repeat (first | refine blk_drewN ?_ _ | refine blk_drew ?_ | refine blk_alloc ?_ _)); refine blk_far ?_ NB207_229.out _; (with_reducible repeat (first | refine blk_drewN ?_ _ | refine blk_drew ?_ | refine blk_alloc ?_ _)); refine blk_far ?_ NB207_229.out _; (with_reducible repeat (first | refine blk_drewN ?_ _ | refine blk_drew ?_ | refine blk_alloc ?_ _)); exact BK207.out) hb); replace BK218 := zM (blk_below (g := gb218) (o := .cells #[.int .i64 t213, .slice Ao22 t214.length co22] 27 (0, 0)) (by (with_reducible repeat (first | refine blk_drewN ?_ _ | refine blk_drew ?_ | refine blk_alloc ?_ _)); refine blk_far ?_ NB218_229.out _; (with_reducible repeat (first | refine blk_drewN ?_ _ | refine blk_drew ?_ | refine blk_alloc ?_ _)); refine blk_far ?_ NB218_229.out _; (with_reducible repeat (first | refine blk_drewN ?_ _ | refine blk_drew ?_ | refine blk_alloc ?_ _)); exact BK218.out) hb); replace BK223 := zM (blk_below (g := gb223) (o := .cells #[.int .i64 t219, .slice Ao29 t220.length co29] 27 (0, 0)) (by (with_reducible repeat (first | refine blk_drewN ?_ _ | refine blk_drew ?_ | refine blk_alloc ?_ _)); refine blk_far ?_ NB223_229.out _; (with_reducible repeat (first | refine blk_drewN ?_ _ | refine blk_drew ?_ | refine blk_alloc ?_ _)); refine blk_far ?_ NB223_229.out _; (with_reducible repeat (first | refine blk_drewN ?_ _ | refine blk_drew ?_ | refine blk_alloc ?_ _)); exact BK223.out) hb); replace BK229 := zM (blk_below (g := gb229) (o := .cells #[.int .i64 t224, .slice Ao36 t225.length co36] 27 (0, 0)) (by (with_reducible repeat (first | refine blk_drewN ?_ _ | refine blk_drew ?_ | refine blk_alloc ?_ _)); refine blk_put (cs := #[.int .i64 t224, .slice none 0 0]) ?_ 1 _ rfl; (with_reducible repeat (first | refine blk_drewN ?_ _ | refine blk_drew ?_ | refine blk_alloc ?_ _)); refine blk_put (cs := #[.int .i64 0, .slice none 0 0]) ?_ 0 _ rfl; (with_reducible repeat (first | refine blk_drewN ?_ _ | refine blk_drew ?_ | refine blk_alloc ?_ _)); exact BK229.out) hb); replace HB := zM (below_step zB hb); (try clear hb); (try clear hb2); (try clear hk); (try clear hi)))
      go_meet
      case rel => exact ⟨_, (true), (by first | rfl | (simp; done) | (simp [*]; done)), H', ⟨by first | omega | exact Nat.le_refl _⟩, ⟨by (with_reducible repeat (first | apply Kd.R_alloc | apply Kd.R_drewN | apply Kd.R_drew)); exact Kd.R_mono HO216.out (fun _ hk => ⟨hk.1.2, hk.2⟩)⟩, ⟨by (with_reducible repeat (first | apply Kd.R_alloc | apply Kd.R_drewN | apply Kd.R_drew)); exact Kd.R_mono HO222.out (fun _ hk => ⟨hk.1.2, hk.2⟩)⟩, ⟨by (with_reducible repeat (first | apply Kd.R_alloc | apply Kd.R_drewN | apply Kd.R_drew)); exact Kd.R_mono HO227.out (fun _ hk => ⟨hk.1.2, hk.2⟩)⟩, ⟨zK BK207.out⟩, ⟨zK BK218.out⟩, ⟨zK BK223.out⟩, ⟨zK BK229.out⟩, ⟨zB⟩⟩
   case rest =>
    clear HC11
    try clear c1
    try clear c2
    try clear p2
    try clear c3
    try clear c3b0
    try clear c4
    try clear c5
    try clear c15
    try clear c17
    try clear c19
    try clear c20
    try clear c21
    try clear c26
    try clear c27
    try clear c32
    try clear c33
    try clear c34
    try clear c38
    try clear c39
    try clear c40
    try clear c41
    try clear c43
    try clear c44
    try clear c47
    try clear c48
    try clear c49
    try clear c51
    try clear c52
    try clear hcz13_0
    try clear hcz13_1
    try clear hcz15_0
    try clear hcz15_1
    try clear hcz21_0
    try clear hcz21_1
    try clear hcz23_0
    try clear hcz23_1
    try clear hcz28_0
    try clear hcz28_1
    try clear hcz35_0
    try clear hcz35_1
    try clear hcz42_0
    try clear hcz42_1
    try clear hcz45_0
    try clear hcz45_1
    try clear hcz50_0
    try clear hcz50_1
    try clear hcz53_0
    try clear hcz53_1
    try clear hcz5_0
    try clear hcz5_1
    try clear hfz13_0
    try clear hfz13_1
    try clear hfz15_0
    try clear hfz15_1
    try clear hfz21_0
    try clear hfz21_1
    try clear hfz23_0
    try clear hfz23_1
    try clear hfz28_0
    try clear hfz28_1
    try clear hfz35_0
    try clear hfz35_1
    try clear hfz42_0
    try clear hfz42_1
    try clear hfz45_0
    try clear hfz45_1
    try clear hfz50_0
    try clear hfz50_1
    try clear hfz53_0
    try clear hfz53_1
    try clear hfz5_0
    try clear hfz5_1
    obtain ⟨kq, x40_10, rfl, HA, HJ10, HO_219001, HO_224001, HO_230001, BK207, BK218, BK223, BK229, HB⟩ := hcut
    cases kq with
    | zero => exact absurd HA.out (by simp [laws_FnExactCliqueGraph.j0])
    | succ kj10 =>
     have H := HA.out
     clear HA
     simp only [laws_FnExactCliqueGraph.j0] at H
     by_cases c55 : x40_10 = true
     · subst c55
       rw [if_pos rfl] at H
       obtain rfl := Option.some.inj H
       go_wp2
       go_ret
       exact ⟨by first | rfl | (simp [errW_none, errW_some] <;> rfl) | (simp [*, errW_none, errW_some] <;> rfl), zB⟩
     · replace c55 := Bool.eq_false_iff.mpr c55
       subst c55
       have H1 : ((laws_toGraph.f kj10 a0_0 l0_1).bind fun bt231 => ((laws_eqGraph.f kj10 t219 t220 bt231.1 bt231.2).bind fun t235 => (if t235 = true then ((laws_markGraph.f t219 t220 1).bind fun bt236 => (if bt236.1 < 0 then (laws_FnExactCliqueGraph.j1 kj10 t217 true a0_0 l0_1 t213 t214 t224 t225) else ((laws_eqGraph.f kj10 t224 t225 t213 t214).bind fun t238 => (if t238 = true then (laws_FnExactCliqueGraph.j1 kj10 t217 (t228 != t217) a0_0 l0_1 t213 t214 t224 t225) else (laws_FnExactCliqueGraph.j1 kj10 t217 true a0_0 l0_1 t213 t214 t224 t225))))) else (some false)))) = some r := by rw [if_neg (show ¬ (false = true) by decide)] at H; exact H
       clear H
       have H := H1
       clear H1
       replace H := Option.bind_eq_some_iff.mp H
       obtain ⟨⟨t231, t232⟩, A560, H⟩ := H
       replace H : ((laws_eqGraph.f kj10 t219 t220 t231 t232).bind fun t235 => (if t235 = true then ((laws_markGraph.f t219 t220 1).bind fun bt236 => (if bt236.1 < 0 then (laws_FnExactCliqueGraph.j1 kj10 t217 true a0_0 l0_1 t213 t214 t224 t225) else ((laws_eqGraph.f kj10 t224 t225 t213 t214).bind fun t238 => (if t238 = true then (laws_FnExactCliqueGraph.j1 kj10 t217 (t228 != t217) a0_0 l0_1 t213 t214 t224 t225) else (laws_FnExactCliqueGraph.j1 kj10 t217 true a0_0 l0_1 t213 t214 t224 t225))))) else (some false))) = some r := H
       have A56 := Aside0.mk A560
       clear A560
       replace H := Option.bind_eq_some_iff.mp H
       obtain ⟨t235, A570, H⟩ := H
       have A57 := Aside0.mk A570
       clear A570
       by_cases c58 : t235 = true
       · subst c58
         rw [if_pos rfl] at H
         replace H := Option.bind_eq_some_iff.mp H
         obtain ⟨⟨t236, t237⟩, A590, H⟩ := H
         replace H : (if t236 < 0 then (laws_FnExactCliqueGraph.j1 kj10 t217 true a0_0 l0_1 t213 t214 t224 t225) else ((laws_eqGraph.f kj10 t224 t225 t213 t214).bind fun t238 => (if t238 = true then (laws_FnExactCliqueGraph.j1 kj10 t217 (t228 != t217) a0_0 l0_1 t213 t214 t224 t225) else (laws_FnExactCliqueGraph.j1 kj10 t217 true a0_0 l0_1 t213 t214 t224 t225)))) = some r := H
         have A59 := Aside0.mk A590
         clear A590
         have HC60 := Aside0.mk H
         clear H
         try go_wp2
         replace HO_219001 := zM (Kd.R_drew HO_219001.out)
         replace HO_224001 := zM (Kd.R_drew HO_224001.out)
         replace HO_230001 := zM (Kd.R_drew HO_230001.out)
         replace BK207 := zM (blk_drew BK207.out)
         replace BK218 := zM (blk_drew BK218.out)
         replace BK223 := zM (blk_drew BK223.out)
         replace BK229 := zM (blk_drew BK229.out)
         replace HB := zM (below_drew1 HB.out)
         refine zs (n := 5) (fun w' => w'.cell? ⟨gb223, 0, none⟩ = some (.int .i64 t219) ∧ w'.cell? ⟨gb223, 1, none⟩ = some (.slice Ao29 t220.length co29) ∧ w'.cell? ⟨gb207, 0, none⟩ = some (.int .i64 a0_0) ∧ w'.cell? ⟨gb207, 1, none⟩ = some (.slice A0_1 l0_1.length c0_1)) ⟨(blk_cell BK223.out 0).trans rfl, (blk_cell BK223.out 1).trans rfl, (blk_cell BK207.out 0).trans rfl, (blk_cell BK207.out 1).trans rfl⟩ (fun hHeld => ?_)
         generalize wc.drew = w61 at HO_219001 HO_224001 HO_230001 BK207 BK218 BK223 BK229 HB hHeld ⊢
         refine zl 0 41 hHeld ?_ (hy := by rintro w' ⟨s0, s1, s2, s3⟩; go_simp; with_reducible rfl)
         refine zl 1 42 hHeld ?_ (hy := by rintro w' ⟨s0, s1, s2, s3⟩; go_simp; with_reducible rfl)
         refine zh 2 43 Try.func17 #[.agg #[.int .i64 a0_0, .slice A0_1 l0_1.length c0_1]] (fun K hK => ?_)
         with_reducible refine (laws_toGraph.calls kj10 a0_0 _ _ l0_1 t231 t232 _ ?side1 ?side2 A56.out).mono ?_
         (case side1 => exact zC (Kd.C_below HR0_1.out HB.out))
         (case side2 => exact HC0_1.out)
         rintro e w62 ⟨v233, rfl, ho0, hb⟩
         refine ⟨_, rfl, ?_⟩
         have HO234 := zM (Kd.R_lower (Kd.R_new' (Kd.R_new' (Kd.R_new' ho0 (Kd.R_lt (zR HO_219001.out))) (Kd.R_lt (zR HO_224001.out))) (Kd.R_lt (zR HO_230001.out))) (below_size zB))
         replace HO_219001 := zM (Kd.R_elder' (zR HO_219001.out) (Kd.R_base ho0) hb)
         replace HO_224001 := zM (Kd.R_elder' (zR HO_224001.out) (Kd.R_base ho0) hb)
         replace HO_230001 := zM (Kd.R_elder' (zR HO_230001.out) (Kd.R_base ho0) hb)
         replace BK207 := zM (blk_below (g := gb207) (o := .cells #[.int .i64 a0_0, .slice A0_1 l0_1.length c0_1] 24 (0, 0)) (zK BK207.out) hb)
         replace BK218 := zM (blk_below (g := gb218) (o := .cells #[.int .i64 t213, .slice Ao22 t214.length co22] 27 (0, 0)) (zK BK218.out) hb)
         replace BK223 := zM (blk_below (g := gb223) (o := .cells #[.int .i64 t219, .slice Ao29 t220.length co29] 27 (0, 0)) (zK BK223.out) hb)
         replace BK229 := zM (blk_below (g := gb229) (o := .cells #[.int .i64 t224, .slice Ao36 t225.length co36] 27 (0, 0)) (zK BK229.out) hb)
         replace HB := zM (below_step zB hb)
         (try clear hb)
         (try clear hb2)
         (try clear hk)
         (try clear hi)
         (try clear ho0)
         obtain ⟨Ao63, co63, eo63⟩ := Kd.R_slice HO234.out
         (first | subst eo63 | (injection eo63 with f1_ f2_ f3_; have f4_ := f1_.symm; have f5_ := f3_.symm; clear f1_ f2_ f3_; subst f4_; subst f5_))
         refine hK.out _ _ ⟨(blk_cell BK223.out 0).trans rfl, (blk_cell BK223.out 1).trans rfl, (blk_cell BK207.out 0).trans rfl, (blk_cell BK207.out 1).trans rfl⟩ (fun hHeld => ?_)
         clear hK K
         refine zn 43 ?_
         refine zh 3 44 Try.func19 #[.agg #[.int .i64 t219, .slice Ao29 t220.length co29], .agg #[.int .i64 t231, .slice Ao63 t232.length co63]] (fun K hK => ?_)
         with_reducible refine (laws_eqGraph.calls kj10 t219 _ _ t220 t231 _ _ t232 true _ ?side1 ?side2 ?side3 ?side4 A57.out).mono ?_
         (case side1 => exact zC (Kd.R_reads' HO_224001.out).2.2)
         (case side2 => exact (Kd.R_reads' HO_224001.out).2.1)
         (case side3 => exact zC (Kd.R_reads' HO234.out).2.2)
         (case side4 => exact (Kd.R_reads' HO234.out).2.1)
         rintro e w64 ⟨rfl, hb⟩
         refine ⟨_, rfl, ?_⟩
         replace HO_219001 := zM (Kd.R_below (zR HO_219001.out) hb)
         replace HO_224001 := zM (Kd.R_below (zR HO_224001.out) hb)
         replace HO_230001 := zM (Kd.R_below (zR HO_230001.out) hb)
         replace HO234 := zM (Kd.R_below (zR HO234.out) hb)
         replace BK207 := zM (blk_below (g := gb207) (o := .cells #[.int .i64 a0_0, .slice A0_1 l0_1.length c0_1] 24 (0, 0)) (zK BK207.out) hb)
         replace BK218 := zM (blk_below (g := gb218) (o := .cells #[.int .i64 t213, .slice Ao22 t214.length co22] 27 (0, 0)) (zK BK218.out) hb)
         replace BK223 := zM (blk_below (g := gb223) (o := .cells #[.int .i64 t219, .slice Ao29 t220.length co29] 27 (0, 0)) (zK BK223.out) hb)
         replace BK229 := zM (blk_below (g := gb229) (o := .cells #[.int .i64 t224, .slice Ao36 t225.length co36] 27 (0, 0)) (zK BK229.out) hb)
         replace HB := zM (below_step zB hb)
         (try clear hb)
         (try clear hb2)
         (try clear hk)
         (try clear hi)
         refine hK.out _ _ ⟨(blk_cell BK223.out 0).trans rfl, (blk_cell BK223.out 1).trans rfl, (blk_cell BK207.out 0).trans rfl, (blk_cell BK207.out 1).trans rfl⟩ (fun hHeld => ?_)
         clear hK K
         refine zn 44 ?_
         refine zq 4 45 ?_
         refine zx ?_
         have hnb65 := NB223_207.out
         have hnc65 := NB207_223.out
         have hnb66 := NB223_218.out
         have hnc66 := NB218_223.out
         have hnb67 := NB223_229.out
         have hnc67 := NB229_223.out
         have hcz68_0 := zy BK223 0
         have hcz68_1 := zy BK223 1
         have hfz68_0 := blk_frozen BK223.out 0
         have hfz68_1 := blk_frozen BK223.out 1
         go_upto_region 14 with (first | ((with_reducible refine gate_callee (f := 22) rfl ?_); refine zc 48 Try.func22 #[.agg #[.int .i64 t219, .slice Ao29 t220.length co29], .int .i64 1] ?_; (with_reducible refine (laws_markGraph.calls t219 (fun k_ => some k_ = (.slice Ao29 t220.length co29 : Value).ownBlock) (.slice Ao29 t220.length co29) t220 1 t236 t237 w _ ?side1 ?side2 A59.out).mono ?_); (case side1 => repeat (first | (with_reducible first | exact HB.out | apply below_alloc | apply pw_below_drewN | apply below_drew1 | refine below_set ?_ GE207.out | refine below_set ?_ GE218.out | refine below_set ?_ GE223.out | refine below_set ?_ GE229.out) | exact HB.out)); (case side2 => exact Kd.R_tight rfl HO_224001.out); rintro e w69 ⟨rfl, hy0, hb, hkp⟩; refine ⟨_, rfl, ?_⟩; replace HO_219001 := zM (Kd.R_mono (ok' := fun k_ => some k_ ≠ (.slice Ao29 t220.length co29 : Value).ownBlock ∧ some k_ ≠ (.slice Ao36 t225.length co36 : Value).ownBlock ∧ some k_ ≠ (.slice Ao63 t232.length co63 : Value).ownBlock) (Kd.R_keptB (HO_219001.out) hkp (fun k_ hk_ hs_ => (hk_.1.1) hs_)) (fun k_ hk_ => ⟨hk_.1.1.1, hk_.1.1.2, hk_.1.2⟩)); replace HO_230001 := zM (Kd.R_mono (ok' := fun k_ => some k_ ≠ (.slice Ao22 t214.length co22 : Value).ownBlock ∧ some k_ ≠ (.slice Ao29 t220.length co29 : Value).ownBlock ∧ some k_ ≠ (.slice Ao63 t232.length co63 : Value).ownBlock) (Kd.R_keptB (HO_230001.out) hkp (fun k_ hk_ hs_ => (hk_.1.2) hs_)) (fun k_ hk_ => ⟨hk_.1.1.1, hk_.1.1.2, hk_.1.2⟩)); replace BK207 := zM (blk_kept (zK BK207.out) hkp (fun hs_ => (fun e_ => (Kd.R_ne HO_224001.out BK207.out (by decide)) e_) hs_)); replace BK218 := zM (blk_kept (zK BK218.out) hkp (fun hs_ => (fun e_ => (Kd.R_ne HO_224001.out BK218.out (by decide)) e_) hs_)); replace BK223 := zM (blk_kept (zK BK223.out) hkp (fun hs_ => (fun e_ => (Kd.R_ne HO_224001.out BK223.out (by decide)) e_) hs_)); replace BK229 := zM (blk_kept (zK BK229.out) hkp (fun hs_ => (fun e_ => (Kd.R_ne HO_224001.out BK229.out (by decide)) e_) hs_)); replace HO_224001 := zM (Kd.R_reok rfl hy0 (fun k_ e_ => HO_224001.out.1 k_ e_)); replace HO234 := zM (Kd.R_mono (ok' := fun k_ => some k_ ≠ (.slice Ao22 t214.length co22 : Value).ownBlock ∧ some k_ ≠ (.slice Ao29 t220.length co29 : Value).ownBlock ∧ some k_ ≠ (.slice Ao36 t225.length co36 : Value).ownBlock) (Kd.R_keptB (HO234.out) hkp (fun k_ hk_ hs_ => (hk_.1.2) hs_)) (fun k_ hk_ => ⟨hk_.1.1.1.2, hk_.1.1.2, hk_.1.2⟩)); replace HB := zM (hb); (try clear hb); (try clear hkp); (try clear hy0)))
         (try simp only [Act.put, List.setIfInBounds_toArray, List.set_cons_zero, List.set_cons_succ])
         go_cut [61] (fun v61 wc => ∃ (kq : Nat) (x61_59 : Bool), v61 = .bool x61_59 ∧ Aside0 (laws_FnExactCliqueGraph.j1 kq t217 x61_59 a0_0 l0_1 t213 t214 t224 t225 = some r) ∧ Aside0 (kq ≤ kj10) ∧ Aside0 (Kd.R k68 68 wc w.heap.size (fun k_ => some k_ ≠ ((.slice Ao29 t220.length co29) : Value).ownBlock ∧ some k_ ≠ ((.slice Ao36 t225.length co36) : Value).ownBlock) (.slice Ao22 t214.length co22) t214) ∧ Aside0 (Kd.R k68 68 wc w.heap.size (fun k_ => some k_ ≠ ((.slice Ao22 t214.length co22) : Value).ownBlock ∧ some k_ ≠ ((.slice Ao36 t225.length co36) : Value).ownBlock) (.slice Ao29 t220.length co29) t237) ∧ Aside0 (Kd.R k68 68 wc w.heap.size (fun k_ => some k_ ≠ ((.slice Ao22 t214.length co22) : Value).ownBlock ∧ some k_ ≠ ((.slice Ao29 t220.length co29) : Value).ownBlock) (.slice Ao36 t225.length co36) t225) ∧ Aside0 (wc.heap[gb207]? = some (.cells #[.int .i64 a0_0, (.slice A0_1 l0_1.length c0_1)] 24 (0, 0))) ∧ Aside0 (wc.heap[gb218]? = some (.cells #[.int .i64 t213, (.slice Ao22 t214.length co22)] 27 (0, 0))) ∧ Aside0 (wc.heap[gb223]? = some (.cells #[.int .i64 t219, (.slice Ao29 t220.length co29)] 27 (0, 0))) ∧ Aside0 (wc.heap[gb229]? = some (.cells #[.int .i64 t224, (.slice Ao36 t225.length co36)] 27 (0, 0))) ∧ Aside0 (Below w.heap.size w wc))
         case first =>
          have H := HC60.out
          clear HC60
          by_cases c70 : t236 < 0
          · rw [if_pos c70] at H
            have c70b0 := decide_eq_true c70
            clear c70
            (first | rw [c70b0] | (simp only [i64_w, i32_w]; rw [c70b0]) | skip)
            have H' := Aside0.mk H
            clear H
            go_wp2
            go_meet
            case rel => exact ⟨_, (true), (by first | rfl | (simp; done) | (simp [*]; done)), H', ⟨by have := HJ10.out; first | omega | exact Nat.le_refl _⟩, ⟨by (with_reducible repeat (first | apply Kd.R_alloc | apply Kd.R_drewN | apply Kd.R_drew)); exact Kd.R_mono HO_219001.out (fun _ hk => ⟨hk.1, hk.2.1⟩)⟩, ⟨by (with_reducible repeat (first | apply Kd.R_alloc | apply Kd.R_drewN | apply Kd.R_drew)); exact Kd.R_mono HO_224001.out (fun _ hk => ⟨hk.1.1, hk.1.2⟩)⟩, ⟨by (with_reducible repeat (first | apply Kd.R_alloc | apply Kd.R_drewN | apply Kd.R_drew)); exact Kd.R_mono HO_230001.out (fun _ hk => ⟨hk.1, hk.2.1⟩)⟩, ⟨zK BK207.out⟩, ⟨zK BK218.out⟩, ⟨zK BK223.out⟩, ⟨zK BK229.out⟩, ⟨zB⟩⟩
          · rw [if_neg c70] at H
            have c70b0 : decide (t236 < 0) = false := decide_eq_false c70
            clear c70
            (first | rw [c70b0] | (simp only [i64_w, i32_w]; rw [c70b0]) | skip)
            replace H := Option.bind_eq_some_iff.mp H
            obtain ⟨t238, A710, H⟩ := H
            have A71 := Aside0.mk A710
            clear A710
            by_cases c72 : t238 = true
            · subst c72
              rw [if_pos rfl] at H
              have H' := Aside0.mk H
              clear H
              have hnb73 := NB229_207.out
              have hnc73 := NB207_229.out
              have hnb74 := NB229_218.out
              have hnc74 := NB218_229.out
              have hnb75 := NB229_223.out
              have hnc75 := NB223_229.out
              have hcz76_0 := zy BK229 0
              have hcz76_1 := zy BK229 1
              have hfz76_0 := blk_frozen BK229.out 0
              have hfz76_1 := blk_frozen BK229.out 1
              have hnb77 := NB218_207.out
              have hnc77 := NB207_218.out
              have hnb78 := NB218_223.out
              have hnc78 := NB223_218.out
              have hcz79_0 := zy BK218 0
              have hcz79_1 := zy BK218 1
              have hfz79_0 := blk_frozen BK218.out 0
              have hfz79_1 := blk_frozen BK218.out 1
              go_wp2_with (first | (go_at_call 19; (with_reducible refine (laws_eqGraph.calls kj10 t224 _ _ t225 t213 _ _ t214 true _ ?side1 ?side2 ?side3 ?side4 A71.out).mono ?_); (case side1 => exact zC (Kd.R_reads' HO_230001.out).2.2); (case side2 => exact (Kd.R_reads' HO_230001.out).2.1); (case side3 => exact zC (Kd.R_reads' HO_219001.out).2.2); (case side4 => exact (Kd.R_reads' HO_219001.out).2.1); rintro e w80 ⟨rfl, hb⟩; replace HO_219001 := zM (Kd.R_below (zR HO_219001.out) hb); replace HO_224001 := zM (Kd.R_below (zR HO_224001.out) hb); replace HO_230001 := zM (Kd.R_below (zR HO_230001.out) hb); replace HO234 := zM (Kd.R_below (zR HO234.out) hb); replace BK207 := zM (blk_below (g := gb207) (o := .cells #[.int .i64 a0_0, .slice A0_1 l0_1.length c0_1] 24 (0, 0)) (zK BK207.out) hb); replace BK218 := zM (blk_below (g := gb218) (o := .cells #[.int .i64 t213, .slice Ao22 t214.length co22] 27 (0, 0)) (zK BK218.out) hb); replace BK223 := zM (blk_below (g := gb223) (o := .cells #[.int .i64 t219, .slice Ao29 t220.length co29] 27 (0, 0)) (zK BK223.out) hb); replace BK229 := zM (blk_below (g := gb229) (o := .cells #[.int .i64 t224, .slice Ao36 t225.length co36] 27 (0, 0)) (zK BK229.out) hb); replace HB := zM (below_step zB hb); (try clear hb); (try clear hb2); (try clear hk); (try clear hi)))
              go_meet
              case rel => exact ⟨_, ((t228 != t217)), (by first | rfl | (simp; done) | (simp [*]; done)), H', ⟨by have := HJ10.out; first | omega | exact Nat.le_refl _⟩, ⟨by (with_reducible repeat (first | apply Kd.R_alloc | apply Kd.R_drewN | apply Kd.R_drew)); exact Kd.R_mono HO_219001.out (fun _ hk => ⟨hk.1, hk.2.1⟩)⟩, ⟨by (with_reducible repeat (first | apply Kd.R_alloc | apply Kd.R_drewN | apply Kd.R_drew)); exact Kd.R_mono HO_224001.out (fun _ hk => ⟨hk.1.1, hk.1.2⟩)⟩, ⟨by (with_reducible repeat (first | apply Kd.R_alloc | apply Kd.R_drewN | apply Kd.R_drew)); exact Kd.R_mono HO_230001.out (fun _ hk => ⟨hk.1, hk.2.1⟩)⟩, ⟨zK BK207.out⟩, ⟨zK BK218.out⟩, ⟨zK BK223.out⟩, ⟨zK BK229.out⟩, ⟨zB⟩⟩
            · replace c72 := Bool.eq_false_iff.mpr c72
              subst c72
              have H1 : (laws_FnExactCliqueGraph.j1 kj10 t217 true a0_0 l0_1 t213 t214 t224 t225) = some r := by rw [if_neg (show ¬ (false = true) by decide)] at H; exact H
              clear H
              have H := H1
              clear H1
              have H' := Aside0.mk H
              clear H
              have hnb81 := NB229_207.out
              have hnc81 := NB207_229.out
              have hnb82 := NB229_218.out
              have hnc82 := NB218_229.out
              have hnb83 := NB229_223.out
              have hnc83 := NB223_229.out
              have hcz84_0 := zy BK229 0
              have hcz84_1 := zy BK229 1
              have hfz84_0 := blk_frozen BK229.out 0
              have hfz84_1 := blk_frozen BK229.out 1
              have hnb85 := NB218_207.out
              have hnc85 := NB207_218.out
              have hnb86 := NB218_223.out
              have hnc86 := NB223_218.out
              have hcz87_0 := zy BK218 0
              have hcz87_1 := zy BK218 1
              have hfz87_0 := blk_frozen BK218.out 0
              have hfz87_1 := blk_frozen BK218.out 1
              go_wp2_with (first | (go_at_call 19; (with_reducible refine (laws_eqGraph.calls kj10 t224 _ _ t225 t213 _ _ t214 false _ ?side1 ?side2 ?side3 ?side4 A71.out).mono ?_); (case side1 => exact zC (Kd.R_reads' HO_230001.out).2.2); (case side2 => exact (Kd.R_reads' HO_230001.out).2.1); (case side3 => exact zC (Kd.R_reads' HO_219001.out).2.2); (case side4 => exact (Kd.R_reads' HO_219001.out).2.1); rintro e w88 ⟨rfl, hb⟩; replace HO_219001 := zM (Kd.R_below (zR HO_219001.out) hb); replace HO_224001 := zM (Kd.R_below (zR HO_224001.out) hb); replace HO_230001 := zM (Kd.R_below (zR HO_230001.out) hb); replace HO234 := zM (Kd.R_below (zR HO234.out) hb); replace BK207 := zM (blk_below (g := gb207) (o := .cells #[.int .i64 a0_0, .slice A0_1 l0_1.length c0_1] 24 (0, 0)) (zK BK207.out) hb); replace BK218 := zM (blk_below (g := gb218) (o := .cells #[.int .i64 t213, .slice Ao22 t214.length co22] 27 (0, 0)) (zK BK218.out) hb); replace BK223 := zM (blk_below (g := gb223) (o := .cells #[.int .i64 t219, .slice Ao29 t220.length co29] 27 (0, 0)) (zK BK223.out) hb); replace BK229 := zM (blk_below (g := gb229) (o := .cells #[.int .i64 t224, .slice Ao36 t225.length co36] 27 (0, 0)) (zK BK229.out) hb); replace HB := zM (below_step zB hb); (try clear hb); (try clear hb2); (try clear hk); (try clear hi)))
              go_meet
              case rel => exact ⟨_, (true), (by first | rfl | (simp; done) | (simp [*]; done)), H', ⟨by have := HJ10.out; first | omega | exact Nat.le_refl _⟩, ⟨by (with_reducible repeat (first | apply Kd.R_alloc | apply Kd.R_drewN | apply Kd.R_drew)); exact Kd.R_mono HO_219001.out (fun _ hk => ⟨hk.1, hk.2.1⟩)⟩, ⟨by (with_reducible repeat (first | apply Kd.R_alloc | apply Kd.R_drewN | apply Kd.R_drew)); exact Kd.R_mono HO_224001.out (fun _ hk => ⟨hk.1.1, hk.1.2⟩)⟩, ⟨by (with_reducible repeat (first | apply Kd.R_alloc | apply Kd.R_drewN | apply Kd.R_drew)); exact Kd.R_mono HO_230001.out (fun _ hk => ⟨hk.1, hk.2.1⟩)⟩, ⟨zK BK207.out⟩, ⟨zK BK218.out⟩, ⟨zK BK223.out⟩, ⟨zK BK229.out⟩, ⟨zB⟩⟩
         case rest =>
          clear HC60
          try clear c1
          try clear c2
          try clear p2
          try clear c3
          try clear c3b0
          try clear c4
          try clear c5
          try clear c6
          try clear c7
          try clear c8
          try clear c15
          try clear c17
          try clear c19
          try clear c20
          try clear c21
          try clear c22
          try clear c26
          try clear c27
          try clear c32
          try clear c33
          try clear c34
          try clear c38
          try clear c39
          try clear c40
          try clear c41
          try clear c43
          try clear c44
          try clear c47
          try clear c48
          try clear c49
          try clear c51
          try clear c52
          try clear c55
          try clear c58
          try clear c65
          try clear c66
          try clear c67
          try clear c70
          try clear c70b0
          try clear c72
          try clear c73
          try clear c74
          try clear c75
          try clear c77
          try clear c78
          try clear c81
          try clear c82
          try clear c83
          try clear c85
          try clear c86
          try clear hcz13_0
          try clear hcz13_1
          try clear hcz15_0
          try clear hcz15_1
          try clear hcz21_0
          try clear hcz21_1
          try clear hcz23_0
          try clear hcz23_1
          try clear hcz28_0
          try clear hcz28_1
          try clear hcz35_0
          try clear hcz35_1
          try clear hcz42_0
          try clear hcz42_1
          try clear hcz45_0
          try clear hcz45_1
          try clear hcz50_0
          try clear hcz50_1
          try clear hcz53_0
          try clear hcz53_1
          try clear hcz5_0
          try clear hcz5_1
          try clear hcz68_0
          try clear hcz68_1
          try clear hcz76_0
          try clear hcz76_1
          try clear hcz79_0
          try clear hcz79_1
          try clear hcz84_0
          try clear hcz84_1
          try clear hcz87_0
          try clear hcz87_1
          try clear hfz13_0
          try clear hfz13_1
          try clear hfz15_0
          try clear hfz15_1
          try clear hfz21_0
          try clear hfz21_1
          try clear hfz23_0
          try clear hfz23_1
          try clear hfz28_0
          try clear hfz28_1
          try clear hfz35_0
          try clear hfz35_1
          try clear hfz42_0
          try clear hfz42_1
          try clear hfz45_0
          try clear hfz45_1
          try clear hfz50_0
          try clear hfz50_1
          try clear hfz53_0
          try clear hfz53_1
          try clear hfz5_0
          try clear hfz5_1
          try clear hfz68_0
          try clear hfz68_1
          try clear hfz76_0
          try clear hfz76_1
          try clear hfz79_0
          try clear hfz79_1
          try clear hfz84_0
          try clear hfz84_1
          try clear hfz87_0
          try clear hfz87_1
          try clear p2
          obtain ⟨kq, x61_59, rfl, HA, HJ59, HO_219001, HO_224001, HO_230001, BK207, BK218, BK223, BK229, HB⟩ := hcut
          have hl224001_59 := (Kd.R_reads' HO_224001.out).1
          rw [hl224001_59] at HO_224001
          (try simp only [hl224001_59])
          (try simp only [hl224001_59] at BK207)
          (try simp only [hl224001_59] at BK218)
          (try simp only [hl224001_59] at BK223)
          (try simp only [hl224001_59] at BK229)
          (try simp only [hl224001_59] at HO_219001)
          (try simp only [hl224001_59] at HO_230001)
          cases kq with
          | zero => exact absurd HA.out (by simp [laws_FnExactCliqueGraph.j1])
          | succ kj59 =>
           have H := HA.out
           clear HA
           simp only [laws_FnExactCliqueGraph.j1] at H
           by_cases c89 : x61_59 = true
           · subst c89
             rw [if_pos rfl] at H
             obtain rfl := Option.some.inj H
             go_wp2
             go_ret
             exact ⟨by first | rfl | (simp [errW_none, errW_some] <;> rfl) | (simp [*, errW_none, errW_some] <;> rfl), zB⟩
           · replace c89 := Bool.eq_false_iff.mpr c89
             subst c89
             have H1 : ((laws_markGraph.f t224 t225 1).bind fun bt239 => ((laws_heldGraph.f t224 bt239.2 1).bind fun t241 => (if t241 < 0 then (some false) else (if t241 = bt239.1 then ((laws_toGraph.f kj59 a0_0 l0_1).bind fun bt242 => ((impl_CliqueGraph.f kj59 bt242.1 bt242.2).bind fun bt246 => ((laws_eqGraph.f kj59 bt246.1 bt246.2.1 t213 t214).bind fun t252 => (if t252 = true then (laws_FnExactCliqueGraph.j2 kj59 bt239.1 (bt246.2.2 != t217) t224 bt239.2) else (laws_FnExactCliqueGraph.j2 kj59 bt239.1 true t224 bt239.2))))) else (some false))))) = some r := by rw [if_neg (show ¬ (false = true) by decide)] at H; exact H
             clear H
             have H := H1
             clear H1
             replace H := Option.bind_eq_some_iff.mp H
             obtain ⟨⟨t239, t240⟩, A900, H⟩ := H
             replace H : ((laws_heldGraph.f t224 t240 1).bind fun t241 => (if t241 < 0 then (some false) else (if t241 = t239 then ((laws_toGraph.f kj59 a0_0 l0_1).bind fun bt242 => ((impl_CliqueGraph.f kj59 bt242.1 bt242.2).bind fun bt246 => ((laws_eqGraph.f kj59 bt246.1 bt246.2.1 t213 t214).bind fun t252 => (if t252 = true then (laws_FnExactCliqueGraph.j2 kj59 t239 (bt246.2.2 != t217) t224 t240) else (laws_FnExactCliqueGraph.j2 kj59 t239 true t224 t240))))) else (some false)))) = some r := H
             have A90 := Aside0.mk A900
             clear A900
             replace H := Option.bind_eq_some_iff.mp H
             obtain ⟨t241, A910, H⟩ := H
             have A91 := Aside0.mk A910
             clear A910
             by_cases c92 : t241 < 0
             · rw [if_pos c92] at H
               have c92b0 := decide_eq_true c92
               clear c92
               obtain rfl := Option.some.inj H
               have hnb93 := NB229_207.out
               have hnc93 := NB207_229.out
               have hnb94 := NB229_218.out
               have hnc94 := NB218_229.out
               have hnb95 := NB229_223.out
               have hnc95 := NB223_229.out
               have hcz96_0 := zy BK229 0
               have hcz96_1 := zy BK229 1
               have hfz96_0 := blk_frozen BK229.out 0
               have hfz96_1 := blk_frozen BK229.out 1
               go_wp2_with (first | ((with_reducible refine gate_callee (f := 22) rfl ?_); refine zc 64 Try.func22 #[.agg #[.int .i64 t224, .slice Ao36 t225.length co36], .int .i64 1] ?_; (with_reducible refine (laws_markGraph.calls t224 (fun k_ => some k_ = (.slice Ao36 t225.length co36 : Value).ownBlock) (.slice Ao36 t225.length co36) t225 1 t239 t240 w _ ?side1 ?side2 A90.out).mono ?_); (case side1 => repeat (first | (with_reducible first | exact HB.out | apply below_alloc | apply pw_below_drewN | apply below_drew1 | refine below_set ?_ GE207.out | refine below_set ?_ GE218.out | refine below_set ?_ GE223.out | refine below_set ?_ GE229.out) | exact HB.out)); (case side2 => exact Kd.R_tight rfl HO_230001.out); rintro e w97 ⟨rfl, hy0, hb, hkp⟩; refine ⟨_, rfl, ?_⟩; replace HO_219001 := zM (Kd.R_mono (ok' := fun k_ => some k_ ≠ (.slice Ao29 t237.length co29 : Value).ownBlock ∧ some k_ ≠ (.slice Ao36 t225.length co36 : Value).ownBlock) (Kd.R_keptB (HO_219001.out) hkp (fun k_ hk_ hs_ => (hk_.2) hs_)) (fun k_ hk_ => ⟨hk_.1.1, hk_.1.2⟩)); replace HO_224001 := zM (Kd.R_mono (ok' := fun k_ => some k_ ≠ (.slice Ao22 t214.length co22 : Value).ownBlock ∧ some k_ ≠ (.slice Ao36 t225.length co36 : Value).ownBlock) (Kd.R_keptB (HO_224001.out) hkp (fun k_ hk_ hs_ => (hk_.2) hs_)) (fun k_ hk_ => ⟨hk_.1.1, hk_.1.2⟩)); replace BK207 := zM (blk_kept (zK BK207.out) hkp (fun hs_ => (fun e_ => (Kd.R_ne HO_230001.out BK207.out (by decide)) e_) hs_)); replace BK218 := zM (blk_kept (zK BK218.out) hkp (fun hs_ => (fun e_ => (Kd.R_ne HO_230001.out BK218.out (by decide)) e_) hs_)); replace BK223 := zM (blk_kept (zK BK223.out) hkp (fun hs_ => (fun e_ => (Kd.R_ne HO_230001.out BK223.out (by decide)) e_) hs_)); replace BK229 := zM (blk_kept (zK BK229.out) hkp (fun hs_ => (fun e_ => (Kd.R_ne HO_230001.out BK229.out (by decide)) e_) hs_)); replace HO_230001 := zM (Kd.R_reok rfl hy0 (fun k_ e_ => HO_230001.out.1 k_ e_)); replace HB := zM (hb); (try clear hb); (try clear hkp); (try clear hy0); have hcz98_0 := zy BK229 0; have hcz98_1 := zy BK229 1; have hfz98_0 := blk_frozen BK229.out 0; have hfz98_1 := blk_frozen BK229.out 1) | ((with_reducible refine gate_callee (f := 23) rfl ?_); refine goesL_ (some 67) rfl rfl Try.func23 (by kernel_rfl) rfl #[.agg #[.int .i64 t224, .slice Ao36 t240.length co36], .int .i64 1] rfl (by (try simp only [List.map_toArray, List.map_cons, List.map_nil]); first | done | (rw [show t240.length = t225.length from (Kd.R_reads' HO_230001.out).1.symm] <;> rfl) | rfl | (simp only [List.length_drop, List.length_take]; rfl)) ?_; (with_reducible refine (laws_heldGraph.calls t224 _ _ t240 1 t241 _ ?side1 ?side2 A91.out).mono ?_); (case side1 => exact zC (Kd.R_reads' HO_230001.out).2.2); (case side2 => rw [show t240.length = t225.length from (Kd.R_reads' HO_230001.out).1.symm]; exact (Kd.R_reads' HO_230001.out).2.1); rintro e w99 ⟨rfl, hb⟩; refine ⟨_, rfl, ?_⟩; replace HO_219001 := zM (Kd.R_below (zR HO_219001.out) hb); replace HO_224001 := zM (Kd.R_below (zR HO_224001.out) hb); replace HO_230001 := zM (Kd.R_below (zR HO_230001.out) hb); replace BK207 := zM (blk_below (g := gb207) (o := .cells #[.int .i64 a0_0, .slice A0_1 l0_1.length c0_1] 24 (0, 0)) (zK BK207.out) hb); replace BK218 := zM (blk_below (g := gb218) (o := .cells #[.int .i64 t213, .slice Ao22 t214.length co22] 27 (0, 0)) (zK BK218.out) hb); replace BK223 := zM (blk_below (g := gb223) (o := .cells #[.int .i64 t219, .slice Ao29 t237.length co29] 27 (0, 0)) (zK BK223.out) hb); replace BK229 := zM (blk_below (g := gb229) (o := .cells #[.int .i64 t224, .slice Ao36 t225.length co36] 27 (0, 0)) (zK BK229.out) hb); replace HB := zM (below_step zB hb); (try clear hb); (try clear hb2); (try clear hk); (try clear hi)))
               go_ret
               exact ⟨by first | rfl | (simp [errW_none, errW_some] <;> rfl) | (simp [*, errW_none, errW_some] <;> rfl), zB⟩
             · rw [if_neg c92] at H
               have c92b0 : decide (t241 < 0) = false := decide_eq_false c92
               clear c92
               by_cases c100 : t241 = t239
               · rw [if_pos c100] at H
                 have c100b0 : (t241 == t239) = true := beq_iff_eq.mpr c100
                 have c100b1 : (t241 != t239) = false := bne_eq_false_iff_eq.mpr c100
                 clear c100
                 replace H := Option.bind_eq_some_iff.mp H
                 obtain ⟨⟨t242, t243⟩, A1010, H⟩ := H
                 replace H : ((impl_CliqueGraph.f kj59 t242 t243).bind fun bt246 => ((laws_eqGraph.f kj59 bt246.1 bt246.2.1 t213 t214).bind fun t252 => (if t252 = true then (laws_FnExactCliqueGraph.j2 kj59 t239 (bt246.2.2 != t217) t224 t240) else (laws_FnExactCliqueGraph.j2 kj59 t239 true t224 t240)))) = some r := H
                 have A101 := Aside0.mk A1010
                 clear A1010
                 replace H := Option.bind_eq_some_iff.mp H
                 obtain ⟨⟨t246, t247, t250⟩, A1020, H⟩ := H
                 replace H : ((laws_eqGraph.f kj59 t246 t247 t213 t214).bind fun t252 => (if t252 = true then (laws_FnExactCliqueGraph.j2 kj59 t239 (t250 != t217) t224 t240) else (laws_FnExactCliqueGraph.j2 kj59 t239 true t224 t240))) = some r := H
                 have A102 := Aside0.mk A1020
                 clear A1020
                 have HC103 := Aside0.mk H
                 clear H
                 have hnb104 := NB229_207.out
                 have hnc104 := NB207_229.out
                 have hnb105 := NB229_218.out
                 have hnc105 := NB218_229.out
                 have hnb106 := NB229_223.out
                 have hnc106 := NB223_229.out
                 have hcz107_0 := zy BK229 0
                 have hcz107_1 := zy BK229 1
                 have hfz107_0 := blk_frozen BK229.out 0
                 have hfz107_1 := blk_frozen BK229.out 1
                 go_upto_region 25 with (first | ((with_reducible refine gate_callee (f := 22) rfl ?_); refine zc 64 Try.func22 #[.agg #[.int .i64 t224, .slice Ao36 t225.length co36], .int .i64 1] ?_; (with_reducible refine (laws_markGraph.calls t224 (fun k_ => some k_ = (.slice Ao36 t225.length co36 : Value).ownBlock) (.slice Ao36 t225.length co36) t225 1 t239 t240 w _ ?side1 ?side2 A90.out).mono ?_); (case side1 => repeat (first | (with_reducible first | exact HB.out | apply below_alloc | apply pw_below_drewN | apply below_drew1 | refine below_set ?_ GE207.out | refine below_set ?_ GE218.out | refine below_set ?_ GE223.out | refine below_set ?_ GE229.out) | exact HB.out)); (case side2 => exact Kd.R_tight rfl HO_230001.out); rintro e w108 ⟨rfl, hy0, hb, hkp⟩; refine ⟨_, rfl, ?_⟩; replace HO_219001 := zM (Kd.R_mono (ok' := fun k_ => some k_ ≠ (.slice Ao29 t237.length co29 : Value).ownBlock ∧ some k_ ≠ (.slice Ao36 t225.length co36 : Value).ownBlock) (Kd.R_keptB (HO_219001.out) hkp (fun k_ hk_ hs_ => (hk_.2) hs_)) (fun k_ hk_ => ⟨hk_.1.1, hk_.1.2⟩)); replace HO_224001 := zM (Kd.R_mono (ok' := fun k_ => some k_ ≠ (.slice Ao22 t214.length co22 : Value).ownBlock ∧ some k_ ≠ (.slice Ao36 t225.length co36 : Value).ownBlock) (Kd.R_keptB (HO_224001.out) hkp (fun k_ hk_ hs_ => (hk_.2) hs_)) (fun k_ hk_ => ⟨hk_.1.1, hk_.1.2⟩)); replace BK207 := zM (blk_kept (zK BK207.out) hkp (fun hs_ => (fun e_ => (Kd.R_ne HO_230001.out BK207.out (by decide)) e_) hs_)); replace BK218 := zM (blk_kept (zK BK218.out) hkp (fun hs_ => (fun e_ => (Kd.R_ne HO_230001.out BK218.out (by decide)) e_) hs_)); replace BK223 := zM (blk_kept (zK BK223.out) hkp (fun hs_ => (fun e_ => (Kd.R_ne HO_230001.out BK223.out (by decide)) e_) hs_)); replace BK229 := zM (blk_kept (zK BK229.out) hkp (fun hs_ => (fun e_ => (Kd.R_ne HO_230001.out BK229.out (by decide)) e_) hs_)); replace HO_230001 := zM (Kd.R_reok rfl hy0 (fun k_ e_ => HO_230001.out.1 k_ e_)); replace HB := zM (hb); (try clear hb); (try clear hkp); (try clear hy0); have hcz109_0 := zy BK229 0; have hcz109_1 := zy BK229 1; have hfz109_0 := blk_frozen BK229.out 0; have hfz109_1 := blk_frozen BK229.out 1) | ((with_reducible refine gate_callee (f := 23) rfl ?_); refine goesL_ (some 67) rfl rfl Try.func23 (by kernel_rfl) rfl #[.agg #[.int .i64 t224, .slice Ao36 t240.length co36], .int .i64 1] rfl (by (try simp only [List.map_toArray, List.map_cons, List.map_nil]); first | done | (rw [show t240.length = t225.length from (Kd.R_reads' HO_230001.out).1.symm] <;> rfl) | rfl | (simp only [List.length_drop, List.length_take]; rfl)) ?_; (with_reducible refine (laws_heldGraph.calls t224 _ _ t240 1 t241 _ ?side1 ?side2 A91.out).mono ?_); (case side1 => exact zC (Kd.R_reads' HO_230001.out).2.2); (case side2 => rw [show t240.length = t225.length from (Kd.R_reads' HO_230001.out).1.symm]; exact (Kd.R_reads' HO_230001.out).2.1); rintro e w110 ⟨rfl, hb⟩; refine ⟨_, rfl, ?_⟩; replace HO_219001 := zM (Kd.R_below (zR HO_219001.out) hb); replace HO_224001 := zM (Kd.R_below (zR HO_224001.out) hb); replace HO_230001 := zM (Kd.R_below (zR HO_230001.out) hb); replace BK207 := zM (blk_below (g := gb207) (o := .cells #[.int .i64 a0_0, .slice A0_1 l0_1.length c0_1] 24 (0, 0)) (zK BK207.out) hb); replace BK218 := zM (blk_below (g := gb218) (o := .cells #[.int .i64 t213, .slice Ao22 t214.length co22] 27 (0, 0)) (zK BK218.out) hb); replace BK223 := zM (blk_below (g := gb223) (o := .cells #[.int .i64 t219, .slice Ao29 t237.length co29] 27 (0, 0)) (zK BK223.out) hb); replace BK229 := zM (blk_below (g := gb229) (o := .cells #[.int .i64 t224, .slice Ao36 t225.length co36] 27 (0, 0)) (zK BK229.out) hb); replace HB := zM (below_step zB hb); (try clear hb); (try clear hb2); (try clear hk); (try clear hi); have hnb111 := NB207_218.out; have hnc111 := NB218_207.out; have hnb112 := NB207_223.out; have hnc112 := NB223_207.out; have hcz113_0 := zy BK207 0; have hcz113_1 := zy BK207 1; have hfz113_0 := blk_frozen BK207.out 0; have hfz113_1 := blk_frozen BK207.out 1) | ((with_reducible refine gate_callee (f := 17) rfl ?_); refine zc 75 Try.func17 #[.agg #[.int .i64 a0_0, .slice A0_1 l0_1.length c0_1]] ?_; (with_reducible refine (laws_toGraph.calls kj59 a0_0 _ _ l0_1 t242 t243 _ ?side1 ?side2 A101.out).mono ?_); (case side1 => exact zC (Kd.C_below HR0_1.out HB.out)); (case side2 => exact HC0_1.out); rintro e w114 ⟨v244, rfl, ho0, hb⟩; refine ⟨_, rfl, ?_⟩; have HO245 := zM (Kd.R_lower (Kd.R_new' (Kd.R_new' (Kd.R_new' ho0 (Kd.R_lt (zR HO_219001.out))) (Kd.R_lt (zR HO_224001.out))) (Kd.R_lt (zR HO_230001.out))) (below_size zB)); replace HO_219001 := zM (Kd.R_elder' (zR HO_219001.out) (Kd.R_base ho0) hb); replace HO_224001 := zM (Kd.R_elder' (zR HO_224001.out) (Kd.R_base ho0) hb); replace HO_230001 := zM (Kd.R_elder' (zR HO_230001.out) (Kd.R_base ho0) hb); replace BK207 := zM (blk_below (g := gb207) (o := .cells #[.int .i64 a0_0, .slice A0_1 l0_1.length c0_1] 24 (0, 0)) (zK BK207.out) hb); replace BK218 := zM (blk_below (g := gb218) (o := .cells #[.int .i64 t213, .slice Ao22 t214.length co22] 27 (0, 0)) (zK BK218.out) hb); replace BK223 := zM (blk_below (g := gb223) (o := .cells #[.int .i64 t219, .slice Ao29 t237.length co29] 27 (0, 0)) (zK BK223.out) hb); replace BK229 := zM (blk_below (g := gb229) (o := .cells #[.int .i64 t224, .slice Ao36 t225.length co36] 27 (0, 0)) (zK BK229.out) hb); replace HB := zM (below_step zB hb); (try clear hb); (try clear hb2); (try clear hk); (try clear hi); (try clear ho0); obtain ⟨Ao115, co115, eo115⟩ := Kd.R_slice HO245.out; subst eo115) | ((with_reducible refine gate_callee (f := 21) rfl ?_); refine zc 76 Try.func21 #[.agg #[.int .i64 t242, .slice Ao115 t243.length co115]] ?_; (with_reducible refine (impl_CliqueGraph.calls kj59 t242 _ _ t243 t246 t247 t250 _ ?side1 ?side2 A102.out).mono ?_); (case side1 => exact zC (Kd.R_reads' HO245.out).2.2); (case side2 => exact (Kd.R_reads' HO245.out).2.1); rintro e w116 ⟨v248, rfl, ho0, hb⟩; refine ⟨_, rfl, ?_⟩; have HO249 := zM (Kd.R_lower (Kd.R_new' (Kd.R_new' (Kd.R_new' (Kd.R_new' ho0 (Kd.R_lt (zR HO_219001.out))) (Kd.R_lt (zR HO_224001.out))) (Kd.R_lt (zR HO_230001.out))) (Kd.R_lt (zR HO245.out))) (below_size zB)); replace HO_219001 := zM (Kd.R_elder' (zR HO_219001.out) (Kd.R_base ho0) hb); replace HO_224001 := zM (Kd.R_elder' (zR HO_224001.out) (Kd.R_base ho0) hb); replace HO_230001 := zM (Kd.R_elder' (zR HO_230001.out) (Kd.R_base ho0) hb); replace HO245 := zM (Kd.R_elder' (zR HO245.out) (Kd.R_base ho0) hb); replace BK207 := zM (blk_below (g := gb207) (o := .cells #[.int .i64 a0_0, .slice A0_1 l0_1.length c0_1] 24 (0, 0)) (zK BK207.out) hb); replace BK218 := zM (blk_below (g := gb218) (o := .cells #[.int .i64 t213, .slice Ao22 t214.length co22] 27 (0, 0)) (zK BK218.out) hb); replace BK223 := zM (blk_below (g := gb223) (o := .cells #[.int .i64 t219, .slice Ao29 t237.length co29] 27 (0, 0)) (zK BK223.out) hb); replace BK229 := zM (blk_below (g := gb229) (o := .cells #[.int .i64 t224, .slice Ao36 t225.length co36] 27 (0, 0)) (zK BK229.out) hb); replace HB := zM (below_step zB hb); (try clear hb); (try clear hb2); (try clear hk); (try clear hi); (try clear ho0)) | ((with_reducible refine gate_dst (N := 12) rfl ?_); refine ze 12 #[.int .i64 0, .slice none 0 0] 27 ?_; intro gb251 hg w117 hbox hb; replace HO_219001 := zM (Kd.R_below (zR HO_219001.out) hb); replace HO_224001 := zM (Kd.R_below (zR HO_224001.out) hb); replace HO_230001 := zM (Kd.R_below (zR HO_230001.out) hb); replace HO245 := zM (Kd.R_below (zR HO245.out) hb); replace HO249 := zM (Kd.R_below (zR HO249.out) hb); have BK251 := zM (hbox); have GW251 := zM ((by rw [hg]; exact (below_size zB) : w.heap.size ≤ gb251)); have GE251 := zM ((by rw [hg]; exact (below_size zB) : w.heap.size ≤ gb251)); replace HB := zM (below_step zB hb); have NB207_251 := zM ((by rw [hg]; exact Nat.ne_of_lt (blk_lt (g := gb207) (o := .cells #[.int .i64 a0_0, .slice A0_1 l0_1.length c0_1] 24 (0, 0)) (zK BK207.out)) : gb207 ≠ gb251)); have NB251_207 := zM ((by rw [hg]; exact Nat.ne_of_gt (blk_lt (g := gb207) (o := .cells #[.int .i64 a0_0, .slice A0_1 l0_1.length c0_1] 24 (0, 0)) (zK BK207.out)) : gb251 ≠ gb207)); replace BK207 := zM (blk_below (g := gb207) (o := .cells #[.int .i64 a0_0, .slice A0_1 l0_1.length c0_1] 24 (0, 0)) (zK BK207.out) hb); have NB218_251 := zM ((by rw [hg]; exact Nat.ne_of_lt (blk_lt (g := gb218) (o := .cells #[.int .i64 t213, .slice Ao22 t214.length co22] 27 (0, 0)) (zK BK218.out)) : gb218 ≠ gb251)); have NB251_218 := zM ((by rw [hg]; exact Nat.ne_of_gt (blk_lt (g := gb218) (o := .cells #[.int .i64 t213, .slice Ao22 t214.length co22] 27 (0, 0)) (zK BK218.out)) : gb251 ≠ gb218)); replace BK218 := zM (blk_below (g := gb218) (o := .cells #[.int .i64 t213, .slice Ao22 t214.length co22] 27 (0, 0)) (zK BK218.out) hb); have NB223_251 := zM ((by rw [hg]; exact Nat.ne_of_lt (blk_lt (g := gb223) (o := .cells #[.int .i64 t219, .slice Ao29 t237.length co29] 27 (0, 0)) (zK BK223.out)) : gb223 ≠ gb251)); have NB251_223 := zM ((by rw [hg]; exact Nat.ne_of_gt (blk_lt (g := gb223) (o := .cells #[.int .i64 t219, .slice Ao29 t237.length co29] 27 (0, 0)) (zK BK223.out)) : gb251 ≠ gb223)); replace BK223 := zM (blk_below (g := gb223) (o := .cells #[.int .i64 t219, .slice Ao29 t237.length co29] 27 (0, 0)) (zK BK223.out) hb); have NB229_251 := zM ((by rw [hg]; exact Nat.ne_of_lt (blk_lt (g := gb229) (o := .cells #[.int .i64 t224, .slice Ao36 t225.length co36] 27 (0, 0)) (zK BK229.out)) : gb229 ≠ gb251)); have NB251_229 := zM ((by rw [hg]; exact Nat.ne_of_gt (blk_lt (g := gb229) (o := .cells #[.int .i64 t224, .slice Ao36 t225.length co36] 27 (0, 0)) (zK BK229.out)) : gb251 ≠ gb229)); replace BK229 := zM (blk_below (g := gb229) (o := .cells #[.int .i64 t224, .slice Ao36 t225.length co36] 27 (0, 0)) (zK BK229.out) hb); clear hb hbox hg; have hnb118 := NB251_207.out; have hnc118 := NB207_251.out; have hnb119 := NB251_218.out; have hnc119 := NB218_251.out; have hnb120 := NB251_223.out; have hnc120 := NB223_251.out; have hnb121 := NB251_229.out; have hnc121 := NB229_251.out; have hcz122_0 := zy BK251 0; have hcz122_1 := zy BK251 1; have hfz122_0 := blk_frozen BK251.out 0; have hfz122_1 := blk_frozen BK251.out 1; obtain ⟨Ao123, co123, eo123⟩ := Kd.R_slice HO249.out; subst eo123))
                 (try simp only [Act.put, List.setIfInBounds_toArray, List.set_cons_zero, List.set_cons_succ])
                 go_cut [87] (fun v87 wc => ∃ (kq : Nat) (x87_102 : Bool), v87 = .bool x87_102 ∧ Aside0 (laws_FnExactCliqueGraph.j2 kq t239 x87_102 t224 t240 = some r) ∧ Aside0 (kq ≤ kj59) ∧ Aside0 (Kd.R k68 68 wc w.heap.size (fun k_ => some k_ ≠ ((.slice Ao29 t237.length co29) : Value).ownBlock ∧ some k_ ≠ ((.slice Ao36 t225.length co36) : Value).ownBlock ∧ some k_ ≠ ((.slice Ao123 t247.length co123) : Value).ownBlock) (.slice Ao22 t214.length co22) t214) ∧ Aside0 (Kd.R k68 68 wc w.heap.size (fun k_ => some k_ ≠ ((.slice Ao22 t214.length co22) : Value).ownBlock ∧ some k_ ≠ ((.slice Ao36 t225.length co36) : Value).ownBlock ∧ some k_ ≠ ((.slice Ao123 t247.length co123) : Value).ownBlock) (.slice Ao29 t237.length co29) t237) ∧ Aside0 (Kd.R k68 68 wc w.heap.size (fun k_ => some k_ ≠ ((.slice Ao22 t214.length co22) : Value).ownBlock ∧ some k_ ≠ ((.slice Ao29 t237.length co29) : Value).ownBlock ∧ some k_ ≠ ((.slice Ao123 t247.length co123) : Value).ownBlock) (.slice Ao36 t225.length co36) t240) ∧ Aside0 (Kd.R k68 68 wc w.heap.size (fun k_ => some k_ ≠ ((.slice Ao22 t214.length co22) : Value).ownBlock ∧ some k_ ≠ ((.slice Ao29 t237.length co29) : Value).ownBlock ∧ some k_ ≠ ((.slice Ao36 t225.length co36) : Value).ownBlock) (.slice Ao123 t247.length co123) t247) ∧ Aside0 (wc.heap[gb207]? = some (.cells #[.int .i64 a0_0, (.slice A0_1 l0_1.length c0_1)] 24 (0, 0))) ∧ Aside0 (wc.heap[gb218]? = some (.cells #[.int .i64 t213, (.slice Ao22 t214.length co22)] 27 (0, 0))) ∧ Aside0 (wc.heap[gb223]? = some (.cells #[.int .i64 t219, (.slice Ao29 t237.length co29)] 27 (0, 0))) ∧ Aside0 (wc.heap[gb229]? = some (.cells #[.int .i64 t224, (.slice Ao36 t225.length co36)] 27 (0, 0))) ∧ Aside0 (wc.heap[gb251]? = some (.cells #[.int .i64 t246, (.slice Ao123 t247.length co123)] 27 (0, 0))) ∧ Aside0 (Below w.heap.size w wc))
                 case first =>
                  have H := HC103.out
                  clear HC103
                  replace H := Option.bind_eq_some_iff.mp H
                  obtain ⟨t252, A1240, H⟩ := H
                  have A124 := Aside0.mk A1240
                  clear A1240
                  by_cases c125 : t252 = true
                  · subst c125
                    rw [if_pos rfl] at H
                    have H' := Aside0.mk H
                    clear H
                    have hnb126 := NB251_207.out
                    have hnc126 := NB207_251.out
                    have hnb127 := NB251_218.out
                    have hnc127 := NB218_251.out
                    have hnb128 := NB251_223.out
                    have hnc128 := NB223_251.out
                    have hnb129 := NB251_229.out
                    have hnc129 := NB229_251.out
                    have hcz130_0 := zy BK251 0
                    have hcz130_1 := zy BK251 1
                    have hfz130_0 := blk_frozen BK251.out 0
                    have hfz130_1 := blk_frozen BK251.out 1
                    have hnb131 := NB218_207.out
                    have hnc131 := NB207_218.out
                    have hnb132 := NB218_223.out
                    have hnc132 := NB223_218.out
                    have hnb133 := NB218_229.out
                    have hnc133 := NB229_218.out
                    have hcz134_0 := zy BK218 0
                    have hcz134_1 := zy BK218 1
                    have hfz134_0 := blk_frozen BK218.out 0
                    have hfz134_1 := blk_frozen BK218.out 1
                    go_wp2_with (first | ((with_reducible refine gate_callee (f := 19) rfl ?_); refine zc 81 Try.func19 #[.agg #[.int .i64 t246, .slice Ao123 t247.length co123], .agg #[.int .i64 t213, .slice Ao22 t214.length co22]] ?_; (with_reducible refine (laws_eqGraph.calls kj59 t246 _ _ t247 t213 _ _ t214 true _ ?side1 ?side2 ?side3 ?side4 A124.out).mono ?_); (case side1 => refine (Kd.R_reads' (e := 68) (base := w.heap.size) (ok := fun k_ => ((((True ∧ some k_ ≠ (.slice Ao22 t214.length co22 : Value).ownBlock) ∧ some k_ ≠ (.slice Ao29 t237.length co29 : Value).ownBlock) ∧ some k_ ≠ (.slice Ao36 t225.length co36 : Value).ownBlock) ∧ some k_ ≠ (.slice Ao115 t243.length co115 : Value).ownBlock)) (n := t247.length) (c := co123) ?_).2.2; exact (by (with_reducible repeat (first | apply Kd.R_alloc | apply Kd.R_drewN | apply Kd.R_drew)); exact (Kd.R_mono (Kd.R_far (p := ⟨gb251, 1, none⟩) (Kd.R_far (p := ⟨gb251, 0, none⟩) (Kd.R_types HO249.out BK251.out (by decide)) (fun _ hk => hk.2) (.int .i64 t246)) (fun _ hk => hk.2) (.slice Ao123 t247.length co123)) (fun _ h_ => h_.1)))); (case side2 => exact (Kd.R_reads' HO249.out).2.1); (case side3 => refine (Kd.R_reads' (e := 68) (base := w.heap.size) (ok := fun k_ => (((some k_ ≠ (.slice Ao29 t237.length co29 : Value).ownBlock ∧ some k_ ≠ (.slice Ao36 t225.length co36 : Value).ownBlock) ∧ some k_ ≠ (.slice Ao115 t243.length co115 : Value).ownBlock) ∧ some k_ ≠ (.slice Ao123 t247.length co123 : Value).ownBlock)) (n := t214.length) (c := co22) ?_).2.2; exact (by (with_reducible repeat (first | apply Kd.R_alloc | apply Kd.R_drewN | apply Kd.R_drew)); exact (Kd.R_mono (Kd.R_far (p := ⟨gb251, 1, none⟩) (Kd.R_far (p := ⟨gb251, 0, none⟩) (Kd.R_types HO_219001.out BK251.out (by decide)) (fun _ hk => hk.2) (.int .i64 t246)) (fun _ hk => hk.2) (.slice Ao123 t247.length co123)) (fun _ h_ => h_.1)))); (case side4 => exact (Kd.R_reads' HO_219001.out).2.1); rintro e w135 ⟨rfl, hb⟩; refine ⟨_, rfl, ?_⟩; replace HO_219001 := zM (Kd.R_below (by (with_reducible repeat (first | apply Kd.R_alloc | apply Kd.R_drewN | apply Kd.R_drew)); exact (Kd.R_mono (Kd.R_far (p := ⟨gb251, 1, none⟩) (Kd.R_far (p := ⟨gb251, 0, none⟩) (Kd.R_types HO_219001.out BK251.out (by decide)) (fun _ hk => hk.2) (.int .i64 t246)) (fun _ hk => hk.2) (.slice Ao123 t247.length co123)) (fun _ h_ => h_.1))) hb); replace HO_224001 := zM (Kd.R_below (by (with_reducible repeat (first | apply Kd.R_alloc | apply Kd.R_drewN | apply Kd.R_drew)); exact (Kd.R_mono (Kd.R_far (p := ⟨gb251, 1, none⟩) (Kd.R_far (p := ⟨gb251, 0, none⟩) (Kd.R_types HO_224001.out BK251.out (by decide)) (fun _ hk => hk.2) (.int .i64 t246)) (fun _ hk => hk.2) (.slice Ao123 t247.length co123)) (fun _ h_ => h_.1))) hb); replace HO_230001 := zM (Kd.R_below (by (with_reducible repeat (first | apply Kd.R_alloc | apply Kd.R_drewN | apply Kd.R_drew)); exact (Kd.R_mono (Kd.R_far (p := ⟨gb251, 1, none⟩) (Kd.R_far (p := ⟨gb251, 0, none⟩) (Kd.R_types HO_230001.out BK251.out (by decide)) (fun _ hk => hk.2) (.int .i64 t246)) (fun _ hk => hk.2) (.slice Ao123 t247.length co123)) (fun _ h_ => h_.1))) hb); replace HO245 := zM (Kd.R_below (by (with_reducible repeat (first | apply Kd.R_alloc | apply Kd.R_drewN | apply Kd.R_drew)); exact (Kd.R_mono (Kd.R_far (p := ⟨gb251, 1, none⟩) (Kd.R_far (p := ⟨gb251, 0, none⟩) (Kd.R_types HO245.out BK251.out (by decide)) (fun _ hk => hk.2) (.int .i64 t246)) (fun _ hk => hk.2) (.slice Ao123 t247.length co123)) (fun _ h_ => h_.1))) hb); replace HO249 := zM (Kd.R_below (by (with_reducible repeat (first | apply Kd.R_alloc | apply Kd.R_drewN | apply Kd.R_drew)); exact (Kd.R_mono (Kd.R_far (p := ⟨gb251, 1, none⟩) (Kd.R_far (p := ⟨gb251, 0, none⟩) (Kd.R_types HO249.out BK251.out (by decide)) (fun _ hk => hk.2) (.int .i64 t246)) (fun _ hk => hk.2) (.slice Ao123 t247.length co123)) (fun _ h_ => h_.1))) hb); replace BK207 := zM (blk_below (g := gb207) (o := .cells #[.int .i64 a0_0, .slice A0_1 l0_1.length c0_1] 24 (0, 0)) (by (with_reducible repeat (first | refine blk_drewN ?_ _ | refine blk_drew ?_ | refine blk_alloc ?_ _)); refine blk_far ?_ NB207_251.out _; (with_reducible repeat (first | refine blk_drewN ?_ _ | refine blk_drew ?_ | refine blk_alloc ?_ _)); refine blk_far ?_ NB207_251.out _; (with_reducible repeat (first | refine blk_drewN ?_ _ | refine blk_drew ?_ | refine blk_alloc ?_ _)); exact BK207.out) hb); replace BK218 := zM (blk_below (g := gb218) (o := .cells #[.int .i64 t213, .slice Ao22 t214.length co22] 27 (0, 0)) (by (with_reducible repeat (first | refine blk_drewN ?_ _ | refine blk_drew ?_ | refine blk_alloc ?_ _)); refine blk_far ?_ NB218_251.out _; (with_reducible repeat (first | refine blk_drewN ?_ _ | refine blk_drew ?_ | refine blk_alloc ?_ _)); refine blk_far ?_ NB218_251.out _; (with_reducible repeat (first | refine blk_drewN ?_ _ | refine blk_drew ?_ | refine blk_alloc ?_ _)); exact BK218.out) hb); replace BK223 := zM (blk_below (g := gb223) (o := .cells #[.int .i64 t219, .slice Ao29 t237.length co29] 27 (0, 0)) (by (with_reducible repeat (first | refine blk_drewN ?_ _ | refine blk_drew ?_ | refine blk_alloc ?_ _)); refine blk_far ?_ NB223_251.out _; (with_reducible repeat (first | refine blk_drewN ?_ _ | refine blk_drew ?_ | refine blk_alloc ?_ _)); refine blk_far ?_ NB223_251.out _; (with_reducible repeat (first | refine blk_drewN ?_ _ | refine blk_drew ?_ | refine blk_alloc ?_ _)); exact BK223.out) hb); replace BK229 := zM (blk_below (g := gb229) (o := .cells #[.int .i64 t224, .slice Ao36 t225.length co36] 27 (0, 0)) (by (with_reducible repeat (first | refine blk_drewN ?_ _ | refine blk_drew ?_ | refine blk_alloc ?_ _)); refine blk_far ?_ NB229_251.out _; (with_reducible repeat (first | refine blk_drewN ?_ _ | refine blk_drew ?_ | refine blk_alloc ?_ _)); refine blk_far ?_ NB229_251.out _; (with_reducible repeat (first | refine blk_drewN ?_ _ | refine blk_drew ?_ | refine blk_alloc ?_ _)); exact BK229.out) hb); replace BK251 := zM (blk_below (g := gb251) (o := .cells #[.int .i64 t246, .slice Ao123 t247.length co123] 27 (0, 0)) (by (with_reducible repeat (first | refine blk_drewN ?_ _ | refine blk_drew ?_ | refine blk_alloc ?_ _)); refine blk_put (cs := #[.int .i64 t246, .slice none 0 0]) ?_ 1 _ rfl; (with_reducible repeat (first | refine blk_drewN ?_ _ | refine blk_drew ?_ | refine blk_alloc ?_ _)); refine blk_put (cs := #[.int .i64 0, .slice none 0 0]) ?_ 0 _ rfl; (with_reducible repeat (first | refine blk_drewN ?_ _ | refine blk_drew ?_ | refine blk_alloc ?_ _)); exact BK251.out) hb); replace HB := zM (below_step zB hb); (try clear hb); (try clear hb2); (try clear hk); (try clear hi)))
                    go_meet
                    case rel => exact ⟨_, ((t250 != t217)), (by first | rfl | (simp; done) | (simp [*]; done)), H', ⟨by have := HJ10.out; have := HJ59.out; first | omega | exact Nat.le_refl _⟩, ⟨by (try simp only [hl224001_59]); (with_reducible repeat (first | apply Kd.R_alloc | apply Kd.R_drewN | apply Kd.R_drew)); exact Kd.R_mono HO_219001.out (fun _ hk => ⟨hk.1.1.1, ⟨hk.1.1.2, hk.2⟩⟩)⟩, ⟨by (try simp only [hl224001_59]); (with_reducible repeat (first | apply Kd.R_alloc | apply Kd.R_drewN | apply Kd.R_drew)); exact Kd.R_mono HO_224001.out (fun _ hk => ⟨hk.1.1.1, ⟨hk.1.1.2, hk.2⟩⟩)⟩, ⟨by (try simp only [hl224001_59]); (with_reducible repeat (first | apply Kd.R_alloc | apply Kd.R_drewN | apply Kd.R_drew)); exact Kd.R_mono HO_230001.out (fun _ hk => ⟨hk.1.1.1, ⟨hk.1.1.2, hk.2⟩⟩)⟩, ⟨by (try simp only [hl224001_59]); (with_reducible repeat (first | apply Kd.R_alloc | apply Kd.R_drewN | apply Kd.R_drew)); exact Kd.R_mono HO249.out (fun _ hk => ⟨hk.1.1.1.2, ⟨hk.1.1.2, hk.1.2⟩⟩)⟩, ⟨by (try simp only [hl224001_59]); (with_reducible repeat (first | refine blk_drewN ?_ _ | refine blk_drew ?_ | refine blk_alloc ?_ _)); exact BK207.out⟩, ⟨by (try simp only [hl224001_59]); (with_reducible repeat (first | refine blk_drewN ?_ _ | refine blk_drew ?_ | refine blk_alloc ?_ _)); exact BK218.out⟩, ⟨by (try simp only [hl224001_59]); (with_reducible repeat (first | refine blk_drewN ?_ _ | refine blk_drew ?_ | refine blk_alloc ?_ _)); exact BK223.out⟩, ⟨by (try simp only [hl224001_59]); (with_reducible repeat (first | refine blk_drewN ?_ _ | refine blk_drew ?_ | refine blk_alloc ?_ _)); exact BK229.out⟩, ⟨by (try simp only [hl224001_59]); (with_reducible repeat (first | refine blk_drewN ?_ _ | refine blk_drew ?_ | refine blk_alloc ?_ _)); exact BK251.out⟩, ⟨zB⟩⟩
                  · replace c125 := Bool.eq_false_iff.mpr c125
                    subst c125
                    have H1 : (laws_FnExactCliqueGraph.j2 kj59 t239 true t224 t240) = some r := by rw [if_neg (show ¬ (false = true) by decide)] at H; exact H
                    clear H
                    have H := H1
                    clear H1
                    have H' := Aside0.mk H
                    clear H
                    have hnb136 := NB251_207.out
                    have hnc136 := NB207_251.out
                    have hnb137 := NB251_218.out
                    have hnc137 := NB218_251.out
                    have hnb138 := NB251_223.out
                    have hnc138 := NB223_251.out
                    have hnb139 := NB251_229.out
                    have hnc139 := NB229_251.out
                    have hcz140_0 := zy BK251 0
                    have hcz140_1 := zy BK251 1
                    have hfz140_0 := blk_frozen BK251.out 0
                    have hfz140_1 := blk_frozen BK251.out 1
                    have hnb141 := NB218_207.out
                    have hnc141 := NB207_218.out
                    have hnb142 := NB218_223.out
                    have hnc142 := NB223_218.out
                    have hnb143 := NB218_229.out
                    have hnc143 := NB229_218.out
                    have hcz144_0 := zy BK218 0
                    have hcz144_1 := zy BK218 1
                    have hfz144_0 := blk_frozen BK218.out 0
                    have hfz144_1 := blk_frozen BK218.out 1
                    go_wp2_with (first | ((with_reducible refine gate_callee (f := 19) rfl ?_); refine zc 81 Try.func19 #[.agg #[.int .i64 t246, .slice Ao123 t247.length co123], .agg #[.int .i64 t213, .slice Ao22 t214.length co22]] ?_; (with_reducible refine (laws_eqGraph.calls kj59 t246 _ _ t247 t213 _ _ t214 false _ ?side1 ?side2 ?side3 ?side4 A124.out).mono ?_); (case side1 => refine (Kd.R_reads' (e := 68) (base := w.heap.size) (ok := fun k_ => ((((True ∧ some k_ ≠ (.slice Ao22 t214.length co22 : Value).ownBlock) ∧ some k_ ≠ (.slice Ao29 t237.length co29 : Value).ownBlock) ∧ some k_ ≠ (.slice Ao36 t225.length co36 : Value).ownBlock) ∧ some k_ ≠ (.slice Ao115 t243.length co115 : Value).ownBlock)) (n := t247.length) (c := co123) ?_).2.2; exact (by (with_reducible repeat (first | apply Kd.R_alloc | apply Kd.R_drewN | apply Kd.R_drew)); exact (Kd.R_mono (Kd.R_far (p := ⟨gb251, 1, none⟩) (Kd.R_far (p := ⟨gb251, 0, none⟩) (Kd.R_types HO249.out BK251.out (by decide)) (fun _ hk => hk.2) (.int .i64 t246)) (fun _ hk => hk.2) (.slice Ao123 t247.length co123)) (fun _ h_ => h_.1)))); (case side2 => exact (Kd.R_reads' HO249.out).2.1); (case side3 => refine (Kd.R_reads' (e := 68) (base := w.heap.size) (ok := fun k_ => (((some k_ ≠ (.slice Ao29 t237.length co29 : Value).ownBlock ∧ some k_ ≠ (.slice Ao36 t225.length co36 : Value).ownBlock) ∧ some k_ ≠ (.slice Ao115 t243.length co115 : Value).ownBlock) ∧ some k_ ≠ (.slice Ao123 t247.length co123 : Value).ownBlock)) (n := t214.length) (c := co22) ?_).2.2; exact (by (with_reducible repeat (first | apply Kd.R_alloc | apply Kd.R_drewN | apply Kd.R_drew)); exact (Kd.R_mono (Kd.R_far (p := ⟨gb251, 1, none⟩) (Kd.R_far (p := ⟨gb251, 0, none⟩) (Kd.R_types HO_219001.out BK251.out (by decide)) (fun _ hk => hk.2) (.int .i64 t246)) (fun _ hk => hk.2) (.slice Ao123 t247.length co123)) (fun _ h_ => h_.1)))); (case side4 => exact (Kd.R_reads' HO_219001.out).2.1); rintro e w145 ⟨rfl, hb⟩; refine ⟨_, rfl, ?_⟩; replace HO_219001 := zM (Kd.R_below (by (with_reducible repeat (first | apply Kd.R_alloc | apply Kd.R_drewN | apply Kd.R_drew)); exact (Kd.R_mono (Kd.R_far (p := ⟨gb251, 1, none⟩) (Kd.R_far (p := ⟨gb251, 0, none⟩) (Kd.R_types HO_219001.out BK251.out (by decide)) (fun _ hk => hk.2) (.int .i64 t246)) (fun _ hk => hk.2) (.slice Ao123 t247.length co123)) (fun _ h_ => h_.1))) hb); replace HO_224001 := zM (Kd.R_below (by (with_reducible repeat (first | apply Kd.R_alloc | apply Kd.R_drewN | apply Kd.R_drew)); exact (Kd.R_mono (Kd.R_far (p := ⟨gb251, 1, none⟩) (Kd.R_far (p := ⟨gb251, 0, none⟩) (Kd.R_types HO_224001.out BK251.out (by decide)) (fun _ hk => hk.2) (.int .i64 t246)) (fun _ hk => hk.2) (.slice Ao123 t247.length co123)) (fun _ h_ => h_.1))) hb); replace HO_230001 := zM (Kd.R_below (by (with_reducible repeat (first | apply Kd.R_alloc | apply Kd.R_drewN | apply Kd.R_drew)); exact (Kd.R_mono (Kd.R_far (p := ⟨gb251, 1, none⟩) (Kd.R_far (p := ⟨gb251, 0, none⟩) (Kd.R_types HO_230001.out BK251.out (by decide)) (fun _ hk => hk.2) (.int .i64 t246)) (fun _ hk => hk.2) (.slice Ao123 t247.length co123)) (fun _ h_ => h_.1))) hb); replace HO245 := zM (Kd.R_below (by (with_reducible repeat (first | apply Kd.R_alloc | apply Kd.R_drewN | apply Kd.R_drew)); exact (Kd.R_mono (Kd.R_far (p := ⟨gb251, 1, none⟩) (Kd.R_far (p := ⟨gb251, 0, none⟩) (Kd.R_types HO245.out BK251.out (by decide)) (fun _ hk => hk.2) (.int .i64 t246)) (fun _ hk => hk.2) (.slice Ao123 t247.length co123)) (fun _ h_ => h_.1))) hb); replace HO249 := zM (Kd.R_below (by (with_reducible repeat (first | apply Kd.R_alloc | apply Kd.R_drewN | apply Kd.R_drew)); exact (Kd.R_mono (Kd.R_far (p := ⟨gb251, 1, none⟩) (Kd.R_far (p := ⟨gb251, 0, none⟩) (Kd.R_types HO249.out BK251.out (by decide)) (fun _ hk => hk.2) (.int .i64 t246)) (fun _ hk => hk.2) (.slice Ao123 t247.length co123)) (fun _ h_ => h_.1))) hb); replace BK207 := zM (blk_below (g := gb207) (o := .cells #[.int .i64 a0_0, .slice A0_1 l0_1.length c0_1] 24 (0, 0)) (by (with_reducible repeat (first | refine blk_drewN ?_ _ | refine blk_drew ?_ | refine blk_alloc ?_ _)); refine blk_far ?_ NB207_251.out _; (with_reducible repeat (first | refine blk_drewN ?_ _ | refine blk_drew ?_ | refine blk_alloc ?_ _)); refine blk_far ?_ NB207_251.out _; (with_reducible repeat (first | refine blk_drewN ?_ _ | refine blk_drew ?_ | refine blk_alloc ?_ _)); exact BK207.out) hb); replace BK218 := zM (blk_below (g := gb218) (o := .cells #[.int .i64 t213, .slice Ao22 t214.length co22] 27 (0, 0)) (by (with_reducible repeat (first | refine blk_drewN ?_ _ | refine blk_drew ?_ | refine blk_alloc ?_ _)); refine blk_far ?_ NB218_251.out _; (with_reducible repeat (first | refine blk_drewN ?_ _ | refine blk_drew ?_ | refine blk_alloc ?_ _)); refine blk_far ?_ NB218_251.out _; (with_reducible repeat (first | refine blk_drewN ?_ _ | refine blk_drew ?_ | refine blk_alloc ?_ _)); exact BK218.out) hb); replace BK223 := zM (blk_below (g := gb223) (o := .cells #[.int .i64 t219, .slice Ao29 t237.length co29] 27 (0, 0)) (by (with_reducible repeat (first | refine blk_drewN ?_ _ | refine blk_drew ?_ | refine blk_alloc ?_ _)); refine blk_far ?_ NB223_251.out _; (with_reducible repeat (first | refine blk_drewN ?_ _ | refine blk_drew ?_ | refine blk_alloc ?_ _)); refine blk_far ?_ NB223_251.out _; (with_reducible repeat (first | refine blk_drewN ?_ _ | refine blk_drew ?_ | refine blk_alloc ?_ _)); exact BK223.out) hb); replace BK229 := zM (blk_below (g := gb229) (o := .cells #[.int .i64 t224, .slice Ao36 t225.length co36] 27 (0, 0)) (by (with_reducible repeat (first | refine blk_drewN ?_ _ | refine blk_drew ?_ | refine blk_alloc ?_ _)); refine blk_far ?_ NB229_251.out _; (with_reducible repeat (first | refine blk_drewN ?_ _ | refine blk_drew ?_ | refine blk_alloc ?_ _)); refine blk_far ?_ NB229_251.out _; (with_reducible repeat (first | refine blk_drewN ?_ _ | refine blk_drew ?_ | refine blk_alloc ?_ _)); exact BK229.out) hb); replace BK251 := zM (blk_below (g := gb251) (o := .cells #[.int .i64 t246, .slice Ao123 t247.length co123] 27 (0, 0)) (by (with_reducible repeat (first | refine blk_drewN ?_ _ | refine blk_drew ?_ | refine blk_alloc ?_ _)); refine blk_put (cs := #[.int .i64 t246, .slice none 0 0]) ?_ 1 _ rfl; (with_reducible repeat (first | refine blk_drewN ?_ _ | refine blk_drew ?_ | refine blk_alloc ?_ _)); refine blk_put (cs := #[.int .i64 0, .slice none 0 0]) ?_ 0 _ rfl; (with_reducible repeat (first | refine blk_drewN ?_ _ | refine blk_drew ?_ | refine blk_alloc ?_ _)); exact BK251.out) hb); replace HB := zM (below_step zB hb); (try clear hb); (try clear hb2); (try clear hk); (try clear hi)))
                    go_meet
                    case rel => exact ⟨_, (true), (by first | rfl | (simp; done) | (simp [*]; done)), H', ⟨by have := HJ10.out; have := HJ59.out; first | omega | exact Nat.le_refl _⟩, ⟨by (try simp only [hl224001_59]); (with_reducible repeat (first | apply Kd.R_alloc | apply Kd.R_drewN | apply Kd.R_drew)); exact Kd.R_mono HO_219001.out (fun _ hk => ⟨hk.1.1.1, ⟨hk.1.1.2, hk.2⟩⟩)⟩, ⟨by (try simp only [hl224001_59]); (with_reducible repeat (first | apply Kd.R_alloc | apply Kd.R_drewN | apply Kd.R_drew)); exact Kd.R_mono HO_224001.out (fun _ hk => ⟨hk.1.1.1, ⟨hk.1.1.2, hk.2⟩⟩)⟩, ⟨by (try simp only [hl224001_59]); (with_reducible repeat (first | apply Kd.R_alloc | apply Kd.R_drewN | apply Kd.R_drew)); exact Kd.R_mono HO_230001.out (fun _ hk => ⟨hk.1.1.1, ⟨hk.1.1.2, hk.2⟩⟩)⟩, ⟨by (try simp only [hl224001_59]); (with_reducible repeat (first | apply Kd.R_alloc | apply Kd.R_drewN | apply Kd.R_drew)); exact Kd.R_mono HO249.out (fun _ hk => ⟨hk.1.1.1.2, ⟨hk.1.1.2, hk.1.2⟩⟩)⟩, ⟨by (try simp only [hl224001_59]); (with_reducible repeat (first | refine blk_drewN ?_ _ | refine blk_drew ?_ | refine blk_alloc ?_ _)); exact BK207.out⟩, ⟨by (try simp only [hl224001_59]); (with_reducible repeat (first | refine blk_drewN ?_ _ | refine blk_drew ?_ | refine blk_alloc ?_ _)); exact BK218.out⟩, ⟨by (try simp only [hl224001_59]); (with_reducible repeat (first | refine blk_drewN ?_ _ | refine blk_drew ?_ | refine blk_alloc ?_ _)); exact BK223.out⟩, ⟨by (try simp only [hl224001_59]); (with_reducible repeat (first | refine blk_drewN ?_ _ | refine blk_drew ?_ | refine blk_alloc ?_ _)); exact BK229.out⟩, ⟨by (try simp only [hl224001_59]); (with_reducible repeat (first | refine blk_drewN ?_ _ | refine blk_drew ?_ | refine blk_alloc ?_ _)); exact BK251.out⟩, ⟨zB⟩⟩
                 case rest =>
                  clear HC103
                  try clear c1
                  try clear c2
                  try clear p2
                  try clear c3
                  try clear c3b0
                  try clear c4
                  try clear c5
                  try clear c6
                  try clear c7
                  try clear c8
                  try clear c9
                  try clear c10
                  try clear c11
                  try clear c12
                  try clear c13
                  try clear c14
                  try clear c15
                  try clear c17
                  try clear c19
                  try clear c20
                  try clear c21
                  try clear c22
                  try clear c23
                  try clear c26
                  try clear c27
                  try clear c32
                  try clear c33
                  try clear c34
                  try clear c38
                  try clear c39
                  try clear c40
                  try clear c41
                  try clear c43
                  try clear c44
                  try clear c47
                  try clear c48
                  try clear c49
                  try clear c51
                  try clear c52
                  try clear c55
                  try clear c58
                  try clear c65
                  try clear c66
                  try clear c67
                  try clear c70
                  try clear c70b0
                  try clear c72
                  try clear c73
                  try clear c74
                  try clear c75
                  try clear c77
                  try clear c78
                  try clear c81
                  try clear c82
                  try clear c83
                  try clear c85
                  try clear c86
                  try clear c89
                  try clear c92
                  try clear c92b0
                  try clear c93
                  try clear c94
                  try clear c95
                  try clear c100
                  try clear c100b0
                  try clear c100b1
                  try clear c104
                  try clear c105
                  try clear c106
                  try clear c111
                  try clear c112
                  try clear c118
                  try clear c119
                  try clear c120
                  try clear c121
                  try clear c125
                  try clear c126
                  try clear c127
                  try clear c128
                  try clear c129
                  try clear c131
                  try clear c132
                  try clear c133
                  try clear c136
                  try clear c137
                  try clear c138
                  try clear c139
                  try clear c141
                  try clear c142
                  try clear c143
                  try clear hcz107_0
                  try clear hcz107_1
                  try clear hcz109_0
                  try clear hcz109_1
                  try clear hcz113_0
                  try clear hcz113_1
                  try clear hcz122_0
                  try clear hcz122_1
                  try clear hcz130_0
                  try clear hcz130_1
                  try clear hcz134_0
                  try clear hcz134_1
                  try clear hcz13_0
                  try clear hcz13_1
                  try clear hcz140_0
                  try clear hcz140_1
                  try clear hcz144_0
                  try clear hcz144_1
                  try clear hcz15_0
                  try clear hcz15_1
                  try clear hcz21_0
                  try clear hcz21_1
                  try clear hcz23_0
                  try clear hcz23_1
                  try clear hcz28_0
                  try clear hcz28_1
                  try clear hcz35_0
                  try clear hcz35_1
                  try clear hcz42_0
                  try clear hcz42_1
                  try clear hcz45_0
                  try clear hcz45_1
                  try clear hcz50_0
                  try clear hcz50_1
                  try clear hcz53_0
                  try clear hcz53_1
                  try clear hcz5_0
                  try clear hcz5_1
                  try clear hcz68_0
                  try clear hcz68_1
                  try clear hcz76_0
                  try clear hcz76_1
                  try clear hcz79_0
                  try clear hcz79_1
                  try clear hcz84_0
                  try clear hcz84_1
                  try clear hcz87_0
                  try clear hcz87_1
                  try clear hcz96_0
                  try clear hcz96_1
                  try clear hcz98_0
                  try clear hcz98_1
                  try clear hfz107_0
                  try clear hfz107_1
                  try clear hfz109_0
                  try clear hfz109_1
                  try clear hfz113_0
                  try clear hfz113_1
                  try clear hfz122_0
                  try clear hfz122_1
                  try clear hfz130_0
                  try clear hfz130_1
                  try clear hfz134_0
                  try clear hfz134_1
                  try clear hfz13_0
                  try clear hfz13_1
                  try clear hfz140_0
                  try clear hfz140_1
                  try clear hfz144_0
                  try clear hfz144_1
                  try clear hfz15_0
                  try clear hfz15_1
                  try clear hfz21_0
                  try clear hfz21_1
                  try clear hfz23_0
                  try clear hfz23_1
                  try clear hfz28_0
                  try clear hfz28_1
                  try clear hfz35_0
                  try clear hfz35_1
                  try clear hfz42_0
                  try clear hfz42_1
                  try clear hfz45_0
                  try clear hfz45_1
                  try clear hfz50_0
                  try clear hfz50_1
                  try clear hfz53_0
                  try clear hfz53_1
                  try clear hfz5_0
                  try clear hfz5_1
                  try clear hfz68_0
                  try clear hfz68_1
                  try clear hfz76_0
                  try clear hfz76_1
                  try clear hfz79_0
                  try clear hfz79_1
                  try clear hfz84_0
                  try clear hfz84_1
                  try clear hfz87_0
                  try clear hfz87_1
                  try clear hfz96_0
                  try clear hfz96_1
                  try clear hfz98_0
                  try clear hfz98_1
                  try clear p2
                  obtain ⟨kq, x87_102, rfl, HA, HJ102, HO_219001, HO_224001, HO_230001, HO_252001, BK207, BK218, BK223, BK229, BK251, HB⟩ := hcut
                  have hl230001_102 := (Kd.R_reads' HO_230001.out).1
                  rw [hl230001_102] at HO_230001
                  (try simp only [hl230001_102])
                  (try simp only [hl230001_102] at BK207)
                  (try simp only [hl230001_102] at BK218)
                  (try simp only [hl230001_102] at BK223)
                  (try simp only [hl230001_102] at BK229)
                  (try simp only [hl230001_102] at BK251)
                  (try simp only [hl230001_102] at HO_219001)
                  (try simp only [hl230001_102] at HO_224001)
                  (try simp only [hl230001_102] at HO_252001)
                  cases kq with
                  | zero => exact absurd HA.out (by simp [laws_FnExactCliqueGraph.j2])
                  | succ kj102 =>
                   have H := HA.out
                   clear HA
                   simp only [laws_FnExactCliqueGraph.j2] at H
                   by_cases c146 : x87_102 = true
                   · subst c146
                     rw [if_pos rfl] at H
                     obtain rfl := Option.some.inj H
                     go_wp2
                     go_ret
                     exact ⟨by first | rfl | (simp [errW_none, errW_some] <;> rfl) | (simp [*, errW_none, errW_some] <;> rfl), zB⟩
                   · replace c146 := Bool.eq_false_iff.mpr c146
                     subst c146
                     have H1 : ((laws_heldGraph.f t224 t240 1).bind fun t253 => (if t253 < 0 then (some false) else (if t253 = t239 then (some true) else (some false)))) = some r := by rw [if_neg (show ¬ (false = true) by decide)] at H; exact H
                     clear H
                     have H := H1
                     clear H1
                     replace H := Option.bind_eq_some_iff.mp H
                     obtain ⟨t253, A1470, H⟩ := H
                     have A147 := Aside0.mk A1470
                     clear A1470
                     by_cases c148 : t253 < 0
                     · rw [if_pos c148] at H
                       have c148b0 := decide_eq_true c148
                       clear c148
                       obtain rfl := Option.some.inj H
                       have hnb149 := NB229_207.out
                       have hnc149 := NB207_229.out
                       have hnb150 := NB229_218.out
                       have hnc150 := NB218_229.out
                       have hnb151 := NB229_223.out
                       have hnc151 := NB223_229.out
                       have hnb152 := NB229_251.out
                       have hnc152 := NB251_229.out
                       have hcz153_0 := zy BK229 0
                       have hcz153_1 := zy BK229 1
                       have hfz153_0 := blk_frozen BK229.out 0
                       have hfz153_1 := blk_frozen BK229.out 1
                       go_wp2_with (first | ((with_reducible refine gate_callee (f := 23) rfl ?_); refine zc 90 Try.func23 #[.agg #[.int .i64 t224, .slice Ao36 t240.length co36], .int .i64 1] ?_; (with_reducible refine (laws_heldGraph.calls t224 _ _ t240 1 t253 _ ?side1 ?side2 A147.out).mono ?_); (case side1 => exact zC (Kd.R_reads' HO_230001.out).2.2); (case side2 => exact (Kd.R_reads' HO_230001.out).2.1); rintro e w154 ⟨rfl, hb⟩; refine ⟨_, rfl, ?_⟩; replace HO_219001 := zM (Kd.R_below (zR HO_219001.out) hb); replace HO_224001 := zM (Kd.R_below (zR HO_224001.out) hb); replace HO_230001 := zM (Kd.R_below (zR HO_230001.out) hb); replace HO_252001 := zM (Kd.R_below (zR HO_252001.out) hb); replace BK207 := zM (blk_below (g := gb207) (o := .cells #[.int .i64 a0_0, .slice A0_1 l0_1.length c0_1] 24 (0, 0)) (zK BK207.out) hb); replace BK218 := zM (blk_below (g := gb218) (o := .cells #[.int .i64 t213, .slice Ao22 t214.length co22] 27 (0, 0)) (zK BK218.out) hb); replace BK223 := zM (blk_below (g := gb223) (o := .cells #[.int .i64 t219, .slice Ao29 t237.length co29] 27 (0, 0)) (zK BK223.out) hb); replace BK229 := zM (blk_below (g := gb229) (o := .cells #[.int .i64 t224, .slice Ao36 t240.length co36] 27 (0, 0)) (zK BK229.out) hb); replace BK251 := zM (blk_below (g := gb251) (o := .cells #[.int .i64 t246, .slice Ao123 t247.length co123] 27 (0, 0)) (zK BK251.out) hb); replace HB := zM (below_step zB hb); (try clear hb); (try clear hb2); (try clear hk); (try clear hi)))
                       go_ret
                       exact ⟨by first | rfl | (simp [errW_none, errW_some] <;> rfl) | (simp [*, errW_none, errW_some] <;> rfl), zB⟩
                     · rw [if_neg c148] at H
                       have c148b0 : decide (t253 < 0) = false := decide_eq_false c148
                       clear c148
                       by_cases c155 : t253 = t239
                       · rw [if_pos c155] at H
                         have c155b0 : (t253 == t239) = true := beq_iff_eq.mpr c155
                         have c155b1 : (t253 != t239) = false := bne_eq_false_iff_eq.mpr c155
                         clear c155
                         obtain rfl := Option.some.inj H
                         have hnb156 := NB229_207.out
                         have hnc156 := NB207_229.out
                         have hnb157 := NB229_218.out
                         have hnc157 := NB218_229.out
                         have hnb158 := NB229_223.out
                         have hnc158 := NB223_229.out
                         have hnb159 := NB229_251.out
                         have hnc159 := NB251_229.out
                         have hcz160_0 := zy BK229 0
                         have hcz160_1 := zy BK229 1
                         have hfz160_0 := blk_frozen BK229.out 0
                         have hfz160_1 := blk_frozen BK229.out 1
                         go_wp2_with (first | ((with_reducible refine gate_callee (f := 23) rfl ?_); refine zc 90 Try.func23 #[.agg #[.int .i64 t224, .slice Ao36 t240.length co36], .int .i64 1] ?_; (with_reducible refine (laws_heldGraph.calls t224 _ _ t240 1 t253 _ ?side1 ?side2 A147.out).mono ?_); (case side1 => exact zC (Kd.R_reads' HO_230001.out).2.2); (case side2 => exact (Kd.R_reads' HO_230001.out).2.1); rintro e w161 ⟨rfl, hb⟩; refine ⟨_, rfl, ?_⟩; replace HO_219001 := zM (Kd.R_below (zR HO_219001.out) hb); replace HO_224001 := zM (Kd.R_below (zR HO_224001.out) hb); replace HO_230001 := zM (Kd.R_below (zR HO_230001.out) hb); replace HO_252001 := zM (Kd.R_below (zR HO_252001.out) hb); replace BK207 := zM (blk_below (g := gb207) (o := .cells #[.int .i64 a0_0, .slice A0_1 l0_1.length c0_1] 24 (0, 0)) (zK BK207.out) hb); replace BK218 := zM (blk_below (g := gb218) (o := .cells #[.int .i64 t213, .slice Ao22 t214.length co22] 27 (0, 0)) (zK BK218.out) hb); replace BK223 := zM (blk_below (g := gb223) (o := .cells #[.int .i64 t219, .slice Ao29 t237.length co29] 27 (0, 0)) (zK BK223.out) hb); replace BK229 := zM (blk_below (g := gb229) (o := .cells #[.int .i64 t224, .slice Ao36 t240.length co36] 27 (0, 0)) (zK BK229.out) hb); replace BK251 := zM (blk_below (g := gb251) (o := .cells #[.int .i64 t246, .slice Ao123 t247.length co123] 27 (0, 0)) (zK BK251.out) hb); replace HB := zM (below_step zB hb); (try clear hb); (try clear hb2); (try clear hk); (try clear hi)))
                         go_ret
                         exact ⟨by first | rfl | (simp [errW_none, errW_some] <;> rfl) | (simp [*, errW_none, errW_some] <;> rfl), zB⟩
                       · rw [if_neg c155] at H
                         have c155b0 : (t253 == t239) = false := beq_eq_false_iff_ne.mpr c155
                         have c155b1 : (t253 != t239) = true := bne_iff_ne.mpr c155
                         obtain rfl := Option.some.inj H
                         have hnb162 := NB229_207.out
                         have hnc162 := NB207_229.out
                         have hnb163 := NB229_218.out
                         have hnc163 := NB218_229.out
                         have hnb164 := NB229_223.out
                         have hnc164 := NB223_229.out
                         have hnb165 := NB229_251.out
                         have hnc165 := NB251_229.out
                         have hcz166_0 := zy BK229 0
                         have hcz166_1 := zy BK229 1
                         have hfz166_0 := blk_frozen BK229.out 0
                         have hfz166_1 := blk_frozen BK229.out 1
                         go_wp2_with (first | ((with_reducible refine gate_callee (f := 23) rfl ?_); refine zc 90 Try.func23 #[.agg #[.int .i64 t224, .slice Ao36 t240.length co36], .int .i64 1] ?_; (with_reducible refine (laws_heldGraph.calls t224 _ _ t240 1 t253 _ ?side1 ?side2 A147.out).mono ?_); (case side1 => exact zC (Kd.R_reads' HO_230001.out).2.2); (case side2 => exact (Kd.R_reads' HO_230001.out).2.1); rintro e w167 ⟨rfl, hb⟩; refine ⟨_, rfl, ?_⟩; replace HO_219001 := zM (Kd.R_below (zR HO_219001.out) hb); replace HO_224001 := zM (Kd.R_below (zR HO_224001.out) hb); replace HO_230001 := zM (Kd.R_below (zR HO_230001.out) hb); replace HO_252001 := zM (Kd.R_below (zR HO_252001.out) hb); replace BK207 := zM (blk_below (g := gb207) (o := .cells #[.int .i64 a0_0, .slice A0_1 l0_1.length c0_1] 24 (0, 0)) (zK BK207.out) hb); replace BK218 := zM (blk_below (g := gb218) (o := .cells #[.int .i64 t213, .slice Ao22 t214.length co22] 27 (0, 0)) (zK BK218.out) hb); replace BK223 := zM (blk_below (g := gb223) (o := .cells #[.int .i64 t219, .slice Ao29 t237.length co29] 27 (0, 0)) (zK BK223.out) hb); replace BK229 := zM (blk_below (g := gb229) (o := .cells #[.int .i64 t224, .slice Ao36 t240.length co36] 27 (0, 0)) (zK BK229.out) hb); replace BK251 := zM (blk_below (g := gb251) (o := .cells #[.int .i64 t246, .slice Ao123 t247.length co123] 27 (0, 0)) (zK BK251.out) hb); replace HB := zM (below_step zB hb); (try clear hb); (try clear hb2); (try clear hk); (try clear hi)))
                         go_ret
                         exact ⟨by first | rfl | (simp [errW_none, errW_some] <;> rfl) | (simp [*, errW_none, errW_some] <;> rfl), zB⟩
               · rw [if_neg c100] at H
                 have c100b0 : (t241 == t239) = false := beq_eq_false_iff_ne.mpr c100
                 have c100b1 : (t241 != t239) = true := bne_iff_ne.mpr c100
                 obtain rfl := Option.some.inj H
                 have hnb168 := NB229_207.out
                 have hnc168 := NB207_229.out
                 have hnb169 := NB229_218.out
                 have hnc169 := NB218_229.out
                 have hnb170 := NB229_223.out
                 have hnc170 := NB223_229.out
                 have hcz171_0 := zy BK229 0
                 have hcz171_1 := zy BK229 1
                 have hfz171_0 := blk_frozen BK229.out 0
                 have hfz171_1 := blk_frozen BK229.out 1
                 go_wp2_with (first | ((with_reducible refine gate_callee (f := 22) rfl ?_); refine zc 64 Try.func22 #[.agg #[.int .i64 t224, .slice Ao36 t225.length co36], .int .i64 1] ?_; (with_reducible refine (laws_markGraph.calls t224 (fun k_ => some k_ = (.slice Ao36 t225.length co36 : Value).ownBlock) (.slice Ao36 t225.length co36) t225 1 t239 t240 w _ ?side1 ?side2 A90.out).mono ?_); (case side1 => repeat (first | (with_reducible first | exact HB.out | apply below_alloc | apply pw_below_drewN | apply below_drew1 | refine below_set ?_ GE207.out | refine below_set ?_ GE218.out | refine below_set ?_ GE223.out | refine below_set ?_ GE229.out) | exact HB.out)); (case side2 => exact Kd.R_tight rfl HO_230001.out); rintro e w172 ⟨rfl, hy0, hb, hkp⟩; refine ⟨_, rfl, ?_⟩; replace HO_219001 := zM (Kd.R_mono (ok' := fun k_ => some k_ ≠ (.slice Ao29 t237.length co29 : Value).ownBlock ∧ some k_ ≠ (.slice Ao36 t225.length co36 : Value).ownBlock) (Kd.R_keptB (HO_219001.out) hkp (fun k_ hk_ hs_ => (hk_.2) hs_)) (fun k_ hk_ => ⟨hk_.1.1, hk_.1.2⟩)); replace HO_224001 := zM (Kd.R_mono (ok' := fun k_ => some k_ ≠ (.slice Ao22 t214.length co22 : Value).ownBlock ∧ some k_ ≠ (.slice Ao36 t225.length co36 : Value).ownBlock) (Kd.R_keptB (HO_224001.out) hkp (fun k_ hk_ hs_ => (hk_.2) hs_)) (fun k_ hk_ => ⟨hk_.1.1, hk_.1.2⟩)); replace BK207 := zM (blk_kept (zK BK207.out) hkp (fun hs_ => (fun e_ => (Kd.R_ne HO_230001.out BK207.out (by decide)) e_) hs_)); replace BK218 := zM (blk_kept (zK BK218.out) hkp (fun hs_ => (fun e_ => (Kd.R_ne HO_230001.out BK218.out (by decide)) e_) hs_)); replace BK223 := zM (blk_kept (zK BK223.out) hkp (fun hs_ => (fun e_ => (Kd.R_ne HO_230001.out BK223.out (by decide)) e_) hs_)); replace BK229 := zM (blk_kept (zK BK229.out) hkp (fun hs_ => (fun e_ => (Kd.R_ne HO_230001.out BK229.out (by decide)) e_) hs_)); replace HO_230001 := zM (Kd.R_reok rfl hy0 (fun k_ e_ => HO_230001.out.1 k_ e_)); replace HB := zM (hb); (try clear hb); (try clear hkp); (try clear hy0); have hcz173_0 := zy BK229 0; have hcz173_1 := zy BK229 1; have hfz173_0 := blk_frozen BK229.out 0; have hfz173_1 := blk_frozen BK229.out 1) | ((with_reducible refine gate_callee (f := 23) rfl ?_); refine goesL_ (some 67) rfl rfl Try.func23 (by kernel_rfl) rfl #[.agg #[.int .i64 t224, .slice Ao36 t240.length co36], .int .i64 1] rfl (by (try simp only [List.map_toArray, List.map_cons, List.map_nil]); first | done | (rw [show t240.length = t225.length from (Kd.R_reads' HO_230001.out).1.symm] <;> rfl) | rfl | (simp only [List.length_drop, List.length_take]; rfl)) ?_; (with_reducible refine (laws_heldGraph.calls t224 _ _ t240 1 t241 _ ?side1 ?side2 A91.out).mono ?_); (case side1 => exact zC (Kd.R_reads' HO_230001.out).2.2); (case side2 => rw [show t240.length = t225.length from (Kd.R_reads' HO_230001.out).1.symm]; exact (Kd.R_reads' HO_230001.out).2.1); rintro e w174 ⟨rfl, hb⟩; refine ⟨_, rfl, ?_⟩; replace HO_219001 := zM (Kd.R_below (zR HO_219001.out) hb); replace HO_224001 := zM (Kd.R_below (zR HO_224001.out) hb); replace HO_230001 := zM (Kd.R_below (zR HO_230001.out) hb); replace BK207 := zM (blk_below (g := gb207) (o := .cells #[.int .i64 a0_0, .slice A0_1 l0_1.length c0_1] 24 (0, 0)) (zK BK207.out) hb); replace BK218 := zM (blk_below (g := gb218) (o := .cells #[.int .i64 t213, .slice Ao22 t214.length co22] 27 (0, 0)) (zK BK218.out) hb); replace BK223 := zM (blk_below (g := gb223) (o := .cells #[.int .i64 t219, .slice Ao29 t237.length co29] 27 (0, 0)) (zK BK223.out) hb); replace BK229 := zM (blk_below (g := gb229) (o := .cells #[.int .i64 t224, .slice Ao36 t225.length co36] 27 (0, 0)) (zK BK229.out) hb); replace HB := zM (below_step zB hb); (try clear hb); (try clear hb2); (try clear hk); (try clear hi)))
                 go_ret
                 exact ⟨by first | rfl | (simp [errW_none, errW_some] <;> rfl) | (simp [*, errW_none, errW_some] <;> rfl), zB⟩
       · replace c58 := Bool.eq_false_iff.mpr c58
         subst c58
         have H1 : (some false) = some r := by rw [if_neg (show ¬ (false = true) by decide)] at H; exact H
         clear H
         have H := H1
         clear H1
         obtain rfl := Option.some.inj H
         try go_wp2
         replace HO_219001 := zM (Kd.R_drew HO_219001.out)
         replace HO_224001 := zM (Kd.R_drew HO_224001.out)
         replace HO_230001 := zM (Kd.R_drew HO_230001.out)
         replace BK207 := zM (blk_drew BK207.out)
         replace BK218 := zM (blk_drew BK218.out)
         replace BK223 := zM (blk_drew BK223.out)
         replace BK229 := zM (blk_drew BK229.out)
         replace HB := zM (below_drew1 HB.out)
         refine zs (n := 5) (fun w' => w'.cell? ⟨gb223, 0, none⟩ = some (.int .i64 t219) ∧ w'.cell? ⟨gb223, 1, none⟩ = some (.slice Ao29 t220.length co29) ∧ w'.cell? ⟨gb207, 0, none⟩ = some (.int .i64 a0_0) ∧ w'.cell? ⟨gb207, 1, none⟩ = some (.slice A0_1 l0_1.length c0_1)) ⟨(blk_cell BK223.out 0).trans rfl, (blk_cell BK223.out 1).trans rfl, (blk_cell BK207.out 0).trans rfl, (blk_cell BK207.out 1).trans rfl⟩ (fun hHeld => ?_)
         generalize wc.drew = w175 at HO_219001 HO_224001 HO_230001 BK207 BK218 BK223 BK229 HB hHeld ⊢
         refine zl 0 41 hHeld ?_ (hy := by rintro w' ⟨s0, s1, s2, s3⟩; go_simp; with_reducible rfl)
         refine zl 1 42 hHeld ?_ (hy := by rintro w' ⟨s0, s1, s2, s3⟩; go_simp; with_reducible rfl)
         refine zh 2 43 Try.func17 #[.agg #[.int .i64 a0_0, .slice A0_1 l0_1.length c0_1]] (fun K hK => ?_)
         with_reducible refine (laws_toGraph.calls kj10 a0_0 _ _ l0_1 t231 t232 _ ?side1 ?side2 A56.out).mono ?_
         (case side1 => exact zC (Kd.C_below HR0_1.out HB.out))
         (case side2 => exact HC0_1.out)
         rintro e w176 ⟨v233, rfl, ho0, hb⟩
         refine ⟨_, rfl, ?_⟩
         have HO234 := zM (Kd.R_lower (Kd.R_new' (Kd.R_new' (Kd.R_new' ho0 (Kd.R_lt (zR HO_219001.out))) (Kd.R_lt (zR HO_224001.out))) (Kd.R_lt (zR HO_230001.out))) (below_size zB))
         replace HO_219001 := zM (Kd.R_elder' (zR HO_219001.out) (Kd.R_base ho0) hb)
         replace HO_224001 := zM (Kd.R_elder' (zR HO_224001.out) (Kd.R_base ho0) hb)
         replace HO_230001 := zM (Kd.R_elder' (zR HO_230001.out) (Kd.R_base ho0) hb)
         replace BK207 := zM (blk_below (g := gb207) (o := .cells #[.int .i64 a0_0, .slice A0_1 l0_1.length c0_1] 24 (0, 0)) (zK BK207.out) hb)
         replace BK218 := zM (blk_below (g := gb218) (o := .cells #[.int .i64 t213, .slice Ao22 t214.length co22] 27 (0, 0)) (zK BK218.out) hb)
         replace BK223 := zM (blk_below (g := gb223) (o := .cells #[.int .i64 t219, .slice Ao29 t220.length co29] 27 (0, 0)) (zK BK223.out) hb)
         replace BK229 := zM (blk_below (g := gb229) (o := .cells #[.int .i64 t224, .slice Ao36 t225.length co36] 27 (0, 0)) (zK BK229.out) hb)
         replace HB := zM (below_step zB hb)
         (try clear hb)
         (try clear hb2)
         (try clear hk)
         (try clear hi)
         (try clear ho0)
         obtain ⟨Ao177, co177, eo177⟩ := Kd.R_slice HO234.out
         (first | subst eo177 | (injection eo177 with f1_ f2_ f3_; have f4_ := f1_.symm; have f5_ := f3_.symm; clear f1_ f2_ f3_; subst f4_; subst f5_))
         refine hK.out _ _ ⟨(blk_cell BK223.out 0).trans rfl, (blk_cell BK223.out 1).trans rfl, (blk_cell BK207.out 0).trans rfl, (blk_cell BK207.out 1).trans rfl⟩ (fun hHeld => ?_)
         clear hK K
         refine zn 43 ?_
         refine zh 3 44 Try.func19 #[.agg #[.int .i64 t219, .slice Ao29 t220.length co29], .agg #[.int .i64 t231, .slice Ao177 t232.length co177]] (fun K hK => ?_)
         with_reducible refine (laws_eqGraph.calls kj10 t219 _ _ t220 t231 _ _ t232 false _ ?side1 ?side2 ?side3 ?side4 A57.out).mono ?_
         (case side1 => exact zC (Kd.R_reads' HO_224001.out).2.2)
         (case side2 => exact (Kd.R_reads' HO_224001.out).2.1)
         (case side3 => exact zC (Kd.R_reads' HO234.out).2.2)
         (case side4 => exact (Kd.R_reads' HO234.out).2.1)
         rintro e w178 ⟨rfl, hb⟩
         refine ⟨_, rfl, ?_⟩
         replace HO_219001 := zM (Kd.R_below (zR HO_219001.out) hb)
         replace HO_224001 := zM (Kd.R_below (zR HO_224001.out) hb)
         replace HO_230001 := zM (Kd.R_below (zR HO_230001.out) hb)
         replace HO234 := zM (Kd.R_below (zR HO234.out) hb)
         replace BK207 := zM (blk_below (g := gb207) (o := .cells #[.int .i64 a0_0, .slice A0_1 l0_1.length c0_1] 24 (0, 0)) (zK BK207.out) hb)
         replace BK218 := zM (blk_below (g := gb218) (o := .cells #[.int .i64 t213, .slice Ao22 t214.length co22] 27 (0, 0)) (zK BK218.out) hb)
         replace BK223 := zM (blk_below (g := gb223) (o := .cells #[.int .i64 t219, .slice Ao29 t220.length co29] 27 (0, 0)) (zK BK223.out) hb)
         replace BK229 := zM (blk_below (g := gb229) (o := .cells #[.int .i64 t224, .slice Ao36 t225.length co36] 27 (0, 0)) (zK BK229.out) hb)
         replace HB := zM (below_step zB hb)
         (try clear hb)
         (try clear hb2)
         (try clear hk)
         (try clear hi)
         refine hK.out _ _ ⟨(blk_cell BK223.out 0).trans rfl, (blk_cell BK223.out 1).trans rfl, (blk_cell BK207.out 0).trans rfl, (blk_cell BK207.out 1).trans rfl⟩ (fun hHeld => ?_)
         clear hK K
         refine zn 44 ?_
         refine zq 4 45 ?_
         refine zx ?_
         try go_wp2
         go_ret
         exact ⟨by first | rfl | (simp [errW_none, errW_some] <;> rfl) | (simp [*, errW_none, errW_some] <;> rfl), zB⟩

end Go.Proofs.Ytpbngmkhpcgpkaa.P
