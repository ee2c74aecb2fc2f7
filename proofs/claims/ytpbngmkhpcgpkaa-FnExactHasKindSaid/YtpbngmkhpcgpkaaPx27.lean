-- Written by a program of this session (the kit's print, turned: wip/print/patch.py) out of the translation. Not trusted: Lean checks it.
import Derived.Test.YtpbngmkhpcgpkaaPx0
import Derived.Test.YtpbngmkhpcgpkaaPx2
import Derived.Test.YtpbngmkhpcgpkaaPx23
import Derived.Test.YtpbngmkhpcgpkaaPx24
import Derived.Test.YtpbngmkhpcgpkaaPx26
namespace Go.Proofs.Ytpbngmkhpcgpkaa.P
open Go.RowKit Go.Proofs.YtpbngmkhpcgpkaaW.PrintWords Go.Proofs.YtpbngmkhpcgpkaaW.PrintLast Go.Proofs.YtpbngmkhpcgpkaaW.PrintMore
attribute [local go_sem] max2_int min2_int max_two min_two max_three min_three max_four min_four   -- for this text's walks alone
set_option linter.unusedVariables false
set_option linter.unusedSimpArgs false

/-! ### laws_FnExactIsSpace: function 8 -/
def laws_FnExactIsSpace.f (k : Nat) (l0_0 : List (List Int)) (l0_1 : List (S68)) : Option (Bool) := (laws_szSpace.f k l0_0 l0_1 1048576).bind fun t539 => (if t539 < 0 then (some true) else ((laws_toSpace.f k l0_0 l0_1).bind fun bt540 => ((spec_IsSpace.f k bt540.1 bt540.2).bind fun t546 => ((laws_toSpace.f k l0_0 l0_1).bind fun bt547 => ((impl_IsSpace.f k bt547.1 bt547.2).bind fun t554 => (if (t554 != t546) = true then (some false) else ((laws_toSpace.f k l0_0 l0_1).bind fun bt555 => ((laws_eqSpace.f k bt547.1 bt547.2 bt555.1 bt555.2).bind fun t561 => (if t561 = true then (some true) else (some false))))))))))
theorem laws_FnExactIsSpace.mono : ∀ a0 a1 k, LeO (laws_FnExactIsSpace.f k a0 a1) (laws_FnExactIsSpace.f (k + 1) a0 a1) := by
 intro a0 a1 k
 unfold laws_FnExactIsSpace.f
 repeat' first
  | (with_reducible exact impl_IsSpace.mono _ _ _)
  | (with_reducible exact laws_eqSpace.mono _ _ _ _ _)
  | (with_reducible exact laws_szSpace.mono _ _ _ _)
  | (with_reducible exact laws_toSpace.mono _ _ _)
  | (with_reducible exact spec_IsSpace.mono _ _ _)
  | (with_reducible exact LeO.refl _)
  | (with_reducible exact LeO.none _)
  | (with_reducible refine LeO.ite ?_ ?_)
  | (with_reducible refine LeO.bind ?_ (fun _ => ?_))
  | exact impl_IsSpace.mono _ _ _
  | exact laws_eqSpace.mono _ _ _ _ _
  | exact laws_szSpace.mono _ _ _ _
  | exact laws_toSpace.mono _ _ _
  | exact spec_IsSpace.mono _ _ _
  | exact LeO.none _
  | refine LeO.ite ?_ ?_
  | refine LeO.bind ?_ (fun _ => ?_)
set_option maxHeartbeats 8000000 in
set_option maxRecDepth 100000 in
theorem laws_FnExactIsSpace.calls (k : Nat) (A0_0 : Option Addr) (c0_0 : Nat) (l0_0 : List (List Int)) (A0_1 : Option Addr) (c0_1 : Nat) (l0_1 : List (S68)) (r : Bool) (w : World) (hr0_0 : Kd.C (Kd.slice 3 (Kd.int .i64)) w A0_0 l0_0.length l0_0) (hc0_0 : l0_0.length ≤ c0_0) (hr0_1 : Kd.C k68 w A0_1 l0_1.length l0_1) (hc0_1 : l0_1.length ≤ c0_1) (h : laws_FnExactIsSpace.f k l0_0 l0_1 = some r) :
 Calls Try.prog 8 #[.agg #[.slice A0_0 l0_0.length c0_0, .slice A0_1 l0_1.length c0_1]] w fun e w' => e = .returned (.bool r) ∧ Below w.heap.size w w' := by
 have hu47 := Try.underlying47
 have hu50 := Try.underlying50
 have HR0_0 := Aside0.mk hr0_0
 have HC0_0 := Aside0.mk hc0_0
 clear hr0_0 hc0_0
 have HR0_1 := Aside0.mk hr0_1
 have HC0_1 := Aside0.mk hc0_1
 clear hr0_1 hc0_1
 have HB := zM (Below.refl w.heap.size w)
 have H : ((laws_szSpace.f k l0_0 l0_1 1048576).bind fun t539 => (if t539 < 0 then (some true) else ((laws_toSpace.f k l0_0 l0_1).bind fun bt540 => ((spec_IsSpace.f k bt540.1 bt540.2).bind fun t546 => ((laws_toSpace.f k l0_0 l0_1).bind fun bt547 => ((impl_IsSpace.f k bt547.1 bt547.2).bind fun t554 => (if (t554 != t546) = true then (some false) else ((laws_toSpace.f k l0_0 l0_1).bind fun bt555 => ((laws_eqSpace.f k bt547.1 bt547.2 bt555.1 bt555.2).bind fun t561 => (if t561 = true then (some true) else (some false))))))))))) = some r := h
 clear h
 replace H := Option.bind_eq_some_iff.mp H
 obtain ⟨t539, A20, H⟩ := H
 have A2 := Aside0.mk A20
 clear A20
 by_cases c3 : t539 < 0
 · rw [if_pos c3] at H
   have c3b0 := decide_eq_true c3
   clear c3
   obtain rfl := Option.some.inj H
   go_enter Try.func8, Try.ntmps8
   go_wp2_with (first | ((with_reducible refine gate_dst (N := 1) rfl ?_); refine zb (w := w) 1 #[.slice A0_0 l0_0.length c0_0, .slice A0_1 l0_1.length c0_1] 47 zB ?_; clear HB; intro gb538 w4 HB BK538 GW538; have GE538 := GW538; have hcz5_0 := zy BK538 0; have hcz5_1 := zy BK538 1; have hfz5_0 := blk_frozen BK538.out 0; have hfz5_1 := blk_frozen BK538.out 1) | ((with_reducible refine gate_callee (f := 34) rfl ?_); refine zc 9 Try.func34 #[.agg #[.slice A0_0 l0_0.length c0_0, .slice A0_1 l0_1.length c0_1], .int .i64 1048576] ?_; (with_reducible refine (laws_szSpace.calls k _ _ l0_0 _ _ l0_1 1048576 t539 _ ?side1 ?side2 ?side3 ?side4 A2.out).mono ?_); (case side1 => exact zC (Kd.C_below HR0_0.out HB.out)); (case side2 => exact HC0_0.out); (case side3 => exact zC (Kd.C_below HR0_1.out HB.out)); (case side4 => exact HC0_1.out); rintro e w6 ⟨rfl, hb⟩; refine ⟨_, rfl, ?_⟩; replace BK538 := zM (blk_below (g := gb538) (o := .cells #[.slice A0_0 l0_0.length c0_0, .slice A0_1 l0_1.length c0_1] 47 (0, 0)) (zK BK538.out) hb); replace HB := zM (below_step zB hb); (try clear hb); (try clear hb2); (try clear hk); (try clear hi)))
   go_ret
   exact ⟨by first | rfl | (simp [errW_none, errW_some] <;> rfl) | (simp [*, errW_none, errW_some] <;> rfl), zB⟩
 · rw [if_neg c3] at H
   have c3b0 : decide (t539 < 0) = false := decide_eq_false c3
   clear c3
   replace H := Option.bind_eq_some_iff.mp H
   obtain ⟨⟨t540, t543⟩, A70, H⟩ := H
   replace H : ((spec_IsSpace.f k t540 t543).bind fun t546 => ((laws_toSpace.f k l0_0 l0_1).bind fun bt547 => ((impl_IsSpace.f k bt547.1 bt547.2).bind fun t554 => (if (t554 != t546) = true then (some false) else ((laws_toSpace.f k l0_0 l0_1).bind fun bt555 => ((laws_eqSpace.f k bt547.1 bt547.2 bt555.1 bt555.2).bind fun t561 => (if t561 = true then (some true) else (some false)))))))) = some r := H
   have A7 := Aside0.mk A70
   clear A70
   replace H := Option.bind_eq_some_iff.mp H
   obtain ⟨t546, A80, H⟩ := H
   have A8 := Aside0.mk A80
   clear A80
   replace H := Option.bind_eq_some_iff.mp H
   obtain ⟨⟨t547, t550⟩, A90, H⟩ := H
   replace H : ((impl_IsSpace.f k t547 t550).bind fun t554 => (if (t554 != t546) = true then (some false) else ((laws_toSpace.f k l0_0 l0_1).bind fun bt555 => ((laws_eqSpace.f k t547 t550 bt555.1 bt555.2).bind fun t561 => (if t561 = true then (some true) else (some false)))))) = some r := H
   have A9 := Aside0.mk A90
   clear A90
   replace H := Option.bind_eq_some_iff.mp H
   obtain ⟨t554, A100, H⟩ := H
   have A10 := Aside0.mk A100
   clear A100
   by_cases c11 : (t554 != t546) = true
   · rw [if_pos c11] at H
     have c11b0 : (t554 != t546) = true := c11
     (try (have c11b1 : decide (t554 = t546) = false := by simpa using c11))
     (try (have c11b2 : (t554 == t546) = false := by simpa using c11))
     (try (have c11b3 : ¬ (t554 = t546) := by simpa using c11))
     clear c11
     obtain rfl := Option.some.inj H
     go_enter Try.func8, Try.ntmps8
     go_wp2_with (first | ((with_reducible refine gate_dst (N := 1) rfl ?_); refine zb (w := w) 1 #[.slice A0_0 l0_0.length c0_0, .slice A0_1 l0_1.length c0_1] 47 zB ?_; clear HB; intro gb538 w12 HB BK538 GW538; have GE538 := GW538; have hcz13_0 := zy BK538 0; have hcz13_1 := zy BK538 1; have hfz13_0 := blk_frozen BK538.out 0; have hfz13_1 := blk_frozen BK538.out 1) | ((with_reducible refine gate_callee (f := 34) rfl ?_); refine zc 9 Try.func34 #[.agg #[.slice A0_0 l0_0.length c0_0, .slice A0_1 l0_1.length c0_1], .int .i64 1048576] ?_; (with_reducible refine (laws_szSpace.calls k _ _ l0_0 _ _ l0_1 1048576 t539 _ ?side1 ?side2 ?side3 ?side4 A2.out).mono ?_); (case side1 => exact zC (Kd.C_below HR0_0.out HB.out)); (case side2 => exact HC0_0.out); (case side3 => exact zC (Kd.C_below HR0_1.out HB.out)); (case side4 => exact HC0_1.out); rintro e w14 ⟨rfl, hb⟩; refine ⟨_, rfl, ?_⟩; replace BK538 := zM (blk_below (g := gb538) (o := .cells #[.slice A0_0 l0_0.length c0_0, .slice A0_1 l0_1.length c0_1] 47 (0, 0)) (zK BK538.out) hb); replace HB := zM (below_step zB hb); (try clear hb); (try clear hb2); (try clear hk); (try clear hi); have hcz15_0 := zy BK538 0; have hcz15_1 := zy BK538 1; have hfz15_0 := blk_frozen BK538.out 0; have hfz15_1 := blk_frozen BK538.out 1) | ((with_reducible refine gate_callee (f := 36) rfl ?_); refine zc 13 Try.func36 #[.agg #[.slice A0_0 l0_0.length c0_0, .slice A0_1 l0_1.length c0_1]] ?_; (with_reducible refine (laws_toSpace.calls k _ _ l0_0 _ _ l0_1 t540 t543 _ ?side1 ?side2 ?side3 ?side4 A7.out).mono ?_); (case side1 => exact zC (Kd.C_below HR0_0.out HB.out)); (case side2 => exact HC0_0.out); (case side3 => exact zC (Kd.C_below HR0_1.out HB.out)); (case side4 => exact HC0_1.out); rintro e w16 ⟨v541, v544, rfl, ho0, ho1, hb⟩; refine ⟨_, rfl, ?_⟩; have HO542 := zM (Kd.S_lower ho0 (below_size zB)); have HO545 := zM (Kd.R_lower ho1 (below_size zB)); replace BK538 := zM (blk_below (g := gb538) (o := .cells #[.slice A0_0 l0_0.length c0_0, .slice A0_1 l0_1.length c0_1] 47 (0, 0)) (zK BK538.out) hb); replace HB := zM (below_step zB hb); (try clear hb); (try clear hb2); (try clear hk); (try clear hi); (try clear ho0); (try clear ho1); obtain ⟨Ao17, co17, eo17⟩ := Kd.S_slice HO542.out; subst eo17; obtain ⟨Ao18, co18, eo18⟩ := Kd.R_slice HO545.out; subst eo18) | ((with_reducible refine gate_callee (f := 35) rfl ?_); refine zc 14 Try.func35 #[.agg #[.slice Ao17 t540.length co17, .slice Ao18 t543.length co18]] ?_; (with_reducible refine (spec_IsSpace.calls k _ _ t540 _ _ t543 t546 _ ?side1 ?side2 ?side3 ?side4 A8.out).mono ?_); (case side1 => exact zC (Kd.S_reads' HO542.out).2.2); (case side2 => exact (Kd.S_reads' HO542.out).2.1); (case side3 => exact zC (Kd.R_reads' HO545.out).2.2); (case side4 => exact (Kd.R_reads' HO545.out).2.1); rintro e w19 ⟨rfl, hb⟩; refine ⟨_, rfl, ?_⟩; replace HO542 := zM (Kd.S_below (by (with_reducible repeat (first | apply Kd.S_alloc | apply Kd.S_drewN | apply Kd.S_drew)); exact HO542.out) hb); replace HO545 := zM (Kd.R_below (zR HO545.out) hb); replace BK538 := zM (blk_below (g := gb538) (o := .cells #[.slice A0_0 l0_0.length c0_0, .slice A0_1 l0_1.length c0_1] 47 (0, 0)) (zK BK538.out) hb); replace HB := zM (below_step zB hb); (try clear hb); (try clear hb2); (try clear hk); (try clear hi); have hcz20_0 := zy BK538 0; have hcz20_1 := zy BK538 1; have hfz20_0 := blk_frozen BK538.out 0; have hfz20_1 := blk_frozen BK538.out 1) | ((with_reducible refine gate_callee (f := 36) rfl ?_); refine zc 16 Try.func36 #[.agg #[.slice A0_0 l0_0.length c0_0, .slice A0_1 l0_1.length c0_1]] ?_; (with_reducible refine (laws_toSpace.calls k _ _ l0_0 _ _ l0_1 t547 t550 _ ?side1 ?side2 ?side3 ?side4 A9.out).mono ?_); (case side1 => exact zC (Kd.C_below HR0_0.out HB.out)); (case side2 => exact HC0_0.out); (case side3 => exact zC (Kd.C_below HR0_1.out HB.out)); (case side4 => exact HC0_1.out); rintro e w21 ⟨v548, v551, rfl, ho0, ho1, hb⟩; refine ⟨_, rfl, ?_⟩; have HO549 := zM (Kd.S_lower (Kd.S_new' ho0 (Kd.S_lt (by (with_reducible repeat (first | apply Kd.S_alloc | apply Kd.S_drewN | apply Kd.S_drew)); exact HO542.out))) (below_size zB)); replace HO542 := zM (Kd.S_elder' (by (with_reducible repeat (first | apply Kd.S_alloc | apply Kd.S_drewN | apply Kd.S_drew)); exact HO542.out) (Kd.S_base ho0) hb); have HO552 := zM (Kd.R_lower (Kd.R_new' ho1 (Kd.R_lt (zR HO545.out))) (below_size zB)); replace HO545 := zM (Kd.R_elder' (zR HO545.out) (Kd.R_base ho1) hb); replace BK538 := zM (blk_below (g := gb538) (o := .cells #[.slice A0_0 l0_0.length c0_0, .slice A0_1 l0_1.length c0_1] 47 (0, 0)) (zK BK538.out) hb); replace HB := zM (below_step zB hb); (try clear hb); (try clear hb2); (try clear hk); (try clear hi); (try clear ho0); (try clear ho1)) | ((with_reducible refine gate_dst (N := 5) rfl ?_); refine ze 5 #[.slice none 0 0, .slice none 0 0] 50 ?_; intro gb553 hg w22 hbox hb; replace HO542 := zM (Kd.S_below (by (with_reducible repeat (first | apply Kd.S_alloc | apply Kd.S_drewN | apply Kd.S_drew)); exact HO542.out) hb); replace HO545 := zM (Kd.R_below (zR HO545.out) hb); replace HO549 := zM (Kd.S_below (by (with_reducible repeat (first | apply Kd.S_alloc | apply Kd.S_drewN | apply Kd.S_drew)); exact HO549.out) hb); replace HO552 := zM (Kd.R_below (zR HO552.out) hb); have BK553 := zM (hbox); have GW553 := zM ((by rw [hg]; exact (below_size zB) : w.heap.size ≤ gb553)); have GE553 := zM ((by rw [hg]; exact (below_size zB) : w.heap.size ≤ gb553)); replace HB := zM (below_step zB hb); have NB538_553 := zM ((by rw [hg]; exact Nat.ne_of_lt (blk_lt (g := gb538) (o := .cells #[.slice A0_0 l0_0.length c0_0, .slice A0_1 l0_1.length c0_1] 47 (0, 0)) (zK BK538.out)) : gb538 ≠ gb553)); have NB553_538 := zM ((by rw [hg]; exact Nat.ne_of_gt (blk_lt (g := gb538) (o := .cells #[.slice A0_0 l0_0.length c0_0, .slice A0_1 l0_1.length c0_1] 47 (0, 0)) (zK BK538.out)) : gb553 ≠ gb538)); replace BK538 := zM (blk_below (g := gb538) (o := .cells #[.slice A0_0 l0_0.length c0_0, .slice A0_1 l0_1.length c0_1] 47 (0, 0)) (zK BK538.out) hb); clear hb hbox hg; obtain ⟨Ao23, co23, eo23⟩ := Kd.S_slice HO549.out; subst eo23; have hnb24 := NB553_538.out; have hnc24 := NB538_553.out; have hcz25_0 := zy BK553 0; have hcz25_1 := zy BK553 1; have hfz25_0 := blk_frozen BK553.out 0; have hfz25_1 := blk_frozen BK553.out 1; obtain ⟨Ao26, co26, eo26⟩ := Kd.R_slice HO552.out; subst eo26) | ((with_reducible refine gate_callee (f := 37) rfl ?_); refine zc 18 Try.func37 #[.agg #[.slice Ao23 t547.length co23, .slice Ao26 t550.length co26]] ?_; (with_reducible refine (impl_IsSpace.calls k _ _ t547 _ _ t550 t554 _ ?side1 ?side2 ?side3 ?side4 A10.out).mono ?_); (case side1 => refine (Kd.S_reads' (e := 34) (base := w.heap.size) (ok := fun k_ => (True ∧ some k_ ≠ (.slice Ao17 t540.length co17 : Value).ownBlock)) (n := t547.length) (c := co23) ?_).2.2; exact (by (with_reducible repeat (first | apply Kd.S_alloc | apply Kd.S_drewN | apply Kd.S_drew)); exact (Kd.S_mono (Kd.S_far (p := ⟨gb553, 1, none⟩) (Kd.S_far (p := ⟨gb553, 0, none⟩) (Kd.S_types HO549.out BK553.out (by decide)) (fun _ hk => hk.2) (.slice Ao23 t547.length co23)) (fun _ hk => hk.2) (.slice Ao26 t550.length co26)) (fun _ h_ => h_.1)))); (case side2 => exact (Kd.S_reads' HO549.out).2.1); (case side3 => refine (Kd.R_reads' (e := 68) (base := w.heap.size) (ok := fun k_ => (True ∧ some k_ ≠ (.slice Ao18 t543.length co18 : Value).ownBlock)) (n := t550.length) (c := co26) ?_).2.2; exact (by (with_reducible repeat (first | apply Kd.R_alloc | apply Kd.R_drewN | apply Kd.R_drew)); exact (Kd.R_mono (Kd.R_far (p := ⟨gb553, 1, none⟩) (Kd.R_far (p := ⟨gb553, 0, none⟩) (Kd.R_types HO552.out BK553.out (by decide)) (fun _ hk => hk.2) (.slice Ao23 t547.length co23)) (fun _ hk => hk.2) (.slice Ao26 t550.length co26)) (fun _ h_ => h_.1)))); (case side4 => exact (Kd.R_reads' HO552.out).2.1); rintro e w27 ⟨rfl, hb⟩; refine ⟨_, rfl, ?_⟩; replace HO542 := zM (Kd.S_below (by (with_reducible repeat (first | apply Kd.S_alloc | apply Kd.S_drewN | apply Kd.S_drew)); exact (Kd.S_mono (Kd.S_far (p := ⟨gb553, 1, none⟩) (Kd.S_far (p := ⟨gb553, 0, none⟩) (Kd.S_types HO542.out BK553.out (by decide)) (fun _ hk => hk.2) (.slice Ao23 t547.length co23)) (fun _ hk => hk.2) (.slice Ao26 t550.length co26)) (fun _ h_ => h_.1))) hb); replace HO545 := zM (Kd.R_below (by (with_reducible repeat (first | apply Kd.R_alloc | apply Kd.R_drewN | apply Kd.R_drew)); exact (Kd.R_mono (Kd.R_far (p := ⟨gb553, 1, none⟩) (Kd.R_far (p := ⟨gb553, 0, none⟩) (Kd.R_types HO545.out BK553.out (by decide)) (fun _ hk => hk.2) (.slice Ao23 t547.length co23)) (fun _ hk => hk.2) (.slice Ao26 t550.length co26)) (fun _ h_ => h_.1))) hb); replace HO549 := zM (Kd.S_below (by (with_reducible repeat (first | apply Kd.S_alloc | apply Kd.S_drewN | apply Kd.S_drew)); exact (Kd.S_mono (Kd.S_far (p := ⟨gb553, 1, none⟩) (Kd.S_far (p := ⟨gb553, 0, none⟩) (Kd.S_types HO549.out BK553.out (by decide)) (fun _ hk => hk.2) (.slice Ao23 t547.length co23)) (fun _ hk => hk.2) (.slice Ao26 t550.length co26)) (fun _ h_ => h_.1))) hb); replace HO552 := zM (Kd.R_below (by (with_reducible repeat (first | apply Kd.R_alloc | apply Kd.R_drewN | apply Kd.R_drew)); exact (Kd.R_mono (Kd.R_far (p := ⟨gb553, 1, none⟩) (Kd.R_far (p := ⟨gb553, 0, none⟩) (Kd.R_types HO552.out BK553.out (by decide)) (fun _ hk => hk.2) (.slice Ao23 t547.length co23)) (fun _ hk => hk.2) (.slice Ao26 t550.length co26)) (fun _ h_ => h_.1))) hb); replace BK538 := zM (blk_below (g := gb538) (o := .cells #[.slice A0_0 l0_0.length c0_0, .slice A0_1 l0_1.length c0_1] 47 (0, 0)) (by (with_reducible repeat (first | refine blk_drewN ?_ _ | refine blk_drew ?_ | refine blk_alloc ?_ _)); refine blk_far ?_ NB538_553.out _; (with_reducible repeat (first | refine blk_drewN ?_ _ | refine blk_drew ?_ | refine blk_alloc ?_ _)); refine blk_far ?_ NB538_553.out _; (with_reducible repeat (first | refine blk_drewN ?_ _ | refine blk_drew ?_ | refine blk_alloc ?_ _)); exact BK538.out) hb); replace BK553 := zM (blk_below (g := gb553) (o := .cells #[.slice Ao23 t547.length co23, .slice Ao26 t550.length co26] 50 (0, 0)) (by (with_reducible repeat (first | refine blk_drewN ?_ _ | refine blk_drew ?_ | refine blk_alloc ?_ _)); refine blk_put (cs := #[.slice Ao23 t547.length co23, .slice none 0 0]) ?_ 1 _ rfl; (with_reducible repeat (first | refine blk_drewN ?_ _ | refine blk_drew ?_ | refine blk_alloc ?_ _)); refine blk_put (cs := #[.slice none 0 0, .slice none 0 0]) ?_ 0 _ rfl; (with_reducible repeat (first | refine blk_drewN ?_ _ | refine blk_drew ?_ | refine blk_alloc ?_ _)); exact BK553.out) hb); replace HB := zM (below_step zB hb); (try clear hb); (try clear hb2); (try clear hk); (try clear hi)))
     go_ret
     exact ⟨by first | rfl | (simp [errW_none, errW_some] <;> rfl) | (simp [*, errW_none, errW_some] <;> rfl), zB⟩
   · rw [if_neg c11] at H
     have c11b0 : (t554 != t546) = false := by simpa using c11
     (try (have c11b1 : decide (t554 = t546) = true := by simpa using c11))
     (try (have c11b2 : (t554 == t546) = true := by simpa using c11))
     clear c11
     replace H := Option.bind_eq_some_iff.mp H
     obtain ⟨⟨t555, t558⟩, A280, H⟩ := H
     replace H : ((laws_eqSpace.f k t547 t550 t555 t558).bind fun t561 => (if t561 = true then (some true) else (some false))) = some r := H
     have A28 := Aside0.mk A280
     clear A280
     replace H := Option.bind_eq_some_iff.mp H
     obtain ⟨t561, A290, H⟩ := H
     have A29 := Aside0.mk A290
     clear A290
     by_cases c30 : t561 = true
     · subst c30
       rw [if_pos rfl] at H
       obtain rfl := Option.some.inj H
       go_enter Try.func8, Try.ntmps8
       try go_wp2_with (first | ((with_reducible refine gate_dst (N := 1) rfl ?_); refine zb (w := w) 1 #[.slice A0_0 l0_0.length c0_0, .slice A0_1 l0_1.length c0_1] 47 zB ?_; clear HB; intro gb538 w31 HB BK538 GW538; have GE538 := GW538; have hcz32_0 := zy BK538 0; have hcz32_1 := zy BK538 1; have hfz32_0 := blk_frozen BK538.out 0; have hfz32_1 := blk_frozen BK538.out 1) | ((with_reducible refine gate_callee (f := 34) rfl ?_); refine zc 9 Try.func34 #[.agg #[.slice A0_0 l0_0.length c0_0, .slice A0_1 l0_1.length c0_1], .int .i64 1048576] ?_; (with_reducible refine (laws_szSpace.calls k _ _ l0_0 _ _ l0_1 1048576 t539 _ ?side1 ?side2 ?side3 ?side4 A2.out).mono ?_); (case side1 => exact zC (Kd.C_below HR0_0.out HB.out)); (case side2 => exact HC0_0.out); (case side3 => exact zC (Kd.C_below HR0_1.out HB.out)); (case side4 => exact HC0_1.out); rintro e w33 ⟨rfl, hb⟩; refine ⟨_, rfl, ?_⟩; replace BK538 := zM (blk_below (g := gb538) (o := .cells #[.slice A0_0 l0_0.length c0_0, .slice A0_1 l0_1.length c0_1] 47 (0, 0)) (zK BK538.out) hb); replace HB := zM (below_step zB hb); (try clear hb); (try clear hb2); (try clear hk); (try clear hi); have hcz34_0 := zy BK538 0; have hcz34_1 := zy BK538 1; have hfz34_0 := blk_frozen BK538.out 0; have hfz34_1 := blk_frozen BK538.out 1) | ((with_reducible refine gate_callee (f := 36) rfl ?_); refine zc 13 Try.func36 #[.agg #[.slice A0_0 l0_0.length c0_0, .slice A0_1 l0_1.length c0_1]] ?_; (with_reducible refine (laws_toSpace.calls k _ _ l0_0 _ _ l0_1 t540 t543 _ ?side1 ?side2 ?side3 ?side4 A7.out).mono ?_); (case side1 => exact zC (Kd.C_below HR0_0.out HB.out)); (case side2 => exact HC0_0.out); (case side3 => exact zC (Kd.C_below HR0_1.out HB.out)); (case side4 => exact HC0_1.out); rintro e w35 ⟨v541, v544, rfl, ho0, ho1, hb⟩; refine ⟨_, rfl, ?_⟩; have HO542 := zM (Kd.S_lower ho0 (below_size zB)); have HO545 := zM (Kd.R_lower ho1 (below_size zB)); replace BK538 := zM (blk_below (g := gb538) (o := .cells #[.slice A0_0 l0_0.length c0_0, .slice A0_1 l0_1.length c0_1] 47 (0, 0)) (zK BK538.out) hb); replace HB := zM (below_step zB hb); (try clear hb); (try clear hb2); (try clear hk); (try clear hi); (try clear ho0); (try clear ho1); obtain ⟨Ao36, co36, eo36⟩ := Kd.S_slice HO542.out; subst eo36; obtain ⟨Ao37, co37, eo37⟩ := Kd.R_slice HO545.out; subst eo37) | ((with_reducible refine gate_callee (f := 35) rfl ?_); refine zc 14 Try.func35 #[.agg #[.slice Ao36 t540.length co36, .slice Ao37 t543.length co37]] ?_; (with_reducible refine (spec_IsSpace.calls k _ _ t540 _ _ t543 t546 _ ?side1 ?side2 ?side3 ?side4 A8.out).mono ?_); (case side1 => exact zC (Kd.S_reads' HO542.out).2.2); (case side2 => exact (Kd.S_reads' HO542.out).2.1); (case side3 => exact zC (Kd.R_reads' HO545.out).2.2); (case side4 => exact (Kd.R_reads' HO545.out).2.1); rintro e w38 ⟨rfl, hb⟩; refine ⟨_, rfl, ?_⟩; replace HO542 := zM (Kd.S_below (by (with_reducible repeat (first | apply Kd.S_alloc | apply Kd.S_drewN | apply Kd.S_drew)); exact HO542.out) hb); replace HO545 := zM (Kd.R_below (zR HO545.out) hb); replace BK538 := zM (blk_below (g := gb538) (o := .cells #[.slice A0_0 l0_0.length c0_0, .slice A0_1 l0_1.length c0_1] 47 (0, 0)) (zK BK538.out) hb); replace HB := zM (below_step zB hb); (try clear hb); (try clear hb2); (try clear hk); (try clear hi); have hcz39_0 := zy BK538 0; have hcz39_1 := zy BK538 1; have hfz39_0 := blk_frozen BK538.out 0; have hfz39_1 := blk_frozen BK538.out 1) | ((with_reducible refine gate_callee (f := 36) rfl ?_); refine zc 16 Try.func36 #[.agg #[.slice A0_0 l0_0.length c0_0, .slice A0_1 l0_1.length c0_1]] ?_; (with_reducible refine (laws_toSpace.calls k _ _ l0_0 _ _ l0_1 t547 t550 _ ?side1 ?side2 ?side3 ?side4 A9.out).mono ?_); (case side1 => exact zC (Kd.C_below HR0_0.out HB.out)); (case side2 => exact HC0_0.out); (case side3 => exact zC (Kd.C_below HR0_1.out HB.out)); (case side4 => exact HC0_1.out); rintro e w40 ⟨v548, v551, rfl, ho0, ho1, hb⟩; refine ⟨_, rfl, ?_⟩; have HO549 := zM (Kd.S_lower (Kd.S_new' ho0 (Kd.S_lt (by (with_reducible repeat (first | apply Kd.S_alloc | apply Kd.S_drewN | apply Kd.S_drew)); exact HO542.out))) (below_size zB)); replace HO542 := zM (Kd.S_elder' (by (with_reducible repeat (first | apply Kd.S_alloc | apply Kd.S_drewN | apply Kd.S_drew)); exact HO542.out) (Kd.S_base ho0) hb); have HO552 := zM (Kd.R_lower (Kd.R_new' ho1 (Kd.R_lt (zR HO545.out))) (below_size zB)); replace HO545 := zM (Kd.R_elder' (zR HO545.out) (Kd.R_base ho1) hb); replace BK538 := zM (blk_below (g := gb538) (o := .cells #[.slice A0_0 l0_0.length c0_0, .slice A0_1 l0_1.length c0_1] 47 (0, 0)) (zK BK538.out) hb); replace HB := zM (below_step zB hb); (try clear hb); (try clear hb2); (try clear hk); (try clear hi); (try clear ho0); (try clear ho1)) | ((with_reducible refine gate_dst (N := 5) rfl ?_); refine ze 5 #[.slice none 0 0, .slice none 0 0] 50 ?_; intro gb553 hg w41 hbox hb; replace HO542 := zM (Kd.S_below (by (with_reducible repeat (first | apply Kd.S_alloc | apply Kd.S_drewN | apply Kd.S_drew)); exact HO542.out) hb); replace HO545 := zM (Kd.R_below (zR HO545.out) hb); replace HO549 := zM (Kd.S_below (by (with_reducible repeat (first | apply Kd.S_alloc | apply Kd.S_drewN | apply Kd.S_drew)); exact HO549.out) hb); replace HO552 := zM (Kd.R_below (zR HO552.out) hb); have BK553 := zM (hbox); have GW553 := zM ((by rw [hg]; exact (below_size zB) : w.heap.size ≤ gb553)); have GE553 := zM ((by rw [hg]; exact (below_size zB) : w.heap.size ≤ gb553)); replace HB := zM (below_step zB hb); have NB538_553 := zM ((by rw [hg]; exact Nat.ne_of_lt (blk_lt (g := gb538) (o := .cells #[.slice A0_0 l0_0.length c0_0, .slice A0_1 l0_1.length c0_1] 47 (0, 0)) (zK BK538.out)) : gb538 ≠ gb553)); have NB553_538 := zM ((by rw [hg]; exact Nat.ne_of_gt (blk_lt (g := gb538) (o := .cells #[.slice A0_0 l0_0.length c0_0, .slice A0_1 l0_1.length c0_1] 47 (0, 0)) (zK BK538.out)) : gb553 ≠ gb538)); replace BK538 := zM (blk_below (g := gb538) (o := .cells #[.slice A0_0 l0_0.length c0_0, .slice A0_1 l0_1.length c0_1] 47 (0, 0)) (zK BK538.out) hb); clear hb hbox hg; obtain ⟨Ao42, co42, eo42⟩ := Kd.S_slice HO549.out; subst eo42; have hnb43 := NB553_538.out; have hnc43 := NB538_553.out; have hcz44_0 := zy BK553 0; have hcz44_1 := zy BK553 1; have hfz44_0 := blk_frozen BK553.out 0; have hfz44_1 := blk_frozen BK553.out 1; obtain ⟨Ao45, co45, eo45⟩ := Kd.R_slice HO552.out; subst eo45) | ((with_reducible refine gate_callee (f := 37) rfl ?_); refine zc 18 Try.func37 #[.agg #[.slice Ao42 t547.length co42, .slice Ao45 t550.length co45]] ?_; (with_reducible refine (impl_IsSpace.calls k _ _ t547 _ _ t550 t554 _ ?side1 ?side2 ?side3 ?side4 A10.out).mono ?_); (case side1 => refine (Kd.S_reads' (e := 34) (base := w.heap.size) (ok := fun k_ => (True ∧ some k_ ≠ (.slice Ao36 t540.length co36 : Value).ownBlock)) (n := t547.length) (c := co42) ?_).2.2; exact (by (with_reducible repeat (first | apply Kd.S_alloc | apply Kd.S_drewN | apply Kd.S_drew)); exact (Kd.S_mono (Kd.S_far (p := ⟨gb553, 1, none⟩) (Kd.S_far (p := ⟨gb553, 0, none⟩) (Kd.S_types HO549.out BK553.out (by decide)) (fun _ hk => hk.2) (.slice Ao42 t547.length co42)) (fun _ hk => hk.2) (.slice Ao45 t550.length co45)) (fun _ h_ => h_.1)))); (case side2 => exact (Kd.S_reads' HO549.out).2.1); (case side3 => refine (Kd.R_reads' (e := 68) (base := w.heap.size) (ok := fun k_ => (True ∧ some k_ ≠ (.slice Ao37 t543.length co37 : Value).ownBlock)) (n := t550.length) (c := co45) ?_).2.2; exact (by (with_reducible repeat (first | apply Kd.R_alloc | apply Kd.R_drewN | apply Kd.R_drew)); exact (Kd.R_mono (Kd.R_far (p := ⟨gb553, 1, none⟩) (Kd.R_far (p := ⟨gb553, 0, none⟩) (Kd.R_types HO552.out BK553.out (by decide)) (fun _ hk => hk.2) (.slice Ao42 t547.length co42)) (fun _ hk => hk.2) (.slice Ao45 t550.length co45)) (fun _ h_ => h_.1)))); (case side4 => exact (Kd.R_reads' HO552.out).2.1); rintro e w46 ⟨rfl, hb⟩; refine ⟨_, rfl, ?_⟩; replace HO542 := zM (Kd.S_below (by (with_reducible repeat (first | apply Kd.S_alloc | apply Kd.S_drewN | apply Kd.S_drew)); exact (Kd.S_mono (Kd.S_far (p := ⟨gb553, 1, none⟩) (Kd.S_far (p := ⟨gb553, 0, none⟩) (Kd.S_types HO542.out BK553.out (by decide)) (fun _ hk => hk.2) (.slice Ao42 t547.length co42)) (fun _ hk => hk.2) (.slice Ao45 t550.length co45)) (fun _ h_ => h_.1))) hb); replace HO545 := zM (Kd.R_below (by (with_reducible repeat (first | apply Kd.R_alloc | apply Kd.R_drewN | apply Kd.R_drew)); exact (Kd.R_mono (Kd.R_far (p := ⟨gb553, 1, none⟩) (Kd.R_far (p := ⟨gb553, 0, none⟩) (Kd.R_types HO545.out BK553.out (by decide)) (fun _ hk => hk.2) (.slice Ao42 t547.length co42)) (fun _ hk => hk.2) (.slice Ao45 t550.length co45)) (fun _ h_ => h_.1))) hb); replace HO549 := zM (Kd.S_below (by (with_reducible repeat (first | apply Kd.S_alloc | apply Kd.S_drewN | apply Kd.S_drew)); exact (Kd.S_mono (Kd.S_far (p := ⟨gb553, 1, none⟩) (Kd.S_far (p := ⟨gb553, 0, none⟩) (Kd.S_types HO549.out BK553.out (by decide)) (fun _ hk => hk.2) (.slice Ao42 t547.length co42)) (fun _ hk => hk.2) (.slice Ao45 t550.length co45)) (fun _ h_ => h_.1))) hb); replace HO552 := zM (Kd.R_below (by (with_reducible repeat (first | apply Kd.R_alloc | apply Kd.R_drewN | apply Kd.R_drew)); exact (Kd.R_mono (Kd.R_far (p := ⟨gb553, 1, none⟩) (Kd.R_far (p := ⟨gb553, 0, none⟩) (Kd.R_types HO552.out BK553.out (by decide)) (fun _ hk => hk.2) (.slice Ao42 t547.length co42)) (fun _ hk => hk.2) (.slice Ao45 t550.length co45)) (fun _ h_ => h_.1))) hb); replace BK538 := zM (blk_below (g := gb538) (o := .cells #[.slice A0_0 l0_0.length c0_0, .slice A0_1 l0_1.length c0_1] 47 (0, 0)) (by (with_reducible repeat (first | refine blk_drewN ?_ _ | refine blk_drew ?_ | refine blk_alloc ?_ _)); refine blk_far ?_ NB538_553.out _; (with_reducible repeat (first | refine blk_drewN ?_ _ | refine blk_drew ?_ | refine blk_alloc ?_ _)); refine blk_far ?_ NB538_553.out _; (with_reducible repeat (first | refine blk_drewN ?_ _ | refine blk_drew ?_ | refine blk_alloc ?_ _)); exact BK538.out) hb); replace BK553 := zM (blk_below (g := gb553) (o := .cells #[.slice Ao42 t547.length co42, .slice Ao45 t550.length co45] 50 (0, 0)) (by (with_reducible repeat (first | refine blk_drewN ?_ _ | refine blk_drew ?_ | refine blk_alloc ?_ _)); refine blk_put (cs := #[.slice Ao42 t547.length co42, .slice none 0 0]) ?_ 1 _ rfl; (with_reducible repeat (first | refine blk_drewN ?_ _ | refine blk_drew ?_ | refine blk_alloc ?_ _)); refine blk_put (cs := #[.slice none 0 0, .slice none 0 0]) ?_ 0 _ rfl; (with_reducible repeat (first | refine blk_drewN ?_ _ | refine blk_drew ?_ | refine blk_alloc ?_ _)); exact BK553.out) hb); replace HB := zM (below_step zB hb); (try clear hb); (try clear hb2); (try clear hk); (try clear hi)))
       replace HO542 := zM (Kd.S_drew HO542.out)
       replace HO545 := zM (Kd.R_drew HO545.out)
       replace HO549 := zM (Kd.S_drew HO549.out)
       replace HO552 := zM (Kd.R_drew HO552.out)
       replace BK538 := zM (blk_drew BK538.out)
       replace BK553 := zM (blk_drew BK553.out)
       replace HB := zM (below_drew1 HB.out)
       refine zs (n := 5) (fun w' => w'.cell? ⟨gb553, 0, none⟩ = some (.slice Ao42 t547.length co42) ∧ w'.cell? ⟨gb553, 1, none⟩ = some (.slice Ao45 t550.length co45) ∧ w'.cell? ⟨gb538, 0, none⟩ = some (.slice A0_0 l0_0.length c0_0) ∧ w'.cell? ⟨gb538, 1, none⟩ = some (.slice A0_1 l0_1.length c0_1)) ⟨(blk_cell BK553.out 0).trans rfl, (blk_cell BK553.out 1).trans rfl, (blk_cell BK538.out 0).trans rfl, (blk_cell BK538.out 1).trans rfl⟩ (fun hHeld => ?_)
       generalize w46.drew = w47 at HO542 HO545 HO549 HO552 BK538 BK553 HB hHeld ⊢
       refine zl 0 22 hHeld ?_ (hy := by rintro w' ⟨s0, s1, s2, s3⟩; go_simp; with_reducible rfl)
       refine zl 1 23 hHeld ?_ (hy := by rintro w' ⟨s0, s1, s2, s3⟩; go_simp; with_reducible rfl)
       refine zh 2 24 Try.func36 #[.agg #[.slice A0_0 l0_0.length c0_0, .slice A0_1 l0_1.length c0_1]] (fun K hK => ?_)
       with_reducible refine (laws_toSpace.calls k _ _ l0_0 _ _ l0_1 t555 t558 _ ?side1 ?side2 ?side3 ?side4 A28.out).mono ?_
       (case side1 => exact zC (Kd.C_below HR0_0.out HB.out))
       (case side2 => exact HC0_0.out)
       (case side3 => exact zC (Kd.C_below HR0_1.out HB.out))
       (case side4 => exact HC0_1.out)
       rintro e w48 ⟨v556, v559, rfl, ho0, ho1, hb⟩
       refine ⟨_, rfl, ?_⟩
       have HO557 := zM (Kd.S_lower (Kd.S_new' (Kd.S_new' ho0 (Kd.S_lt (by (with_reducible repeat (first | apply Kd.S_alloc | apply Kd.S_drewN | apply Kd.S_drew)); exact HO542.out))) (Kd.S_lt (by (with_reducible repeat (first | apply Kd.S_alloc | apply Kd.S_drewN | apply Kd.S_drew)); exact HO549.out))) (below_size zB))
       replace HO542 := zM (Kd.S_elder' (by (with_reducible repeat (first | apply Kd.S_alloc | apply Kd.S_drewN | apply Kd.S_drew)); exact HO542.out) (Kd.S_base ho0) hb)
       replace HO549 := zM (Kd.S_elder' (by (with_reducible repeat (first | apply Kd.S_alloc | apply Kd.S_drewN | apply Kd.S_drew)); exact HO549.out) (Kd.S_base ho0) hb)
       have HO560 := zM (Kd.R_lower (Kd.R_new' (Kd.R_new' ho1 (Kd.R_lt (zR HO545.out))) (Kd.R_lt (zR HO552.out))) (below_size zB))
       replace HO545 := zM (Kd.R_elder' (zR HO545.out) (Kd.R_base ho1) hb)
       replace HO552 := zM (Kd.R_elder' (zR HO552.out) (Kd.R_base ho1) hb)
       replace BK538 := zM (blk_below (g := gb538) (o := .cells #[.slice A0_0 l0_0.length c0_0, .slice A0_1 l0_1.length c0_1] 47 (0, 0)) (zK BK538.out) hb)
       replace BK553 := zM (blk_below (g := gb553) (o := .cells #[.slice Ao42 t547.length co42, .slice Ao45 t550.length co45] 50 (0, 0)) (zK BK553.out) hb)
       replace HB := zM (below_step zB hb)
       (try clear hb)
       (try clear hb2)
       (try clear hk)
       (try clear hi)
       (try clear ho0)
       (try clear ho1)
       obtain ⟨Ao49, co49, eo49⟩ := Kd.S_slice HO557.out
       (first | subst eo49 | (injection eo49 with f1_ f2_ f3_; have f4_ := f1_.symm; have f5_ := f3_.symm; clear f1_ f2_ f3_; subst f4_; subst f5_))
       obtain ⟨Ao50, co50, eo50⟩ := Kd.R_slice HO560.out
       (first | subst eo50 | (injection eo50 with f1_ f2_ f3_; have f4_ := f1_.symm; have f5_ := f3_.symm; clear f1_ f2_ f3_; subst f4_; subst f5_))
       refine hK.out _ _ ⟨(blk_cell BK553.out 0).trans rfl, (blk_cell BK553.out 1).trans rfl, (blk_cell BK538.out 0).trans rfl, (blk_cell BK538.out 1).trans rfl⟩ (fun hHeld => ?_)
       clear hK K
       refine zn 24 ?_
       refine zh 3 25 Try.func38 #[.agg #[.slice Ao42 t547.length co42, .slice Ao45 t550.length co45], .agg #[.slice Ao49 t555.length co49, .slice Ao50 t558.length co50]] (fun K hK => ?_)
       with_reducible refine (laws_eqSpace.calls k _ _ t547 _ _ t550 _ _ t555 _ _ t558 true _ ?side1 ?side2 ?side3 ?side4 ?side5 ?side6 ?side7 ?side8 A29.out).mono ?_
       (case side1 => exact zC (Kd.S_reads' HO549.out).2.2)
       (case side2 => exact (Kd.S_reads' HO549.out).2.1)
       (case side3 => exact zC (Kd.R_reads' HO552.out).2.2)
       (case side4 => exact (Kd.R_reads' HO552.out).2.1)
       (case side5 => exact zC (Kd.S_reads' HO557.out).2.2)
       (case side6 => exact (Kd.S_reads' HO557.out).2.1)
       (case side7 => exact zC (Kd.R_reads' HO560.out).2.2)
       (case side8 => exact (Kd.R_reads' HO560.out).2.1)
       rintro e w51 ⟨rfl, hb⟩
       refine ⟨_, rfl, ?_⟩
       replace HO542 := zM (Kd.S_below (by (with_reducible repeat (first | apply Kd.S_alloc | apply Kd.S_drewN | apply Kd.S_drew)); exact HO542.out) hb)
       replace HO545 := zM (Kd.R_below (zR HO545.out) hb)
       replace HO549 := zM (Kd.S_below (by (with_reducible repeat (first | apply Kd.S_alloc | apply Kd.S_drewN | apply Kd.S_drew)); exact HO549.out) hb)
       replace HO552 := zM (Kd.R_below (zR HO552.out) hb)
       replace HO557 := zM (Kd.S_below (by (with_reducible repeat (first | apply Kd.S_alloc | apply Kd.S_drewN | apply Kd.S_drew)); exact HO557.out) hb)
       replace HO560 := zM (Kd.R_below (zR HO560.out) hb)
       replace BK538 := zM (blk_below (g := gb538) (o := .cells #[.slice A0_0 l0_0.length c0_0, .slice A0_1 l0_1.length c0_1] 47 (0, 0)) (zK BK538.out) hb)
       replace BK553 := zM (blk_below (g := gb553) (o := .cells #[.slice Ao42 t547.length co42, .slice Ao45 t550.length co45] 50 (0, 0)) (zK BK553.out) hb)
       replace HB := zM (below_step zB hb)
       (try clear hb)
       (try clear hb2)
       (try clear hk)
       (try clear hi)
       refine hK.out _ _ ⟨(blk_cell BK553.out 0).trans rfl, (blk_cell BK553.out 1).trans rfl, (blk_cell BK538.out 0).trans rfl, (blk_cell BK538.out 1).trans rfl⟩ (fun hHeld => ?_)
       clear hK K
       refine zn 25 ?_
       refine zq 4 26 ?_
       refine zx ?_
       try go_wp2
       go_ret
       exact ⟨by first | rfl | (simp [errW_none, errW_some] <;> rfl) | (simp [*, errW_none, errW_some] <;> rfl), zB⟩
     · replace c30 := Bool.eq_false_iff.mpr c30
       subst c30
       have H1 : (some false) = some r := by rw [if_neg (show ¬ (false = true) by decide)] at H; exact H
       clear H
       have H := H1
       clear H1
       obtain rfl := Option.some.inj H
       go_enter Try.func8, Try.ntmps8
       try go_wp2_with (first | ((with_reducible refine gate_dst (N := 1) rfl ?_); refine zb (w := w) 1 #[.slice A0_0 l0_0.length c0_0, .slice A0_1 l0_1.length c0_1] 47 zB ?_; clear HB; intro gb538 w52 HB BK538 GW538; have GE538 := GW538; have hcz53_0 := zy BK538 0; have hcz53_1 := zy BK538 1; have hfz53_0 := blk_frozen BK538.out 0; have hfz53_1 := blk_frozen BK538.out 1) | ((with_reducible refine gate_callee (f := 34) rfl ?_); refine zc 9 Try.func34 #[.agg #[.slice A0_0 l0_0.length c0_0, .slice A0_1 l0_1.length c0_1], .int .i64 1048576] ?_; (with_reducible refine (laws_szSpace.calls k _ _ l0_0 _ _ l0_1 1048576 t539 _ ?side1 ?side2 ?side3 ?side4 A2.out).mono ?_); (case side1 => exact zC (Kd.C_below HR0_0.out HB.out)); (case side2 => exact HC0_0.out); (case side3 => exact zC (Kd.C_below HR0_1.out HB.out)); (case side4 => exact HC0_1.out); rintro e w54 ⟨rfl, hb⟩; refine ⟨_, rfl, ?_⟩; replace BK538 := zM (blk_below (g := gb538) (o := .cells #[.slice A0_0 l0_0.length c0_0, .slice A0_1 l0_1.length c0_1] 47 (0, 0)) (zK BK538.out) hb); replace HB := zM (below_step zB hb); (try clear hb); (try clear hb2); (try clear hk); (try clear hi); have hcz55_0 := zy BK538 0; have hcz55_1 := zy BK538 1; have hfz55_0 := blk_frozen BK538.out 0; have hfz55_1 := blk_frozen BK538.out 1) | ((with_reducible refine gate_callee (f := 36) rfl ?_); refine zc 13 Try.func36 #[.agg #[.slice A0_0 l0_0.length c0_0, .slice A0_1 l0_1.length c0_1]] ?_; (with_reducible refine (laws_toSpace.calls k _ _ l0_0 _ _ l0_1 t540 t543 _ ?side1 ?side2 ?side3 ?side4 A7.out).mono ?_); (case side1 => exact zC (Kd.C_below HR0_0.out HB.out)); (case side2 => exact HC0_0.out); (case side3 => exact zC (Kd.C_below HR0_1.out HB.out)); (case side4 => exact HC0_1.out); rintro e w56 ⟨v541, v544, rfl, ho0, ho1, hb⟩; refine ⟨_, rfl, ?_⟩; have HO542 := zM (Kd.S_lower ho0 (below_size zB)); have HO545 := zM (Kd.R_lower ho1 (below_size zB)); replace BK538 := zM (blk_below (g := gb538) (o := .cells #[.slice A0_0 l0_0.length c0_0, .slice A0_1 l0_1.length c0_1] 47 (0, 0)) (zK BK538.out) hb); replace HB := zM (below_step zB hb); (try clear hb); (try clear hb2); (try clear hk); (try clear hi); (try clear ho0); (try clear ho1); obtain ⟨Ao57, co57, eo57⟩ := Kd.S_slice HO542.out; subst eo57; obtain ⟨Ao58, co58, eo58⟩ := Kd.R_slice HO545.out; subst eo58) | ((with_reducible refine gate_callee (f := 35) rfl ?_); refine zc 14 Try.func35 #[.agg #[.slice Ao57 t540.length co57, .slice Ao58 t543.length co58]] ?_; (with_reducible refine (spec_IsSpace.calls k _ _ t540 _ _ t543 t546 _ ?side1 ?side2 ?side3 ?side4 A8.out).mono ?_); (case side1 => exact zC (Kd.S_reads' HO542.out).2.2); (case side2 => exact (Kd.S_reads' HO542.out).2.1); (case side3 => exact zC (Kd.R_reads' HO545.out).2.2); (case side4 => exact (Kd.R_reads' HO545.out).2.1); rintro e w59 ⟨rfl, hb⟩; refine ⟨_, rfl, ?_⟩; replace HO542 := zM (Kd.S_below (by (with_reducible repeat (first | apply Kd.S_alloc | apply Kd.S_drewN | apply Kd.S_drew)); exact HO542.out) hb); replace HO545 := zM (Kd.R_below (zR HO545.out) hb); replace BK538 := zM (blk_below (g := gb538) (o := .cells #[.slice A0_0 l0_0.length c0_0, .slice A0_1 l0_1.length c0_1] 47 (0, 0)) (zK BK538.out) hb); replace HB := zM (below_step zB hb); (try clear hb); (try clear hb2); (try clear hk); (try clear hi); have hcz60_0 := zy BK538 0; have hcz60_1 := zy BK538 1; have hfz60_0 := blk_frozen BK538.out 0; have hfz60_1 := blk_frozen BK538.out 1) | ((with_reducible refine gate_callee (f := 36) rfl ?_); refine zc 16 Try.func36 #[.agg #[.slice A0_0 l0_0.length c0_0, .slice A0_1 l0_1.length c0_1]] ?_; (with_reducible refine (laws_toSpace.calls k _ _ l0_0 _ _ l0_1 t547 t550 _ ?side1 ?side2 ?side3 ?side4 A9.out).mono ?_); (case side1 => exact zC (Kd.C_below HR0_0.out HB.out)); (case side2 => exact HC0_0.out); (case side3 => exact zC (Kd.C_below HR0_1.out HB.out)); (case side4 => exact HC0_1.out); rintro e w61 ⟨v548, v551, rfl, ho0, ho1, hb⟩; refine ⟨_, rfl, ?_⟩; have HO549 := zM (Kd.S_lower (Kd.S_new' ho0 (Kd.S_lt (by (with_reducible repeat (first | apply Kd.S_alloc | apply Kd.S_drewN | apply Kd.S_drew)); exact HO542.out))) (below_size zB)); replace HO542 := zM (Kd.S_elder' (by (with_reducible repeat (first | apply Kd.S_alloc | apply Kd.S_drewN | apply Kd.S_drew)); exact HO542.out) (Kd.S_base ho0) hb); have HO552 := zM (Kd.R_lower (Kd.R_new' ho1 (Kd.R_lt (zR HO545.out))) (below_size zB)); replace HO545 := zM (Kd.R_elder' (zR HO545.out) (Kd.R_base ho1) hb); replace BK538 := zM (blk_below (g := gb538) (o := .cells #[.slice A0_0 l0_0.length c0_0, .slice A0_1 l0_1.length c0_1] 47 (0, 0)) (zK BK538.out) hb); replace HB := zM (below_step zB hb); (try clear hb); (try clear hb2); (try clear hk); (try clear hi); (try clear ho0); (try clear ho1)) | ((with_reducible refine gate_dst (N := 5) rfl ?_); refine ze 5 #[.slice none 0 0, .slice none 0 0] 50 ?_; intro gb553 hg w62 hbox hb; replace HO542 := zM (Kd.S_below (by (with_reducible repeat (first | apply Kd.S_alloc | apply Kd.S_drewN | apply Kd.S_drew)); exact HO542.out) hb); replace HO545 := zM (Kd.R_below (zR HO545.out) hb); replace HO549 := zM (Kd.S_below (by (with_reducible repeat (first | apply Kd.S_alloc | apply Kd.S_drewN | apply Kd.S_drew)); exact HO549.out) hb); replace HO552 := zM (Kd.R_below (zR HO552.out) hb); have BK553 := zM (hbox); have GW553 := zM ((by rw [hg]; exact (below_size zB) : w.heap.size ≤ gb553)); have GE553 := zM ((by rw [hg]; exact (below_size zB) : w.heap.size ≤ gb553)); replace HB := zM (below_step zB hb); have NB538_553 := zM ((by rw [hg]; exact Nat.ne_of_lt (blk_lt (g := gb538) (o := .cells #[.slice A0_0 l0_0.length c0_0, .slice A0_1 l0_1.length c0_1] 47 (0, 0)) (zK BK538.out)) : gb538 ≠ gb553)); have NB553_538 := zM ((by rw [hg]; exact Nat.ne_of_gt (blk_lt (g := gb538) (o := .cells #[.slice A0_0 l0_0.length c0_0, .slice A0_1 l0_1.length c0_1] 47 (0, 0)) (zK BK538.out)) : gb553 ≠ gb538)); replace BK538 := zM (blk_below (g := gb538) (o := .cells #[.slice A0_0 l0_0.length c0_0, .slice A0_1 l0_1.length c0_1] 47 (0, 0)) (zK BK538.out) hb); clear hb hbox hg; obtain ⟨Ao63, co63, eo63⟩ := Kd.S_slice HO549.out; subst eo63; have hnb64 := NB553_538.out; have hnc64 := NB538_553.out; have hcz65_0 := zy BK553 0; have hcz65_1 := zy BK553 1; have hfz65_0 := blk_frozen BK553.out 0; have hfz65_1 := blk_frozen BK553.out 1; obtain ⟨Ao66, co66, eo66⟩ := Kd.R_slice HO552.out; subst eo66) | ((with_reducible refine gate_callee (f := 37) rfl ?_); refine zc 18 Try.func37 #[.agg #[.slice Ao63 t547.length co63, .slice Ao66 t550.length co66]] ?_; (with_reducible refine (impl_IsSpace.calls k _ _ t547 _ _ t550 t554 _ ?side1 ?side2 ?side3 ?side4 A10.out).mono ?_); (case side1 => refine (Kd.S_reads' (e := 34) (base := w.heap.size) (ok := fun k_ => (True ∧ some k_ ≠ (.slice Ao57 t540.length co57 : Value).ownBlock)) (n := t547.length) (c := co63) ?_).2.2; exact (by (with_reducible repeat (first | apply Kd.S_alloc | apply Kd.S_drewN | apply Kd.S_drew)); exact (Kd.S_mono (Kd.S_far (p := ⟨gb553, 1, none⟩) (Kd.S_far (p := ⟨gb553, 0, none⟩) (Kd.S_types HO549.out BK553.out (by decide)) (fun _ hk => hk.2) (.slice Ao63 t547.length co63)) (fun _ hk => hk.2) (.slice Ao66 t550.length co66)) (fun _ h_ => h_.1)))); (case side2 => exact (Kd.S_reads' HO549.out).2.1); (case side3 => refine (Kd.R_reads' (e := 68) (base := w.heap.size) (ok := fun k_ => (True ∧ some k_ ≠ (.slice Ao58 t543.length co58 : Value).ownBlock)) (n := t550.length) (c := co66) ?_).2.2; exact (by (with_reducible repeat (first | apply Kd.R_alloc | apply Kd.R_drewN | apply Kd.R_drew)); exact (Kd.R_mono (Kd.R_far (p := ⟨gb553, 1, none⟩) (Kd.R_far (p := ⟨gb553, 0, none⟩) (Kd.R_types HO552.out BK553.out (by decide)) (fun _ hk => hk.2) (.slice Ao63 t547.length co63)) (fun _ hk => hk.2) (.slice Ao66 t550.length co66)) (fun _ h_ => h_.1)))); (case side4 => exact (Kd.R_reads' HO552.out).2.1); rintro e w67 ⟨rfl, hb⟩; refine ⟨_, rfl, ?_⟩; replace HO542 := zM (Kd.S_below (by (with_reducible repeat (first | apply Kd.S_alloc | apply Kd.S_drewN | apply Kd.S_drew)); exact (Kd.S_mono (Kd.S_far (p := ⟨gb553, 1, none⟩) (Kd.S_far (p := ⟨gb553, 0, none⟩) (Kd.S_types HO542.out BK553.out (by decide)) (fun _ hk => hk.2) (.slice Ao63 t547.length co63)) (fun _ hk => hk.2) (.slice Ao66 t550.length co66)) (fun _ h_ => h_.1))) hb); replace HO545 := zM (Kd.R_below (by (with_reducible repeat (first | apply Kd.R_alloc | apply Kd.R_drewN | apply Kd.R_drew)); exact (Kd.R_mono (Kd.R_far (p := ⟨gb553, 1, none⟩) (Kd.R_far (p := ⟨gb553, 0, none⟩) (Kd.R_types HO545.out BK553.out (by decide)) (fun _ hk => hk.2) (.slice Ao63 t547.length co63)) (fun _ hk => hk.2) (.slice Ao66 t550.length co66)) (fun _ h_ => h_.1))) hb); replace HO549 := zM (Kd.S_below (by (with_reducible repeat (first | apply Kd.S_alloc | apply Kd.S_drewN | apply Kd.S_drew)); exact (Kd.S_mono (Kd.S_far (p := ⟨gb553, 1, none⟩) (Kd.S_far (p := ⟨gb553, 0, none⟩) (Kd.S_types HO549.out BK553.out (by decide)) (fun _ hk => hk.2) (.slice Ao63 t547.length co63)) (fun _ hk => hk.2) (.slice Ao66 t550.length co66)) (fun _ h_ => h_.1))) hb); replace HO552 := zM (Kd.R_below (by (with_reducible repeat (first | apply Kd.R_alloc | apply Kd.R_drewN | apply Kd.R_drew)); exact (Kd.R_mono (Kd.R_far (p := ⟨gb553, 1, none⟩) (Kd.R_far (p := ⟨gb553, 0, none⟩) (Kd.R_types HO552.out BK553.out (by decide)) (fun _ hk => hk.2) (.slice Ao63 t547.length co63)) (fun _ hk => hk.2) (.slice Ao66 t550.length co66)) (fun _ h_ => h_.1))) hb); replace BK538 := zM (blk_below (g := gb538) (o := .cells #[.slice A0_0 l0_0.length c0_0, .slice A0_1 l0_1.length c0_1] 47 (0, 0)) (by (with_reducible repeat (first | refine blk_drewN ?_ _ | refine blk_drew ?_ | refine blk_alloc ?_ _)); refine blk_far ?_ NB538_553.out _; (with_reducible repeat (first | refine blk_drewN ?_ _ | refine blk_drew ?_ | refine blk_alloc ?_ _)); refine blk_far ?_ NB538_553.out _; (with_reducible repeat (first | refine blk_drewN ?_ _ | refine blk_drew ?_ | refine blk_alloc ?_ _)); exact BK538.out) hb); replace BK553 := zM (blk_below (g := gb553) (o := .cells #[.slice Ao63 t547.length co63, .slice Ao66 t550.length co66] 50 (0, 0)) (by (with_reducible repeat (first | refine blk_drewN ?_ _ | refine blk_drew ?_ | refine blk_alloc ?_ _)); refine blk_put (cs := #[.slice Ao63 t547.length co63, .slice none 0 0]) ?_ 1 _ rfl; (with_reducible repeat (first | refine blk_drewN ?_ _ | refine blk_drew ?_ | refine blk_alloc ?_ _)); refine blk_put (cs := #[.slice none 0 0, .slice none 0 0]) ?_ 0 _ rfl; (with_reducible repeat (first | refine blk_drewN ?_ _ | refine blk_drew ?_ | refine blk_alloc ?_ _)); exact BK553.out) hb); replace HB := zM (below_step zB hb); (try clear hb); (try clear hb2); (try clear hk); (try clear hi)))
       replace HO542 := zM (Kd.S_drew HO542.out)
       replace HO545 := zM (Kd.R_drew HO545.out)
       replace HO549 := zM (Kd.S_drew HO549.out)
       replace HO552 := zM (Kd.R_drew HO552.out)
       replace BK538 := zM (blk_drew BK538.out)
       replace BK553 := zM (blk_drew BK553.out)
       replace HB := zM (below_drew1 HB.out)
       refine zs (n := 5) (fun w' => w'.cell? ⟨gb553, 0, none⟩ = some (.slice Ao63 t547.length co63) ∧ w'.cell? ⟨gb553, 1, none⟩ = some (.slice Ao66 t550.length co66) ∧ w'.cell? ⟨gb538, 0, none⟩ = some (.slice A0_0 l0_0.length c0_0) ∧ w'.cell? ⟨gb538, 1, none⟩ = some (.slice A0_1 l0_1.length c0_1)) ⟨(blk_cell BK553.out 0).trans rfl, (blk_cell BK553.out 1).trans rfl, (blk_cell BK538.out 0).trans rfl, (blk_cell BK538.out 1).trans rfl⟩ (fun hHeld => ?_)
       generalize w67.drew = w68 at HO542 HO545 HO549 HO552 BK538 BK553 HB hHeld ⊢
       refine zl 0 22 hHeld ?_ (hy := by rintro w' ⟨s0, s1, s2, s3⟩; go_simp; with_reducible rfl)
       refine zl 1 23 hHeld ?_ (hy := by rintro w' ⟨s0, s1, s2, s3⟩; go_simp; with_reducible rfl)
       refine zh 2 24 Try.func36 #[.agg #[.slice A0_0 l0_0.length c0_0, .slice A0_1 l0_1.length c0_1]] (fun K hK => ?_)
       with_reducible refine (laws_toSpace.calls k _ _ l0_0 _ _ l0_1 t555 t558 _ ?side1 ?side2 ?side3 ?side4 A28.out).mono ?_
       (case side1 => exact zC (Kd.C_below HR0_0.out HB.out))
       (case side2 => exact HC0_0.out)
       (case side3 => exact zC (Kd.C_below HR0_1.out HB.out))
       (case side4 => exact HC0_1.out)
       rintro e w69 ⟨v556, v559, rfl, ho0, ho1, hb⟩
       refine ⟨_, rfl, ?_⟩
       have HO557 := zM (Kd.S_lower (Kd.S_new' (Kd.S_new' ho0 (Kd.S_lt (by (with_reducible repeat (first | apply Kd.S_alloc | apply Kd.S_drewN | apply Kd.S_drew)); exact HO542.out))) (Kd.S_lt (by (with_reducible repeat (first | apply Kd.S_alloc | apply Kd.S_drewN | apply Kd.S_drew)); exact HO549.out))) (below_size zB))
       replace HO542 := zM (Kd.S_elder' (by (with_reducible repeat (first | apply Kd.S_alloc | apply Kd.S_drewN | apply Kd.S_drew)); exact HO542.out) (Kd.S_base ho0) hb)
       replace HO549 := zM (Kd.S_elder' (by (with_reducible repeat (first | apply Kd.S_alloc | apply Kd.S_drewN | apply Kd.S_drew)); exact HO549.out) (Kd.S_base ho0) hb)
       have HO560 := zM (Kd.R_lower (Kd.R_new' (Kd.R_new' ho1 (Kd.R_lt (zR HO545.out))) (Kd.R_lt (zR HO552.out))) (below_size zB))
       replace HO545 := zM (Kd.R_elder' (zR HO545.out) (Kd.R_base ho1) hb)
       replace HO552 := zM (Kd.R_elder' (zR HO552.out) (Kd.R_base ho1) hb)
       replace BK538 := zM (blk_below (g := gb538) (o := .cells #[.slice A0_0 l0_0.length c0_0, .slice A0_1 l0_1.length c0_1] 47 (0, 0)) (zK BK538.out) hb)
       replace BK553 := zM (blk_below (g := gb553) (o := .cells #[.slice Ao63 t547.length co63, .slice Ao66 t550.length co66] 50 (0, 0)) (zK BK553.out) hb)
       replace HB := zM (below_step zB hb)
       (try clear hb)
       (try clear hb2)
       (try clear hk)
       (try clear hi)
       (try clear ho0)
       (try clear ho1)
       obtain ⟨Ao70, co70, eo70⟩ := Kd.S_slice HO557.out
       (first | subst eo70 | (injection eo70 with f1_ f2_ f3_; have f4_ := f1_.symm; have f5_ := f3_.symm; clear f1_ f2_ f3_; subst f4_; subst f5_))
       obtain ⟨Ao71, co71, eo71⟩ := Kd.R_slice HO560.out
       (first | subst eo71 | (injection eo71 with f1_ f2_ f3_; have f4_ := f1_.symm; have f5_ := f3_.symm; clear f1_ f2_ f3_; subst f4_; subst f5_))
       refine hK.out _ _ ⟨(blk_cell BK553.out 0).trans rfl, (blk_cell BK553.out 1).trans rfl, (blk_cell BK538.out 0).trans rfl, (blk_cell BK538.out 1).trans rfl⟩ (fun hHeld => ?_)
       clear hK K
       refine zn 24 ?_
       refine zh 3 25 Try.func38 #[.agg #[.slice Ao63 t547.length co63, .slice Ao66 t550.length co66], .agg #[.slice Ao70 t555.length co70, .slice Ao71 t558.length co71]] (fun K hK => ?_)
       with_reducible refine (laws_eqSpace.calls k _ _ t547 _ _ t550 _ _ t555 _ _ t558 false _ ?side1 ?side2 ?side3 ?side4 ?side5 ?side6 ?side7 ?side8 A29.out).mono ?_
       (case side1 => exact zC (Kd.S_reads' HO549.out).2.2)
       (case side2 => exact (Kd.S_reads' HO549.out).2.1)
       (case side3 => exact zC (Kd.R_reads' HO552.out).2.2)
       (case side4 => exact (Kd.R_reads' HO552.out).2.1)
       (case side5 => exact zC (Kd.S_reads' HO557.out).2.2)
       (case side6 => exact (Kd.S_reads' HO557.out).2.1)
       (case side7 => exact zC (Kd.R_reads' HO560.out).2.2)
       (case side8 => exact (Kd.R_reads' HO560.out).2.1)
       rintro e w72 ⟨rfl, hb⟩
       refine ⟨_, rfl, ?_⟩
       replace HO542 := zM (Kd.S_below (by (with_reducible repeat (first | apply Kd.S_alloc | apply Kd.S_drewN | apply Kd.S_drew)); exact HO542.out) hb)
       replace HO545 := zM (Kd.R_below (zR HO545.out) hb)
       replace HO549 := zM (Kd.S_below (by (with_reducible repeat (first | apply Kd.S_alloc | apply Kd.S_drewN | apply Kd.S_drew)); exact HO549.out) hb)
       replace HO552 := zM (Kd.R_below (zR HO552.out) hb)
       replace HO557 := zM (Kd.S_below (by (with_reducible repeat (first | apply Kd.S_alloc | apply Kd.S_drewN | apply Kd.S_drew)); exact HO557.out) hb)
       replace HO560 := zM (Kd.R_below (zR HO560.out) hb)
       replace BK538 := zM (blk_below (g := gb538) (o := .cells #[.slice A0_0 l0_0.length c0_0, .slice A0_1 l0_1.length c0_1] 47 (0, 0)) (zK BK538.out) hb)
       replace BK553 := zM (blk_below (g := gb553) (o := .cells #[.slice Ao63 t547.length co63, .slice Ao66 t550.length co66] 50 (0, 0)) (zK BK553.out) hb)
       replace HB := zM (below_step zB hb)
       (try clear hb)
       (try clear hb2)
       (try clear hk)
       (try clear hi)
       refine hK.out _ _ ⟨(blk_cell BK553.out 0).trans rfl, (blk_cell BK553.out 1).trans rfl, (blk_cell BK538.out 0).trans rfl, (blk_cell BK538.out 1).trans rfl⟩ (fun hHeld => ?_)
       clear hK K
       refine zn 25 ?_
       refine zq 4 26 ?_
       refine zx ?_
       try go_wp2
       go_ret
       exact ⟨by first | rfl | (simp [errW_none, errW_some] <;> rfl) | (simp [*, errW_none, errW_some] <;> rfl), zB⟩

/-! ### spec_l2Values: function 78 -/
def spec_l2Values.l0 : Nat → List Int → Int → List (List Int) → List (S68) → Option (Bool)
 | 0, _, _, _, _ => none
 | k + 1, x1, x5, x563000, x563001 => if x5 < (x1.length : Int) then (if 0 ≤ x5 then ((spec_l1In.f (rd x1 x5) (-1000000) 1000000).bind fun t564 => (if t564 = true then (spec_l2Values.l0 k x1 (wrap64 (x5 + 1)) x563000 x563001) else (some false))) else (none)) else ((spec_l2Space.f k x563000 x563001).bind fun t565 => (if t565 = true then (some ((x1.length : Int) == (x563000.length : Int))) else (some false)))
def spec_l2Values.f (k : Nat) (l0_0 : List (List Int)) (l0_1 : List (S68)) (l1 : List Int) : Option (Bool) := spec_l2Values.l0 k l1 0 l0_0 l0_1
theorem spec_l2Values.mono_l : ∀ k, (∀ y0 y1 y2 y3, LeO (spec_l2Values.l0 k y0 y1 y2 y3) (spec_l2Values.l0 (k + 1) y0 y1 y2 y3))
 | 0 => fun _ _ _ _ r h => by simp [spec_l2Values.l0] at h
 | k + 1 => by
  have ih0 := spec_l2Values.mono_l k
  · intro y0 y1 y2 y3
    unfold spec_l2Values.l0
    repeat' first
    | (with_reducible exact ih0 _ _ _ _)
    | (with_reducible exact spec_l2Space.mono _ _ _)
    | (with_reducible exact LeO.refl _)
    | (with_reducible exact LeO.none _)
    | (with_reducible refine LeO.ite ?_ ?_)
    | (with_reducible refine LeO.bind ?_ (fun _ => ?_))
    | exact ih0 _ _ _ _
    | exact spec_l2Space.mono _ _ _
    | exact LeO.none _
    | refine LeO.ite ?_ ?_
    | refine LeO.bind ?_ (fun _ => ?_)
theorem spec_l2Values.mono : ∀ a0 a1 a2 k, LeO (spec_l2Values.f k a0 a1 a2) (spec_l2Values.f (k + 1) a0 a1 a2) := by
 intro a0 a1 a2 k
 have ih0 := spec_l2Values.mono_l k
 unfold spec_l2Values.f
 repeat' first
  | (with_reducible exact ih0 _ _ _ _)
  | (with_reducible exact spec_l2Space.mono _ _ _)
  | (with_reducible exact LeO.refl _)
  | (with_reducible exact LeO.none _)
  | (with_reducible refine LeO.ite ?_ ?_)
  | (with_reducible refine LeO.bind ?_ (fun _ => ?_))
  | exact ih0 _ _ _ _
  | exact spec_l2Space.mono _ _ _
  | exact LeO.none _
  | refine LeO.ite ?_ ?_
  | refine LeO.bind ?_ (fun _ => ?_)
set_option maxHeartbeats 8000000 in
set_option maxRecDepth 100000 in
theorem spec_l2Values.calls (k : Nat) (A0_0 : Option Addr) (c0_0 : Nat) (l0_0 : List (List Int)) (A0_1 : Option Addr) (c0_1 : Nat) (l0_1 : List (S68)) (A1 : Option Addr) (c1 : Nat) (l1 : List Int) (r : Bool) (w : World) (hr0_0 : Kd.C (Kd.slice 3 (Kd.int .i64)) w A0_0 l0_0.length l0_0) (hc0_0 : l0_0.length ≤ c0_0) (hr0_1 : Kd.C k68 w A0_1 l0_1.length l0_1) (hc0_1 : l0_1.length ≤ c0_1) (hr1 : Kd.C (Kd.int .i64) w A1 l1.length l1) (hc1 : l1.length ≤ c1) (h : spec_l2Values.f k l0_0 l0_1 l1 = some r) :
 Calls Try.prog 78 #[.agg #[.slice A0_0 l0_0.length c0_0, .slice A0_1 l0_1.length c0_1], .slice A1 l1.length c1] w fun e w' => e = .returned (.bool r) ∧ Below w.heap.size w w' := by
 have hu50 := Try.underlying50
 have HR0_0 := Aside0.mk hr0_0
 have HC0_0 := Aside0.mk hc0_0
 clear hr0_0 hc0_0
 have HR0_1 := Aside0.mk hr0_1
 have HC0_1 := Aside0.mk hc0_1
 clear hr0_1 hc0_1
 have HR1 := Aside0.mk hr1
 have HC1 := Aside0.mk hc1
 clear hr1 hc1
 have HB := zM (Below.refl w.heap.size w)
 have H : (spec_l2Values.l0 k l1 0 l0_0 l0_1) = some r := h
 clear h
 have H' := Aside0.mk H
 clear H
 go_enter Try.func78, Try.ntmps78
 go_wp2_with (first | ((with_reducible refine gate_dst (N := 2) rfl ?_); (try (refine gate_guard (by rfl) ?_; dsimp only)); refine zb (w := w) 2 #[.slice A0_0 l0_0.length c0_0, .slice A0_1 l0_1.length c0_1] 50 zB ?_; clear HB; intro gb562 w3 HB BK562 GW562; have GE562 := GW562))
 go_loopg [5] k (fun kq v5 w' => ∃ (x5_1 : Int), v5 = .int .i64 x5_1 ∧ Aside0 (spec_l2Values.l0 kq l1 x5_1 l0_0 l0_1 = some r) ∧ Aside0 (kq ≤ k) ∧ Aside0 (w'.heap[gb562]? = some (.cells #[(.slice A0_0 l0_0.length c0_0), (.slice A0_1 l0_1.length c0_1)] 50 (0, 0))) ∧ Aside0 (Below w.heap.size w w'))
 case atStart => exact ⟨(0), (by first | rfl | (simp; done) | (simp [*]; done)), H', ⟨Nat.le_refl _⟩, ⟨zK BK562.out⟩, ⟨zB⟩⟩
 case round =>
  clear H'
  try clear c1
  try clear p2
  obtain ⟨x5_1, rfl, HA, HK1, BK562, HB⟩ := hrel
  cases gk with
  | zero => exact absurd HA.out (by simp [spec_l2Values.l0])
  | succ k1 =>
   have H := HA.out
   clear HA
   simp only [spec_l2Values.l0] at H
   by_cases c4 : x5_1 < (l1.length : Int)
   · rw [if_pos c4] at H
     have c4b0 := decide_eq_true c4
     clear c4
     by_cases c5 : 0 ≤ x5_1
     · rw [if_pos c5] at H
       have c5b0 := decide_eq_true c5
       clear c5
       replace H := Option.bind_eq_some_iff.mp H
       obtain ⟨t564, A60, H⟩ := H
       have A6 := Aside0.mk A60
       clear A60
       by_cases c7 : t564 = true
       · subst c7
         rw [if_pos rfl] at H
         have H' := Aside0.mk H
         clear H
         have p563 : 0 ≤ (x5_1 : Int) := of_decide_eq_true zA
         have q563 : x5_1 < (l1.length : Int) := of_decide_eq_true zA
         obtain ⟨ad563, e563, hx563_0⟩ := Kd.at_int HR1.out x5_1 p563 q563
         cases e563
         (try replace hx563_0 := (HB.out.cell (World.block_lt_of_cell? w _ hx563_0)).trans hx563_0)
         replace p563 := eq_true p563
         replace q563 := eq_true q563
         go_wp2_with (first | ((with_reducible refine gate_callee (f := 63) rfl ?_); refine zc 16 Try.func63 #[.int .i64 (rd l1 x5_1), .int .i64 (-1000000), .int .i64 1000000] ?_; (with_reducible refine (spec_l1In.calls (rd l1 x5_1) (-1000000) 1000000 true _ A6.out).mono ?_); rintro e w' ⟨rfl, ⟨nd, rfl⟩⟩; refine ⟨_, rfl, ?_⟩))
         go_roundg k1
         case measure => have := HK1.out; omega
         case rel => exact ⟨(wrap64 (x5_1 + 1)), (by first | rfl | (simp; done) | (simp [*]; done)), H', ⟨by have := HK1.out; omega⟩, ⟨zK BK562.out⟩, ⟨zB⟩⟩
       · replace c7 := Bool.eq_false_iff.mpr c7
         subst c7
         have H1 : (some false) = some r := by rw [if_neg (show ¬ (false = true) by decide)] at H; exact H
         clear H
         have H := H1
         clear H1
         obtain rfl := Option.some.inj H
         have p563 : 0 ≤ (x5_1 : Int) := of_decide_eq_true zA
         have q563 : x5_1 < (l1.length : Int) := of_decide_eq_true zA
         obtain ⟨ad563, e563, hx563_0⟩ := Kd.at_int HR1.out x5_1 p563 q563
         cases e563
         (try replace hx563_0 := (HB.out.cell (World.block_lt_of_cell? w _ hx563_0)).trans hx563_0)
         replace p563 := eq_true p563
         replace q563 := eq_true q563
         go_wp2_with (first | ((with_reducible refine gate_callee (f := 63) rfl ?_); refine zc 16 Try.func63 #[.int .i64 (rd l1 x5_1), .int .i64 (-1000000), .int .i64 1000000] ?_; (with_reducible refine (spec_l1In.calls (rd l1 x5_1) (-1000000) 1000000 false _ A6.out).mono ?_); rintro e w' ⟨rfl, ⟨nd, rfl⟩⟩; refine ⟨_, rfl, ?_⟩))
         go_ret
         exact ⟨by first | rfl | (simp [errW_none, errW_some] <;> rfl) | (simp [*, errW_none, errW_some] <;> rfl), zB⟩
     · rw [if_neg c5] at H
       exact absurd H (by simp)
   · rw [if_neg c4] at H
     have c4b0 : decide (x5_1 < (l1.length : Int)) = false := decide_eq_false c4
     clear c4
     replace H := Option.bind_eq_some_iff.mp H
     obtain ⟨t565, A80, H⟩ := H
     have A8 := Aside0.mk A80
     clear A80
     by_cases c9 : t565 = true
     · subst c9
       rw [if_pos rfl] at H
       obtain rfl := Option.some.inj H
       have hcz10_0 := zy BK562 0
       have hcz10_1 := zy BK562 1
       have hfz10_0 := blk_frozen BK562.out 0
       have hfz10_1 := blk_frozen BK562.out 1
       go_wp2_with (first | ((with_reducible refine gate_callee (f := 73) rfl ?_); refine zc 19 Try.func73 #[.agg #[.slice A0_0 l0_0.length c0_0, .slice A0_1 l0_1.length c0_1]] ?_; (with_reducible refine (spec_l2Space.calls k1 _ _ l0_0 _ _ l0_1 true _ ?side1 ?side2 ?side3 ?side4 A8.out).mono ?_); (case side1 => exact zC (Kd.C_below HR0_0.out HB.out)); (case side2 => exact HC0_0.out); (case side3 => exact zC (Kd.C_below HR0_1.out HB.out)); (case side4 => exact HC0_1.out); rintro e w11 ⟨rfl, hb⟩; refine ⟨_, rfl, ?_⟩; replace BK562 := zM (blk_below (g := gb562) (o := .cells #[.slice A0_0 l0_0.length c0_0, .slice A0_1 l0_1.length c0_1] 50 (0, 0)) (zK BK562.out) hb); replace HB := zM (below_step zB hb); (try clear hb); (try clear hb2); (try clear hk); (try clear hi); have hcz12_0 := zy BK562 0; have hcz12_1 := zy BK562 1; have hfz12_0 := blk_frozen BK562.out 0; have hfz12_1 := blk_frozen BK562.out 1))
       go_ret
       exact ⟨by first | rfl | (simp [errW_none, errW_some] <;> rfl) | (simp [*, errW_none, errW_some] <;> rfl), zB⟩
     · replace c9 := Bool.eq_false_iff.mpr c9
       subst c9
       have H1 : (some false) = some r := by rw [if_neg (show ¬ (false = true) by decide)] at H; exact H
       clear H
       have H := H1
       clear H1
       obtain rfl := Option.some.inj H
       have hcz13_0 := zy BK562 0
       have hcz13_1 := zy BK562 1
       have hfz13_0 := blk_frozen BK562.out 0
       have hfz13_1 := blk_frozen BK562.out 1
       go_wp2_with (first | ((with_reducible refine gate_callee (f := 73) rfl ?_); refine zc 19 Try.func73 #[.agg #[.slice A0_0 l0_0.length c0_0, .slice A0_1 l0_1.length c0_1]] ?_; (with_reducible refine (spec_l2Space.calls k1 _ _ l0_0 _ _ l0_1 false _ ?side1 ?side2 ?side3 ?side4 A8.out).mono ?_); (case side1 => exact zC (Kd.C_below HR0_0.out HB.out)); (case side2 => exact HC0_0.out); (case side3 => exact zC (Kd.C_below HR0_1.out HB.out)); (case side4 => exact HC0_1.out); rintro e w14 ⟨rfl, hb⟩; refine ⟨_, rfl, ?_⟩; replace BK562 := zM (blk_below (g := gb562) (o := .cells #[.slice A0_0 l0_0.length c0_0, .slice A0_1 l0_1.length c0_1] 50 (0, 0)) (zK BK562.out) hb); replace HB := zM (below_step zB hb); (try clear hb); (try clear hb2); (try clear hk); (try clear hi)))
       go_ret
       exact ⟨by first | rfl | (simp [errW_none, errW_some] <;> rfl) | (simp [*, errW_none, errW_some] <;> rfl), zB⟩

/-! ### spec_l1Most: function 83 -/
def spec_l1Most.f (a0 : Int) (a1 : Int) : Option (Int) := if a0 > a1 then (some a0) else (some a1)
set_option maxHeartbeats 8000000 in
set_option maxRecDepth 100000 in
theorem spec_l1Most.calls (a0 : Int) (a1 : Int) (r : Int) (w : World) (h : spec_l1Most.f a0 a1 = some r) :
 Calls Try.prog 83 #[.int .i64 a0, .int .i64 a1] w fun e w' => e = .returned (.int .i64 r) ∧ Drawn0 w w' := by
 have H : (if a0 > a1 then (some a0) else (some a1)) = some r := h
 clear h
 by_cases c3 : a0 > a1
 · rw [if_pos c3] at H
   have c3b0 : decide (a1 < a0) = true := decide_eq_true c3
   clear c3
   obtain rfl := Option.some.inj H
   go_enter Try.func83, Try.ntmps83
   go_wp2
   go_ret
   exact ⟨by first | rfl | (simp; done) | (simp [*]; done), by repeat (first | exact Drawn0.refl _ | apply Drawn0.step)⟩
 · rw [if_neg c3] at H
   have c3b0 : decide (a1 < a0) = false := decide_eq_false c3
   clear c3
   obtain rfl := Option.some.inj H
   go_enter Try.func83, Try.ntmps83
   go_wp2
   go_ret
   exact ⟨by first | rfl | (simp; done) | (simp [*]; done), by repeat (first | exact Drawn0.refl _ | apply Drawn0.step)⟩

/-! ### spec_l2Apart: function 79 -/
def spec_l2Apart.l0 : Nat → List Int → Int → Int → List (List Int) → List (S68) → Option (Int)
 | 0, _, _, _, _, _ => none
 | k + 1, x1, x5, x6, x567000, x567001 => if x6 < (x567001.length : Int) then (if 0 ≤ x6 then (if 0 ≤ ((rd_T68 x567001 x6).f0) then (if ((rd_T68 x567001 x6).f0) < (x1.length : Int) then (if 0 ≤ ((rd_T68 x567001 x6).f1) then (if ((rd_T68 x567001 x6).f1) < (x1.length : Int) then ((spec_l1Most.f (wrap64 ((rd x1 ((rd_T68 x567001 x6).f0)) - (rd x1 ((rd_T68 x567001 x6).f1)))) (wrap64 ((rd x1 ((rd_T68 x567001 x6).f1)) - (rd x1 ((rd_T68 x567001 x6).f0))))).bind fun t571 => ((spec_l1Most.f x5 t571).bind fun t572 => (spec_l2Apart.l0 k x1 t572 (wrap64 (x6 + 1)) x567000 x567001))) else (none)) else (none)) else (none)) else (none)) else (none)) else (some x5)
def spec_l2Apart.f (k : Nat) (l0_0 : List (List Int)) (l0_1 : List (S68)) (l1 : List Int) : Option (Int) := spec_l2Apart.l0 k l1 0 0 l0_0 l0_1
theorem spec_l2Apart.mono_l : ∀ k, (∀ y0 y1 y2 y3 y4, LeO (spec_l2Apart.l0 k y0 y1 y2 y3 y4) (spec_l2Apart.l0 (k + 1) y0 y1 y2 y3 y4))
 | 0 => fun _ _ _ _ _ r h => by simp [spec_l2Apart.l0] at h
 | k + 1 => by
  have ih0 := spec_l2Apart.mono_l k
  · intro y0 y1 y2 y3 y4
    unfold spec_l2Apart.l0
    repeat' first
    | (with_reducible exact ih0 _ _ _ _ _)
    | (with_reducible exact LeO.refl _)
    | (with_reducible exact LeO.none _)
    | (with_reducible refine LeO.ite ?_ ?_)
    | (with_reducible refine LeO.bind ?_ (fun _ => ?_))
    | exact ih0 _ _ _ _ _
    | exact LeO.none _
    | refine LeO.ite ?_ ?_
    | refine LeO.bind ?_ (fun _ => ?_)
theorem spec_l2Apart.mono : ∀ a0 a1 a2 k, LeO (spec_l2Apart.f k a0 a1 a2) (spec_l2Apart.f (k + 1) a0 a1 a2) := by
 intro a0 a1 a2 k
 have ih0 := spec_l2Apart.mono_l k
 unfold spec_l2Apart.f
 repeat' first
  | (with_reducible exact ih0 _ _ _ _ _)
  | (with_reducible exact LeO.refl _)
  | (with_reducible exact LeO.none _)
  | (with_reducible refine LeO.ite ?_ ?_)
  | (with_reducible refine LeO.bind ?_ (fun _ => ?_))
  | exact ih0 _ _ _ _ _
  | exact LeO.none _
  | refine LeO.ite ?_ ?_
  | refine LeO.bind ?_ (fun _ => ?_)
set_option maxHeartbeats 8000000 in
set_option maxRecDepth 100000 in
theorem spec_l2Apart.calls (k : Nat) (A0_0 : Option Addr) (c0_0 : Nat) (l0_0 : List (List Int)) (A0_1 : Option Addr) (c0_1 : Nat) (l0_1 : List (S68)) (A1 : Option Addr) (c1 : Nat) (l1 : List Int) (r : Int) (w : World) (hr0_0 : Kd.C (Kd.slice 3 (Kd.int .i64)) w A0_0 l0_0.length l0_0) (hc0_0 : l0_0.length ≤ c0_0) (hr0_1 : Kd.C k68 w A0_1 l0_1.length l0_1) (hc0_1 : l0_1.length ≤ c0_1) (hr1 : Kd.C (Kd.int .i64) w A1 l1.length l1) (hc1 : l1.length ≤ c1) (h : spec_l2Apart.f k l0_0 l0_1 l1 = some r) :
 Calls Try.prog 79 #[.agg #[.slice A0_0 l0_0.length c0_0, .slice A0_1 l0_1.length c0_1], .slice A1 l1.length c1] w fun e w' => e = .returned (.int .i64 r) ∧ Below w.heap.size w w' := by
 have hu50 := Try.underlying50
 have HR0_0 := Aside0.mk hr0_0
 have HC0_0 := Aside0.mk hc0_0
 clear hr0_0 hc0_0
 have HR0_1 := Aside0.mk hr0_1
 have HC0_1 := Aside0.mk hc0_1
 clear hr0_1 hc0_1
 have HR1 := Aside0.mk hr1
 have HC1 := Aside0.mk hc1
 clear hr1 hc1
 have HB := zM (Below.refl w.heap.size w)
 have H : (spec_l2Apart.l0 k l1 0 0 l0_0 l0_1) = some r := h
 clear h
 have H' := Aside0.mk H
 clear H
 go_enter Try.func79, Try.ntmps79
 go_wp2_with (first | ((with_reducible refine gate_dst (N := 2) rfl ?_); refine zb (w := w) 2 #[.slice A0_0 l0_0.length c0_0, .slice A0_1 l0_1.length c0_1] 50 zB ?_; clear HB; intro gb566 w3 HB BK566 GW566; have GE566 := GW566))
 repeat (go_quiet (first | ((with_reducible refine gate_dst (N := 2) rfl ?_); refine zb (w := w) 2 #[.slice A0_0 l0_0.length c0_0, .slice A0_1 l0_1.length c0_1] 50 zB ?_; clear HB; intro gb566 w3 HB BK566 GW566; have GE566 := GW566)); try go_wp2_with (first | ((with_reducible refine gate_dst (N := 2) rfl ?_); refine zb (w := w) 2 #[.slice A0_0 l0_0.length c0_0, .slice A0_1 l0_1.length c0_1] 50 zB ?_; clear HB; intro gb566 w3 HB BK566 GW566; have GE566 := GW566)))
 go_loopg [5, 6] k (fun kq v5 v6 w' => ∃ (x5_1 : Int) (x6_1 : Int), v5 = .int .i64 x5_1 ∧ v6 = .int .i64 x6_1 ∧ Aside0 (spec_l2Apart.l0 kq l1 x5_1 x6_1 l0_0 l0_1 = some r) ∧ Aside0 (kq ≤ k) ∧ Aside0 (w'.heap[gb566]? = some (.cells #[(.slice A0_0 l0_0.length c0_0), (.slice A0_1 l0_1.length c0_1)] 50 (0, 0))) ∧ Aside0 (Below w.heap.size w w'))
 case atStart => exact ⟨(0), (0), (by first | rfl | (simp; done) | (simp [*]; done)), (by first | rfl | (simp; done) | (simp [*]; done)), H', ⟨Nat.le_refl _⟩, ⟨zK BK566.out⟩, ⟨zB⟩⟩
 case round =>
  clear H'
  try clear c1
  try clear p2
  obtain ⟨x5_1, x6_1, rfl, rfl, HA, HK1, BK566, HB⟩ := hrel
  cases gk with
  | zero => exact absurd HA.out (by simp [spec_l2Apart.l0])
  | succ k1 =>
   have H := HA.out
   clear HA
   simp only [spec_l2Apart.l0] at H
   by_cases c4 : x6_1 < (l0_1.length : Int)
   · rw [if_pos c4] at H
     have c4b0 := decide_eq_true c4
     clear c4
     by_cases c5 : 0 ≤ x6_1
     · rw [if_pos c5] at H
       have c5b0 := decide_eq_true c5
       clear c5
       by_cases c6 : 0 ≤ ((rd_T68 l0_1 x6_1).f0)
       · rw [if_pos c6] at H
         have c6b0 := decide_eq_true c6
         clear c6
         by_cases c7 : ((rd_T68 l0_1 x6_1).f0) < (l1.length : Int)
         · rw [if_pos c7] at H
           have c7b0 := decide_eq_true c7
           clear c7
           by_cases c8 : 0 ≤ ((rd_T68 l0_1 x6_1).f1)
           · rw [if_pos c8] at H
             have c8b0 := decide_eq_true c8
             clear c8
             by_cases c9 : ((rd_T68 l0_1 x6_1).f1) < (l1.length : Int)
             · rw [if_pos c9] at H
               have c9b0 := decide_eq_true c9
               clear c9
               replace H := Option.bind_eq_some_iff.mp H
               obtain ⟨t571, A100, H⟩ := H
               have A10 := Aside0.mk A100
               clear A100
               replace H := Option.bind_eq_some_iff.mp H
               obtain ⟨t572, A110, H⟩ := H
               have A11 := Aside0.mk A110
               clear A110
               have H' := Aside0.mk H
               clear H
               have hcz12_0 := zy BK566 0
               have hcz12_1 := zy BK566 1
               have hfz12_0 := blk_frozen BK566.out 0
               have hfz12_1 := blk_frozen BK566.out 1
               have p567 : 0 ≤ (x6_1 : Int) := of_decide_eq_true zA
               have q567 : x6_1 < (l0_1.length : Int) := of_decide_eq_true zA
               obtain ⟨ad567, e567, hx567_0, hx567_1⟩ := at_T68 HR0_1.out x6_1 p567 q567
               cases e567
               (try replace hx567_0 := (HB.out.cell (World.block_lt_of_cell? w _ hx567_0)).trans hx567_0)
               (try replace hx567_1 := (HB.out.cell (World.block_lt_of_cell? w _ hx567_1)).trans hx567_1)
               replace p567 := eq_true p567
               replace q567 := eq_true q567
               have p568 : 0 ≤ (((rd_T68 l0_1 x6_1).f0) : Int) := of_decide_eq_true zA
               have q568 : ((rd_T68 l0_1 x6_1).f0) < (l1.length : Int) := of_decide_eq_true zA
               obtain ⟨ad568, e568, hx568_0⟩ := Kd.at_int HR1.out ((rd_T68 l0_1 x6_1).f0) p568 q568
               cases e568
               (try replace hx568_0 := (HB.out.cell (World.block_lt_of_cell? w _ hx568_0)).trans hx568_0)
               replace p568 := eq_true p568
               replace q568 := eq_true q568
               have p569 : 0 ≤ (x6_1 : Int) := of_decide_eq_true zA
               have q569 : x6_1 < (l0_1.length : Int) := of_decide_eq_true zA
               obtain ⟨ad569, e569, hx569_0, hx569_1⟩ := at_T68 HR0_1.out x6_1 p569 q569
               obtain rfl : ad567 = ad569 := (by injection e569)
               (try replace hx569_0 := (HB.out.cell (World.block_lt_of_cell? w _ hx569_0)).trans hx569_0)
               (try replace hx569_1 := (HB.out.cell (World.block_lt_of_cell? w _ hx569_1)).trans hx569_1)
               replace p569 := eq_true p569
               replace q569 := eq_true q569
               have p570 : 0 ≤ (((rd_T68 l0_1 x6_1).f1) : Int) := of_decide_eq_true zA
               have q570 : ((rd_T68 l0_1 x6_1).f1) < (l1.length : Int) := of_decide_eq_true zA
               obtain ⟨ad570, e570, hx570_0⟩ := Kd.at_int HR1.out ((rd_T68 l0_1 x6_1).f1) p570 q570
               obtain rfl : ad568 = ad570 := (by injection e570)
               (try replace hx570_0 := (HB.out.cell (World.block_lt_of_cell? w _ hx570_0)).trans hx570_0)
               replace p570 := eq_true p570
               replace q570 := eq_true q570
               go_wp2_with (first | (go_at_call 83; (with_reducible refine (spec_l1Most.calls (wrap64 ((rd l1 ((rd_T68 l0_1 x6_1).f0)) - (rd l1 ((rd_T68 l0_1 x6_1).f1)))) (wrap64 ((rd l1 ((rd_T68 l0_1 x6_1).f1)) - (rd l1 ((rd_T68 l0_1 x6_1).f0)))) t571 _ A10.out).mono ?_); rintro e w' ⟨rfl, ⟨nd, rfl⟩⟩; (try exact zD)) | (go_at_call 83; (with_reducible refine (spec_l1Most.calls x5_1 t571 t572 _ A11.out).mono ?_); rintro e w' ⟨rfl, ⟨nd, rfl⟩⟩; (try exact zD)))
               repeat (go_quiet (first | (go_at_call 83; (with_reducible refine (spec_l1Most.calls (wrap64 ((rd l1 ((rd_T68 l0_1 x6_1).f0)) - (rd l1 ((rd_T68 l0_1 x6_1).f1)))) (wrap64 ((rd l1 ((rd_T68 l0_1 x6_1).f1)) - (rd l1 ((rd_T68 l0_1 x6_1).f0)))) t571 _ A10.out).mono ?_); rintro e w' ⟨rfl, ⟨nd, rfl⟩⟩; (try exact zD)) | (go_at_call 83; (with_reducible refine (spec_l1Most.calls x5_1 t571 t572 _ A11.out).mono ?_); rintro e w' ⟨rfl, ⟨nd, rfl⟩⟩; (try exact zD))); try go_wp2_with (first | (go_at_call 83; (with_reducible refine (spec_l1Most.calls (wrap64 ((rd l1 ((rd_T68 l0_1 x6_1).f0)) - (rd l1 ((rd_T68 l0_1 x6_1).f1)))) (wrap64 ((rd l1 ((rd_T68 l0_1 x6_1).f1)) - (rd l1 ((rd_T68 l0_1 x6_1).f0)))) t571 _ A10.out).mono ?_); rintro e w' ⟨rfl, ⟨nd, rfl⟩⟩; (try exact zD)) | (go_at_call 83; (with_reducible refine (spec_l1Most.calls x5_1 t571 t572 _ A11.out).mono ?_); rintro e w' ⟨rfl, ⟨nd, rfl⟩⟩; (try exact zD))))
               go_roundg k1
               case measure => have := HK1.out; omega
               case rel => exact ⟨(t572), (wrap64 (x6_1 + 1)), (by first | rfl | (simp; done) | (simp [*]; done)), (by first | rfl | (simp; done) | (simp [*]; done)), H', ⟨by have := HK1.out; omega⟩, ⟨zK BK566.out⟩, ⟨zB⟩⟩
             · rw [if_neg c9] at H
               exact absurd H (by simp)
           · rw [if_neg c8] at H
             exact absurd H (by simp)
         · rw [if_neg c7] at H
           exact absurd H (by simp)
       · rw [if_neg c6] at H
         exact absurd H (by simp)
     · rw [if_neg c5] at H
       exact absurd H (by simp)
   · rw [if_neg c4] at H
     have c4b0 : decide (x6_1 < (l0_1.length : Int)) = false := decide_eq_false c4
     clear c4
     obtain rfl := Option.some.inj H
     have hcz13_0 := zy BK566 0
     have hcz13_1 := zy BK566 1
     have hfz13_0 := blk_frozen BK566.out 0
     have hfz13_1 := blk_frozen BK566.out 1
     go_wp2
     repeat (go_quiet (fail); try go_wp2)
     go_ret
     exact ⟨by first | rfl | (simp [errW_none, errW_some] <;> rfl) | (simp [*, errW_none, errW_some] <;> rfl), zB⟩

/-! ### spec_AreKept: function 39 -/
def spec_AreKept.f (k : Nat) (l0_0 : List (List Int)) (l0_1 : List (S68)) (l1 : List Int) : Option (Bool × Bool) := (spec_l2Values.f k l0_0 l0_1 l1).bind fun t574 => (if t574 = true then ((spec_l2Apart.f k l0_0 l0_1 l1).bind fun t575 => (some ((t575 == 0), true))) else (some (false, false)))
theorem spec_AreKept.mono : ∀ a0 a1 a2 k, LeO (spec_AreKept.f k a0 a1 a2) (spec_AreKept.f (k + 1) a0 a1 a2) := by
 intro a0 a1 a2 k
 unfold spec_AreKept.f
 repeat' first
  | (with_reducible exact spec_l2Apart.mono _ _ _ _)
  | (with_reducible exact spec_l2Values.mono _ _ _ _)
  | (with_reducible exact LeO.refl _)
  | (with_reducible exact LeO.none _)
  | (with_reducible refine LeO.ite ?_ ?_)
  | (with_reducible refine LeO.bind ?_ (fun _ => ?_))
  | exact spec_l2Apart.mono _ _ _ _
  | exact spec_l2Values.mono _ _ _ _
  | exact LeO.none _
  | refine LeO.ite ?_ ?_
  | refine LeO.bind ?_ (fun _ => ?_)
set_option maxHeartbeats 8000000 in
set_option maxRecDepth 100000 in
theorem spec_AreKept.calls (k : Nat) (A0_0 : Option Addr) (c0_0 : Nat) (l0_0 : List (List Int)) (A0_1 : Option Addr) (c0_1 : Nat) (l0_1 : List (S68)) (A1 : Option Addr) (c1 : Nat) (l1 : List Int) (r1 : Bool) (r2 : Bool) (w : World) (hr0_0 : Kd.C (Kd.slice 3 (Kd.int .i64)) w A0_0 l0_0.length l0_0) (hc0_0 : l0_0.length ≤ c0_0) (hr0_1 : Kd.C k68 w A0_1 l0_1.length l0_1) (hc0_1 : l0_1.length ≤ c0_1) (hr1 : Kd.C (Kd.int .i64) w A1 l1.length l1) (hc1 : l1.length ≤ c1) (h : spec_AreKept.f k l0_0 l0_1 l1 = some (r1, r2)) :
 Calls Try.prog 39 #[.agg #[.slice A0_0 l0_0.length c0_0, .slice A0_1 l0_1.length c0_1], .slice A1 l1.length c1] w fun e w' => e = .returned (.tuple #[.bool r1, .bool r2]) ∧ Below w.heap.size w w' := by
 have hu50 := Try.underlying50
 have HR0_0 := Aside0.mk hr0_0
 have HC0_0 := Aside0.mk hc0_0
 clear hr0_0 hc0_0
 have HR0_1 := Aside0.mk hr0_1
 have HC0_1 := Aside0.mk hc0_1
 clear hr0_1 hc0_1
 have HR1 := Aside0.mk hr1
 have HC1 := Aside0.mk hc1
 clear hr1 hc1
 have HB := zM (Below.refl w.heap.size w)
 have H : ((spec_l2Values.f k l0_0 l0_1 l1).bind fun t574 => (if t574 = true then ((spec_l2Apart.f k l0_0 l0_1 l1).bind fun t575 => (some ((t575 == 0), true))) else (some (false, false)))) = some (r1, r2) := h
 clear h
 replace H := Option.bind_eq_some_iff.mp H
 obtain ⟨t574, A30, H⟩ := H
 replace H : (if t574 = true then ((spec_l2Apart.f k l0_0 l0_1 l1).bind fun t575 => (some ((t575 == 0), true))) else (some (false, false))) = some (r1, r2) := H
 have A3 := Aside0.mk A30
 clear A30
 by_cases c4 : t574 = true
 · subst c4
   have H1 : ((spec_l2Apart.f k l0_0 l0_1 l1).bind fun t575 => (some ((t575 == 0), true))) = some (r1, r2) := by rw [if_pos rfl] at H; exact H
   clear H
   have H := H1
   clear H1
   replace H := Option.bind_eq_some_iff.mp H
   obtain ⟨t575, A50, H⟩ := H
   replace H : (some ((t575 == 0), true)) = some (r1, r2) := H
   have A5 := Aside0.mk A50
   clear A50
   simp only [Option.some.injEq, Prod.mk.injEq] at H
   obtain ⟨rfl, rfl⟩ := H
   go_enter Try.func39, Try.ntmps39
   go_wp2_with (first | ((with_reducible refine gate_dst (N := 2) rfl ?_); refine zb (w := w) 2 #[.slice A0_0 l0_0.length c0_0, .slice A0_1 l0_1.length c0_1] 50 zB ?_; clear HB; intro gb573 w6 HB BK573 GW573; have GE573 := GW573; have hcz7_0 := zy BK573 0; have hcz7_1 := zy BK573 1; have hfz7_0 := blk_frozen BK573.out 0; have hfz7_1 := blk_frozen BK573.out 1) | ((with_reducible refine gate_callee (f := 78) rfl ?_); refine zc 8 Try.func78 #[.agg #[.slice A0_0 l0_0.length c0_0, .slice A0_1 l0_1.length c0_1], .slice A1 l1.length c1] ?_; (with_reducible refine (spec_l2Values.calls k _ _ l0_0 _ _ l0_1 _ _ l1 true _ ?side1 ?side2 ?side3 ?side4 ?side5 ?side6 A3.out).mono ?_); (case side1 => exact zC (Kd.C_below HR0_0.out HB.out)); (case side2 => exact HC0_0.out); (case side3 => exact zC (Kd.C_below HR0_1.out HB.out)); (case side4 => exact HC0_1.out); (case side5 => exact zC (Kd.C_below HR1.out HB.out)); (case side6 => exact HC1.out); rintro e w8 ⟨rfl, hb⟩; refine ⟨_, rfl, ?_⟩; replace BK573 := zM (blk_below (g := gb573) (o := .cells #[.slice A0_0 l0_0.length c0_0, .slice A0_1 l0_1.length c0_1] 50 (0, 0)) (zK BK573.out) hb); replace HB := zM (below_step zB hb); (try clear hb); (try clear hb2); (try clear hk); (try clear hi); have hcz9_0 := zy BK573 0; have hcz9_1 := zy BK573 1; have hfz9_0 := blk_frozen BK573.out 0; have hfz9_1 := blk_frozen BK573.out 1) | ((with_reducible refine gate_callee (f := 79) rfl ?_); refine zc 12 Try.func79 #[.agg #[.slice A0_0 l0_0.length c0_0, .slice A0_1 l0_1.length c0_1], .slice A1 l1.length c1] ?_; (with_reducible refine (spec_l2Apart.calls k _ _ l0_0 _ _ l0_1 _ _ l1 t575 _ ?side1 ?side2 ?side3 ?side4 ?side5 ?side6 A5.out).mono ?_); (case side1 => exact zC (Kd.C_below HR0_0.out HB.out)); (case side2 => exact HC0_0.out); (case side3 => exact zC (Kd.C_below HR0_1.out HB.out)); (case side4 => exact HC0_1.out); (case side5 => exact zC (Kd.C_below HR1.out HB.out)); (case side6 => exact HC1.out); rintro e w10 ⟨rfl, hb⟩; refine ⟨_, rfl, ?_⟩; replace BK573 := zM (blk_below (g := gb573) (o := .cells #[.slice A0_0 l0_0.length c0_0, .slice A0_1 l0_1.length c0_1] 50 (0, 0)) (zK BK573.out) hb); replace HB := zM (below_step zB hb); (try clear hb); (try clear hb2); (try clear hk); (try clear hi)))
   go_ret2
   exact ⟨by first | rfl | (simp [errW_none, errW_some] <;> rfl) | (simp [*, errW_none, errW_some] <;> rfl), zB⟩
 · replace c4 := Bool.eq_false_iff.mpr c4
   subst c4
   have H1 : (some (false, false)) = some (r1, r2) := by rw [if_neg (show ¬ (false = true) by decide)] at H; exact H
   clear H
   have H := H1
   clear H1
   simp only [Option.some.injEq, Prod.mk.injEq] at H
   obtain ⟨rfl, rfl⟩ := H
   go_enter Try.func39, Try.ntmps39
   go_wp2_with (first | ((with_reducible refine gate_dst (N := 2) rfl ?_); refine zb (w := w) 2 #[.slice A0_0 l0_0.length c0_0, .slice A0_1 l0_1.length c0_1] 50 zB ?_; clear HB; intro gb573 w11 HB BK573 GW573; have GE573 := GW573; have hcz12_0 := zy BK573 0; have hcz12_1 := zy BK573 1; have hfz12_0 := blk_frozen BK573.out 0; have hfz12_1 := blk_frozen BK573.out 1) | ((with_reducible refine gate_callee (f := 78) rfl ?_); refine zc 8 Try.func78 #[.agg #[.slice A0_0 l0_0.length c0_0, .slice A0_1 l0_1.length c0_1], .slice A1 l1.length c1] ?_; (with_reducible refine (spec_l2Values.calls k _ _ l0_0 _ _ l0_1 _ _ l1 false _ ?side1 ?side2 ?side3 ?side4 ?side5 ?side6 A3.out).mono ?_); (case side1 => exact zC (Kd.C_below HR0_0.out HB.out)); (case side2 => exact HC0_0.out); (case side3 => exact zC (Kd.C_below HR0_1.out HB.out)); (case side4 => exact HC0_1.out); (case side5 => exact zC (Kd.C_below HR1.out HB.out)); (case side6 => exact HC1.out); rintro e w13 ⟨rfl, hb⟩; refine ⟨_, rfl, ?_⟩; replace BK573 := zM (blk_below (g := gb573) (o := .cells #[.slice A0_0 l0_0.length c0_0, .slice A0_1 l0_1.length c0_1] 50 (0, 0)) (zK BK573.out) hb); replace HB := zM (below_step zB hb); (try clear hb); (try clear hb2); (try clear hk); (try clear hi)))
   go_ret2
   exact ⟨by first | rfl | (simp [errW_none, errW_some] <;> rfl) | (simp [*, errW_none, errW_some] <;> rfl), zB⟩

end Go.Proofs.Ytpbngmkhpcgpkaa.P
