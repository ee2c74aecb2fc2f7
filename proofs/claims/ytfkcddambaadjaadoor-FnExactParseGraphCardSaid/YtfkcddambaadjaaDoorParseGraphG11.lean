-- Written by a program of this session (the kit's print, turned: wip/print/patch.py) out of the translation. Not trusted: Lean checks it.
import Derived.Test.YtfkcddambaadjaaDoorParseGraphG3
import Derived.Test.YtfkcddambaadjaaDoorParseGraphG6
import Derived.Test.YtfkcddambaadjaaDoorParseGraphG9
import Derived.Test.YtfkcddambaadjaaDoorParseGraphG10
namespace Go.Proofs.YtfkcddambaadjaaDoor.P
open Go.RowKit Go.Proofs.YtfkcddambaadjaaDoorW.PrintWords Go.Proofs.YtfkcddambaadjaaDoorW.PrintLast Go.Proofs.YtfkcddambaadjaaDoorW.PrintMore
attribute [local go_sem] max2_int min2_int max_two min_two max_three min_three max_four min_four   -- for this text's walks alone
set_option linter.unusedVariables false
set_option linter.unusedSimpArgs false

/-! ### laws_FnExactParseGraph: function 4 -/
mutual
noncomputable def laws_FnExactParseGraph.j0 : Nat → ByteArray → Bool → Bool → Int → List (S41) → Int → List (S41) → Option (Bool)
 | 0, _, _, _, _, _, _, _ => none
 | k + 1, x0, x4, x32, x246000, x246001, x252000, x252001 => if x32 = true then (some false) else ((laws_markGraph.f x252000 x252001 1).bind fun bt253 => ((laws_heldGraph.f x252000 bt253.2 1).bind fun t255 => (if t255 < 0 then (some false) else (if t255 = bt253.1 then ((impl_ParseGraph.f x0).bind fun bt256 => ((laws_eqGraph.f k bt256.1 bt256.2.1 x246000 x246001).bind fun t262 => (if t262 = true then (laws_FnExactParseGraph.j1 k bt253.1 (bt256.2.2 != x4) x252000 bt253.2) else (laws_FnExactParseGraph.j1 k bt253.1 true x252000 bt253.2)))) else (some false)))))
noncomputable def laws_FnExactParseGraph.j1 : Nat → Int → Bool → Int → List (S41) → Option (Bool)
 | 0, _, _, _, _ => none
 | k + 1, x7, x57, x252000, x252001 => if x57 = true then (some false) else ((laws_heldGraph.f x252000 x252001 1).bind fun t263 => (if t263 < 0 then (some false) else (if t263 = x7 then (some true) else (some false))))
end
noncomputable def laws_FnExactParseGraph.f (k : Nat) (a0 : ByteArray) : Option (Bool) := if (a0.size : Int) > 1048576 then (some true) else ((spec_ParseGraph.f k a0).bind fun bt240 => ((impl_ParseGraph.f a0).bind fun bt246 => ((laws_eqGraph.f k bt246.1 bt246.2.1 bt240.1 bt240.2.1).bind fun t252 => (if t252 = true then (laws_FnExactParseGraph.j0 k a0 bt240.2.2 (bt246.2.2 != bt240.2.2) bt240.1 bt240.2.1 bt246.1 bt246.2.1) else (laws_FnExactParseGraph.j0 k a0 bt240.2.2 true bt240.1 bt240.2.1 bt246.1 bt246.2.1)))))
set_option maxHeartbeats 8000000 in
set_option maxRecDepth 100000 in
theorem laws_FnExactParseGraph.calls (k : Nat) (a0 : ByteArray) (r : Bool) (w : World) (henv : ∀ w_ : World, Below w.heap.size w w_ → Env w_) (h : laws_FnExactParseGraph.f k a0 = some r) :
 Calls Tryd.prog 4 #[.string a0] w fun e w' => e = .returned (.bool r) ∧ Below w.heap.size w w' := by
 have HEnv := zM henv
 clear henv
 have hu28 := Tryd.underlying28
 have HB := zM (Below.refl w.heap.size w)
 have H : (if (a0.size : Int) > 1048576 then (some true) else ((spec_ParseGraph.f k a0).bind fun bt240 => ((impl_ParseGraph.f a0).bind fun bt246 => ((laws_eqGraph.f k bt246.1 bt246.2.1 bt240.1 bt240.2.1).bind fun t252 => (if t252 = true then (laws_FnExactParseGraph.j0 k a0 bt240.2.2 (bt246.2.2 != bt240.2.2) bt240.1 bt240.2.1 bt246.1 bt246.2.1) else (laws_FnExactParseGraph.j0 k a0 bt240.2.2 true bt240.1 bt240.2.1 bt246.1 bt246.2.1)))))) = some r := h
 clear h
 by_cases c2 : (a0.size : Int) > 1048576
 · rw [if_pos c2] at H
   have c2b0 : decide (1048576 < (a0.size : Int)) = true := decide_eq_true c2
   have c2b1 : decide (1048576 < a0.size) = true := decide_eq_true (by omega)
   clear c2
   obtain rfl := Option.some.inj H
   go_enter Tryd.func4, Tryd.ntmps4
   go_wp2
   go_ret
   exact ⟨by first | rfl | (simp [errW_none, errW_some] <;> rfl) | (simp [*, errW_none, errW_some] <;> rfl), zB⟩
 · rw [if_neg c2] at H
   have c2b0 : decide (1048576 < (a0.size : Int)) = false := decide_eq_false c2
   have c2b1 : decide (1048576 < a0.size) = false := decide_eq_false (by omega)
   clear c2
   replace H := Option.bind_eq_some_iff.mp H
   obtain ⟨⟨t240, t241, t244⟩, A30, H⟩ := H
   replace H : ((impl_ParseGraph.f a0).bind fun bt246 => ((laws_eqGraph.f k bt246.1 bt246.2.1 t240 t241).bind fun t252 => (if t252 = true then (laws_FnExactParseGraph.j0 k a0 t244 (bt246.2.2 != t244) t240 t241 bt246.1 bt246.2.1) else (laws_FnExactParseGraph.j0 k a0 t244 true t240 t241 bt246.1 bt246.2.1)))) = some r := H
   have A3 := Aside0.mk A30
   clear A30
   replace H := Option.bind_eq_some_iff.mp H
   obtain ⟨⟨t246, t247, t250⟩, A40, H⟩ := H
   replace H : ((laws_eqGraph.f k t246 t247 t240 t241).bind fun t252 => (if t252 = true then (laws_FnExactParseGraph.j0 k a0 t244 (t250 != t244) t240 t241 t246 t247) else (laws_FnExactParseGraph.j0 k a0 t244 true t240 t241 t246 t247))) = some r := H
   have A4 := Aside0.mk A40
   clear A40
   have HC5 := Aside0.mk H
   clear H
   go_enter Tryd.func4, Tryd.ntmps4
   go_upto_region 5 with (first | ((with_reducible refine gate_callee (f := 10) rfl ?_); refine zc 16 Tryd.func10 #[.string a0] ?_; (with_reducible refine (spec_ParseGraph.calls k a0 t240 t241 t244 _ A3.out).mono ?_); rintro e w6 ⟨v242, rfl, ho0, hb⟩; refine ⟨_, rfl, ?_⟩; have HO243 := zM (Kd.R_lower ho0 (below_size zB)); replace HB := zM (below_step zB hb); (try clear hb); (try clear hb2); (try clear hk); (try clear hi); (try clear ho0)) | ((with_reducible refine gate_dst (N := 3) rfl ?_); refine ze 3 #[.int .i64 0, .slice none 0 0] 28 ?_; intro gb245 hg w7 hbox hb; replace HO243 := zM (Kd.R_below (zR HO243.out) hb); have BK245 := zM (hbox); have GW245 := zM ((by rw [hg]; exact (below_size zB) : w.heap.size ≤ gb245)); have GE245 := zM ((by rw [hg]; exact (below_size zB) : w.heap.size ≤ gb245)); replace HB := zM (below_step zB hb); clear hb hbox hg; have hcz8_0 := zy BK245 0; have hcz8_1 := zy BK245 1; have hfz8_0 := blk_frozen BK245.out 0; have hfz8_1 := blk_frozen BK245.out 1; obtain ⟨Ao9, co9, eo9⟩ := Kd.R_slice HO243.out; subst eo9) | ((with_reducible refine gate_callee (f := 11) rfl ?_); refine zc 21 Tryd.func11 #[.string a0] ?_; (with_reducible refine (impl_ParseGraph.calls a0 t246 t247 t250 _ (fun w_ hb_ => HEnv.out w_ (below_step zB hb_)) A4.out).mono ?_); rintro e w10 ⟨v248, rfl, ho0, hb⟩; refine ⟨_, rfl, ?_⟩; have HO249 := zM (Kd.R_lower (Kd.R_new' ho0 (Kd.R_lt (by (with_reducible repeat (first | apply Kd.R_alloc | apply Kd.R_drewN | apply Kd.R_drew)); exact (Kd.R_mono (Kd.R_far (p := ⟨gb245, 1, none⟩) (Kd.R_far (p := ⟨gb245, 0, none⟩) (Kd.R_types HO243.out BK245.out (by decide)) (fun _ hk => hk.2) (.int .i64 t240)) (fun _ hk => hk.2) (.slice Ao9 t241.length co9)) (fun _ h_ => h_.1))))) (below_size zB)); replace HO243 := zM (Kd.R_elder' (by (with_reducible repeat (first | apply Kd.R_alloc | apply Kd.R_drewN | apply Kd.R_drew)); exact (Kd.R_mono (Kd.R_far (p := ⟨gb245, 1, none⟩) (Kd.R_far (p := ⟨gb245, 0, none⟩) (Kd.R_types HO243.out BK245.out (by decide)) (fun _ hk => hk.2) (.int .i64 t240)) (fun _ hk => hk.2) (.slice Ao9 t241.length co9)) (fun _ h_ => h_.1))) (Kd.R_base ho0) hb); replace BK245 := zM (blk_below (g := gb245) (o := .cells #[.int .i64 t240, .slice Ao9 t241.length co9] 28 (0, 0)) (by (with_reducible repeat (first | refine blk_drewN ?_ _ | refine blk_drew ?_ | refine blk_alloc ?_ _)); refine blk_put (cs := #[.int .i64 t240, .slice none 0 0]) ?_ 1 _ rfl; (with_reducible repeat (first | refine blk_drewN ?_ _ | refine blk_drew ?_ | refine blk_alloc ?_ _)); refine blk_put (cs := #[.int .i64 0, .slice none 0 0]) ?_ 0 _ rfl; (with_reducible repeat (first | refine blk_drewN ?_ _ | refine blk_drew ?_ | refine blk_alloc ?_ _)); exact BK245.out) hb); replace HB := zM (below_step zB hb); (try clear hb); (try clear hb2); (try clear hk); (try clear hi); (try clear ho0)) | ((with_reducible refine gate_dst (N := 5) rfl ?_); refine ze 5 #[.int .i64 0, .slice none 0 0] 28 ?_; intro gb251 hg w11 hbox hb; replace HO243 := zM (Kd.R_below (zR HO243.out) hb); replace HO249 := zM (Kd.R_below (zR HO249.out) hb); have BK251 := zM (hbox); have GW251 := zM ((by rw [hg]; exact (below_size zB) : w.heap.size ≤ gb251)); have GE251 := zM ((by rw [hg]; exact (below_size zB) : w.heap.size ≤ gb251)); replace HB := zM (below_step zB hb); have NB245_251 := zM ((by rw [hg]; exact Nat.ne_of_lt (blk_lt (g := gb245) (o := .cells #[.int .i64 t240, .slice Ao9 t241.length co9] 28 (0, 0)) (zK BK245.out)) : gb245 ≠ gb251)); have NB251_245 := zM ((by rw [hg]; exact Nat.ne_of_gt (blk_lt (g := gb245) (o := .cells #[.int .i64 t240, .slice Ao9 t241.length co9] 28 (0, 0)) (zK BK245.out)) : gb251 ≠ gb245)); replace BK245 := zM (blk_below (g := gb245) (o := .cells #[.int .i64 t240, .slice Ao9 t241.length co9] 28 (0, 0)) (zK BK245.out) hb); clear hb hbox hg; have hnb12 := NB251_245.out; have hnc12 := NB245_251.out; have hcz13_0 := zy BK251 0; have hcz13_1 := zy BK251 1; have hfz13_0 := blk_frozen BK251.out 0; have hfz13_1 := blk_frozen BK251.out 1; obtain ⟨Ao14, co14, eo14⟩ := Kd.R_slice HO249.out; subst eo14))
   (try simp only [Act.put, List.setIfInBounds_toArray, List.set_cons_zero, List.set_cons_succ])
   go_cut [32] (fun v32 wc => ∃ (kq : Nat) (x32_4 : Bool), v32 = .bool x32_4 ∧ Aside0 (laws_FnExactParseGraph.j0 kq a0 t244 x32_4 t240 t241 t246 t247 = some r) ∧ Aside0 (kq ≤ k) ∧ Aside0 (Kd.R k41 41 wc w.heap.size (fun k_ => some k_ ≠ ((.slice Ao14 t247.length co14) : Value).ownBlock) (.slice Ao9 t241.length co9) t241) ∧ Aside0 (Kd.R k41 41 wc w.heap.size (fun k_ => some k_ ≠ ((.slice Ao9 t241.length co9) : Value).ownBlock) (.slice Ao14 t247.length co14) t247) ∧ Aside0 (wc.heap[gb245]? = some (.cells #[.int .i64 t240, (.slice Ao9 t241.length co9)] 28 (0, 0))) ∧ Aside0 (wc.heap[gb251]? = some (.cells #[.int .i64 t246, (.slice Ao14 t247.length co14)] 28 (0, 0))) ∧ Aside0 (Below w.heap.size w wc))
   case first =>
    have H := HC5.out
    clear HC5
    replace H := Option.bind_eq_some_iff.mp H
    obtain ⟨t252, A150, H⟩ := H
    have A15 := Aside0.mk A150
    clear A150
    by_cases c16 : t252 = true
    · subst c16
      rw [if_pos rfl] at H
      have H' := Aside0.mk H
      clear H
      have hnb17 := NB251_245.out
      have hnc17 := NB245_251.out
      have hcz18_0 := zy BK251 0
      have hcz18_1 := zy BK251 1
      have hfz18_0 := blk_frozen BK251.out 0
      have hfz18_1 := blk_frozen BK251.out 1
      have hcz19_0 := zy BK245 0
      have hcz19_1 := zy BK245 1
      have hfz19_0 := blk_frozen BK245.out 0
      have hfz19_1 := blk_frozen BK245.out 1
      go_wp2_with (first | ((with_reducible refine gate_callee (f := 9) rfl ?_); refine zc 26 Tryd.func9 #[.agg #[.int .i64 t246, .slice Ao14 t247.length co14], .agg #[.int .i64 t240, .slice Ao9 t241.length co9]] ?_; (with_reducible refine (laws_eqGraph.calls k t246 _ _ t247 t240 _ _ t241 true _ ?side1 ?side2 ?side3 ?side4 A15.out).mono ?_); (case side1 => refine (Kd.R_reads' (e := 41) (base := w.heap.size) (ok := fun k_ => (True ∧ some k_ ≠ (.slice Ao9 t241.length co9 : Value).ownBlock)) (n := t247.length) (c := co14) ?_).2.2; exact (by (with_reducible repeat (first | apply Kd.R_alloc | apply Kd.R_drewN | apply Kd.R_drew)); exact (Kd.R_mono (Kd.R_far (p := ⟨gb251, 1, none⟩) (Kd.R_far (p := ⟨gb251, 0, none⟩) (Kd.R_types HO249.out BK251.out (by decide)) (fun _ hk => hk.2) (.int .i64 t246)) (fun _ hk => hk.2) (.slice Ao14 t247.length co14)) (fun _ h_ => h_.1)))); (case side2 => exact (Kd.R_reads' HO249.out).2.1); (case side3 => refine (Kd.R_reads' (e := 41) (base := w.heap.size) (ok := fun k_ => (True ∧ some k_ ≠ (.slice Ao14 t247.length co14 : Value).ownBlock)) (n := t241.length) (c := co9) ?_).2.2; exact (by (with_reducible repeat (first | apply Kd.R_alloc | apply Kd.R_drewN | apply Kd.R_drew)); exact (Kd.R_mono (Kd.R_far (p := ⟨gb251, 1, none⟩) (Kd.R_far (p := ⟨gb251, 0, none⟩) (Kd.R_types HO243.out BK251.out (by decide)) (fun _ hk => hk.2) (.int .i64 t246)) (fun _ hk => hk.2) (.slice Ao14 t247.length co14)) (fun _ h_ => h_.1)))); (case side4 => exact (Kd.R_reads' HO243.out).2.1); rintro e w20 ⟨rfl, hb⟩; refine ⟨_, rfl, ?_⟩; replace HO243 := zM (Kd.R_below (by (with_reducible repeat (first | apply Kd.R_alloc | apply Kd.R_drewN | apply Kd.R_drew)); exact (Kd.R_mono (Kd.R_far (p := ⟨gb251, 1, none⟩) (Kd.R_far (p := ⟨gb251, 0, none⟩) (Kd.R_types HO243.out BK251.out (by decide)) (fun _ hk => hk.2) (.int .i64 t246)) (fun _ hk => hk.2) (.slice Ao14 t247.length co14)) (fun _ h_ => h_.1))) hb); replace HO249 := zM (Kd.R_below (by (with_reducible repeat (first | apply Kd.R_alloc | apply Kd.R_drewN | apply Kd.R_drew)); exact (Kd.R_mono (Kd.R_far (p := ⟨gb251, 1, none⟩) (Kd.R_far (p := ⟨gb251, 0, none⟩) (Kd.R_types HO249.out BK251.out (by decide)) (fun _ hk => hk.2) (.int .i64 t246)) (fun _ hk => hk.2) (.slice Ao14 t247.length co14)) (fun _ h_ => h_.1))) hb); replace BK245 := zM (blk_below (g := gb245) (o := .cells #[.int .i64 t240, .slice Ao9 t241.length co9] 28 (0, 0)) (by (with_reducible repeat (first | refine blk_drewN ?_ _ | refine blk_drew ?_ | refine blk_alloc ?_ _)); refine blk_far ?_ NB245_251.out _; (with_reducible repeat (first | refine blk_drewN ?_ _ | refine blk_drew ?_ | refine blk_alloc ?_ _)); refine blk_far ?_ NB245_251.out _; (with_reducible repeat (first | refine blk_drewN ?_ _ | refine blk_drew ?_ | refine blk_alloc ?_ _)); exact BK245.out) hb); replace BK251 := zM (blk_below (g := gb251) (o := .cells #[.int .i64 t246, .slice Ao14 t247.length co14] 28 (0, 0)) (by (with_reducible repeat (first | refine blk_drewN ?_ _ | refine blk_drew ?_ | refine blk_alloc ?_ _)); refine blk_put (cs := #[.int .i64 t246, .slice none 0 0]) ?_ 1 _ rfl; (with_reducible repeat (first | refine blk_drewN ?_ _ | refine blk_drew ?_ | refine blk_alloc ?_ _)); refine blk_put (cs := #[.int .i64 0, .slice none 0 0]) ?_ 0 _ rfl; (with_reducible repeat (first | refine blk_drewN ?_ _ | refine blk_drew ?_ | refine blk_alloc ?_ _)); exact BK251.out) hb); replace HB := zM (below_step zB hb); (try clear hb); (try clear hb2); (try clear hk); (try clear hi)))
      go_meet
      case rel => exact ⟨_, ((t250 != t244)), (by first | rfl | (simp; done) | (simp [*]; done)), H', ⟨by first | omega | exact Nat.le_refl _⟩, ⟨by (with_reducible repeat (first | apply Kd.R_alloc | apply Kd.R_drewN | apply Kd.R_drew)); exact Kd.R_mono HO243.out (fun _ hk => hk.2)⟩, ⟨by (with_reducible repeat (first | apply Kd.R_alloc | apply Kd.R_drewN | apply Kd.R_drew)); exact Kd.R_mono HO249.out (fun _ hk => hk.2)⟩, ⟨zK BK245.out⟩, ⟨zK BK251.out⟩, ⟨zB⟩⟩
    · replace c16 := Bool.eq_false_iff.mpr c16
      subst c16
      have H1 : (laws_FnExactParseGraph.j0 k a0 t244 true t240 t241 t246 t247) = some r := by rw [if_neg (show ¬ (false = true) by decide)] at H; exact H
      clear H
      have H := H1
      clear H1
      have H' := Aside0.mk H
      clear H
      have hnb21 := NB251_245.out
      have hnc21 := NB245_251.out
      have hcz22_0 := zy BK251 0
      have hcz22_1 := zy BK251 1
      have hfz22_0 := blk_frozen BK251.out 0
      have hfz22_1 := blk_frozen BK251.out 1
      have hcz23_0 := zy BK245 0
      have hcz23_1 := zy BK245 1
      have hfz23_0 := blk_frozen BK245.out 0
      have hfz23_1 := blk_frozen BK245.out 1
      go_wp2_with (first | ((with_reducible refine gate_callee (f := 9) rfl ?_); refine zc 26 Tryd.func9 #[.agg #[.int .i64 t246, .slice Ao14 t247.length co14], .agg #[.int .i64 t240, .slice Ao9 t241.length co9]] ?_; (with_reducible refine (laws_eqGraph.calls k t246 _ _ t247 t240 _ _ t241 false _ ?side1 ?side2 ?side3 ?side4 A15.out).mono ?_); (case side1 => refine (Kd.R_reads' (e := 41) (base := w.heap.size) (ok := fun k_ => (True ∧ some k_ ≠ (.slice Ao9 t241.length co9 : Value).ownBlock)) (n := t247.length) (c := co14) ?_).2.2; exact (by (with_reducible repeat (first | apply Kd.R_alloc | apply Kd.R_drewN | apply Kd.R_drew)); exact (Kd.R_mono (Kd.R_far (p := ⟨gb251, 1, none⟩) (Kd.R_far (p := ⟨gb251, 0, none⟩) (Kd.R_types HO249.out BK251.out (by decide)) (fun _ hk => hk.2) (.int .i64 t246)) (fun _ hk => hk.2) (.slice Ao14 t247.length co14)) (fun _ h_ => h_.1)))); (case side2 => exact (Kd.R_reads' HO249.out).2.1); (case side3 => refine (Kd.R_reads' (e := 41) (base := w.heap.size) (ok := fun k_ => (True ∧ some k_ ≠ (.slice Ao14 t247.length co14 : Value).ownBlock)) (n := t241.length) (c := co9) ?_).2.2; exact (by (with_reducible repeat (first | apply Kd.R_alloc | apply Kd.R_drewN | apply Kd.R_drew)); exact (Kd.R_mono (Kd.R_far (p := ⟨gb251, 1, none⟩) (Kd.R_far (p := ⟨gb251, 0, none⟩) (Kd.R_types HO243.out BK251.out (by decide)) (fun _ hk => hk.2) (.int .i64 t246)) (fun _ hk => hk.2) (.slice Ao14 t247.length co14)) (fun _ h_ => h_.1)))); (case side4 => exact (Kd.R_reads' HO243.out).2.1); rintro e w24 ⟨rfl, hb⟩; refine ⟨_, rfl, ?_⟩; replace HO243 := zM (Kd.R_below (by (with_reducible repeat (first | apply Kd.R_alloc | apply Kd.R_drewN | apply Kd.R_drew)); exact (Kd.R_mono (Kd.R_far (p := ⟨gb251, 1, none⟩) (Kd.R_far (p := ⟨gb251, 0, none⟩) (Kd.R_types HO243.out BK251.out (by decide)) (fun _ hk => hk.2) (.int .i64 t246)) (fun _ hk => hk.2) (.slice Ao14 t247.length co14)) (fun _ h_ => h_.1))) hb); replace HO249 := zM (Kd.R_below (by (with_reducible repeat (first | apply Kd.R_alloc | apply Kd.R_drewN | apply Kd.R_drew)); exact (Kd.R_mono (Kd.R_far (p := ⟨gb251, 1, none⟩) (Kd.R_far (p := ⟨gb251, 0, none⟩) (Kd.R_types HO249.out BK251.out (by decide)) (fun _ hk => hk.2) (.int .i64 t246)) (fun _ hk => hk.2) (.slice Ao14 t247.length co14)) (fun _ h_ => h_.1))) hb); replace BK245 := zM (blk_below (g := gb245) (o := .cells #[.int .i64 t240, .slice Ao9 t241.length co9] 28 (0, 0)) (by (with_reducible repeat (first | refine blk_drewN ?_ _ | refine blk_drew ?_ | refine blk_alloc ?_ _)); refine blk_far ?_ NB245_251.out _; (with_reducible repeat (first | refine blk_drewN ?_ _ | refine blk_drew ?_ | refine blk_alloc ?_ _)); refine blk_far ?_ NB245_251.out _; (with_reducible repeat (first | refine blk_drewN ?_ _ | refine blk_drew ?_ | refine blk_alloc ?_ _)); exact BK245.out) hb); replace BK251 := zM (blk_below (g := gb251) (o := .cells #[.int .i64 t246, .slice Ao14 t247.length co14] 28 (0, 0)) (by (with_reducible repeat (first | refine blk_drewN ?_ _ | refine blk_drew ?_ | refine blk_alloc ?_ _)); refine blk_put (cs := #[.int .i64 t246, .slice none 0 0]) ?_ 1 _ rfl; (with_reducible repeat (first | refine blk_drewN ?_ _ | refine blk_drew ?_ | refine blk_alloc ?_ _)); refine blk_put (cs := #[.int .i64 0, .slice none 0 0]) ?_ 0 _ rfl; (with_reducible repeat (first | refine blk_drewN ?_ _ | refine blk_drew ?_ | refine blk_alloc ?_ _)); exact BK251.out) hb); replace HB := zM (below_step zB hb); (try clear hb); (try clear hb2); (try clear hk); (try clear hi)))
      go_meet
      case rel => exact ⟨_, (true), (by first | rfl | (simp; done) | (simp [*]; done)), H', ⟨by first | omega | exact Nat.le_refl _⟩, ⟨by (with_reducible repeat (first | apply Kd.R_alloc | apply Kd.R_drewN | apply Kd.R_drew)); exact Kd.R_mono HO243.out (fun _ hk => hk.2)⟩, ⟨by (with_reducible repeat (first | apply Kd.R_alloc | apply Kd.R_drewN | apply Kd.R_drew)); exact Kd.R_mono HO249.out (fun _ hk => hk.2)⟩, ⟨zK BK245.out⟩, ⟨zK BK251.out⟩, ⟨zB⟩⟩
   case rest =>
    clear HC5
    try clear c1
    try clear c2
    try clear c2b0
    try clear c2b1
    try clear p2
    try clear c4
    try clear c9
    try clear c10
    try clear c11
    try clear c12
    try clear c16
    try clear c17
    try clear c21
    try clear hcz13_0
    try clear hcz13_1
    try clear hcz18_0
    try clear hcz18_1
    try clear hcz19_0
    try clear hcz19_1
    try clear hcz22_0
    try clear hcz22_1
    try clear hcz23_0
    try clear hcz23_1
    try clear hcz8_0
    try clear hcz8_1
    try clear hfz13_0
    try clear hfz13_1
    try clear hfz18_0
    try clear hfz18_1
    try clear hfz19_0
    try clear hfz19_1
    try clear hfz22_0
    try clear hfz22_1
    try clear hfz23_0
    try clear hfz23_1
    try clear hfz8_0
    try clear hfz8_1
    obtain ⟨kq, x32_4, rfl, HA, HJ4, HO_246001, HO_252001, BK245, BK251, HB⟩ := hcut
    cases kq with
    | zero => exact absurd HA.out (by simp [laws_FnExactParseGraph.j0])
    | succ kj4 =>
     have H := HA.out
     clear HA
     simp only [laws_FnExactParseGraph.j0] at H
     by_cases c25 : x32_4 = true
     · subst c25
       rw [if_pos rfl] at H
       obtain rfl := Option.some.inj H
       go_wp2
       go_ret
       exact ⟨by first | rfl | (simp [errW_none, errW_some] <;> rfl) | (simp [*, errW_none, errW_some] <;> rfl), zB⟩
     · replace c25 := Bool.eq_false_iff.mpr c25
       subst c25
       have H1 : ((laws_markGraph.f t246 t247 1).bind fun bt253 => ((laws_heldGraph.f t246 bt253.2 1).bind fun t255 => (if t255 < 0 then (some false) else (if t255 = bt253.1 then ((impl_ParseGraph.f a0).bind fun bt256 => ((laws_eqGraph.f kj4 bt256.1 bt256.2.1 t240 t241).bind fun t262 => (if t262 = true then (laws_FnExactParseGraph.j1 kj4 bt253.1 (bt256.2.2 != t244) t246 bt253.2) else (laws_FnExactParseGraph.j1 kj4 bt253.1 true t246 bt253.2)))) else (some false))))) = some r := by rw [if_neg (show ¬ (false = true) by decide)] at H; exact H
       clear H
       have H := H1
       clear H1
       replace H := Option.bind_eq_some_iff.mp H
       obtain ⟨⟨t253, t254⟩, A260, H⟩ := H
       replace H : ((laws_heldGraph.f t246 t254 1).bind fun t255 => (if t255 < 0 then (some false) else (if t255 = t253 then ((impl_ParseGraph.f a0).bind fun bt256 => ((laws_eqGraph.f kj4 bt256.1 bt256.2.1 t240 t241).bind fun t262 => (if t262 = true then (laws_FnExactParseGraph.j1 kj4 t253 (bt256.2.2 != t244) t246 t254) else (laws_FnExactParseGraph.j1 kj4 t253 true t246 t254)))) else (some false)))) = some r := H
       have A26 := Aside0.mk A260
       clear A260
       replace H := Option.bind_eq_some_iff.mp H
       obtain ⟨t255, A270, H⟩ := H
       have A27 := Aside0.mk A270
       clear A270
       by_cases c28 : t255 < 0
       · rw [if_pos c28] at H
         have c28b0 := decide_eq_true c28
         clear c28
         obtain rfl := Option.some.inj H
         have hnb29 := NB251_245.out
         have hnc29 := NB245_251.out
         have hcz30_0 := zy BK251 0
         have hcz30_1 := zy BK251 1
         have hfz30_0 := blk_frozen BK251.out 0
         have hfz30_1 := blk_frozen BK251.out 1
         go_wp2_with (first | ((with_reducible refine gate_callee (f := 12) rfl ?_); refine zc 35 Tryd.func12 #[.agg #[.int .i64 t246, .slice Ao14 t247.length co14], .int .i64 1] ?_; (with_reducible refine (laws_markGraph.calls t246 (fun k_ => some k_ = (.slice Ao14 t247.length co14 : Value).ownBlock) (.slice Ao14 t247.length co14) t247 1 t253 t254 w _ ?side1 ?side2 A26.out).mono ?_); (case side1 => repeat (first | (with_reducible first | exact HB.out | apply below_alloc | apply pw_below_drewN | apply below_drew1 | refine below_set ?_ GE245.out | refine below_set ?_ GE251.out) | exact HB.out)); (case side2 => exact Kd.R_tight rfl HO_252001.out); rintro e w31 ⟨rfl, hy0, hb, hkp⟩; refine ⟨_, rfl, ?_⟩; replace HO_246001 := zM (Kd.R_mono (ok' := fun k_ => some k_ ≠ (.slice Ao14 t247.length co14 : Value).ownBlock) (Kd.R_keptB (HO_246001.out) hkp (fun k_ hk_ hs_ => (hk_) hs_)) (fun k_ hk_ => hk_.1)); replace BK245 := zM (blk_kept (zK BK245.out) hkp (fun hs_ => (fun e_ => (Kd.R_ne HO_252001.out BK245.out (by decide)) e_) hs_)); replace BK251 := zM (blk_kept (zK BK251.out) hkp (fun hs_ => (fun e_ => (Kd.R_ne HO_252001.out BK251.out (by decide)) e_) hs_)); replace HO_252001 := zM (Kd.R_reok rfl hy0 (fun k_ e_ => HO_252001.out.1 k_ e_)); replace HB := zM (hb); (try clear hb); (try clear hkp); (try clear hy0); have hcz32_0 := zy BK251 0; have hcz32_1 := zy BK251 1; have hfz32_0 := blk_frozen BK251.out 0; have hfz32_1 := blk_frozen BK251.out 1) | ((with_reducible refine gate_callee (f := 13) rfl ?_); refine goesL_ (some 38) rfl rfl Tryd.func13 (by kernel_rfl) rfl #[.agg #[.int .i64 t246, .slice Ao14 t254.length co14], .int .i64 1] rfl (by (try simp only [List.map_toArray, List.map_cons, List.map_nil]); first | done | (rw [show t254.length = t247.length from (Kd.R_reads' HO_252001.out).1.symm] <;> rfl) | rfl | (simp only [List.length_drop, List.length_take]; rfl)) ?_; (with_reducible refine (laws_heldGraph.calls t246 _ _ t254 1 t255 _ ?side1 ?side2 A27.out).mono ?_); (case side1 => exact zC (Kd.R_reads' HO_252001.out).2.2); (case side2 => rw [show t254.length = t247.length from (Kd.R_reads' HO_252001.out).1.symm]; exact (Kd.R_reads' HO_252001.out).2.1); rintro e w33 ⟨rfl, hb⟩; refine ⟨_, rfl, ?_⟩; replace HO_246001 := zM (Kd.R_below (zR HO_246001.out) hb); replace HO_252001 := zM (Kd.R_below (zR HO_252001.out) hb); replace BK245 := zM (blk_below (g := gb245) (o := .cells #[.int .i64 t240, .slice Ao9 t241.length co9] 28 (0, 0)) (zK BK245.out) hb); replace BK251 := zM (blk_below (g := gb251) (o := .cells #[.int .i64 t246, .slice Ao14 t247.length co14] 28 (0, 0)) (zK BK251.out) hb); replace HB := zM (below_step zB hb); (try clear hb); (try clear hb2); (try clear hk); (try clear hi)))
         go_ret
         exact ⟨by first | rfl | (simp [errW_none, errW_some] <;> rfl) | (simp [*, errW_none, errW_some] <;> rfl), zB⟩
       · rw [if_neg c28] at H
         have c28b0 : decide (t255 < 0) = false := decide_eq_false c28
         clear c28
         by_cases c34 : t255 = t253
         · rw [if_pos c34] at H
           have c34b0 : (t255 == t253) = true := beq_iff_eq.mpr c34
           have c34b1 : (t255 != t253) = false := bne_eq_false_iff_eq.mpr c34
           clear c34
           replace H := Option.bind_eq_some_iff.mp H
           obtain ⟨⟨t256, t257, t260⟩, A350, H⟩ := H
           replace H : ((laws_eqGraph.f kj4 t256 t257 t240 t241).bind fun t262 => (if t262 = true then (laws_FnExactParseGraph.j1 kj4 t253 (t260 != t244) t246 t254) else (laws_FnExactParseGraph.j1 kj4 t253 true t246 t254))) = some r := H
           have A35 := Aside0.mk A350
           clear A350
           have HC36 := Aside0.mk H
           clear H
           have hnb37 := NB251_245.out
           have hnc37 := NB245_251.out
           have hcz38_0 := zy BK251 0
           have hcz38_1 := zy BK251 1
           have hfz38_0 := blk_frozen BK251.out 0
           have hfz38_1 := blk_frozen BK251.out 1
           go_upto_region 16 with (first | ((with_reducible refine gate_callee (f := 12) rfl ?_); refine zc 35 Tryd.func12 #[.agg #[.int .i64 t246, .slice Ao14 t247.length co14], .int .i64 1] ?_; (with_reducible refine (laws_markGraph.calls t246 (fun k_ => some k_ = (.slice Ao14 t247.length co14 : Value).ownBlock) (.slice Ao14 t247.length co14) t247 1 t253 t254 w _ ?side1 ?side2 A26.out).mono ?_); (case side1 => repeat (first | (with_reducible first | exact HB.out | apply below_alloc | apply pw_below_drewN | apply below_drew1 | refine below_set ?_ GE245.out | refine below_set ?_ GE251.out) | exact HB.out)); (case side2 => exact Kd.R_tight rfl HO_252001.out); rintro e w39 ⟨rfl, hy0, hb, hkp⟩; refine ⟨_, rfl, ?_⟩; replace HO_246001 := zM (Kd.R_mono (ok' := fun k_ => some k_ ≠ (.slice Ao14 t247.length co14 : Value).ownBlock) (Kd.R_keptB (HO_246001.out) hkp (fun k_ hk_ hs_ => (hk_) hs_)) (fun k_ hk_ => hk_.1)); replace BK245 := zM (blk_kept (zK BK245.out) hkp (fun hs_ => (fun e_ => (Kd.R_ne HO_252001.out BK245.out (by decide)) e_) hs_)); replace BK251 := zM (blk_kept (zK BK251.out) hkp (fun hs_ => (fun e_ => (Kd.R_ne HO_252001.out BK251.out (by decide)) e_) hs_)); replace HO_252001 := zM (Kd.R_reok rfl hy0 (fun k_ e_ => HO_252001.out.1 k_ e_)); replace HB := zM (hb); (try clear hb); (try clear hkp); (try clear hy0); have hcz40_0 := zy BK251 0; have hcz40_1 := zy BK251 1; have hfz40_0 := blk_frozen BK251.out 0; have hfz40_1 := blk_frozen BK251.out 1) | ((with_reducible refine gate_callee (f := 13) rfl ?_); refine goesL_ (some 38) rfl rfl Tryd.func13 (by kernel_rfl) rfl #[.agg #[.int .i64 t246, .slice Ao14 t254.length co14], .int .i64 1] rfl (by (try simp only [List.map_toArray, List.map_cons, List.map_nil]); first | done | (rw [show t254.length = t247.length from (Kd.R_reads' HO_252001.out).1.symm] <;> rfl) | rfl | (simp only [List.length_drop, List.length_take]; rfl)) ?_; (with_reducible refine (laws_heldGraph.calls t246 _ _ t254 1 t255 _ ?side1 ?side2 A27.out).mono ?_); (case side1 => exact zC (Kd.R_reads' HO_252001.out).2.2); (case side2 => rw [show t254.length = t247.length from (Kd.R_reads' HO_252001.out).1.symm]; exact (Kd.R_reads' HO_252001.out).2.1); rintro e w41 ⟨rfl, hb⟩; refine ⟨_, rfl, ?_⟩; replace HO_246001 := zM (Kd.R_below (zR HO_246001.out) hb); replace HO_252001 := zM (Kd.R_below (zR HO_252001.out) hb); replace BK245 := zM (blk_below (g := gb245) (o := .cells #[.int .i64 t240, .slice Ao9 t241.length co9] 28 (0, 0)) (zK BK245.out) hb); replace BK251 := zM (blk_below (g := gb251) (o := .cells #[.int .i64 t246, .slice Ao14 t247.length co14] 28 (0, 0)) (zK BK251.out) hb); replace HB := zM (below_step zB hb); (try clear hb); (try clear hb2); (try clear hk); (try clear hi)) | ((with_reducible refine gate_callee (f := 11) rfl ?_); refine zc 46 Tryd.func11 #[.string a0] ?_; (with_reducible refine (impl_ParseGraph.calls a0 t256 t257 t260 _ (fun w_ hb_ => HEnv.out w_ (below_step zB hb_)) A35.out).mono ?_); rintro e w42 ⟨v258, rfl, ho0, hb⟩; refine ⟨_, rfl, ?_⟩; have HO259 := zM (Kd.R_lower (Kd.R_new' (Kd.R_new' ho0 (Kd.R_lt (zR HO_246001.out))) (Kd.R_lt (zR HO_252001.out))) (below_size zB)); replace HO_246001 := zM (Kd.R_elder' (zR HO_246001.out) (Kd.R_base ho0) hb); replace HO_252001 := zM (Kd.R_elder' (zR HO_252001.out) (Kd.R_base ho0) hb); replace BK245 := zM (blk_below (g := gb245) (o := .cells #[.int .i64 t240, .slice Ao9 t241.length co9] 28 (0, 0)) (zK BK245.out) hb); replace BK251 := zM (blk_below (g := gb251) (o := .cells #[.int .i64 t246, .slice Ao14 t247.length co14] 28 (0, 0)) (zK BK251.out) hb); replace HB := zM (below_step zB hb); (try clear hb); (try clear hb2); (try clear hk); (try clear hi); (try clear ho0)) | ((with_reducible refine gate_dst (N := 9) rfl ?_); refine ze 9 #[.int .i64 0, .slice none 0 0] 28 ?_; intro gb261 hg w43 hbox hb; replace HO_246001 := zM (Kd.R_below (zR HO_246001.out) hb); replace HO_252001 := zM (Kd.R_below (zR HO_252001.out) hb); replace HO259 := zM (Kd.R_below (zR HO259.out) hb); have BK261 := zM (hbox); have GW261 := zM ((by rw [hg]; exact (below_size zB) : w.heap.size ≤ gb261)); have GE261 := zM ((by rw [hg]; exact (below_size zB) : w.heap.size ≤ gb261)); replace HB := zM (below_step zB hb); have NB245_261 := zM ((by rw [hg]; exact Nat.ne_of_lt (blk_lt (g := gb245) (o := .cells #[.int .i64 t240, .slice Ao9 t241.length co9] 28 (0, 0)) (zK BK245.out)) : gb245 ≠ gb261)); have NB261_245 := zM ((by rw [hg]; exact Nat.ne_of_gt (blk_lt (g := gb245) (o := .cells #[.int .i64 t240, .slice Ao9 t241.length co9] 28 (0, 0)) (zK BK245.out)) : gb261 ≠ gb245)); replace BK245 := zM (blk_below (g := gb245) (o := .cells #[.int .i64 t240, .slice Ao9 t241.length co9] 28 (0, 0)) (zK BK245.out) hb); have NB251_261 := zM ((by rw [hg]; exact Nat.ne_of_lt (blk_lt (g := gb251) (o := .cells #[.int .i64 t246, .slice Ao14 t247.length co14] 28 (0, 0)) (zK BK251.out)) : gb251 ≠ gb261)); have NB261_251 := zM ((by rw [hg]; exact Nat.ne_of_gt (blk_lt (g := gb251) (o := .cells #[.int .i64 t246, .slice Ao14 t247.length co14] 28 (0, 0)) (zK BK251.out)) : gb261 ≠ gb251)); replace BK251 := zM (blk_below (g := gb251) (o := .cells #[.int .i64 t246, .slice Ao14 t247.length co14] 28 (0, 0)) (zK BK251.out) hb); clear hb hbox hg; have hnb44 := NB261_245.out; have hnc44 := NB245_261.out; have hnb45 := NB261_251.out; have hnc45 := NB251_261.out; have hcz46_0 := zy BK261 0; have hcz46_1 := zy BK261 1; have hfz46_0 := blk_frozen BK261.out 0; have hfz46_1 := blk_frozen BK261.out 1; obtain ⟨Ao47, co47, eo47⟩ := Kd.R_slice HO259.out; subst eo47))
           (try simp only [Act.put, List.setIfInBounds_toArray, List.set_cons_zero, List.set_cons_succ])
           go_cut [57] (fun v57 wc => ∃ (kq : Nat) (x57_35 : Bool), v57 = .bool x57_35 ∧ Aside0 (laws_FnExactParseGraph.j1 kq t253 x57_35 t246 t254 = some r) ∧ Aside0 (kq ≤ kj4) ∧ Aside0 (Kd.R k41 41 wc w.heap.size (fun k_ => some k_ ≠ ((.slice Ao14 t247.length co14) : Value).ownBlock ∧ some k_ ≠ ((.slice Ao47 t257.length co47) : Value).ownBlock) (.slice Ao9 t241.length co9) t241) ∧ Aside0 (Kd.R k41 41 wc w.heap.size (fun k_ => some k_ ≠ ((.slice Ao9 t241.length co9) : Value).ownBlock ∧ some k_ ≠ ((.slice Ao47 t257.length co47) : Value).ownBlock) (.slice Ao14 t247.length co14) t254) ∧ Aside0 (Kd.R k41 41 wc w.heap.size (fun k_ => some k_ ≠ ((.slice Ao9 t241.length co9) : Value).ownBlock ∧ some k_ ≠ ((.slice Ao14 t247.length co14) : Value).ownBlock) (.slice Ao47 t257.length co47) t257) ∧ Aside0 (wc.heap[gb245]? = some (.cells #[.int .i64 t240, (.slice Ao9 t241.length co9)] 28 (0, 0))) ∧ Aside0 (wc.heap[gb251]? = some (.cells #[.int .i64 t246, (.slice Ao14 t247.length co14)] 28 (0, 0))) ∧ Aside0 (wc.heap[gb261]? = some (.cells #[.int .i64 t256, (.slice Ao47 t257.length co47)] 28 (0, 0))) ∧ Aside0 (Below w.heap.size w wc))
           case first =>
            have H := HC36.out
            clear HC36
            replace H := Option.bind_eq_some_iff.mp H
            obtain ⟨t262, A480, H⟩ := H
            have A48 := Aside0.mk A480
            clear A480
            by_cases c49 : t262 = true
            · subst c49
              rw [if_pos rfl] at H
              have H' := Aside0.mk H
              clear H
              have hnb50 := NB261_245.out
              have hnc50 := NB245_261.out
              have hnb51 := NB261_251.out
              have hnc51 := NB251_261.out
              have hcz52_0 := zy BK261 0
              have hcz52_1 := zy BK261 1
              have hfz52_0 := blk_frozen BK261.out 0
              have hfz52_1 := blk_frozen BK261.out 1
              have hnb53 := NB245_251.out
              have hnc53 := NB251_245.out
              have hcz54_0 := zy BK245 0
              have hcz54_1 := zy BK245 1
              have hfz54_0 := blk_frozen BK245.out 0
              have hfz54_1 := blk_frozen BK245.out 1
              go_wp2_with (first | ((with_reducible refine gate_callee (f := 9) rfl ?_); refine zc 51 Tryd.func9 #[.agg #[.int .i64 t256, .slice Ao47 t257.length co47], .agg #[.int .i64 t240, .slice Ao9 t241.length co9]] ?_; (with_reducible refine (laws_eqGraph.calls kj4 t256 _ _ t257 t240 _ _ t241 true _ ?side1 ?side2 ?side3 ?side4 A48.out).mono ?_); (case side1 => refine (Kd.R_reads' (e := 41) (base := w.heap.size) (ok := fun k_ => ((True ∧ some k_ ≠ (.slice Ao9 t241.length co9 : Value).ownBlock) ∧ some k_ ≠ (.slice Ao14 t247.length co14 : Value).ownBlock)) (n := t257.length) (c := co47) ?_).2.2; exact (by (with_reducible repeat (first | apply Kd.R_alloc | apply Kd.R_drewN | apply Kd.R_drew)); exact (Kd.R_mono (Kd.R_far (p := ⟨gb261, 1, none⟩) (Kd.R_far (p := ⟨gb261, 0, none⟩) (Kd.R_types HO259.out BK261.out (by decide)) (fun _ hk => hk.2) (.int .i64 t256)) (fun _ hk => hk.2) (.slice Ao47 t257.length co47)) (fun _ h_ => h_.1)))); (case side2 => exact (Kd.R_reads' HO259.out).2.1); (case side3 => refine (Kd.R_reads' (e := 41) (base := w.heap.size) (ok := fun k_ => (some k_ ≠ (.slice Ao14 t247.length co14 : Value).ownBlock ∧ some k_ ≠ (.slice Ao47 t257.length co47 : Value).ownBlock)) (n := t241.length) (c := co9) ?_).2.2; exact (by (with_reducible repeat (first | apply Kd.R_alloc | apply Kd.R_drewN | apply Kd.R_drew)); exact (Kd.R_mono (Kd.R_far (p := ⟨gb261, 1, none⟩) (Kd.R_far (p := ⟨gb261, 0, none⟩) (Kd.R_types HO_246001.out BK261.out (by decide)) (fun _ hk => hk.2) (.int .i64 t256)) (fun _ hk => hk.2) (.slice Ao47 t257.length co47)) (fun _ h_ => h_.1)))); (case side4 => exact (Kd.R_reads' HO_246001.out).2.1); rintro e w55 ⟨rfl, hb⟩; refine ⟨_, rfl, ?_⟩; replace HO_246001 := zM (Kd.R_below (by (with_reducible repeat (first | apply Kd.R_alloc | apply Kd.R_drewN | apply Kd.R_drew)); exact (Kd.R_mono (Kd.R_far (p := ⟨gb261, 1, none⟩) (Kd.R_far (p := ⟨gb261, 0, none⟩) (Kd.R_types HO_246001.out BK261.out (by decide)) (fun _ hk => hk.2) (.int .i64 t256)) (fun _ hk => hk.2) (.slice Ao47 t257.length co47)) (fun _ h_ => h_.1))) hb); replace HO_252001 := zM (Kd.R_below (by (with_reducible repeat (first | apply Kd.R_alloc | apply Kd.R_drewN | apply Kd.R_drew)); exact (Kd.R_mono (Kd.R_far (p := ⟨gb261, 1, none⟩) (Kd.R_far (p := ⟨gb261, 0, none⟩) (Kd.R_types HO_252001.out BK261.out (by decide)) (fun _ hk => hk.2) (.int .i64 t256)) (fun _ hk => hk.2) (.slice Ao47 t257.length co47)) (fun _ h_ => h_.1))) hb); replace HO259 := zM (Kd.R_below (by (with_reducible repeat (first | apply Kd.R_alloc | apply Kd.R_drewN | apply Kd.R_drew)); exact (Kd.R_mono (Kd.R_far (p := ⟨gb261, 1, none⟩) (Kd.R_far (p := ⟨gb261, 0, none⟩) (Kd.R_types HO259.out BK261.out (by decide)) (fun _ hk => hk.2) (.int .i64 t256)) (fun _ hk => hk.2) (.slice Ao47 t257.length co47)) (fun _ h_ => h_.1))) hb); replace BK245 := zM (blk_below (g := gb245) (o := .cells #[.int .i64 t240, .slice Ao9 t241.length co9] 28 (0, 0)) (by (with_reducible repeat (first | refine blk_drewN ?_ _ | refine blk_drew ?_ | refine blk_alloc ?_ _)); refine blk_far ?_ NB245_261.out _; (with_reducible repeat (first | refine blk_drewN ?_ _ | refine blk_drew ?_ | refine blk_alloc ?_ _)); refine blk_far ?_ NB245_261.out _; (with_reducible repeat (first | refine blk_drewN ?_ _ | refine blk_drew ?_ | refine blk_alloc ?_ _)); exact BK245.out) hb); replace BK251 := zM (blk_below (g := gb251) (o := .cells #[.int .i64 t246, .slice Ao14 t247.length co14] 28 (0, 0)) (by (with_reducible repeat (first | refine blk_drewN ?_ _ | refine blk_drew ?_ | refine blk_alloc ?_ _)); refine blk_far ?_ NB251_261.out _; (with_reducible repeat (first | refine blk_drewN ?_ _ | refine blk_drew ?_ | refine blk_alloc ?_ _)); refine blk_far ?_ NB251_261.out _; (with_reducible repeat (first | refine blk_drewN ?_ _ | refine blk_drew ?_ | refine blk_alloc ?_ _)); exact BK251.out) hb); replace BK261 := zM (blk_below (g := gb261) (o := .cells #[.int .i64 t256, .slice Ao47 t257.length co47] 28 (0, 0)) (by (with_reducible repeat (first | refine blk_drewN ?_ _ | refine blk_drew ?_ | refine blk_alloc ?_ _)); refine blk_put (cs := #[.int .i64 t256, .slice none 0 0]) ?_ 1 _ rfl; (with_reducible repeat (first | refine blk_drewN ?_ _ | refine blk_drew ?_ | refine blk_alloc ?_ _)); refine blk_put (cs := #[.int .i64 0, .slice none 0 0]) ?_ 0 _ rfl; (with_reducible repeat (first | refine blk_drewN ?_ _ | refine blk_drew ?_ | refine blk_alloc ?_ _)); exact BK261.out) hb); replace HB := zM (below_step zB hb); (try clear hb); (try clear hb2); (try clear hk); (try clear hi)))
              go_meet
              case rel => exact ⟨_, ((t260 != t244)), (by first | rfl | (simp; done) | (simp [*]; done)), H', ⟨by have := HJ4.out; first | omega | exact Nat.le_refl _⟩, ⟨zR HO_246001.out⟩, ⟨zR HO_252001.out⟩, ⟨by (with_reducible repeat (first | apply Kd.R_alloc | apply Kd.R_drewN | apply Kd.R_drew)); exact Kd.R_mono HO259.out (fun _ hk => ⟨hk.1.2, hk.2⟩)⟩, ⟨zK BK245.out⟩, ⟨zK BK251.out⟩, ⟨zK BK261.out⟩, ⟨zB⟩⟩
            · replace c49 := Bool.eq_false_iff.mpr c49
              subst c49
              have H1 : (laws_FnExactParseGraph.j1 kj4 t253 true t246 t254) = some r := by rw [if_neg (show ¬ (false = true) by decide)] at H; exact H
              clear H
              have H := H1
              clear H1
              have H' := Aside0.mk H
              clear H
              have hnb56 := NB261_245.out
              have hnc56 := NB245_261.out
              have hnb57 := NB261_251.out
              have hnc57 := NB251_261.out
              have hcz58_0 := zy BK261 0
              have hcz58_1 := zy BK261 1
              have hfz58_0 := blk_frozen BK261.out 0
              have hfz58_1 := blk_frozen BK261.out 1
              have hnb59 := NB245_251.out
              have hnc59 := NB251_245.out
              have hcz60_0 := zy BK245 0
              have hcz60_1 := zy BK245 1
              have hfz60_0 := blk_frozen BK245.out 0
              have hfz60_1 := blk_frozen BK245.out 1
              go_wp2_with (first | ((with_reducible refine gate_callee (f := 9) rfl ?_); refine zc 51 Tryd.func9 #[.agg #[.int .i64 t256, .slice Ao47 t257.length co47], .agg #[.int .i64 t240, .slice Ao9 t241.length co9]] ?_; (with_reducible refine (laws_eqGraph.calls kj4 t256 _ _ t257 t240 _ _ t241 false _ ?side1 ?side2 ?side3 ?side4 A48.out).mono ?_); (case side1 => refine (Kd.R_reads' (e := 41) (base := w.heap.size) (ok := fun k_ => ((True ∧ some k_ ≠ (.slice Ao9 t241.length co9 : Value).ownBlock) ∧ some k_ ≠ (.slice Ao14 t247.length co14 : Value).ownBlock)) (n := t257.length) (c := co47) ?_).2.2; exact (by (with_reducible repeat (first | apply Kd.R_alloc | apply Kd.R_drewN | apply Kd.R_drew)); exact (Kd.R_mono (Kd.R_far (p := ⟨gb261, 1, none⟩) (Kd.R_far (p := ⟨gb261, 0, none⟩) (Kd.R_types HO259.out BK261.out (by decide)) (fun _ hk => hk.2) (.int .i64 t256)) (fun _ hk => hk.2) (.slice Ao47 t257.length co47)) (fun _ h_ => h_.1)))); (case side2 => exact (Kd.R_reads' HO259.out).2.1); (case side3 => refine (Kd.R_reads' (e := 41) (base := w.heap.size) (ok := fun k_ => (some k_ ≠ (.slice Ao14 t247.length co14 : Value).ownBlock ∧ some k_ ≠ (.slice Ao47 t257.length co47 : Value).ownBlock)) (n := t241.length) (c := co9) ?_).2.2; exact (by (with_reducible repeat (first | apply Kd.R_alloc | apply Kd.R_drewN | apply Kd.R_drew)); exact (Kd.R_mono (Kd.R_far (p := ⟨gb261, 1, none⟩) (Kd.R_far (p := ⟨gb261, 0, none⟩) (Kd.R_types HO_246001.out BK261.out (by decide)) (fun _ hk => hk.2) (.int .i64 t256)) (fun _ hk => hk.2) (.slice Ao47 t257.length co47)) (fun _ h_ => h_.1)))); (case side4 => exact (Kd.R_reads' HO_246001.out).2.1); rintro e w61 ⟨rfl, hb⟩; refine ⟨_, rfl, ?_⟩; replace HO_246001 := zM (Kd.R_below (by (with_reducible repeat (first | apply Kd.R_alloc | apply Kd.R_drewN | apply Kd.R_drew)); exact (Kd.R_mono (Kd.R_far (p := ⟨gb261, 1, none⟩) (Kd.R_far (p := ⟨gb261, 0, none⟩) (Kd.R_types HO_246001.out BK261.out (by decide)) (fun _ hk => hk.2) (.int .i64 t256)) (fun _ hk => hk.2) (.slice Ao47 t257.length co47)) (fun _ h_ => h_.1))) hb); replace HO_252001 := zM (Kd.R_below (by (with_reducible repeat (first | apply Kd.R_alloc | apply Kd.R_drewN | apply Kd.R_drew)); exact (Kd.R_mono (Kd.R_far (p := ⟨gb261, 1, none⟩) (Kd.R_far (p := ⟨gb261, 0, none⟩) (Kd.R_types HO_252001.out BK261.out (by decide)) (fun _ hk => hk.2) (.int .i64 t256)) (fun _ hk => hk.2) (.slice Ao47 t257.length co47)) (fun _ h_ => h_.1))) hb); replace HO259 := zM (Kd.R_below (by (with_reducible repeat (first | apply Kd.R_alloc | apply Kd.R_drewN | apply Kd.R_drew)); exact (Kd.R_mono (Kd.R_far (p := ⟨gb261, 1, none⟩) (Kd.R_far (p := ⟨gb261, 0, none⟩) (Kd.R_types HO259.out BK261.out (by decide)) (fun _ hk => hk.2) (.int .i64 t256)) (fun _ hk => hk.2) (.slice Ao47 t257.length co47)) (fun _ h_ => h_.1))) hb); replace BK245 := zM (blk_below (g := gb245) (o := .cells #[.int .i64 t240, .slice Ao9 t241.length co9] 28 (0, 0)) (by (with_reducible repeat (first | refine blk_drewN ?_ _ | refine blk_drew ?_ | refine blk_alloc ?_ _)); refine blk_far ?_ NB245_261.out _; (with_reducible repeat (first | refine blk_drewN ?_ _ | refine blk_drew ?_ | refine blk_alloc ?_ _)); refine blk_far ?_ NB245_261.out _; (with_reducible repeat (first | refine blk_drewN ?_ _ | refine blk_drew ?_ | refine blk_alloc ?_ _)); exact BK245.out) hb); replace BK251 := zM (blk_below (g := gb251) (o := .cells #[.int .i64 t246, .slice Ao14 t247.length co14] 28 (0, 0)) (by (with_reducible repeat (first | refine blk_drewN ?_ _ | refine blk_drew ?_ | refine blk_alloc ?_ _)); refine blk_far ?_ NB251_261.out _; (with_reducible repeat (first | refine blk_drewN ?_ _ | refine blk_drew ?_ | refine blk_alloc ?_ _)); refine blk_far ?_ NB251_261.out _; (with_reducible repeat (first | refine blk_drewN ?_ _ | refine blk_drew ?_ | refine blk_alloc ?_ _)); exact BK251.out) hb); replace BK261 := zM (blk_below (g := gb261) (o := .cells #[.int .i64 t256, .slice Ao47 t257.length co47] 28 (0, 0)) (by (with_reducible repeat (first | refine blk_drewN ?_ _ | refine blk_drew ?_ | refine blk_alloc ?_ _)); refine blk_put (cs := #[.int .i64 t256, .slice none 0 0]) ?_ 1 _ rfl; (with_reducible repeat (first | refine blk_drewN ?_ _ | refine blk_drew ?_ | refine blk_alloc ?_ _)); refine blk_put (cs := #[.int .i64 0, .slice none 0 0]) ?_ 0 _ rfl; (with_reducible repeat (first | refine blk_drewN ?_ _ | refine blk_drew ?_ | refine blk_alloc ?_ _)); exact BK261.out) hb); replace HB := zM (below_step zB hb); (try clear hb); (try clear hb2); (try clear hk); (try clear hi)))
              go_meet
              case rel => exact ⟨_, (true), (by first | rfl | (simp; done) | (simp [*]; done)), H', ⟨by have := HJ4.out; first | omega | exact Nat.le_refl _⟩, ⟨zR HO_246001.out⟩, ⟨zR HO_252001.out⟩, ⟨by (with_reducible repeat (first | apply Kd.R_alloc | apply Kd.R_drewN | apply Kd.R_drew)); exact Kd.R_mono HO259.out (fun _ hk => ⟨hk.1.2, hk.2⟩)⟩, ⟨zK BK245.out⟩, ⟨zK BK251.out⟩, ⟨zK BK261.out⟩, ⟨zB⟩⟩
           case rest =>
            clear HC36
            try clear c1
            try clear c2
            try clear c2b0
            try clear c2b1
            try clear p2
            try clear c3
            try clear c4
            try clear c5
            try clear c9
            try clear c10
            try clear c11
            try clear c12
            try clear c13
            try clear c16
            try clear c17
            try clear c21
            try clear c25
            try clear c28
            try clear c28b0
            try clear c29
            try clear c34
            try clear c34b0
            try clear c34b1
            try clear c37
            try clear c44
            try clear c45
            try clear c49
            try clear c50
            try clear c51
            try clear c53
            try clear c56
            try clear c57
            try clear c59
            try clear hcz13_0
            try clear hcz13_1
            try clear hcz18_0
            try clear hcz18_1
            try clear hcz19_0
            try clear hcz19_1
            try clear hcz22_0
            try clear hcz22_1
            try clear hcz23_0
            try clear hcz23_1
            try clear hcz30_0
            try clear hcz30_1
            try clear hcz32_0
            try clear hcz32_1
            try clear hcz38_0
            try clear hcz38_1
            try clear hcz40_0
            try clear hcz40_1
            try clear hcz46_0
            try clear hcz46_1
            try clear hcz52_0
            try clear hcz52_1
            try clear hcz54_0
            try clear hcz54_1
            try clear hcz58_0
            try clear hcz58_1
            try clear hcz60_0
            try clear hcz60_1
            try clear hcz8_0
            try clear hcz8_1
            try clear hfz13_0
            try clear hfz13_1
            try clear hfz18_0
            try clear hfz18_1
            try clear hfz19_0
            try clear hfz19_1
            try clear hfz22_0
            try clear hfz22_1
            try clear hfz23_0
            try clear hfz23_1
            try clear hfz30_0
            try clear hfz30_1
            try clear hfz32_0
            try clear hfz32_1
            try clear hfz38_0
            try clear hfz38_1
            try clear hfz40_0
            try clear hfz40_1
            try clear hfz46_0
            try clear hfz46_1
            try clear hfz52_0
            try clear hfz52_1
            try clear hfz54_0
            try clear hfz54_1
            try clear hfz58_0
            try clear hfz58_1
            try clear hfz60_0
            try clear hfz60_1
            try clear hfz8_0
            try clear hfz8_1
            try clear p2
            obtain ⟨kq, x57_35, rfl, HA, HJ35, HO_246001, HO_252001, HO_262001, BK245, BK251, BK261, HB⟩ := hcut
            have hl252001_35 := (Kd.R_reads' HO_252001.out).1
            rw [hl252001_35] at HO_252001
            (try simp only [hl252001_35])
            (try simp only [hl252001_35] at BK245)
            (try simp only [hl252001_35] at BK251)
            (try simp only [hl252001_35] at BK261)
            (try simp only [hl252001_35] at HO_246001)
            (try simp only [hl252001_35] at HO_262001)
            cases kq with
            | zero => exact absurd HA.out (by simp [laws_FnExactParseGraph.j1])
            | succ kj35 =>
             have H := HA.out
             clear HA
             simp only [laws_FnExactParseGraph.j1] at H
             by_cases c62 : x57_35 = true
             · subst c62
               rw [if_pos rfl] at H
               obtain rfl := Option.some.inj H
               go_wp2
               go_ret
               exact ⟨by first | rfl | (simp [errW_none, errW_some] <;> rfl) | (simp [*, errW_none, errW_some] <;> rfl), zB⟩
             · replace c62 := Bool.eq_false_iff.mpr c62
               subst c62
               have H1 : ((laws_heldGraph.f t246 t254 1).bind fun t263 => (if t263 < 0 then (some false) else (if t263 = t253 then (some true) else (some false)))) = some r := by rw [if_neg (show ¬ (false = true) by decide)] at H; exact H
               clear H
               have H := H1
               clear H1
               replace H := Option.bind_eq_some_iff.mp H
               obtain ⟨t263, A630, H⟩ := H
               have A63 := Aside0.mk A630
               clear A630
               by_cases c64 : t263 < 0
               · rw [if_pos c64] at H
                 have c64b0 := decide_eq_true c64
                 clear c64
                 obtain rfl := Option.some.inj H
                 have hnb65 := NB251_245.out
                 have hnc65 := NB245_251.out
                 have hnb66 := NB251_261.out
                 have hnc66 := NB261_251.out
                 have hcz67_0 := zy BK251 0
                 have hcz67_1 := zy BK251 1
                 have hfz67_0 := blk_frozen BK251.out 0
                 have hfz67_1 := blk_frozen BK251.out 1
                 go_wp2_with (first | ((with_reducible refine gate_callee (f := 13) rfl ?_); refine zc 60 Tryd.func13 #[.agg #[.int .i64 t246, .slice Ao14 t254.length co14], .int .i64 1] ?_; (with_reducible refine (laws_heldGraph.calls t246 _ _ t254 1 t263 _ ?side1 ?side2 A63.out).mono ?_); (case side1 => exact zC (Kd.R_reads' HO_252001.out).2.2); (case side2 => exact (Kd.R_reads' HO_252001.out).2.1); rintro e w68 ⟨rfl, hb⟩; refine ⟨_, rfl, ?_⟩; replace HO_246001 := zM (Kd.R_below (zR HO_246001.out) hb); replace HO_252001 := zM (Kd.R_below (zR HO_252001.out) hb); replace HO_262001 := zM (Kd.R_below (zR HO_262001.out) hb); replace BK245 := zM (blk_below (g := gb245) (o := .cells #[.int .i64 t240, .slice Ao9 t241.length co9] 28 (0, 0)) (zK BK245.out) hb); replace BK251 := zM (blk_below (g := gb251) (o := .cells #[.int .i64 t246, .slice Ao14 t254.length co14] 28 (0, 0)) (zK BK251.out) hb); replace BK261 := zM (blk_below (g := gb261) (o := .cells #[.int .i64 t256, .slice Ao47 t257.length co47] 28 (0, 0)) (zK BK261.out) hb); replace HB := zM (below_step zB hb); (try clear hb); (try clear hb2); (try clear hk); (try clear hi)))
                 go_ret
                 exact ⟨by first | rfl | (simp [errW_none, errW_some] <;> rfl) | (simp [*, errW_none, errW_some] <;> rfl), zB⟩
               · rw [if_neg c64] at H
                 have c64b0 : decide (t263 < 0) = false := decide_eq_false c64
                 clear c64
                 by_cases c69 : t263 = t253
                 · rw [if_pos c69] at H
                   have c69b0 : (t263 == t253) = true := beq_iff_eq.mpr c69
                   have c69b1 : (t263 != t253) = false := bne_eq_false_iff_eq.mpr c69
                   clear c69
                   obtain rfl := Option.some.inj H
                   have hnb70 := NB251_245.out
                   have hnc70 := NB245_251.out
                   have hnb71 := NB251_261.out
                   have hnc71 := NB261_251.out
                   have hcz72_0 := zy BK251 0
                   have hcz72_1 := zy BK251 1
                   have hfz72_0 := blk_frozen BK251.out 0
                   have hfz72_1 := blk_frozen BK251.out 1
                   go_wp2_with (first | ((with_reducible refine gate_callee (f := 13) rfl ?_); refine zc 60 Tryd.func13 #[.agg #[.int .i64 t246, .slice Ao14 t254.length co14], .int .i64 1] ?_; (with_reducible refine (laws_heldGraph.calls t246 _ _ t254 1 t263 _ ?side1 ?side2 A63.out).mono ?_); (case side1 => exact zC (Kd.R_reads' HO_252001.out).2.2); (case side2 => exact (Kd.R_reads' HO_252001.out).2.1); rintro e w73 ⟨rfl, hb⟩; refine ⟨_, rfl, ?_⟩; replace HO_246001 := zM (Kd.R_below (zR HO_246001.out) hb); replace HO_252001 := zM (Kd.R_below (zR HO_252001.out) hb); replace HO_262001 := zM (Kd.R_below (zR HO_262001.out) hb); replace BK245 := zM (blk_below (g := gb245) (o := .cells #[.int .i64 t240, .slice Ao9 t241.length co9] 28 (0, 0)) (zK BK245.out) hb); replace BK251 := zM (blk_below (g := gb251) (o := .cells #[.int .i64 t246, .slice Ao14 t254.length co14] 28 (0, 0)) (zK BK251.out) hb); replace BK261 := zM (blk_below (g := gb261) (o := .cells #[.int .i64 t256, .slice Ao47 t257.length co47] 28 (0, 0)) (zK BK261.out) hb); replace HB := zM (below_step zB hb); (try clear hb); (try clear hb2); (try clear hk); (try clear hi)))
                   go_ret
                   exact ⟨by first | rfl | (simp [errW_none, errW_some] <;> rfl) | (simp [*, errW_none, errW_some] <;> rfl), zB⟩
                 · rw [if_neg c69] at H
                   have c69b0 : (t263 == t253) = false := beq_eq_false_iff_ne.mpr c69
                   have c69b1 : (t263 != t253) = true := bne_iff_ne.mpr c69
                   obtain rfl := Option.some.inj H
                   have hnb74 := NB251_245.out
                   have hnc74 := NB245_251.out
                   have hnb75 := NB251_261.out
                   have hnc75 := NB261_251.out
                   have hcz76_0 := zy BK251 0
                   have hcz76_1 := zy BK251 1
                   have hfz76_0 := blk_frozen BK251.out 0
                   have hfz76_1 := blk_frozen BK251.out 1
                   go_wp2_with (first | ((with_reducible refine gate_callee (f := 13) rfl ?_); refine zc 60 Tryd.func13 #[.agg #[.int .i64 t246, .slice Ao14 t254.length co14], .int .i64 1] ?_; (with_reducible refine (laws_heldGraph.calls t246 _ _ t254 1 t263 _ ?side1 ?side2 A63.out).mono ?_); (case side1 => exact zC (Kd.R_reads' HO_252001.out).2.2); (case side2 => exact (Kd.R_reads' HO_252001.out).2.1); rintro e w77 ⟨rfl, hb⟩; refine ⟨_, rfl, ?_⟩; replace HO_246001 := zM (Kd.R_below (zR HO_246001.out) hb); replace HO_252001 := zM (Kd.R_below (zR HO_252001.out) hb); replace HO_262001 := zM (Kd.R_below (zR HO_262001.out) hb); replace BK245 := zM (blk_below (g := gb245) (o := .cells #[.int .i64 t240, .slice Ao9 t241.length co9] 28 (0, 0)) (zK BK245.out) hb); replace BK251 := zM (blk_below (g := gb251) (o := .cells #[.int .i64 t246, .slice Ao14 t254.length co14] 28 (0, 0)) (zK BK251.out) hb); replace BK261 := zM (blk_below (g := gb261) (o := .cells #[.int .i64 t256, .slice Ao47 t257.length co47] 28 (0, 0)) (zK BK261.out) hb); replace HB := zM (below_step zB hb); (try clear hb); (try clear hb2); (try clear hk); (try clear hi)))
                   go_ret
                   exact ⟨by first | rfl | (simp [errW_none, errW_some] <;> rfl) | (simp [*, errW_none, errW_some] <;> rfl), zB⟩
         · rw [if_neg c34] at H
           have c34b0 : (t255 == t253) = false := beq_eq_false_iff_ne.mpr c34
           have c34b1 : (t255 != t253) = true := bne_iff_ne.mpr c34
           obtain rfl := Option.some.inj H
           have hnb78 := NB251_245.out
           have hnc78 := NB245_251.out
           have hcz79_0 := zy BK251 0
           have hcz79_1 := zy BK251 1
           have hfz79_0 := blk_frozen BK251.out 0
           have hfz79_1 := blk_frozen BK251.out 1
           go_wp2_with (first | ((with_reducible refine gate_callee (f := 12) rfl ?_); refine zc 35 Tryd.func12 #[.agg #[.int .i64 t246, .slice Ao14 t247.length co14], .int .i64 1] ?_; (with_reducible refine (laws_markGraph.calls t246 (fun k_ => some k_ = (.slice Ao14 t247.length co14 : Value).ownBlock) (.slice Ao14 t247.length co14) t247 1 t253 t254 w _ ?side1 ?side2 A26.out).mono ?_); (case side1 => repeat (first | (with_reducible first | exact HB.out | apply below_alloc | apply pw_below_drewN | apply below_drew1 | refine below_set ?_ GE245.out | refine below_set ?_ GE251.out) | exact HB.out)); (case side2 => exact Kd.R_tight rfl HO_252001.out); rintro e w80 ⟨rfl, hy0, hb, hkp⟩; refine ⟨_, rfl, ?_⟩; replace HO_246001 := zM (Kd.R_mono (ok' := fun k_ => some k_ ≠ (.slice Ao14 t247.length co14 : Value).ownBlock) (Kd.R_keptB (HO_246001.out) hkp (fun k_ hk_ hs_ => (hk_) hs_)) (fun k_ hk_ => hk_.1)); replace BK245 := zM (blk_kept (zK BK245.out) hkp (fun hs_ => (fun e_ => (Kd.R_ne HO_252001.out BK245.out (by decide)) e_) hs_)); replace BK251 := zM (blk_kept (zK BK251.out) hkp (fun hs_ => (fun e_ => (Kd.R_ne HO_252001.out BK251.out (by decide)) e_) hs_)); replace HO_252001 := zM (Kd.R_reok rfl hy0 (fun k_ e_ => HO_252001.out.1 k_ e_)); replace HB := zM (hb); (try clear hb); (try clear hkp); (try clear hy0); have hcz81_0 := zy BK251 0; have hcz81_1 := zy BK251 1; have hfz81_0 := blk_frozen BK251.out 0; have hfz81_1 := blk_frozen BK251.out 1) | ((with_reducible refine gate_callee (f := 13) rfl ?_); refine goesL_ (some 38) rfl rfl Tryd.func13 (by kernel_rfl) rfl #[.agg #[.int .i64 t246, .slice Ao14 t254.length co14], .int .i64 1] rfl (by (try simp only [List.map_toArray, List.map_cons, List.map_nil]); first | done | (rw [show t254.length = t247.length from (Kd.R_reads' HO_252001.out).1.symm] <;> rfl) | rfl | (simp only [List.length_drop, List.length_take]; rfl)) ?_; (with_reducible refine (laws_heldGraph.calls t246 _ _ t254 1 t255 _ ?side1 ?side2 A27.out).mono ?_); (case side1 => exact zC (Kd.R_reads' HO_252001.out).2.2); (case side2 => rw [show t254.length = t247.length from (Kd.R_reads' HO_252001.out).1.symm]; exact (Kd.R_reads' HO_252001.out).2.1); rintro e w82 ⟨rfl, hb⟩; refine ⟨_, rfl, ?_⟩; replace HO_246001 := zM (Kd.R_below (zR HO_246001.out) hb); replace HO_252001 := zM (Kd.R_below (zR HO_252001.out) hb); replace BK245 := zM (blk_below (g := gb245) (o := .cells #[.int .i64 t240, .slice Ao9 t241.length co9] 28 (0, 0)) (zK BK245.out) hb); replace BK251 := zM (blk_below (g := gb251) (o := .cells #[.int .i64 t246, .slice Ao14 t247.length co14] 28 (0, 0)) (zK BK251.out) hb); replace HB := zM (below_step zB hb); (try clear hb); (try clear hb2); (try clear hk); (try clear hi)))
           go_ret
           exact ⟨by first | rfl | (simp [errW_none, errW_some] <;> rfl) | (simp [*, errW_none, errW_some] <;> rfl), zB⟩

end Go.Proofs.YtfkcddambaadjaaDoor.P
namespace Go.Proofs.YtfkcddambaadjaaDoor.P
open Go.RowKit Go.Proofs.YtfkcddambaadjaaDoorW.PrintWords Go.Proofs.YtfkcddambaadjaaDoorW.PrintLast Go.Proofs.YtfkcddambaadjaaDoorW.PrintMore
set_option linter.unusedVariables false
set_option linter.unusedSimpArgs false
theorem parG_len (s : ByteArray) : (parG s).2.1.length ≤ 1048576 := by
  by_cases h : AnyT s
  · obtain ⟨a, l, ht⟩ := h
    rw [parG_yes s a l ht]
    have := okG_len a l ht.1
    show l.length ≤ 1048576
    omega
  · rw [parG_no s h]
    exact Nat.zero_le _
theorem Pure_FnExactParseGraph (s : ByteArray) : ∃ k, laws_FnExactParseGraph.f k s = some true := by
  refine Ev.rounds ?_
  unfold laws_FnExactParseGraph.f
  by_cases hs : s.size ≤ 1048576
  case neg => exact Ev.pos (by omega) (Ev.now _)
  refine Ev.neg (by omega) ?_
  obtain ⟨r, hr, h1, h2⟩ := spec_ParseGraph_ev s hs
  have hrp : r = parG s := by
    by_cases h : AnyT s
    · obtain ⟨a, l, ht⟩ := h
      rw [h2 a l ht, parG_yes s a l ht]
    · rw [h1 h, parG_no s h]
  subst hrp
  have hl := parG_len s
  have hi : impl_ParseGraph.f s = some (parG s) := if_pos hs
  generalize parG s = g at hr hl hi
  obtain ⟨n, es, b⟩ := g
  replace hl : es.length ≤ 1048576 := hl
  refine Ev.bind hr ?_
  refine Ev.bindo hi ?_
  refine Ev.bind (eqGraph_ev n es hl) ?_
  refine Ev.pos rfl ?_
  refine Ev.step (fun k => by rw [laws_FnExactParseGraph.j0]) (Ev.neg (by simp) ?_)
  refine Ev.bindo (markGraph_at n es 1) ?_
  refine Ev.bindo (heldGraph_at n es hl) ?_
  refine Ev.neg (mark1_pos es hl) ?_
  refine Ev.pos rfl ?_
  refine Ev.bindo hi ?_
  refine Ev.bind (eqGraph_ev n es hl) ?_
  refine Ev.pos rfl ?_
  refine Ev.step (fun k => by rw [laws_FnExactParseGraph.j1]) (Ev.neg (by simp) ?_)
  refine Ev.bindo (heldGraph_at n es hl) ?_
  refine Ev.neg (mark1_pos es hl) ?_
  exact Ev.pos rfl (Ev.now _)
end Go.Proofs.YtfkcddambaadjaaDoor.P
