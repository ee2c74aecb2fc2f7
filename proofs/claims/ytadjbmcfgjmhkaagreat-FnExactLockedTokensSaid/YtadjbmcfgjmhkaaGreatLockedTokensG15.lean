import Derived.Test.YtadjbmcfgjmhkaaGreatLockedTokensG14
import Derived.Shelf.Abstract
namespace Go.Proofs.YtadjbmcfgjmhkaaGreat.P
open Go.RowKit Go.Proofs.YtadjbmcfgjmhkaaGreatW.PrintWords Go.Proofs.YtadjbmcfgjmhkaaGreatW.PrintLast Go.Proofs.YtadjbmcfgjmhkaaGreatW.PrintMore
attribute [local go_sem] max2_int min2_int max_two min_two max_three min_three max_four min_four
set_option maxRecDepth 100000
set_option maxHeartbeats 8000000
set_option linter.unusedVariables false
set_option linter.unusedSimpArgs false
def spec_l2Dist.f (k : Nat) (l0_0 : List (List Int)) (l0_1 : List (S69)) (a1 : Int) : Option (List Int) := (spec_l2Lists.f k l0_0 l0_1).bind fun t821 => ((spec_l2Spread.f k t821 a1).bind fun t824 => (some t824))
theorem spec_l2Dist.calls (k : Nat) (A0_0 : Option Addr) (c0_0 : Nat) (l0_0 : List (List Int)) (A0_1 : Option Addr) (c0_1 : Nat) (l0_1 : List (S69)) (a1 : Int) (r : List Int) (w : World) (hr0_0 : Kd.C (Kd.slice 3 (Kd.int .i64)) w A0_0 l0_0.length l0_0) (hc0_0 : l0_0.length ≤ c0_0) (hr0_1 : Kd.C k69 w A0_1 l0_1.length l0_1) (hc0_1 : l0_1.length ≤ c0_1) (h : spec_l2Dist.f k l0_0 l0_1 a1 = some r) :
 Calls Tryz.prog 46 #[.agg #[.slice A0_0 l0_0.length c0_0, .slice A0_1 l0_1.length c0_1], .int .i64 a1] w fun e w' => ∃ v0_ : Value, e = .returned (v0_) ∧ Kd.R (Kd.int .i64) 3 w' w.heap.size (fun _ => True) v0_ r ∧ Below w.heap.size w w' := by
 have hu52 := Tryz.underlying52
 have HR0_0 := Aside0.mk hr0_0
 have HC0_0 := Aside0.mk hc0_0
 clear hr0_0 hc0_0
 have HR0_1 := Aside0.mk hr0_1
 have HC0_1 := Aside0.mk hc0_1
 clear hr0_1 hc0_1
 have HB := zM (Below.refl w.heap.size w)
 have H : ((spec_l2Lists.f k l0_0 l0_1).bind fun t821 => ((spec_l2Spread.f k t821 a1).bind fun t824 => (some t824))) = some r := h
 clear h
 replace H := Option.bind_eq_some_iff.mp H
 obtain ⟨t821, A30, H⟩ := H
 have A3 := Aside0.mk A30
 clear A30
 replace H := Option.bind_eq_some_iff.mp H
 obtain ⟨t824, A40, H⟩ := H
 have A4 := Aside0.mk A40
 clear A40
 obtain rfl := Option.some.inj H
 go_enter Tryz.func46, Tryz.ntmps46
 go_wp2_with (first | ((with_reducible refine gate_dst (N := 2) rfl ?_); refine zb (w := w) 2 #[.slice A0_0 l0_0.length c0_0, .slice A0_1 l0_1.length c0_1] 52 zB ?_; clear HB; intro gb820 w5 HB BK820 GW820; have GE820 := GW820; have hcz6_0 := zy BK820 0; have hcz6_1 := zy BK820 1; have hfz6_0 := blk_frozen BK820.out 0; have hfz6_1 := blk_frozen BK820.out 1) | ((with_reducible refine gate_callee (f := 43) rfl ?_); refine zc 6 Tryz.func43 #[.agg #[.slice A0_0 l0_0.length c0_0, .slice A0_1 l0_1.length c0_1]] ?_; (with_reducible refine (spec_l2Lists.calls k _ _ l0_0 _ _ l0_1 t821 _ ?side1 ?side2 ?side3 ?side4 A3.out).mono ?_); (case side1 => exact zC (Kd.C_below HR0_0.out HB.out)); (case side2 => exact HC0_0.out); (case side3 => exact zC (Kd.C_below HR0_1.out HB.out)); (case side4 => exact HC0_1.out); rintro e w7 ⟨v822, rfl, ho0, hb⟩; refine ⟨_, rfl, ?_⟩; have HO823 := zM (Kd.S_lower ho0 (below_size zB)); replace BK820 := zM (blk_below (g := gb820) (o := .cells #[.slice A0_0 l0_0.length c0_0, .slice A0_1 l0_1.length c0_1] 52 (0, 0)) (zK BK820.out) hb); replace HB := zM (below_step zB hb); (try clear hb); (try clear ho0); obtain ⟨Ao8, co8, eo8⟩ := Kd.S_slice HO823.out; subst eo8) | ((with_reducible refine gate_callee (f := 71) rfl ?_); refine zc 8 Tryz.func71 #[.slice Ao8 t821.length co8, .int .i64 a1] ?_; (with_reducible refine (spec_l2Spread.calls k _ _ t821 a1 t824 _ ?side1 ?side2 A4.out).mono ?_); (case side1 => exact zC (Kd.S_reads' HO823.out).2.2); (case side2 => exact (Kd.S_reads' HO823.out).2.1); rintro e w9 ⟨v825, rfl, ho0, hb⟩; refine ⟨_, rfl, ?_⟩; replace HO823 := zM (Kd.S_elder' (by (with_reducible repeat (first | apply Kd.S_alloc | apply Kd.S_drewN | apply Kd.S_drew)); exact HO823.out) (Kd.R_base ho0) hb); have HO826 := zM (Kd.R_lower ho0 (below_size zB)); replace BK820 := zM (blk_below (g := gb820) (o := .cells #[.slice A0_0 l0_0.length c0_0, .slice A0_1 l0_1.length c0_1] 52 (0, 0)) (zK BK820.out) hb); replace HB := zM (below_step zB hb); (try clear hb); (try clear ho0)))
 go_ret
 exact ⟨_, by first | rfl | (simp [errW_none, errW_some] <;> rfl) | (simp [*, errW_none, errW_some] <;> rfl), by (with_reducible repeat (first | apply Kd.R_alloc | apply Kd.R_drewN | apply Kd.R_drew)); exact HO826.out, zB⟩
def spec_l3Common.f (k : Nat) (l0 : List Int) (l1 : List Int) : Option (List Int) := (spec_l3Only.f k l0 l1).bind fun t827 => ((spec_l3Only.f k l0 t827).bind fun t830 => (some t830))
theorem spec_l3Common.calls (k : Nat) (A0 : Option Addr) (c0 : Nat) (l0 : List Int) (A1 : Option Addr) (c1 : Nat) (l1 : List Int) (r : List Int) (w : World) (hr0 : Kd.C (Kd.int .i64) w A0 l0.length l0) (hc0 : l0.length ≤ c0) (hr1 : Kd.C (Kd.int .i64) w A1 l1.length l1) (hc1 : l1.length ≤ c1) (h : spec_l3Common.f k l0 l1 = some r) :
 Calls Tryz.prog 49 #[.slice A0 l0.length c0, .slice A1 l1.length c1] w fun e w' => ∃ v0_ : Value, e = .returned (v0_) ∧ Kd.R (Kd.int .i64) 3 w' w.heap.size (fun _ => True) v0_ r ∧ Below w.heap.size w w' := by
 have HR0 := Aside0.mk hr0
 have HC0 := Aside0.mk hc0
 clear hr0 hc0
 have HR1 := Aside0.mk hr1
 have HC1 := Aside0.mk hc1
 clear hr1 hc1
 have HB := zM (Below.refl w.heap.size w)
 have H : ((spec_l3Only.f k l0 l1).bind fun t827 => ((spec_l3Only.f k l0 t827).bind fun t830 => (some t830))) = some r := h
 clear h
 replace H := Option.bind_eq_some_iff.mp H
 obtain ⟨t827, A30, H⟩ := H
 have A3 := Aside0.mk A30
 clear A30
 replace H := Option.bind_eq_some_iff.mp H
 obtain ⟨t830, A40, H⟩ := H
 have A4 := Aside0.mk A40
 clear A40
 obtain rfl := Option.some.inj H
 go_enter Tryz.func49, Tryz.ntmps49
 go_wp2_with (first | ((with_reducible refine gate_callee (f := 73) rfl ?_); refine zc 8 Tryz.func73 #[.slice A0 l0.length c0, .slice A1 l1.length c1] ?_; (with_reducible refine (spec_l3Only.calls k _ _ l0 _ _ l1 t827 _ ?side1 ?side2 ?side3 ?side4 A3.out).mono ?_); (case side1 => exact zC HR0.out); (case side2 => exact HC0.out); (case side3 => exact zC HR1.out); (case side4 => exact HC1.out); rintro e w5 ⟨v828, rfl, ho0, hb⟩; refine ⟨_, rfl, ?_⟩; have HO829 := zM (Kd.R_lower ho0 (below_size zB)); replace HB := zM (below_step zB hb); (try clear hb); (try clear ho0); obtain ⟨Ao6, co6, eo6⟩ := Kd.R_slice HO829.out; subst eo6) | ((with_reducible refine gate_callee (f := 73) rfl ?_); refine zc 9 Tryz.func73 #[.slice A0 l0.length c0, .slice Ao6 t827.length co6] ?_; (with_reducible refine (spec_l3Only.calls k _ _ l0 _ _ t827 t830 _ ?side1 ?side2 ?side3 ?side4 A4.out).mono ?_); (case side1 => exact zC (Kd.C_below HR0.out HB.out)); (case side2 => exact HC0.out); (case side3 => exact zC (Kd.R_reads' HO829.out).2.2); (case side4 => exact (Kd.R_reads' HO829.out).2.1); rintro e w7 ⟨v831, rfl, ho0, hb⟩; refine ⟨_, rfl, ?_⟩; have HO832 := zM (Kd.R_lower (Kd.R_new' ho0 (Kd.R_lt (zR HO829.out))) (below_size zB)); replace HO829 := zM (Kd.R_elder' (zR HO829.out) (Kd.R_base ho0) hb); replace HB := zM (below_step zB hb); (try clear hb); (try clear ho0)))
 go_ret
 exact ⟨_, by first | rfl | (simp [errW_none, errW_some] <;> rfl) | (simp [*, errW_none, errW_some] <;> rfl), by (with_reducible repeat (first | apply Kd.R_alloc | apply Kd.R_drewN | apply Kd.R_drew)); exact Kd.R_mono HO832.out (fun _ hk => trivial), zB⟩
def spec_LockedTokens.l0 : Nat → List Int → List Int → Int → List (List Int) → List (S69) → Option (List Int × Bool)
 | 0, _, _, _, _, _ => none
 | k + 1, x7, x8, x9, x848000, x848001 => if x9 < (x7.length : Int) then (if 0 ≤ x9 then (if (rd x7 x9) ≥ 0 then (if x9 < (x848000.length : Int) then ((spec_l3Common.f k x8 (rd_L2 x848000 x9)).bind fun t857 => (spec_LockedTokens.l0 k x7 t857 (wrap64 (x9 + 1)) x848000 x848001)) else (none)) else (spec_LockedTokens.l0 k x7 x8 (wrap64 (x9 + 1)) x848000 x848001)) else (none)) else (some (x8, true))
def spec_LockedTokens.f (k : Nat) (a0_0 : Int) (l0_1 : List (S69)) (l1 : List Int) : Option (List Int × Bool) := (spec_l3Good.f k a0_0 l0_1 l1).bind fun t834 => (if t834 = true then ((spec_l3Sets.f k a0_0 l0_1 (l1.length : Int) (l1.length : Int)).bind fun t838 => ((spec_l3Space.f k a0_0 l0_1 0 t838).bind fun bt841 => ((spec_l2Index.f k bt841.1 bt841.2 l1).bind fun t848 => ((spec_l2Dist.f k bt841.1 bt841.2 t848).bind fun t849 => ((spec_l1Own.f l1).bind fun t852 => (spec_LockedTokens.l0 k t849 t852 0 bt841.1 bt841.2)))))) else (some ((([] : List Int)), false)))
def spec_LockedTokens.T3 : Bool × List (List Nat × List Nat) := (true, [([], []), ([], []), ([], []), ([2], [2]), ([], []), ([4], [4]), ([1, 3, 5], [1, 3, 5]), ([0, 6, 6], [0, 6]), ([], []), ([8, 7, 7, 0, 1, 2, 3, 4, 5, 6, 7, 8], [7, 8])])
def spec_LockedTokens.B3 : List Nat := [0, 0, 0, 4, 0, 16, 62, 127, 0, 511]
theorem spec_LockedTokens.tab3 : rtab .any (opsOf Tryz.f24 3) = spec_LockedTokens.T3 := by kernel_rfl
theorem spec_LockedTokens.bits3 : waitsOk spec_LockedTokens.T3.2 spec_LockedTokens.B3 = true := by kernel_rfl
theorem spec_LockedTokens.calls (k : Nat) (a0_0 : Int) (A0_1 : Option Addr) (c0_1 : Nat) (l0_1 : List (S69)) (A1 : Option Addr) (c1 : Nat) (l1 : List Int) (r1 : List Int) (r2 : Bool) (w : World) (hr0_1 : Kd.C k69 w A0_1 l0_1.length l0_1) (hc0_1 : l0_1.length ≤ c0_1) (hr1 : Kd.C (Kd.int .i64) w A1 l1.length l1) (hc1 : l1.length ≤ c1) (h : spec_LockedTokens.f k a0_0 l0_1 l1 = some (r1, r2)) :
 Calls Tryz.prog 24 #[.agg #[.int .i64 a0_0, .slice A0_1 l0_1.length c0_1], .slice A1 l1.length c1] w fun e w' => ∃ v0_ : Value, e = .returned (.tuple #[v0_, .bool r2]) ∧ Kd.R (Kd.int .i64) 3 w' w.heap.size (fun _ => True) v0_ r1 ∧ Below w.heap.size w w' := by
 have hu30 := Tryz.underlying30
 have hu52 := Tryz.underlying52
 have HR0_1 := Aside0.mk hr0_1
 have HC0_1 := Aside0.mk hc0_1
 clear hr0_1 hc0_1
 have HR1 := Aside0.mk hr1
 have HC1 := Aside0.mk hc1
 clear hr1 hc1
 have HB := zM (Below.refl w.heap.size w)
 have H : ((spec_l3Good.f k a0_0 l0_1 l1).bind fun t834 => (if t834 = true then ((spec_l3Sets.f k a0_0 l0_1 (l1.length : Int) (l1.length : Int)).bind fun t838 => ((spec_l3Space.f k a0_0 l0_1 0 t838).bind fun bt841 => ((spec_l2Index.f k bt841.1 bt841.2 l1).bind fun t848 => ((spec_l2Dist.f k bt841.1 bt841.2 t848).bind fun t849 => ((spec_l1Own.f l1).bind fun t852 => (spec_LockedTokens.l0 k t849 t852 0 bt841.1 bt841.2)))))) else (some ((([] : List Int)), false)))) = some (r1, r2) := h
 clear h
 replace H := Option.bind_eq_some_iff.mp H
 obtain ⟨t834, A30, H⟩ := H
 replace H : (if t834 = true then ((spec_l3Sets.f k a0_0 l0_1 (l1.length : Int) (l1.length : Int)).bind fun t838 => ((spec_l3Space.f k a0_0 l0_1 0 t838).bind fun bt841 => ((spec_l2Index.f k bt841.1 bt841.2 l1).bind fun t848 => ((spec_l2Dist.f k bt841.1 bt841.2 t848).bind fun t849 => ((spec_l1Own.f l1).bind fun t852 => (spec_LockedTokens.l0 k t849 t852 0 bt841.1 bt841.2)))))) else (some ((([] : List Int)), false))) = some (r1, r2) := H
 have A3 := Aside0.mk A30
 clear A30
 by_cases c4 : t834 = true
 · subst c4
   have H1 : ((spec_l3Sets.f k a0_0 l0_1 (l1.length : Int) (l1.length : Int)).bind fun t838 => ((spec_l3Space.f k a0_0 l0_1 0 t838).bind fun bt841 => ((spec_l2Index.f k bt841.1 bt841.2 l1).bind fun t848 => ((spec_l2Dist.f k bt841.1 bt841.2 t848).bind fun t849 => ((spec_l1Own.f l1).bind fun t852 => (spec_LockedTokens.l0 k t849 t852 0 bt841.1 bt841.2)))))) = some (r1, r2) := by rw [if_pos rfl] at H; exact H
   clear H
   have H := H1
   clear H1
   replace H := Option.bind_eq_some_iff.mp H
   obtain ⟨t838, A50, H⟩ := H
   replace H : ((spec_l3Space.f k a0_0 l0_1 0 t838).bind fun bt841 => ((spec_l2Index.f k bt841.1 bt841.2 l1).bind fun t848 => ((spec_l2Dist.f k bt841.1 bt841.2 t848).bind fun t849 => ((spec_l1Own.f l1).bind fun t852 => (spec_LockedTokens.l0 k t849 t852 0 bt841.1 bt841.2))))) = some (r1, r2) := H
   have A5 := Aside0.mk A50
   clear A50
   replace H := Option.bind_eq_some_iff.mp H
   obtain ⟨⟨t841, t844⟩, A60, H⟩ := H
   replace H : ((spec_l2Index.f k t841 t844 l1).bind fun t848 => ((spec_l2Dist.f k t841 t844 t848).bind fun t849 => ((spec_l1Own.f l1).bind fun t852 => (spec_LockedTokens.l0 k t849 t852 0 t841 t844)))) = some (r1, r2) := H
   have A6 := Aside0.mk A60
   clear A60
   replace H := Option.bind_eq_some_iff.mp H
   obtain ⟨t848, A70, H⟩ := H
   replace H : ((spec_l2Dist.f k t841 t844 t848).bind fun t849 => ((spec_l1Own.f l1).bind fun t852 => (spec_LockedTokens.l0 k t849 t852 0 t841 t844))) = some (r1, r2) := H
   have A7 := Aside0.mk A70
   clear A70
   replace H := Option.bind_eq_some_iff.mp H
   obtain ⟨t849, A80, H⟩ := H
   replace H : ((spec_l1Own.f l1).bind fun t852 => (spec_LockedTokens.l0 k t849 t852 0 t841 t844)) = some (r1, r2) := H
   have A8 := Aside0.mk A80
   clear A80
   replace H := Option.bind_eq_some_iff.mp H
   obtain ⟨t852, A90, H⟩ := H
   replace H : (spec_LockedTokens.l0 k t849 t852 0 t841 t844) = some (r1, r2) := H
   have A9 := Aside0.mk A90
   clear A90
   have H' := Aside0.mk H
   clear H
   go_enter Tryz.func24, Tryz.ntmps24
   try go_wp2_with (first | ((with_reducible refine gate_dst (N := 2) rfl ?_); refine zb (w := w) 2 #[.int .i64 a0_0, .slice A0_1 l0_1.length c0_1] 30 zB ?_; clear HB; intro gb833 w10 HB BK833 GW833; have GE833 := GW833; have hcz11_0 := zy BK833 0; have hcz11_1 := zy BK833 1; have hfz11_0 := blk_frozen BK833.out 0; have hfz11_1 := blk_frozen BK833.out 1) | ((with_reducible refine gate_callee (f := 45) rfl ?_); refine zc 12 Tryz.func45 #[.agg #[.int .i64 a0_0, .slice A0_1 l0_1.length c0_1], .slice A1 l1.length c1] ?_; (with_reducible refine (spec_l3Good.calls k a0_0 _ _ l0_1 _ _ l1 true _ ?side1 ?side2 ?side3 ?side4 A3.out).mono ?_); (case side1 => exact zC (Kd.C_below HR0_1.out HB.out)); (case side2 => exact HC0_1.out); (case side3 => exact zC (Kd.C_below HR1.out HB.out)); (case side4 => exact HC1.out); rintro e w12 ⟨rfl, hb⟩; refine ⟨_, rfl, ?_⟩; replace BK833 := zM (blk_below (g := gb833) (o := .cells #[.int .i64 a0_0, .slice A0_1 l0_1.length c0_1] 30 (0, 0)) (zK BK833.out) hb); replace HB := zM (below_step zB hb); (try clear hb); (try clear hi)))
   replace BK833 := zM (blk_drew BK833.out)
   replace HB := zM (below_drew1 HB.out)
   refine zs (n := 10) (fun w' => w'.cell? ⟨gb833, 0, none⟩ = some (.int .i64 a0_0) ∧ w'.cell? ⟨gb833, 1, none⟩ = some (.slice A0_1 l0_1.length c0_1)) ⟨(blk_cell BK833.out 0).trans rfl, (blk_cell BK833.out 1).trans rfl⟩ (fun hHeld => ?_); refine with_tabW spec_LockedTokens.tab3 spec_LockedTokens.bits3 (fun HT_ HW_ => ?_)
   generalize w12.drew = w13 at BK833 HB hHeld ⊢
   refine zp HT_ 2 17 ?_
   refine zp HT_ 3 18 ?_
   refine zp HT_ 4 19 ?_
   refine zp HT_ 5 20 ?_
   refine zt HT_ HW_ 0 15 hHeld ?_ (hy := by rintro w' ⟨s0, s1⟩; go_simp; with_reducible rfl)
   refine zt HT_ HW_ 1 16 hHeld ?_ (hy := by rintro w' ⟨s0, s1⟩; go_simp; with_reducible rfl)
   refine join_ (σ := Value × Value × Value × Nat) 1 #[true, true, true, true, true, true, true, true, true, false] (fun s_ => [(21, s_.1), (22, .agg #[s_.2.1, s_.2.2.1]), (6, .pointer (some ⟨s_.2.2.2, 0, none⟩))]) (fun s_ w' => (w'.cell? ⟨gb833, 0, none⟩ = some (.int .i64 a0_0) ∧ w'.cell? ⟨gb833, 1, none⟩ = some (.slice A0_1 l0_1.length c0_1)) ∧ (Kd.N (Kd.slice 3 (Kd.int .i64)) 25 w' w.heap.size (fun k_ => some k_ ≠ (s_.2.2.1 : Value).ownBlock ∧ k_ ≠ gb833 ∧ k_ ≠ s_.2.2.2) s_.1 t838) ∧ (Kd.V (Kd.slice 3 (Kd.int .i64)) 25 w' w.heap.size (fun k_ => some k_ ≠ (s_.2.2.1 : Value).ownBlock ∧ k_ ≠ gb833 ∧ k_ ≠ s_.2.2.2) s_.2.1 t841) ∧ (Kd.R k69 69 w' w.heap.size (fun _ => True) s_.2.2.1 t844) ∧ (w'.heap[gb833]? = some (.cells #[.int .i64 a0_0, .slice A0_1 l0_1.length c0_1] 30 (0, 0))) ∧ (w'.heap[s_.2.2.2]? = some (.cells #[.slice none 0 0, .slice none 0 0] 52 (0, 0))) ∧ (w.heap.size ≤ s_.2.2.2) ∧ (w.heap.size ≤ s_.2.2.2) ∧ (gb833 ≠ s_.2.2.2) ∧ (s_.2.2.2 ≠ gb833) ∧ (Below w.heap.size w w')) ?_ ?_
   rotate_left
   · intro hCont
     refine two_ (i := 6) (j := 8) (Ni := some 21) (Nj := some 6) #[true, true, true, true, true, true, true, false, false, false] #[true, true, true, true, true, true, false, false, true, false] rfl rfl rfl rfl (two_of HT_.out (by kernel_rfl)) (by decide) (by decide) (fun K hK => ?_) (fun K hK => ?_)
     · skip
       refine goes_ Tryz.func34 (by kernel_rfl) rfl #[.agg #[.int .i64 a0_0, .slice A0_1 l0_1.length c0_1], .int .i64 (l1.length : Int), .int .i64 (l1.length : Int)] (by rfl) rfl rfl (by (try simp only [List.map_toArray, List.map_cons, List.map_nil]); first | done | rfl | (simp only [List.length_drop, List.length_take]; rfl)) ?_
       with_reducible refine (spec_l3Sets.calls k a0_0 _ _ l0_1 (l1.length : Int) (l1.length : Int) t838 _ ?side1 ?side2 A5.out).mono ?_
       (case side1 => exact zC (Kd.C_below HR0_1.out HB.out))
       (case side2 => exact HC0_1.out)
       rintro e w14 ⟨v839, rfl, ho0, hb⟩
       refine ⟨_, rfl, ?_⟩
       have HO840 := zM (Kd.N_lower (Kd.N_mono (ok' := fun k_ => k_ ≠ gb833) ho0 (fun k_ hk_ => (Kd.freshB (g := gb833) (o := .cells #[.int .i64 a0_0, .slice A0_1 l0_1.length c0_1] 30 (0, 0)) (zK BK833.out) k_ hk_))) (below_size zB))
       replace BK833 := zM (blk_below (g := gb833) (o := .cells #[.int .i64 a0_0, .slice A0_1 l0_1.length c0_1] 30 (0, 0)) (zK BK833.out) hb)
       replace HB := zM (below_step zB hb)
       (try clear hb)
       (try clear ho0)
       obtain ⟨Ao15, co15, eo15⟩ := Kd.N_slice HO840.out
       (first | subst eo15 | (injection eo15 with f1_ f2_ f3_; have f4_ := f1_.symm; have f5_ := f3_.symm; clear f1_ f2_ f3_; subst f4_; subst f5_))
       refine hK.out _ _ ⟨(blk_cell BK833.out 0).trans rfl, (blk_cell BK833.out 1).trans rfl⟩ (fun hHeld => ?_)
       clear hK K
       refine zn 21 ?_
       refine two_ (i := 7) (j := 8) (Ni := some 22) (Nj := some 6) #[true, true, true, true, true, true, true, true, false, false] #[true, true, true, true, true, true, true, false, true, false] rfl rfl rfl rfl (two_of HT_.out (by kernel_rfl)) (by decide) (by decide) (fun K hK => ?_) (fun K hK => ?_)
       · skip
         refine goes_ Tryz.func33 (by kernel_rfl) rfl #[.agg #[.int .i64 a0_0, .slice A0_1 l0_1.length c0_1], .int .i64 0, .slice Ao15 t838.length co15] (by rfl) rfl rfl (by (try simp only [List.map_toArray, List.map_cons, List.map_nil]); first | done | rfl | (simp only [List.length_drop, List.length_take]; rfl)) ?_
         with_reducible refine (spec_l3Space.calls k a0_0 _ _ l0_1 0 (fun k_ => k_ ≠ gb833) _ _ t838 t841 t844 _ ?side1 ?side2 ?side3 A6.out).mono ?_
         (case side1 => exact zC (Kd.C_below HR0_1.out HB.out))
         (case side2 => exact HC0_1.out)
         (case side3 => exact Kd.N_V (HO840.out))
         rintro e w16 ⟨v842, v845, rfl, ho0, ho1, hb⟩
         refine ⟨_, rfl, ?_⟩
         replace HO840 := zM (Kd.N_elder' (by (with_reducible repeat (first | apply Kd.N_alloc | apply Kd.N_drewN | apply Kd.N_drew)); exact HO840.out) (Kd.R_base ho1) hb)
         have HO843 := zM (Kd.V_lower (Kd.V_mono (ok' := fun k_ => some k_ ≠ (v845 : Value).ownBlock ∧ k_ ≠ gb833) ho0 (fun k_ hk_ => ⟨hk_.2, Or.elim hk_.1 (fun hs_ => hs_) (fun hn_ => (Kd.freshB (g := gb833) (o := .cells #[.int .i64 a0_0, .slice A0_1 l0_1.length c0_1] 30 (0, 0)) (zK BK833.out) k_ hn_))⟩)) (below_size zB))
         have HO846 := zM (Kd.R_lower (Kd.R_mono (ok' := fun k_ => True) ho1 (fun _ hk_ => trivial)) (below_size zB))
         replace BK833 := zM (blk_below (g := gb833) (o := .cells #[.int .i64 a0_0, .slice A0_1 l0_1.length c0_1] 30 (0, 0)) (zK BK833.out) hb)
         replace HB := zM (below_step zB hb)
         (try clear hb)
         (try clear ho0)
         (try clear ho1)
         refine hK.out _ _ ⟨(blk_cell BK833.out 0).trans rfl, (blk_cell BK833.out 1).trans rfl⟩ (fun hHeld => ?_)
         clear hK K
         refine zn 22 ?_
         refine one_ (i := 8) (N := some 6) #[true, true, true, true, true, true, true, true, true, false] rfl rfl (one_of HT_.out (by kernel_rfl)) (by decide) (fun K hK => ?_)
         refine box_step ?hg (N := 6) ?hd (cs := #[.slice none 0 0, .slice none 0 0]) (t := 52) ?hr ?_; (case hd => rfl); (case hg => rfl); (case hr => first | (go_simp; done) | (go_simp; rfl))
         intro gb847 hg w17 hbox hb
         replace HO840 := zM (Kd.N_below (Kd.N_elderB (by (with_reducible repeat (first | apply Kd.N_alloc | apply Kd.N_drewN | apply Kd.N_drew)); exact HO840.out) gb847 (Nat.le_of_eq hg.symm)) hb)
         replace HO843 := zM (Kd.V_below (Kd.V_elderB (by (with_reducible repeat (first | apply Kd.V_alloc | apply Kd.V_drewN | apply Kd.V_drew)); exact HO843.out) gb847 (Nat.le_of_eq hg.symm)) hb)
         replace HO846 := zM (Kd.R_below (zR HO846.out) hb)
         have BK847 := zM (hbox)
         have GW847 := zM ((by rw [hg]; exact (below_size zB) : w.heap.size ≤ gb847))
         have GE847 := zM ((by rw [hg]; exact (below_size zB) : w.heap.size ≤ gb847))
         replace HB := zM (below_step zB hb)
         have NB833_847 := zM ((by rw [hg]; exact Nat.ne_of_lt (blk_lt (g := gb833) (o := .cells #[.int .i64 a0_0, .slice A0_1 l0_1.length c0_1] 30 (0, 0)) (zK BK833.out)) : gb833 ≠ gb847))
         have NB847_833 := zM ((by rw [hg]; exact Nat.ne_of_gt (blk_lt (g := gb833) (o := .cells #[.int .i64 a0_0, .slice A0_1 l0_1.length c0_1] 30 (0, 0)) (zK BK833.out)) : gb847 ≠ gb833))
         replace BK833 := zM (blk_below (g := gb833) (o := .cells #[.int .i64 a0_0, .slice A0_1 l0_1.length c0_1] 30 (0, 0)) (zK BK833.out) hb)
         clear hb hbox hg
         refine hK.out _ _ ⟨(blk_cell BK833.out 0).trans rfl, (blk_cell BK833.out 1).trans rfl⟩ (fun hHeld => ?_)
         clear hK K
         refine zn 6 ?_
         exact norm_ (by simp only [putAll, Act.put, List.setIfInBounds_toArray, List.set_cons_zero, List.set_cons_succ]) (hCont (.slice Ao15 t838.length co15, v842, v845, gb847) _ ⟨hHeld, (by (with_reducible repeat (first | apply Kd.N_alloc | apply Kd.N_drewN | apply Kd.N_drew)); exact Kd.N_mono HO840.out (fun _ hk => ⟨hk.1.2, ⟨hk.1.1, hk.2⟩⟩)), (by (with_reducible repeat (first | apply Kd.V_alloc | apply Kd.V_drewN | apply Kd.V_drew)); exact Kd.V_mono HO843.out (fun _ hk => ⟨hk.1.1, ⟨hk.1.2, hk.2⟩⟩)), (zR HO846.out), (zK BK833.out), (zK BK847.out), GW847.out, GE847.out, NB833_847.out, NB847_833.out, zB⟩)
       · skip
         refine box_step ?hg (N := 6) ?hd (cs := #[.slice none 0 0, .slice none 0 0]) (t := 52) ?hr ?_; (case hd => rfl); (case hg => rfl); (case hr => first | (go_simp; done) | (go_simp; rfl))
         intro gb847 hg w15 hbox hb
         replace HO840 := zM (Kd.N_below (Kd.N_elderB (by (with_reducible repeat (first | apply Kd.N_alloc | apply Kd.N_drewN | apply Kd.N_drew)); exact HO840.out) gb847 (Nat.le_of_eq hg.symm)) hb)
         have BK847 := zM (hbox)
         have GW847 := zM ((by rw [hg]; exact (below_size zB) : w.heap.size ≤ gb847))
         have GE847 := zM ((by rw [hg]; exact (below_size zB) : w.heap.size ≤ gb847))
         replace HB := zM (below_step zB hb)
         have NB833_847 := zM ((by rw [hg]; exact Nat.ne_of_lt (blk_lt (g := gb833) (o := .cells #[.int .i64 a0_0, .slice A0_1 l0_1.length c0_1] 30 (0, 0)) (zK BK833.out)) : gb833 ≠ gb847))
         have NB847_833 := zM ((by rw [hg]; exact Nat.ne_of_gt (blk_lt (g := gb833) (o := .cells #[.int .i64 a0_0, .slice A0_1 l0_1.length c0_1] 30 (0, 0)) (zK BK833.out)) : gb847 ≠ gb833))
         replace BK833 := zM (blk_below (g := gb833) (o := .cells #[.int .i64 a0_0, .slice A0_1 l0_1.length c0_1] 30 (0, 0)) (zK BK833.out) hb)
         clear hb hbox hg
         obtain ⟨Ao16, co16, eo16⟩ := Kd.N_slice HO840.out
         (first | subst eo16 | (injection eo16 with f1_ f2_ f3_; have f4_ := f1_.symm; have f5_ := f3_.symm; clear f1_ f2_ f3_; subst f4_; subst f5_))
         refine hK.out _ _ ⟨(blk_cell BK833.out 0).trans rfl, (blk_cell BK833.out 1).trans rfl⟩ (fun hHeld => ?_)
         clear hK K
         refine zn 6 ?_
         refine zg HT_ 7 22 Tryz.func33 #[.agg #[.int .i64 a0_0, .slice A0_1 l0_1.length c0_1], .int .i64 0, .slice Ao16 t838.length co16] (fun K hK => ?_)
         with_reducible refine (spec_l3Space.calls k a0_0 _ _ l0_1 0 (fun k_ => (k_ ≠ gb833 ∧ k_ ≠ gb847)) _ _ t838 t841 t844 _ ?side1 ?side2 ?side3 A6.out).mono ?_
         (case side1 => exact zC (Kd.C_below HR0_1.out HB.out))
         (case side2 => exact HC0_1.out)
         (case side3 => exact Kd.N_V (HO840.out))
         rintro e w17 ⟨v842, v845, rfl, ho0, ho1, hb⟩
         refine ⟨_, rfl, ?_⟩
         replace HO840 := zM (Kd.N_elder' (by (with_reducible repeat (first | apply Kd.N_alloc | apply Kd.N_drewN | apply Kd.N_drew)); exact HO840.out) (Kd.R_base ho1) hb)
         have HO843 := zM (Kd.V_lower (Kd.V_mono (ok' := fun k_ => some k_ ≠ (v845 : Value).ownBlock ∧ k_ ≠ gb833 ∧ k_ ≠ gb847) ho0 (fun k_ hk_ => ⟨hk_.2, Or.elim hk_.1 (fun hs_ => hs_.1) (fun hn_ => (Kd.freshB (g := gb833) (o := .cells #[.int .i64 a0_0, .slice A0_1 l0_1.length c0_1] 30 (0, 0)) (zK BK833.out) k_ hn_)), Or.elim hk_.1 (fun hs_ => hs_.2) (fun hn_ => (Kd.freshB (g := gb847) (o := .cells #[.slice none 0 0, .slice none 0 0] 52 (0, 0)) (zK BK847.out) k_ hn_))⟩)) (below_size zB))
         have HO846 := zM (Kd.R_lower (Kd.R_mono (ok' := fun k_ => True) ho1 (fun _ hk_ => trivial)) (below_size zB))
         replace BK833 := zM (blk_below (g := gb833) (o := .cells #[.int .i64 a0_0, .slice A0_1 l0_1.length c0_1] 30 (0, 0)) (zK BK833.out) hb)
         replace BK847 := zM (blk_below (g := gb847) (o := .cells #[.slice none 0 0, .slice none 0 0] 52 (0, 0)) (zK BK847.out) hb)
         replace HB := zM (below_step zB hb)
         (try clear hb)
         (try clear ho0)
         (try clear ho1)
         refine hK.out _ _ ⟨(blk_cell BK833.out 0).trans rfl, (blk_cell BK833.out 1).trans rfl⟩ (fun hHeld => ?_)
         clear hK K
         refine zn 22 ?_
         exact norm_ (by simp only [putAll, Act.put, List.setIfInBounds_toArray, List.set_cons_zero, List.set_cons_succ]) (hCont (.slice Ao16 t838.length co16, v842, v845, gb847) _ ⟨hHeld, (by (with_reducible repeat (first | apply Kd.N_alloc | apply Kd.N_drewN | apply Kd.N_drew)); exact Kd.N_mono HO840.out (fun _ hk => ⟨hk.2, ⟨hk.1.1, hk.1.2⟩⟩)), (by (with_reducible repeat (first | apply Kd.V_alloc | apply Kd.V_drewN | apply Kd.V_drew)); exact HO843.out), (zR HO846.out), (zK BK833.out), (zK BK847.out), GW847.out, GE847.out, NB833_847.out, NB847_833.out, zB⟩)
     · skip
       refine box_step ?hg (N := 6) ?hd (cs := #[.slice none 0 0, .slice none 0 0]) (t := 52) ?hr ?_; (case hd => rfl); (case hg => rfl); (case hr => first | (go_simp; done) | (go_simp; rfl))
       intro gb847 hg w14 hbox hb
       have BK847 := zM (hbox)
       have GW847 := zM ((by rw [hg]; exact (below_size zB) : w.heap.size ≤ gb847))
       have GE847 := zM ((by rw [hg]; exact (below_size zB) : w.heap.size ≤ gb847))
       replace HB := zM (below_step zB hb)
       have NB833_847 := zM ((by rw [hg]; exact Nat.ne_of_lt (blk_lt (g := gb833) (o := .cells #[.int .i64 a0_0, .slice A0_1 l0_1.length c0_1] 30 (0, 0)) (zK BK833.out)) : gb833 ≠ gb847))
       have NB847_833 := zM ((by rw [hg]; exact Nat.ne_of_gt (blk_lt (g := gb833) (o := .cells #[.int .i64 a0_0, .slice A0_1 l0_1.length c0_1] 30 (0, 0)) (zK BK833.out)) : gb847 ≠ gb833))
       replace BK833 := zM (blk_below (g := gb833) (o := .cells #[.int .i64 a0_0, .slice A0_1 l0_1.length c0_1] 30 (0, 0)) (zK BK833.out) hb)
       clear hb hbox hg
       refine hK.out _ _ ⟨(blk_cell BK833.out 0).trans rfl, (blk_cell BK833.out 1).trans rfl⟩ (fun hHeld => ?_)
       clear hK K
       refine zn 6 ?_
       refine zg HT_ 6 21 Tryz.func34 #[.agg #[.int .i64 a0_0, .slice A0_1 l0_1.length c0_1], .int .i64 (l1.length : Int), .int .i64 (l1.length : Int)] (fun K hK => ?_)
       with_reducible refine (spec_l3Sets.calls k a0_0 _ _ l0_1 (l1.length : Int) (l1.length : Int) t838 _ ?side1 ?side2 A5.out).mono ?_
       (case side1 => exact zC (Kd.C_below HR0_1.out HB.out))
       (case side2 => exact HC0_1.out)
       rintro e w15 ⟨v839, rfl, ho0, hb⟩
       refine ⟨_, rfl, ?_⟩
       have HO840 := zM (Kd.N_lower (Kd.N_mono (ok' := fun k_ => k_ ≠ gb833 ∧ k_ ≠ gb847) ho0 (fun k_ hk_ => ⟨(Kd.freshB (g := gb833) (o := .cells #[.int .i64 a0_0, .slice A0_1 l0_1.length c0_1] 30 (0, 0)) (zK BK833.out) k_ hk_), (Kd.freshB (g := gb847) (o := .cells #[.slice none 0 0, .slice none 0 0] 52 (0, 0)) (zK BK847.out) k_ hk_)⟩)) (below_size zB))
       replace BK833 := zM (blk_below (g := gb833) (o := .cells #[.int .i64 a0_0, .slice A0_1 l0_1.length c0_1] 30 (0, 0)) (zK BK833.out) hb)
       replace BK847 := zM (blk_below (g := gb847) (o := .cells #[.slice none 0 0, .slice none 0 0] 52 (0, 0)) (zK BK847.out) hb)
       replace HB := zM (below_step zB hb)
       (try clear hb)
       (try clear ho0)
       obtain ⟨Ao16, co16, eo16⟩ := Kd.N_slice HO840.out
       (first | subst eo16 | (injection eo16 with f1_ f2_ f3_; have f4_ := f1_.symm; have f5_ := f3_.symm; clear f1_ f2_ f3_; subst f4_; subst f5_))
       refine hK.out _ _ ⟨(blk_cell BK833.out 0).trans rfl, (blk_cell BK833.out 1).trans rfl⟩ (fun hHeld => ?_)
       clear hK K
       refine zn 21 ?_
       refine zg HT_ 7 22 Tryz.func33 #[.agg #[.int .i64 a0_0, .slice A0_1 l0_1.length c0_1], .int .i64 0, .slice Ao16 t838.length co16] (fun K hK => ?_)
       with_reducible refine (spec_l3Space.calls k a0_0 _ _ l0_1 0 (fun k_ => (k_ ≠ gb833 ∧ k_ ≠ gb847)) _ _ t838 t841 t844 _ ?side1 ?side2 ?side3 A6.out).mono ?_
       (case side1 => exact zC (Kd.C_below HR0_1.out HB.out))
       (case side2 => exact HC0_1.out)
       (case side3 => exact Kd.N_V (HO840.out))
       rintro e w17 ⟨v842, v845, rfl, ho0, ho1, hb⟩
       refine ⟨_, rfl, ?_⟩
       replace HO840 := zM (Kd.N_elder' (by (with_reducible repeat (first | apply Kd.N_alloc | apply Kd.N_drewN | apply Kd.N_drew)); exact HO840.out) (Kd.R_base ho1) hb)
       have HO843 := zM (Kd.V_lower (Kd.V_mono (ok' := fun k_ => some k_ ≠ (v845 : Value).ownBlock ∧ k_ ≠ gb833 ∧ k_ ≠ gb847) ho0 (fun k_ hk_ => ⟨hk_.2, Or.elim hk_.1 (fun hs_ => hs_.1) (fun hn_ => (Kd.freshB (g := gb833) (o := .cells #[.int .i64 a0_0, .slice A0_1 l0_1.length c0_1] 30 (0, 0)) (zK BK833.out) k_ hn_)), Or.elim hk_.1 (fun hs_ => hs_.2) (fun hn_ => (Kd.freshB (g := gb847) (o := .cells #[.slice none 0 0, .slice none 0 0] 52 (0, 0)) (zK BK847.out) k_ hn_))⟩)) (below_size zB))
       have HO846 := zM (Kd.R_lower (Kd.R_mono (ok' := fun k_ => True) ho1 (fun _ hk_ => trivial)) (below_size zB))
       replace BK833 := zM (blk_below (g := gb833) (o := .cells #[.int .i64 a0_0, .slice A0_1 l0_1.length c0_1] 30 (0, 0)) (zK BK833.out) hb)
       replace BK847 := zM (blk_below (g := gb847) (o := .cells #[.slice none 0 0, .slice none 0 0] 52 (0, 0)) (zK BK847.out) hb)
       replace HB := zM (below_step zB hb)
       (try clear hb)
       (try clear ho0)
       (try clear ho1)
       refine hK.out _ _ ⟨(blk_cell BK833.out 0).trans rfl, (blk_cell BK833.out 1).trans rfl⟩ (fun hHeld => ?_)
       clear hK K
       refine zn 22 ?_
       exact norm_ (by simp only [putAll, Act.put, List.setIfInBounds_toArray, List.set_cons_zero, List.set_cons_succ]) (hCont (.slice Ao16 t838.length co16, v842, v845, gb847) _ ⟨hHeld, (by (with_reducible repeat (first | apply Kd.N_alloc | apply Kd.N_drewN | apply Kd.N_drew)); exact Kd.N_mono HO840.out (fun _ hk => ⟨hk.2, ⟨hk.1.1, hk.1.2⟩⟩)), (by (with_reducible repeat (first | apply Kd.V_alloc | apply Kd.V_drewN | apply Kd.V_drew)); exact HO843.out), (zR HO846.out), (zK BK833.out), (zK BK847.out), GW847.out, GE847.out, NB833_847.out, NB847_833.out, zB⟩)
   rintro ⟨v839, v842, v845, gb847⟩ w18 ⟨hS_, h0_, h1_, h2_, h3_, h4_, h5_, h6_, h7_, h8_, h9_⟩
   have n0_ : Aside0 (Kd.N (Kd.slice 3 (Kd.int .i64)) 25 w18 w.heap.size (fun k_ => some k_ ≠ (v845 : Value).ownBlock ∧ k_ ≠ gb833 ∧ k_ ≠ gb847) v839 t838) := ⟨h0_⟩
   have n1_ : Aside0 (Kd.V (Kd.slice 3 (Kd.int .i64)) 25 w18 w.heap.size (fun k_ => some k_ ≠ (v845 : Value).ownBlock ∧ k_ ≠ gb833 ∧ k_ ≠ gb847) v842 t841) := ⟨h1_⟩
   have n2_ : Aside0 (Kd.R k69 69 w18 w.heap.size (fun _ => True) v845 t844) := ⟨h2_⟩
   have n3_ : Aside0 (w18.heap[gb833]? = some (.cells #[.int .i64 a0_0, .slice A0_1 l0_1.length c0_1] 30 (0, 0))) := ⟨h3_⟩
   have n4_ : Aside0 (w18.heap[gb847]? = some (.cells #[.slice none 0 0, .slice none 0 0] 52 (0, 0))) := ⟨h4_⟩
   have n5_ : Aside0 (w.heap.size ≤ gb847) := ⟨h5_⟩
   have n6_ : Aside0 (w.heap.size ≤ gb847) := ⟨h6_⟩
   have n7_ : Aside0 (gb833 ≠ gb847) := ⟨h7_⟩
   have n8_ : Aside0 (gb847 ≠ gb833) := ⟨h8_⟩
   have n9_ : Aside0 (Below w.heap.size w w18) := ⟨h9_⟩
   clear BK833
   clear HB
   clear h0_ h1_ h2_ h3_ h4_ h5_ h6_ h7_ h8_ h9_
   have HO840 := n0_
   have HO843 := n1_
   have HO846 := n2_
   have BK833 := n3_
   have BK847 := n4_
   have GW847 := n5_
   have GE847 := n6_
   have NB833_847 := n7_
   have NB847_833 := n8_
   have HB := n9_
   clear n0_ n1_ n2_ n3_ n4_ n5_ n6_ n7_ n8_ n9_
   have hHeld : w18.cell? ⟨gb833, 0, none⟩ = some (.int .i64 a0_0) ∧ w18.cell? ⟨gb833, 1, none⟩ = some (.slice A0_1 l0_1.length c0_1) := hS_
   obtain ⟨Ao19, co19, eo19⟩ := Kd.V_slice HO843.out
   (first | subst eo19 | (injection eo19 with f1_ f2_ f3_; have f4_ := f1_.symm; have f5_ := f3_.symm; clear f1_ f2_ f3_; subst f4_; subst f5_))
   obtain ⟨Ao21, co21, eo21⟩ := Kd.R_slice HO846.out
   (first | subst eo21 | (injection eo21 with f1_ f2_ f3_; have f4_ := f1_.symm; have f5_ := f3_.symm; clear f1_ f2_ f3_; subst f4_; subst f5_))
   refine norm_ (a' := ?_) ?_ ?_
   rotate_left
   · simp only [putAll, Act.put, List.setIfInBounds_toArray, List.set_cons_zero, List.set_cons_succ]
     rfl
   refine one_ (i := 9) (N := none) #[true, true, true, true, true, true, true, true, true, true] rfl rfl (one_of HT_.out (by kernel_rfl)) (by decide) (fun K hK => ?_)
   have hs20 : w18.cell? ⟨gb847, 0, none⟩ = some (.slice none 0 0) := (blk_cell BK847.out 0).trans rfl
   have hfs20 := blk_frozen BK847.out 0
   have hns20_0 := NB833_847.out
   have hms20_0 := NB847_833.out
   have hs22 : w18.cell? ⟨gb847, 1, none⟩ = some (.slice none 0 0) := (blk_cell BK847.out 1).trans rfl
   have hfs22 := blk_frozen BK847.out 1
   have hns22_0 := NB833_847.out
   have hms22_0 := NB847_833.out
   refine skip_ (w1 := ?_) (by rfl) rfl ?_ ?_
   rotate_left
   · go_simp
     rfl
   refine hK.out _ _ ⟨((cell_far (p := ⟨gb847, _, none⟩) NB833_847.out _).trans (((cell_far (p := ⟨gb847, _, none⟩) NB833_847.out _).trans (hHeld.1)))), ((cell_far (p := ⟨gb847, _, none⟩) NB833_847.out _).trans (((cell_far (p := ⟨gb847, _, none⟩) NB833_847.out _).trans (hHeld.2))))⟩ (fun hHeld => ?_)
   clear hK K
   refine zo HT_ ?_
   try go_wp2
   have n0_ : Aside0 (Kd.N (Kd.slice 3 (Kd.int .i64)) 25 ((w18.setCell ⟨gb847, 0, none⟩ (.slice Ao19 t841.length co19)).setCell ⟨gb847, 1, none⟩ (.slice Ao21 t844.length co21)) w.heap.size (fun k_ => some k_ ≠ (.slice Ao21 t844.length co21 : Value).ownBlock ∧ k_ ≠ gb833 ∧ k_ ≠ gb847) v839 t838) := ⟨by (with_reducible repeat (first | apply Kd.N_alloc | apply Kd.N_drewN | apply Kd.N_drew)); exact Kd.N_mono (Kd.N_far (p := ⟨gb847, 1, none⟩) (Kd.N_far (p := ⟨gb847, 0, none⟩) (Kd.N_mono HO840.out (fun k_ hk => (⟨hk, hk.2.2⟩ : _ ∧ k_ ≠ gb847))) (fun _ hk => hk.2) (.slice Ao19 t841.length co19)) (fun _ hk => hk.2) (.slice Ao21 t844.length co21)) (fun _ hk => ⟨hk.1.1, ⟨hk.1.2.1, hk.1.2.2⟩⟩)⟩
   have n1_ : Aside0 (Kd.V (Kd.slice 3 (Kd.int .i64)) 25 ((w18.setCell ⟨gb847, 0, none⟩ (.slice Ao19 t841.length co19)).setCell ⟨gb847, 1, none⟩ (.slice Ao21 t844.length co21)) w.heap.size (fun k_ => some k_ ≠ (.slice Ao21 t844.length co21 : Value).ownBlock ∧ k_ ≠ gb833 ∧ k_ ≠ gb847) (.slice Ao19 t841.length co19) t841) := ⟨by (with_reducible repeat (first | apply Kd.V_alloc | apply Kd.V_drewN | apply Kd.V_drew)); exact Kd.V_mono (Kd.V_far (p := ⟨gb847, 1, none⟩) (Kd.V_far (p := ⟨gb847, 0, none⟩) (Kd.V_mono HO843.out (fun k_ hk => (⟨hk, hk.2.2⟩ : _ ∧ k_ ≠ gb847))) (fun _ hk => hk.2) (.slice Ao19 t841.length co19)) (fun _ hk => hk.2) (.slice Ao21 t844.length co21)) (fun _ hk => ⟨hk.1.1, ⟨hk.1.2.1, hk.1.2.2⟩⟩)⟩
   have n2_ : Aside0 (Kd.R k69 69 ((w18.setCell ⟨gb847, 0, none⟩ (.slice Ao19 t841.length co19)).setCell ⟨gb847, 1, none⟩ (.slice Ao21 t844.length co21)) w.heap.size (fun _ => True) (.slice Ao21 t844.length co21) t844) := ⟨by (with_reducible repeat (first | apply Kd.R_alloc | apply Kd.R_drewN | apply Kd.R_drew)); exact Kd.R_mono (Kd.R_far (p := ⟨gb847, 1, none⟩) (Kd.R_far (p := ⟨gb847, 0, none⟩) (Kd.R_types HO846.out BK847.out (by decide)) (fun _ hk => hk.2) (.slice Ao19 t841.length co19)) (fun _ hk => hk.2) (.slice Ao21 t844.length co21)) (fun _ hk => trivial)⟩
   have n3_ : Aside0 (((w18.setCell ⟨gb847, 0, none⟩ (.slice Ao19 t841.length co19)).setCell ⟨gb847, 1, none⟩ (.slice Ao21 t844.length co21)).heap[gb833]? = some (.cells #[.int .i64 a0_0, .slice A0_1 l0_1.length c0_1] 30 (0, 0))) := ⟨by (with_reducible repeat (first | refine blk_drewN ?_ _ | refine blk_drew ?_ | refine blk_alloc ?_ _)); refine blk_far ?_ NB833_847.out _; (with_reducible repeat (first | refine blk_drewN ?_ _ | refine blk_drew ?_ | refine blk_alloc ?_ _)); refine blk_far ?_ NB833_847.out _; (with_reducible repeat (first | refine blk_drewN ?_ _ | refine blk_drew ?_ | refine blk_alloc ?_ _)); exact BK833.out⟩
   have n4_ : Aside0 (((w18.setCell ⟨gb847, 0, none⟩ (.slice Ao19 t841.length co19)).setCell ⟨gb847, 1, none⟩ (.slice Ao21 t844.length co21)).heap[gb847]? = some (.cells #[.slice Ao19 t841.length co19, .slice Ao21 t844.length co21] 52 (0, 0))) := ⟨by (with_reducible repeat (first | refine blk_drewN ?_ _ | refine blk_drew ?_ | refine blk_alloc ?_ _)); refine blk_put (cs := #[.slice Ao19 t841.length co19, .slice none 0 0]) ?_ 1 _ rfl; (with_reducible repeat (first | refine blk_drewN ?_ _ | refine blk_drew ?_ | refine blk_alloc ?_ _)); refine blk_put (cs := #[.slice none 0 0, .slice none 0 0]) ?_ 0 _ rfl; (with_reducible repeat (first | refine blk_drewN ?_ _ | refine blk_drew ?_ | refine blk_alloc ?_ _)); exact BK847.out⟩
   have n5_ : Aside0 (Below w.heap.size w ((w18.setCell ⟨gb847, 0, none⟩ (.slice Ao19 t841.length co19)).setCell ⟨gb847, 1, none⟩ (.slice Ao21 t844.length co21))) := ⟨zB⟩
   (try clear HO840)
   (try clear HO843)
   (try clear HO846)
   (try clear BK833)
   (try clear BK847)
   (try clear HB)
   generalize ((w18.setCell ⟨gb847, 0, none⟩ (.slice Ao19 t841.length co19)).setCell ⟨gb847, 1, none⟩ (.slice Ao21 t844.length co21)) = w23 at n0_ n1_ n2_ n3_ n4_ n5_ ⊢
   have HO840 := n0_
   have HO843 := n1_
   have HO846 := n2_
   have BK833 := n3_
   have BK847 := n4_
   have HB := n5_
   clear n0_ n1_ n2_ n3_ n4_ n5_
   replace HO840 := zM (Kd.N_drew HO840.out)
   replace HO843 := zM (Kd.V_drew HO843.out)
   replace HO846 := zM (Kd.R_drew HO846.out)
   replace BK833 := zM (blk_drew BK833.out)
   replace BK847 := zM (blk_drew BK847.out)
   replace HB := zM (below_drew1 HB.out)
   refine zs (n := 6) (fun w' => w'.cell? ⟨gb847, 0, none⟩ = some (.slice Ao19 t841.length co19) ∧ w'.cell? ⟨gb847, 1, none⟩ = some (.slice Ao21 t844.length co21)) ⟨(blk_cell BK847.out 0).trans rfl, (blk_cell BK847.out 1).trans rfl⟩ (fun hHeld => ?_)
   generalize w23.drew = w24 at HO840 HO843 HO846 BK833 BK847 HB hHeld ⊢
   refine zq 2 25 ?_
   refine zl 0 23 hHeld ?_ (hy := by rintro w' ⟨s0, s1⟩; go_simp; with_reducible rfl)
   refine zl 1 24 hHeld ?_ (hy := by rintro w' ⟨s0, s1⟩; go_simp; with_reducible rfl)
   refine zh 3 26 Tryz.func47 #[.agg #[.slice Ao19 t841.length co19, .slice Ao21 t844.length co21], .slice A1 l1.length c1] (fun K hK => ?_)
   with_reducible refine (spec_l2Index.calls k _ _ t841 _ _ t844 _ _ l1 t848 _ ?side1 ?side2 ?side3 ?side4 ?side5 ?side6 A7.out).mono ?_
   (case side1 => exact zC (Kd.V_reads' HO843.out).2.2)
   (case side2 => exact (Kd.V_reads' HO843.out).2.1)
   (case side3 => exact zC (Kd.R_reads' HO846.out).2.2)
   (case side4 => exact (Kd.R_reads' HO846.out).2.1)
   (case side5 => exact zC (Kd.C_below HR1.out HB.out))
   (case side6 => exact HC1.out)
   rintro e w25 ⟨rfl, hb⟩
   refine ⟨_, rfl, ?_⟩
   replace HO840 := zM (Kd.N_below (by (with_reducible repeat (first | apply Kd.N_alloc | apply Kd.N_drewN | apply Kd.N_drew)); exact HO840.out) hb)
   replace HO843 := zM (Kd.V_below (by (with_reducible repeat (first | apply Kd.V_alloc | apply Kd.V_drewN | apply Kd.V_drew)); exact HO843.out) hb)
   replace HO846 := zM (Kd.R_below (zR HO846.out) hb)
   replace BK833 := zM (blk_below (g := gb833) (o := .cells #[.int .i64 a0_0, .slice A0_1 l0_1.length c0_1] 30 (0, 0)) (zK BK833.out) hb)
   replace BK847 := zM (blk_below (g := gb847) (o := .cells #[.slice Ao19 t841.length co19, .slice Ao21 t844.length co21] 52 (0, 0)) (zK BK847.out) hb)
   replace HB := zM (below_step zB hb)
   (try clear hb)
   refine hK.out _ _ ⟨(blk_cell BK847.out 0).trans rfl, (blk_cell BK847.out 1).trans rfl⟩ (fun hHeld => ?_)
   clear hK K
   refine zn 26 ?_
   refine zh 4 27 Tryz.func46 #[.agg #[.slice Ao19 t841.length co19, .slice Ao21 t844.length co21], .int .i64 t848] (fun K hK => ?_)
   with_reducible refine (spec_l2Dist.calls k _ _ t841 _ _ t844 t848 t849 _ ?side1 ?side2 ?side3 ?side4 A8.out).mono ?_
   (case side1 => exact zC (Kd.V_reads' HO843.out).2.2)
   (case side2 => exact (Kd.V_reads' HO843.out).2.1)
   (case side3 => exact zC (Kd.R_reads' HO846.out).2.2)
   (case side4 => exact (Kd.R_reads' HO846.out).2.1)
   rintro e w26 ⟨v850, rfl, ho0, hb⟩
   refine ⟨_, rfl, ?_⟩
   replace HO840 := zM (Kd.N_elder' (by (with_reducible repeat (first | apply Kd.N_alloc | apply Kd.N_drewN | apply Kd.N_drew)); exact HO840.out) (Kd.R_base ho0) hb)
   replace HO843 := zM (Kd.V_elder' (by (with_reducible repeat (first | apply Kd.V_alloc | apply Kd.V_drewN | apply Kd.V_drew)); exact HO843.out) (Kd.R_base ho0) hb)
   replace HO846 := zM (Kd.R_below (zR HO846.out) hb)
   have HO851 := zM (Kd.R_lower ho0 (below_size zB))
   replace BK833 := zM (blk_below (g := gb833) (o := .cells #[.int .i64 a0_0, .slice A0_1 l0_1.length c0_1] 30 (0, 0)) (zK BK833.out) hb)
   replace BK847 := zM (blk_below (g := gb847) (o := .cells #[.slice Ao19 t841.length co19, .slice Ao21 t844.length co21] 52 (0, 0)) (zK BK847.out) hb)
   replace HB := zM (below_step zB hb)
   (try clear hb)
   (try clear ho0)
   refine hK.out _ _ ⟨(blk_cell BK847.out 0).trans rfl, (blk_cell BK847.out 1).trans rfl⟩ (fun hHeld => ?_)
   clear hK K
   refine zn 27 ?_
   refine zq 5 7 ?_
   refine zx ?_
   try go_wp2_with (first | ((with_reducible refine gate_callee (f := 48) rfl ?_); refine zc 29 Tryz.func48 #[.slice A1 l1.length c1] ?_; (with_reducible refine (spec_l1Own.calls _ _ l1 t852 _ ?side1 ?side2 A9.out).mono ?_); (case side1 => exact zC (Kd.C_below HR1.out HB.out)); (case side2 => exact HC1.out); rintro e w27 ⟨v853, rfl, ho0, hb⟩; refine ⟨_, rfl, ?_⟩; replace HO840 := zM (Kd.N_elder' (by (with_reducible repeat (first | apply Kd.N_alloc | apply Kd.N_drewN | apply Kd.N_drew)); exact HO840.out) (Kd.R_base ho0) hb); replace HO843 := zM (Kd.V_elder' (by (with_reducible repeat (first | apply Kd.V_alloc | apply Kd.V_drewN | apply Kd.V_drew)); exact HO843.out) (Kd.R_base ho0) hb); replace HO846 := zM (Kd.R_below (zR HO846.out) hb); have HO854 := zM (Kd.R_lower (Kd.R_new' ho0 (Kd.R_lt (zR HO851.out))) (below_size zB)); replace HO851 := zM (Kd.R_elder' (zR HO851.out) (Kd.R_base ho0) hb); replace BK833 := zM (blk_below (g := gb833) (o := .cells #[.int .i64 a0_0, .slice A0_1 l0_1.length c0_1] 30 (0, 0)) (zK BK833.out) hb); replace BK847 := zM (blk_below (g := gb847) (o := .cells #[.slice Ao19 t841.length co19, .slice Ao21 t844.length co21] 52 (0, 0)) (zK BK847.out) hb); replace HB := zM (below_step zB hb); (try clear hb); (try clear ho0)))
   go_loopg [8, 9] k (fun kq v8 v9 w' => ∃ (x8_1 : List Int) (x9_1 : Int), v9 = .int .i64 x9_1 ∧ Aside0 (spec_LockedTokens.l0 kq t849 x8_1 x9_1 t841 t844 = some (r1, r2)) ∧ Aside0 (kq ≤ k) ∧ Aside0 (Kd.R (Kd.int .i64) 3 w' w.heap.size (fun k_ => some k_ ≠ (v8 : Value).ownBlock) v850 t849) ∧ Aside0 (Kd.R (Kd.int .i64) 3 w' w.heap.size (fun k_ => some k_ ≠ (v850 : Value).ownBlock) v8 x8_1) ∧ Aside0 (Kd.V (Kd.slice 3 (Kd.int .i64)) 25 w' w.heap.size (fun k_ => some k_ ≠ (v850 : Value).ownBlock ∧ some k_ ≠ (v8 : Value).ownBlock ∧ some k_ ≠ ((.slice Ao21 t844.length co21) : Value).ownBlock ∧ k_ ≠ gb833 ∧ k_ ≠ gb847) (.slice Ao19 t841.length co19) t841) ∧ Aside0 (Kd.R k69 69 w' w.heap.size (fun _ => True) (.slice Ao21 t844.length co21) t844) ∧ Aside0 (w'.heap[gb833]? = some (.cells #[.int .i64 a0_0, (.slice A0_1 l0_1.length c0_1)] 30 (0, 0))) ∧ Aside0 (w'.heap[gb847]? = some (.cells #[(.slice Ao19 t841.length co19), (.slice Ao21 t844.length co21)] 52 (0, 0))) ∧ Aside0 (Below w.heap.size w w'))
   case atStart => exact ⟨(t852), (0), (by first | rfl | (simp; done) | (simp [*]; done)), H', ⟨Nat.le_refl _⟩, ⟨by (with_reducible repeat (first | apply Kd.R_alloc | apply Kd.R_drewN | apply Kd.R_drew)); exact Kd.R_mono HO851.out (fun _ hk => hk.2)⟩, ⟨by (with_reducible repeat (first | apply Kd.R_alloc | apply Kd.R_drewN | apply Kd.R_drew)); exact Kd.R_mono HO854.out (fun _ hk => hk.2)⟩, ⟨by (with_reducible repeat (first | apply Kd.V_alloc | apply Kd.V_drewN | apply Kd.V_drew)); exact Kd.V_mono HO843.out (fun _ hk => ⟨hk.1.2, ⟨hk.2, ⟨hk.1.1.1, ⟨hk.1.1.2.1, hk.1.1.2.2⟩⟩⟩⟩)⟩, ⟨zR HO846.out⟩, ⟨zK BK833.out⟩, ⟨zK BK847.out⟩, ⟨zB⟩⟩
   case round =>
    clear H'
    try clear c1
    try clear c2
    try clear p2
    try clear c3
    try clear c4
    try clear c24
    try clear hcz11_0
    try clear hcz11_1
    try clear hfz11_0
    try clear hfz11_1
    obtain ⟨x8_1, x9_1, rfl, HA, HK1, HO_7, HO_8, HO_848000, HO_848001, BK833, BK847, HB⟩ := hrel
    cases gk with
    | zero => exact absurd HA.out (by simp [spec_LockedTokens.l0])
    | succ k1 =>
     have H := HA.out
     clear HA
     simp only [spec_LockedTokens.l0] at H
     by_cases c28 : x9_1 < (t849.length : Int)
     · rw [if_pos c28] at H
       have c28b0 := decide_eq_true c28
       clear c28
       by_cases c29 : 0 ≤ x9_1
       · rw [if_pos c29] at H
         have c29b0 := decide_eq_true c29
         clear c29
         by_cases c30 : (rd t849 x9_1) ≥ 0
         · rw [if_pos c30] at H
           have c30b0 : decide (0 ≤ (rd t849 x9_1)) = true := decide_eq_true c30
           clear c30
           by_cases c31 : x9_1 < (t841.length : Int)
           · rw [if_pos c31] at H
             have c31b0 := decide_eq_true c31
             clear c31
             replace H := Option.bind_eq_some_iff.mp H
             obtain ⟨t857, A320, H⟩ := H
             replace H : (spec_LockedTokens.l0 k1 t849 t857 (wrap64 (x9_1 + 1)) t841 t844) = some (r1, r2) := H
             have A32 := Aside0.mk A320
             clear A320
             have H' := Aside0.mk H
             clear H
             obtain ⟨Ao33, co33, eo33⟩ := Kd.R_slice HO_7.out
             subst eo33
             have p855 : 0 ≤ (x9_1 : Int) := of_decide_eq_true zA
             have q855 : x9_1 < (t849.length : Int) := of_decide_eq_true zA
             obtain ⟨ad855, e855, hx855_0⟩ := Kd.at_int (Kd.R_reads' HO_7.out).2.2 x9_1 p855 q855
             cases e855
             replace p855 := eq_true p855
             replace q855 := eq_true q855
             have hnb34 := NB847_833.out
             have hnc34 := NB833_847.out
             have hcz35_0 := zy BK847 0
             have hcz35_1 := zy BK847 1
             have hfz35_0 := blk_frozen BK847.out 0
             have hfz35_1 := blk_frozen BK847.out 1
             have p856 : 0 ≤ (x9_1 : Int) := of_decide_eq_true zA
             have q856 : x9_1 < (t841.length : Int) := of_decide_eq_true zA
             obtain ⟨ad856, A856_0, c856_0, e856, hx856_0, hl856_0, hi856_0⟩ := at_L2 (Kd.V_reads' HO_848000.out).2.2 x9_1 p856 q856
             cases e856
             obtain ⟨ce856, hce856, hMe856, hcc856⟩ := Kd.V_get HO_848000.out [] x9_1 p856 (by first | exact q856 | exact of_decide_eq_true zA | (have e_ := (Kd.V_reads' HO_848000.out).1; omega))
             obtain ⟨ua856_0, uc856_0, rfl, ul856_0, ge856_0⟩ := Kd.FK_slice_open hMe856
             have hv856_0 := hcc856 0 _ rfl
             rw [Nat.add_zero, show ((Kd.slice 3 (Kd.int .i64))).sz = 1 from rfl, Nat.mul_one] at hv856_0
             replace hv856_0 := Option.some.inj (hv856_0.symm.trans hx856_0)
             injection hv856_0 with hva_ hvn_ hvc_
             rw [hva_] at ge856_0
             rw [hvc_] at ul856_0
             have HL856_0 := zM (show Kd.V (Kd.int .i64) 3 _ w.heap.size _ _ (rd_L2 t841 x9_1) from Kd.V_mk ul856_0 ge856_0)
             clear hva_ hvn_ hvc_ ge856_0 ul856_0
             clear hcc856 hce856
             have HR856_0 := Aside0.mk hi856_0
             have HC856_0 := Aside0.mk hl856_0
             clear hi856_0 hl856_0
             replace p856 := eq_true p856
             replace q856 := eq_true q856
             obtain ⟨Ao36, co36, eo36⟩ := Kd.R_slice HO_8.out
             subst eo36
             go_wp2_with (first | ((with_reducible refine gate_callee (f := 49) rfl ?_); refine zc 47 Tryz.func49 #[.slice Ao36 x8_1.length co36, .slice A856_0 (rd_L2 t841 x9_1).length c856_0] ?_; (with_reducible refine (spec_l3Common.calls k1 _ _ x8_1 _ _ (rd_L2 t841 x9_1) t857 _ ?side1 ?side2 ?side3 ?side4 A32.out).mono ?_); (case side1 => exact zC (Kd.R_reads' HO_8.out).2.2); (case side2 => exact (Kd.R_reads' HO_8.out).2.1); (case side3 => repeat (first | exact (by repeat (first | (with_reducible exact HR856_0.out) | (with_reducible refine Kd.C_alloc ?_ _) | (with_reducible refine Kd.C_drewN ?_ _) | (with_reducible refine Kd.C_drew ?_) | exact HR856_0.out)) | (with_reducible refine Kd.C_alloc ?_ _) | (with_reducible refine Kd.C_drewN ?_ _) | (with_reducible refine Kd.C_drew ?_))); (case side4 => exact HC856_0.out); rintro e w37 ⟨v858, rfl, ho0, hb⟩; refine ⟨_, rfl, ?_⟩; replace HO_848000 := zM (Kd.V_elder' (by (with_reducible repeat (first | apply Kd.V_alloc | apply Kd.V_drewN | apply Kd.V_drew)); exact HO_848000.out) (Kd.R_base ho0) hb); replace HO_848001 := zM (Kd.R_below (zR HO_848001.out) hb); replace HL856_0 := zM (Kd.V_elder' (by (with_reducible repeat (first | apply Kd.V_alloc | apply Kd.V_drewN | apply Kd.V_drew)); exact HL856_0.out) (Kd.R_base ho0) hb); have HO859 := zM (Kd.R_lower (Kd.R_new' (Kd.R_new' ho0 (Kd.R_lt (zR HO_7.out))) (Kd.R_lt (zR HO_8.out))) (below_size zB)); replace HO_7 := zM (Kd.R_elder' (zR HO_7.out) (Kd.R_base ho0) hb); replace HO_8 := zM (Kd.R_elder' (zR HO_8.out) (Kd.R_base ho0) hb); replace BK833 := zM (blk_below (g := gb833) (o := .cells #[.int .i64 a0_0, .slice A0_1 l0_1.length c0_1] 30 (0, 0)) (zK BK833.out) hb); replace BK847 := zM (blk_below (g := gb847) (o := .cells #[.slice (some ad856) t841.length co19, .slice Ao21 t844.length co21] 52 (0, 0)) (zK BK847.out) hb); replace HR856_0 := zM (Kd.C_below (by repeat (first | (with_reducible exact HR856_0.out) | (with_reducible refine Kd.C_alloc ?_ _) | (with_reducible refine Kd.C_drewN ?_ _) | (with_reducible refine Kd.C_drew ?_) | exact HR856_0.out)) hb); replace HB := zM (below_step zB hb); (try clear hb); (try clear ho0)))
             go_roundg k1
             case measure => have := HK1.out; omega
             case rel => exact ⟨(t857), (wrap64 (x9_1 + 1)), (by first | rfl | (simp; done) | (simp [*]; done)), H', ⟨by have := HK1.out; omega⟩, ⟨by (with_reducible repeat (first | apply Kd.R_alloc | apply Kd.R_drewN | apply Kd.R_drew)); exact Kd.R_mono HO_7.out (fun _ hk => hk.2)⟩, ⟨by (with_reducible repeat (first | apply Kd.R_alloc | apply Kd.R_drewN | apply Kd.R_drew)); exact Kd.R_mono HO859.out (fun _ hk => hk.1.2)⟩, ⟨by (with_reducible repeat (first | apply Kd.V_alloc | apply Kd.V_drewN | apply Kd.V_drew)); exact Kd.V_mono HO_848000.out (fun _ hk => ⟨hk.1.1, ⟨hk.2, ⟨hk.1.2.2.1, ⟨hk.1.2.2.2.1, hk.1.2.2.2.2⟩⟩⟩⟩)⟩, ⟨zR HO_848001.out⟩, ⟨zK BK833.out⟩, ⟨zK BK847.out⟩, ⟨zB⟩⟩
           · rw [if_neg c31] at H
             simp at H
         · rw [if_neg c30] at H
           have c30b0 : decide (0 ≤ (rd t849 x9_1)) = false := decide_eq_false c30
           clear c30
           have H' := Aside0.mk H
           clear H
           obtain ⟨Ao38, co38, eo38⟩ := Kd.R_slice HO_7.out
           subst eo38
           have p855 : 0 ≤ (x9_1 : Int) := of_decide_eq_true zA
           have q855 : x9_1 < (t849.length : Int) := of_decide_eq_true zA
           obtain ⟨ad855, e855, hx855_0⟩ := Kd.at_int (Kd.R_reads' HO_7.out).2.2 x9_1 p855 q855
           cases e855
           replace p855 := eq_true p855
           replace q855 := eq_true q855
           go_wp2
           go_roundg k1
           case measure => have := HK1.out; omega
           case rel => exact ⟨(x8_1), (wrap64 (x9_1 + 1)), (by first | rfl | (simp; done) | (simp [*]; done)), H', ⟨by have := HK1.out; omega⟩, ⟨zR HO_7.out⟩, ⟨zR HO_8.out⟩, ⟨by (with_reducible repeat (first | apply Kd.V_alloc | apply Kd.V_drewN | apply Kd.V_drew)); exact HO_848000.out⟩, ⟨zR HO_848001.out⟩, ⟨zK BK833.out⟩, ⟨zK BK847.out⟩, ⟨zB⟩⟩
       · rw [if_neg c29] at H
         simp at H
     · rw [if_neg c28] at H
       have c28b0 : decide (x9_1 < (t849.length : Int)) = false := decide_eq_false c28
       clear c28
       simp only [Option.some.injEq, Prod.mk.injEq] at H
       obtain ⟨rfl, rfl⟩ := H
       obtain ⟨Ao39, co39, eo39⟩ := Kd.R_slice HO_7.out
       subst eo39
       go_wp2
       go_ret2
       exact ⟨_, by first | rfl | (simp [errW_none, errW_some] <;> rfl) | (simp [*, errW_none, errW_some] <;> rfl), by (with_reducible repeat (first | apply Kd.R_alloc | apply Kd.R_drewN | apply Kd.R_drew)); exact Kd.R_mono HO_8.out (fun _ hk => trivial), zB⟩
 · replace c4 := Bool.eq_false_iff.mpr c4
   subst c4
   have H1 : (some ((([] : List Int)), false)) = some (r1, r2) := by rw [if_neg (show ¬ (false = true) by decide)] at H; exact H
   clear H
   have H := H1
   clear H1
   obtain ⟨y835, hy835⟩ : ∃ y_ : List Int, y_ = (([] : List Int)) := ⟨_, rfl⟩
   replace H : (some (y835, false)) = some (r1, r2) := by first | (rw [hy835]; with_reducible exact H) | (have H2_ := (Option.bind_some _ _).symm.trans H; rw [hy835]; with_reducible exact H2_) | (have H2_ := (Option.bind_some _ _).symm.trans H; with_reducible exact H2_) | with_reducible exact H | (rw [hy835]; exact H) | exact H
   have Ny835 := Aside0.mk hy835
   clear hy835
   simp only [Option.some.injEq, Prod.mk.injEq] at H
   obtain ⟨rfl, rfl⟩ := H
   go_enter Tryz.func24, Tryz.ntmps24
   go_wp2_with (first | ((with_reducible refine gate_dst (N := 2) rfl ?_); refine zb (w := w) 2 #[.int .i64 a0_0, .slice A0_1 l0_1.length c0_1] 30 zB ?_; clear HB; intro gb833 w40 HB BK833 GW833; have GE833 := GW833; have hcz41_0 := zy BK833 0; have hcz41_1 := zy BK833 1; have hfz41_0 := blk_frozen BK833.out 0; have hfz41_1 := blk_frozen BK833.out 1) | ((with_reducible refine gate_callee (f := 45) rfl ?_); refine zc 12 Tryz.func45 #[.agg #[.int .i64 a0_0, .slice A0_1 l0_1.length c0_1], .slice A1 l1.length c1] ?_; (with_reducible refine (spec_l3Good.calls k a0_0 _ _ l0_1 _ _ l1 false _ ?side1 ?side2 ?side3 ?side4 A3.out).mono ?_); (case side1 => exact zC (Kd.C_below HR0_1.out HB.out)); (case side2 => exact HC0_1.out); (case side3 => exact zC (Kd.C_below HR1.out HB.out)); (case side4 => exact HC1.out); rintro e w42 ⟨rfl, hb⟩; refine ⟨_, rfl, ?_⟩; replace BK833 := zM (blk_below (g := gb833) (o := .cells #[.int .i64 a0_0, .slice A0_1 l0_1.length c0_1] 30 (0, 0)) (zK BK833.out) hb); replace HB := zM (below_step zB hb); (try clear hb); (try clear hi)) | ((with_reducible refine gate_dst (N := 14) rfl ?_); refine Kd.R_lit (Kd.int .i64) _ 3 ?hg (N := 14) ?hd (xs := ([] : List Int)) (inner := []) (ok := fun _ => True) (okp := fun _ => True) ?hr ?hp (fun _ hk => hk) trivial (Below.refl _ _) (Nat.le_refl _) (by simp) ?_; (case hd => rfl); (case hg => rfl); (case hr => first | (go_simp; done) | (go_simp; rfl)); (case hp => exact (Reps.none _ _)); intro v836 w43 ho44 hb hg_ hnew_; clear hg_ hnew_; (first | rw [← Ny835.out] at ho44 | (simp only [Int.reduceToNat] at ho44; rw [← Ny835.out] at ho44)); have HO837 := zM (Kd.R_lower ho44 (below_size zB)); replace BK833 := zM (blk_below (g := gb833) (o := .cells #[.int .i64 a0_0, .slice A0_1 l0_1.length c0_1] 30 (0, 0)) (zK BK833.out) hb); replace HB := zM (below_step zB hb); clear hb ho44))
   go_ret2
   exact ⟨_, by first | rfl | (simp [errW_none, errW_some] <;> rfl) | (simp [*, errW_none, errW_some] <;> rfl), by (with_reducible repeat (first | apply Kd.R_alloc | apply Kd.R_drewN | apply Kd.R_drew)); exact HO837.out, zB⟩
def PredB {α : Type} (g : Nat) (lb : Array Value) (enc : α → Value) (p : α → Bool) (l : List α) (w : World) : Prop :=
 ∀ (W : World) (x : α), x ∈ l → Below w.heap.size w W → Calls Tryz.prog g (#[enc x] ++ lb) W fun e w' => e = .returned (.bool (p x)) ∧ Below W.heap.size W w'
set_option maxHeartbeats 2000000 in
theorem idxf_prs (g : Nat) (lb : Array Value) (eg : ∀ (args : Array Value) (w : World), (callFunc g args).run Tryz.prog w = .ok (.enter g args) w) (p : S69 → Bool) (A0 : Option Addr) (c0 : Nat) (l0 : List S69) (w : World) (hr0 : Kd.C k69 w A0 l0.length l0)
  (hp : PredB g lb (fun x : S69 => Value.agg #[.int .i64 x.f0, .int .i64 x.f1]) p l0 w) :
  Calls Tryz.prog 124 #[.slice A0 l0.length c0, .func (.func g) #[] lb] w fun e w' => (∃ r : Int, e = .returned (.int .i64 r) ∧ (0 ≤ r ↔ l0.any p = true)) ∧ Below w.heap.size w w' := by
 have HR0 := Aside0.mk hr0
 have HP := Aside0.mk hp
 have HL := Aside0.mk (hr0.2.1)
 clear hr0 hp
 go_enter Tryz.func124, Tryz.ntmps124
 go_wp2
 go_loopg [8, 5] (l0.length + 1) (fun kq v8 v5 w' => ∃ (m : Nat), v8 = .int .i64 m ∧ Aside0 (m ≤ l0.length) ∧ Aside0 (kq = l0.length - m + 1) ∧ Aside0 ((l0.take m).any p = false) ∧ Aside0 (Below w.heap.size w w'))
 case atStart => exact ⟨0, rfl, ⟨Nat.zero_le _⟩, ⟨by omega⟩, ⟨by simp⟩, ⟨Below.refl _ _⟩⟩
 case round =>
  obtain ⟨m, rfl, HM, HK1, HA, HB⟩ := hrel
  by_cases c1 : m < l0.length
  · have p1 : (0 : Int) ≤ (m : Int) := by omega
    have q1 : (m : Int) < (l0.length : Int) := by omega
    obtain ⟨ad, e1, hx0, hx1⟩ := at_T69 HR0.out (m : Int) p1 q1
    cases e1
    replace hx0 := (HB.out.cell (World.block_lt_of_cell? w _ hx0)).trans hx0
    replace hx1 := (HB.out.cell (World.block_lt_of_cell? w _ hx1)).trans hx1
    rw [Int.toNat_natCast] at hx0 hx1
    have HG := Aside0.mk (show l0[m] = rd_T69 l0 m by simp [rd_T69, List.getD_eq_getElem?_getD, List.getElem?_eq_getElem c1])
    have HT := Aside0.mk (show (l0.take (m + 1)).any p = p (rd_T69 l0 m) by rw [List.take_succ_eq_append_getElem c1, List.any_append, HA.out, HG.out]; simp)
    have HQ := Aside0.mk (show p (rd_T69 l0 m) = true → l0.any p = true from fun hq => List.any_eq_true.2 ⟨l0[m], List.getElem_mem c1, by rw [HG.out]; exact hq⟩)
    have c1b : decide ((m : Int) < (l0.length : Int)) = true := decide_eq_true q1
    have c1c : decide (m < l0.length) = true := decide_eq_true c1
    have hw1 : (m : Int) + 1 ≤ 9223372036854775807 := by have := HL.out; omega
    have hcall := HP.out _ (rd_T69 l0 m) (by rw [← HG.out]; exact List.getElem_mem c1) HB.out
    have HC := Aside0.mk hcall
    replace p1 := eq_true p1
    replace q1 := eq_true q1
    clear c1 hcall HG HA
    cases hq : p (rd_T69 l0 m) with
    | true =>
     have HQ2 := Aside0.mk (HQ.out hq)
     rw [hq] at HC
     clear hq HQ HT
     go_wp2_with (go_at_fn g; refine HC.out.mono ?_; rintro e w' ⟨rfl, hb⟩)
     go_ret
     exact ⟨⟨_, rfl, ⟨fun _ => HQ2.out, fun _ => by have := of_eq_true p1; first | exact this | (simpa using this) | omega⟩⟩, below_step HB.out hb⟩
    | false =>
     rw [hq] at HT HC
     clear hq HQ
     go_wp2_with (go_at_fn g; refine HC.out.mono ?_; rintro e w' ⟨rfl, hb⟩)
     go_roundg (l0.length - m)
     case measure => have := HK1.out; have := HM.out; omega
     case rel => exact ⟨m + 1, by first | rfl | (simp; done) | go_num, ⟨by have := of_eq_true q1; omega⟩, ⟨by have := of_eq_true q1; omega⟩, HT, ⟨below_step HB.out hb⟩⟩
  · have q1 : ¬ (m : Int) < (l0.length : Int) := by omega
    have c1b : decide ((m : Int) < (l0.length : Int)) = false := decide_eq_false q1
    have c1c : decide (m < l0.length) = false := decide_eq_false c1
    have H3 : Aside0 (l0.any p = false) := ⟨by
     have e_ := HA.out
     rw [List.take_of_length_le (show l0.length ≤ m by omega)] at e_
     exact e_⟩
    clear HA c1 q1
    go_wp2
    go_ret
    exact ⟨⟨-1, rfl, by rw [H3.out]; simp⟩, HB.out⟩
set_option maxHeartbeats 2000000 in
theorem cont_prs (g : Nat) (lb : Array Value) (eg : ∀ (args : Array Value) (w : World), (callFunc g args).run Tryz.prog w = .ok (.enter g args) w) (p : S69 → Bool) (A0 : Option Addr) (c0 : Nat) (l0 : List S69) (w : World) (hr0 : Kd.C k69 w A0 l0.length l0)
  (hp : PredB g lb (fun x : S69 => Value.agg #[.int .i64 x.f0, .int .i64 x.f1]) p l0 w) :
  Calls Tryz.prog 101 #[.slice A0 l0.length c0, .func (.func g) #[] lb] w fun e w' => e = .returned (.bool (l0.any p)) ∧ Below w.heap.size w w' := by
 have HR0 := Aside0.mk hr0
 have HP := Aside0.mk hp
 clear hr0 hp
 go_enter Tryz.func101, Tryz.ntmps101
 go_wp2_with (go_at_call 124; refine (idxf_prs g lb eg p A0 c0 l0 w HR0.out HP.out).mono ?_; rintro e w' ⟨⟨r, rfl, hr⟩, hb⟩; have HQ := Aside0.mk hr; have HB := Aside0.mk hb; clear hr hb)
 go_ret
 refine ⟨?_, HB.out⟩
 have := HQ.out
 cases ha : l0.any p <;> rw [ha] at this <;> simp at this <;> simp <;> omega
attribute [local go_sem] max2_int min2_int max_two min_two max_three min_three max_four min_four
set_option linter.unusedVariables false
set_option linter.unusedSimpArgs false
def impl_bag_has.f (a0 : Int) (a1 : Int) : Option (Bool) := if 0 ≤ a1 then (some ((Go.bits .and .u64 (shr .u64 a0 a1) 1) == 1)) else (none)
theorem impl_bag_has.calls (a0 : Int) (a1 : Int) (r : Bool) (w : World) (h : impl_bag_has.f a0 a1 = some r) :
 Calls Tryz.prog 103 #[.int .u64 a0, .int .i64 a1] w fun e w' => e = .returned (.bool r) ∧ Drawn0 w w' := by
 have H : (if 0 ≤ a1 then (some ((Go.bits .and .u64 (shr .u64 a0 a1) 1) == 1)) else (none)) = some r := h
 clear h
 by_cases c3 : 0 ≤ a1
 · rw [if_pos c3] at H
   have c3b0 := eq_true c3
   have c3b1 : decide (0 ≤ a1) = true := decide_eq_true c3
   clear c3
   obtain ⟨ji4, hji4⟩ : ∃ j_ : Int, (shr .u64 a0 a1) = j_ := ⟨_, rfl⟩
   replace H : (some ((Go.bits .and .u64 (ji4) 1) == 1)) = some r := by first | (rw [hji4] at H; exact H) | (simp only [hji4] at H ⊢; exact H)
   have hji4_ : (a0 / 2 ^ min a1.toNat 64) = ji4 := hji4
   have hji4z : a1 ≤ 64 → (a0 / 2 ^ a1.toNat) = ji4 := shr_small hji4
   obtain rfl := Option.some.inj H
   go_enter Tryz.func103, Tryz.ntmps103
   go_wp2
   go_ret
   exact ⟨by first | rfl | (simp; done) | (simp only [← hji4] <;> (first | rfl | simp)) | (simp [*]; done), by repeat (first | exact Drawn0.refl _ | apply Drawn0.step)⟩
 · rw [if_neg c3] at H
   simp at H
def bothB (a1 : Int) (s : S69) : Bool := (impl_bag_has.f a1 s.f0).getD false && (impl_bag_has.f a1 s.f1).getD false
def impl_Graph_isFree.f (a0_0 : Int) (l0_1 : List S69) (a1 : Int) : Option Bool :=
 if l0_1.all (fun s => (impl_bag_has.f a1 s.f0).isSome && (impl_bag_has.f a1 s.f1).isSome) then some (!(l0_1.any (bothB a1))) else none
set_option maxHeartbeats 1000000 in
theorem isFree1_any (gb : Nat) (a1 : Int) (s : S69) (x y : Bool) (hx : impl_bag_has.f a1 s.f0 = some x) (hy : impl_bag_has.f a1 s.f1 = some y) (W : World) (hl : W.cell? ⟨gb, 0, none⟩ = some (.int .u64 a1)) :
  Calls Tryz.prog 102 (#[.agg #[.int .i64 s.f0, .int .i64 s.f1]] ++ #[.pointer (some ⟨gb, 0, none⟩)]) W fun e w' => e = .returned (.bool (x && y)) ∧ Below W.heap.size W w' := by
 have HX := Aside0.mk hx
 have HY := Aside0.mk hy
 clear hx hy
 show Calls Tryz.prog 102 #[.agg #[.int .i64 s.f0, .int .i64 s.f1], .pointer (some ⟨gb, 0, none⟩)] W _
 have hl2 := fun o : Obj => pw_cell_below (below_alloc (Below.refl W.heap.size W) o) hl
 go_enter Tryz.func102, Tryz.ntmps102
 go_wp2_with fail
 go_at_call 103
 refine (impl_bag_has.calls _ _ x _ HX.out).mono ?_
 rintro e w' ⟨rfl, ⟨n1, rfl⟩⟩
 cases x with
 | true =>
  go_wp2_with fail
  go_at_call 103
  refine (impl_bag_has.calls _ _ y _ HY.out).mono ?_
  rintro e w' ⟨rfl, ⟨n2, rfl⟩⟩
  go_wp2
  go_ret
  exact ⟨by first | rfl | (simp; done), by repeat (first | exact Below.refl _ _ | apply below_alloc | apply pw_below_drewN | apply below_drew1)⟩
 | false =>
  go_wp2
  go_ret
  exact ⟨by first | rfl | (simp; done), by repeat (first | exact Below.refl _ _ | apply below_alloc | apply pw_below_drewN | apply below_drew1)⟩
set_option maxHeartbeats 1000000 in
theorem impl_Graph_isFree.calls (a0_0 : Int) (A0_1 : Option Addr) (c0_1 : Nat) (l0_1 : List (S69)) (a1 : Int) (r : Bool) (w : World) (hr0_1 : Kd.C k69 w A0_1 l0_1.length l0_1) (hc0_1 : l0_1.length ≤ c0_1) (h : impl_Graph_isFree.f a0_0 l0_1 a1 = some r) :
  Calls Tryz.prog 85 #[.agg #[.int .i64 a0_0, .slice A0_1 l0_1.length c0_1], .int .u64 a1] w fun e w' => e = .returned (.bool r) ∧ Below w.heap.size w w' := by
 unfold impl_Graph_isFree.f at h
 by_cases hall : l0_1.all (fun s => (impl_bag_has.f a1 s.f0).isSome && (impl_bag_has.f a1 s.f1).isSome) = true
 case neg => rw [if_neg hall] at h; cases h
 rw [if_pos hall] at h
 obtain rfl := Option.some.inj h
 have HP := fun (W : World) (gb : Nat) (hl : W.cell? ⟨gb, 0, none⟩ = some (.int .u64 a1)) =>
  Aside0.mk (show PredB 102 #[.pointer (some ⟨gb, 0, none⟩)] (fun x : S69 => Value.agg #[.int .i64 x.f0, .int .i64 x.f1]) (bothB a1) l0_1 W from fun W' x hx hb => by
   have hs := List.all_eq_true.1 hall x hx
   rw [Bool.and_eq_true] at hs
   obtain ⟨b1, h1⟩ := Option.isSome_iff_exists.1 hs.1
   obtain ⟨b2, h2⟩ := Option.isSome_iff_exists.1 hs.2
   have := isFree1_any gb a1 x b1 b2 h1 h2 W' (pw_cell_below hb hl)
   unfold bothB
   rw [h1, h2]
   exact this)
 have HR0 := Aside0.mk hr0_1
 clear hr0_1 hall h
 generalize hg : l0_1.any (bothB a1) = b
 have HG := Aside0.mk hg
 clear hg
 have HB1 := Aside0.mk (below_alloc (below_alloc (Below.refl w.heap.size w) (.cells #[.int .i64 a0_0, .slice A0_1 l0_1.length c0_1] 30)) (.cells #[.int .u64 a1] 84))
 go_enter Tryz.func85, Tryz.ntmps85
 go_wp2_with fail
 go_at_call 101
 refine (cont_prs _ _ (enters_of Tryz.func102 (by kernel_rfl) rfl) _ A0_1 c0_1 l0_1 _ (Kd.C_below HR0.out HB1.out) (HP _ _ (by go_simp)).out).mono ?_
 rintro e w' ⟨rfl, hb⟩
 rw [HG.out]
 have HB := Aside0.mk (below_step HB1.out hb)
 clear hb
 go_wp2
 go_ret
 exact ⟨by first | rfl | (simp; done), HB.out⟩
end Go.Proofs.YtadjbmcfgjmhkaaGreat.P
