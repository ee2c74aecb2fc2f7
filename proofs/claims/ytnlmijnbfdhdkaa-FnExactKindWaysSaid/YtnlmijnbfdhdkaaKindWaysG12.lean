-- Written by a program of this session (the kit's print, turned: wip/print/patch.py) out of the translation. Not trusted: Lean checks it.
import Derived.Test.YtnlmijnbfdhdkaaKindWaysG3
import Derived.Test.YtnlmijnbfdhdkaaKindWaysG4
import Derived.Test.YtnlmijnbfdhdkaaKindWaysG6
import Derived.Test.YtnlmijnbfdhdkaaKindWaysG8
import Derived.Test.YtnlmijnbfdhdkaaKindWaysG9
import Derived.Test.YtnlmijnbfdhdkaaKindWaysG11
namespace Go.Proofs.Ytnlmijnbfdhdkaa.P
open Go.RowKit Go.Proofs.YtnlmijnbfdhdkaaW.PrintWords Go.Proofs.YtnlmijnbfdhdkaaW.PrintLast Go.Proofs.YtnlmijnbfdhdkaaW.PrintMore
attribute [local go_sem] max2_int min2_int max_two min_two max_three min_three max_four min_four   -- for this text's walks alone
set_option linter.unusedVariables false
set_option linter.unusedSimpArgs false

/-! ### spec_KindWays: function 22 -/
def spec_KindWays.l0 : Nat → Int → List Int → List Int → Int → Int → List (S88) → Option (List Int × Bool)
 | 0, _, _, _, _, _, _ => none
 | k + 1, x1, x2, x8, x9, x346000, x346001 => if x9 < x346000 then ((spec_l4Turned.f k x2 x9).bind fun t350 => ((spec_l4Has.f k x346000 x346001 x1 t350).bind fun t353 => (if t353 = true then (if x8.length < 17592186044416 then (spec_KindWays.l0 k x1 x2 (x8 ++ [x9]) (wrap64 (x9 + 1)) x346000 x346001) else (none)) else (spec_KindWays.l0 k x1 x2 x8 (wrap64 (x9 + 1)) x346000 x346001)))) else (some (x8, true))
def spec_KindWays.f (k : Nat) (a0_0 : Int) (l0_1 : List (S88)) (a1 : Int) (l2 : List Int) : Option (List Int × Bool) := (some (([] : List Int) : List Int)).bind fun y346 => ((spec_l4One.f k a0_0 l0_1 a1 l2).bind fun t349 => (if t349 = true then (spec_KindWays.l0 k a1 l2 y346 0 a0_0 l0_1) else (some (y346, false))))
set_option maxHeartbeats 8000000 in
set_option maxRecDepth 100000 in
theorem spec_KindWays.calls (k : Nat) (a0_0 : Int) (A0_1 : Option Addr) (c0_1 : Nat) (l0_1 : List (S88)) (a1 : Int) (A2 : Option Addr) (c2 : Nat) (l2 : List Int) (r1 : List Int) (r2 : Bool) (w : World) (hr0_1 : Kd.C k88 w A0_1 l0_1.length l0_1) (hc0_1 : l0_1.length ≤ c0_1) (hr2 : Kd.C (Kd.int .i64) w A2 l2.length l2) (hc2 : l2.length ≤ c2) (h : spec_KindWays.f k a0_0 l0_1 a1 l2 = some (r1, r2)) :
 Calls Try.prog 22 #[.agg #[.int .i64 a0_0, .slice A0_1 l0_1.length c0_1], .int .i64 a1, .slice A2 l2.length c2] w fun e w' => ∃ v0_ : Value, e = .returned (.tuple #[v0_, .bool r2]) ∧ Kd.R (Kd.int .i64) 3 w' w.heap.size (fun _ => True) v0_ r1 ∧ Below w.heap.size w w' := by
 have hu29 := Try.underlying29
 have HR0_1 := Aside0.mk hr0_1
 have HC0_1 := Aside0.mk hc0_1
 clear hr0_1 hc0_1
 have HR2 := Aside0.mk hr2
 have HC2 := Aside0.mk hc2
 clear hr2 hc2
 have HB := zM (Below.refl w.heap.size w)
 have H : ((some (([] : List Int) : List Int)).bind fun y346 => ((spec_l4One.f k a0_0 l0_1 a1 l2).bind fun t349 => (if t349 = true then (spec_KindWays.l0 k a1 l2 y346 0 a0_0 l0_1) else (some (y346, false))))) = some (r1, r2) := h
 clear h
 obtain ⟨y346, hy346⟩ : ∃ y_ : List Int, y_ = (([] : List Int)) := ⟨_, rfl⟩
 replace H : ((spec_l4One.f k a0_0 l0_1 a1 l2).bind fun t349 => (if t349 = true then (spec_KindWays.l0 k a1 l2 y346 0 a0_0 l0_1) else (some (y346, false)))) = some (r1, r2) := by first | (rw [hy346]; with_reducible exact H) | (have H2_ := (Option.bind_some _ _).symm.trans H; rw [hy346]; with_reducible exact H2_) | (have H2_ := (Option.bind_some _ _).symm.trans H; with_reducible exact H2_) | with_reducible exact H | (rw [hy346]; exact H) | exact H
 have Ny346 := Aside0.mk hy346
 clear hy346
 replace H := Option.bind_eq_some_iff.mp H
 obtain ⟨t349, A40, H⟩ := H
 replace H : (if t349 = true then (spec_KindWays.l0 k a1 l2 y346 0 a0_0 l0_1) else (some (y346, false))) = some (r1, r2) := H
 have A4 := Aside0.mk A40
 clear A40
 by_cases c5 : t349 = true
 · subst c5
   have H1 : (spec_KindWays.l0 k a1 l2 y346 0 a0_0 l0_1) = some (r1, r2) := by rw [if_pos rfl] at H; exact H
   clear H
   have H := H1
   clear H1
   have H' := Aside0.mk H
   clear H
   go_enter Try.func22, Try.ntmps22
   go_wp2_with (first | ((with_reducible refine gate_dst (N := 3) rfl ?_); refine zb (w := w) 3 #[.int .i64 a0_0, .slice A0_1 l0_1.length c0_1] 29 zB ?_; clear HB; intro gb345 w6 HB BK345 GW345; have GE345 := GW345) | ((with_reducible refine gate_dst (N := 10) rfl ?_); refine Kd.R_lit (Kd.int .i64) _ 3 ?hg (N := 10) ?hd (xs := ([] : List Int)) (inner := []) (ok := fun _ => True) (okp := fun _ => True) ?hr ?hp (fun _ hk => hk) trivial (Below.refl _ _) (Nat.le_refl _) (by simp) ?_; (case hd => rfl); (case hg => rfl); (case hr => first | (go_simp; done) | (go_simp; rfl)); (case hp => exact (Reps.none _ _)); intro v347 w7 ho8 hb hg_ hnew_; clear hg_ hnew_; (first | rw [← Ny346.out] at ho8 | (simp only [Int.reduceToNat] at ho8; rw [← Ny346.out] at ho8)); have HO348 := zM (Kd.R_lower ho8 (below_size zB)); replace BK345 := zM (blk_below (g := gb345) (o := .cells #[.int .i64 a0_0, .slice A0_1 l0_1.length c0_1] 29 (0, 0)) (zK BK345.out) hb); replace HB := zM (below_step zB hb); clear hb ho8; have hcz9_0 := zy BK345 0; have hcz9_1 := zy BK345 1; have hfz9_0 := blk_frozen BK345.out 0; have hfz9_1 := blk_frozen BK345.out 1) | ((with_reducible refine gate_callee (f := 56) rfl ?_); refine zc 14 Try.func56 #[.agg #[.int .i64 a0_0, .slice A0_1 l0_1.length c0_1], .int .i64 a1, .slice A2 l2.length c2] ?_; (with_reducible refine (spec_l4One.calls k a0_0 _ _ l0_1 a1 _ _ l2 true _ ?side1 ?side2 ?side3 ?side4 A4.out).mono ?_); (case side1 => exact zC (Kd.C_below HR0_1.out HB.out)); (case side2 => exact HC0_1.out); (case side3 => exact zC (Kd.C_below HR2.out HB.out)); (case side4 => exact HC2.out); rintro e w10 ⟨rfl, hb⟩; refine ⟨_, rfl, ?_⟩; replace HO348 := zM (Kd.R_below (zR HO348.out) hb); replace BK345 := zM (blk_below (g := gb345) (o := .cells #[.int .i64 a0_0, .slice A0_1 l0_1.length c0_1] 29 (0, 0)) (zK BK345.out) hb); replace HB := zM (below_step zB hb); (try clear hb); (try clear hb2); (try clear hk); (try clear hi)))
   go_loopg [8, 9] k (fun kq v8 v9 w' => ∃ (x8_1 : List Int) (x9_1 : Int), v9 = .int .i64 x9_1 ∧ Aside0 (spec_KindWays.l0 kq a1 l2 x8_1 x9_1 a0_0 l0_1 = some (r1, r2)) ∧ Aside0 (kq ≤ k) ∧ Aside0 (Kd.R (Kd.int .i64) 3 w' w.heap.size (fun _ => True) v8 x8_1) ∧ Aside0 (w'.heap[gb345]? = some (.cells #[.int .i64 a0_0, (.slice A0_1 l0_1.length c0_1)] 29 (0, 0))) ∧ Aside0 (Below w.heap.size w w'))
   case atStart => exact ⟨(y346), (0), (by first | rfl | (simp; done) | (simp [*]; done)), H', ⟨Nat.le_refl _⟩, ⟨zR HO348.out⟩, ⟨zK BK345.out⟩, ⟨zB⟩⟩
   case round =>
    clear H'
    try clear c2
    try clear p2
    try clear c5
    try clear hcz9_0
    try clear hcz9_1
    try clear hfz9_0
    try clear hfz9_1
    obtain ⟨x8_1, x9_1, rfl, HA, HK1, HO_8, BK345, HB⟩ := hrel
    cases gk with
    | zero => exact absurd HA.out (by simp [spec_KindWays.l0])
    | succ k1 =>
     have H := HA.out
     clear HA
     simp only [spec_KindWays.l0] at H
     by_cases c11 : x9_1 < a0_0
     · rw [if_pos c11] at H
       have c11b0 := decide_eq_true c11
       clear c11
       replace H := Option.bind_eq_some_iff.mp H
       obtain ⟨t350, A120, H⟩ := H
       replace H : ((spec_l4Has.f k1 a0_0 l0_1 a1 t350).bind fun t353 => (if t353 = true then (if x8_1.length < 17592186044416 then (spec_KindWays.l0 k1 a1 l2 (x8_1 ++ [x9_1]) (wrap64 (x9_1 + 1)) a0_0 l0_1) else (none)) else (spec_KindWays.l0 k1 a1 l2 x8_1 (wrap64 (x9_1 + 1)) a0_0 l0_1))) = some (r1, r2) := H
       have A12 := Aside0.mk A120
       clear A120
       replace H := Option.bind_eq_some_iff.mp H
       obtain ⟨t353, A130, H⟩ := H
       replace H : (if t353 = true then (if x8_1.length < 17592186044416 then (spec_KindWays.l0 k1 a1 l2 (x8_1 ++ [x9_1]) (wrap64 (x9_1 + 1)) a0_0 l0_1) else (none)) else (spec_KindWays.l0 k1 a1 l2 x8_1 (wrap64 (x9_1 + 1)) a0_0 l0_1)) = some (r1, r2) := H
       have A13 := Aside0.mk A130
       clear A130
       by_cases c14 : t353 = true
       · subst c14
         have H1 : (if x8_1.length < 17592186044416 then (spec_KindWays.l0 k1 a1 l2 (x8_1 ++ [x9_1]) (wrap64 (x9_1 + 1)) a0_0 l0_1) else (none)) = some (r1, r2) := by rw [if_pos rfl] at H; exact H
         clear H
         have H := H1
         clear H1
         by_cases c15 : x8_1.length < 17592186044416
         · rw [if_pos c15] at H
           have LMc15 := Aside0.mk c15
           clear c15
           obtain ⟨y354, hy354⟩ : ∃ y_ : List Int, y_ = (x8_1 ++ [x9_1]) := ⟨_, rfl⟩
           replace H : (spec_KindWays.l0 k1 a1 l2 y354 (wrap64 (x9_1 + 1)) a0_0 l0_1) = some (r1, r2) := by first | (rw [hy354]; with_reducible exact H) | (have H2_ := (Option.bind_some _ _).symm.trans H; rw [hy354]; with_reducible exact H2_) | (have H2_ := (Option.bind_some _ _).symm.trans H; with_reducible exact H2_) | with_reducible exact H | (rw [hy354]; exact H) | exact H
           have Ny354 := Aside0.mk hy354
           clear hy354
           have H' := Aside0.mk H
           clear H
           have hcz16_0 := zy BK345 0
           have hcz16_1 := zy BK345 1
           have hfz16_0 := blk_frozen BK345.out 0
           have hfz16_1 := blk_frozen BK345.out 1
           try go_wp2
           replace HO_8 := zM (Kd.R_drew HO_8.out)
           replace BK345 := zM (blk_drew BK345.out)
           replace HB := zM (below_drew1 HB.out)
           refine zs (n := 6) (fun w' => w'.cell? ⟨gb345, 0, none⟩ = some (.int .i64 a0_0) ∧ w'.cell? ⟨gb345, 1, none⟩ = some (.slice A0_1 l0_1.length c0_1)) ⟨(blk_cell BK345.out 0).trans rfl, (blk_cell BK345.out 1).trans rfl⟩ (fun hHeld => ?_)
           generalize wr.drew = w17 at HO_8 BK345 HB hHeld ⊢
           refine zq 1 24 ?_
           refine zq 2 25 ?_
           refine zq 3 26 ?_
           refine zl 0 23 hHeld ?_ (hy := by rintro w' ⟨s0, s1⟩; go_simp; with_reducible rfl)
           refine zh 4 27 Try.func64 #[.slice A2 l2.length c2, .int .i64 x9_1] (fun K hK => ?_)
           with_reducible refine (spec_l4Turned.calls k1 _ _ l2 x9_1 t350 _ ?side1 ?side2 A12.out).mono ?_
           (case side1 => exact zC (Kd.C_below HR2.out HB.out))
           (case side2 => exact HC2.out)
           rintro e w18 ⟨v351, rfl, ho0, hb⟩
           refine ⟨_, rfl, ?_⟩
           have HO352 := zM (Kd.R_lower (Kd.R_new' ho0 (Kd.R_lt (zR HO_8.out))) (below_size zB))
           replace HO_8 := zM (Kd.R_elder' (zR HO_8.out) (Kd.R_base ho0) hb)
           replace BK345 := zM (blk_below (g := gb345) (o := .cells #[.int .i64 a0_0, .slice A0_1 l0_1.length c0_1] 29 (0, 0)) (zK BK345.out) hb)
           replace HB := zM (below_step zB hb)
           (try clear hb)
           (try clear hb2)
           (try clear hk)
           (try clear hi)
           (try clear ho0)
           obtain ⟨Ao19, co19, eo19⟩ := Kd.R_slice HO352.out
           (first | subst eo19 | (injection eo19 with f1_ f2_ f3_; have f4_ := f1_.symm; have f5_ := f3_.symm; clear f1_ f2_ f3_; subst f4_; subst f5_))
           refine hK.out _ _ ⟨(blk_cell BK345.out 0).trans rfl, (blk_cell BK345.out 1).trans rfl⟩ (fun hHeld => ?_)
           clear hK K
           refine zn 27 ?_
           refine zh 5 28 Try.func63 #[.agg #[.int .i64 a0_0, .slice A0_1 l0_1.length c0_1], .int .i64 a1, .slice Ao19 t350.length co19] (fun K hK => ?_)
           with_reducible refine (spec_l4Has.calls k1 a0_0 _ _ l0_1 a1 _ _ t350 true _ ?side1 ?side2 ?side3 ?side4 A13.out).mono ?_
           (case side1 => exact zC (Kd.C_below HR0_1.out HB.out))
           (case side2 => exact HC0_1.out)
           (case side3 => exact zC (Kd.R_reads' HO352.out).2.2)
           (case side4 => exact (Kd.R_reads' HO352.out).2.1)
           rintro e w20 ⟨rfl, hb⟩
           refine ⟨_, rfl, ?_⟩
           replace HO_8 := zM (Kd.R_below (zR HO_8.out) hb)
           replace HO352 := zM (Kd.R_below (zR HO352.out) hb)
           replace BK345 := zM (blk_below (g := gb345) (o := .cells #[.int .i64 a0_0, .slice A0_1 l0_1.length c0_1] 29 (0, 0)) (zK BK345.out) hb)
           replace HB := zM (below_step zB hb)
           (try clear hb)
           (try clear hb2)
           (try clear hk)
           (try clear hi)
           refine hK.out _ _ ⟨(blk_cell BK345.out 0).trans rfl, (blk_cell BK345.out 1).trans rfl⟩ (fun hHeld => ?_)
           clear hK K
           refine zn 28 ?_
           refine zx ?_
           try go_wp2_with (first | ((with_reducible refine gate_builtin (b := .append) (xs := #[.tmp 29, .tmp 31]) rfl ?_); at_builtin; refine Kd.R_append (Kd.int .i64) (w0 := w) w.heap.size rfl (.tmp 29) (.tmp 31) 25 3 (.int .i64 0) 8 rfl Try.underlying25 info3 rfl (by decide) (by omega) u8 x8_1 x9_1 [.int .i64 x9_1] (fun k_ => some k_ ≠ (.slice Ao19 t350.length co19 : Value).ownBlock) (fun _ => False) rfl rfl ?aP (fun _ hk => hk.elim) ?aF ?aO ?aB ?aS ?aL ?_; (case aP => exact rfl); (case aB => exact zB); (case aF => exact (fun k_ hk => Kd.fresh' (Kd.R_lt (zR HO352.out)) k_ hk)); (case aO => exact (by (with_reducible repeat (first | apply Kd.R_alloc | apply Kd.R_drewN | apply Kd.R_drew)); exact Kd.R_mono HO_8.out (fun _ hk => hk.2))); (case aS => exact (below_size zB)); (case aL => have := LMc15.out; omega); intro v355 w21 ho hb hg hat; rw [← Ny354.out] at ho; replace BK345 := zM (blk_grown (g := gb345) (o := .cells #[.int .i64 a0_0, .slice A0_1 l0_1.length c0_1] 29 (0, 0)) (zK BK345.out) hg (Kd.R_ne HO_8.out BK345.out (by decide))); replace HO352 := zM (Kd.R_after (ok := (fun _ => True)) (zR HO352.out) hg hat); replace HB := zM (hb); have HO356 := zM (ho); clear HO_8; clear ho hb hg hat))
           go_roundg k1
           case measure => have := HK1.out; omega
           case rel => exact ⟨(y354), (wrap64 (x9_1 + 1)), (by first | rfl | (simp; done) | (simp [*]; done)), H', ⟨by have := HK1.out; omega⟩, ⟨by (with_reducible repeat (first | apply Kd.R_alloc | apply Kd.R_drewN | apply Kd.R_drew)); exact Kd.R_mono HO356.out (fun _ hk => trivial)⟩, ⟨zK BK345.out⟩, ⟨zB⟩⟩
         · rw [if_neg c15] at H
           exact absurd H (by simp)
       · replace c14 := Bool.eq_false_iff.mpr c14
         subst c14
         have H1 : (spec_KindWays.l0 k1 a1 l2 x8_1 (wrap64 (x9_1 + 1)) a0_0 l0_1) = some (r1, r2) := by rw [if_neg (show ¬ (false = true) by decide)] at H; exact H
         clear H
         have H := H1
         clear H1
         have H' := Aside0.mk H
         clear H
         have hcz22_0 := zy BK345 0
         have hcz22_1 := zy BK345 1
         have hfz22_0 := blk_frozen BK345.out 0
         have hfz22_1 := blk_frozen BK345.out 1
         try go_wp2
         replace HO_8 := zM (Kd.R_drew HO_8.out)
         replace BK345 := zM (blk_drew BK345.out)
         replace HB := zM (below_drew1 HB.out)
         refine zs (n := 6) (fun w' => w'.cell? ⟨gb345, 0, none⟩ = some (.int .i64 a0_0) ∧ w'.cell? ⟨gb345, 1, none⟩ = some (.slice A0_1 l0_1.length c0_1)) ⟨(blk_cell BK345.out 0).trans rfl, (blk_cell BK345.out 1).trans rfl⟩ (fun hHeld => ?_)
         generalize wr.drew = w23 at HO_8 BK345 HB hHeld ⊢
         refine zq 1 24 ?_
         refine zq 2 25 ?_
         refine zq 3 26 ?_
         refine zl 0 23 hHeld ?_ (hy := by rintro w' ⟨s0, s1⟩; go_simp; with_reducible rfl)
         refine zh 4 27 Try.func64 #[.slice A2 l2.length c2, .int .i64 x9_1] (fun K hK => ?_)
         with_reducible refine (spec_l4Turned.calls k1 _ _ l2 x9_1 t350 _ ?side1 ?side2 A12.out).mono ?_
         (case side1 => exact zC (Kd.C_below HR2.out HB.out))
         (case side2 => exact HC2.out)
         rintro e w24 ⟨v351, rfl, ho0, hb⟩
         refine ⟨_, rfl, ?_⟩
         have HO352 := zM (Kd.R_lower (Kd.R_new' ho0 (Kd.R_lt (zR HO_8.out))) (below_size zB))
         replace HO_8 := zM (Kd.R_elder' (zR HO_8.out) (Kd.R_base ho0) hb)
         replace BK345 := zM (blk_below (g := gb345) (o := .cells #[.int .i64 a0_0, .slice A0_1 l0_1.length c0_1] 29 (0, 0)) (zK BK345.out) hb)
         replace HB := zM (below_step zB hb)
         (try clear hb)
         (try clear hb2)
         (try clear hk)
         (try clear hi)
         (try clear ho0)
         obtain ⟨Ao25, co25, eo25⟩ := Kd.R_slice HO352.out
         (first | subst eo25 | (injection eo25 with f1_ f2_ f3_; have f4_ := f1_.symm; have f5_ := f3_.symm; clear f1_ f2_ f3_; subst f4_; subst f5_))
         refine hK.out _ _ ⟨(blk_cell BK345.out 0).trans rfl, (blk_cell BK345.out 1).trans rfl⟩ (fun hHeld => ?_)
         clear hK K
         refine zn 27 ?_
         refine zh 5 28 Try.func63 #[.agg #[.int .i64 a0_0, .slice A0_1 l0_1.length c0_1], .int .i64 a1, .slice Ao25 t350.length co25] (fun K hK => ?_)
         with_reducible refine (spec_l4Has.calls k1 a0_0 _ _ l0_1 a1 _ _ t350 false _ ?side1 ?side2 ?side3 ?side4 A13.out).mono ?_
         (case side1 => exact zC (Kd.C_below HR0_1.out HB.out))
         (case side2 => exact HC0_1.out)
         (case side3 => exact zC (Kd.R_reads' HO352.out).2.2)
         (case side4 => exact (Kd.R_reads' HO352.out).2.1)
         rintro e w26 ⟨rfl, hb⟩
         refine ⟨_, rfl, ?_⟩
         replace HO_8 := zM (Kd.R_below (zR HO_8.out) hb)
         replace HO352 := zM (Kd.R_below (zR HO352.out) hb)
         replace BK345 := zM (blk_below (g := gb345) (o := .cells #[.int .i64 a0_0, .slice A0_1 l0_1.length c0_1] 29 (0, 0)) (zK BK345.out) hb)
         replace HB := zM (below_step zB hb)
         (try clear hb)
         (try clear hb2)
         (try clear hk)
         (try clear hi)
         refine hK.out _ _ ⟨(blk_cell BK345.out 0).trans rfl, (blk_cell BK345.out 1).trans rfl⟩ (fun hHeld => ?_)
         clear hK K
         refine zn 28 ?_
         refine zx ?_
         try go_wp2
         go_roundg k1
         case measure => have := HK1.out; omega
         case rel => exact ⟨(x8_1), (wrap64 (x9_1 + 1)), (by first | rfl | (simp; done) | (simp [*]; done)), H', ⟨by have := HK1.out; omega⟩, ⟨by (with_reducible repeat (first | apply Kd.R_alloc | apply Kd.R_drewN | apply Kd.R_drew)); exact Kd.R_mono HO_8.out (fun _ hk => trivial)⟩, ⟨zK BK345.out⟩, ⟨zB⟩⟩
     · rw [if_neg c11] at H
       have c11b0 : decide (x9_1 < a0_0) = false := decide_eq_false c11
       clear c11
       simp only [Option.some.injEq, Prod.mk.injEq] at H
       obtain ⟨rfl, rfl⟩ := H
       have hcz27_0 := zy BK345 0
       have hcz27_1 := zy BK345 1
       have hfz27_0 := blk_frozen BK345.out 0
       have hfz27_1 := blk_frozen BK345.out 1
       go_wp2
       go_ret2
       exact ⟨_, by first | rfl | (simp [errW_none, errW_some] <;> rfl) | (simp [*, errW_none, errW_some] <;> rfl), by (with_reducible repeat (first | apply Kd.R_alloc | apply Kd.R_drewN | apply Kd.R_drew)); exact HO_8.out, zB⟩
 · replace c5 := Bool.eq_false_iff.mpr c5
   subst c5
   have H1 : (some (y346, false)) = some (r1, r2) := by rw [if_neg (show ¬ (false = true) by decide)] at H; exact H
   clear H
   have H := H1
   clear H1
   simp only [Option.some.injEq, Prod.mk.injEq] at H
   obtain ⟨rfl, rfl⟩ := H
   go_enter Try.func22, Try.ntmps22
   go_wp2_with (first | ((with_reducible refine gate_dst (N := 3) rfl ?_); refine zb (w := w) 3 #[.int .i64 a0_0, .slice A0_1 l0_1.length c0_1] 29 zB ?_; clear HB; intro gb345 w28 HB BK345 GW345; have GE345 := GW345) | ((with_reducible refine gate_dst (N := 10) rfl ?_); refine Kd.R_lit (Kd.int .i64) _ 3 ?hg (N := 10) ?hd (xs := ([] : List Int)) (inner := []) (ok := fun _ => True) (okp := fun _ => True) ?hr ?hp (fun _ hk => hk) trivial (Below.refl _ _) (Nat.le_refl _) (by simp) ?_; (case hd => rfl); (case hg => rfl); (case hr => first | (go_simp; done) | (go_simp; rfl)); (case hp => exact (Reps.none _ _)); intro v347 w29 ho30 hb hg_ hnew_; clear hg_ hnew_; (first | rw [← Ny346.out] at ho30 | (simp only [Int.reduceToNat] at ho30; rw [← Ny346.out] at ho30)); have HO348 := zM (Kd.R_lower ho30 (below_size zB)); replace BK345 := zM (blk_below (g := gb345) (o := .cells #[.int .i64 a0_0, .slice A0_1 l0_1.length c0_1] 29 (0, 0)) (zK BK345.out) hb); replace HB := zM (below_step zB hb); clear hb ho30; have hcz31_0 := zy BK345 0; have hcz31_1 := zy BK345 1; have hfz31_0 := blk_frozen BK345.out 0; have hfz31_1 := blk_frozen BK345.out 1) | ((with_reducible refine gate_callee (f := 56) rfl ?_); refine zc 14 Try.func56 #[.agg #[.int .i64 a0_0, .slice A0_1 l0_1.length c0_1], .int .i64 a1, .slice A2 l2.length c2] ?_; (with_reducible refine (spec_l4One.calls k a0_0 _ _ l0_1 a1 _ _ l2 false _ ?side1 ?side2 ?side3 ?side4 A4.out).mono ?_); (case side1 => exact zC (Kd.C_below HR0_1.out HB.out)); (case side2 => exact HC0_1.out); (case side3 => exact zC (Kd.C_below HR2.out HB.out)); (case side4 => exact HC2.out); rintro e w32 ⟨rfl, hb⟩; refine ⟨_, rfl, ?_⟩; replace HO348 := zM (Kd.R_below (zR HO348.out) hb); replace BK345 := zM (blk_below (g := gb345) (o := .cells #[.int .i64 a0_0, .slice A0_1 l0_1.length c0_1] 29 (0, 0)) (zK BK345.out) hb); replace HB := zM (below_step zB hb); (try clear hb); (try clear hb2); (try clear hk); (try clear hi)))
   go_ret2
   exact ⟨_, by first | rfl | (simp [errW_none, errW_some] <;> rfl) | (simp [*, errW_none, errW_some] <;> rfl), by (with_reducible repeat (first | apply Kd.R_alloc | apply Kd.R_drewN | apply Kd.R_drew)); exact HO348.out, zB⟩

/-! ### impl_KindWays: function 23 -/
def impl_KindWays.l0 : Nat → Int → List Int → List Int → Int → Int → Int → List (S88) → Option (List Int × Bool)
 | 0, _, _, _, _, _, _, _ => none
 | k + 1, x1, x2, x8, x17, x18, x358000, x358001 => if x18 < x17 then ((impl_bagOf.f k x2).bind fun t362 => (if 0 ≤ x18 then ((impl_Graph_hasKind.f k x358000 x358001 x1 (Go.bits .xor .u64 t362 (shl .u64 1 x18))).bind fun t363 => (if t363 = true then (if x8.length < 17592186044416 then (impl_KindWays.l0 k x1 x2 (x8 ++ [x18]) x17 (wrap64 (x18 + 1)) x358000 x358001) else (none)) else (impl_KindWays.l0 k x1 x2 x8 x17 (wrap64 (x18 + 1)) x358000 x358001))) else (none))) else (some (x8, true))
def impl_KindWays.f (k : Nat) (a0_0 : Int) (l0_1 : List (S88)) (a1 : Int) (l2 : List Int) : Option (List Int × Bool) := (impl_isOfKind.f k a0_0 l0_1 a1 l2).bind fun t358 => (if t358 = true then (impl_KindWays.l0 k a1 l2 (([] : List Int)) a0_0 0 a0_0 l0_1) else (some (([] : List Int), false)))
def impl_KindWays.T7 : Bool × List (List Nat × List Nat) := (true, [([], []), ([], []), ([], []), ([2], [2]), ([], []), ([4], [4]), ([3, 5], [3, 5]), ([0, 1, 6, 3], [0, 1, 6])])
def impl_KindWays.B7 : List Nat := [0, 0, 0, 4, 0, 16, 60, 127]
theorem impl_KindWays.tab7 : rtab .any (opsOf Try.f23 7) = impl_KindWays.T7 := by kernel_rfl
theorem impl_KindWays.bits7 : waitsOk impl_KindWays.T7.2 impl_KindWays.B7 = true := by kernel_rfl
set_option maxHeartbeats 8000000 in
set_option maxRecDepth 100000 in
theorem impl_KindWays.calls (k : Nat) (a0_0 : Int) (A0_1 : Option Addr) (c0_1 : Nat) (l0_1 : List (S88)) (a1 : Int) (A2 : Option Addr) (c2 : Nat) (l2 : List Int) (r1 : List Int) (r2 : Bool) (w : World) (hr0_1 : Kd.C k88 w A0_1 l0_1.length l0_1) (hc0_1 : l0_1.length ≤ c0_1) (hr2 : Kd.C (Kd.int .i64) w A2 l2.length l2) (hc2 : l2.length ≤ c2) (h : impl_KindWays.f k a0_0 l0_1 a1 l2 = some (r1, r2)) :
 Calls Try.prog 23 #[.agg #[.int .i64 a0_0, .slice A0_1 l0_1.length c0_1], .int .i64 a1, .slice A2 l2.length c2] w fun e w' => ∃ v0_ : Value, e = .returned (.tuple #[v0_, .bool r2]) ∧ Kd.R (Kd.int .i64) 3 w' w.heap.size (fun _ => True) v0_ r1 ∧ Below w.heap.size w w' := by
 have hu29 := Try.underlying29
 have HR0_1 := Aside0.mk hr0_1
 have HC0_1 := Aside0.mk hc0_1
 clear hr0_1 hc0_1
 have HR2 := Aside0.mk hr2
 have HC2 := Aside0.mk hc2
 clear hr2 hc2
 have HB := zM (Below.refl w.heap.size w)
 have H : ((impl_isOfKind.f k a0_0 l0_1 a1 l2).bind fun t358 => (if t358 = true then (impl_KindWays.l0 k a1 l2 (([] : List Int)) a0_0 0 a0_0 l0_1) else (some (([] : List Int), false)))) = some (r1, r2) := h
 clear h
 replace H := Option.bind_eq_some_iff.mp H
 obtain ⟨t358, A40, H⟩ := H
 replace H : (if t358 = true then (impl_KindWays.l0 k a1 l2 (([] : List Int)) a0_0 0 a0_0 l0_1) else (some (([] : List Int), false))) = some (r1, r2) := H
 have A4 := Aside0.mk A40
 clear A40
 by_cases c5 : t358 = true
 · subst c5
   have H1 : (impl_KindWays.l0 k a1 l2 (([] : List Int)) a0_0 0 a0_0 l0_1) = some (r1, r2) := by rw [if_pos rfl] at H; exact H
   clear H
   have H := H1
   clear H1
   obtain ⟨y359, hy359⟩ : ∃ y_ : List Int, y_ = (([] : List Int)) := ⟨_, rfl⟩
   replace H : (impl_KindWays.l0 k a1 l2 y359 a0_0 0 a0_0 l0_1) = some (r1, r2) := by first | (rw [hy359]; with_reducible exact H) | (have H2_ := (Option.bind_some _ _).symm.trans H; rw [hy359]; with_reducible exact H2_) | (have H2_ := (Option.bind_some _ _).symm.trans H; with_reducible exact H2_) | with_reducible exact H | (rw [hy359]; exact H) | exact H
   have Ny359 := Aside0.mk hy359
   clear hy359
   have H' := Aside0.mk H
   clear H
   go_enter Try.func23, Try.ntmps23
   go_wp2_with (first | ((with_reducible refine gate_dst (N := 3) rfl ?_); refine zb (w := w) 3 #[.int .i64 a0_0, .slice A0_1 l0_1.length c0_1] 29 zB ?_; clear HB; intro gb357 w6 HB BK357 GW357; have GE357 := GW357; have hcz7_0 := zy BK357 0; have hcz7_1 := zy BK357 1; have hfz7_0 := blk_frozen BK357.out 0; have hfz7_1 := blk_frozen BK357.out 1) | ((with_reducible refine gate_callee (f := 59) rfl ?_); refine zc 13 Try.func59 #[.agg #[.int .i64 a0_0, .slice A0_1 l0_1.length c0_1], .int .i64 a1, .slice A2 l2.length c2] ?_; (with_reducible refine (impl_isOfKind.calls k a0_0 _ _ l0_1 a1 _ _ l2 true _ ?side1 ?side2 ?side3 ?side4 A4.out).mono ?_); (case side1 => exact zC (Kd.C_below HR0_1.out HB.out)); (case side2 => exact HC0_1.out); (case side3 => exact zC (Kd.C_below HR2.out HB.out)); (case side4 => exact HC2.out); rintro e w8 ⟨rfl, hb⟩; refine ⟨_, rfl, ?_⟩; replace BK357 := zM (blk_below (g := gb357) (o := .cells #[.int .i64 a0_0, .slice A0_1 l0_1.length c0_1] 29 (0, 0)) (zK BK357.out) hb); replace HB := zM (below_step zB hb); (try clear hb); (try clear hb2); (try clear hk); (try clear hi)) | ((with_reducible refine gate_dst (N := 15) rfl ?_); refine Kd.R_lit (Kd.int .i64) _ 3 ?hg (N := 15) ?hd (xs := ([] : List Int)) (inner := []) (ok := fun _ => True) (okp := fun _ => True) ?hr ?hp (fun _ hk => hk) trivial (Below.refl _ _) (Nat.le_refl _) (by simp) ?_; (case hd => rfl); (case hg => rfl); (case hr => first | (go_simp; done) | (go_simp; rfl)); (case hp => exact (Reps.none _ _)); intro v360 w9 ho10 hb hg_ hnew_; clear hg_ hnew_; (first | rw [← Ny359.out] at ho10 | (simp only [Int.reduceToNat] at ho10; rw [← Ny359.out] at ho10)); have HO361 := zM (Kd.R_lower ho10 (below_size zB)); replace BK357 := zM (blk_below (g := gb357) (o := .cells #[.int .i64 a0_0, .slice A0_1 l0_1.length c0_1] 29 (0, 0)) (zK BK357.out) hb); replace HB := zM (below_step zB hb); clear hb ho10; have hcz11_0 := zy BK357 0; have hcz11_1 := zy BK357 1; have hfz11_0 := blk_frozen BK357.out 0; have hfz11_1 := blk_frozen BK357.out 1))
   go_loopg [8, 18] k (fun kq v8 v18 w' => ∃ (x8_1 : List Int) (x18_1 : Int), v18 = .int .i64 x18_1 ∧ Aside0 (impl_KindWays.l0 kq a1 l2 x8_1 a0_0 x18_1 a0_0 l0_1 = some (r1, r2)) ∧ Aside0 (kq ≤ k) ∧ Aside0 (Kd.R (Kd.int .i64) 3 w' w.heap.size (fun _ => True) v8 x8_1) ∧ Aside0 (w'.heap[gb357]? = some (.cells #[.int .i64 a0_0, (.slice A0_1 l0_1.length c0_1)] 29 (0, 0))) ∧ Aside0 (Below w.heap.size w w'))
   case atStart => exact ⟨(y359), (0), (by first | rfl | (simp; done) | (simp [*]; done)), H', ⟨Nat.le_refl _⟩, ⟨zR HO361.out⟩, ⟨zK BK357.out⟩, ⟨zB⟩⟩
   case round =>
    clear H'
    try clear c2
    try clear p2
    try clear c5
    try clear hcz11_0
    try clear hcz11_1
    try clear hcz7_0
    try clear hcz7_1
    try clear hfz11_0
    try clear hfz11_1
    try clear hfz7_0
    try clear hfz7_1
    obtain ⟨x8_1, x18_1, rfl, HA, HK1, HO_8, BK357, HB⟩ := hrel
    cases gk with
    | zero => exact absurd HA.out (by simp [impl_KindWays.l0])
    | succ k1 =>
     have H := HA.out
     clear HA
     simp only [impl_KindWays.l0] at H
     by_cases c12 : x18_1 < a0_0
     · rw [if_pos c12] at H
       have c12b0 := decide_eq_true c12
       clear c12
       replace H := Option.bind_eq_some_iff.mp H
       obtain ⟨t362, A130, H⟩ := H
       replace H : (if 0 ≤ x18_1 then ((impl_Graph_hasKind.f k1 a0_0 l0_1 a1 (Go.bits .xor .u64 t362 (shl .u64 1 x18_1))).bind fun t363 => (if t363 = true then (if x8_1.length < 17592186044416 then (impl_KindWays.l0 k1 a1 l2 (x8_1 ++ [x18_1]) a0_0 (wrap64 (x18_1 + 1)) a0_0 l0_1) else (none)) else (impl_KindWays.l0 k1 a1 l2 x8_1 a0_0 (wrap64 (x18_1 + 1)) a0_0 l0_1))) else (none)) = some (r1, r2) := H
       have A13 := Aside0.mk A130
       clear A130
       by_cases c14 : 0 ≤ x18_1
       · rw [if_pos c14] at H
         have c14b0 := eq_true c14
         have c14b1 : decide (0 ≤ x18_1) = true := decide_eq_true c14
         clear c14
         obtain ⟨ji15, hji15⟩ : ∃ j_ : Int, (shl .u64 1 x18_1) = j_ := ⟨_, rfl⟩
         replace H : ((impl_Graph_hasKind.f k1 a0_0 l0_1 a1 (Go.bits .xor .u64 t362 (ji15))).bind fun t363 => (if t363 = true then (if x8_1.length < 17592186044416 then (impl_KindWays.l0 k1 a1 l2 (x8_1 ++ [x18_1]) a0_0 (wrap64 (x18_1 + 1)) a0_0 l0_1) else (none)) else (impl_KindWays.l0 k1 a1 l2 x8_1 a0_0 (wrap64 (x18_1 + 1)) a0_0 l0_1))) = some (r1, r2) := by first | (rw [hji15] at H; exact H) | (simp only [hji15] at H ⊢; exact H)
         (try rw [hji15] at A13)
         have hji15_ : (IntKind.u64.wrap (1 * 2 ^ min x18_1.toNat 64)) = ji15 := hji15
         have hji15z : x18_1 ≤ 64 → (IntKind.u64.wrap (1 * 2 ^ x18_1.toNat)) = ji15 := shl_small hji15
         have hji15u : (IntKind.u64.wrap (2 ^ min x18_1.toNat 64)) = ji15 := by have h_ := hji15_; rw [Int.one_mul] at h_; exact h_
         have hji15v : x18_1 ≤ 64 → (IntKind.u64.wrap (2 ^ x18_1.toNat)) = ji15 := fun hle_ => by have h_ := hji15z hle_; rw [Int.one_mul] at h_; exact h_
         replace H := Option.bind_eq_some_iff.mp H
         obtain ⟨t363, A160, H⟩ := H
         replace H : (if t363 = true then (if x8_1.length < 17592186044416 then (impl_KindWays.l0 k1 a1 l2 (x8_1 ++ [x18_1]) a0_0 (wrap64 (x18_1 + 1)) a0_0 l0_1) else (none)) else (impl_KindWays.l0 k1 a1 l2 x8_1 a0_0 (wrap64 (x18_1 + 1)) a0_0 l0_1)) = some (r1, r2) := H
         have A16 := Aside0.mk A160
         clear A160
         by_cases c17 : t363 = true
         · subst c17
           have H1 : (if x8_1.length < 17592186044416 then (impl_KindWays.l0 k1 a1 l2 (x8_1 ++ [x18_1]) a0_0 (wrap64 (x18_1 + 1)) a0_0 l0_1) else (none)) = some (r1, r2) := by rw [if_pos rfl] at H; exact H
           clear H
           have H := H1
           clear H1
           by_cases c18 : x8_1.length < 17592186044416
           · rw [if_pos c18] at H
             have LMc18 := Aside0.mk c18
             clear c18
             obtain ⟨y364, hy364⟩ : ∃ y_ : List Int, y_ = (x8_1 ++ [x18_1]) := ⟨_, rfl⟩
             replace H : (impl_KindWays.l0 k1 a1 l2 y364 a0_0 (wrap64 (x18_1 + 1)) a0_0 l0_1) = some (r1, r2) := by first | (rw [hy364]; with_reducible exact H) | (have H2_ := (Option.bind_some _ _).symm.trans H; rw [hy364]; with_reducible exact H2_) | (have H2_ := (Option.bind_some _ _).symm.trans H; with_reducible exact H2_) | with_reducible exact H | (rw [hy364]; exact H) | exact H
             have Ny364 := Aside0.mk hy364
             clear hy364
             have H' := Aside0.mk H
             clear H
             try go_wp2
             replace HO_8 := zM (Kd.R_drew HO_8.out)
             replace BK357 := zM (blk_drew BK357.out)
             replace HB := zM (below_drew1 HB.out)
             refine zs (n := 8) (fun w' => w'.cell? ⟨gb357, 0, none⟩ = some (.int .i64 a0_0) ∧ w'.cell? ⟨gb357, 1, none⟩ = some (.slice A0_1 l0_1.length c0_1)) ⟨(blk_cell BK357.out 0).trans rfl, (blk_cell BK357.out 1).trans rfl⟩ (fun hHeld => ?_); refine with_tabW impl_KindWays.tab7 impl_KindWays.bits7 (fun HT_ HW_ => ?_)
             generalize wr.drew = w19 at HO_8 BK357 HB hHeld ⊢
             refine zp HT_ 1 22 ?_
             refine zp HT_ 2 23 ?_
             refine zp HT_ 4 25 ?_
             refine zp HT_ 5 26 ?_
             refine zt HT_ HW_ 0 21 hHeld ?_ (hy := by rintro w' ⟨s0, s1⟩; go_simp; with_reducible rfl)
             refine zg HT_ 3 24 Try.func61 #[.slice A2 l2.length c2] (fun K hK => ?_)
             with_reducible refine (impl_bagOf.calls k1 _ _ l2 t362 _ ?side1 ?side2 A13.out).mono ?_
             (case side1 => exact zC (Kd.C_below HR2.out HB.out))
             (case side2 => exact HC2.out)
             rintro e w' ⟨rfl, ⟨nd, rfl⟩⟩
             refine ⟨_, rfl, ?_⟩
             refine hK.out _ _ ⟨(blk_cell BK357.out 0).trans rfl, (blk_cell BK357.out 1).trans rfl⟩ (fun hHeld => ?_)
             clear hK K
             refine zn 24 ?_
             refine zp HT_ 6 27 ?_
             refine one_ (i := 7) (N := some 28) #[true, true, true, true, true, true, true, true] rfl rfl (one_of HT_.out (by kernel_rfl)) (by decide) (fun K hK => ?_)
             refine goes_ Try.func65 (by kernel_rfl) rfl #[.agg #[.int .i64 a0_0, .slice A0_1 l0_1.length c0_1], .int .i64 a1, .int .u64 (Go.bits .xor .u64 t362 (ji15))] (by rfl) rfl rfl (by (try simp only [List.map_toArray, List.map_cons, List.map_nil]); first | done | (simp only [hji15]; rfl) | rfl | (simp only [List.length_drop, List.length_take]; rfl)) ?_
             with_reducible refine (impl_Graph_hasKind.calls k1 a0_0 _ _ l0_1 a1 (Go.bits .xor .u64 t362 (ji15)) true _ ?side1 ?side2 A16.out).mono ?_
             (case side1 => exact zC (Kd.C_below HR0_1.out zB))
             (case side2 => exact HC0_1.out)
             rintro e w20 ⟨rfl, hb⟩
             refine ⟨_, rfl, ?_⟩
             replace HO_8 := zM (Kd.R_below (zR HO_8.out) hb)
             replace BK357 := zM (blk_below (g := gb357) (o := .cells #[.int .i64 a0_0, .slice A0_1 l0_1.length c0_1] 29 (0, 0)) (zK BK357.out) hb)
             replace HB := zM (below_step zB hb)
             (try clear hb)
             (try clear hb2)
             (try clear hk)
             (try clear hi)
             refine hK.out _ _ ⟨(blk_cell BK357.out 0).trans rfl, (blk_cell BK357.out 1).trans rfl⟩ (fun hHeld => ?_)
             clear hK K
             refine zn 28 ?_
             refine zo HT_ ?_
             try go_wp2_with (first | ((with_reducible refine gate_builtin (b := .append) (xs := #[.tmp 29, .tmp 31]) rfl ?_); at_builtin; refine Kd.R_append (Kd.int .i64) (w0 := w) w.heap.size rfl (.tmp 29) (.tmp 31) 25 3 (.int .i64 0) 8 rfl Try.underlying25 info3 rfl (by decide) (by omega) u8 x8_1 x18_1 [.int .i64 x18_1] (fun _ => True) (fun _ => False) rfl rfl ?aP (fun _ hk => hk.elim) ?aF ?aO ?aB ?aS ?aL ?_; (case aP => exact rfl); (case aB => exact zB); (case aF => exact (fun _ _ => trivial)); (case aO => exact (zR HO_8.out)); (case aS => exact (below_size zB)); (case aL => have := LMc18.out; omega); intro v365 w21 ho hb hg hat; rw [← Ny364.out] at ho; replace BK357 := zM (blk_grown (g := gb357) (o := .cells #[.int .i64 a0_0, .slice A0_1 l0_1.length c0_1] 29 (0, 0)) (zK BK357.out) hg (Kd.R_ne HO_8.out BK357.out (by decide))); replace HB := zM (hb); have HO366 := zM (ho); clear HO_8; clear ho hb hg hat))
             go_roundg k1
             case measure => have := HK1.out; omega
             case rel => exact ⟨(y364), (wrap64 (x18_1 + 1)), (by first | rfl | (simp; done) | (simp [*]; done)), H', ⟨by have := HK1.out; omega⟩, ⟨zR HO366.out⟩, ⟨zK BK357.out⟩, ⟨zB⟩⟩
           · rw [if_neg c18] at H
             exact absurd H (by simp)
         · replace c17 := Bool.eq_false_iff.mpr c17
           subst c17
           have H1 : (impl_KindWays.l0 k1 a1 l2 x8_1 a0_0 (wrap64 (x18_1 + 1)) a0_0 l0_1) = some (r1, r2) := by rw [if_neg (show ¬ (false = true) by decide)] at H; exact H
           clear H
           have H := H1
           clear H1
           have H' := Aside0.mk H
           clear H
           try go_wp2
           replace HO_8 := zM (Kd.R_drew HO_8.out)
           replace BK357 := zM (blk_drew BK357.out)
           replace HB := zM (below_drew1 HB.out)
           refine zs (n := 8) (fun w' => w'.cell? ⟨gb357, 0, none⟩ = some (.int .i64 a0_0) ∧ w'.cell? ⟨gb357, 1, none⟩ = some (.slice A0_1 l0_1.length c0_1)) ⟨(blk_cell BK357.out 0).trans rfl, (blk_cell BK357.out 1).trans rfl⟩ (fun hHeld => ?_); refine with_tabW impl_KindWays.tab7 impl_KindWays.bits7 (fun HT_ HW_ => ?_)
           generalize wr.drew = w22 at HO_8 BK357 HB hHeld ⊢
           refine zp HT_ 1 22 ?_
           refine zp HT_ 2 23 ?_
           refine zp HT_ 4 25 ?_
           refine zp HT_ 5 26 ?_
           refine zt HT_ HW_ 0 21 hHeld ?_ (hy := by rintro w' ⟨s0, s1⟩; go_simp; with_reducible rfl)
           refine zg HT_ 3 24 Try.func61 #[.slice A2 l2.length c2] (fun K hK => ?_)
           with_reducible refine (impl_bagOf.calls k1 _ _ l2 t362 _ ?side1 ?side2 A13.out).mono ?_
           (case side1 => exact zC (Kd.C_below HR2.out HB.out))
           (case side2 => exact HC2.out)
           rintro e w' ⟨rfl, ⟨nd, rfl⟩⟩
           refine ⟨_, rfl, ?_⟩
           refine hK.out _ _ ⟨(blk_cell BK357.out 0).trans rfl, (blk_cell BK357.out 1).trans rfl⟩ (fun hHeld => ?_)
           clear hK K
           refine zn 24 ?_
           refine zp HT_ 6 27 ?_
           refine one_ (i := 7) (N := some 28) #[true, true, true, true, true, true, true, true] rfl rfl (one_of HT_.out (by kernel_rfl)) (by decide) (fun K hK => ?_)
           refine goes_ Try.func65 (by kernel_rfl) rfl #[.agg #[.int .i64 a0_0, .slice A0_1 l0_1.length c0_1], .int .i64 a1, .int .u64 (Go.bits .xor .u64 t362 (ji15))] (by rfl) rfl rfl (by (try simp only [List.map_toArray, List.map_cons, List.map_nil]); first | done | (simp only [hji15]; rfl) | rfl | (simp only [List.length_drop, List.length_take]; rfl)) ?_
           with_reducible refine (impl_Graph_hasKind.calls k1 a0_0 _ _ l0_1 a1 (Go.bits .xor .u64 t362 (ji15)) false _ ?side1 ?side2 A16.out).mono ?_
           (case side1 => exact zC (Kd.C_below HR0_1.out zB))
           (case side2 => exact HC0_1.out)
           rintro e w23 ⟨rfl, hb⟩
           refine ⟨_, rfl, ?_⟩
           replace HO_8 := zM (Kd.R_below (zR HO_8.out) hb)
           replace BK357 := zM (blk_below (g := gb357) (o := .cells #[.int .i64 a0_0, .slice A0_1 l0_1.length c0_1] 29 (0, 0)) (zK BK357.out) hb)
           replace HB := zM (below_step zB hb)
           (try clear hb)
           (try clear hb2)
           (try clear hk)
           (try clear hi)
           refine hK.out _ _ ⟨(blk_cell BK357.out 0).trans rfl, (blk_cell BK357.out 1).trans rfl⟩ (fun hHeld => ?_)
           clear hK K
           refine zn 28 ?_
           refine zo HT_ ?_
           try go_wp2
           go_roundg k1
           case measure => have := HK1.out; omega
           case rel => exact ⟨(x8_1), (wrap64 (x18_1 + 1)), (by first | rfl | (simp; done) | (simp [*]; done)), H', ⟨by have := HK1.out; omega⟩, ⟨zR HO_8.out⟩, ⟨zK BK357.out⟩, ⟨zB⟩⟩
       · rw [if_neg c14] at H
         exact absurd H (by simp)
     · rw [if_neg c12] at H
       have c12b0 : decide (x18_1 < a0_0) = false := decide_eq_false c12
       clear c12
       simp only [Option.some.injEq, Prod.mk.injEq] at H
       obtain ⟨rfl, rfl⟩ := H
       go_wp2
       go_ret2
       exact ⟨_, by first | rfl | (simp [errW_none, errW_some] <;> rfl) | (simp [*, errW_none, errW_some] <;> rfl), by (with_reducible repeat (first | apply Kd.R_alloc | apply Kd.R_drewN | apply Kd.R_drew)); exact HO_8.out, zB⟩
 · replace c5 := Bool.eq_false_iff.mpr c5
   subst c5
   have H1 : (some (([] : List Int), false)) = some (r1, r2) := by rw [if_neg (show ¬ (false = true) by decide)] at H; exact H
   clear H
   have H := H1
   clear H1
   simp only [Option.some.injEq, Prod.mk.injEq] at H
   obtain ⟨rfl, rfl⟩ := H
   go_enter Try.func23, Try.ntmps23
   go_wp2_with (first | ((with_reducible refine gate_dst (N := 3) rfl ?_); refine zb (w := w) 3 #[.int .i64 a0_0, .slice A0_1 l0_1.length c0_1] 29 zB ?_; clear HB; intro gb357 w24 HB BK357 GW357; have GE357 := GW357; have hcz25_0 := zy BK357 0; have hcz25_1 := zy BK357 1; have hfz25_0 := blk_frozen BK357.out 0; have hfz25_1 := blk_frozen BK357.out 1) | ((with_reducible refine gate_callee (f := 59) rfl ?_); refine zc 13 Try.func59 #[.agg #[.int .i64 a0_0, .slice A0_1 l0_1.length c0_1], .int .i64 a1, .slice A2 l2.length c2] ?_; (with_reducible refine (impl_isOfKind.calls k a0_0 _ _ l0_1 a1 _ _ l2 false _ ?side1 ?side2 ?side3 ?side4 A4.out).mono ?_); (case side1 => exact zC (Kd.C_below HR0_1.out HB.out)); (case side2 => exact HC0_1.out); (case side3 => exact zC (Kd.C_below HR2.out HB.out)); (case side4 => exact HC2.out); rintro e w26 ⟨rfl, hb⟩; refine ⟨_, rfl, ?_⟩; replace BK357 := zM (blk_below (g := gb357) (o := .cells #[.int .i64 a0_0, .slice A0_1 l0_1.length c0_1] 29 (0, 0)) (zK BK357.out) hb); replace HB := zM (below_step zB hb); (try clear hb); (try clear hb2); (try clear hk); (try clear hi)))
   go_ret2
   exact ⟨_, by first | rfl | (simp [errW_none, errW_some] <;> rfl) | (simp [*, errW_none, errW_some] <;> rfl), by first | exact Kd.R_nil _ _ _ _ _ | exact Kd.N_nil _ _ _ _ _ | exact Kd.V_nil _ _ _ _ _ | exact Kd.Q_nil _ _ _ _ _ | exact Kd.S_nil _ _ _ _ _, zB⟩

/-! ### laws_markGraph: function 24 -/
def laws_markGraph.f (a0_0 : Int) (l0_1 : List (S88)) (a1 : Int) : Option (Int × (List (S88))) := (laws_markIntA2S.f l0_1 a1).bind fun bt368 => (some (bt368.1, bt368.2))
set_option maxHeartbeats 8000000 in
set_option maxRecDepth 100000 in
theorem laws_markGraph.calls (a0_0 : Int) (P0_1_ : Nat → Prop) (u9000_ : Value) (l0_1 : List (S88)) (a1 : Int) (r1 : Int) (r2 : List (S88)) (w0 w : World) (hB : Below w0.heap.size w0 w) (ho0_1 : Kd.R k88 88 w w0.heap.size P0_1_ u9000_ l0_1) (h : laws_markGraph.f a0_0 l0_1 a1 = some (r1, r2)) :
 Calls Try.prog 24 #[.agg #[.int .i64 a0_0, u9000_], .int .i64 a1] w fun e w' => e = .returned (.int .i64 r1) ∧ Kd.R k88 88 w' w0.heap.size (fun k_ => (P0_1_ k_ ∨ w.heap.size ≤ k_)) u9000_ r2 ∧ Below w0.heap.size w0 w' ∧ Kept w w' (fun k_ => P0_1_ k_) := by
 have hu29 := Try.underlying29
 have HO0_1 := zM (show Kd.R k88 88 w w0.heap.size (fun k_ => (P0_1_ k_ ∨ w.heap.size ≤ k_)) u9000_ l0_1 from Kd.R_mono ho0_1 (fun k_ hk => (.inl hk)))
 have HK := zM (Kept.refl w (fun k_ => P0_1_ k_))
 have HW0 := Aside0.mk hB.size
 have HB := Aside0.mk hB
 clear hB
 have H : ((laws_markIntA2S.f l0_1 a1).bind fun bt368 => (some (bt368.1, bt368.2))) = some (r1, r2) := h
 clear h
 replace H := Option.bind_eq_some_iff.mp H
 obtain ⟨⟨t368, t369⟩, A30, H⟩ := H
 replace H : (some (t368, t369)) = some (r1, r2) := H
 have A3 := Aside0.mk A30
 clear A30
 simp only [Option.some.injEq, Prod.mk.injEq] at H
 obtain ⟨rfl, rfl⟩ := H
 obtain ⟨Ao4, co4, eo4⟩ := Kd.R_slice HO0_1.out
 subst eo4
 go_enter Try.func24, Try.ntmps24
 go_wp2_with (first | ((with_reducible refine gate_dst (N := 2) rfl ?_); refine ze 2 #[.int .i64 a0_0, .slice Ao4 l0_1.length co4] 29 ?_; intro gb367 hg w5 hbox hb; replace HO0_1 := zM (Kd.R_below (zR HO0_1.out) hb); have BK367 := zM (hbox); have GW367 := zM ((by rw [hg]; exact (by first | exact HK.out.1 | exact (show Kept w _ (fun k_ => P0_1_ k_) from by repeat (first | (with_reducible first | exact HK.out | apply Kept.alloc | apply Kept.drewN | apply Kept.drew) | exact HK.out)).1) : w.heap.size ≤ gb367)); replace HK := zM (Kept.below (S := (fun k_ => P0_1_ k_)) (by repeat (first | (with_reducible first | exact HK.out | apply Kept.alloc | apply Kept.drewN | apply Kept.drew) | exact HK.out)) hb); have GE367 := zM ((by rw [hg]; exact (below_size zB) : w0.heap.size ≤ gb367)); replace HB := zM (below_step zB hb); clear hb hbox hg; have hcz6_0 := zy BK367 0; have hcz6_1 := zy BK367 1; have hfz6_0 := blk_frozen BK367.out 0; have hfz6_1 := blk_frozen BK367.out 1) | ((with_reducible refine gate_callee (f := 66) rfl ?_); refine zc 8 Try.func66 #[.slice Ao4 l0_1.length co4, .int .i64 a1] ?_; (with_reducible refine (laws_markIntA2S.calls (fun k_ => some k_ = (.slice Ao4 l0_1.length co4 : Value).ownBlock) (.slice Ao4 l0_1.length co4) l0_1 a1 t368 t369 w0 _ ?side1 ?side2 A3.out).mono ?_); (case side1 => repeat (first | (with_reducible first | exact HB.out | apply below_alloc | apply pw_below_drewN | apply below_drew1 | refine below_set ?_ GE367.out) | exact HB.out)); (case side2 => exact Kd.R_tight rfl HO0_1.out); rintro e w7 ⟨rfl, hy0, hb, hkp⟩; refine ⟨_, rfl, ?_⟩; replace BK367 := zM (blk_kept (zK BK367.out) hkp (fun hs_ => (fun e_ => (Kd.R_ne HO0_1.out BK367.out (by decide)) e_) hs_)); replace HK := zM (Kept.then_ (S := (fun k_ => P0_1_ k_)) (by repeat (first | (with_reducible first | exact HK.out | apply Kept.alloc | apply Kept.drewN | apply Kept.drew | refine Kept.setCell ?_ (.inr GW367.out) _) | exact HK.out)) hkp (fun k_ hs_ => (fun e_ => (HO0_1.out.1 k_ e_.symm)) hs_)); replace HO0_1 := zM (Kd.R_reok rfl hy0 (fun k_ e_ => HO0_1.out.1 k_ e_)); replace HB := zM (hb); (try clear hb); (try clear hkp); (try clear hy0)))
 go_ret
 exact ⟨by first | rfl | (simp [errW_none, errW_some] <;> rfl) | (simp [*, errW_none, errW_some] <;> rfl), by (with_reducible repeat (first | apply Kd.R_alloc | apply Kd.R_drewN | apply Kd.R_drew)); exact HO0_1.out, by repeat (first | (with_reducible first | exact HB.out | apply below_alloc | apply pw_below_drewN | apply below_drew1 | refine below_set ?_ GE367.out) | exact HB.out), by repeat (first | (with_reducible first | exact HK.out | apply Kept.alloc | apply Kept.drewN | apply Kept.drew | refine Kept.setCell ?_ (.inr GW367.out) _) | exact HK.out)⟩

end Go.Proofs.Ytnlmijnbfdhdkaa.P
