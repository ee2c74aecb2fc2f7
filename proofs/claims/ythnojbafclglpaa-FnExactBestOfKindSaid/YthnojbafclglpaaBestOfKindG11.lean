-- Written by a program of this session (the kit's print, turned: wip/print/patch.py) out of the translation. Not trusted: Lean checks it.
import Derived.Test.YthnojbafclglpaaBestOfKindG5
import Derived.Test.YthnojbafclglpaaBestOfKindG6
import Derived.Test.YthnojbafclglpaaBestOfKindG7
import Derived.Test.YthnojbafclglpaaBestOfKindG8
import Derived.Test.YthnojbafclglpaaBestOfKindG9
import Derived.Test.YthnojbafclglpaaBestOfKindG10
namespace Go.Proofs.Ythnojbafclglpaa.P
open Go.RowKit Go.Proofs.YthnojbafclglpaaW.PrintWords Go.Proofs.YthnojbafclglpaaW.PrintLast Go.Proofs.YthnojbafclglpaaW.PrintMore
attribute [local go_sem] max2_int min2_int max_two min_two max_three min_three max_four min_four   -- for this text's walks alone
set_option linter.unusedVariables false
set_option linter.unusedSimpArgs false

/-! ### spec_l4Sets: function 144 -/
mutual
def spec_l4Sets.l0 : Nat → Int → List (List Int) → Int → Int → List (S64) → Option ((List (List Int)))
 | 0, _, _, _, _, _ => none
 | k + 1, x1, x5, x6, x479000, x479001 => if x6 ≤ x479000 then (spec_l4Sets.l1 k x1 x5 x6 (([] : List (List Int))) 0 x479000 x479001) else (some x5)
def spec_l4Sets.l1 : Nat → Int → List (List Int) → Int → List (List Int) → Int → Int → List (S64) → Option ((List (List Int)))
 | 0, _, _, _, _, _, _, _ => none
 | k + 1, x1, x5, x6, x7, x8, x479000, x479001 => if 0 ≤ x479000 then (if x8 < (shl .i64 1 x479000) then ((spec_l2Bits.f k x479000 x8).bind fun t491 => (if (t491.length : Int) = x6 then ((spec_l4Has.f k x479000 x479001 x1 t491).bind fun t494 => (if t494 = true then (if x7.length < 5864062014805 then (spec_l4Sets.l1 k x1 x5 x6 (x7 ++ [t491]) (wrap64 (x8 + 1)) x479000 x479001) else (none)) else (spec_l4Sets.l1 k x1 x5 x6 x7 (wrap64 (x8 + 1)) x479000 x479001))) else (spec_l4Sets.l1 k x1 x5 x6 x7 (wrap64 (x8 + 1)) x479000 x479001))) else ((spec_l2Sorted.f k x7).bind fun t485 => (if x5.length + t485.length < 5864062014805 then (spec_l4Sets.l0 k x1 (x5 ++ t485) (wrap64 (x6 + 1)) x479000 x479001) else (none)))) else (none)
end
def spec_l4Sets.f (k : Nat) (a0_0 : Int) (l0_1 : List (S64)) (a1 : Int) : Option ((List (List Int))) := spec_l4Sets.l0 k a1 (([] : List (List Int))) 0 a0_0 l0_1
set_option maxHeartbeats 8000000 in
set_option maxRecDepth 100000 in
theorem spec_l4Sets.calls (k : Nat) (a0_0 : Int) (A0_1 : Option Addr) (c0_1 : Nat) (l0_1 : List (S64)) (a1 : Int) (r : List (List Int)) (w : World) (hr0_1 : Kd.C k64 w A0_1 l0_1.length l0_1) (hc0_1 : l0_1.length ≤ c0_1) (h : spec_l4Sets.f k a0_0 l0_1 a1 = some r) :
 Calls Try.prog 144 #[.agg #[.int .i64 a0_0, .slice A0_1 l0_1.length c0_1], .int .i64 a1] w fun e w' => ∃ v0_ : Value, e = .returned (v0_) ∧ Kd.N (Kd.slice 3 (Kd.int .i64)) 26 w' w.heap.size (fun k_ => (w.heap.size ≤ k_)) v0_ r ∧ Below w.heap.size w w' := by
 have hu43 := Try.underlying43
 have HR0_1 := Aside0.mk hr0_1
 have HC0_1 := Aside0.mk hc0_1
 clear hr0_1 hc0_1
 have HB := zM (Below.refl w.heap.size w)
 have H : (spec_l4Sets.l0 k a1 (([] : List (List Int))) 0 a0_0 l0_1) = some r := h
 clear h
 obtain ⟨y479, hy479⟩ : ∃ y_ : List (List Int), y_ = (([] : List (List Int))) := ⟨_, rfl⟩
 replace H : (spec_l4Sets.l0 k a1 y479 0 a0_0 l0_1) = some r := by first | (rw [hy479]; with_reducible exact H) | (have H2_ := (Option.bind_some _ _).symm.trans H; rw [hy479]; with_reducible exact H2_) | (have H2_ := (Option.bind_some _ _).symm.trans H; with_reducible exact H2_) | with_reducible exact H | (rw [hy479]; exact H) | exact H
 have Ny479 := Aside0.mk hy479
 clear hy479
 have H' := Aside0.mk H
 clear H
 go_enter Try.func144, Try.ntmps144
 go_wp2_with (first | ((with_reducible refine gate_dst (N := 2) rfl ?_); refine zb (w := w) 2 #[.int .i64 a0_0, .slice A0_1 l0_1.length c0_1] 43 zB ?_; clear HB; intro gb478 w3 HB BK478 GW478; have GE478 := GW478) | ((with_reducible refine gate_dst (N := 10) rfl ?_); refine Kd.N_lit (Kd.slice 3 (Kd.int .i64)) _ 26 ?hg (N' := 10) ?hd (xs := ([] : List (List Int))) (inner := []) (ok := (fun k_ => (w.heap.size ≤ k_) ∧ k_ ≠ gb478)) (okp := (fun k_ => (w.heap.size ≤ k_) ∧ k_ ≠ gb478)) ?hr ?hp (fun _ hk => hk) ((show ∀ k_, w3.heap.size ≤ k_ → (fun k_ => (w.heap.size ≤ k_) ∧ k_ ≠ gb478) k_ from fun k_ hk => ⟨(Nat.le_trans (below_size zB) hk), Kd.freshB (g := gb478) (o := .cells #[.int .i64 a0_0, .slice A0_1 l0_1.length c0_1] 43 (0, 0)) (zK BK478.out) k_ hk⟩) _ (Nat.le_refl _)) (Below.refl _ _) (Nat.le_refl _) (by simp) ?_; (case hd => rfl); (case hg => rfl); (case hr => first | (go_simp; done) | (go_simp; rfl)); (case hp => exact (Reps.none _ _)); intro v480 w4 ho5 hb hg_ hnew_; clear hg_ hnew_; (first | rw [← Ny479.out] at ho5 | (simp only [Int.reduceToNat] at ho5; rw [← Ny479.out] at ho5)); have HO481 := zM (Kd.N_lower ho5 (below_size zB)); replace BK478 := zM (blk_below (g := gb478) (o := .cells #[.int .i64 a0_0, .slice A0_1 l0_1.length c0_1] 43 (0, 0)) (zK BK478.out) hb); replace HB := zM (below_step zB hb); clear hb ho5))
 go_loopg [5, 6] k (fun kq v5 v6 w' => ∃ (x5_1 : List (List Int)) (x6_1 : Int), v6 = .int .i64 x6_1 ∧ Aside0 (spec_l4Sets.l0 kq a1 x5_1 x6_1 a0_0 l0_1 = some r) ∧ Aside0 (kq ≤ k) ∧ Aside0 (Kd.N (Kd.slice 3 (Kd.int .i64)) 26 w' w.heap.size (fun k_ => (w.heap.size ≤ k_) ∧ k_ ≠ gb478) v5 x5_1) ∧ Aside0 (w'.heap[gb478]? = some (.cells #[.int .i64 a0_0, (.slice A0_1 l0_1.length c0_1)] 43 (0, 0))) ∧ Aside0 (Below w.heap.size w w'))
 case atStart => exact ⟨(y479), (0), (by first | rfl | (simp; done) | (simp [*]; done)), H', ⟨Nat.le_refl _⟩, ⟨by (with_reducible repeat (first | apply Kd.N_alloc | apply Kd.N_drewN | apply Kd.N_drew)); exact HO481.out⟩, ⟨zK BK478.out⟩, ⟨zB⟩⟩
 case round =>
  clear H'
  try clear c1
  try clear p2
  obtain ⟨x5_1, x6_1, rfl, HA, HK1, HO_5, BK478, HB⟩ := hrel
  cases gk with
  | zero => exact absurd HA.out (by simp [spec_l4Sets.l0])
  | succ k1 =>
   have H := HA.out
   clear HA
   simp only [spec_l4Sets.l0] at H
   by_cases c6 : x6_1 ≤ a0_0
   · rw [if_pos c6] at H
     have c6b0 := decide_eq_true c6
     clear c6
     obtain ⟨y482, hy482⟩ : ∃ y_ : List (List Int), y_ = (([] : List (List Int))) := ⟨_, rfl⟩
     replace H : (spec_l4Sets.l1 k1 a1 x5_1 x6_1 y482 0 a0_0 l0_1) = some r := by first | (rw [hy482]; with_reducible exact H) | (have H2_ := (Option.bind_some _ _).symm.trans H; rw [hy482]; with_reducible exact H2_) | (have H2_ := (Option.bind_some _ _).symm.trans H; with_reducible exact H2_) | with_reducible exact H | (rw [hy482]; exact H) | exact H
     have Ny482 := Aside0.mk hy482
     clear hy482
     have H' := Aside0.mk H
     clear H
     have hcz7_0 := zy BK478 0
     have hcz7_1 := zy BK478 1
     have hfz7_0 := blk_frozen BK478.out 0
     have hfz7_1 := blk_frozen BK478.out 1
     go_wp2_with (first | ((with_reducible refine gate_dst (N := 17) rfl ?_); refine Kd.N_lit (Kd.slice 3 (Kd.int .i64)) _ 26 ?hg (N' := 17) ?hd (xs := ([] : List (List Int))) (inner := []) (ok := (fun k_ => (w.heap.size ≤ k_) ∧ some k_ ≠ (u5 : Value).ownBlock ∧ k_ ≠ gb478)) (okp := (fun k_ => (w.heap.size ≤ k_) ∧ some k_ ≠ (u5 : Value).ownBlock ∧ k_ ≠ gb478)) ?hr ?hp (fun _ hk => hk) ((show ∀ k_, wr.heap.size ≤ k_ → (fun k_ => (w.heap.size ≤ k_) ∧ some k_ ≠ (u5 : Value).ownBlock ∧ k_ ≠ gb478) k_ from fun k_ hk => ⟨(Nat.le_trans (below_size zB) hk), Kd.fresh' (Kd.N_lt (by (with_reducible repeat (first | apply Kd.N_alloc | apply Kd.N_drewN | apply Kd.N_drew)); exact HO_5.out)) k_ hk, Kd.freshB (g := gb478) (o := .cells #[.int .i64 a0_0, .slice A0_1 l0_1.length c0_1] 43 (0, 0)) (zK BK478.out) k_ hk⟩) _ (Nat.le_refl _)) (Below.refl _ _) (Nat.le_refl _) (by simp) ?_; (case hd => rfl); (case hg => rfl); (case hr => first | (go_simp; done) | (go_simp; rfl)); (case hp => exact (Reps.none _ _)); intro v483 w8 ho9 hb hg_ hnew_; clear hg_ hnew_; (first | rw [← Ny482.out] at ho9 | (simp only [Int.reduceToNat] at ho9; rw [← Ny482.out] at ho9)); replace HO_5 := zM (Kd.N_elder' (by (with_reducible repeat (first | apply Kd.N_alloc | apply Kd.N_drewN | apply Kd.N_drew)); exact HO_5.out) (Kd.N_base ho9) hb); have HO484 := zM (Kd.N_lower ho9 (below_size zB)); replace BK478 := zM (blk_below (g := gb478) (o := .cells #[.int .i64 a0_0, .slice A0_1 l0_1.length c0_1] 43 (0, 0)) (zK BK478.out) hb); replace HB := zM (below_step zB hb); clear hb ho9))
     go_loopg [7, 8] k1 (fun kq v7 v8 w' => ∃ (x7_2 : List (List Int)) (x8_2 : Int), v8 = .int .i64 x8_2 ∧ Aside0 (spec_l4Sets.l1 kq a1 x5_1 x6_1 x7_2 x8_2 a0_0 l0_1 = some r) ∧ Aside0 (kq ≤ k1) ∧ Aside0 (Kd.N (Kd.slice 3 (Kd.int .i64)) 26 w' w.heap.size (fun k_ => (w.heap.size ≤ k_) ∧ some k_ ≠ (v7 : Value).ownBlock ∧ k_ ≠ gb478) u5 x5_1) ∧ Aside0 (Kd.N (Kd.slice 3 (Kd.int .i64)) 26 w' w.heap.size (fun k_ => (w.heap.size ≤ k_) ∧ some k_ ≠ (u5 : Value).ownBlock ∧ k_ ≠ gb478) v7 x7_2) ∧ Aside0 (w'.heap[gb478]? = some (.cells #[.int .i64 a0_0, (.slice A0_1 l0_1.length c0_1)] 43 (0, 0))) ∧ Aside0 (Below w.heap.size w w'))
     case atStart => exact ⟨(y482), (0), (by first | rfl | (simp; done) | (simp [*]; done)), H', ⟨Nat.le_refl _⟩, ⟨by (with_reducible repeat (first | apply Kd.N_alloc | apply Kd.N_drewN | apply Kd.N_drew)); exact Kd.N_mono HO_5.out (fun _ hk => ⟨hk.1.1, ⟨hk.2, hk.1.2⟩⟩)⟩, ⟨by (with_reducible repeat (first | apply Kd.N_alloc | apply Kd.N_drewN | apply Kd.N_drew)); exact HO484.out⟩, ⟨zK BK478.out⟩, ⟨zB⟩⟩
     case round =>
      clear H'
      try clear c1
      try clear p2
      try clear c6
      try clear c6b0
      try clear hcz7_0
      try clear hcz7_1
      try clear hfz7_0
      try clear hfz7_1
      try clear p2
      obtain ⟨x7_2, x8_2, rfl, HA, HK2, HO_5, HO_7, BK478, HB⟩ := hrel
      cases gk with
      | zero => exact absurd HA.out (by simp [spec_l4Sets.l1])
      | succ k2 =>
       have H := HA.out
       clear HA
       simp only [spec_l4Sets.l1] at H
       by_cases c10 : 0 ≤ a0_0
       · rw [if_pos c10] at H
         have c10b0 := eq_true c10
         have c10b1 : decide (0 ≤ a0_0) = true := decide_eq_true c10
         clear c10
         obtain ⟨ji11, hji11⟩ : ∃ j_ : Int, (shl .i64 1 a0_0) = j_ := ⟨_, rfl⟩
         replace H : (if x8_2 < (ji11) then ((spec_l2Bits.f k2 a0_0 x8_2).bind fun t491 => (if (t491.length : Int) = x6_1 then ((spec_l4Has.f k2 a0_0 l0_1 a1 t491).bind fun t494 => (if t494 = true then (if x7_2.length < 5864062014805 then (spec_l4Sets.l1 k2 a1 x5_1 x6_1 (x7_2 ++ [t491]) (wrap64 (x8_2 + 1)) a0_0 l0_1) else (none)) else (spec_l4Sets.l1 k2 a1 x5_1 x6_1 x7_2 (wrap64 (x8_2 + 1)) a0_0 l0_1))) else (spec_l4Sets.l1 k2 a1 x5_1 x6_1 x7_2 (wrap64 (x8_2 + 1)) a0_0 l0_1))) else ((spec_l2Sorted.f k2 x7_2).bind fun t485 => (if x5_1.length + t485.length < 5864062014805 then (spec_l4Sets.l0 k2 a1 (x5_1 ++ t485) (wrap64 (x6_1 + 1)) a0_0 l0_1) else (none)))) = some r := by first | (rw [hji11] at H; exact H) | (simp only [hji11] at H ⊢; exact H)
         have hji11_ : (IntKind.i64.wrap (1 * 2 ^ min a0_0.toNat 64)) = ji11 := hji11
         have hji11z : a0_0 ≤ 64 → (IntKind.i64.wrap (1 * 2 ^ a0_0.toNat)) = ji11 := shl_small hji11
         have hji11u : (IntKind.i64.wrap (2 ^ min a0_0.toNat 64)) = ji11 := by have h_ := hji11_; rw [Int.one_mul] at h_; exact h_
         have hji11v : a0_0 ≤ 64 → (IntKind.i64.wrap (2 ^ a0_0.toNat)) = ji11 := fun hle_ => by have h_ := hji11z hle_; rw [Int.one_mul] at h_; exact h_
         have hji11y : (wrap64 (1 * 2 ^ min a0_0.toNat 64)) = ji11 := (i64_w _).symm.trans hji11_
         have hji11x : a0_0 ≤ 64 → (wrap64 (1 * 2 ^ a0_0.toNat)) = ji11 := fun h_ => (i64_w _).symm.trans (hji11z h_)
         by_cases c12 : x8_2 < (ji11)
         · rw [if_pos c12] at H
           have c12b0 := decide_eq_true c12
           clear c12
           replace H := Option.bind_eq_some_iff.mp H
           obtain ⟨t491, A130, H⟩ := H
           have A13 := Aside0.mk A130
           clear A130
           by_cases c14 : (t491.length : Int) = x6_1
           · rw [if_pos c14] at H
             have c14b0 : ((t491.length : Int) == x6_1) = true := beq_iff_eq.mpr c14
             have c14b1 : ((t491.length : Int) != x6_1) = false := bne_eq_false_iff_eq.mpr c14
             clear c14
             replace H := Option.bind_eq_some_iff.mp H
             obtain ⟨t494, A150, H⟩ := H
             have A15 := Aside0.mk A150
             clear A150
             by_cases c16 : t494 = true
             · subst c16
               rw [if_pos rfl] at H
               by_cases c17 : x7_2.length < 5864062014805
               · rw [if_pos c17] at H
                 have LMc17 := Aside0.mk c17
                 clear c17
                 obtain ⟨y495, hy495⟩ : ∃ y_ : List (List Int), y_ = (x7_2 ++ [t491]) := ⟨_, rfl⟩
                 replace H : (spec_l4Sets.l1 k2 a1 x5_1 x6_1 y495 (wrap64 (x8_2 + 1)) a0_0 l0_1) = some r := by first | (rw [hy495]; with_reducible exact H) | (have H2_ := (Option.bind_some _ _).symm.trans H; rw [hy495]; with_reducible exact H2_) | (have H2_ := (Option.bind_some _ _).symm.trans H; with_reducible exact H2_) | with_reducible exact H | (rw [hy495]; exact H) | exact H
                 have Ny495 := Aside0.mk hy495
                 clear hy495
                 have H' := Aside0.mk H
                 clear H
                 have hcz18_0 := zy BK478 0
                 have hcz18_1 := zy BK478 1
                 have hfz18_0 := blk_frozen BK478.out 0
                 have hfz18_1 := blk_frozen BK478.out 1
                 go_wp2_with (first | ((with_reducible refine gate_callee (f := 168) rfl ?_); refine zc 28 Try.func168 #[.int .i64 a0_0, .int .i64 x8_2] ?_; (with_reducible refine (spec_l2Bits.calls k2 a0_0 x8_2 t491 _ A13.out).mono ?_); rintro e w19 ⟨v492, rfl, ho0, hb⟩; refine ⟨_, rfl, ?_⟩; replace HO_5 := zM (Kd.N_elder' (by (with_reducible repeat (first | apply Kd.N_alloc | apply Kd.N_drewN | apply Kd.N_drew)); exact HO_5.out) (Kd.R_base ho0) hb); replace HO_7 := zM (Kd.N_elder' (by (with_reducible repeat (first | apply Kd.N_alloc | apply Kd.N_drewN | apply Kd.N_drew)); exact HO_7.out) (Kd.R_base ho0) hb); have HO493 := zM (Kd.R_lower (Kd.R_newM (M := fun k_ => (w.heap.size ≤ k_)) ho0 (below_size zB) (fun k_ h_ => h_)) (below_size zB)); replace BK478 := zM (blk_below (g := gb478) (o := .cells #[.int .i64 a0_0, .slice A0_1 l0_1.length c0_1] 43 (0, 0)) (zK BK478.out) hb); replace HB := zM (below_step zB hb); (try clear hb); (try clear hb2); (try clear hk); (try clear hi); (try clear ho0); obtain ⟨Ao20, co20, eo20⟩ := Kd.R_slice HO493.out; subst eo20; have hcz21_0 := zy BK478 0; have hcz21_1 := zy BK478 1; have hfz21_0 := blk_frozen BK478.out 0; have hfz21_1 := blk_frozen BK478.out 1) | (go_at_call 169; (with_reducible refine (spec_l4Has.calls k2 a0_0 _ _ l0_1 a1 _ _ t491 true _ ?side1 ?side2 ?side3 ?side4 A15.out).mono ?_); (case side1 => exact zC (Kd.C_below HR0_1.out HB.out)); (case side2 => exact HC0_1.out); (case side3 => exact zC (Kd.R_reads' HO493.out).2.2); (case side4 => exact (Kd.R_reads' HO493.out).2.1); rintro e w22 ⟨rfl, hb⟩; replace HO_5 := zM (Kd.N_below (by (with_reducible repeat (first | apply Kd.N_alloc | apply Kd.N_drewN | apply Kd.N_drew)); exact HO_5.out) hb); replace HO_7 := zM (Kd.N_below (by (with_reducible repeat (first | apply Kd.N_alloc | apply Kd.N_drewN | apply Kd.N_drew)); exact HO_7.out) hb); replace HO493 := zM (Kd.R_below (zR HO493.out) hb); replace BK478 := zM (blk_below (g := gb478) (o := .cells #[.int .i64 a0_0, .slice A0_1 l0_1.length c0_1] 43 (0, 0)) (zK BK478.out) hb); replace HB := zM (below_step zB hb); (try clear hb); (try clear hb2); (try clear hk); (try clear hi)) | ((with_reducible refine gate_builtin (b := .append) (xs := #[.tmp 39, .tmp 41]) rfl ?_); at_builtin; refine Kd.N_append (Kd.slice 3 (Kd.int .i64)) (w0 := w) w.heap.size rfl (.tmp 39) (.tmp 41) 22 26 (.slice none 0 0) 24 rfl Try.underlying22 info26 rfl (by decide) (by omega) u7 x7_2 t491 [.slice Ao20 t491.length co20] (fun k_ => (w.heap.size ≤ k_) ∧ some k_ ≠ (u5 : Value).ownBlock ∧ k_ ≠ gb478) (fun k_ => ((fun k_ => (w.heap.size ≤ k_) ∧ some k_ ≠ (u5 : Value).ownBlock ∧ k_ ≠ gb478)) k_ ∧ some k_ ≠ (u7 : Value).ownBlock) rfl rfl ?aP (fun _ hk => hk) ?aF ?aO ?aB ?aS ?aL ?_; (case aP => exact (Kd.FK_slice_mk (Kd.R_reads' (Kd.R_mono (ok' := (fun k_ => ((fun k_ => (w.heap.size ≤ k_) ∧ some k_ ≠ (u5 : Value).ownBlock ∧ k_ ≠ gb478)) k_ ∧ some k_ ≠ (u7 : Value).ownBlock)) (Kd.R_types (Kd.R_apart' (Kd.R_apart' (HO493.out) (Kd.N_typed HO_5.out) (by decide)) (Kd.N_typed HO_7.out) (by decide)) BK478.out (by decide)) (fun k_ hk => ⟨⟨hk.1.1.1.1, ⟨hk.1.1.2, hk.2⟩⟩, hk.1.2⟩))).2.1 (Kd.R_F (Kd.R_mono (ok' := (fun k_ => ((fun k_ => (w.heap.size ≤ k_) ∧ some k_ ≠ (u5 : Value).ownBlock ∧ k_ ≠ gb478)) k_ ∧ some k_ ≠ (u7 : Value).ownBlock)) (Kd.R_types (Kd.R_apart' (Kd.R_apart' (HO493.out) (Kd.N_typed HO_5.out) (by decide)) (Kd.N_typed HO_7.out) (by decide)) BK478.out (by decide)) (fun k_ hk => ⟨⟨hk.1.1.1.1, ⟨hk.1.1.2, hk.2⟩⟩, hk.1.2⟩))))); (case aB => exact zB); (case aF => exact (fun k_ hk => ⟨(Nat.le_trans (below_size zB) hk), Kd.fresh' (Kd.N_lt (by (with_reducible repeat (first | apply Kd.N_alloc | apply Kd.N_drewN | apply Kd.N_drew)); exact HO_5.out)) k_ hk, Kd.freshB (g := gb478) (o := .cells #[.int .i64 a0_0, .slice A0_1 l0_1.length c0_1] 43 (0, 0)) (zK BK478.out) k_ hk⟩)); (case aO => exact (by (with_reducible repeat (first | apply Kd.N_alloc | apply Kd.N_drewN | apply Kd.N_drew)); exact Kd.N_mono HO_7.out (fun _ hk => ⟨hk.1.1, ⟨hk.1.2.1, hk.1.2.2⟩⟩))); (case aS => exact (below_size zB)); (case aL => have := LMc17.out; omega); intro v496 w23 ho hb hg hat; rw [← Ny495.out] at ho; replace HO_5 := zM (Kd.N_afterv (ok := (fun k_ => (w.heap.size ≤ k_) ∧ some k_ ≠ (.slice Ao20 t491.length co20 : Value).ownBlock ∧ k_ ≠ gb478)) (by (with_reducible repeat (first | apply Kd.N_alloc | apply Kd.N_drewN | apply Kd.N_drew)); exact Kd.N_mono HO_5.out (fun _ hk => ⟨⟨hk.1.1, ⟨hk.2, hk.1.2.2⟩⟩, hk.1.2.1⟩)) hg hat); replace BK478 := zM (blk_grown (g := gb478) (o := .cells #[.int .i64 a0_0, .slice A0_1 l0_1.length c0_1] 43 (0, 0)) (zK BK478.out) hg (Kd.N_ne HO_7.out BK478.out (by decide))); replace HB := zM (hb); have HO497 := zM (ho); clear HO_7 HO493; clear ho hb hg hat))
                 go_roundg k2
                 case measure => have := HK1.out; have := HK2.out; omega
                 case rel => exact ⟨(y495), (wrap64 (x8_2 + 1)), (by first | rfl | (simp; done) | (simp [*]; done)), H', ⟨by have := HK1.out; have := HK2.out; omega⟩, ⟨by (with_reducible repeat (first | apply Kd.N_alloc | apply Kd.N_drewN | apply Kd.N_drew)); exact Kd.N_mono HO_5.out (fun _ hk => ⟨hk.1.1, ⟨hk.2, hk.1.2.2⟩⟩)⟩, ⟨by (with_reducible repeat (first | apply Kd.N_alloc | apply Kd.N_drewN | apply Kd.N_drew)); exact HO497.out⟩, ⟨zK BK478.out⟩, ⟨zB⟩⟩
               · rw [if_neg c17] at H
                 exact absurd H (by simp)
             · replace c16 := Bool.eq_false_iff.mpr c16
               subst c16
               have H1 : (spec_l4Sets.l1 k2 a1 x5_1 x6_1 x7_2 (wrap64 (x8_2 + 1)) a0_0 l0_1) = some r := by rw [if_neg (show ¬ (false = true) by decide)] at H; exact H
               clear H
               have H := H1
               clear H1
               have H' := Aside0.mk H
               clear H
               have hcz24_0 := zy BK478 0
               have hcz24_1 := zy BK478 1
               have hfz24_0 := blk_frozen BK478.out 0
               have hfz24_1 := blk_frozen BK478.out 1
               go_wp2_with (first | ((with_reducible refine gate_callee (f := 168) rfl ?_); refine zc 28 Try.func168 #[.int .i64 a0_0, .int .i64 x8_2] ?_; (with_reducible refine (spec_l2Bits.calls k2 a0_0 x8_2 t491 _ A13.out).mono ?_); rintro e w25 ⟨v492, rfl, ho0, hb⟩; refine ⟨_, rfl, ?_⟩; replace HO_5 := zM (Kd.N_elder' (by (with_reducible repeat (first | apply Kd.N_alloc | apply Kd.N_drewN | apply Kd.N_drew)); exact HO_5.out) (Kd.R_base ho0) hb); replace HO_7 := zM (Kd.N_elder' (by (with_reducible repeat (first | apply Kd.N_alloc | apply Kd.N_drewN | apply Kd.N_drew)); exact HO_7.out) (Kd.R_base ho0) hb); have HO493 := zM (Kd.R_lower (Kd.R_newM (M := fun k_ => (w.heap.size ≤ k_)) ho0 (below_size zB) (fun k_ h_ => h_)) (below_size zB)); replace BK478 := zM (blk_below (g := gb478) (o := .cells #[.int .i64 a0_0, .slice A0_1 l0_1.length c0_1] 43 (0, 0)) (zK BK478.out) hb); replace HB := zM (below_step zB hb); (try clear hb); (try clear hb2); (try clear hk); (try clear hi); (try clear ho0); obtain ⟨Ao26, co26, eo26⟩ := Kd.R_slice HO493.out; subst eo26; have hcz27_0 := zy BK478 0; have hcz27_1 := zy BK478 1; have hfz27_0 := blk_frozen BK478.out 0; have hfz27_1 := blk_frozen BK478.out 1) | (go_at_call 169; (with_reducible refine (spec_l4Has.calls k2 a0_0 _ _ l0_1 a1 _ _ t491 false _ ?side1 ?side2 ?side3 ?side4 A15.out).mono ?_); (case side1 => exact zC (Kd.C_below HR0_1.out HB.out)); (case side2 => exact HC0_1.out); (case side3 => exact zC (Kd.R_reads' HO493.out).2.2); (case side4 => exact (Kd.R_reads' HO493.out).2.1); rintro e w28 ⟨rfl, hb⟩; replace HO_5 := zM (Kd.N_below (by (with_reducible repeat (first | apply Kd.N_alloc | apply Kd.N_drewN | apply Kd.N_drew)); exact HO_5.out) hb); replace HO_7 := zM (Kd.N_below (by (with_reducible repeat (first | apply Kd.N_alloc | apply Kd.N_drewN | apply Kd.N_drew)); exact HO_7.out) hb); replace HO493 := zM (Kd.R_below (zR HO493.out) hb); replace BK478 := zM (blk_below (g := gb478) (o := .cells #[.int .i64 a0_0, .slice A0_1 l0_1.length c0_1] 43 (0, 0)) (zK BK478.out) hb); replace HB := zM (below_step zB hb); (try clear hb); (try clear hb2); (try clear hk); (try clear hi)))
               go_roundg k2
               case measure => have := HK1.out; have := HK2.out; omega
               case rel => exact ⟨(x7_2), (wrap64 (x8_2 + 1)), (by first | rfl | (simp; done) | (simp [*]; done)), H', ⟨by have := HK1.out; have := HK2.out; omega⟩, ⟨by (with_reducible repeat (first | apply Kd.N_alloc | apply Kd.N_drewN | apply Kd.N_drew)); exact Kd.N_mono HO_5.out (fun _ hk => ⟨hk.1.1, ⟨hk.1.2.1, hk.1.2.2⟩⟩)⟩, ⟨by (with_reducible repeat (first | apply Kd.N_alloc | apply Kd.N_drewN | apply Kd.N_drew)); exact Kd.N_mono HO_7.out (fun _ hk => ⟨hk.1.1, ⟨hk.1.2.1, hk.1.2.2⟩⟩)⟩, ⟨zK BK478.out⟩, ⟨zB⟩⟩
           · rw [if_neg c14] at H
             have c14b0 : ((t491.length : Int) == x6_1) = false := beq_eq_false_iff_ne.mpr c14
             have c14b1 : ((t491.length : Int) != x6_1) = true := bne_iff_ne.mpr c14
             have H' := Aside0.mk H
             clear H
             have hcz29_0 := zy BK478 0
             have hcz29_1 := zy BK478 1
             have hfz29_0 := blk_frozen BK478.out 0
             have hfz29_1 := blk_frozen BK478.out 1
             go_wp2_with (first | ((with_reducible refine gate_callee (f := 168) rfl ?_); refine zc 28 Try.func168 #[.int .i64 a0_0, .int .i64 x8_2] ?_; (with_reducible refine (spec_l2Bits.calls k2 a0_0 x8_2 t491 _ A13.out).mono ?_); rintro e w30 ⟨v492, rfl, ho0, hb⟩; refine ⟨_, rfl, ?_⟩; replace HO_5 := zM (Kd.N_elder' (by (with_reducible repeat (first | apply Kd.N_alloc | apply Kd.N_drewN | apply Kd.N_drew)); exact HO_5.out) (Kd.R_base ho0) hb); replace HO_7 := zM (Kd.N_elder' (by (with_reducible repeat (first | apply Kd.N_alloc | apply Kd.N_drewN | apply Kd.N_drew)); exact HO_7.out) (Kd.R_base ho0) hb); have HO493 := zM (Kd.R_lower (Kd.R_newM (M := fun k_ => (w.heap.size ≤ k_)) ho0 (below_size zB) (fun k_ h_ => h_)) (below_size zB)); replace BK478 := zM (blk_below (g := gb478) (o := .cells #[.int .i64 a0_0, .slice A0_1 l0_1.length c0_1] 43 (0, 0)) (zK BK478.out) hb); replace HB := zM (below_step zB hb); (try clear hb); (try clear hb2); (try clear hk); (try clear hi); (try clear ho0); obtain ⟨Ao31, co31, eo31⟩ := Kd.R_slice HO493.out; subst eo31))
             go_roundg k2
             case measure => have := HK1.out; have := HK2.out; omega
             case rel => exact ⟨(x7_2), (wrap64 (x8_2 + 1)), (by first | rfl | (simp; done) | (simp [*]; done)), H', ⟨by have := HK1.out; have := HK2.out; omega⟩, ⟨by (with_reducible repeat (first | apply Kd.N_alloc | apply Kd.N_drewN | apply Kd.N_drew)); exact Kd.N_mono HO_5.out (fun _ hk => ⟨hk.1.1, ⟨hk.1.2.1, hk.1.2.2⟩⟩)⟩, ⟨by (with_reducible repeat (first | apply Kd.N_alloc | apply Kd.N_drewN | apply Kd.N_drew)); exact Kd.N_mono HO_7.out (fun _ hk => ⟨hk.1.1, ⟨hk.1.2.1, hk.1.2.2⟩⟩)⟩, ⟨zK BK478.out⟩, ⟨zB⟩⟩
         · rw [if_neg c12] at H
           have c12b0 : decide (x8_2 < (ji11)) = false := decide_eq_false c12
           clear c12
           replace H := Option.bind_eq_some_iff.mp H
           obtain ⟨t485, A320, H⟩ := H
           have A32 := Aside0.mk A320
           clear A320
           by_cases c33 : x5_1.length + t485.length < 5864062014805
           · rw [if_pos c33] at H
             have LMc33 := Aside0.mk c33
             clear c33
             obtain ⟨y488, hy488⟩ : ∃ y_ : List (List Int), y_ = (x5_1 ++ t485) := ⟨_, rfl⟩
             replace H : (spec_l4Sets.l0 k2 a1 y488 (wrap64 (x6_1 + 1)) a0_0 l0_1) = some r := by first | (rw [hy488]; with_reducible exact H) | (have H2_ := (Option.bind_some _ _).symm.trans H; rw [hy488]; with_reducible exact H2_) | (have H2_ := (Option.bind_some _ _).symm.trans H; with_reducible exact H2_) | with_reducible exact H | (rw [hy488]; exact H) | exact H
             have Ny488 := Aside0.mk hy488
             clear hy488
             have H' := Aside0.mk H
             clear H
             have hcz34_0 := zy BK478 0
             have hcz34_1 := zy BK478 1
             have hfz34_0 := blk_frozen BK478.out 0
             have hfz34_1 := blk_frozen BK478.out 1
             obtain ⟨Ao35, co35, eo35⟩ := Kd.N_slice HO_7.out
             subst eo35
             go_wp2_with (first | ((with_reducible refine gate_callee (f := 100) rfl ?_); refine zc 45 Try.func100 #[.slice Ao35 x7_2.length co35] ?_; (with_reducible refine (spec_l2Sorted.calls k2 _ _ x7_2 t485 _ ?side1 ?side2 A32.out).mono ?_); (case side1 => exact zC (Kd.N_reads' HO_7.out).2.2); (case side2 => exact (Kd.N_reads' HO_7.out).2.1); rintro e w36 ⟨v486, rfl, ho0, hb⟩; refine ⟨_, rfl, ?_⟩; have HO487 := zM (Kd.N_lower (Kd.N_mono (ok' := fun k_ => (w.heap.size ≤ k_) ∧ some k_ ≠ (u5 : Value).ownBlock ∧ some k_ ≠ (.slice Ao35 x7_2.length co35 : Value).ownBlock ∧ k_ ≠ gb478) ho0 (fun k_ hk_ => ⟨(Nat.le_trans (below_size zB) hk_), (Kd.fresh' (Kd.N_lt (by (with_reducible repeat (first | apply Kd.N_alloc | apply Kd.N_drewN | apply Kd.N_drew)); exact HO_5.out)) k_ hk_), (Kd.fresh' (Kd.N_lt (by (with_reducible repeat (first | apply Kd.N_alloc | apply Kd.N_drewN | apply Kd.N_drew)); exact HO_7.out)) k_ hk_), (Kd.freshB (g := gb478) (o := .cells #[.int .i64 a0_0, .slice A0_1 l0_1.length c0_1] 43 (0, 0)) (zK BK478.out) k_ hk_)⟩)) (below_size zB)); replace HO_5 := zM (Kd.N_elder' (by (with_reducible repeat (first | apply Kd.N_alloc | apply Kd.N_drewN | apply Kd.N_drew)); exact HO_5.out) (Kd.N_base ho0) hb); replace HO_7 := zM (Kd.N_elder' (by (with_reducible repeat (first | apply Kd.N_alloc | apply Kd.N_drewN | apply Kd.N_drew)); exact HO_7.out) (Kd.N_base ho0) hb); replace BK478 := zM (blk_below (g := gb478) (o := .cells #[.int .i64 a0_0, .slice A0_1 l0_1.length c0_1] 43 (0, 0)) (zK BK478.out) hb); replace HB := zM (below_step zB hb); (try clear hb); (try clear hb2); (try clear hk); (try clear hi); (try clear ho0); obtain ⟨Ao38, co38, eo38⟩ := Kd.N_slice HO487.out; subst eo38) | ((with_reducible refine gate_builtin (b := .append) (xs := #[.tmp 43, .tmp 45]) rfl ?_); at_builtin; refine Kd.N_append_rows (Kd.slice 3 (Kd.int .i64)) (w0 := w) w.heap.size rfl (.tmp 43) (.tmp 45) 22 26 (.slice none 0 0) 24 rfl Try.underlying22 info26 rfl (by decide) (by omega) u5 x5_1 t485 _ _ _ (fun k_ => (w.heap.size ≤ k_) ∧ some k_ ≠ (.slice Ao35 x7_2.length co35 : Value).ownBlock ∧ k_ ≠ gb478) (fun k_ => ((fun k_ => (w.heap.size ≤ k_) ∧ some k_ ≠ (.slice Ao35 x7_2.length co35 : Value).ownBlock ∧ k_ ≠ gb478)) k_ ∧ some k_ ≠ (u5 : Value).ownBlock) rfl rfl ?aO ?aR (fun _ hk => hk) ?aF ?aB ?aS ?aL ?_; (case aR => exact (by skip; exact Kd.N_F (Kd.N_mono (ok' := (fun k_ => ((fun k_ => (w.heap.size ≤ k_) ∧ some k_ ≠ (.slice Ao35 x7_2.length co35 : Value).ownBlock ∧ k_ ≠ gb478)) k_ ∧ some k_ ≠ (u5 : Value).ownBlock)) (HO487.out) (fun k_ hk => ⟨⟨hk.1, ⟨hk.2.2.1, hk.2.2.2⟩⟩, hk.2.1⟩)))); (case aB => exact zB); (case aF => exact (fun k_ hk => ⟨(Nat.le_trans (below_size zB) hk), Kd.fresh' (Kd.N_lt (by (with_reducible repeat (first | apply Kd.N_alloc | apply Kd.N_drewN | apply Kd.N_drew)); exact HO_7.out)) k_ hk, Kd.freshB (g := gb478) (o := .cells #[.int .i64 a0_0, .slice A0_1 l0_1.length c0_1] 43 (0, 0)) (zK BK478.out) k_ hk⟩)); (case aO => exact (by (with_reducible repeat (first | apply Kd.N_alloc | apply Kd.N_drewN | apply Kd.N_drew)); exact Kd.N_mono HO_5.out (fun _ hk => ⟨hk.1.1, ⟨hk.1.2.1, hk.1.2.2⟩⟩))); (case aS => exact (below_size zB)); (case aL => have := LMc33.out; omega); intro v489 w37 ho hb hg hat; rw [← Ny488.out] at ho; replace HO_7 := zM (Kd.N_afterv (ok := (fun k_ => (w.heap.size ≤ k_) ∧ some k_ ≠ (.slice Ao38 t485.length co38 : Value).ownBlock ∧ k_ ≠ gb478)) (by (with_reducible repeat (first | apply Kd.N_alloc | apply Kd.N_drewN | apply Kd.N_drew)); exact Kd.N_mono HO_7.out (fun _ hk => ⟨⟨hk.1.1, ⟨hk.2, hk.1.2.2⟩⟩, hk.1.2.1⟩)) hg hat); replace BK478 := zM (blk_grown (g := gb478) (o := .cells #[.int .i64 a0_0, .slice A0_1 l0_1.length c0_1] 43 (0, 0)) (zK BK478.out) hg (Kd.N_ne HO_5.out BK478.out (by decide))); replace HO487 := zM (Kd.N_afterv (ok := (fun k_ => (w.heap.size ≤ k_) ∧ some k_ ≠ (.slice Ao35 x7_2.length co35 : Value).ownBlock ∧ k_ ≠ gb478)) (by (with_reducible repeat (first | apply Kd.N_alloc | apply Kd.N_drewN | apply Kd.N_drew)); exact Kd.N_mono HO487.out (fun _ hk => ⟨⟨hk.1, ⟨hk.2.2.1, hk.2.2.2⟩⟩, hk.2.1⟩)) hg hat); replace HB := zM (hb); have HO490 := zM (ho); clear HO_5; clear ho hb hg hat))
             go_roundg k2
             case measure => have := HK1.out; have := HK2.out; omega
             case rel => exact ⟨(y488), (wrap64 (x6_1 + 1)), (by first | rfl | (simp; done) | (simp [*]; done)), H', ⟨by have := HK1.out; have := HK2.out; omega⟩, ⟨by (with_reducible repeat (first | apply Kd.N_alloc | apply Kd.N_drewN | apply Kd.N_drew)); exact Kd.N_mono HO490.out (fun _ hk => ⟨hk.1, hk.2.2⟩)⟩, ⟨zK BK478.out⟩, ⟨zB⟩⟩
           · rw [if_neg c33] at H
             exact absurd H (by simp)
       · rw [if_neg c10] at H
         exact absurd H (by simp)
   · rw [if_neg c6] at H
     have c6b0 : decide (x6_1 ≤ a0_0) = false := decide_eq_false c6
     clear c6
     obtain rfl := Option.some.inj H
     have hcz39_0 := zy BK478 0
     have hcz39_1 := zy BK478 1
     have hfz39_0 := blk_frozen BK478.out 0
     have hfz39_1 := blk_frozen BK478.out 1
     go_wp2
     go_ret
     exact ⟨_, by first | rfl | (simp [errW_none, errW_some] <;> rfl) | (simp [*, errW_none, errW_some] <;> rfl), by (with_reducible repeat (first | apply Kd.N_alloc | apply Kd.N_drewN | apply Kd.N_drew)); exact Kd.N_mono HO_5.out (fun _ hk => hk.1), zB⟩

/-! ### spec_l4Best: function 81 -/
def spec_l4Best.l0 : Nat → Int → List (List Int) → List Int → Int → Option (List Int)
 | 0, _, _, _, _ => none
 | k + 1, x1, x5, x6, x7 => if x7 < (x5.length : Int) then (if x1 = 2 then (if 0 ≤ x7 then (if ((rd_L4 x5 x7).length : Int) > (x6.length : Int) then (spec_l4Best.l0 k x1 x5 (rd_L4 x5 x7) (wrap64 (x7 + 1))) else (spec_l4Best.l0 k x1 x5 x6 (wrap64 (x7 + 1)))) else (none)) else (spec_l4Best.l0 k x1 x5 x6 (wrap64 (x7 + 1)))) else (some x6)
def spec_l4Best.f (k : Nat) (a0_0 : Int) (l0_1 : List (S64)) (a1 : Int) : Option (List Int) := (spec_l4Sets.f k a0_0 l0_1 a1).bind fun t499 => (if 0 < (t499.length : Int) then (spec_l4Best.l0 k a1 t499 (rd_L4 t499 0) 1) else (none))
set_option maxHeartbeats 8000000 in
set_option maxRecDepth 100000 in
theorem spec_l4Best.calls (k : Nat) (a0_0 : Int) (A0_1 : Option Addr) (c0_1 : Nat) (l0_1 : List (S64)) (a1 : Int) (r : List Int) (w : World) (hr0_1 : Kd.C k64 w A0_1 l0_1.length l0_1) (hc0_1 : l0_1.length ≤ c0_1) (h : spec_l4Best.f k a0_0 l0_1 a1 = some r) :
 Calls Try.prog 81 #[.agg #[.int .i64 a0_0, .slice A0_1 l0_1.length c0_1], .int .i64 a1] w fun e w' => ∃ v0_ : Value, e = .returned (v0_) ∧ Kd.V (Kd.int .i64) 3 w' w.heap.size (fun k_ => (w.heap.size ≤ k_)) v0_ r ∧ Below w.heap.size w w' := by
 have hu43 := Try.underlying43
 have HR0_1 := Aside0.mk hr0_1
 have HC0_1 := Aside0.mk hc0_1
 clear hr0_1 hc0_1
 have HB := zM (Below.refl w.heap.size w)
 have H : ((spec_l4Sets.f k a0_0 l0_1 a1).bind fun t499 => (if 0 < (t499.length : Int) then (spec_l4Best.l0 k a1 t499 (rd_L4 t499 0) 1) else (none))) = some r := h
 clear h
 replace H := Option.bind_eq_some_iff.mp H
 obtain ⟨t499, A30, H⟩ := H
 have A3 := Aside0.mk A30
 clear A30
 by_cases c4 : 0 < (t499.length : Int)
 · rw [if_pos c4] at H
   have c4b0 := decide_eq_true c4
   have c4b1 : decide (0 < t499.length) = true := decide_eq_true (by omega)
   clear c4
   have H' := Aside0.mk H
   clear H
   go_enter Try.func81, Try.ntmps81
   go_wp2_with (first | ((with_reducible refine gate_dst (N := 2) rfl ?_); (try (refine gate_guard (by rfl) ?_; dsimp only)); refine zb (w := w) 2 #[.int .i64 a0_0, .slice A0_1 l0_1.length c0_1] 43 zB ?_; clear HB; intro gb498 w5 HB BK498 GW498; have GE498 := GW498; have hcz6_0 := zy BK498 0; have hcz6_1 := zy BK498 1; have hfz6_0 := blk_frozen BK498.out 0; have hfz6_1 := blk_frozen BK498.out 1) | ((with_reducible refine gate_callee (f := 144) rfl ?_); refine zc 10 Try.func144 #[.agg #[.int .i64 a0_0, .slice A0_1 l0_1.length c0_1], .int .i64 a1] ?_; (with_reducible refine (spec_l4Sets.calls k a0_0 _ _ l0_1 a1 t499 _ ?side1 ?side2 A3.out).mono ?_); (case side1 => exact zC (Kd.C_below HR0_1.out HB.out)); (case side2 => exact HC0_1.out); rintro e w7 ⟨v500, rfl, ho0, hb⟩; refine ⟨_, rfl, ?_⟩; have HO501 := zM (Kd.N_lower (Kd.N_mono (ok' := fun k_ => (w.heap.size ≤ k_) ∧ k_ ≠ gb498) ho0 (fun k_ hk_ => ⟨(Nat.le_trans (below_size zB) hk_), (Kd.freshB (g := gb498) (o := .cells #[.int .i64 a0_0, .slice A0_1 l0_1.length c0_1] 43 (0, 0)) (zK BK498.out) k_ hk_)⟩)) (below_size zB)); replace BK498 := zM (blk_below (g := gb498) (o := .cells #[.int .i64 a0_0, .slice A0_1 l0_1.length c0_1] 43 (0, 0)) (zK BK498.out) hb); replace HB := zM (below_step zB hb); (try clear hb); (try clear hb2); (try clear hk); (try clear hi); (try clear ho0); obtain ⟨Ao8, co8, eo8⟩ := Kd.N_slice HO501.out; subst eo8; have p502 : 0 ≤ (0 : Int) := (by omega); have q502 : 0 < (t499.length : Int) := of_decide_eq_true zA; obtain ⟨ad502, A502_0, c502_0, e502, hx502_0, hl502_0, hi502_0⟩ := at_L4 (Kd.N_reads' HO501.out).2.2 0 p502 q502; cases e502; obtain ⟨ce502, hce502, hMe502, hcc502⟩ := Kd.N_get HO501.out [] 0 p502 (by first | exact q502 | exact of_decide_eq_true zA | (have e_ := (Kd.N_reads' HO501.out).1; omega)); obtain ⟨ua502_0, uc502_0, rfl, ul502_0, ge502_0⟩ := Kd.FK_slice_open hMe502; have hv502_0 := hcc502 0 _ rfl; rw [Nat.add_zero, show ((Kd.slice 3 (Kd.int .i64))).sz = 1 from rfl, Nat.mul_one] at hv502_0; replace hv502_0 := Option.some.inj (hv502_0.symm.trans hx502_0); injection hv502_0 with hva_ hvn_ hvc_; rw [hva_] at ge502_0; rw [hvc_] at ul502_0; have HL502_0 := zM (show Kd.V (Kd.int .i64) 3 _ w.heap.size _ _ (rd_L4 t499 0) from Kd.V_mk ul502_0 ge502_0); clear hva_ hvn_ hvc_ ge502_0 ul502_0; clear hcc502 hce502; have qi502 : (0 < t499.length) = True := eq_true (by omega); (try rw [show ((0 : Int)).toNat = 0 from rfl] at hx502_0); (try rw [Addr.add_zero'] at hx502_0); have HR502_0 := Aside0.mk hi502_0; have HC502_0 := Aside0.mk hl502_0; clear hi502_0 hl502_0; replace p502 := eq_true p502; replace q502 := eq_true q502))
   go_loopg [6, 7] k (fun kq v6 v7 w' => ∃ (x6_1 : List Int) (x7_1 : Int), v7 = .int .i64 x7_1 ∧ Aside0 (spec_l4Best.l0 kq a1 t499 x6_1 x7_1 = some r) ∧ Aside0 (kq ≤ k) ∧ Aside0 (Kd.N (Kd.slice 3 (Kd.int .i64)) 26 w' w.heap.size (fun k_ => (w.heap.size ≤ k_) ∧ k_ ≠ gb498) (.slice (some ad502) t499.length co8) t499) ∧ Aside0 (Kd.V (Kd.int .i64) 3 w' w.heap.size (fun k_ => (w.heap.size ≤ k_) ∧ some k_ ≠ ((.slice (some ad502) t499.length co8) : Value).ownBlock ∧ k_ ≠ gb498) v6 x6_1) ∧ Aside0 (w'.heap[gb498]? = some (.cells #[.int .i64 a0_0, (.slice A0_1 l0_1.length c0_1)] 43 (0, 0))) ∧ Aside0 (Kd.C (Kd.int .i64) w' A502_0 (rd_L4 t499 0).length (rd_L4 t499 0)) ∧ Aside0 (Below w.heap.size w w'))
   case atStart => exact ⟨(rd_L4 t499 0), (1), (by first | rfl | (simp; done) | (simp [*]; done)), H', ⟨Nat.le_refl _⟩, ⟨by (with_reducible repeat (first | apply Kd.N_alloc | apply Kd.N_drewN | apply Kd.N_drew)); exact HO501.out⟩, ⟨by (with_reducible repeat (first | apply Kd.V_alloc | apply Kd.V_drewN | apply Kd.V_drew)); exact Kd.V_mono HL502_0.out (fun _ hk => ⟨hk.1.1, ⟨hk.2, hk.1.2⟩⟩)⟩, ⟨zK BK498.out⟩, ⟨zC HR502_0.out⟩, ⟨zB⟩⟩
   case round =>
    clear H'
    try clear c1
    try clear p2
    try clear c4
    try clear c4b0
    try clear c4b1
    try clear c5
    try clear p5
    try clear q5
    try clear hx5
    try clear qi5
    try clear c8
    try clear hcz6_0
    try clear hcz6_1
    try clear hfz6_0
    try clear hfz6_1
    try clear hx502_0
    try clear p502
    try clear q502
    obtain ⟨x6_1, x7_1, rfl, HA, HK1, HO_5, HO_6, BK498, HR502_0, HB⟩ := hrel
    cases gk with
    | zero => exact absurd HA.out (by simp [spec_l4Best.l0])
    | succ k1 =>
     have H := HA.out
     clear HA
     simp only [spec_l4Best.l0] at H
     by_cases c9 : x7_1 < (t499.length : Int)
     · rw [if_pos c9] at H
       have c9b0 := decide_eq_true c9
       clear c9
       by_cases c10 : a1 = 2
       · rw [if_pos c10] at H
         have c10b0 : (a1 == 2) = true := beq_iff_eq.mpr c10
         have c10b1 : (a1 != 2) = false := bne_eq_false_iff_eq.mpr c10
         clear c10
         by_cases c11 : 0 ≤ x7_1
         · rw [if_pos c11] at H
           have c11b0 := decide_eq_true c11
           clear c11
           by_cases c12 : ((rd_L4 t499 x7_1).length : Int) > (x6_1.length : Int)
           · rw [if_pos c12] at H
             have c12b0 : decide ((x6_1.length : Int) < ((rd_L4 t499 x7_1).length : Int)) = true := decide_eq_true c12
             have c12b1 : decide (x6_1.length < (rd_L4 t499 x7_1).length) = true := decide_eq_true (Int.ofNat_lt.mp c12)
             clear c12
             have H' := Aside0.mk H
             clear H
             have p503 : 0 ≤ (x7_1 : Int) := of_decide_eq_true zA
             have q503 : x7_1 < (t499.length : Int) := of_decide_eq_true zA
             obtain ⟨ad503, A503_0, c503_0, e503, hx503_0, hl503_0, hi503_0⟩ := at_L4 (Kd.N_reads' HO_5.out).2.2 x7_1 p503 q503
             obtain rfl : ad502 = ad503 := (by injection e503)
             obtain ⟨ce503, hce503, hMe503, hcc503⟩ := Kd.N_get HO_5.out [] x7_1 p503 (by first | exact q503 | exact of_decide_eq_true zA | (have e_ := (Kd.N_reads' HO_5.out).1; omega))
             obtain ⟨ua503_0, uc503_0, rfl, ul503_0, ge503_0⟩ := Kd.FK_slice_open hMe503
             have hv503_0 := hcc503 0 _ rfl
             rw [Nat.add_zero, show ((Kd.slice 3 (Kd.int .i64))).sz = 1 from rfl, Nat.mul_one] at hv503_0
             replace hv503_0 := Option.some.inj (hv503_0.symm.trans hx503_0)
             injection hv503_0 with hva_ hvn_ hvc_
             rw [hva_] at ge503_0
             rw [hvc_] at ul503_0
             have HL503_0 := zM (show Kd.V (Kd.int .i64) 3 _ w.heap.size _ _ (rd_L4 t499 x7_1) from Kd.V_mk ul503_0 ge503_0)
             clear hva_ hvn_ hvc_ ge503_0 ul503_0
             clear hcc503 hce503
             have HR503_0 := Aside0.mk hi503_0
             have HC503_0 := Aside0.mk hl503_0
             clear hi503_0 hl503_0
             replace p503 := eq_true p503
             replace q503 := eq_true q503
             obtain ⟨Ao13, co13, eo13⟩ := Kd.V_slice HO_6.out
             subst eo13
             have p504 : 0 ≤ (x7_1 : Int) := of_decide_eq_true zA
             have q504 : x7_1 < (t499.length : Int) := of_decide_eq_true zA
             obtain ⟨ad504, A504_0, c504_0, e504, hx504_0, hl504_0, hi504_0⟩ := at_L4 (Kd.N_reads' HO_5.out).2.2 x7_1 p504 q504
             obtain rfl : ad502 = ad504 := (by injection e504)
             obtain ⟨ce504, hce504, hMe504, hcc504⟩ := Kd.N_get HO_5.out [] x7_1 p504 (by first | exact q504 | exact of_decide_eq_true zA | (have e_ := (Kd.N_reads' HO_5.out).1; omega))
             obtain ⟨ua504_0, uc504_0, rfl, ul504_0, ge504_0⟩ := Kd.FK_slice_open hMe504
             have hv504_0 := hcc504 0 _ rfl
             rw [Nat.add_zero, show ((Kd.slice 3 (Kd.int .i64))).sz = 1 from rfl, Nat.mul_one] at hv504_0
             replace hv504_0 := Option.some.inj (hv504_0.symm.trans hx504_0)
             injection hv504_0 with hva_ hvn_ hvc_
             rw [hva_] at ge504_0
             rw [hvc_] at ul504_0
             have HL504_0 := zM (show Kd.V (Kd.int .i64) 3 _ w.heap.size _ _ (rd_L4 t499 x7_1) from Kd.V_mk ul504_0 ge504_0)
             clear hva_ hvn_ hvc_ ge504_0 ul504_0
             clear hcc504 hce504
             have HR504_0 := Aside0.mk hi504_0
             have HC504_0 := Aside0.mk hl504_0
             clear hi504_0 hl504_0
             replace p504 := eq_true p504
             replace q504 := eq_true q504
             have ea_ := Option.some.inj (hx503_0.symm.trans hx504_0)
             injection ea_ with ea_ en_ ec_
             subst ea_
             subst ec_
             clear en_
             go_wp2
             go_roundg k1
             case measure => have := HK1.out; omega
             case rel => exact ⟨(rd_L4 t499 x7_1), (wrap64 (x7_1 + 1)), (by first | rfl | (simp; done) | (simp [*]; done)), H', ⟨by have := HK1.out; omega⟩, ⟨by (with_reducible repeat (first | apply Kd.N_alloc | apply Kd.N_drewN | apply Kd.N_drew)); exact HO_5.out⟩, ⟨by (with_reducible repeat (first | apply Kd.V_alloc | apply Kd.V_drewN | apply Kd.V_drew)); exact Kd.V_mono HL504_0.out (fun _ hk => ⟨hk.1.1, ⟨hk.2, hk.1.2⟩⟩)⟩, ⟨zK BK498.out⟩, ⟨zC HR502_0.out⟩, ⟨zB⟩⟩
           · rw [if_neg c12] at H
             have c12b0 : decide ((x6_1.length : Int) < ((rd_L4 t499 x7_1).length : Int)) = false := decide_eq_false c12
             have c12b1 : decide (x6_1.length < (rd_L4 t499 x7_1).length) = false := decide_eq_false (fun h => c12 (Int.ofNat_lt.mpr h))
             clear c12
             have H' := Aside0.mk H
             clear H
             have p503 : 0 ≤ (x7_1 : Int) := of_decide_eq_true zA
             have q503 : x7_1 < (t499.length : Int) := of_decide_eq_true zA
             obtain ⟨ad503, A503_0, c503_0, e503, hx503_0, hl503_0, hi503_0⟩ := at_L4 (Kd.N_reads' HO_5.out).2.2 x7_1 p503 q503
             obtain rfl : ad502 = ad503 := (by injection e503)
             obtain ⟨ce503, hce503, hMe503, hcc503⟩ := Kd.N_get HO_5.out [] x7_1 p503 (by first | exact q503 | exact of_decide_eq_true zA | (have e_ := (Kd.N_reads' HO_5.out).1; omega))
             obtain ⟨ua503_0, uc503_0, rfl, ul503_0, ge503_0⟩ := Kd.FK_slice_open hMe503
             have hv503_0 := hcc503 0 _ rfl
             rw [Nat.add_zero, show ((Kd.slice 3 (Kd.int .i64))).sz = 1 from rfl, Nat.mul_one] at hv503_0
             replace hv503_0 := Option.some.inj (hv503_0.symm.trans hx503_0)
             injection hv503_0 with hva_ hvn_ hvc_
             rw [hva_] at ge503_0
             rw [hvc_] at ul503_0
             have HL503_0 := zM (show Kd.V (Kd.int .i64) 3 _ w.heap.size _ _ (rd_L4 t499 x7_1) from Kd.V_mk ul503_0 ge503_0)
             clear hva_ hvn_ hvc_ ge503_0 ul503_0
             clear hcc503 hce503
             have HR503_0 := Aside0.mk hi503_0
             have HC503_0 := Aside0.mk hl503_0
             clear hi503_0 hl503_0
             replace p503 := eq_true p503
             replace q503 := eq_true q503
             obtain ⟨Ao14, co14, eo14⟩ := Kd.V_slice HO_6.out
             subst eo14
             go_wp2
             go_roundg k1
             case measure => have := HK1.out; omega
             case rel => exact ⟨(x6_1), (wrap64 (x7_1 + 1)), (by first | rfl | (simp; done) | (simp [*]; done)), H', ⟨by have := HK1.out; omega⟩, ⟨by (with_reducible repeat (first | apply Kd.N_alloc | apply Kd.N_drewN | apply Kd.N_drew)); exact HO_5.out⟩, ⟨by (with_reducible repeat (first | apply Kd.V_alloc | apply Kd.V_drewN | apply Kd.V_drew)); exact HO_6.out⟩, ⟨zK BK498.out⟩, ⟨zC HR502_0.out⟩, ⟨zB⟩⟩
         · rw [if_neg c11] at H
           exact absurd H (by simp)
       · rw [if_neg c10] at H
         have c10b0 : (a1 == 2) = false := beq_eq_false_iff_ne.mpr c10
         have c10b1 : (a1 != 2) = true := bne_iff_ne.mpr c10
         have H' := Aside0.mk H
         clear H
         go_wp2
         go_roundg k1
         case measure => have := HK1.out; omega
         case rel => exact ⟨(x6_1), (wrap64 (x7_1 + 1)), (by first | rfl | (simp; done) | (simp [*]; done)), H', ⟨by have := HK1.out; omega⟩, ⟨by (with_reducible repeat (first | apply Kd.N_alloc | apply Kd.N_drewN | apply Kd.N_drew)); exact HO_5.out⟩, ⟨by (with_reducible repeat (first | apply Kd.V_alloc | apply Kd.V_drewN | apply Kd.V_drew)); exact HO_6.out⟩, ⟨zK BK498.out⟩, ⟨zC HR502_0.out⟩, ⟨zB⟩⟩
     · rw [if_neg c9] at H
       have c9b0 : decide (x7_1 < (t499.length : Int)) = false := decide_eq_false c9
       clear c9
       obtain rfl := Option.some.inj H
       go_wp2
       go_ret
       exact ⟨_, by first | rfl | (simp [errW_none, errW_some] <;> rfl) | (simp [*, errW_none, errW_some] <;> rfl), by (with_reducible repeat (first | apply Kd.V_alloc | apply Kd.V_drewN | apply Kd.V_drew)); exact Kd.V_mono HO_6.out (fun _ hk => hk.1), zB⟩
 · rw [if_neg c4] at H
   exact absurd H (by simp)

/-! ### spec_BestOfKind: function 23 -/
def spec_BestOfKind.f (k : Nat) (a0_0 : Int) (l0_1 : List (S64)) (a1 : Int) : Option (List Int × Bool) := (spec_l4Good.f k a0_0 l0_1 a1).bind fun t506 => (if t506 = true then ((spec_l4Best.f k a0_0 l0_1 a1).bind fun t507 => (some (t507, true))) else (some ((([] : List Int)), false)))
set_option maxHeartbeats 8000000 in
set_option maxRecDepth 100000 in
theorem spec_BestOfKind.calls (k : Nat) (a0_0 : Int) (A0_1 : Option Addr) (c0_1 : Nat) (l0_1 : List (S64)) (a1 : Int) (r1 : List Int) (r2 : Bool) (w : World) (hr0_1 : Kd.C k64 w A0_1 l0_1.length l0_1) (hc0_1 : l0_1.length ≤ c0_1) (h : spec_BestOfKind.f k a0_0 l0_1 a1 = some (r1, r2)) :
 Calls Try.prog 23 #[.agg #[.int .i64 a0_0, .slice A0_1 l0_1.length c0_1], .int .i64 a1] w fun e w' => ∃ v0_ : Value, e = .returned (.tuple #[v0_, .bool r2]) ∧ Kd.V (Kd.int .i64) 3 w' w.heap.size (fun k_ => (w.heap.size ≤ k_)) v0_ r1 ∧ Below w.heap.size w w' := by
 have hu43 := Try.underlying43
 have HR0_1 := Aside0.mk hr0_1
 have HC0_1 := Aside0.mk hc0_1
 clear hr0_1 hc0_1
 have HB := zM (Below.refl w.heap.size w)
 have H : ((spec_l4Good.f k a0_0 l0_1 a1).bind fun t506 => (if t506 = true then ((spec_l4Best.f k a0_0 l0_1 a1).bind fun t507 => (some (t507, true))) else (some ((([] : List Int)), false)))) = some (r1, r2) := h
 clear h
 replace H := Option.bind_eq_some_iff.mp H
 obtain ⟨t506, A30, H⟩ := H
 replace H : (if t506 = true then ((spec_l4Best.f k a0_0 l0_1 a1).bind fun t507 => (some (t507, true))) else (some ((([] : List Int)), false))) = some (r1, r2) := H
 have A3 := Aside0.mk A30
 clear A30
 by_cases c4 : t506 = true
 · subst c4
   have H1 : ((spec_l4Best.f k a0_0 l0_1 a1).bind fun t507 => (some (t507, true))) = some (r1, r2) := by rw [if_pos rfl] at H; exact H
   clear H
   have H := H1
   clear H1
   replace H := Option.bind_eq_some_iff.mp H
   obtain ⟨t507, A50, H⟩ := H
   replace H : (some (t507, true)) = some (r1, r2) := H
   have A5 := Aside0.mk A50
   clear A50
   simp only [Option.some.injEq, Prod.mk.injEq] at H
   obtain ⟨rfl, rfl⟩ := H
   go_enter Try.func23, Try.ntmps23
   go_wp2_with (first | ((with_reducible refine gate_dst (N := 2) rfl ?_); refine zb (w := w) 2 #[.int .i64 a0_0, .slice A0_1 l0_1.length c0_1] 43 zB ?_; clear HB; intro gb505 w6 HB BK505 GW505; have GE505 := GW505; have hcz7_0 := zy BK505 0; have hcz7_1 := zy BK505 1; have hfz7_0 := blk_frozen BK505.out 0; have hfz7_1 := blk_frozen BK505.out 1) | ((with_reducible refine gate_callee (f := 80) rfl ?_); refine zc 8 Try.func80 #[.agg #[.int .i64 a0_0, .slice A0_1 l0_1.length c0_1], .int .i64 a1] ?_; (with_reducible refine (spec_l4Good.calls k a0_0 _ _ l0_1 a1 true _ ?side1 ?side2 A3.out).mono ?_); (case side1 => exact zC (Kd.C_below HR0_1.out HB.out)); (case side2 => exact HC0_1.out); rintro e w8 ⟨rfl, hb⟩; refine ⟨_, rfl, ?_⟩; replace BK505 := zM (blk_below (g := gb505) (o := .cells #[.int .i64 a0_0, .slice A0_1 l0_1.length c0_1] 43 (0, 0)) (zK BK505.out) hb); replace HB := zM (below_step zB hb); (try clear hb); (try clear hb2); (try clear hk); (try clear hi); have hcz9_0 := zy BK505 0; have hcz9_1 := zy BK505 1; have hfz9_0 := blk_frozen BK505.out 0; have hfz9_1 := blk_frozen BK505.out 1) | ((with_reducible refine gate_callee (f := 81) rfl ?_); refine zc 13 Try.func81 #[.agg #[.int .i64 a0_0, .slice A0_1 l0_1.length c0_1], .int .i64 a1] ?_; (with_reducible refine (spec_l4Best.calls k a0_0 _ _ l0_1 a1 t507 _ ?side1 ?side2 A5.out).mono ?_); (case side1 => exact zC (Kd.C_below HR0_1.out HB.out)); (case side2 => exact HC0_1.out); rintro e w10 ⟨v508, rfl, ho0, hb⟩; refine ⟨_, rfl, ?_⟩; have HO509 := zM (Kd.V_lower (Kd.V_mono (ok' := fun k_ => (w.heap.size ≤ k_) ∧ k_ ≠ gb505) ho0 (fun k_ hk_ => ⟨(Nat.le_trans (below_size zB) hk_), (Kd.freshB (g := gb505) (o := .cells #[.int .i64 a0_0, .slice A0_1 l0_1.length c0_1] 43 (0, 0)) (zK BK505.out) k_ hk_)⟩)) (below_size zB)); replace BK505 := zM (blk_below (g := gb505) (o := .cells #[.int .i64 a0_0, .slice A0_1 l0_1.length c0_1] 43 (0, 0)) (zK BK505.out) hb); replace HB := zM (below_step zB hb); (try clear hb); (try clear hb2); (try clear hk); (try clear hi); (try clear ho0)))
   go_ret2
   exact ⟨_, by first | rfl | (simp [errW_none, errW_some] <;> rfl) | (simp [*, errW_none, errW_some] <;> rfl), by (with_reducible repeat (first | apply Kd.V_alloc | apply Kd.V_drewN | apply Kd.V_drew)); exact Kd.V_mono HO509.out (fun _ hk => hk.1), zB⟩
 · replace c4 := Bool.eq_false_iff.mpr c4
   subst c4
   have H1 : (some ((([] : List Int)), false)) = some (r1, r2) := by rw [if_neg (show ¬ (false = true) by decide)] at H; exact H
   clear H
   have H := H1
   clear H1
   obtain ⟨y510, hy510⟩ : ∃ y_ : List Int, y_ = (([] : List Int)) := ⟨_, rfl⟩
   replace H : (some (y510, false)) = some (r1, r2) := by first | (rw [hy510]; with_reducible exact H) | (have H2_ := (Option.bind_some _ _).symm.trans H; rw [hy510]; with_reducible exact H2_) | (have H2_ := (Option.bind_some _ _).symm.trans H; with_reducible exact H2_) | with_reducible exact H | (rw [hy510]; exact H) | exact H
   have Ny510 := Aside0.mk hy510
   clear hy510
   simp only [Option.some.injEq, Prod.mk.injEq] at H
   obtain ⟨rfl, rfl⟩ := H
   go_enter Try.func23, Try.ntmps23
   go_wp2_with (first | ((with_reducible refine gate_dst (N := 2) rfl ?_); refine zb (w := w) 2 #[.int .i64 a0_0, .slice A0_1 l0_1.length c0_1] 43 zB ?_; clear HB; intro gb505 w11 HB BK505 GW505; have GE505 := GW505; have hcz12_0 := zy BK505 0; have hcz12_1 := zy BK505 1; have hfz12_0 := blk_frozen BK505.out 0; have hfz12_1 := blk_frozen BK505.out 1) | ((with_reducible refine gate_callee (f := 80) rfl ?_); refine zc 8 Try.func80 #[.agg #[.int .i64 a0_0, .slice A0_1 l0_1.length c0_1], .int .i64 a1] ?_; (with_reducible refine (spec_l4Good.calls k a0_0 _ _ l0_1 a1 false _ ?side1 ?side2 A3.out).mono ?_); (case side1 => exact zC (Kd.C_below HR0_1.out HB.out)); (case side2 => exact HC0_1.out); rintro e w13 ⟨rfl, hb⟩; refine ⟨_, rfl, ?_⟩; replace BK505 := zM (blk_below (g := gb505) (o := .cells #[.int .i64 a0_0, .slice A0_1 l0_1.length c0_1] 43 (0, 0)) (zK BK505.out) hb); replace HB := zM (below_step zB hb); (try clear hb); (try clear hb2); (try clear hk); (try clear hi)) | ((with_reducible refine gate_dst (N := 10) rfl ?_); refine Kd.R_lit (Kd.int .i64) _ 3 ?hg (N := 10) ?hd (xs := ([] : List Int)) (inner := []) (ok := fun _ => True) (okp := fun _ => True) ?hr ?hp (fun _ hk => hk) trivial (Below.refl _ _) (Nat.le_refl _) (by simp) ?_; (case hd => rfl); (case hg => rfl); (case hr => first | (go_simp; done) | (go_simp; rfl)); (case hp => exact (Reps.none _ _)); intro v511 w14 ho15 hb hg_ hnew_; clear hg_ hnew_; (first | rw [← Ny510.out] at ho15 | (simp only [Int.reduceToNat] at ho15; rw [← Ny510.out] at ho15)); have HO512 := zM (Kd.R_lower (Kd.R_newM (M := fun k_ => (w.heap.size ≤ k_)) ho15 (below_size zB) (fun k_ h_ => h_)) (below_size zB)); replace BK505 := zM (blk_below (g := gb505) (o := .cells #[.int .i64 a0_0, .slice A0_1 l0_1.length c0_1] 43 (0, 0)) (zK BK505.out) hb); replace HB := zM (below_step zB hb); clear hb ho15))
   go_ret2
   exact ⟨_, by first | rfl | (simp [errW_none, errW_some] <;> rfl) | (simp [*, errW_none, errW_some] <;> rfl), Kd.R_V (by (with_reducible repeat (first | apply Kd.R_alloc | apply Kd.R_drewN | apply Kd.R_drew)); exact Kd.R_mono HO512.out (fun _ hk => hk.1)), zB⟩

/-! ### laws_toGraph: function 24 -/
def laws_toGraph.f (k : Nat) (a0_0 : Int) (l0_1 : List (S64)) : Option (Int × (List (S64))) := (laws_toIntA2S.f k l0_1).bind fun t516 => (some (a0_0, t516))
set_option maxHeartbeats 8000000 in
set_option maxRecDepth 100000 in
theorem laws_toGraph.calls (k : Nat) (a0_0 : Int) (A0_1 : Option Addr) (c0_1 : Nat) (l0_1 : List (S64)) (r1 : Int) (r2 : List (S64)) (w : World) (hr0_1 : Kd.C k64 w A0_1 l0_1.length l0_1) (hc0_1 : l0_1.length ≤ c0_1) (h : laws_toGraph.f k a0_0 l0_1 = some (r1, r2)) :
 Calls Try.prog 24 #[.agg #[.int .i64 a0_0, .slice A0_1 l0_1.length c0_1]] w fun e w' => ∃ v1_ : Value, e = .returned (.agg #[.int .i64 r1, v1_]) ∧ Kd.R k64 64 w' w.heap.size (fun _ => True) v1_ r2 ∧ Below w.heap.size w w' := by
 have hu39 := Try.underlying39
 have hu43 := Try.underlying43
 have HR0_1 := Aside0.mk hr0_1
 have HC0_1 := Aside0.mk hc0_1
 clear hr0_1 hc0_1
 have HB := zM (Below.refl w.heap.size w)
 have H : ((laws_toIntA2S.f k l0_1).bind fun t516 => (some (a0_0, t516))) = some (r1, r2) := h
 clear h
 replace H := Option.bind_eq_some_iff.mp H
 obtain ⟨t516, A20, H⟩ := H
 replace H : (some (a0_0, t516)) = some (r1, r2) := H
 have A2 := Aside0.mk A20
 clear A20
 simp only [Option.some.injEq, Prod.mk.injEq] at H
 obtain ⟨rfl, rfl⟩ := H
 go_enter Try.func24, Try.ntmps24
 go_wp2_with (first | ((with_reducible refine gate_dst (N := 1) rfl ?_); refine zb (w := w) 1 #[.int .i64 a0_0, .slice A0_1 l0_1.length c0_1] 39 zB ?_; clear HB; intro gb513 w3 HB BK513 GW513; have GE513 := GW513) | ((with_reducible refine gate_dst (N := 2) rfl ?_); refine ze 2 #[.int .i64 0, .slice none 0 0] 43 ?_; intro gb514 hg w4 hbox hb; have BK514 := zM (hbox); have GW514 := zM ((by rw [hg]; exact (below_size zB) : w.heap.size ≤ gb514)); have GE514 := zM ((by rw [hg]; exact (below_size zB) : w.heap.size ≤ gb514)); replace HB := zM (below_step zB hb); have NB513_514 := zM ((by rw [hg]; exact Nat.ne_of_lt (blk_lt (g := gb513) (o := .cells #[.int .i64 a0_0, .slice A0_1 l0_1.length c0_1] 39 (0, 0)) (zK BK513.out)) : gb513 ≠ gb514)); have NB514_513 := zM ((by rw [hg]; exact Nat.ne_of_gt (blk_lt (g := gb513) (o := .cells #[.int .i64 a0_0, .slice A0_1 l0_1.length c0_1] 39 (0, 0)) (zK BK513.out)) : gb514 ≠ gb513)); replace BK513 := zM (blk_below (g := gb513) (o := .cells #[.int .i64 a0_0, .slice A0_1 l0_1.length c0_1] 39 (0, 0)) (zK BK513.out) hb); clear hb hbox hg) | ((with_reducible refine gate_dst (N := 3) rfl ?_); refine ze 3 #[.int .i64 0, .slice none 0 0] 43 ?_; intro gb515 hg w5 hbox hb; have BK515 := zM (hbox); have GW515 := zM ((by rw [hg]; exact (below_size zB) : w.heap.size ≤ gb515)); have GE515 := zM ((by rw [hg]; exact (below_size zB) : w.heap.size ≤ gb515)); replace HB := zM (below_step zB hb); have NB513_515 := zM ((by rw [hg]; exact Nat.ne_of_lt (blk_lt (g := gb513) (o := .cells #[.int .i64 a0_0, .slice A0_1 l0_1.length c0_1] 39 (0, 0)) (zK BK513.out)) : gb513 ≠ gb515)); have NB515_513 := zM ((by rw [hg]; exact Nat.ne_of_gt (blk_lt (g := gb513) (o := .cells #[.int .i64 a0_0, .slice A0_1 l0_1.length c0_1] 39 (0, 0)) (zK BK513.out)) : gb515 ≠ gb513)); replace BK513 := zM (blk_below (g := gb513) (o := .cells #[.int .i64 a0_0, .slice A0_1 l0_1.length c0_1] 39 (0, 0)) (zK BK513.out) hb); have NB514_515 := zM ((by rw [hg]; exact Nat.ne_of_lt (blk_lt (g := gb514) (o := .cells #[.int .i64 0, .slice none 0 0] 43 (0, 0)) (zK BK514.out)) : gb514 ≠ gb515)); have NB515_514 := zM ((by rw [hg]; exact Nat.ne_of_gt (blk_lt (g := gb514) (o := .cells #[.int .i64 0, .slice none 0 0] 43 (0, 0)) (zK BK514.out)) : gb515 ≠ gb514)); replace BK514 := zM (blk_below (g := gb514) (o := .cells #[.int .i64 0, .slice none 0 0] 43 (0, 0)) (zK BK514.out) hb); clear hb hbox hg; have hnb6 := NB513_514.out; have hnc6 := NB514_513.out; have hnb7 := NB513_515.out; have hnc7 := NB515_513.out; have hcz8_0 := zy BK513 0; have hcz8_1 := zy BK513 1; have hfz8_0 := blk_frozen BK513.out 0; have hfz8_1 := blk_frozen BK513.out 1; have hnb9 := NB515_514.out; have hnc9 := NB514_515.out; have hcz10_0 := zy BK515 0; have hcz10_1 := zy BK515 1; have hfz10_0 := blk_frozen BK515.out 0; have hfz10_1 := blk_frozen BK515.out 1) | ((with_reducible refine gate_callee (f := 70) rfl ?_); refine zc 9 Try.func70 #[.slice A0_1 l0_1.length c0_1] ?_; (with_reducible refine (laws_toIntA2S.calls k _ _ l0_1 t516 _ ?side1 ?side2 A2.out).mono ?_); (case side1 => exact Kd.C_below HR0_1.out zB); (case side2 => exact HC0_1.out); rintro e w11 ⟨v517, rfl, ho0, hb⟩; refine ⟨_, rfl, ?_⟩; have HO518 := zM (Kd.R_lower ho0 (below_size zB)); replace BK513 := zM (blk_below (g := gb513) (o := .cells #[.int .i64 a0_0, .slice A0_1 l0_1.length c0_1] 39 (0, 0)) (by (with_reducible repeat (first | refine blk_drewN ?_ _ | refine blk_drew ?_ | refine blk_alloc ?_ _)); refine blk_far ?_ NB513_515.out _; (with_reducible repeat (first | refine blk_drewN ?_ _ | refine blk_drew ?_ | refine blk_alloc ?_ _)); exact BK513.out) hb); replace BK514 := zM (blk_below (g := gb514) (o := .cells #[.int .i64 0, .slice none 0 0] 43 (0, 0)) (by (with_reducible repeat (first | refine blk_drewN ?_ _ | refine blk_drew ?_ | refine blk_alloc ?_ _)); refine blk_far ?_ NB514_515.out _; (with_reducible repeat (first | refine blk_drewN ?_ _ | refine blk_drew ?_ | refine blk_alloc ?_ _)); exact BK514.out) hb); replace BK515 := zM (blk_below (g := gb515) (o := .cells #[.int .i64 a0_0, .slice none 0 0] 43 (0, 0)) (by (with_reducible repeat (first | refine blk_drewN ?_ _ | refine blk_drew ?_ | refine blk_alloc ?_ _)); refine blk_put (cs := #[.int .i64 0, .slice none 0 0]) ?_ 0 _ rfl; (with_reducible repeat (first | refine blk_drewN ?_ _ | refine blk_drew ?_ | refine blk_alloc ?_ _)); exact BK515.out) hb); replace HB := zM (below_step zB hb); (try clear hb); (try clear hb2); (try clear hk); (try clear hi); (try clear ho0); obtain ⟨Ao12, co12, eo12⟩ := Kd.R_slice HO518.out; subst eo12; have hcz13_0 := zy BK515 0; have hcz13_1 := zy BK515 1; have hfz13_0 := blk_frozen BK515.out 0; have hfz13_1 := blk_frozen BK515.out 1; have hcz14_0 := zy BK514 0; have hcz14_1 := zy BK514 1; have hfz14_0 := blk_frozen BK514.out 0; have hfz14_1 := blk_frozen BK514.out 1))
 refine bodyPost_ret (results_cell_row rfl _ _ gb514 43 #[.int .i64 a0_0, .slice Ao12 t516.length co12] (0, 0) _ rfl (by (with_reducible repeat (first | refine blk_drewN ?_ _ | refine blk_drew ?_ | refine blk_alloc ?_ _)); refine blk_put (cs := #[.int .i64 a0_0, .slice none 0 0]) ?_ 1 _ rfl; (with_reducible repeat (first | refine blk_drewN ?_ _ | refine blk_drew ?_ | refine blk_alloc ?_ _)); refine blk_put (cs := #[.int .i64 0, .slice none 0 0]) ?_ 0 _ rfl; (with_reducible repeat (first | refine blk_drewN ?_ _ | refine blk_drew ?_ | refine blk_alloc ?_ _)); refine blk_far ?_ NB514_515.out _; (with_reducible repeat (first | refine blk_drewN ?_ _ | refine blk_drew ?_ | refine blk_alloc ?_ _)); exact BK514.out) Try.underlying43 rfl (by kernel_rfl)) rfl ?_
 exact ⟨_, by first | rfl | (simp [errW_none, errW_some] <;> rfl) | (simp [*, errW_none, errW_some] <;> rfl), by (with_reducible repeat (first | apply Kd.R_alloc | apply Kd.R_drewN | apply Kd.R_drew)); exact Kd.R_mono (Kd.R_far (p := ⟨gb514, 1, none⟩) (Kd.R_far (p := ⟨gb514, 0, none⟩) (Kd.R_far (p := ⟨gb515, 1, none⟩) (Kd.R_types (Kd.R_types HO518.out BK515.out (by decide)) BK514.out (by decide)) (fun _ hk => hk.1.2) (.slice Ao12 t516.length co12)) (fun _ hk => hk.2) (.int .i64 a0_0)) (fun _ hk => hk.2) (.slice Ao12 t516.length co12)) (fun _ hk => trivial), zB⟩

/-! ### impl_IsGraph: function 82 -/
def impl_IsGraph.f (k : Nat) (a0_0 : Int) (l0_1 : List (S64)) : Option (Bool) := (impl_between.f a0_0 0 8).bind fun t520 => (if t520 = true then ((impl_isPairs.f k l0_1 a0_0).bind fun t521 => (some t521)) else (some false))
set_option maxHeartbeats 8000000 in
set_option maxRecDepth 100000 in
theorem impl_IsGraph.calls (k : Nat) (a0_0 : Int) (A0_1 : Option Addr) (c0_1 : Nat) (l0_1 : List (S64)) (r : Bool) (w : World) (hr0_1 : Kd.C k64 w A0_1 l0_1.length l0_1) (hc0_1 : l0_1.length ≤ c0_1) (h : impl_IsGraph.f k a0_0 l0_1 = some r) :
 Calls Try.prog 82 #[.agg #[.int .i64 a0_0, .slice A0_1 l0_1.length c0_1]] w fun e w' => e = .returned (.bool r) ∧ Below w.heap.size w w' := by
 have hu43 := Try.underlying43
 have HR0_1 := Aside0.mk hr0_1
 have HC0_1 := Aside0.mk hc0_1
 clear hr0_1 hc0_1
 have HB := zM (Below.refl w.heap.size w)
 have H : ((impl_between.f a0_0 0 8).bind fun t520 => (if t520 = true then ((impl_isPairs.f k l0_1 a0_0).bind fun t521 => (some t521)) else (some false))) = some r := h
 clear h
 replace H := Option.bind_eq_some_iff.mp H
 obtain ⟨t520, A20, H⟩ := H
 have A2 := Aside0.mk A20
 clear A20
 by_cases c3 : t520 = true
 · subst c3
   rw [if_pos rfl] at H
   replace H := Option.bind_eq_some_iff.mp H
   obtain ⟨t521, A40, H⟩ := H
   have A4 := Aside0.mk A40
   clear A40
   obtain rfl := Option.some.inj H
   go_enter Try.func82, Try.ntmps82
   go_wp2_with (first | ((with_reducible refine gate_dst (N := 1) rfl ?_); refine zb (w := w) 1 #[.int .i64 a0_0, .slice A0_1 l0_1.length c0_1] 43 zB ?_; clear HB; intro gb519 w5 HB BK519 GW519; have GE519 := GW519; have hcz6_0 := zy BK519 0; have hcz6_1 := zy BK519 1; have hfz6_0 := blk_frozen BK519.out 0; have hfz6_1 := blk_frozen BK519.out 1) | ((with_reducible refine gate_callee (f := 138) rfl ?_); refine zc 5 Try.func138 #[.int .i64 a0_0, .int .i64 0, .int .i64 8] ?_; (with_reducible refine (impl_between.calls a0_0 0 8 true _ A2.out).mono ?_); rintro e w' ⟨rfl, ⟨nd, rfl⟩⟩; refine ⟨_, rfl, ?_⟩) | (go_at_call 127; (with_reducible refine (impl_isPairs.calls k _ _ l0_1 a0_0 t521 _ ?side1 ?side2 A4.out).mono ?_); (case side1 => exact zC (Kd.C_below HR0_1.out zB)); (case side2 => exact HC0_1.out); rintro e w7 ⟨rfl, hb⟩; replace BK519 := zM (blk_below (g := gb519) (o := .cells #[.int .i64 a0_0, .slice A0_1 l0_1.length c0_1] 43 (0, 0)) (zK BK519.out) hb); replace HB := zM (below_step zB hb); (try clear hb); (try clear hb2); (try clear hk); (try clear hi)))
   go_ret
   exact ⟨by first | rfl | (simp [errW_none, errW_some] <;> rfl) | (simp [*, errW_none, errW_some] <;> rfl), zB⟩
 · replace c3 := Bool.eq_false_iff.mpr c3
   subst c3
   have H1 : (some false) = some r := by rw [if_neg (show ¬ (false = true) by decide)] at H; exact H
   clear H
   have H := H1
   clear H1
   obtain rfl := Option.some.inj H
   go_enter Try.func82, Try.ntmps82
   go_wp2_with (first | ((with_reducible refine gate_dst (N := 1) rfl ?_); refine zb (w := w) 1 #[.int .i64 a0_0, .slice A0_1 l0_1.length c0_1] 43 zB ?_; clear HB; intro gb519 w8 HB BK519 GW519; have GE519 := GW519; have hcz9_0 := zy BK519 0; have hcz9_1 := zy BK519 1; have hfz9_0 := blk_frozen BK519.out 0; have hfz9_1 := blk_frozen BK519.out 1) | ((with_reducible refine gate_callee (f := 138) rfl ?_); refine zc 5 Try.func138 #[.int .i64 a0_0, .int .i64 0, .int .i64 8] ?_; (with_reducible refine (impl_between.calls a0_0 0 8 false _ A2.out).mono ?_); rintro e w' ⟨rfl, ⟨nd, rfl⟩⟩; refine ⟨_, rfl, ?_⟩))
   go_ret
   exact ⟨by first | rfl | (simp [errW_none, errW_some] <;> rfl) | (simp [*, errW_none, errW_some] <;> rfl), zB⟩

/-! ### impl_isKind: function 83 -/
def impl_isKind.f (a0 : Int) : Option (Bool) := (impl_between.f a0 1 3).bind fun t522 => (some t522)
set_option maxHeartbeats 8000000 in
set_option maxRecDepth 100000 in
theorem impl_isKind.calls (a0 : Int) (r : Bool) (w : World) (h : impl_isKind.f a0 = some r) :
 Calls Try.prog 83 #[.int .i64 a0] w fun e w' => e = .returned (.bool r) ∧ Drawn0 w w' := by
 have H : ((impl_between.f a0 1 3).bind fun t522 => (some t522)) = some r := h
 clear h
 replace H := Option.bind_eq_some_iff.mp H
 obtain ⟨t522, A20, H⟩ := H
 have A2 := Aside0.mk A20
 clear A20
 obtain rfl := Option.some.inj H
 go_enter Try.func83, Try.ntmps83
 go_wp2_with (first | ((with_reducible refine gate_callee (f := 138) rfl ?_); refine zc 4 Try.func138 #[.int .i64 a0, .int .i64 1, .int .i64 3] ?_; (with_reducible refine (impl_between.calls a0 1 3 t522 _ A2.out).mono ?_); rintro e w' ⟨rfl, ⟨nd, rfl⟩⟩; refine ⟨_, rfl, ?_⟩))
 go_ret
 exact ⟨by first | rfl | (simp; done) | (simp [*]; done), by repeat (first | exact Drawn0.refl _ | apply Drawn0.step)⟩

end Go.Proofs.Ythnojbafclglpaa.P
