/- The law FnExactBestOfKind's own code is walked, each way out by itself, over the contracts of what it calls. -/
import Derived.Test.YthnojbafclglpaaBestOfKindG6
import Derived.Test.YthnojbafclglpaaBestOfKindG11
import Derived.Test.YthnojbafclglpaaBestOfKindG15
import Derived.Test.YthnojbafclglpaaBestOfKindG12
import Derived.Test.YthnojbafclglpaaBestOfKindG13
import Derived.Test.YthnojbafclglpaaBestOfKindG8
import Derived.Test.YthnojbafclglpaaBestOfKindG7
import Derived.Test.YthnojbafclglpaaBestOfKindG5
import Derived.Test.YthnojbafclglpaaBestOfKindG9
import Derived.Test.YthnojbafclglpaaBestOfKindG14
import Derived.Test.YthnojbafclglpaaBestOfKindG10
namespace Go.Proofs.Ythnojbafclglpaa.P
open Go.RowKit Go.Proofs.YthnojbafclglpaaW.PrintWords Go.Proofs.YthnojbafclglpaaW.PrintLast Go.Proofs.YthnojbafclglpaaW.PrintMore
set_option linter.unusedVariables false
set_option linter.unusedSimpArgs false
set_option maxRecDepth 100000 in
set_option maxHeartbeats 4000000 in
theorem laws_FnExactBestOfKind.exit0 (a0_0 : Int) (A0_1 : Option Addr) (ca0_1 : Nat) (l0_1 : List (S64)) (a1 : Int) (t0 : Int) (w : World) (hr0_1 : Kd.C k64 w A0_1 l0_1.length l0_1) (hc0_1 : l0_1.length ≤ ca0_1) (c0 : t0 < 0) (h0 : laws_szGraph.f a0_0 l0_1 1048576 = some t0) :
    Calls Try.prog 4 #[.agg #[.int .i64 a0_0, .slice A0_1 l0_1.length ca0_1], .int .i64 a1] w fun e w' => e = .returned (.bool true) ∧ Below w.heap.size w w' := by
  have hu39 := Try.underlying39
  have hu43 := Try.underlying43
  have HR0_1 := zM hr0_1; clear hr0_1
  have HC0_1 := zM hc0_1; clear hc0_1
  have HB := zM (Below.refl w.heap.size w)
  have H0 := zM h0; clear h0
  have c0b : decide (t0 < 0) = true := decide_eq_true c0
  clear c0
  go_enter Try.func4, Try.ntmps4
  go_wp2_with (first
    | ((with_reducible refine gate_dst (N := 2) rfl ?_); refine ze 2 #[.int .i64 a0_0, .slice A0_1 l0_1.length ca0_1] 39 ?_; intro gb2 hg w1 hbox hb; have HG2 := zM hg; have HW2 := zM (show w.heap.size ≤ gb2 by rw [hg]; exact below_size HB.out); have HL2 := zM (blk_lt hbox); clear hg; have HS1 := zM hb.size; replace HB := zM (below_step HB.out hb); have BK2 := zM hbox; clear hbox hb; have hc2_0 := zy BK2 0; have hf2_0 := blk_frozen BK2.out 0; have hc2_1 := zy BK2 1; have hf2_1 := blk_frozen BK2.out 1)
    | (have hst_ : Aside0 (Below w.heap.size w w1) := HB; clear hst_; go_at_call 22; refine (laws_szGraph.calls a0_0 _ _ l0_1 1048576 t0 _ ?side1 ?side2 H0.out).mono ?_; (case side1 => exact zC (Kd.C_below HR0_1.out HB.out)); (case side2 => exact HC0_1.out); rintro e w2 ⟨rfl, hb⟩; replace BK2 := uKb BK2 hb; have HS2 := zM hb.size; replace HB := zM (below_step HB.out hb); clear hb; replace hc2_0 := zy BK2 0; replace hf2_0 := blk_frozen BK2.out 0; replace hc2_1 := zy BK2 1; replace hf2_1 := blk_frozen BK2.out 1))
  go_ret
  exact ⟨rfl, HB.out⟩
set_option maxRecDepth 100000 in
set_option maxHeartbeats 4000000 in
theorem laws_FnExactBestOfKind.walk (a0_0 : Int) (A0_1 : Option Addr) (ca0_1 : Nat) (l0_1 : List (S64)) (a1 : Int) (k1 k2 k3 k4 k5 k7 k8 : Nat) (t0 : Int) (q0 : List Int) (q1 : Bool) (kk0 : Int) (mk0_0 : List (S64)) (kk1 : Int) (mk1_0 : List Int) (w : World) (hr0_1 : Kd.C k64 w A0_1 l0_1.length l0_1) (hc0_1 : l0_1.length ≤ ca0_1) (c0 : ¬ (t0 < 0)) (h0 : laws_szGraph.f a0_0 l0_1 1048576 = some t0) (h1 : laws_toGraph.f k1 a0_0 l0_1 = some (a0_0, l0_1)) (h2 : spec_BestOfKind.f k2 a0_0 l0_1 a1 = some (q0, q1)) (h3 : impl_BestOfKind.f k3 a0_0 l0_1 a1 = some (q0, q1)) (h4 : laws_eqIntS.f k4 q0 q0 = some true) (h5 : laws_eqGraph.f k5 a0_0 l0_1 a0_0 l0_1 = some true) (h6 : laws_markGraph.f a0_0 l0_1 1 = some (kk0, mk0_0)) (h7 : laws_markIntS.f k7 q0 1 = some (kk1, mk1_0)) (h8 : laws_heldIntS.f k8 mk1_0 1 = some kk1) (nkk0 : ¬ (kk0 < 0)) (nkk1 : ¬ (kk1 < 0)) :
    Calls Try.prog 4 #[.agg #[.int .i64 a0_0, .slice A0_1 l0_1.length ca0_1], .int .i64 a1] w fun e w' => e = .returned (.bool true) ∧ Below w.heap.size w w' := by
  have hu39 := Try.underlying39
  have hu43 := Try.underlying43
  have HR0_1 := zM hr0_1; clear hr0_1
  have HC0_1 := zM hc0_1; clear hc0_1
  have HB := zM (Below.refl w.heap.size w)
  have H0 := zM h0; clear h0
  have H1 := zM h1; clear h1
  have H2 := zM h2; clear h2
  have H3 := zM h3; clear h3
  have H4 := zM h4; clear h4
  have H5 := zM h5; clear h5
  have H6 := zM h6; clear h6
  have H7 := zM h7; clear h7
  have H8 := zM h8; clear h8
  have c0b : decide (t0 < 0) = false := decide_eq_false c0
  clear c0
  have nkk0b : decide (kk0 < 0) = false := decide_eq_false nkk0
  clear nkk0
  have nkk1b : decide (kk1 < 0) = false := decide_eq_false nkk1
  clear nkk1
  go_enter Try.func4, Try.ntmps4
  go_upto_region 10 with (first
    | ((with_reducible refine gate_dst (N := 2) rfl ?_); refine ze 2 #[.int .i64 a0_0, .slice A0_1 l0_1.length ca0_1] 39 ?_; intro gb2 hg w1 hbox hb; have HG2 := zM hg; have HW2 := zM (show w.heap.size ≤ gb2 by rw [hg]; exact below_size HB.out); have HL2 := zM (blk_lt hbox); clear hg; have HS1 := zM hb.size; replace HB := zM (below_step HB.out hb); have BK2 := zM hbox; clear hbox hb; have hc2_0 := zy BK2 0; have hf2_0 := blk_frozen BK2.out 0; have hc2_1 := zy BK2 1; have hf2_1 := blk_frozen BK2.out 1)
    | (have hst_ : Aside0 (Below w.heap.size w w1) := HB; clear hst_; go_at_call 22; refine (laws_szGraph.calls a0_0 _ _ l0_1 1048576 t0 _ ?side1 ?side2 H0.out).mono ?_; (case side1 => exact zC (Kd.C_below HR0_1.out HB.out)); (case side2 => exact HC0_1.out); rintro e w2 ⟨rfl, hb⟩; replace BK2 := uKb BK2 hb; have HS2 := zM hb.size; replace HB := zM (below_step HB.out hb); clear hb; replace hc2_0 := zy BK2 0; replace hf2_0 := blk_frozen BK2.out 0; replace hc2_1 := zy BK2 1; replace hf2_1 := blk_frozen BK2.out 1)
    | (have hst_ : Aside0 (Below w.heap.size w w2) := HB; clear hst_; go_at_call 24; refine (laws_toGraph.calls k1 a0_0 _ _ l0_1 a0_0 l0_1 _ ?side1 ?side2 H1.out).mono ?_; (case side1 => exact zC (Kd.C_below HR0_1.out HB.out)); (case side2 => exact HC0_1.out); rintro e w3 ⟨v0_0, rfl, ho0, hb⟩; replace BK2 := uKb BK2 hb; have HS3 := zM hb.size; have HO0_0 := uR HB.out ho0; clear ho0; obtain ⟨Ao0_0, co0_0, eo0_0⟩ := Kd.R_slice HO0_0.out; subst eo0_0; replace HB := zM (below_step HB.out hb); clear hb; replace hc2_0 := zy BK2 0; replace hf2_0 := blk_frozen BK2.out 0; replace hc2_1 := zy BK2 1; replace hf2_1 := blk_frozen BK2.out 1)
    | (have hst_ : Aside0 (Below w.heap.size w w3) := HB; clear hst_; go_at_call 23; refine (spec_BestOfKind.calls k2 a0_0 _ _ l0_1 a1 q0 q1 _ ?side1 ?side2 H2.out).mono ?_; (case side1 => exact zC (Kd.R_reads' HO0_0.out).2.2); (case side2 => exact (Kd.R_reads' HO0_0.out).2.1); clear HO0_0; rintro e w4 ⟨v1_0, rfl, ho0, hb⟩; replace BK2 := uKb BK2 hb; have HS4 := zM hb.size; have HO1_0 := uV HB.out ho0; clear ho0; obtain ⟨Ao1_0, co1_0, eo1_0⟩ := Kd.V_slice HO1_0.out; subst eo1_0; replace HB := zM (below_step HB.out hb); clear hb; replace hc2_0 := zy BK2 0; replace hf2_0 := blk_frozen BK2.out 0; replace hc2_1 := zy BK2 1; replace hf2_1 := blk_frozen BK2.out 1)
    | (have hst_ : Aside0 (Below w.heap.size w w4) := HB; clear hst_; go_at_call 24; refine (laws_toGraph.calls k1 a0_0 _ _ l0_1 a0_0 l0_1 _ ?side1 ?side2 H1.out).mono ?_; (case side1 => exact zC (Kd.C_below HR0_1.out HB.out)); (case side2 => exact HC0_1.out); rintro e w5 ⟨v2_0, rfl, ho0, hb⟩; replace HO1_0 := uVb HO1_0 hb; replace BK2 := uKb BK2 hb; have HS5 := zM hb.size; have HO2_0 := uR HB.out ho0; clear ho0; obtain ⟨Ao2_0, co2_0, eo2_0⟩ := Kd.R_slice HO2_0.out; subst eo2_0; replace HB := zM (below_step HB.out hb); clear hb; replace hc2_0 := zy BK2 0; replace hf2_0 := blk_frozen BK2.out 0; replace hc2_1 := zy BK2 1; replace hf2_1 := blk_frozen BK2.out 1)
    | ((with_reducible refine gate_dst (N := 8) rfl ?_); refine ze 8 #[.int .i64 0, .slice none 0 0] 43 ?_; intro gb8 hg w6 hbox hb; have HG8 := zM hg; have HW8 := zM (show w.heap.size ≤ gb8 by rw [hg]; exact below_size HB.out); have HL8 := zM (blk_lt hbox); clear hg; replace HO1_0 := uVb HO1_0 hb; replace HO2_0 := uRb HO2_0 hb; replace BK2 := uKb BK2 hb; have HS6 := zM hb.size; replace HB := zM (below_step HB.out hb); have hn2_8 : gb2 ≠ gb8 := (by have := HG8.out; have := HL2.out; have := HS2.out; have := HS3.out; have := HS4.out; have := HS5.out; omega); have hn8_2 := hn2_8.symm; have BK8 := zM hbox; clear hbox hb; replace hc2_0 := zy BK2 0; replace hf2_0 := blk_frozen BK2.out 0; replace hc2_1 := zy BK2 1; replace hf2_1 := blk_frozen BK2.out 1; have hc8_0 := zy BK8 0; have hf8_0 := blk_frozen BK8.out 0; have hc8_1 := zy BK8 1; have hf8_1 := blk_frozen BK8.out 1)
    | (have hst_ : Aside0 (Below w.heap.size w w6) := HB; clear hst_; go_at_call 25; refine uBox BK8 HB HW8.out ?_; intro w7 BKn hk HBn; replace HO1_0 := uVk HO1_0 hk (fun k_ hk_ e_ => by have e2 : k_ = gb8 := e_; have := HG8.out; have := HL8.out; have h2 : w3.heap.size ≤ k_ ∧ k_ < w4.heap.size := hk_; have := HS5.out; omega); replace HO2_0 := uRk HO2_0 hk (fun k_ hk_ e_ => by have e2 : k_ = gb8 := e_; have := HG8.out; have := HL8.out; have h2 : w4.heap.size ≤ k_ ∧ k_ < w5.heap.size := hk_; omega); replace BK2 := uKk BK2 hk (fun e_ => by have e2 : gb2 = gb8 := e_; have := HG8.out; have := HL8.out; have := HG2.out; have := HL2.out; have := HS2.out; have := HS3.out; have := HS4.out; have := HS5.out; omega); replace BK8 := BKn; replace HB := HBn; clear BKn HBn; have HS7 := zM hk.1; clear hk; refine (impl_BestOfKind.calls k3 a0_0 _ _ l0_1 a1 q0 q1 _ ?side1 ?side2 H3.out).mono ?_; (case side1 => exact zC (Kd.R_reads' HO2_0.out).2.2); (case side2 => exact (Kd.R_reads' HO2_0.out).2.1); rintro e w8 ⟨v3_0, rfl, ho0, hb⟩; replace HO1_0 := uVb HO1_0 hb; replace HO2_0 := uRb HO2_0 hb; replace BK2 := uKb BK2 hb; replace BK8 := uKb BK8 hb; have HS8 := zM hb.size; have HO3_0 := uR HB.out ho0; clear ho0; obtain ⟨Ao3_0, co3_0, eo3_0⟩ := Kd.R_slice HO3_0.out; subst eo3_0; replace HB := zM (below_step HB.out hb); clear hb; replace hc2_0 := zy BK2 0; replace hf2_0 := blk_frozen BK2.out 0; replace hc2_1 := zy BK2 1; replace hf2_1 := blk_frozen BK2.out 1; replace hc8_0 := zy BK8 0; replace hf8_0 := blk_frozen BK8.out 0; replace hc8_1 := zy BK8 1; replace hf8_1 := blk_frozen BK8.out 1)
    | (have hst_ : Aside0 (Below w.heap.size w w8) := HB; clear hst_; go_at_call 18; refine (laws_eqIntS.calls k4 _ _ q0 _ _ q0 true _ ?side1 ?side2 ?side3 ?side4 H4.out).mono ?_; (case side1 => exact zC (Kd.R_reads' HO3_0.out).2.2); (case side2 => exact (Kd.R_reads' HO3_0.out).2.1); (case side3 => exact zC (Kd.V_reads' HO1_0.out).2.2); (case side4 => exact (Kd.V_reads' HO1_0.out).2.1); rintro e w9 ⟨rfl, hb0⟩; have hb := hb0.below; clear hb0; replace HO1_0 := uVb HO1_0 hb; replace HO2_0 := uRb HO2_0 hb; replace HO3_0 := uRb HO3_0 hb; replace BK2 := uKb BK2 hb; replace BK8 := uKb BK8 hb; have HS9 := zM hb.size; replace HB := zM (below_step HB.out hb); clear hb; replace hc2_0 := zy BK2 0; replace hf2_0 := blk_frozen BK2.out 0; replace hc2_1 := zy BK2 1; replace hf2_1 := blk_frozen BK2.out 1; replace hc8_0 := zy BK8 0; replace hf8_0 := blk_frozen BK8.out 0; replace hc8_1 := zy BK8 1; replace hf8_1 := blk_frozen BK8.out 1))
  (try simp only [Act.put, List.setIfInBounds_toArray, List.set_cons_zero, List.set_cons_succ])
  replace HO1_0 := zM (Kd.V_drew HO1_0.out)
  replace HO2_0 := zM (Kd.R_drew HO2_0.out)
  replace HO3_0 := zM (Kd.R_drew HO3_0.out)
  replace BK2 := zM (blk_drew BK2.out)
  replace BK8 := zM (blk_drew BK8.out)
  replace HB := zM (below_drew1 HB.out)
  refine zs (n := 5) (fun w' => w'.cell? ⟨gb8, 0, none⟩ = some (.int .i64 a0_0) ∧ w'.cell? ⟨gb8, 1, none⟩ = some (.slice Ao2_0 l0_1.length co2_0) ∧ w'.cell? ⟨gb2, 0, none⟩ = some (.int .i64 a0_0) ∧ w'.cell? ⟨gb2, 1, none⟩ = some (.slice A0_1 l0_1.length ca0_1)) ⟨(blk_cell BK8.out 0).trans rfl, (blk_cell BK8.out 1).trans rfl, (blk_cell BK2.out 0).trans rfl, (blk_cell BK2.out 1).trans rfl⟩ (fun hHeld => ?_)
  have HS10 := zM (show w9.heap.size ≤ w9.drew.heap.size from Nat.le_refl _)
  generalize w9.drew = w10 at HO1_0 HO2_0 HO3_0 BK2 BK8 HB HS10 hHeld ⊢
  refine zl 0 45 hHeld ?_ (hy := by rintro w' ⟨s0, s1, s2, s3⟩; go_simp; with_reducible rfl)
  refine zl 1 46 hHeld ?_ (hy := by rintro w' ⟨s0, s1, s2, s3⟩; go_simp; with_reducible rfl)
  refine zh 2 47 Try.func24 #[.agg #[.int .i64 a0_0, .slice A0_1 l0_1.length ca0_1]] (fun K hK => ?_)
  (refine (laws_toGraph.calls k1 a0_0 _ _ l0_1 a0_0 l0_1 _ ?side1 ?side2 H1.out).mono ?_; (case side1 => exact zC (Kd.C_below HR0_1.out HB.out)); (case side2 => exact HC0_1.out); rintro e w11 ⟨v4_0, rfl, ho0, hb⟩; replace HO1_0 := uVb HO1_0 hb; replace HO2_0 := uRb HO2_0 hb; replace HO3_0 := uRb HO3_0 hb; replace BK2 := uKb BK2 hb; replace BK8 := uKb BK8 hb; have HS11 := zM hb.size; have HO4_0 := uR HB.out ho0; clear ho0; obtain ⟨Ao4_0, co4_0, eo4_0⟩ := Kd.R_slice HO4_0.out; subst eo4_0; replace HB := zM (below_step HB.out hb); clear hb)
  refine ⟨_, rfl, ?_⟩
  refine hK.out _ _ ⟨(blk_cell BK8.out 0).trans rfl, (blk_cell BK8.out 1).trans rfl, (blk_cell BK2.out 0).trans rfl, (blk_cell BK2.out 1).trans rfl⟩ (fun hHeld => ?_)
  clear hK K
  refine zn 47 ?_
  refine zh 3 48 Try.func26 #[.agg #[.int .i64 a0_0, .slice Ao2_0 l0_1.length co2_0], .agg #[.int .i64 a0_0, .slice Ao4_0 l0_1.length co4_0]] (fun K hK => ?_)
  (refine (laws_eqGraph.calls k5 a0_0 _ _ l0_1 a0_0 _ _ l0_1 true _ ?side1 ?side2 ?side3 ?side4 H5.out).mono ?_; (case side1 => exact zC (Kd.R_reads' HO2_0.out).2.2); (case side2 => exact (Kd.R_reads' HO2_0.out).2.1); (case side3 => exact zC (Kd.R_reads' HO4_0.out).2.2); (case side4 => exact (Kd.R_reads' HO4_0.out).2.1); clear HO4_0; rintro e w12 ⟨rfl, hb⟩; replace HO1_0 := uVb HO1_0 hb; replace HO2_0 := uRb HO2_0 hb; replace HO3_0 := uRb HO3_0 hb; replace BK2 := uKb BK2 hb; replace BK8 := uKb BK8 hb; have HS12 := zM hb.size; replace HB := zM (below_step HB.out hb); clear hb)
  refine ⟨_, rfl, ?_⟩
  refine hK.out _ _ ⟨(blk_cell BK8.out 0).trans rfl, (blk_cell BK8.out 1).trans rfl, (blk_cell BK2.out 0).trans rfl, (blk_cell BK2.out 1).trans rfl⟩ (fun hHeld => ?_)
  clear hK K
  refine zn 48 ?_
  refine zq 4 49 ?_
  refine zx ?_
  replace hc2_0 := zy BK2 0
  replace hf2_0 := blk_frozen BK2.out 0
  replace hc2_1 := zy BK2 1
  replace hf2_1 := blk_frozen BK2.out 1
  replace hc8_0 := zy BK8 0
  replace hf8_0 := blk_frozen BK8.out 0
  replace hc8_1 := zy BK8 1
  replace hf8_1 := blk_frozen BK8.out 1
  go_wp2_with (first
    | (have hst_ : Aside0 (Below w.heap.size w w12) := HB; clear hst_; go_at_call 27; refine (laws_markGraph.calls a0_0 _ _ l0_1 1 kk0 mk0_0 w w12 HB.out HO2_0.out H6.out).mono ?_; clear HO2_0; clear BK8 hc8_0 hf8_0 hc8_1 hf8_1; rintro e w13 ⟨rfl, hy0, hb2, hk⟩; replace HO1_0 := uVk HO1_0 hk (fun k_ hk_ e_ => by have e2 : w4.heap.size ≤ k_ ∧ k_ < w5.heap.size := e_; have h2 : w3.heap.size ≤ k_ ∧ k_ < w4.heap.size := hk_; omega); replace HO3_0 := uRk HO3_0 hk (fun k_ hk_ e_ => by have e2 : w4.heap.size ≤ k_ ∧ k_ < w5.heap.size := e_; have h2 : w7.heap.size ≤ k_ ∧ k_ < w8.heap.size := hk_; have := HS6.out; have := HS7.out; omega); replace BK2 := uKk BK2 hk (fun e_ => by have e2 : w4.heap.size ≤ gb2 ∧ gb2 < w5.heap.size := e_; have := HG2.out; have := HL2.out; have := HS2.out; have := HS3.out; have := HS4.out; omega); clear hy0; have HS13 := zM hk.1; replace HB := zM hb2; clear hb2 hk; replace hc2_0 := zy BK2 0; replace hf2_0 := blk_frozen BK2.out 0; replace hc2_1 := zy BK2 1; replace hf2_1 := blk_frozen BK2.out 1)
    | (have hst_ : Aside0 (Below w.heap.size w w13) := HB; clear hst_; go_at_call 18; refine (laws_eqIntS.calls k4 _ _ q0 _ _ q0 true _ ?side1 ?side2 ?side3 ?side4 H4.out).mono ?_; (case side1 => exact zC (Kd.R_reads' HO3_0.out).2.2); (case side2 => exact (Kd.R_reads' HO3_0.out).2.1); (case side3 => exact zC (Kd.V_reads' HO1_0.out).2.2); (case side4 => exact (Kd.V_reads' HO1_0.out).2.1); rintro e w14 ⟨rfl, hb0⟩; have hb := hb0.below; clear hb0; replace HO1_0 := uVb HO1_0 hb; replace HO3_0 := uRb HO3_0 hb; replace BK2 := uKb BK2 hb; have HS14 := zM hb.size; replace HB := zM (below_step HB.out hb); clear hb; replace hc2_0 := zy BK2 0; replace hf2_0 := blk_frozen BK2.out 0; replace hc2_1 := zy BK2 1; replace hf2_1 := blk_frozen BK2.out 1)
    | (have hst_ : Aside0 (Below w.heap.size w w14) := HB; clear hst_; go_at_call 20; refine (laws_markIntS.calls k7 _ _ q0 1 kk1 mk1_0 w w14 HB.out HO3_0.out H7.out).mono ?_; rintro e w15 ⟨rfl, hy0, hb2, hk⟩; replace HO1_0 := uVk HO1_0 hk (fun k_ hk_ e_ => by have e2 : w7.heap.size ≤ k_ ∧ k_ < w8.heap.size := e_; have h2 : w3.heap.size ≤ k_ ∧ k_ < w4.heap.size := hk_; have := HS5.out; have := HS6.out; have := HS7.out; omega); replace BK2 := uKk BK2 hk (fun e_ => by have e2 : w7.heap.size ≤ gb2 ∧ gb2 < w8.heap.size := e_; have := HG2.out; have := HL2.out; have := HS2.out; have := HS3.out; have := HS4.out; have := HS5.out; have := HS6.out; have := HS7.out; omega); replace HO3_0 := zM (Kd.R_mono (Kd.R_bound hy0) (fun k_ hk_ => (Or.imp id (fun h_ => ⟨h_, hk_.2.2.1⟩) hk_.1 : (w7.heap.size ≤ k_ ∧ k_ < w8.heap.size) ∨ (w14.heap.size ≤ k_ ∧ k_ < w15.heap.size)))); clear hy0; have hl3_0 := (Kd.R_reads' HO3_0.out).1; rw [hl3_0] at HO3_0; replace hl3_0 := zM hl3_0; have HS15 := zM hk.1; replace HB := zM hb2; clear hb2 hk; replace hc2_0 := zy BK2 0; replace hf2_0 := blk_frozen BK2.out 0; replace hc2_1 := zy BK2 1; replace hf2_1 := blk_frozen BK2.out 1)
    | (have hst_ : Aside0 (Below w.heap.size w w15) := HB; clear hst_; go_at_call 28; refine uArgs (args' := #[.slice Ao3_0 mk1_0.length co3_0, .int .i64 1]) (by rw [hl3_0.out]) ?_; refine (laws_heldIntS.calls k8 _ _ mk1_0 1 kk1 _ ?side1 ?side2 H8.out).mono ?_; (case side1 => exact zC (Kd.R_reads' HO3_0.out).2.2); (case side2 => exact (Kd.R_reads' HO3_0.out).2.1); rintro e w16 ⟨rfl, hb0⟩; have hb := hb0.below; clear hb0; replace HO1_0 := uVb HO1_0 hb; replace HO3_0 := uRb HO3_0 hb; replace BK2 := uKb BK2 hb; have HS16 := zM hb.size; replace HB := zM (below_step HB.out hb); clear hb; replace hc2_0 := zy BK2 0; replace hf2_0 := blk_frozen BK2.out 0; replace hc2_1 := zy BK2 1; replace hf2_1 := blk_frozen BK2.out 1)
    | (have hst_ : Aside0 (Below w.heap.size w w16) := HB; clear hst_; go_at_call 24; refine (laws_toGraph.calls k1 a0_0 _ _ l0_1 a0_0 l0_1 _ ?side1 ?side2 H1.out).mono ?_; (case side1 => exact zC (Kd.C_below HR0_1.out HB.out)); (case side2 => exact HC0_1.out); clear BK2 hc2_0 hf2_0 hc2_1 hf2_1; rintro e w17 ⟨v5_0, rfl, ho0, hb⟩; replace HO1_0 := uVb HO1_0 hb; replace HO3_0 := uRb HO3_0 hb; have HS17 := zM hb.size; have HO5_0 := uR HB.out ho0; clear ho0; obtain ⟨Ao5_0, co5_0, eo5_0⟩ := Kd.R_slice HO5_0.out; subst eo5_0; replace HB := zM (below_step HB.out hb); clear hb)
    | (have hst_ : Aside0 (Below w.heap.size w w17) := HB; clear hst_; go_at_call 25; refine (impl_BestOfKind.calls k3 a0_0 _ _ l0_1 a1 q0 q1 _ ?side1 ?side2 H3.out).mono ?_; (case side1 => exact zC (Kd.R_reads' HO5_0.out).2.2); (case side2 => exact (Kd.R_reads' HO5_0.out).2.1); clear HO5_0; rintro e w18 ⟨v6_0, rfl, ho0, hb⟩; replace HO1_0 := uVb HO1_0 hb; replace HO3_0 := uRb HO3_0 hb; have HS18 := zM hb.size; have HO6_0 := uR HB.out ho0; clear ho0; obtain ⟨Ao6_0, co6_0, eo6_0⟩ := Kd.R_slice HO6_0.out; subst eo6_0; replace HB := zM (below_step HB.out hb); clear hb)
    | (have hst_ : Aside0 (Below w.heap.size w w18) := HB; clear hst_; go_at_call 18; refine (laws_eqIntS.calls k4 _ _ q0 _ _ q0 true _ ?side1 ?side2 ?side3 ?side4 H4.out).mono ?_; (case side1 => exact zC (Kd.R_reads' HO6_0.out).2.2); (case side2 => exact (Kd.R_reads' HO6_0.out).2.1); (case side3 => exact zC (Kd.V_reads' HO1_0.out).2.2); (case side4 => exact (Kd.V_reads' HO1_0.out).2.1); clear HO1_0; clear HO6_0; rintro e w19 ⟨rfl, hb0⟩; have hb := hb0.below; clear hb0; replace HO3_0 := uRb HO3_0 hb; have HS19 := zM hb.size; replace HB := zM (below_step HB.out hb); clear hb)
    | (have hst_ : Aside0 (Below w.heap.size w w19) := HB; clear hst_; go_at_call 28; refine uArgs (args' := #[.slice Ao3_0 mk1_0.length co3_0, .int .i64 1]) (by rw [hl3_0.out]) ?_; refine (laws_heldIntS.calls k8 _ _ mk1_0 1 kk1 _ ?side1 ?side2 H8.out).mono ?_; (case side1 => exact zC (Kd.R_reads' HO3_0.out).2.2); (case side2 => exact (Kd.R_reads' HO3_0.out).2.1); clear HO3_0; rintro e w20 ⟨rfl, hb0⟩; have hb := hb0.below; clear hb0; have HS20 := zM hb.size; replace HB := zM (below_step HB.out hb); clear hb))
  go_ret
  exact ⟨rfl, HB.out⟩
end Go.Proofs.Ythnojbafclglpaa.P
namespace Go.Proofs.Ythnojbafclglpaa.P
open Go.RowKit Go.Proofs.YthnojbafclglpaaW.PrintWords Go.Proofs.YthnojbafclglpaaW.PrintLast Go.Proofs.YthnojbafclglpaaW.PrintMore
set_option linter.unusedVariables false
set_option linter.unusedSimpArgs false

theorem own_at (l : List Int) (h : l.length ≤ 1048576) : spec_l1Own.f l = some l := by
  unfold spec_l1Own.f
  rw [Option.bind_some, List.length_nil, if_pos (by omega), List.nil_append]
theorem same_loop (x y : List Int) (hx : x.length ≤ 1048576) (hxy : x.length = y.length) (d : Nat) : ∀ (m : Nat), x.length - m = d → m ≤ x.length → Ev (fun k => spec_l1Same.l0 k x y (m : Int)) (decide (x.drop m = y.drop m)) := by
  induction d with
  | zero =>
    intro m h0 h1
    refine Ev.step (fun k => by rw [spec_l1Same.l0]) (Ev.neg (by omega) ?_)
    rw [List.drop_eq_nil_of_le (by omega), List.drop_eq_nil_of_le (by omega), decide_eq_true rfl]
    exact Ev.now _
  | succ d ih =>
    intro m h0 h1
    have hm : m < x.length := by omega
    have hy : m < y.length := by omega
    refine Ev.step (fun k => by rw [spec_l1Same.l0]) (Ev.pos (by omega) (Ev.pos (by omega) (Ev.pos (by omega) ?_)))
    rw [rd_at x m hm, rd_at y m hy, List.drop_eq_getElem_cons hm, List.drop_eq_getElem_cons hy]
    by_cases c : x[m] = y[m]
    · have := ih (m + 1) (by omega) (by omega)
      rw [show decide (x[m] :: x.drop (m + 1) = y[m] :: y.drop (m + 1)) = decide (x.drop (m + 1) = y.drop (m + 1)) from by rw [decide_eq_decide, List.cons.injEq]; exact ⟨fun h => h.2, fun h => ⟨c, h⟩⟩, wrap_up hm (by omega)]
      exact Ev.pos c this
    · rw [decide_eq_false (fun h => c (by injection h))]
      exact Ev.neg c (Ev.now _)
theorem same_ev (x y : List Int) (hx : x.length ≤ 1048576) : Ev (fun k => spec_l1Same.f k x y) (decide (x = y)) := by
  unfold spec_l1Same.f
  by_cases c : x.length = y.length
  · have := same_loop x y hx c x.length 0 (by omega) (Nat.zero_le _)
    rw [List.drop_zero, List.drop_zero] at this
    exact Ev.pos (by omega) this
  · rw [decide_eq_false (fun h => c (by rw [h]))]
    exact Ev.neg (by omega) (Ev.now _)
theorem lex_ins {o : List (List Int)} (h : LexS o) (s : List Int) (p : Nat) (h1 : ∀ x ∈ o.drop p, befL s x = true) (h2 : ∀ x ∈ o.take p, befL x s = true) :
    LexS (o.take p ++ [s] ++ o.drop p) ∧ ∀ x, x ∈ o.take p ++ [s] ++ o.drop p ↔ x ∈ o ∨ x = s := by
  have hm : ∀ x, x ∈ o ↔ x ∈ o.take p ∨ x ∈ o.drop p := fun x => by rw [← List.mem_append, List.take_append_drop]
  constructor
  · unfold LexS
    rw [List.append_assoc, List.singleton_append, List.pairwise_append, List.pairwise_cons]
    refine ⟨h.sublist (List.take_sublist ..), ⟨h1, h.sublist (List.drop_sublist ..)⟩, fun a ha b hb => ?_⟩
    rcases List.mem_cons.1 hb with rfl | hb
    · exact h2 a ha
    · exact befL_trans _ _ _ (h2 a ha) (h1 b hb)
  · intro x
    rw [hm x]
    simp only [List.mem_append, List.mem_singleton]
    constructor
    · rintro ((h | h) | h)
      · exact .inl (.inl h)
      · exact .inr h
      · exact .inl (.inr h)
    · rintro ((h | h) | h)
      · exact .inl (.inl h)
      · exact .inr h
      · exact .inl (.inr h)
section
variable (ls : List (List Int)) (hls : ls.length ≤ 1048576) (hb : ∀ s ∈ ls, s.length ≤ 1048576)
include hls hb
theorem sorted_in (i : Nat) (hi : i < ls.length) (o : List (List Int)) (ho : LexS o) (hol : o.length ≤ i) (hob : ∀ x ∈ o, x.length ≤ 1048576) : ∀ p : Nat, p ≤ o.length → (∀ x ∈ o.drop p, befL ls[i] x = true) →
    ∃ R, LexS R ∧ R.length ≤ o.length + 1 ∧ (∀ x, x ∈ R ↔ x ∈ o ∨ x = ls[i]) ∧ ∀ F, Ev (fun k => spec_l2Sorted.l0 k ls R (wrap64 ((i : Int) + 1))) F → Ev (fun k => spec_l2Sorted.l1 k ls o (i : Int) (p : Int)) F := by
  have hs := hb ls[i] (List.getElem_mem hi)
  intro p
  induction p with
  | zero =>
    intro hp hd
    obtain ⟨g1, g2⟩ := lex_ins ho ls[i] 0 hd (fun x hx => by simp at hx)
    refine ⟨_, g1, by simp, g2, fun F hF => ?_⟩
    refine Ev.step (fun k => by rw [spec_l2Sorted.l1]) ?_
    refine Ev.neg (by omega) ?_
    refine Ev.step (fun k => by rw [spec_l2Sorted.j2]) ?_
    refine Ev.pos rfl ?_
    refine Ev.bindo rfl ?_
    refine Ev.pos (by omega) ?_
    refine Ev.pos (by omega) ?_
    refine Ev.bindo rfl ?_
    refine Ev.pos (by simp) ?_
    refine Ev.bindo rfl ?_
    refine Ev.pos (by omega) ?_
    refine Ev.pos (by omega) ?_
    rw [rdL_at ls i hi]
    refine Ev.bindo (own_at _ hs) ?_
    refine Ev.pos (by simp) ?_
    refine Ev.bindo rfl ?_
    refine Ev.bindo rfl ?_
    refine Ev.pos (by simp; omega) ?_
    exact hF
  | succ p ih =>
    intro hp hd
    have hpl : p < o.length := by omega
    have hw : wrap64 (((p + 1 : Nat) : Int) - 1) = (p : Int) := by unfold wrap64; omega
    cases c : befL ls[i] o[p] with
    | true =>
      obtain ⟨R, r1, r2, r3, r4⟩ := ih (by omega) (fun x hx => by
        rw [List.drop_eq_getElem_cons hpl] at hx
        rcases List.mem_cons.1 hx with rfl | hx
        · exact c
        · exact hd x hx)
      refine ⟨R, r1, r2, r3, fun F hF => ?_⟩
      refine Ev.step (fun k => by rw [spec_l2Sorted.l1]) ?_
      refine Ev.pos (by omega) ?_
      refine Ev.pos (by omega) ?_
      refine Ev.pos (by omega) ?_
      rw [hw]
      refine Ev.pos (by omega) ?_
      refine Ev.pos (by omega) ?_
      rw [rdL_at ls i hi, rdL_at o p hpl]
      refine Ev.bind (l2Before_ev _ _ hs (hob _ (List.getElem_mem hpl))) ?_
      refine Ev.pos c ?_
      exact r4 F hF
    | false =>
      by_cases e : o[p] = ls[i]
      · refine ⟨o, ho, by omega, fun x => ⟨.inl, fun h => h.elim id fun h => by rw [h, ← e]; exact List.getElem_mem hpl⟩, fun F hF => ?_⟩
        refine Ev.step (fun k => by rw [spec_l2Sorted.l1]) ?_
        refine Ev.pos (by omega) ?_
        refine Ev.pos (by omega) ?_
        refine Ev.pos (by omega) ?_
        rw [hw]
        refine Ev.pos (by omega) ?_
        refine Ev.pos (by omega) ?_
        rw [rdL_at ls i hi, rdL_at o p hpl]
        refine Ev.bind (l2Before_ev _ _ hs (hob _ (List.getElem_mem hpl))) ?_
        refine Ev.neg (by rw [c]; decide) ?_
        refine Ev.step (fun k => by rw [spec_l2Sorted.j2]) ?_
        refine Ev.neg (by omega) ?_
        rw [hw]
        refine Ev.pos (by omega) ?_
        refine Ev.pos (by omega) ?_
        refine Ev.pos (by omega) ?_
        refine Ev.pos (by omega) ?_
        rw [rdL_at ls i hi, rdL_at o p hpl]
        refine Ev.bind (same_ev _ _ (hob _ (List.getElem_mem hpl))) ?_
        refine Ev.pos (decide_eq_true e) ?_
        exact hF
      · have hlt : befL o[p] ls[i] = true := by
          cases c2 : befL o[p] ls[i] with
          | true => rfl
          | false => exact absurd (befL_tri _ _ c2 c) e
        obtain ⟨g1, g2⟩ := lex_ins ho ls[i] (p + 1) hd (fun x hx => by
          obtain ⟨q, hq, rfl⟩ := List.getElem_of_mem hx
          rw [List.length_take] at hq
          rw [List.getElem_take]
          by_cases hqp : q = p
          · subst hqp; exact hlt
          · exact befL_trans _ _ _ (List.pairwise_iff_getElem.1 ho q p (by omega) hpl (by omega)) hlt)
        refine ⟨_, g1, by simp [List.length_take, List.length_drop]; omega, g2, fun F hF => ?_⟩
        refine Ev.step (fun k => by rw [spec_l2Sorted.l1]) ?_
        refine Ev.pos (by omega) ?_
        refine Ev.pos (by omega) ?_
        refine Ev.pos (by omega) ?_
        rw [hw]
        refine Ev.pos (by omega) ?_
        refine Ev.pos (by omega) ?_
        rw [rdL_at ls i hi, rdL_at o p hpl]
        refine Ev.bind (l2Before_ev _ _ hs (hob _ (List.getElem_mem hpl))) ?_
        refine Ev.neg (by rw [c]; decide) ?_
        refine Ev.step (fun k => by rw [spec_l2Sorted.j2]) ?_
        refine Ev.neg (by omega) ?_
        rw [hw]
        refine Ev.pos (by omega) ?_
        refine Ev.pos (by omega) ?_
        refine Ev.pos (by omega) ?_
        refine Ev.pos (by omega) ?_
        rw [rdL_at ls i hi, rdL_at o p hpl]
        refine Ev.bind (same_ev _ _ (hob _ (List.getElem_mem hpl))) ?_
        refine Ev.neg (by rw [decide_eq_false e]; decide) ?_
        refine Ev.bindo rfl ?_
        refine Ev.pos (by omega) ?_
        refine Ev.pos (by omega) ?_
        refine Ev.bindo rfl ?_
        rw [Int.toNat_natCast]
        refine Ev.pos (by simp [List.length_take]; omega) ?_
        refine Ev.bindo rfl ?_
        refine Ev.bindo (own_at _ hs) ?_
        refine Ev.pos (by simp [List.length_take]; omega) ?_
        refine Ev.bindo rfl ?_
        refine Ev.bindo rfl ?_
        refine Ev.pos (by simp [List.length_take, List.length_drop]; omega) ?_
        exact hF
theorem sorted_loop (d : Nat) : ∀ (m : Nat) (o : List (List Int)), ls.length - m = d → m ≤ ls.length → LexS o → o.length ≤ m → (∀ x, x ∈ o ↔ x ∈ ls.take m) →
    ∃ R, LexS R ∧ R.length ≤ ls.length ∧ (∀ x, x ∈ R ↔ x ∈ ls) ∧ Ev (fun k => spec_l2Sorted.l0 k ls o (m : Int)) R := by
  induction d with
  | zero =>
    intro m o h0 h1 h2 h3 h4
    refine ⟨o, h2, by omega, fun x => by rw [h4 x, List.take_of_length_le (by omega)], ?_⟩
    refine Ev.step (fun k => by rw [spec_l2Sorted.l0]) ?_
    exact Ev.neg (by omega) (Ev.now _)
  | succ d ih =>
    intro m o h0 h1 h2 h3 h4
    have hm : m < ls.length := by omega
    obtain ⟨R, r1, r2, r3, r4⟩ := sorted_in ls hls hb m hm o h2 h3 (fun x hx => hb x (List.mem_of_mem_take ((h4 x).1 hx))) o.length (Nat.le_refl _) (fun x hx => by rw [List.drop_length] at hx; simp at hx)
    obtain ⟨R', q1, q2, q3, q4⟩ := ih (m + 1) R (by omega) (by omega) r1 (by omega) (fun x => by
      rw [r3 x, h4 x, List.take_succ_eq_append_getElem hm, List.mem_append, List.mem_singleton])
    rw [← wrap_up hm (by omega)] at q4
    refine ⟨R', q1, q2, q3, ?_⟩
    refine Ev.step (fun k => by rw [spec_l2Sorted.l0]) ?_
    refine Ev.pos (by omega) ?_
    exact r4 R' q4
end
theorem l2Sorted_ev (ls : List (List Int)) (hls : ls.length ≤ 1048576) (hb : ∀ s ∈ ls, s.length ≤ 1048576) : ∃ R, LexS R ∧ R.length ≤ ls.length ∧ (∀ x, x ∈ R ↔ x ∈ ls) ∧ Ev (fun k => spec_l2Sorted.f k ls) R := by
  obtain ⟨R, r1, r2, r3, r4⟩ := sorted_loop ls hls hb ls.length 0 [] (by omega) (Nat.zero_le _) List.Pairwise.nil (Nat.le_refl _) (fun x => by simp)
  refine ⟨R, r1, r2, r3, ?_⟩
  unfold spec_l2Sorted.f
  simpa only [Int.natCast_zero] using r4
theorem l2Sorted_nodup (ls : List (List Int)) (hls : ls.length ≤ 1048576) (hb : ∀ s ∈ ls, s.length ≤ 1048576) (hn : ls.Nodup) : Ev (fun k => spec_l2Sorted.f k ls) (sortLL ls) := by
  obtain ⟨R, r1, r2, r3, r4⟩ := l2Sorted_ev ls hls hb
  rw [← lex_unique R (sortLL ls) r1 (sortLL_lex ls hn) (fun s => by rw [r3, sortLL_mem])]
  exact r4
end Go.Proofs.Ythnojbafclglpaa.P
namespace Go.Proofs.Ythnojbafclglpaa.P
open Go.RowKit Go.Proofs.YthnojbafclglpaaW.PrintWords Go.Proofs.YthnojbafclglpaaW.PrintLast Go.Proofs.YthnojbafclglpaaW.PrintMore
set_option linter.unusedVariables false
set_option linter.unusedSimpArgs false

abbrev bagL (b : Int) : List Int := selI (hasI b) 8 0
theorem hasB_fin : ∀ b : Fin 256, ∀ y : Fin 8, (Go.bits .and .i64 (shr .i64 b y) 1 == 1) = hasI b y := by decide +kernel
theorem hasB_at {b y : Int} (hb : 0 ≤ b ∧ b < 256) (hy : 0 ≤ y ∧ y < 8) : (Go.bits .and .i64 (shr .i64 b y) 1 = 1) ↔ hasI b y = true := by
  obtain ⟨i, rfl⟩ := fin_of (n := 256) hb.1 hb.2
  obtain ⟨j, rfl⟩ := fin_of (n := 8) hy.1 hy.2
  have := hasB_fin i j
  rw [← this, beq_iff_eq]
theorem high_fin : ∀ n : Fin 9, ∀ b : Fin 256, decide (b.val < 2 ^ n.val) = (List.range 8).all (fun y => decide (y < n.val) || !hasI b y) := by decide +kernel
theorem high_at {n : Nat} {b : Int} (hn : n ≤ 8) (hb : 0 ≤ b ∧ b < 256) : b < ((2 ^ n : Nat) : Int) ↔ ∀ y : Int, (n : Int) ≤ y → y < 8 → hasI b y = false := by
  obtain ⟨i, rfl⟩ := fin_of (n := 256) hb.1 hb.2
  have h := high_fin ⟨n, by omega⟩ i
  have e1 : ((i.val : Int) < ((2 ^ n : Nat) : Int)) ↔ decide (i.val < 2 ^ n) = true := by rw [decide_eq_true_eq]; omega
  rw [e1, h, List.all_eq_true]
  constructor
  · intro h y h0 h1
    have := h y.toNat (by rw [List.mem_range]; omega)
    simp only [Bool.or_eq_true, decide_eq_true_eq, Bool.not_eq_true'] at this
    rw [show ((y.toNat : Nat) : Int) = y by omega] at this
    exact this.resolve_left (by omega)
  · intro h y hy
    rw [List.mem_range] at hy
    by_cases c : y < n
    · simp [c]
    · have := h (y : Int) (by omega) (by omega)
      simp [this]
theorem bag_left : ∀ b : Fin 256, bagI 0 (selI (hasI b) 8 0) = b := by decide +kernel
theorem bag_left_at {b : Int} (hb : 0 ≤ b ∧ b < 256) : bagI 0 (bagL b) = b := by
  obtain ⟨i, rfl⟩ := fin_of (n := 256) hb.1 hb.2
  exact bag_left i
theorem bits_loop (n : Int) (b : Int) (hn : n ≤ 8) (hb : 0 ≤ b ∧ b < 256) (d : Nat) : ∀ (y : Int) (acc : List Int), (n - y).toNat = d → 0 ≤ y → acc.length + d ≤ 1000 → Ev (fun k => spec_l2Bits.l0 k n b acc y) (acc ++ selI (hasI b) d y) := by
  induction d with
  | zero =>
    intro y acc h0 h1 h2
    refine Ev.step (fun k => by rw [spec_l2Bits.l0]) (Ev.neg (by omega) ?_)
    simp only [selI, List.append_nil]
    exact Ev.now _
  | succ d ih =>
    intro y acc h0 h1 h2
    refine Ev.step (fun k => by rw [spec_l2Bits.l0]) (Ev.pos (by omega) (Ev.pos (by omega) ?_))
    have hw : wrap64 (y + 1) = y + 1 := wrap_nat (by omega) (by omega)
    rw [hw, selI]
    by_cases c : hasI b y = true
    · rw [if_pos c, ← List.append_assoc]
      refine Ev.pos ((hasB_at hb ⟨h1, by omega⟩).2 c) (Ev.pos (by omega) ?_)
      exact ih (y + 1) _ (by omega) (by omega) (by rw [List.length_append, List.length_singleton]; omega)
    · rw [if_neg c, List.nil_append]
      exact Ev.neg (fun h => c ((hasB_at hb ⟨h1, by omega⟩).1 h)) (ih (y + 1) acc (by omega) (by omega) (by omega))
theorem bits_ev (n : Nat) (b : Int) (hn : n ≤ 8) (hb : 0 ≤ b ∧ b < ((2 ^ n : Nat) : Int)) : Ev (fun k => spec_l2Bits.f k (n : Int) b) (bagL b) := by
  have hpow : 2 ^ n ≤ 256 := Nat.pow_le_pow_right (n := 2) (by decide) (show n ≤ 8 from hn)
  have h := bits_loop (n : Int) b (by omega) ⟨hb.1, by omega⟩ n 0 [] (by omega) (by omega) (by simp; omega)
  unfold spec_l2Bits.f
  have e : bagL b = selI (hasI b) n 0 := by
    unfold bagL
    rw [show 8 = n + (8 - n) by omega, selI_add, selI_none _ (8 - n), List.append_nil]
    intro z h0 h1
    exact (high_at hn ⟨hb.1, by omega⟩).1 hb.2 z (by omega) (by omega)
  rw [e]
  simpa only [List.nil_append] using h
/-- A set of nodes. -/
def SetN (n : Nat) (s : List Int) : Prop := s.Pairwise (· < ·) ∧ ∀ x ∈ s, 0 ≤ x ∧ x < (n : Int)
theorem SetN.ris {n : Nat} {s : List Int} (h : SetN n s) : risI 0 ((n : Int) - 1) none s = true := risI_of _ _ s none h.1 (fun x hx => by have := h.2 x hx; omega) (fun q e => by cases e)
theorem SetN.wide {n m : Nat} {s : List Int} (h : SetN n s) (hm : n ≤ m) : SetN m s := ⟨h.1, fun x hx => by have := h.2 x hx; omega⟩
theorem selI_pw (f : Int → Bool) (d : Nat) : ∀ y, (selI f d y).Pairwise (· < ·) := by
  induction d with
  | zero => intro y; exact List.Pairwise.nil
  | succ d ih =>
    intro y
    simp only [selI]
    by_cases c : f y = true
    · rw [if_pos c, List.singleton_append, List.pairwise_cons]
      exact ⟨fun z hz => by have := ((selI_mem f d (y + 1) z).1 hz).1; omega, ih (y + 1)⟩
    · rw [if_neg c, List.nil_append]
      exact ih (y + 1)
theorem bagL_set {n : Nat} {b : Int} (hn : n ≤ 8) (hb : 0 ≤ b ∧ b < ((2 ^ n : Nat) : Int)) : SetN n (bagL b) := by
  have hpow : 2 ^ n ≤ 256 := Nat.pow_le_pow_right (n := 2) (by decide) (show n ≤ 8 from hn)
  refine ⟨selI_pw _ _ _, fun x hx => ?_⟩
  obtain ⟨h1, h2⟩ := (selI_mem _ _ _ _).1 hx
  have h3 := (high_at hn ⟨hb.1, by omega⟩).1 hb.2
  refine ⟨by omega, ?_⟩
  by_cases c : x < (n : Int)
  · exact c
  · have := h3 x (by omega) (by omega)
    rw [h2] at this
    exact absurd this (by decide)
theorem pw_unique {l1 l2 : List Int} (h1 : l1.Pairwise (· < ·)) (h2 : l2.Pairwise (· < ·)) (h : ∀ x, x ∈ l1 ↔ x ∈ l2) : l1 = l2 := by
  induction l1 generalizing l2 with
  | nil =>
    cases l2 with
    | nil => rfl
    | cons b u => exact absurd ((h b).2 (List.mem_cons_self ..)) (by simp)
  | cons a t ih =>
    cases l2 with
    | nil => exact absurd ((h a).1 (List.mem_cons_self ..)) (by simp)
    | cons b u =>
      have p1 := List.pairwise_cons.1 h1
      have p2 := List.pairwise_cons.1 h2
      have hab : a = b := by
        rcases List.mem_cons.1 ((h a).1 (List.mem_cons_self ..)) with e | e
        · exact e
        · rcases List.mem_cons.1 ((h b).2 (List.mem_cons_self ..)) with e2 | e2
          · exact e2.symm
          · have := p1.1 b e2
            have := p2.1 a e
            omega
      subst hab
      rw [ih p1.2 p2.2 fun s => ?_]
      constructor
      · intro hs
        rcases List.mem_cons.1 ((h s).1 (List.mem_cons_of_mem _ hs)) with e | e
        · have := p1.1 s hs; omega
        · exact e
      · intro hs
        rcases List.mem_cons.1 ((h s).2 (List.mem_cons_of_mem _ hs)) with e | e
        · have := p2.1 s hs; omega
        · exact e
theorem bag_list_set {l : List Int} (h : risI 0 (((8 : Nat) : Int) - 1) none l = true) : bagL (bagI 0 l) = l := by
  have hp := risI_pw _ _ l none h
  have hx : ∀ x ∈ l, 0 ≤ x ∧ x < 8 := fun x hx => by have := risI_all _ _ l none h x hx; omega
  have hb := (bagI_at l 0 (by omega) hx).2
  refine pw_unique (selI_pw _ _ _) hp.1 fun x => ?_
  rw [selI_mem]
  constructor
  · rintro ⟨h1, h2⟩
    rw [hb x (by omega) (by omega), hasI_nil (by omega) (by omega), Bool.false_or, decide_eq_true_eq] at h2
    exact h2
  · intro hx'
    have := hx x hx'
    refine ⟨by omega, ?_⟩
    rw [hb x (by omega) (by omega), hasI_nil (by omega) (by omega), Bool.false_or, decide_eq_true_eq]
    exact hx'
theorem SetN.code {n : Nat} {s : List Int} (hn : n ≤ 8) (h : SetN n s) : (0 ≤ bagI 0 s ∧ bagI 0 s < ((2 ^ n : Nat) : Int)) ∧ bagL (bagI 0 s) = s := by
  have h8 := (h.wide hn).ris
  have hb := bagI_at s 0 (by omega) (fun x hx => by have := h.2 x hx; omega)
  refine ⟨⟨hb.1.1, (high_at hn hb.1).2 fun y h0 h1 => ?_⟩, bag_list_set h8⟩
  rw [hb.2 y (by omega) h1, hasI_nil (by omega) h1, Bool.false_or, decide_eq_false_iff_not]
  intro hy
  have := h.2 y hy
  omega
theorem codes_mem {n : Nat} (hn : n ≤ 8) (p : Int → Bool) (s : List Int) : s ∈ codesL p (2 ^ n) ↔ SetN n s ∧ p (bagI 0 s) = true := by
  have hpow : 2 ^ n ≤ 256 := Nat.pow_le_pow_right (n := 2) (by decide) (show n ≤ 8 from hn)
  unfold codesL
  rw [List.mem_map]
  constructor
  · rintro ⟨b, hb, rfl⟩
    obtain ⟨h1, h2⟩ := (selI_mem _ _ _ _).1 hb
    have h3 : 0 ≤ b ∧ b < ((2 ^ n : Nat) : Int) := ⟨h1.1, by omega⟩
    refine ⟨bagL_set hn h3, ?_⟩
    rw [bag_left_at ⟨h3.1, by omega⟩]
    exact h2
  · rintro ⟨h1, h2⟩
    have h3 := h1.code hn
    exact ⟨bagI 0 s, (selI_mem _ _ _ _).2 ⟨by have := h3.1; omega, h2⟩, h3.2⟩
theorem codes_nodup {n : Nat} (hn : n ≤ 256) (p : Int → Bool) : (codesL p n).Nodup := by
  unfold codesL
  refine List.Pairwise.map _ ?_ (List.Pairwise.and_mem.1 (selI_pw p n 0))
  rintro a b ⟨ha, hb, hab⟩ e
  have h1 := ((selI_mem _ _ _ _).1 ha).1
  have h2 := ((selI_mem _ _ _ _).1 hb).1
  have := congrArg (bagI 0) e
  rw [bag_left_at ⟨by omega, by omega⟩, bag_left_at ⟨by omega, by omega⟩] at this
  omega
theorem SetN.len {n : Nat} {s : List Int} (h : SetN n s) : s.length ≤ n := by
  have : ∀ (s : List Int) (a : Int), s.Pairwise (· < ·) → (∀ x ∈ s, a ≤ x ∧ x < (n : Int)) → (s.length : Int) ≤ (n : Int) - a ∨ s = [] := by
    intro s
    induction s with
    | nil => intro a _ _; exact .inr rfl
    | cons x t ih =>
      intro a h1 h2
      have p1 := List.pairwise_cons.1 h1
      have hx := h2 x (List.mem_cons_self ..)
      rcases ih (x + 1) p1.2 (fun y hy => ⟨by have := p1.1 y hy; omega, (h2 y (List.mem_cons_of_mem _ hy)).2⟩) with h3 | h3
      · exact .inl (by rw [List.length_cons]; omega)
      · subst h3
        exact .inl (by rw [List.length_singleton]; omega)
  rcases this s 0 h.1 h.2 with h3 | h3
  · omega
  · subst h3; exact Nat.zero_le _
end Go.Proofs.Ythnojbafclglpaa.P
namespace Go.Proofs.Ythnojbafclglpaa.P
open Go.RowKit Go.Proofs.YthnojbafclglpaaW.PrintWords Go.Proofs.YthnojbafclglpaaW.PrintLast Go.Proofs.YthnojbafclglpaaW.PrintMore
set_option linter.unusedVariables false

/-- No edge has both nodes in the set. -/
def freeI (e : List S64) (l : List Int) : Bool := !(e.any fun s => decide (s.f0 ∈ l) && decide (s.f1 ∈ l))
theorem hasP_iff (e : List S64) (x y : Int) : hasP e x y = true ↔ ∃ s ∈ e, (s.f0 = x ∧ s.f1 = y) ∨ (s.f0 = y ∧ s.f1 = x) := by
  unfold hasP
  rw [List.any_eq_true]
  simp only [Bool.or_eq_true, Bool.and_eq_true, decide_eq_true_eq]
theorem isFree_at (a : Int) (e : List S64) (b : Int) (l : List Int) (he : ∀ s ∈ e, 0 ≤ s.f0 ∧ s.f0 < s.f1 ∧ s.f1 < 8) (hb : ∀ y, 0 ≤ y → y < 8 → hasI b y = decide (y ∈ l)) : impl_Graph_isFree.f a e b = some (freeI e l) := by
  unfold impl_Graph_isFree.f
  have h1 : e.all (fun s => (impl_bag_has.f b s.f0).isSome && (impl_bag_has.f b s.f1).isSome) = true := by
    rw [List.all_eq_true]
    intro s hs
    have := he s hs
    rw [bag_has_at (by omega), bag_has_at (by omega)]
    rfl
  rw [if_pos h1]
  unfold freeI
  congr 2
  refine any_congr e _ _ fun s hs => ?_
  have := he s hs
  unfold bothB
  rw [bag_has_at (by omega), bag_has_at (by omega), Option.getD_some, Option.getD_some, hb _ (by omega) (by omega), hb _ (by omega) (by omega)]
end Go.Proofs.Ythnojbafclglpaa.P
namespace Go.Proofs.Ythnojbafclglpaa.P
open Go.RowKit Go.Proofs.YthnojbafclglpaaW.PrintWords Go.Proofs.YthnojbafclglpaaW.PrintLast Go.Proofs.YthnojbafclglpaaW.PrintMore
set_option linter.unusedVariables false

def nbs (l : List S64) (x : Int) : Nat → Int → List Int
  | 0, _ => []
  | d + 1, y => (if hasP l x y = true then [y] else []) ++ nbs l x d (y + 1)
theorem nbs_len (l : List S64) (x : Int) (d : Nat) : ∀ y, (nbs l x d y).length ≤ d := by
  induction d with
  | zero => intro y; simp [nbs]
  | succ d ih =>
    intro y
    have := ih (y + 1)
    simp only [nbs, List.length_append]
    split <;> simp only [List.length_nil, List.length_cons] <;> omega
theorem hasP_self (l : List S64) (x : Int) (hu : ∀ e ∈ l, e.f0 < e.f1) : hasP l x x = false := by
  unfold hasP
  rw [List.any_eq_false]
  intro e he
  have := hu e he
  simp only [Bool.or_eq_true, Bool.and_eq_true, decide_eq_true_eq]
  omega
section
variable (a : Int) (l : List S64) (hl : l.length ≤ 1048576) (h8 : a ≤ 8) (x : Int)
include hl h8
variable (hu : ∀ e ∈ l, e.f0 < e.f1)
include hu
theorem iNbs_loop (d : Nat) : ∀ (y : Int) (acc : List Int), (a - y).toNat = d → 0 ≤ y → acc.length + d ≤ 1000 →
    Ev (fun k => impl_Graph_neighbors.l0 k x acc a y a l) (acc ++ nbs l x d y) := by
  induction d with
  | zero =>
    intro y acc h0 h1 h2
    refine Ev.step (fun k => by rw [impl_Graph_neighbors.l0]) (Ev.neg (by omega) ?_)
    simp only [nbs, List.append_nil]
    exact Ev.now _
  | succ d ih =>
    intro y acc h0 h1 h2
    refine Ev.step (fun k => by rw [impl_Graph_neighbors.l0]) (Ev.pos (by omega) ?_)
    have hw : wrap64 (y + 1) = y + 1 := wrap_nat (by omega) (by omega)
    rw [hw, nbs]
    by_cases cx : y = x
    · have c : ¬ hasP l x y = true := by rw [cx, hasP_self l x hu]; decide
      rw [if_neg c, List.nil_append]
      exact Ev.pos cx (ih (y + 1) acc (by omega) (by omega) (by omega))
    · refine Ev.neg cx (Ev.bind (has_ev a l x y hl hu) ?_)
      by_cases c : hasP l x y = true
      · refine Ev.pos c (Ev.pos (by omega) ?_)
        rw [if_pos c, ← List.append_assoc]
        exact ih (y + 1) _ (by omega) (by omega) (by rw [List.length_append, List.length_singleton]; omega)
      · rw [if_neg c, List.nil_append]
        exact Ev.neg c (ih (y + 1) acc (by omega) (by omega) (by omega))
end
theorem neighbors_ev (a : Int) (l : List S64) (x : Int) (hl : l.length ≤ 1048576) (h8 : a ≤ 8) (hu : ∀ e ∈ l, e.f0 < e.f1) : Ev (fun k => impl_Graph_neighbors.f k a l x) (nbs l x a.toNat 0) := by
  unfold impl_Graph_neighbors.f
  have := iNbs_loop a l hl h8 x hu a.toNat 0 [] (by omega) (by omega) (by simp; omega)
  simpa only [List.nil_append] using this
end Go.Proofs.Ythnojbafclglpaa.P
namespace Go.Proofs.Ythnojbafclglpaa.P
open Go.RowKit Go.Proofs.YthnojbafclglpaaW.PrintWords Go.Proofs.YthnojbafclglpaaW.PrintLast Go.Proofs.YthnojbafclglpaaW.PrintMore
set_option linter.unusedVariables false

/-! What two bags have in common. -/
theorem wraps8 (n : Int) (h0 : 0 ≤ n) (h1 : n < 2 ^ 8) : IntKind.u64.wrap n = n := by
  simp [IntKind.wrap, IntKind.bits, IntKind.signed]
  omega
theorem hasI_bit (n y : Nat) (hn : n < 256) (hy : y < 8) : hasI (n : Int) (y : Int) = n.testBit y := by
  unfold hasI shr
  have e : (n : Int) / 2 ^ min (y : Int).toNat IntKind.u64.bits = ((n / 2 ^ y : Nat) : Int) := by
    rw [Int.toNat_natCast, Nat.min_eq_left (by show y ≤ 64; omega)]
    simp
  rw [e, show (1 : Int) = ((1 : Nat) : Int) from rfl, (bits_nat .u64 8 (by decide) wraps8 (n / 2 ^ y) 1 (Nat.lt_of_le_of_lt (Nat.div_le_self _ _) hn) (by decide)).1, Nat.and_one_is_mod, Nat.testBit_eq_decide_div_mod_eq, Bool.eq_iff_iff, beq_iff_eq, decide_eq_true_eq]
  omega
theorem andI_zero {b c : Int} (hb : 0 ≤ b ∧ b < 256) (hc : 0 ≤ c ∧ c < 256) : Go.bits .and .u64 b c = 0 ↔ ∀ y : Int, 0 ≤ y → y < 8 → ¬ (hasI b y = true ∧ hasI c y = true) := by
  obtain ⟨n, rfl⟩ := Int.eq_ofNat_of_zero_le hb.1
  obtain ⟨m, rfl⟩ := Int.eq_ofNat_of_zero_le hc.1
  have hn : n < 256 := by omega
  have hm : m < 256 := by omega
  rw [(bits_nat .u64 8 (by decide) wraps8 n m hn hm).1]
  constructor
  · intro h y h0 h8 hh
    obtain ⟨q, rfl⟩ := Int.eq_ofNat_of_zero_le h0
    rw [hasI_bit n q hn (by omega), hasI_bit m q hm (by omega)] at hh
    have h1 : n &&& m = 0 := by omega
    have := Nat.testBit_and n m q
    rw [h1, hh.1, hh.2, Nat.zero_testBit] at this
    simp at this
  · intro h
    have : n &&& m = 0 := by
      refine Nat.eq_of_testBit_eq fun q => ?_
      rw [Nat.testBit_and, Nat.zero_testBit]
      by_cases hq : q < 8
      · have := h (q : Int) (by omega) (by omega)
        rw [hasI_bit n q hn hq, hasI_bit m q hm hq] at this
        cases h1 : n.testBit q <;> cases h2 : m.testBit q <;> simp_all
      · rw [Nat.testBit_lt_two_pow (i := q) (x := n) (Nat.lt_of_lt_of_le hn (by show 2 ^ 8 ≤ 2 ^ q; exact Nat.pow_le_pow_right (by decide) (by omega))), Bool.false_and]
    rw [this]
    rfl
/-! A cover. -/
def coverI (e : List S64) (l : List Int) : Bool := e.all fun s => decide (s.f0 ∈ l) || decide (s.f1 ∈ l)
theorem cover_loop (a : Int) (e : List S64) (l : List Int) (he : e.length ≤ 1048576) (hl : l.length ≤ 1048576) (d : Nat) : ∀ (m : Nat), e.length - m = d → m ≤ e.length → Ev (fun k => spec_l4Has.l0 k l (m : Int) a e) (coverI (e.drop m) l) := by
  induction d with
  | zero =>
    intro m h0 h1
    refine Ev.step (fun k => by rw [spec_l4Has.l0]) (Ev.neg (by omega) ?_)
    rw [List.drop_eq_nil_of_le (by omega)]
    exact Ev.now _
  | succ d ih =>
    intro m h0 h1
    have hm : m < e.length := by omega
    have ihm := ih (m + 1) (by omega) (by omega)
    rw [← wrap_up hm (by omega)] at ihm
    refine Ev.step (fun k => by rw [spec_l4Has.l0]) (Ev.pos (by omega) (Ev.pos (by omega) ?_))
    rw [rdT_at e m hm, List.drop_eq_getElem_cons hm]
    unfold coverI at ihm ⊢
    rw [List.all_cons]
    refine Ev.bind (l1Has_ev l _ hl) ?_
    by_cases c : e[m].f0 ∈ l
    · rw [decide_eq_true c, Bool.true_or, Bool.true_and]
      exact Ev.pos rfl ihm
    · rw [decide_eq_false c, Bool.false_or]
      refine Ev.neg (by decide) (Ev.bind (l1Has_ev l _ hl) ?_)
      by_cases c2 : e[m].f1 ∈ l
      · rw [decide_eq_true c2, Bool.true_and]
        exact Ev.pos rfl ihm
      · rw [decide_eq_false c2, Bool.false_and]
        exact Ev.neg (by decide) (Ev.now _)
theorem cover_free {a : Int} {e : List S64} {l : List Int} (hg : okG a e = true) (hx : ∀ x ∈ l, 0 ≤ x ∧ x < 8) : impl_Graph_isFree.f a e (lessI (allI a) (bagI 0 l)) = some (coverI e l) := by
  have h1 := okG_all hg
  have hb := bagI_at l 0 (by omega) hx
  have hc := lessI_at (n := a) ⟨h1.1, h1.2.1⟩ hb.1
  have hv : ∀ y, 0 ≤ y → y < 8 → hasI (lessI (allI a) (bagI 0 l)) y = (decide (y < a) && !decide (y ∈ l)) := fun y h1 h2 => by rw [hc.2 y h1 h2, hb.2 y h1 h2, hasI_nil h1 h2, Bool.false_or]
  rw [isFree_at a e _ (selI (fun z => !decide (z ∈ l)) a.toNat 0) (fun s hs => by have := h1.2.2 s hs; omega) (fun y h0 h8 => ?_)]
  · congr 1
    unfold freeI coverI
    rw [Bool.eq_iff_iff, Bool.not_eq_true', List.any_eq_false, List.all_eq_true]
    refine forall_congr' fun s => forall_congr' fun hs => ?_
    have h2 := h1.2.2 s hs
    simp only [Bool.and_eq_true, decide_eq_true_eq, selI_mem, Bool.not_eq_true', decide_eq_false_iff_not, Bool.or_eq_true]
    by_cases c1 : s.f0 ∈ l
    · simp [c1]
    · by_cases c2 : s.f1 ∈ l
      · simp [c2]
      · simp only [c1, c2, not_false_eq_true, and_true, or_self, iff_false, Classical.not_not]
        omega
  · rw [hv y h0 h8, Bool.eq_iff_iff, decide_eq_true_eq, selI_mem, Bool.and_eq_true, decide_eq_true_eq]
    refine and_congr_left fun _ => ?_
    omega
/-! A clique. -/
def cliN (e : List S64) (l : List Int) : Nat → Nat → Bool
  | 0, _ => true
  | d + 1, i => if (l.take i).all (fun y => hasP e (l[i]?.getD 0) y) = true then cliN e l d (i + 1) else false
section
variable (a : Int) (e : List S64) (l : List Int) (he : e.length ≤ 1048576) (hl : l.length ≤ 1048576)
include he hl
theorem sCli_row {R : Bool} (i : Nat) (hi : i < l.length) (d : Nat) : ∀ (j : Nat), i - j = d → j ≤ i → Ev (fun k => spec_l4Has.l1 k l (wrap64 ((i : Int) + 1)) a e) R →
    Ev (fun k => spec_l4Has.l2 k l (i : Int) (j : Int) a e) (if ((l.take i).drop j).all (fun y => hasP e (l[i]?.getD 0) y) = true then R else false) := by
  induction d with
  | zero =>
    intro j h0 h1 h
    refine Ev.step (fun k => by rw [spec_l4Has.l2]) (Ev.neg (by omega) ?_)
    rw [List.drop_eq_nil_of_le (by rw [List.length_take]; omega), List.all_nil, if_pos rfl]
    exact h
  | succ d ih =>
    intro j h0 h1 h
    have hj : j < l.length := by omega
    refine Ev.step (fun k => by rw [spec_l4Has.l2]) (Ev.pos (by omega) (Ev.pos (by omega) (Ev.pos (by omega) (Ev.pos (by omega) (Ev.pos (by omega) ?_)))))
    rw [rd_at l j hj, rd_at l i hi]
    refine Ev.bind (near_ev a e l[i] l[j] he) ?_
    have hd : (l.take i).drop j = l[j] :: (l.take i).drop (j + 1) := by
      rw [List.drop_eq_getElem_cons (by rw [List.length_take]; omega), List.getElem_take]
    rw [hd, List.all_cons, List.getElem?_eq_getElem hi, Option.getD_some]
    have := ih (j + 1) (by omega) (by omega) h
    rw [List.getElem?_eq_getElem hi, Option.getD_some] at this
    cases c : hasP e l[i] l[j] with
    | true => rw [Bool.true_and, wrap_up hj (by omega)]; exact Ev.pos rfl this
    | false => rw [Bool.false_and, if_neg (by decide : ¬ false = true)]; exact Ev.neg (by decide) (Ev.now _)
theorem sCli_loop (d : Nat) : ∀ (i : Nat), l.length - i = d → i ≤ l.length → Ev (fun k => spec_l4Has.l1 k l (i : Int) a e) (cliN e l d i) := by
  induction d with
  | zero =>
    intro i h0 h1
    refine Ev.step (fun k => by rw [spec_l4Has.l1]) (Ev.neg (by omega) ?_)
    exact Ev.now _
  | succ d ih =>
    intro i h0 h1
    have hi : i < l.length := by omega
    refine Ev.step (fun k => by rw [spec_l4Has.l1]) (Ev.pos (by omega) ?_)
    have h := ih (i + 1) (by omega) (by omega)
    rw [← wrap_up hi (by omega)] at h
    have := sCli_row a e l he hl i hi i 0 (by omega) (by omega) h
    simpa only [List.drop_zero, cliN, Int.natCast_zero] using this
variable (hu : ∀ s ∈ e, s.f0 < s.f1)
include hu
theorem iCli_row {R : Bool} (i : Nat) (hi : i < l.length) (d : Nat) : ∀ (j : Nat), i - j = d → j ≤ i → Ev (fun k => impl_Graph_hasKind.l0 k l l (l.length : Int) (wrap64 ((i : Int) + 1)) a e) R →
    Ev (fun k => impl_Graph_hasKind.l1 k l l[i] l (l.length : Int) (i : Int) (l.take i) ((l.take i).length : Int) (j : Int) a e) (if ((l.take i).drop j).all (fun y => hasP e (l[i]?.getD 0) y) = true then R else false) := by
  have ht : (l.take i).length = i := by rw [List.length_take]; omega
  induction d with
  | zero =>
    intro j h0 h1 h
    refine Ev.step (fun k => by rw [impl_Graph_hasKind.l1]) (Ev.neg (by omega) ?_)
    rw [List.drop_eq_nil_of_le (by rw [List.length_take]; omega), List.all_nil, if_pos rfl]
    exact h
  | succ d ih =>
    intro j h0 h1 h
    have hj : j < l.length := by omega
    have hj2 : j < (l.take i).length := by omega
    refine Ev.step (fun k => by rw [impl_Graph_hasKind.l1]) (Ev.pos (by omega) (Ev.pos (by omega) (Ev.pos (by omega) ?_)))
    rw [rd_at (l.take i) j hj2, List.getElem_take]
    refine Ev.bind (has_ev a e l[i] l[j] he hu) ?_
    have hd : (l.take i).drop j = l[j] :: (l.take i).drop (j + 1) := by
      rw [List.drop_eq_getElem_cons hj2, List.getElem_take]
    rw [hd, List.all_cons, List.getElem?_eq_getElem hi, Option.getD_some]
    have := ih (j + 1) (by omega) (by omega) h
    rw [List.getElem?_eq_getElem hi, Option.getD_some] at this
    cases c : hasP e l[i] l[j] with
    | true => rw [Bool.true_and, wrap_up hj (by omega)]; exact Ev.pos rfl this
    | false => rw [Bool.false_and, if_neg (by decide : ¬ false = true)]; exact Ev.neg (by decide) (Ev.now _)
theorem iCli_loop (d : Nat) : ∀ (i : Nat), l.length - i = d → i ≤ l.length → Ev (fun k => impl_Graph_hasKind.l0 k l l (l.length : Int) (i : Int) a e) (cliN e l d i) := by
  induction d with
  | zero =>
    intro i h0 h1
    refine Ev.step (fun k => by rw [impl_Graph_hasKind.l0]) (Ev.neg (by omega) ?_)
    exact Ev.now _
  | succ d ih =>
    intro i h0 h1
    have hi : i < l.length := by omega
    refine Ev.step (fun k => by rw [impl_Graph_hasKind.l0]) (Ev.pos (by omega) (Ev.pos (by omega) (Ev.pos (by omega) (Ev.pos (by omega) ?_))))
    have h := ih (i + 1) (by omega) (by omega)
    rw [← wrap_up hi (by omega)] at h
    have := iCli_row a e l he hl hu i hi i 0 (by omega) (by omega) h
    rw [rd_at l i hi, Int.toNat_natCast]
    refine Ev.bindo rfl ?_
    simpa only [List.drop_zero, cliN, Int.natCast_zero] using this
end
/-- A rising list of small numbers is what its bag lists. -/
theorem ris_list (l : List Int) : ∀ (d : Nat) (p : Option Int) (y : Int), risI 0 7 p l = true → y + (d : Int) = 8 → 0 ≤ y → (∀ x ∈ l, y ≤ x) → selI (fun z => decide (z ∈ l)) d y = l := by
  induction l with
  | nil =>
    intro d p y h hd h0 hy
    exact selI_none _ d y (fun z _ _ => by simp)
  | cons x t ih =>
    intro d
    induction d with
    | zero =>
      intro p y h hd h0 hy
      have h1 := risI_all 0 7 (x :: t) p h x (List.mem_cons_self ..)
      have h2 := hy x (List.mem_cons_self ..)
      omega
    | succ d ihd =>
      intro p y h hd h0 hy
      have hx := hy x (List.mem_cons_self ..)
      have h' := h
      simp only [risI, Bool.and_eq_true, decide_eq_true_eq] at h'
      have ht : ∀ z ∈ t, x < z := by
        have h3 := h'.2.2
        have : ∀ (t : List Int) (q : Int), risI 0 7 (some q) t = true → ∀ z ∈ t, q < z := by
          intro t
          induction t with
          | nil => intro q _ z hz; simp at hz
          | cons w t ih =>
            intro q h z hz
            simp only [risI, Bool.and_eq_true, decide_eq_true_eq] at h
            rcases List.mem_cons.1 hz with rfl | hz
            · exact h.2.1
            · have := ih w h.2.2 z hz
              omega
        exact this t x h3
      by_cases c : y = x
      · subst c
        simp only [selI]
        rw [if_pos (by simp), List.singleton_append]
        congr 1
        have hcon : selI (fun z => decide (z ∈ y :: t)) d (y + 1) = selI (fun z => decide (z ∈ t)) d (y + 1) := selI_congr _ _ _ _ fun z h1 h2 => by
          rw [decide_eq_decide, List.mem_cons]
          exact ⟨fun h => h.resolve_left (by omega), .inr⟩
        rw [hcon]
        exact ih d (some y) (y + 1) h'.2.2 (by omega) (by omega) (fun z hz => by have := ht z hz; omega)
      · have hnot : ¬ y ∈ x :: t := by
          rw [List.mem_cons]
          rintro (hh | hh)
          · exact c hh
          · have := ht y hh
            omega
        simp only [selI]
        rw [if_neg (by simpa using hnot), List.nil_append]
        exact ihd p (y + 1) h (by omega) (by omega) (fun z hz => by
          rcases List.mem_cons.1 hz with rfl | hz
          · omega
          · have := ht z hz
            omega)
theorem bag_list_self {l : List Int} (h : risI 0 7 none l = true) : selI (hasI (bagI 0 l)) 8 0 = l := by
  have hx : ∀ x ∈ l, 0 ≤ x ∧ x < 8 := fun x hx => by have := risI_all 0 7 l none h x hx; omega
  have hb := (bagI_at l 0 (by omega) hx).2
  rw [selI_congr (hasI (bagI 0 l)) (fun z => decide (z ∈ l)) 8 0 (fun z h1 h2 => by rw [hb z h1 (by omega), hasI_nil h1 (by omega), Bool.false_or])]
  exact ris_list l 8 none 0 h (by decide) (by decide) (fun x hh => (hx x hh).1)
theorem risI_wide {n : Int} (hn : n ≤ 7) (l : List Int) : ∀ p, risI 0 n p l = true → risI 0 7 p l = true := by
  induction l with
  | nil => intro p _; cases p <;> rfl
  | cons x t ih =>
    intro p h
    simp only [risI, Bool.and_eq_true, decide_eq_true_eq] at h ⊢
    exact ⟨by omega, h.2.1, ih _ h.2.2⟩
/-! A dominating set. -/
theorem hasP_comm (e : List S64) (x y : Int) : hasP e x y = hasP e y x := by
  unfold hasP
  refine any_congr e _ _ fun s hs => ?_
  rw [Bool.or_comm]
def domN (e : List S64) (l : List Int) : Nat → Int → Bool
  | 0, _ => true
  | d + 1, x => if (decide (x ∈ l) || l.any fun y => hasP e y x) = true then domN e l d (x + 1) else false
section
variable (a : Int) (e : List S64) (l : List Int) (he : e.length ≤ 1048576) (hl : l.length ≤ 1048576) (h8 : a ≤ 8)
include he hl
theorem sDom_row {R : Bool} (x : Int) (d : Nat) : ∀ (m : Nat) (b : Bool), l.length - m = d → m ≤ l.length → Ev (fun k => spec_l4Has.l3 k l (wrap64 (x + 1)) a e) R →
    Ev (fun k => spec_l4Has.l4 k l x b (m : Int) a e) (if (b || (l.drop m).any fun y => hasP e y x) = true then R else false) := by
  induction d with
  | zero =>
    intro m b h0 h1 h
    refine Ev.step (fun k => by rw [spec_l4Has.l4]) (Ev.neg (by omega) ?_)
    rw [List.drop_eq_nil_of_le (by omega), List.any_nil, Bool.or_false]
    cases b with
    | true => rw [if_pos rfl]; exact Ev.pos rfl h
    | false => rw [if_neg (by decide : ¬ false = true)]; exact Ev.neg (by decide) (Ev.now _)
  | succ d ih =>
    intro m b h0 h1 h
    have hm : m < l.length := by omega
    refine Ev.step (fun k => by rw [spec_l4Has.l4]) (Ev.pos (by omega) ?_)
    rw [wrap_up hm (by omega), List.drop_eq_getElem_cons hm, List.any_cons]
    cases b with
    | true =>
      have := ih (m + 1) true (by omega) (by omega) h
      rw [Bool.true_or] at this ⊢
      exact Ev.pos rfl this
    | false =>
      refine Ev.neg (by decide) (Ev.pos (by omega) ?_)
      rw [rd_at l m hm, Bool.false_or]
      exact Ev.bind (near_ev a e l[m] x he) (ih (m + 1) _ (by omega) (by omega) h)
include h8
theorem sDom_loop (d : Nat) : ∀ (x : Int), (a - x).toNat = d → 0 ≤ x → Ev (fun k => spec_l4Has.l3 k l x a e) (domN e l d x) := by
  induction d with
  | zero =>
    intro x h0 h1
    refine Ev.step (fun k => by rw [spec_l4Has.l3]) (Ev.neg (by omega) ?_)
    exact Ev.now _
  | succ d ih =>
    intro x h0 h1
    have hw : wrap64 (x + 1) = x + 1 := wrap_nat (by omega) (by omega)
    refine Ev.step (fun k => by rw [spec_l4Has.l3]) (Ev.pos (by omega) (Ev.bind (l1Has_ev l x hl) ?_))
    have h := ih (x + 1) (by omega) (by omega)
    rw [← hw] at h
    have := sDom_row a e l he hl x l.length 0 (decide (x ∈ l)) (by omega) (Nat.zero_le _) h
    rw [hw] at this
    simpa only [List.drop_zero, domN, Int.natCast_zero] using this
end
section
variable (a : Int) (e : List S64) (l : List Int) (he : e.length ≤ 1048576) (h8 : a ≤ 8) (hg : okG a e = true) (hx : ∀ x ∈ l, 0 ≤ x ∧ x < 8)
include he h8 hg hx
theorem iDom_loop (d : Nat) : ∀ (x : Int), (a - x).toNat = d → 0 ≤ x → Ev (fun k => impl_Graph_hasKind.l2 k (bagI 0 l) a x a e) (domN e l d x) := by
  have h2 := okG_all hg
  have hu : ∀ s ∈ e, s.f0 < s.f1 := fun s hs => (h2.2.2 s hs).2.1
  have hb := bagI_at l 0 (by omega) hx
  induction d with
  | zero =>
    intro x h0 h1
    refine Ev.step (fun k => by rw [impl_Graph_hasKind.l2]) (Ev.neg (by omega) ?_)
    exact Ev.now _
  | succ d ih =>
    intro x h0 h1
    have hw : wrap64 (x + 1) = x + 1 := wrap_nat (by omega) (by omega)
    have h := ih (x + 1) (by omega) (by omega)
    refine Ev.step (fun k => by rw [impl_Graph_hasKind.l2]) (Ev.pos (by omega) (Ev.bindo (bag_has_at h1) ?_))
    rw [hb.2 x h1 (by omega), hasI_nil h1 (by omega), Bool.false_or, domN, hw]
    by_cases c : x ∈ l
    · rw [decide_eq_true c, Bool.true_or, if_pos rfl]
      exact Ev.pos rfl h
    · rw [decide_eq_false c, Bool.false_or]
      have hnx : ∀ y ∈ nbs e x a.toNat 0, 0 ≤ y ∧ y < 8 := by
        intro y hy
        have : ∀ (d : Nat) (z : Int), y ∈ nbs e x d z → z ≤ y ∧ y < z + (d : Int) := by
          intro d
          induction d with
          | zero => intro z hz; simp [nbs] at hz
          | succ d ih =>
            intro z hz
            simp only [nbs, List.mem_append] at hz
            rcases hz with hz | hz
            · split at hz
              · simp only [List.mem_singleton] at hz; omega
              · simp at hz
            · have := ih (z + 1) hz; omega
        have := this a.toNat 0 hy
        omega
      have hmem : ∀ y, y ∈ nbs e x a.toNat 0 ↔ (0 ≤ y ∧ y < a) ∧ hasP e x y = true := by
        intro y
        have : ∀ (d : Nat) (z : Int), y ∈ nbs e x d z ↔ (z ≤ y ∧ y < z + (d : Int)) ∧ hasP e x y = true := by
          intro d
          induction d with
          | zero => intro z; simp only [nbs, List.not_mem_nil, false_iff]; omega
          | succ d ih =>
            intro z
            simp only [nbs, List.mem_append, ih]
            by_cases c : hasP e x z = true
            · rw [if_pos c, List.mem_singleton]
              constructor
              · rintro (rfl | hh)
                · exact ⟨by omega, c⟩
                · exact ⟨by omega, hh.2⟩
              · rintro ⟨hh, hf⟩
                by_cases hz : y = z
                · exact .inl hz
                · exact .inr ⟨by omega, hf⟩
            · rw [if_neg c]
              constructor
              · rintro (hh | hh)
                · simp at hh
                · exact ⟨by omega, hh.2⟩
              · rintro ⟨hh, hf⟩
                by_cases hz : y = z
                · subst hz; exact absurd hf c
                · exact .inr ⟨by omega, hf⟩
        rw [this a.toNat 0]
        refine and_congr_left fun _ => ?_
        omega
      have hlen := nbs_len e x a.toNat 0
      have hb2 := bagI_at (nbs e x a.toNat 0) 0 (by omega) hnx
      refine Ev.neg (by decide) (Ev.bind (neighbors_ev a e x he h8 hu) (Ev.bind (bagOf_ev _ (by omega) hnx) ?_))
      have hz := andI_zero hb2.1 hb.1
      have hiff : Go.bits .and .u64 (bagI 0 (nbs e x a.toNat 0)) (bagI 0 l) = 0 ↔ ¬ (l.any fun y => hasP e y x) = true := by
        rw [hz, List.any_eq_true]
        constructor
        · rintro hh ⟨y, hy, hp⟩
          have hy8 := hx y hy
          refine hh y hy8.1 hy8.2 ⟨?_, ?_⟩
          · rw [hb2.2 y hy8.1 hy8.2, hasI_nil hy8.1 hy8.2, Bool.false_or, decide_eq_true_eq, hmem]
            refine ⟨?_, by rw [hasP_comm e]; exact hp⟩
            obtain ⟨s, hs, hc⟩ := (hasP_iff e y x).1 hp
            have := h2.2.2 s hs
            omega
          · rw [hb.2 y hy8.1 hy8.2, hasI_nil hy8.1 hy8.2, Bool.false_or, decide_eq_true_eq]
            exact hy
        · intro hh y h0 h8' hc
          rw [hb2.2 y h0 h8', hb.2 y h0 h8', hasI_nil h0 h8', Bool.false_or, Bool.false_or, decide_eq_true_eq, decide_eq_true_eq, hmem] at hc
          exact hh ⟨y, hc.2, by rw [hasP_comm e]; exact hc.1.2⟩
      by_cases c2 : (l.any fun y => hasP e y x) = true
      · rw [if_pos c2]
        exact Ev.neg (fun hh => hiff.1 hh c2) h
      · rw [if_neg c2]
        exact Ev.pos (hiff.2 c2) (Ev.now _)
end
end Go.Proofs.Ythnojbafclglpaa.P
namespace Go.Proofs.Ythnojbafclglpaa.P
open Go.RowKit Go.Proofs.YthnojbafclglpaaW.PrintWords Go.Proofs.YthnojbafclglpaaW.PrintLast Go.Proofs.YthnojbafclglpaaW.PrintMore
set_option linter.unusedVariables false

def kindI (a : Int) (e : List S64) (c : Int) (l : List Int) : Bool := if c = 1 then coverI e l else if c = 2 then cliN e l l.length 0 else domN e l a.toNat 0
theorem l4Has_ev (a : Int) (e : List S64) (c : Int) (l : List Int) (he : e.length ≤ 1048576) (hl : l.length ≤ 1048576) (h8 : a ≤ 8) : Ev (fun k => spec_l4Has.f k a e c l) (kindI a e c l) := by
  unfold spec_l4Has.f kindI
  by_cases c1 : c = 1
  · rw [if_pos c1]
    exact Ev.pos c1 (cover_loop a e l he hl e.length 0 (by omega) (Nat.zero_le _))
  · rw [if_neg c1]
    by_cases c2 : c = 2
    · rw [if_pos c2]
      exact Ev.neg c1 (Ev.pos c2 (sCli_loop a e l he hl l.length 0 (by omega) (Nat.zero_le _)))
    · rw [if_neg c2]
      exact Ev.neg c1 (Ev.neg c2 (sDom_loop a e l he hl h8 a.toNat 0 (by omega) (by omega)))
theorem hasKind_ev (a : Int) (e : List S64) (c : Int) (l : List Int) (he : e.length ≤ 1048576) (hl : l.length ≤ 1048576) (hg : okG a e = true) (hr : risI 0 (wrap64 (a - 1)) none l = true) : Ev (fun k => impl_Graph_hasKind.f k a e c (bagI 0 l)) (kindI a e c l) := by
  have h1 := okG_all hg
  have hu : ∀ s ∈ e, s.f0 < s.f1 := fun s hs => (h1.2.2 s hs).2.1
  have hx := set_small hg hr
  have hw : wrap64 (a - 1) = a - 1 := wrap_nat (by omega) (by omega)
  unfold impl_Graph_hasKind.f kindI
  by_cases c1 : c = 1
  · rw [if_pos c1]
    refine Ev.pos c1 (Ev.bindo (a := allI a) ?_ (Ev.bindo (cover_free hg hx) (Ev.now _)))
    unfold impl_Graph_all.f
    rw [if_pos h1.1]
    rfl
  · rw [if_neg c1]
    by_cases c2 : c = 2
    · rw [if_pos c2]
      refine Ev.neg c1 (Ev.pos c2 (Ev.bind (bag_list_ev _) ?_))
      rw [bag_list_self (risI_wide (by omega) l none hr)]
      exact iCli_loop a e l he hl hu l.length 0 (by omega) (Nat.zero_le _)
    · rw [if_neg c2]
      exact Ev.neg c1 (Ev.neg c2 (iDom_loop a e l he h1.2.1 hg hx a.toNat 0 (by omega) (by omega)))
theorem kind_at (c : Int) : impl_isKind.f c = some (decide (1 ≤ c) && decide (c ≤ 3)) := by
  unfold impl_isKind.f
  rw [between_at, Option.bind_some]
theorem l4Kind_at (c : Int) : spec_l4Kind.f c = some (decide (1 ≤ c) && decide (c ≤ 3)) := by
  unfold spec_l4Kind.f
  rw [in_at, Option.bind_some]
end Go.Proofs.Ythnojbafclglpaa.P
