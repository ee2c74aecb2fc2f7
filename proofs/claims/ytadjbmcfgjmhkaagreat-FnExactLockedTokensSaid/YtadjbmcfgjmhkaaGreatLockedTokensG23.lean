import Derived.Test.YtadjbmcfgjmhkaaGreatLockedTokensG22
namespace Go.Proofs.YtadjbmcfgjmhkaaGreat.P
open Go.RowKit Go.Proofs.YtadjbmcfgjmhkaaGreatW.PrintWords Go.Proofs.YtadjbmcfgjmhkaaGreatW.PrintLast Go.Proofs.YtadjbmcfgjmhkaaGreatW.PrintMore
set_option maxRecDepth 100000
set_option maxHeartbeats 8000000
set_option linter.unusedVariables false
set_option linter.unusedSimpArgs false
set_option maxHeartbeats 4000000 in
theorem laws_FnExactLockedTokens.exit0 (a0_0 : Int) (A0_1 : Option Addr) (ca0_1 : Nat) (l0_1 : List (S69)) (A1 : Option Addr) (ca1 : Nat) (l1 : List Int) (w : World) (hr0_1 : Kd.C k69 w A0_1 l0_1.length l0_1) (hc0_1 : l0_1.length ≤ ca0_1) (hr1 : Kd.C (Kd.int .i64) w A1 l1.length l1) (hc1 : l1.length ≤ ca1) (c0 : 1048576 < (l1.length : Int)) :
  Calls Tryz.prog 6 #[.agg #[.int .i64 a0_0, .slice A0_1 l0_1.length ca0_1], .slice A1 l1.length ca1] w fun e w' => e = .returned (.bool true) ∧ Below w.heap.size w w' := by
 have hu24 := Tryz.underlying24
 have hu30 := Tryz.underlying30
 have HR0_1 := zM hr0_1; clear hr0_1
 have HC0_1 := zM hc0_1; clear hc0_1
 have HR1 := zM hr1; clear hr1
 have HC1 := zM hc1; clear hc1
 have HB := zM (Below.refl w.heap.size w)
 have c0b : decide (1048576 < (l1.length : Int)) = true := decide_eq_true c0
 have c0c : decide (1048576 < l1.length) = true := decide_eq_true (by omega)
 clear c0
 go_enter Tryz.func6, Tryz.ntmps6
 go_wp2_with (first
  | ((with_reducible refine gate_dst (N := 2) rfl ?_); refine ze 2 #[.int .i64 a0_0, .slice A0_1 l0_1.length ca0_1] 24 ?_; intro gb2 hg w1 hbox hb; have HG2 := zM hg; have HW2 := zM (show w.heap.size ≤ gb2 by rw [hg]; exact below_size HB.out); have HL2 := zM (blk_lt hbox); clear hg; have HS1 := zM hb.size; replace HB := zM (below_step HB.out hb); have BK2 := zM hbox; clear hbox hb; have hc2_0 := zy BK2 0; have hf2_0 := blk_frozen BK2.out 0; have hc2_1 := zy BK2 1; have hf2_1 := blk_frozen BK2.out 1))
 go_ret
 exact ⟨rfl, HB.out⟩
set_option maxHeartbeats 4000000 in
theorem laws_FnExactLockedTokens.exit1 (a0_0 : Int) (A0_1 : Option Addr) (ca0_1 : Nat) (l0_1 : List (S69)) (A1 : Option Addr) (ca1 : Nat) (l1 : List Int) (t0 : Int) (w : World) (hr0_1 : Kd.C k69 w A0_1 l0_1.length l0_1) (hc0_1 : l0_1.length ≤ ca0_1) (hr1 : Kd.C (Kd.int .i64) w A1 l1.length l1) (hc1 : l1.length ≤ ca1) (c0 : ¬ (1048576 < (l1.length : Int))) (c1 : t0 < 0) (h0 : laws_szGraph.f a0_0 l0_1 1048576 = some t0) :
  Calls Tryz.prog 6 #[.agg #[.int .i64 a0_0, .slice A0_1 l0_1.length ca0_1], .slice A1 l1.length ca1] w fun e w' => e = .returned (.bool true) ∧ Below w.heap.size w w' := by
 have hu24 := Tryz.underlying24
 have hu30 := Tryz.underlying30
 have HR0_1 := zM hr0_1; clear hr0_1
 have HC0_1 := zM hc0_1; clear hc0_1
 have HR1 := zM hr1; clear hr1
 have HC1 := zM hc1; clear hc1
 have HB := zM (Below.refl w.heap.size w)
 have H0 := zM h0; clear h0
 have c0b : decide (1048576 < (l1.length : Int)) = false := decide_eq_false c0
 have c0c : decide (1048576 < l1.length) = false := decide_eq_false (by omega)
 clear c0
 have c1b : decide (t0 < 0) = true := decide_eq_true c1
 clear c1
 go_enter Tryz.func6, Tryz.ntmps6
 go_wp2_with (first
  | ((with_reducible refine gate_dst (N := 2) rfl ?_); refine ze 2 #[.int .i64 a0_0, .slice A0_1 l0_1.length ca0_1] 24 ?_; intro gb2 hg w1 hbox hb; have HG2 := zM hg; have HW2 := zM (show w.heap.size ≤ gb2 by rw [hg]; exact below_size HB.out); have HL2 := zM (blk_lt hbox); clear hg; have HS1 := zM hb.size; replace HB := zM (below_step HB.out hb); have BK2 := zM hbox; clear hbox hb; have hc2_0 := zy BK2 0; have hf2_0 := blk_frozen BK2.out 0; have hc2_1 := zy BK2 1; have hf2_1 := blk_frozen BK2.out 1)
  | (have hst_ : Aside0 (Below w.heap.size w w1) := HB; clear hst_; go_at_call 8; refine (laws_szGraph.calls a0_0 _ _ l0_1 1048576 t0 _ ?side1 ?side2 H0.out).mono ?_; (case side1 => exact zC (Kd.C_below HR0_1.out HB.out)); (case side2 => exact HC0_1.out); rintro e w2 ⟨rfl, hb⟩; replace BK2 := uKb BK2 hb; have HS2 := zM hb.size; replace HB := zM (below_step HB.out hb); clear hb; replace hc2_0 := zy BK2 0; replace hf2_0 := blk_frozen BK2.out 0; replace hc2_1 := zy BK2 1; replace hf2_1 := blk_frozen BK2.out 1))
 go_ret
 exact ⟨rfl, HB.out⟩
set_option maxHeartbeats 4000000 in
theorem laws_FnExactLockedTokens.walk (a0_0 : Int) (A0_1 : Option Addr) (ca0_1 : Nat) (l0_1 : List (S69)) (A1 : Option Addr) (ca1 : Nat) (l1 : List Int) (k1 k2 k3 k4 k5 k6 k7 k9 k10 k11 : Nat) (t0 : Int) (q0 : List Int) (q1 : Bool) (kk0 : Int) (mk0_0 : List (S69)) (kk1 : Int) (mk1_0 : List Int) (kk2 : Int) (mk2_0 : List Int) (w : World) (hr0_1 : Kd.C k69 w A0_1 l0_1.length l0_1) (hc0_1 : l0_1.length ≤ ca0_1) (hr1 : Kd.C (Kd.int .i64) w A1 l1.length l1) (hc1 : l1.length ≤ ca1) (c0 : ¬ (1048576 < (l1.length : Int))) (c1 : ¬ (t0 < 0)) (h0 : laws_szGraph.f a0_0 l0_1 1048576 = some t0) (h1 : laws_toGraph.f k1 a0_0 l0_1 = some (a0_0, l0_1)) (h2 : laws_toIntS.f k2 l1 = some l1) (h3 : spec_LockedTokens.f k3 a0_0 l0_1 l1 = some (q0, q1)) (h4 : impl_LockedTokens.f k4 a0_0 l0_1 l1 = some (q0, q1)) (h5 : laws_eqIntS.f k5 q0 q0 = some true) (h6 : laws_eqGraph.f k6 a0_0 l0_1 a0_0 l0_1 = some true) (h7 : laws_eqIntS.f k7 l1 l1 = some true) (h8 : laws_markGraph.f a0_0 l0_1 1 = some (kk0, mk0_0)) (h9 : laws_markIntS.f k9 l1 kk0 = some (kk1, mk1_0)) (h10 : laws_markIntS.f k10 q0 1 = some (kk2, mk2_0)) (h11 : laws_heldIntS.f k11 mk2_0 1 = some kk2) (nkk1 : ¬ (kk1 < 0)) (nkk2 : ¬ (kk2 < 0)) :
  Calls Tryz.prog 6 #[.agg #[.int .i64 a0_0, .slice A0_1 l0_1.length ca0_1], .slice A1 l1.length ca1] w fun e w' => e = .returned (.bool true) ∧ Below w.heap.size w w' := by
 have hu24 := Tryz.underlying24
 have hu30 := Tryz.underlying30
 have HR0_1 := zM hr0_1; clear hr0_1
 have HC0_1 := zM hc0_1; clear hc0_1
 have HR1 := zM hr1; clear hr1
 have HC1 := zM hc1; clear hc1
 have HB := zM (Below.refl w.heap.size w)
 have H0 := zM h0; clear h0
 have H1 := zM h1; clear h1
 have H2 := zM h2; clear h2
 have H3 := zM h3; clear h3
 have H4 := zM h4; clear h4
 have H5 := zM h5; clear h5
 have H6 := zM h6; clear h6
 have H7 := zM h7; clear h7
 have H8 := zM h8; clear h8
 have H9 := zM h9; clear h9
 have H10 := zM h10; clear h10
 have H11 := zM h11; clear h11
 have c0b : decide (1048576 < (l1.length : Int)) = false := decide_eq_false c0
 have c0c : decide (1048576 < l1.length) = false := decide_eq_false (by omega)
 clear c0
 have c1b : decide (t0 < 0) = false := decide_eq_false c1
 clear c1
 have nkk1b : decide (kk1 < 0) = false := decide_eq_false nkk1
 clear nkk1
 have nkk2b : decide (kk2 < 0) = false := decide_eq_false nkk2
 clear nkk2
 go_enter Tryz.func6, Tryz.ntmps6
 go_upto_region 13 with (first
  | ((with_reducible refine gate_dst (N := 2) rfl ?_); refine ze 2 #[.int .i64 a0_0, .slice A0_1 l0_1.length ca0_1] 24 ?_; intro gb2 hg w1 hbox hb; have HG2 := zM hg; have HW2 := zM (show w.heap.size ≤ gb2 by rw [hg]; exact below_size HB.out); have HL2 := zM (blk_lt hbox); clear hg; have HS1 := zM hb.size; replace HB := zM (below_step HB.out hb); have BK2 := zM hbox; clear hbox hb; have hc2_0 := zy BK2 0; have hf2_0 := blk_frozen BK2.out 0; have hc2_1 := zy BK2 1; have hf2_1 := blk_frozen BK2.out 1)
  | (have hst_ : Aside0 (Below w.heap.size w w1) := HB; clear hst_; go_at_call 8; refine (laws_szGraph.calls a0_0 _ _ l0_1 1048576 t0 _ ?side1 ?side2 H0.out).mono ?_; (case side1 => exact zC (Kd.C_below HR0_1.out HB.out)); (case side2 => exact HC0_1.out); rintro e w2 ⟨rfl, hb⟩; replace BK2 := uKb BK2 hb; have HS2 := zM hb.size; replace HB := zM (below_step HB.out hb); clear hb; replace hc2_0 := zy BK2 0; replace hf2_0 := blk_frozen BK2.out 0; replace hc2_1 := zy BK2 1; replace hf2_1 := blk_frozen BK2.out 1)
  | (have hst_ : Aside0 (Below w.heap.size w w2) := HB; clear hst_; go_at_call 10; refine (laws_toGraph.calls k1 a0_0 _ _ l0_1 a0_0 l0_1 _ ?side1 ?side2 H1.out).mono ?_; (case side1 => exact zC (Kd.C_below HR0_1.out HB.out)); (case side2 => exact HC0_1.out); rintro e w3 ⟨v0_0, rfl, ho0, hb⟩; replace BK2 := uKb BK2 hb; have HS3 := zM hb.size; have HO0_0 := uR HB.out (by first | exact ho0 | exact Kd.R_mono ho0 (fun _ _ => trivial) | exact Kd.R_mono ho0 (fun _ hk_ => hk_.1)); clear ho0; obtain ⟨Ao0_0, co0_0, eo0_0⟩ := Kd.R_slice HO0_0.out; subst eo0_0; replace HB := zM (below_step HB.out hb); clear hb; replace hc2_0 := zy BK2 0; replace hf2_0 := blk_frozen BK2.out 0; replace hc2_1 := zy BK2 1; replace hf2_1 := blk_frozen BK2.out 1)
  | (have hst_ : Aside0 (Below w.heap.size w w3) := HB; clear hst_; go_at_call 11; refine (laws_toIntS.calls k2 _ _ l1 l1 _ ?side1 ?side2 H2.out).mono ?_; (case side1 => exact zC (Kd.C_below HR1.out HB.out)); (case side2 => exact HC1.out); rintro e w4 ⟨v1_0, rfl, ho0, hb⟩; replace HO0_0 := uRb HO0_0 hb; replace BK2 := uKb BK2 hb; have HS4 := zM hb.size; have HO1_0 := uR HB.out (by first | exact ho0 | exact Kd.R_mono ho0 (fun _ _ => trivial) | exact Kd.R_mono ho0 (fun _ hk_ => hk_.1)); clear ho0; obtain ⟨Ao1_0, co1_0, eo1_0⟩ := Kd.R_slice HO1_0.out; subst eo1_0; replace HB := zM (below_step HB.out hb); clear hb; replace hc2_0 := zy BK2 0; replace hf2_0 := blk_frozen BK2.out 0; replace hc2_1 := zy BK2 1; replace hf2_1 := blk_frozen BK2.out 1)
  | (have hst_ : Aside0 (Below w.heap.size w w4) := HB; clear hst_; go_at_call 24; refine (spec_LockedTokens.calls k3 a0_0 _ _ l0_1 _ _ l1 q0 q1 _ ?side1 ?side2 ?side3 ?side4 H3.out).mono ?_; (case side1 => exact zC (Kd.R_reads' HO0_0.out).2.2); (case side2 => exact (Kd.R_reads' HO0_0.out).2.1); (case side3 => exact zC (Kd.R_reads' HO1_0.out).2.2); (case side4 => exact (Kd.R_reads' HO1_0.out).2.1); clear HO0_0; clear HO1_0; rintro e w5 ⟨v2_0, rfl, ho0, hb⟩; replace BK2 := uKb BK2 hb; have HS5 := zM hb.size; have HO2_0 := uR HB.out (by first | exact ho0 | exact Kd.R_mono ho0 (fun _ _ => trivial) | exact Kd.R_mono ho0 (fun _ hk_ => hk_.1)); clear ho0; obtain ⟨Ao2_0, co2_0, eo2_0⟩ := Kd.R_slice HO2_0.out; subst eo2_0; replace HB := zM (below_step HB.out hb); clear hb; replace hc2_0 := zy BK2 0; replace hf2_0 := blk_frozen BK2.out 0; replace hc2_1 := zy BK2 1; replace hf2_1 := blk_frozen BK2.out 1)
  | (have hst_ : Aside0 (Below w.heap.size w w5) := HB; clear hst_; go_at_call 10; refine (laws_toGraph.calls k1 a0_0 _ _ l0_1 a0_0 l0_1 _ ?side1 ?side2 H1.out).mono ?_; (case side1 => exact zC (Kd.C_below HR0_1.out HB.out)); (case side2 => exact HC0_1.out); rintro e w6 ⟨v3_0, rfl, ho0, hb⟩; replace HO2_0 := uRb HO2_0 hb; replace BK2 := uKb BK2 hb; have HS6 := zM hb.size; have HO3_0 := uR HB.out (by first | exact ho0 | exact Kd.R_mono ho0 (fun _ _ => trivial) | exact Kd.R_mono ho0 (fun _ hk_ => hk_.1)); clear ho0; obtain ⟨Ao3_0, co3_0, eo3_0⟩ := Kd.R_slice HO3_0.out; subst eo3_0; replace HB := zM (below_step HB.out hb); clear hb; replace hc2_0 := zy BK2 0; replace hf2_0 := blk_frozen BK2.out 0; replace hc2_1 := zy BK2 1; replace hf2_1 := blk_frozen BK2.out 1)
  | ((with_reducible refine gate_dst (N := 8) rfl ?_); refine ze 8 #[.int .i64 0, .slice none 0 0] 30 ?_; intro gb8 hg w7 hbox hb; have HG8 := zM hg; have HW8 := zM (show w.heap.size ≤ gb8 by rw [hg]; exact below_size HB.out); have HL8 := zM (blk_lt hbox); clear hg; replace HO2_0 := uRb HO2_0 hb; replace HO3_0 := uRb HO3_0 hb; replace BK2 := uKb BK2 hb; have HS7 := zM hb.size; replace HB := zM (below_step HB.out hb); have hn2_8 : gb2 ≠ gb8 := (by have := HG8.out; have := HL2.out; have := HS2.out; have := HS3.out; have := HS4.out; have := HS5.out; have := HS6.out; omega); have hn8_2 := hn2_8.symm; have BK8 := zM hbox; clear hbox hb; replace hc2_0 := zy BK2 0; replace hf2_0 := blk_frozen BK2.out 0; replace hc2_1 := zy BK2 1; replace hf2_1 := blk_frozen BK2.out 1; have hc8_0 := zy BK8 0; have hf8_0 := blk_frozen BK8.out 0; have hc8_1 := zy BK8 1; have hf8_1 := blk_frozen BK8.out 1)
  | (have hst_ : Aside0 (Below w.heap.size w w7) := HB; clear hst_; go_at_call 11; refine uBox BK8 HB HW8.out ?_; intro w8 BKn hk HBn; replace HO2_0 := uRk HO2_0 hk (fun k_ hk_ e_ => by have e2 : k_ = gb8 := e_; have := HG8.out; have := HL8.out; have h2 : w4.heap.size ≤ k_ ∧ k_ < w5.heap.size := hk_; have := HS6.out; omega); replace HO3_0 := uRk HO3_0 hk (fun k_ hk_ e_ => by have e2 : k_ = gb8 := e_; have := HG8.out; have := HL8.out; have h2 : w5.heap.size ≤ k_ ∧ k_ < w6.heap.size := hk_; omega); replace BK2 := uKk BK2 hk (fun e_ => by have e2 : gb2 = gb8 := e_; have := HG8.out; have := HL8.out; have := HG2.out; have := HL2.out; have := HS2.out; have := HS3.out; have := HS4.out; have := HS5.out; have := HS6.out; omega); replace BK8 := BKn; replace HB := HBn; clear BKn HBn; have HS8 := zM hk.1; clear hk; refine (laws_toIntS.calls k2 _ _ l1 l1 _ ?side1 ?side2 H2.out).mono ?_; (case side1 => exact zC (Kd.C_below HR1.out HB.out)); (case side2 => exact HC1.out); rintro e w9 ⟨v4_0, rfl, ho0, hb⟩; replace HO2_0 := uRb HO2_0 hb; replace HO3_0 := uRb HO3_0 hb; replace BK2 := uKb BK2 hb; replace BK8 := uKb BK8 hb; have HS9 := zM hb.size; have HO4_0 := uR HB.out (by first | exact ho0 | exact Kd.R_mono ho0 (fun _ _ => trivial) | exact Kd.R_mono ho0 (fun _ hk_ => hk_.1)); clear ho0; obtain ⟨Ao4_0, co4_0, eo4_0⟩ := Kd.R_slice HO4_0.out; subst eo4_0; replace HB := zM (below_step HB.out hb); clear hb; replace hc2_0 := zy BK2 0; replace hf2_0 := blk_frozen BK2.out 0; replace hc2_1 := zy BK2 1; replace hf2_1 := blk_frozen BK2.out 1; replace hc8_0 := zy BK8 0; replace hf8_0 := blk_frozen BK8.out 0; replace hc8_1 := zy BK8 1; replace hf8_1 := blk_frozen BK8.out 1)
  | (have hst_ : Aside0 (Below w.heap.size w w9) := HB; clear hst_; go_at_call 25; refine (impl_LockedTokens.calls k4 a0_0 _ _ l0_1 _ _ l1 q0 q1 _ ?side1 ?side2 ?side3 ?side4 H4.out).mono ?_; (case side1 => exact zC (Kd.R_reads' HO3_0.out).2.2); (case side2 => exact (Kd.R_reads' HO3_0.out).2.1); (case side3 => exact zC (Kd.R_reads' HO4_0.out).2.2); (case side4 => exact (Kd.R_reads' HO4_0.out).2.1); rintro e w10 ⟨v5_0, rfl, ho0, hb⟩; replace HO2_0 := uRb HO2_0 hb; replace HO3_0 := uRb HO3_0 hb; replace HO4_0 := uRb HO4_0 hb; replace BK2 := uKb BK2 hb; replace BK8 := uKb BK8 hb; have HS10 := zM hb.size; have HO5_0 := uR HB.out (by first | exact ho0 | exact Kd.R_mono ho0 (fun _ _ => trivial) | exact Kd.R_mono ho0 (fun _ hk_ => hk_.1)); clear ho0; obtain ⟨Ao5_0, co5_0, eo5_0⟩ := Kd.R_slice HO5_0.out; subst eo5_0; replace HB := zM (below_step HB.out hb); clear hb; replace hc2_0 := zy BK2 0; replace hf2_0 := blk_frozen BK2.out 0; replace hc2_1 := zy BK2 1; replace hf2_1 := blk_frozen BK2.out 1; replace hc8_0 := zy BK8 0; replace hf8_0 := blk_frozen BK8.out 0; replace hc8_1 := zy BK8 1; replace hf8_1 := blk_frozen BK8.out 1)
  | (have hst_ : Aside0 (Below w.heap.size w w10) := HB; clear hst_; go_at_call 15; refine (laws_eqIntS.calls k5 _ _ q0 _ _ q0 true _ ?side1 ?side2 ?side3 ?side4 H5.out).mono ?_; (case side1 => exact zC (Kd.R_reads' HO5_0.out).2.2); (case side2 => exact (Kd.R_reads' HO5_0.out).2.1); (case side3 => exact zC (Kd.R_reads' HO2_0.out).2.2); (case side4 => exact (Kd.R_reads' HO2_0.out).2.1); rintro e w11 ⟨rfl, hb0⟩; have hb := hb0.below; clear hb0; replace HO2_0 := uRb HO2_0 hb; replace HO3_0 := uRb HO3_0 hb; replace HO4_0 := uRb HO4_0 hb; replace HO5_0 := uRb HO5_0 hb; replace BK2 := uKb BK2 hb; replace BK8 := uKb BK8 hb; have HS11 := zM hb.size; replace HB := zM (below_step HB.out hb); clear hb; replace hc2_0 := zy BK2 0; replace hf2_0 := blk_frozen BK2.out 0; replace hc2_1 := zy BK2 1; replace hf2_1 := blk_frozen BK2.out 1; replace hc8_0 := zy BK8 0; replace hf8_0 := blk_frozen BK8.out 0; replace hc8_1 := zy BK8 1; replace hf8_1 := blk_frozen BK8.out 1))
 (try simp only [Act.put, List.setIfInBounds_toArray, List.set_cons_zero, List.set_cons_succ])
 replace HO2_0 := zM (Kd.R_drew HO2_0.out)
 replace HO3_0 := zM (Kd.R_drew HO3_0.out)
 replace HO4_0 := zM (Kd.R_drew HO4_0.out)
 replace HO5_0 := zM (Kd.R_drew HO5_0.out)
 replace BK2 := zM (blk_drew BK2.out)
 replace BK8 := zM (blk_drew BK8.out)
 replace HB := zM (below_drew1 HB.out)
 refine zs (n := 5) (fun w' => w'.cell? ⟨gb8, 0, none⟩ = some (.int .i64 a0_0) ∧ w'.cell? ⟨gb8, 1, none⟩ = some (.slice Ao3_0 l0_1.length co3_0) ∧ w'.cell? ⟨gb2, 0, none⟩ = some (.int .i64 a0_0) ∧ w'.cell? ⟨gb2, 1, none⟩ = some (.slice A0_1 l0_1.length ca0_1)) ⟨(blk_cell BK8.out 0).trans rfl, (blk_cell BK8.out 1).trans rfl, (blk_cell BK2.out 0).trans rfl, (blk_cell BK2.out 1).trans rfl⟩ (fun hHeld => ?_)
 have HS12 := zM (show w11.heap.size ≤ w11.drew.heap.size from Nat.le_refl _)
 generalize w11.drew = w12 at HO2_0 HO3_0 HO4_0 HO5_0 BK2 BK8 HB HS12 hHeld ⊢
 refine zl 0 52 hHeld ?_ (hy := by rintro w' ⟨s0, s1, s2, s3⟩; go_simp; with_reducible rfl)
 refine zl 1 53 hHeld ?_ (hy := by rintro w' ⟨s0, s1, s2, s3⟩; go_simp; with_reducible rfl)
 refine zh 2 54 Tryz.func10 #[.agg #[.int .i64 a0_0, .slice A0_1 l0_1.length ca0_1]] (fun K hK => ?_)
 (refine (laws_toGraph.calls k1 a0_0 _ _ l0_1 a0_0 l0_1 _ ?side1 ?side2 H1.out).mono ?_; (case side1 => exact zC (Kd.C_below HR0_1.out HB.out)); (case side2 => exact HC0_1.out); rintro e w13 ⟨v6_0, rfl, ho0, hb⟩; replace HO2_0 := uRb HO2_0 hb; replace HO3_0 := uRb HO3_0 hb; replace HO4_0 := uRb HO4_0 hb; replace HO5_0 := uRb HO5_0 hb; replace BK2 := uKb BK2 hb; replace BK8 := uKb BK8 hb; have HS13 := zM hb.size; have HO6_0 := uR HB.out (by first | exact ho0 | exact Kd.R_mono ho0 (fun _ _ => trivial) | exact Kd.R_mono ho0 (fun _ hk_ => hk_.1)); clear ho0; obtain ⟨Ao6_0, co6_0, eo6_0⟩ := Kd.R_slice HO6_0.out; subst eo6_0; replace HB := zM (below_step HB.out hb); clear hb)
 refine ⟨_, rfl, ?_⟩
 refine hK.out _ _ ⟨(blk_cell BK8.out 0).trans rfl, (blk_cell BK8.out 1).trans rfl, (blk_cell BK2.out 0).trans rfl, (blk_cell BK2.out 1).trans rfl⟩ (fun hHeld => ?_)
 clear hK K
 refine zn 54 ?_
 refine zh 3 55 Tryz.func14 #[.agg #[.int .i64 a0_0, .slice Ao3_0 l0_1.length co3_0], .agg #[.int .i64 a0_0, .slice Ao6_0 l0_1.length co6_0]] (fun K hK => ?_)
 (refine (laws_eqGraph.calls k6 a0_0 _ _ l0_1 a0_0 _ _ l0_1 true _ ?side1 ?side2 ?side3 ?side4 H6.out).mono ?_; (case side1 => exact zC (Kd.R_reads' HO3_0.out).2.2); (case side2 => exact (Kd.R_reads' HO3_0.out).2.1); (case side3 => exact zC (Kd.R_reads' HO6_0.out).2.2); (case side4 => exact (Kd.R_reads' HO6_0.out).2.1); clear HO6_0; rintro e w14 ⟨rfl, hb⟩; replace HO2_0 := uRb HO2_0 hb; replace HO3_0 := uRb HO3_0 hb; replace HO4_0 := uRb HO4_0 hb; replace HO5_0 := uRb HO5_0 hb; replace BK2 := uKb BK2 hb; replace BK8 := uKb BK8 hb; have HS14 := zM hb.size; replace HB := zM (below_step HB.out hb); clear hb)
 refine ⟨_, rfl, ?_⟩
 refine hK.out _ _ ⟨(blk_cell BK8.out 0).trans rfl, (blk_cell BK8.out 1).trans rfl, (blk_cell BK2.out 0).trans rfl, (blk_cell BK2.out 1).trans rfl⟩ (fun hHeld => ?_)
 clear hK K
 refine zn 55 ?_
 refine zq 4 56 ?_
 refine zx ?_
 replace hc2_0 := zy BK2 0
 replace hf2_0 := blk_frozen BK2.out 0
 replace hc2_1 := zy BK2 1
 replace hf2_1 := blk_frozen BK2.out 1
 replace hc8_0 := zy BK8 0
 replace hf8_0 := blk_frozen BK8.out 0
 replace hc8_1 := zy BK8 1
 replace hf8_1 := blk_frozen BK8.out 1
 go_wp2_with (first
  | (have hst_ : Aside0 (Below w.heap.size w w14) := HB; clear hst_; go_at_call 11; refine (laws_toIntS.calls k2 _ _ l1 l1 _ ?side1 ?side2 H2.out).mono ?_; (case side1 => exact zC (Kd.C_below HR1.out HB.out)); (case side2 => exact HC1.out); rintro e w15 ⟨v7_0, rfl, ho0, hb⟩; replace HO2_0 := uRb HO2_0 hb; replace HO3_0 := uRb HO3_0 hb; replace HO4_0 := uRb HO4_0 hb; replace HO5_0 := uRb HO5_0 hb; replace BK2 := uKb BK2 hb; replace BK8 := uKb BK8 hb; have HS15 := zM hb.size; have HO7_0 := uR HB.out (by first | exact ho0 | exact Kd.R_mono ho0 (fun _ _ => trivial) | exact Kd.R_mono ho0 (fun _ hk_ => hk_.1)); clear ho0; obtain ⟨Ao7_0, co7_0, eo7_0⟩ := Kd.R_slice HO7_0.out; subst eo7_0; replace HB := zM (below_step HB.out hb); clear hb; replace hc2_0 := zy BK2 0; replace hf2_0 := blk_frozen BK2.out 0; replace hc2_1 := zy BK2 1; replace hf2_1 := blk_frozen BK2.out 1; replace hc8_0 := zy BK8 0; replace hf8_0 := blk_frozen BK8.out 0; replace hc8_1 := zy BK8 1; replace hf8_1 := blk_frozen BK8.out 1)
  | (have hst_ : Aside0 (Below w.heap.size w w15) := HB; clear hst_; go_at_call 15; refine (laws_eqIntS.calls k7 _ _ l1 _ _ l1 true _ ?side1 ?side2 ?side3 ?side4 H7.out).mono ?_; (case side1 => exact zC (Kd.R_reads' HO4_0.out).2.2); (case side2 => exact (Kd.R_reads' HO4_0.out).2.1); (case side3 => exact zC (Kd.R_reads' HO7_0.out).2.2); (case side4 => exact (Kd.R_reads' HO7_0.out).2.1); clear HO7_0; rintro e w16 ⟨rfl, hb0⟩; have hb := hb0.below; clear hb0; replace HO2_0 := uRb HO2_0 hb; replace HO3_0 := uRb HO3_0 hb; replace HO4_0 := uRb HO4_0 hb; replace HO5_0 := uRb HO5_0 hb; replace BK2 := uKb BK2 hb; replace BK8 := uKb BK8 hb; have HS16 := zM hb.size; replace HB := zM (below_step HB.out hb); clear hb; replace hc2_0 := zy BK2 0; replace hf2_0 := blk_frozen BK2.out 0; replace hc2_1 := zy BK2 1; replace hf2_1 := blk_frozen BK2.out 1; replace hc8_0 := zy BK8 0; replace hf8_0 := blk_frozen BK8.out 0; replace hc8_1 := zy BK8 1; replace hf8_1 := blk_frozen BK8.out 1)
  | (have hst_ : Aside0 (Below w.heap.size w w16) := HB; clear hst_; go_at_call 16; refine (laws_markGraph.calls a0_0 _ _ l0_1 1 kk0 mk0_0 w w16 HB.out HO3_0.out H8.out).mono ?_; clear HO3_0; clear BK8 hc8_0 hf8_0 hc8_1 hf8_1; rintro e w17 ⟨rfl, hy0, hb2, hk⟩; replace HO2_0 := uRk HO2_0 hk (fun k_ hk_ e_ => by have e2 : w5.heap.size ≤ k_ ∧ k_ < w6.heap.size := e_; have h2 : w4.heap.size ≤ k_ ∧ k_ < w5.heap.size := hk_; omega); replace HO4_0 := uRk HO4_0 hk (fun k_ hk_ e_ => by have e2 : w5.heap.size ≤ k_ ∧ k_ < w6.heap.size := e_; have h2 : w8.heap.size ≤ k_ ∧ k_ < w9.heap.size := hk_; have := HS7.out; have := HS8.out; omega); replace HO5_0 := uRk HO5_0 hk (fun k_ hk_ e_ => by have e2 : w5.heap.size ≤ k_ ∧ k_ < w6.heap.size := e_; have h2 : w9.heap.size ≤ k_ ∧ k_ < w10.heap.size := hk_; have := HS7.out; have := HS8.out; have := HS9.out; omega); replace BK2 := uKk BK2 hk (fun e_ => by have e2 : w5.heap.size ≤ gb2 ∧ gb2 < w6.heap.size := e_; have := HG2.out; have := HL2.out; have := HS2.out; have := HS3.out; have := HS4.out; have := HS5.out; omega); clear hy0; have HS17 := zM hk.1; replace HB := zM hb2; clear hb2 hk; replace hc2_0 := zy BK2 0; replace hf2_0 := blk_frozen BK2.out 0; replace hc2_1 := zy BK2 1; replace hf2_1 := blk_frozen BK2.out 1)
  | (have hst_ : Aside0 (Below w.heap.size w w17) := HB; clear hst_; go_at_call 17; refine (laws_markIntS.calls k9 _ _ l1 kk0 kk1 mk1_0 w w17 HB.out HO4_0.out H9.out).mono ?_; clear HO4_0; rintro e w18 ⟨rfl, hy0, hb2, hk⟩; replace HO2_0 := uRk HO2_0 hk (fun k_ hk_ e_ => by have e2 : w8.heap.size ≤ k_ ∧ k_ < w9.heap.size := e_; have h2 : w4.heap.size ≤ k_ ∧ k_ < w5.heap.size := hk_; have := HS6.out; have := HS7.out; have := HS8.out; omega); replace HO5_0 := uRk HO5_0 hk (fun k_ hk_ e_ => by have e2 : w8.heap.size ≤ k_ ∧ k_ < w9.heap.size := e_; have h2 : w9.heap.size ≤ k_ ∧ k_ < w10.heap.size := hk_; omega); replace BK2 := uKk BK2 hk (fun e_ => by have e2 : w8.heap.size ≤ gb2 ∧ gb2 < w9.heap.size := e_; have := HG2.out; have := HL2.out; have := HS2.out; have := HS3.out; have := HS4.out; have := HS5.out; have := HS6.out; have := HS7.out; have := HS8.out; omega); clear hy0; have HS18 := zM hk.1; replace HB := zM hb2; clear hb2 hk; replace hc2_0 := zy BK2 0; replace hf2_0 := blk_frozen BK2.out 0; replace hc2_1 := zy BK2 1; replace hf2_1 := blk_frozen BK2.out 1)
  | (have hst_ : Aside0 (Below w.heap.size w w18) := HB; clear hst_; go_at_call 15; refine (laws_eqIntS.calls k5 _ _ q0 _ _ q0 true _ ?side1 ?side2 ?side3 ?side4 H5.out).mono ?_; (case side1 => exact zC (Kd.R_reads' HO5_0.out).2.2); (case side2 => exact (Kd.R_reads' HO5_0.out).2.1); (case side3 => exact zC (Kd.R_reads' HO2_0.out).2.2); (case side4 => exact (Kd.R_reads' HO2_0.out).2.1); rintro e w19 ⟨rfl, hb0⟩; have hb := hb0.below; clear hb0; replace HO2_0 := uRb HO2_0 hb; replace HO5_0 := uRb HO5_0 hb; replace BK2 := uKb BK2 hb; have HS19 := zM hb.size; replace HB := zM (below_step HB.out hb); clear hb; replace hc2_0 := zy BK2 0; replace hf2_0 := blk_frozen BK2.out 0; replace hc2_1 := zy BK2 1; replace hf2_1 := blk_frozen BK2.out 1)
  | (have hst_ : Aside0 (Below w.heap.size w w19) := HB; clear hst_; go_at_call 17; refine (laws_markIntS.calls k10 _ _ q0 1 kk2 mk2_0 w w19 HB.out HO5_0.out H10.out).mono ?_; rintro e w20 ⟨rfl, hy0, hb2, hk⟩; replace HO2_0 := uRk HO2_0 hk (fun k_ hk_ e_ => by have e2 : w9.heap.size ≤ k_ ∧ k_ < w10.heap.size := e_; have h2 : w4.heap.size ≤ k_ ∧ k_ < w5.heap.size := hk_; have := HS6.out; have := HS7.out; have := HS8.out; have := HS9.out; omega); replace BK2 := uKk BK2 hk (fun e_ => by have e2 : w9.heap.size ≤ gb2 ∧ gb2 < w10.heap.size := e_; have := HG2.out; have := HL2.out; have := HS2.out; have := HS3.out; have := HS4.out; have := HS5.out; have := HS6.out; have := HS7.out; have := HS8.out; have := HS9.out; omega); replace HO5_0 := zM (Kd.R_mono (Kd.R_bound hy0) (fun k_ hk_ => (Or.imp id (fun h_ => ⟨h_, hk_.2.2.1⟩) hk_.1 : (w9.heap.size ≤ k_ ∧ k_ < w10.heap.size) ∨ (w19.heap.size ≤ k_ ∧ k_ < w20.heap.size)))); clear hy0; have hl5_0 := (Kd.R_reads' HO5_0.out).1; rw [hl5_0] at HO5_0; replace hl5_0 := zM hl5_0; have HS20 := zM hk.1; replace HB := zM hb2; clear hb2 hk; replace hc2_0 := zy BK2 0; replace hf2_0 := blk_frozen BK2.out 0; replace hc2_1 := zy BK2 1; replace hf2_1 := blk_frozen BK2.out 1)
  | (have hst_ : Aside0 (Below w.heap.size w w20) := HB; clear hst_; go_at_call 26; refine uArgs (args' := #[.slice Ao5_0 mk2_0.length co5_0, .int .i64 1]) (by rw [hl5_0.out]) ?_; refine (laws_heldIntS.calls k11 _ _ mk2_0 1 kk2 _ ?side1 ?side2 H11.out).mono ?_; (case side1 => exact zC (Kd.R_reads' HO5_0.out).2.2); (case side2 => exact (Kd.R_reads' HO5_0.out).2.1); rintro e w21 ⟨rfl, hb0⟩; have hb := hb0.below; clear hb0; replace HO2_0 := uRb HO2_0 hb; replace HO5_0 := uRb HO5_0 hb; replace BK2 := uKb BK2 hb; have HS21 := zM hb.size; replace HB := zM (below_step HB.out hb); clear hb; replace hc2_0 := zy BK2 0; replace hf2_0 := blk_frozen BK2.out 0; replace hc2_1 := zy BK2 1; replace hf2_1 := blk_frozen BK2.out 1)
  | (have hst_ : Aside0 (Below w.heap.size w w21) := HB; clear hst_; go_at_call 10; refine (laws_toGraph.calls k1 a0_0 _ _ l0_1 a0_0 l0_1 _ ?side1 ?side2 H1.out).mono ?_; (case side1 => exact zC (Kd.C_below HR0_1.out HB.out)); (case side2 => exact HC0_1.out); clear BK2 hc2_0 hf2_0 hc2_1 hf2_1; rintro e w22 ⟨v8_0, rfl, ho0, hb⟩; replace HO2_0 := uRb HO2_0 hb; replace HO5_0 := uRb HO5_0 hb; have HS22 := zM hb.size; have HO8_0 := uR HB.out (by first | exact ho0 | exact Kd.R_mono ho0 (fun _ _ => trivial) | exact Kd.R_mono ho0 (fun _ hk_ => hk_.1)); clear ho0; obtain ⟨Ao8_0, co8_0, eo8_0⟩ := Kd.R_slice HO8_0.out; subst eo8_0; replace HB := zM (below_step HB.out hb); clear hb)
  | (have hst_ : Aside0 (Below w.heap.size w w22) := HB; clear hst_; go_at_call 11; refine (laws_toIntS.calls k2 _ _ l1 l1 _ ?side1 ?side2 H2.out).mono ?_; (case side1 => exact zC (Kd.C_below HR1.out HB.out)); (case side2 => exact HC1.out); rintro e w23 ⟨v9_0, rfl, ho0, hb⟩; replace HO2_0 := uRb HO2_0 hb; replace HO5_0 := uRb HO5_0 hb; replace HO8_0 := uRb HO8_0 hb; have HS23 := zM hb.size; have HO9_0 := uR HB.out (by first | exact ho0 | exact Kd.R_mono ho0 (fun _ _ => trivial) | exact Kd.R_mono ho0 (fun _ hk_ => hk_.1)); clear ho0; obtain ⟨Ao9_0, co9_0, eo9_0⟩ := Kd.R_slice HO9_0.out; subst eo9_0; replace HB := zM (below_step HB.out hb); clear hb)
  | (have hst_ : Aside0 (Below w.heap.size w w23) := HB; clear hst_; go_at_call 25; refine (impl_LockedTokens.calls k4 a0_0 _ _ l0_1 _ _ l1 q0 q1 _ ?side1 ?side2 ?side3 ?side4 H4.out).mono ?_; (case side1 => exact zC (Kd.R_reads' HO8_0.out).2.2); (case side2 => exact (Kd.R_reads' HO8_0.out).2.1); (case side3 => exact zC (Kd.R_reads' HO9_0.out).2.2); (case side4 => exact (Kd.R_reads' HO9_0.out).2.1); clear HO8_0; clear HO9_0; rintro e w24 ⟨v10_0, rfl, ho0, hb⟩; replace HO2_0 := uRb HO2_0 hb; replace HO5_0 := uRb HO5_0 hb; have HS24 := zM hb.size; have HO10_0 := uR HB.out (by first | exact ho0 | exact Kd.R_mono ho0 (fun _ _ => trivial) | exact Kd.R_mono ho0 (fun _ hk_ => hk_.1)); clear ho0; obtain ⟨Ao10_0, co10_0, eo10_0⟩ := Kd.R_slice HO10_0.out; subst eo10_0; replace HB := zM (below_step HB.out hb); clear hb)
  | (have hst_ : Aside0 (Below w.heap.size w w24) := HB; clear hst_; go_at_call 15; refine (laws_eqIntS.calls k5 _ _ q0 _ _ q0 true _ ?side1 ?side2 ?side3 ?side4 H5.out).mono ?_; (case side1 => exact zC (Kd.R_reads' HO10_0.out).2.2); (case side2 => exact (Kd.R_reads' HO10_0.out).2.1); (case side3 => exact zC (Kd.R_reads' HO2_0.out).2.2); (case side4 => exact (Kd.R_reads' HO2_0.out).2.1); clear HO2_0; clear HO10_0; rintro e w25 ⟨rfl, hb0⟩; have hb := hb0.below; clear hb0; replace HO5_0 := uRb HO5_0 hb; have HS25 := zM hb.size; replace HB := zM (below_step HB.out hb); clear hb)
  | (have hst_ : Aside0 (Below w.heap.size w w25) := HB; clear hst_; go_at_call 26; refine uArgs (args' := #[.slice Ao5_0 mk2_0.length co5_0, .int .i64 1]) (by rw [hl5_0.out]) ?_; refine (laws_heldIntS.calls k11 _ _ mk2_0 1 kk2 _ ?side1 ?side2 H11.out).mono ?_; (case side1 => exact zC (Kd.R_reads' HO5_0.out).2.2); (case side2 => exact (Kd.R_reads' HO5_0.out).2.1); clear HO5_0; rintro e w26 ⟨rfl, hb0⟩; have hb := hb0.below; clear hb0; have HS26 := zM hb.size; replace HB := zM (below_step HB.out hb); clear hb))
 go_ret
 exact ⟨rfl, HB.out⟩
abbrev PrT := S69
def rowsOf (n : Nat) (f : Int → List Int) : List (List Int) := (List.range n).map fun (i : Nat) => f i
theorem rowsOf_len (n : Nat) (f : Int → List Int) : (rowsOf n f).length = n := by simp [rowsOf]
theorem rowsOf_congr {n : Nat} {f g : Int → List Int} (h : ∀ i : Nat, i < n → f i = g i) : rowsOf n f = rowsOf n g := by
 unfold rowsOf
 exact List.map_congr_left fun i hi => h i (List.mem_range.1 hi)
theorem rowsOf_get {n : Nat} (f : Int → List Int) (i : Nat) (h : i < n) (h' : i < (rowsOf n f).length) : (rowsOf n f)[i] = f i := by simp [rowsOf]
theorem rowsOf_rd {n : Nat} (f : Int → List Int) {a : Int} (h0 : 0 ≤ a) (h1 : a < n) : rd_L2 (rowsOf n f) a = f a := by
 obtain ⟨i, rfl⟩ := Int.eq_ofNat_of_zero_le h0
 have hi : i < n := by omega
 unfold rd_L2
 rw [Int.toNat_natCast, List.getD_eq_getElem?_getD, List.getElem?_eq_getElem (by rw [rowsOf_len]; exact hi), Option.getD_some, rowsOf_get f i hi]
theorem rowsOf_set {n : Nat} (f : Int → List Int) {a : Int} (h0 : 0 ≤ a) (h1 : a < n) (x : List Int) : (rowsOf n f).set a.toNat x = rowsOf n (fun i => if i = a then x else f i) := by
 obtain ⟨i, rfl⟩ := Int.eq_ofNat_of_zero_le h0
 refine List.ext_getElem (by rw [List.length_set, rowsOf_len, rowsOf_len]) fun j hj hj' => ?_
 have hjn : j < n := by rw [rowsOf_len] at hj'; exact hj'
 rw [rowsOf_get _ j hjn]
 simp only [Int.toNat_natCast, List.getElem_set]
 by_cases h : i = j
 · subst h; rw [if_pos rfl, if_pos rfl]
 · rw [if_neg h, if_neg (by omega), rowsOf_get _ j hjn]
theorem rowsOf_nil (n : Nat) : List.replicate n ([] : List Int) = rowsOf n (fun _ => []) := by
 unfold rowsOf
 rw [List.map_const', List.length_range]
def pick0 (i : Int) (p : PrT) : Option Int := if p.f0 = i then some p.f1 else none
def pick1 (i : Int) (p : PrT) : Option Int := if p.f1 = i then some p.f0 else none
def pickL (i : Int) (p : PrT) : Option Int := if p.f0 = i then some p.f1 else if p.f1 = i then some p.f0 else none
def rowL (e : List PrT) (i : Int) : List Int := e.filterMap (pickL i)
theorem filterMap_take {α : Type} (f : PrT → Option α) (e : List PrT) (m : Nat) (hm : m < e.length) : (e.take (m + 1)).filterMap f = (e.take m).filterMap f ++ (f e[m]).toList := by
 rw [List.take_add_one, List.getElem?_eq_getElem hm, List.filterMap_append]
 cases h : f e[m] <;> simp [h]
theorem filterMap_le {α : Type} (f : PrT → Option α) (e : List PrT) (m : Nat) (he : e.length ≤ 1048576) : ((e.take m).filterMap f).length ≤ 1048576 := by
 have h1 := List.length_filterMap_le f (e.take m)
 have h2 := List.length_take_le m e
 have h3 : (e.take m).length ≤ e.length := by rw [List.length_take]; omega
 omega
theorem befP_transL {a b c : PrT} (h : befP a b = true) (k : befP b c = true) : befP a c = true := by
 unfold befP at *
 simp only [Bool.or_eq_true, Bool.and_eq_true, decide_eq_true_eq] at *
 omega
theorem goodP_pw (n : Int) (l : List PrT) : ∀ p, goodP n p l = true → l.Pairwise (fun a b => befP a b = true) ∧ (∀ q, p = some q → ∀ s ∈ l, befP q s = true) := by
 induction l with
 | nil => intro p h; exact ⟨.nil, fun q _ s hs => by cases hs⟩
 | cons x t ih =>
  intro p h
  simp only [goodP, Bool.and_eq_true, decide_eq_true_eq] at h
  obtain ⟨_, h4, h5⟩ := h
  obtain ⟨h1, h2⟩ := ih _ h5
  refine ⟨List.pairwise_cons.2 ⟨fun s hs => h2 x rfl s hs, h1⟩, fun q hq s hs => ?_⟩
  subst hq
  have hx : befP q x = true := h4
  rcases List.mem_cons.1 hs with rfl | hs
  · exact hx
  · exact befP_transL hx (h2 x rfl s hs)
theorem rowL_two (i : Int) (e : List PrT) : (∀ p ∈ e, p.f0 < p.f1) → e.Pairwise (fun a b => befP a b = true) → e.filterMap (pick1 i) ++ e.filterMap (pick0 i) = rowL e i := by
 induction e with
 | nil => intro _ _; rfl
 | cons p t ih =>
  intro hl hp
  obtain ⟨h1, h2⟩ := List.pairwise_cons.1 hp
  have ih' := ih (fun q hq => hl q (.tail _ hq)) h2
  have hpl := hl p (.head _)
  unfold rowL at ih' ⊢
  by_cases c0 : p.f0 = i
  · have e1 : pick1 i p = none := by unfold pick1; rw [if_neg (by omega)]
    have e0 : pick0 i p = some p.f1 := by unfold pick0; rw [if_pos c0]
    have eL : pickL i p = some p.f1 := by unfold pickL; rw [if_pos c0]
    have ht : t.filterMap (pick1 i) = [] := by
      rw [List.filterMap_eq_nil_iff]
      intro q hq
      have hb := h1 q hq
      have hq' := hl q (.tail _ hq)
      unfold befP at hb
      simp only [Bool.or_eq_true, Bool.and_eq_true, decide_eq_true_eq] at hb
      unfold pick1
      rw [if_neg (by omega)]
    rw [ht, List.nil_append] at ih'
    rw [List.filterMap_cons_none e1, List.filterMap_cons_some e0, List.filterMap_cons_some eL, ht, List.nil_append, ih']
  · have e0 : pick0 i p = none := by unfold pick0; rw [if_neg c0]
    by_cases c1 : p.f1 = i
    · have e1 : pick1 i p = some p.f0 := by unfold pick1; rw [if_pos c1]
      have eL : pickL i p = some p.f0 := by unfold pickL; rw [if_neg c0, if_pos c1]
      rw [List.filterMap_cons_some e1, List.filterMap_cons_none e0, List.filterMap_cons_some eL, List.cons_append, ih']
    · have e1 : pick1 i p = none := by unfold pick1; rw [if_neg c1]
      have eL : pickL i p = none := by unfold pickL; rw [if_neg c0, if_neg c1]
      rw [List.filterMap_cons_none e1, List.filterMap_cons_none e0, List.filterMap_cons_none eL, ih']
theorem rowL_rising (i : Int) (e : List PrT) (hl : ∀ p ∈ e, p.f0 < p.f1) (hp : e.Pairwise (fun a b => befP a b = true)) : (rowL e i).Pairwise (· < ·) := by
 have hp2 : e.Pairwise (fun a b => befP a b = true ∧ a.f0 < a.f1 ∧ b.f0 < b.f1) := by
   refine List.Pairwise.imp_of_mem (fun {a b} ha hb h => ⟨h, hl a ha, hl b hb⟩) hp
 refine List.Pairwise.filterMap _ (fun a b h x hx y hy => ?_) hp2
 obtain ⟨h, ha, hb⟩ := h
 unfold befP at h
 simp only [Bool.or_eq_true, Bool.and_eq_true, decide_eq_true_eq] at h
 unfold pickL at hx hy
 by_cases c0 : a.f0 = i
 · rw [if_pos c0] at hx
   by_cases d0 : b.f0 = i
   · rw [if_pos d0] at hy; simp at hx hy; omega
   · rw [if_neg d0] at hy
     by_cases d1 : b.f1 = i
     · rw [if_pos d1] at hy; simp at hx hy; omega
     · rw [if_neg d1] at hy; cases hy
 · rw [if_neg c0] at hx
   by_cases c1 : a.f1 = i
   · rw [if_pos c1] at hx
     by_cases d0 : b.f0 = i
     · rw [if_pos d0] at hy; simp at hx hy; omega
     · rw [if_neg d0] at hy
       by_cases d1 : b.f1 = i
       · rw [if_pos d1] at hy; simp at hx hy; omega
       · rw [if_neg d1] at hy; cases hy
   · rw [if_neg c1] at hx; cases hx
section
variable {l : List (List Int)} {e : List PrT} (he : e.length ≤ 1048576) (hg : ∀ p ∈ e, 0 ≤ p.f0 ∧ p.f0 < p.f1 ∧ p.f1 < (l.length : Int))
include he hg
theorem roads_loop (d : Nat) : ∀ (m : Nat), e.length - m = d → m ≤ e.length → Ev (fun k => impl_Space_roads.l0 k (rowsOf l.length (rowL (e.take m))) e (e.length : Int) (m : Int)) (rowsOf l.length (rowL e)) := by
 induction d with
 | zero =>
  intro m h0 h1
  refine Ev.step (fun k => by rw [impl_Space_roads.l0]) (Ev.neg (by omega) ?_)
  rw [List.take_of_length_le (by omega)]
  exact Ev.now _
 | succ d ih =>
  intro m h0 h1
  have hm : m < e.length := by omega
  have hp := hg e[m] (List.getElem_mem hm)
  have ihm := ih (m + 1) (by omega) (by omega)
  rw [← wrap_up hm (by omega)] at ihm
  refine Ev.step (fun k => by rw [impl_Space_roads.l0]) (Ev.pos (by omega) (Ev.pos (by omega) (Ev.pos (by omega) ?_)))
  rw [rdT_at e m hm, rowsOf_len, rowsOf_rd _ hp.1 (by omega), rowsOf_set _ hp.1 (by omega)]
  refine Ev.pos hp.1 (Ev.pos (by omega) (Ev.pos (by have := filterMap_le (pickL e[m].f0) e m he; unfold rowL; omega) (Ev.bindo rfl ?_)))
  rw [rowsOf_rd _ (by omega) hp.2.2, if_neg (by omega), rowsOf_set _ (by omega) hp.2.2]
  refine Ev.pos (by omega) (Ev.pos (by omega) (Ev.pos (by have := filterMap_le (pickL e[m].f1) e m he; unfold rowL; omega) ?_))
  rw [rowsOf_congr (g := rowL (e.take (m + 1))) (fun i hi => ?_)]
  · exact ihm
  · unfold rowL
    rw [filterMap_take (pickL i) e m hm]
    by_cases c1 : (i : Int) = e[m].f1
    · rw [if_pos c1, c1]
      unfold pickL
      rw [if_neg (by omega), if_pos rfl]
      rfl
    · rw [if_neg c1]
      by_cases c0 : (i : Int) = e[m].f0
      · rw [if_pos c0, c0]
        unfold pickL
        rw [if_pos rfl]
        rfl
      · rw [if_neg c0]
        have : pickL i e[m] = none := by unfold pickL; rw [if_neg (by omega), if_neg (by omega)]
        rw [this]
        simp
theorem lists_loop2 (d : Nat) : ∀ (m : Nat), e.length - m = d → m ≤ e.length → Ev (fun k => spec_l2Lists.l1 k (rowsOf l.length (fun i => e.filterMap (pick1 i) ++ (e.take m).filterMap (pick0 i))) (m : Int) l e) (rowsOf l.length (fun i => e.filterMap (pick1 i) ++ e.filterMap (pick0 i))) := by
 induction d with
 | zero =>
  intro m h0 h1
  refine Ev.step (fun k => by rw [spec_l2Lists.l1]) (Ev.neg (by omega) ?_)
  rw [List.take_of_length_le (by omega)]
  exact Ev.now _
 | succ d ih =>
  intro m h0 h1
  have hm : m < e.length := by omega
  have hp := hg e[m] (List.getElem_mem hm)
  have ihm := ih (m + 1) (by omega) (by omega)
  rw [← wrap_up hm (by omega)] at ihm
  refine Ev.step (fun k => by rw [spec_l2Lists.l1]) (Ev.pos (by omega) (Ev.pos (by omega) ?_))
  rw [rdT_at e m hm, rowsOf_len, rowsOf_rd _ hp.1 (by omega), rowsOf_set _ hp.1 (by omega)]
  refine Ev.pos hp.1 (Ev.pos (by omega) (Ev.pos ?_ ?_))
  · have h1 := filterMap_le (pick0 e[m].f0) e m he
    have h2 := filterMap_le (pick1 e[m].f0) e e.length he
    rw [List.take_length] at h2
    rw [List.length_append]
    omega
  rw [rowsOf_congr (g := fun i => e.filterMap (pick1 i) ++ (e.take (m + 1)).filterMap (pick0 i)) (fun i hi => ?_)]
  · exact ihm
  · rw [filterMap_take (pick0 i) e m hm]
    by_cases c0 : (i : Int) = e[m].f0
    · rw [if_pos c0, c0]
      unfold pick0
      rw [if_pos rfl, List.append_assoc]
      rfl
    · rw [if_neg c0]
      have : pick0 i e[m] = none := by unfold pick0; rw [if_neg (by omega)]
      rw [this]
      simp
theorem lists_loop1 {R : List (List Int)} (hR : Ev (fun k => spec_l2Lists.l1 k (rowsOf l.length (fun i => e.filterMap (pick1 i))) 0 l e) R) (d : Nat) : ∀ (m : Nat), e.length - m = d → m ≤ e.length → Ev (fun k => spec_l2Lists.l0 k (rowsOf l.length (fun i => (e.take m).filterMap (pick1 i))) (m : Int) l e) R := by
 induction d with
 | zero =>
  intro m h0 h1
  refine Ev.step (fun k => by rw [spec_l2Lists.l0]) (Ev.neg (by omega) ?_)
  rw [List.take_of_length_le (by omega)]
  exact hR
 | succ d ih =>
  intro m h0 h1
  have hm : m < e.length := by omega
  have hp := hg e[m] (List.getElem_mem hm)
  have ihm := ih (m + 1) (by omega) (by omega)
  rw [← wrap_up hm (by omega)] at ihm
  refine Ev.step (fun k => by rw [spec_l2Lists.l0]) (Ev.pos (by omega) (Ev.pos (by omega) ?_))
  rw [rdT_at e m hm, rowsOf_len, rowsOf_rd _ (by omega) hp.2.2, rowsOf_set _ (by omega) hp.2.2]
  refine Ev.pos (by omega) (Ev.pos (by omega) (Ev.pos (by have := filterMap_le (pick1 e[m].f1) e m he; omega) ?_))
  rw [rowsOf_congr (g := fun i => (e.take (m + 1)).filterMap (pick1 i)) (fun i hi => ?_)]
  · exact ihm
  · rw [filterMap_take (pick1 i) e m hm]
    by_cases c0 : (i : Int) = e[m].f1
    · rw [if_pos c0, c0]
      unfold pick1
      rw [if_pos rfl]
      rfl
    · rw [if_neg c0]
      have : pick1 i e[m] = none := by unfold pick1; rw [if_neg (by omega)]
      rw [this]
      simp
end
theorem sortL_self {l : List Int} (h : l.Pairwise (· < ·)) : sortL l = l := by
 unfold sortL
 exact List.mergeSort_of_pairwise (h.imp fun hab => by simp; omega)
theorem sortRows_self (z : List (List Int)) (h : ∀ s ∈ z, s.Pairwise (· < ·) ∧ s.length < 4611686018427387904) : sortRows z = some z := by
 induction z with
 | nil => rfl
 | cons s t ih =>
  have hs := h s (.head _)
  rw [sortRows, show slices_Sort_int_int.f s = some s from by unfold slices_Sort_int_int.f; rw [if_pos hs.2, sortL_self hs.1], Option.bind_some, ih (fun q hq => h q (.tail _ hq)), Option.bind_some]
section
variable (l : List (List Int)) (e : List PrT) (hm : modS l e) (hg : goodP (l.length : Int) none e = true)
include hm hg
def roadsL (l : List (List Int)) (e : List PrT) : List (List Int) := rowsOf l.length (rowL e)
theorem roads_ev : Ev (fun k => impl_Space_roads.f k l e) (roadsL l e) := by
 have ha := goodP_all (l.length : Int) e none hg
 have hp := (goodP_pw (l.length : Int) e none hg).1
 have hl := roads_loop (l := l) hm.2.2 ha (e.length - 0) 0 rfl (Nat.zero_le _)
 unfold impl_Space_roads.f impl_Space_roads.g
 rw [show (fun k => ((if 0 ≤ (l.length : Int) then (if ((l.length : Int) : Int).toNat ≤ 11728124029610 then (impl_Space_roads.l0 k (List.replicate ((l.length : Int) : Int).toNat []) e (e.length : Int) 0) else (none)) else (none)).bind sortRows)) = fun k => ((impl_Space_roads.l0 k (List.replicate ((l.length : Int) : Int).toNat []) e (e.length : Int) 0).bind sortRows) from funext fun k => by rw [if_pos (by omega), if_pos (by have := hm.1; omega)]]
 rw [Int.toNat_natCast, rowsOf_nil]
 have e0 : rowL (e.take 0) = fun _ => [] := funext fun i => by simp [rowL]
 rw [e0] at hl
 refine Ev.bind hl (Ev.some ?_)
 refine sortRows_self _ fun s hs => ?_
 unfold roadsL rowsOf at *
 obtain ⟨i, _, rfl⟩ := List.mem_map.1 hs
 refine ⟨rowL_rising _ e (fun p hp => (ha p hp).2.1) hp, ?_⟩
 have := filterMap_le (pickL i) e e.length hm.2.2
 rw [List.take_length] at this
 unfold rowL
 omega
theorem lists_ev : Ev (fun k => spec_l2Lists.f k l e) (roadsL l e) := by
 have ha := goodP_all (l.length : Int) e none hg
 have hp := (goodP_pw (l.length : Int) e none hg).1
 have h2 := lists_loop2 (l := l) hm.2.2 ha (e.length - 0) 0 rfl (Nat.zero_le _)
 have e0 : (fun i => e.filterMap (pick1 i) ++ (e.take 0).filterMap (pick0 i)) = fun i => e.filterMap (pick1 i) := funext fun i => by simp
 rw [e0] at h2
 have h1 := lists_loop1 (l := l) hm.2.2 ha h2 (e.length - 0) 0 rfl (Nat.zero_le _)
 have e1 : (fun i => (e.take 0).filterMap (pick1 i)) = fun _ => [] := funext fun i => by simp
 rw [e1] at h1
 unfold spec_l2Lists.f
 refine Ev.pos (by omega) (Ev.pos (by have := hm.1; omega) ?_)
 rw [Int.toNat_natCast, rowsOf_nil]
 rw [show roadsL l e = rowsOf l.length (fun i => e.filterMap (pick1 i) ++ e.filterMap (pick0 i)) from rowsOf_congr fun i _ => (rowL_two i e (fun p hp => (ha p hp).2.1) hp).symm]
 exact h1
end
theorem roadsL_len (l : List (List Int)) (e : List PrT) : (roadsL l e).length = l.length := rowsOf_len _ _
theorem rowL_le (e : List PrT) (i : Int) : (rowL e i).length ≤ e.length := List.length_filterMap_le _ _
theorem rd_set (l : List Int) (j k : Int) (v : Int) (h : j.toNat < l.length) : rd (l.set j.toNat v) k = if k.toNat = j.toNat then v else rd l k := by
 unfold rd
 rw [List.getD_eq_getElem?_getD, List.getD_eq_getElem?_getD, List.getElem?_set]
 by_cases c : j.toNat = k.toNat
 · rw [if_pos c, if_pos c.symm, if_pos h, Option.getD_some]
 · rw [if_neg c, if_neg (Ne.symm c)]
def negs (l : List Int) : Nat := l.countP fun x => decide (x < 0)
theorem negs_set (l : List Int) (j : Int) (v : Int) (h : j.toNat < l.length) (hj : rd l j < 0) (hv : 0 ≤ v) : negs (l.set j.toNat v) + 1 = negs l := by
 have e1 : rd l j = l[j.toNat] := by unfold rd; rw [List.getD_eq_getElem?_getD, List.getElem?_eq_getElem h, Option.getD_some]
 rw [e1] at hj
 unfold negs
 rw [List.countP_set h]
 have hp : 0 < l.countP (fun x => decide (x < 0)) := List.countP_pos_iff.2 ⟨_, List.getElem_mem h, decide_eq_true hj⟩
 rw [if_pos (decide_eq_true hj), if_neg (by simp; omega)]
 omega
def closedZ (z : List (List Int)) (P : Int → Prop) : Prop := ∀ i, 0 ≤ i → i < (z.length : Int) → P i → ∀ j ∈ rd_L2 z i, P j
def okZ (z : List (List Int)) : Prop := ∀ i, 0 ≤ i → i < (z.length : Int) → ∀ j ∈ rd_L2 z i, 0 ≤ j ∧ j < (z.length : Int)
section
variable {z : List (List Int)} (hz : okZ z) (hn : z.length ≤ 1048576) (hr : ∀ i, (rd_L2 z i).length ≤ 1048576)
include hn
theorem spread_inner {row : List Int} (hrow : ∀ j ∈ row, 0 ≤ j ∧ j < (z.length : Int)) (hrl : row.length ≤ 1048576) (i : Int) (hi : 0 ≤ i ∧ i < (z.length : Int)) (h : Nat) (d : Nat) :
  ∀ (m : Nat) (out Q : List Int), row.length - m = d → m ≤ row.length → out.length = z.length → h < Q.length → rd Q (h : Int) = i → 0 ≤ rd out i → (∀ k, rd out k < (Q.length : Int)) → negs out + Q.length ≤ 1048576 →
  ∃ (out' new : List Int), out'.length = z.length ∧ (∀ k, rd out' k < ((Q ++ new).length : Int)) ∧ negs out' + (Q ++ new).length = negs out + Q.length ∧ (∀ k, 0 ≤ rd out k → rd out' k = rd out k) ∧
    (∀ j ∈ row.drop m, 0 ≤ rd out' j) ∧ (∀ j ∈ new, j ∈ row ∧ rd out' j = rd out i + 1) ∧ (∀ k, 0 ≤ k → k < (z.length : Int) → 0 ≤ rd out' k → 0 ≤ rd out k ∨ k ∈ new) ∧
    (∀ R, Ev (fun k => impl_spread.l0 k z out' ((Q ++ new).drop (h + 1))) R → Ev (fun k => impl_spread.l1 k z out (Q.drop (h + 1)) i row (row.length : Int) (m : Int)) R) ∧
    (∀ R, Ev (fun k => spec_l2Spread.l1 k z out' (Q ++ new) (wrap64 ((h : Int) + 1))) R → Ev (fun k => spec_l2Spread.l2 k z out Q (h : Int) row (m : Int)) R) := by
 induction d with
 | zero =>
  intro m out Q h0 h1 h2 h3 h4 h5 h6 h7
  refine ⟨out, [], h2, by simpa using h6, by simp, fun _ _ => rfl, fun j hj => ?_, (fun j hj => by cases hj), fun k _ _ hk => .inl hk, fun R hR => ?_, fun R hR => ?_⟩
  · rw [List.drop_eq_nil_of_le (by omega)] at hj; cases hj
  · rw [List.append_nil] at hR
    refine Ev.step (fun k => by rw [impl_spread.l1]) ?_
    refine Ev.neg (by omega) ?_
    exact hR
  · rw [List.append_nil] at hR
    refine Ev.step (fun k => by rw [spec_l2Spread.l2]) ?_
    refine Ev.neg (by omega) ?_
    exact hR
 | succ d ih =>
  intro m out Q h0 h1 h2 h3 h4 h5 h6 h7
  have hm : m < row.length := by omega
  have hj := hrow row[m] (List.getElem_mem hm)
  have hjl : row[m].toNat < out.length := by omega
  by_cases c : rd out row[m] < 0
  · have hv6 := h6 i
    have hw : wrap64 (rd out i + 1) = rd out i + 1 := wrap_nat (by omega) (by omega)
    have hne : row[m].toNat ≠ i.toNat := fun e => by
      have : rd out row[m] = rd out i := by unfold rd; rw [e]
      omega
    have hrs : ∀ k, rd (out.set row[m].toNat (rd out i + 1)) k = if k.toNat = row[m].toNat then rd out i + 1 else rd out k := fun k => rd_set out row[m] k _ hjl
    have hng := negs_set out row[m] (rd out i + 1) hjl c (by omega)
    have hQ4 : rd (Q ++ [row[m]]) (h : Int) = i := by
      rw [← h4, rd_at _ h (by simp; omega), rd_at Q h h3, List.getElem_append_left h3]
    obtain ⟨out', new, a1, a2, a3, a4, a5, a6, a7, a8, a9⟩ := ih (m + 1) (out.set row[m].toNat (rd out i + 1)) (Q ++ [row[m]]) (by omega) (by omega) (by rw [List.length_set, h2]) (by simp; omega) hQ4
      (by rw [hrs, if_neg (Ne.symm hne)]; exact h5)
      (fun k => by rw [hrs, List.length_append, List.length_singleton]; have := h6 k; split <;> omega)
      (by rw [List.length_append, List.length_singleton]; omega)
    have hmono : ∀ k, 0 ≤ rd out k → rd (out.set row[m].toNat (rd out i + 1)) k = rd out k := fun k hk => by
      rw [hrs]
      by_cases ck : k.toNat = row[m].toNat
      · have : rd out k = rd out row[m] := by unfold rd; rw [ck]
        omega
      · rw [if_neg ck]
    have hself : rd out' row[m] = rd out i + 1 := by
      have e0 : rd (out.set row[m].toNat (rd out i + 1)) row[m] = rd out i + 1 := by rw [hrs, if_pos rfl]
      rw [a4 _ (by rw [e0]; omega), e0]
    have hap : Q ++ row[m] :: new = (Q ++ [row[m]]) ++ new := by simp
    refine ⟨out', row[m] :: new, a1, ?_, ?_, fun k hk => (a4 k (by rw [hmono k hk]; exact hk)).trans (hmono k hk), fun j hj' => ?_, fun j hj' => ?_, fun k hk0 hk1 hk => ?_, fun R hR => ?_, fun R hR => ?_⟩
    · rw [hap]; exact a2
    · rw [hap, a3, List.length_append, List.length_singleton]; omega
    · rw [List.drop_eq_getElem_cons hm] at hj'
      rcases List.mem_cons.1 hj' with rfl | hj'
      · rw [hself]; omega
      · exact a5 j hj'
    · rcases List.mem_cons.1 hj' with rfl | hj'
      · exact ⟨List.getElem_mem hm, hself⟩
      · exact ⟨(a6 j hj').1, by rw [(a6 j hj').2, hmono i h5]⟩
    · rcases a7 k hk0 hk1 hk with h' | h'
      · rw [hrs] at h'
        by_cases ck : k.toNat = row[m].toNat
        · right; rw [show k = row[m] by omega]; exact .head _
        · rw [if_neg ck] at h'; exact .inl h'
      · exact .inr (.tail _ h')
    · rw [hap] at hR
      have := a8 R hR
      rw [← wrap_up hm (by omega), List.drop_append_of_le_length (by omega)] at this
      refine Ev.step (fun k => by rw [impl_spread.l1]) ?_
      refine Ev.pos (by omega) ?_
      refine Ev.pos (by omega) ?_
      refine Ev.pos (by omega) ?_
      rw [rd_at row m hm]
      refine Ev.pos hj.1 ?_
      refine Ev.pos (by omega) ?_
      refine Ev.pos c ?_
      refine Ev.pos hi.1 ?_
      refine Ev.pos (by omega) ?_
      refine Ev.pos (by rw [List.length_drop]; omega) ?_
      rw [hw]
      exact this
    · rw [hap] at hR
      have := a9 R hR
      rw [← wrap_up hm (by omega)] at this
      refine Ev.step (fun k => by rw [spec_l2Spread.l2]) ?_
      refine Ev.pos (by omega) ?_
      refine Ev.pos (by omega) ?_
      rw [rd_at row m hm, h4]
      refine Ev.pos hj.1 ?_
      refine Ev.pos (by omega) ?_
      refine Ev.pos c ?_
      refine Ev.pos (by omega) ?_
      refine Ev.pos (by omega) ?_
      refine Ev.pos hi.1 ?_
      refine Ev.pos (by omega) ?_
      refine Ev.pos (by omega) ?_
      rw [hw]
      exact this
  · obtain ⟨out', new, a1, a2, a3, a4, a5, a6, a7, a8, a9⟩ := ih (m + 1) out Q (by omega) (by omega) h2 h3 h4 h5 h6 h7
    refine ⟨out', new, a1, a2, a3, a4, fun j hj' => ?_, a6, a7, fun R hR => ?_, fun R hR => ?_⟩
    · rw [List.drop_eq_getElem_cons hm] at hj'
      rcases List.mem_cons.1 hj' with rfl | hj'
      · rw [a4 _ (by omega)]; omega
      · exact a5 j hj'
    · have := a8 R hR
      rw [← wrap_up hm (by omega)] at this
      refine Ev.step (fun k => by rw [impl_spread.l1]) ?_
      refine Ev.pos (by omega) ?_
      refine Ev.pos (by omega) ?_
      refine Ev.pos (by omega) ?_
      rw [rd_at row m hm]
      refine Ev.pos hj.1 ?_
      refine Ev.pos (by omega) ?_
      refine Ev.neg c ?_
      exact this
    · have := a9 R hR
      rw [← wrap_up hm (by omega)] at this
      refine Ev.step (fun k => by rw [spec_l2Spread.l2]) ?_
      refine Ev.pos (by omega) ?_
      refine Ev.pos (by omega) ?_
      rw [rd_at row m hm]
      refine Ev.pos hj.1 ?_
      refine Ev.pos (by omega) ?_
      refine Ev.neg c ?_
      exact this
include hz hr
theorem spread_outer (s : Int) (u : Nat) : ∀ (out Q : List Int) (h : Nat), negs out + (Q.length - h) = u → h ≤ Q.length → out.length = z.length → (∀ k, rd out k < (Q.length : Int)) → negs out + Q.length ≤ 1048576 → 0 < Q.length →
  (∀ q ∈ Q, 0 ≤ q ∧ q < (z.length : Int) ∧ 0 ≤ rd out q) → (∀ k, 0 ≤ k → k < (z.length : Int) → 0 ≤ rd out k → k ∈ Q) → (∀ q ∈ Q.take h, ∀ j ∈ rd_L2 z q, 0 ≤ rd out j) → (∀ P, closedZ z P → P s → ∀ q ∈ Q, P q) → rd out s = 0 → (∀ k, 0 ≤ k → k < (z.length : Int) → 0 ≤ rd out k → k = s ∨ ∃ p, 0 ≤ p ∧ p < (z.length : Int) ∧ k ∈ rd_L2 z p ∧ 0 ≤ rd out p ∧ rd out k = rd out p + 1) →
  ∃ R, Ev (fun k => impl_spread.l0 k z out (Q.drop h)) R ∧ Ev (fun k => spec_l2Spread.l1 k z out Q (h : Int)) R ∧ R.length = z.length ∧ (∀ k, rd R k ≤ 1048575) ∧ (∀ k, 0 ≤ rd out k → 0 ≤ rd R k) ∧ closedZ z (fun k => 0 ≤ rd R k) ∧ (∀ P, closedZ z P → P s → ∀ k, 0 ≤ k → k < (z.length : Int) → 0 ≤ rd R k → P k) ∧ rd R s = 0 ∧ (∀ k, 0 ≤ k → k < (z.length : Int) → 0 ≤ rd R k → k = s ∨ ∃ p, 0 ≤ p ∧ p < (z.length : Int) ∧ k ∈ rd_L2 z p ∧ 0 ≤ rd R p ∧ rd R k = rd R p + 1) := by
 induction u with
 | zero =>
  intro out Q h h0 h1 h2 h3 h4 hQ0 h5 h6 h7 h8 hS hE
  have he : h = Q.length := by omega
  refine ⟨out, ?_, ?_, h2, fun k => by have := h3 k; omega, fun _ hk => hk, fun i hi0 hi1 hi j hj => ?_, fun P hP hs k hk0 hk1 hk => h8 P hP hs k (h6 k hk0 hk1 hk), hS, hE⟩
  · rw [List.drop_eq_nil_of_le (by omega)]
    refine Ev.step (fun k => by rw [impl_spread.l0]) ?_
    refine Ev.neg (by simp) ?_
    exact (Ev.now _)
  · refine Ev.step (fun k => by rw [spec_l2Spread.l1]) ?_
    refine Ev.neg (by omega) ?_
    exact (Ev.now _)
  · exact h7 i (by rw [List.take_of_length_le (by omega)]; exact h6 i hi0 hi1 hi) j hj
 | succ u ih =>
  intro out Q h h0 h1 h2 h3 h4 hQ0 h5 h6 h7 h8 hS hE
  by_cases ce : h = Q.length
  · refine ⟨out, ?_, ?_, h2, fun k => by have := h3 k; omega, fun _ hk => hk, fun i hi0 hi1 hi j hj => ?_, fun P hP hs k hk0 hk1 hk => h8 P hP hs k (h6 k hk0 hk1 hk), hS, hE⟩
    · rw [List.drop_eq_nil_of_le (by omega)]
      refine Ev.step (fun k => by rw [impl_spread.l0]) ?_
      refine Ev.neg (by simp) ?_
      exact (Ev.now _)
    · refine Ev.step (fun k => by rw [spec_l2Spread.l1]) ?_
      refine Ev.neg (by omega) ?_
      exact (Ev.now _)
    · exact h7 i (by rw [List.take_of_length_le (by omega)]; exact h6 i hi0 hi1 hi) j hj
  have hh : h < Q.length := by omega
  obtain ⟨q0, q1, q2⟩ := h5 Q[h] (List.getElem_mem hh)
  have hrow := hz Q[h] q0 q1
  obtain ⟨out', new, a1, a2, a3, a4, a5, a6, a7, a8, a9⟩ := spread_inner hn hrow (hr _) Q[h] ⟨q0, q1⟩ h ((rd_L2 z Q[h]).length - 0) 0 out Q rfl (Nat.zero_le _) h2 hh (rd_at Q h hh) q2 h3 h4
  rw [List.drop_zero] at a5
  simp only [Int.natCast_zero] at a8 a9
  obtain ⟨R, r1, r2, r3, r4, r5, r6, r7, r8, r9⟩ := ih out' (Q ++ new) (h + 1) (by rw [List.length_append] at a3 ⊢; omega) (by rw [List.length_append]; omega) a1 a2 (by omega) (by rw [List.length_append]; omega)
    (fun q hq => by
      rcases List.mem_append.1 hq with hq | hq
      · obtain ⟨b0, b1, b2⟩ := h5 q hq; exact ⟨b0, b1, by rw [a4 q b2]; exact b2⟩
      · obtain ⟨b0, b1⟩ := a6 q hq; exact ⟨(hrow q b0).1, (hrow q b0).2, by rw [b1]; omega⟩)
    (fun k hk0 hk1 hk => by
      rcases a7 k hk0 hk1 hk with h' | h'
      · exact List.mem_append_left _ (h6 k hk0 hk1 h')
      · exact List.mem_append_right _ h')
    (fun q hq j hj => by
      rw [List.take_append_of_le_length (by omega), List.take_add_one, List.getElem?_eq_getElem hh] at hq
      rcases List.mem_append.1 hq with hq | hq
      · rw [a4 j (h7 q hq j hj)]; exact h7 q hq j hj
      · rw [show q = Q[h] by simpa using hq] at hj; exact a5 j hj)
    (fun P hP hs q hq => by
      rcases List.mem_append.1 hq with hq | hq
      · exact h8 P hP hs q hq
      · exact hP Q[h] q0 q1 (h8 P hP hs _ (List.getElem_mem hh)) q (a6 q hq).1)
    (by rw [a4 s (by omega)]; exact hS)
    (fun k hk0 hk1 hk => by
      rcases a7 k hk0 hk1 hk with h' | h'
      · rcases hE k hk0 hk1 h' with e | ⟨p, p0, p1, p2, p3, p4⟩
        · exact .inl e
        · exact .inr ⟨p, p0, p1, p2, by rw [a4 p p3]; exact p3, by rw [a4 p p3, a4 k h']; exact p4⟩
      · obtain ⟨b0, b1⟩ := a6 k h'
        exact .inr ⟨Q[h], q0, q1, b0, by rw [a4 _ q2]; exact q2, by rw [a4 _ q2]; exact b1⟩)
  refine ⟨R, ?_, ?_, r3, r4, fun k hk => r5 k (by rw [a4 k hk]; exact hk), r6, r7, r8, r9⟩
  · have e8 := a8 R r1
    rw [List.drop_eq_getElem_cons hh]
    refine Ev.step (fun k => by rw [impl_spread.l0]) ?_
    refine Ev.pos (by rw [List.length_cons]; omega) ?_
    refine Ev.pos (by rw [List.length_cons]; omega) ?_
    refine Ev.pos (by rw [List.length_cons]; omega) ?_
    have e1 : rd (Q[h] :: Q.drop (h + 1)) 0 = Q[h] := rfl
    have e2 : (Q[h] :: Q.drop (h + 1)).drop (1 : Int).toNat = Q.drop (h + 1) := rfl
    rw [e1, e2]
    refine Ev.pos q0 ?_
    refine Ev.pos q1 ?_
    exact e8
  · have hwh : wrap64 ((h : Int) + 1) = ((h + 1 : Nat) : Int) := wrap_up hh (by omega)
    rw [hwh] at a9
    clear hwh
    have e9 := a9 R r2
    refine Ev.step (fun k => by rw [spec_l2Spread.l1]) ?_
    refine Ev.pos (by omega) ?_
    refine Ev.pos (by omega) ?_
    rw [rd_at Q h hh]
    refine Ev.pos q0 ?_
    refine Ev.pos q1 ?_
    exact e9
end
theorem fill_loop {z : List (List Int)} (i : Int) {R : List Int} (d : Nat) : ∀ (m : Nat) (out : List Int), out.length - m = d → m ≤ out.length → out.length ≤ 1048576 → out.take m = List.replicate m (-1) → Ev (fun k => spec_l2Spread.l0 k z i (List.replicate out.length (-1)) (out.length : Int)) R → Ev (fun k => spec_l2Spread.l0 k z i out (m : Int)) R := by
 induction d with
 | zero =>
  intro m out h0 h1 h2 h3 hR
  have he : m = out.length := by omega
  rw [he] at h3 ⊢
  rw [List.take_length] at h3
  rw [← h3] at hR
  exact hR
 | succ d ih =>
  intro m out h0 h1 h2 h3 hR
  have hm : m < out.length := by omega
  refine Ev.step (fun k => by rw [spec_l2Spread.l0]) ?_
  refine Ev.pos (by omega) ?_
  refine Ev.pos (by omega) ?_
  have := ih (m + 1) (out.set m (-1)) (by rw [List.length_set]; omega) (by rw [List.length_set]; omega) (by rw [List.length_set]; exact h2) (by
   rw [List.take_add_one, List.getElem?_set_self hm, List.take_set_of_le (Nat.le_refl _), h3, List.replicate_succ', Option.toList]) (by rw [List.length_set]; exact hR)
  rw [← wrap_up hm (by omega)] at this
  rw [Int.toNat_natCast]
  exact this
theorem spread_both {z : List (List Int)} (hz : okZ z) (hn : z.length ≤ 1048576) (hr : ∀ i, (rd_L2 z i).length ≤ 1048576) (s : Int) (hs0 : 0 ≤ s) (hs1 : s < (z.length : Int)) :
   ∃ R, Ev (fun k => impl_spread.f k z s) R ∧ Ev (fun k => spec_l2Spread.f k z s) R ∧ R.length = z.length ∧ (∀ k, rd R k ≤ 1048575) ∧ 0 ≤ rd R s ∧ closedZ z (fun k => 0 ≤ rd R k) ∧ (∀ P, closedZ z P → P s → ∀ k, 0 ≤ k → k < (z.length : Int) → 0 ≤ rd R k → P k) ∧ rd R s = 0 ∧ (∀ k, 0 ≤ k → k < (z.length : Int) → 0 ≤ rd R k → k = s ∨ ∃ p, 0 ≤ p ∧ p < (z.length : Int) ∧ k ∈ rd_L2 z p ∧ 0 ≤ rd R p ∧ rd R k = rd R p + 1) := by
 have hl : s.toNat < (List.replicate z.length (-1 : Int)).length := by rw [List.length_replicate]; omega
 have hrs : ∀ k, rd ((List.replicate z.length (-1 : Int)).set s.toNat 0) k = if k.toNat = s.toNat then 0 else rd (List.replicate z.length (-1)) k := fun k => rd_set _ s k 0 hl
 have hrep : ∀ k, rd (List.replicate z.length (-1 : Int)) k < 1 := fun k => by
   unfold rd; rw [List.getD_eq_getElem?_getD, List.getElem?_replicate]; split <;> simp
 have hrep2 : ∀ k : Int, 0 ≤ k → k < (z.length : Int) → rd (List.replicate z.length (-1 : Int)) k = -1 := fun k h0 h1 => by
   unfold rd; rw [List.getD_eq_getElem?_getD, List.getElem?_replicate, if_pos (by omega)]; rfl
 have hneg := negs_set (List.replicate z.length (-1 : Int)) s 0 hl (by rw [hrep2 s hs0 hs1]; decide) (Int.le_refl _)
 have hneg2 : negs (List.replicate z.length (-1 : Int)) ≤ z.length := by have := List.countP_le_length (p := fun x => decide (x < 0)) (l := List.replicate z.length (-1 : Int)); rw [List.length_replicate] at this; exact this
 obtain ⟨R, r1, r2, r3, r4, r5, r6, r7, r8, r9⟩ := spread_outer hz hn hr s _ ((List.replicate z.length (-1 : Int)).set s.toNat 0) [s] 0 rfl (Nat.zero_le _) (by rw [List.length_set, List.length_replicate])
   (fun k => by rw [hrs]; have := hrep k; simp only [List.length_singleton]; split <;> omega) (by rw [List.length_singleton]; omega) (by simp)
   (fun q hq => by rw [show q = s by simpa using hq]; exact ⟨hs0, hs1, by rw [hrs, if_pos rfl]; exact Int.le_refl _⟩)
   (fun k hk0 hk1 hk => by
     rw [hrs] at hk
     by_cases c : k.toNat = s.toNat
     · rw [show k = s by omega]; exact .head _
     · rw [if_neg c, hrep2 k hk0 hk1] at hk; omega)
   (fun q hq => by simp at hq) (fun P hP hs q hq => by rw [show q = s by simpa using hq]; exact hs) (by rw [hrs, if_pos rfl])
   (fun k hk0 hk1 hk => by
     rw [hrs] at hk
     by_cases c : k.toNat = s.toNat
     · exact .inl (by omega)
     · rw [if_neg c, hrep2 k hk0 hk1] at hk; omega)
 simp only [Int.natCast_zero, List.drop_zero] at r1 r2
 refine ⟨R, ?_, ?_, r3, r4, r5 s (by rw [hrs, if_pos rfl]; exact Int.le_refl _), r6, r7, r8, r9⟩
 · unfold impl_spread.f
   refine Ev.bindo (a := List.replicate z.length (-1)) ?_ ?_
   · unfold slices_Repeat_int_int.f
     rw [if_pos ⟨rfl, by omega, by omega⟩, Int.toNat_natCast]
     rfl
   · rw [List.length_replicate]
     refine Ev.pos hs0 ?_
     refine Ev.pos hs1 ?_
     exact r1
 · unfold spec_l2Spread.f
   refine Ev.pos (by omega) ?_
   refine Ev.pos (by omega) ?_
   rw [Int.toNat_natCast]
   have hfill := fill_loop (z := z) (R := R) s _ 0 (List.replicate z.length 0) rfl (Nat.zero_le _) (by rw [List.length_replicate]; exact hn) (by simp)
   simp only [Int.natCast_zero, List.length_replicate] at hfill
   refine hfill ?_
   refine Ev.step (fun k => by rw [spec_l2Spread.l0]) ?_
   refine Ev.neg (by rw [List.length_replicate]; omega) ?_
   rw [List.length_replicate]
   refine Ev.pos hs0 ?_
   refine Ev.pos hs1 ?_
   exact r2
def free (l : List Bool) : Nat := l.countP fun x => !x
def symZ (z : List (List Int)) : Prop := ∀ i j, 0 ≤ i → i < (z.length : Int) → 0 ≤ j → j < (z.length : Int) → j ∈ rd_L2 z i → i ∈ rd_L2 z j
section
variable {z : List (List Int)} (hn : z.length ≤ 1048576)
include hn
variable (hz : okZ z) (hr : ∀ i, (rd_L2 z i).length ≤ 1048576)
include hz hr
end
section
variable {z : List (List Int)} (hn : z.length ≤ 1048576) (hz : okZ z) (hr : ∀ i, (rd_L2 z i).length ≤ 1048576) (hs : symZ z)
include hn hz hr hs
end
theorem rowL_mem (e : List PrT) (i j : Int) : j ∈ rowL e i ↔ ∃ p ∈ e, (p.f0 = i ∧ p.f1 = j) ∨ (p.f0 ≠ i ∧ p.f1 = i ∧ p.f0 = j) := by
 unfold rowL
 rw [List.mem_filterMap]
 refine exists_congr fun p => and_congr_right fun _ => ?_
 unfold pickL
 by_cases c0 : p.f0 = i
 · rw [if_pos c0]; simp [c0]
 · rw [if_neg c0]
   by_cases c1 : p.f1 = i
   · rw [if_pos c1]; simp [c0, c1]
   · rw [if_neg c1]; simp [c0, c1]
section
variable (l : List (List Int)) (e : List PrT) (hm : modS l e) (hg : goodP (l.length : Int) none e = true)
include hm hg
theorem roadsL_ok : okZ (roadsL l e) := by
 have _hu := hm
 have ha := goodP_all (l.length : Int) e none hg
 intro i h0 h1 j hj
 rw [roadsL_len] at h1 ⊢
 unfold roadsL at hj
 rw [rowsOf_rd _ h0 h1, rowL_mem] at hj
 obtain ⟨p, hp, h⟩ := hj
 have := ha p hp
 omega
theorem roadsL_row (i : Int) : (rd_L2 (roadsL l e) i).length ≤ 1048576 := by
 have _hu := hg
 unfold rd_L2
 rw [List.getD_eq_getElem?_getD]
 cases h : (roadsL l e)[i.toNat]? with
 | none => exact Nat.zero_le _
 | some s =>
  have hs := List.mem_of_getElem? h
  unfold roadsL rowsOf at hs
  obtain ⟨q, _, rfl⟩ := List.mem_map.1 hs
  exact Nat.le_trans (rowL_le _ _) hm.2.2
end
end Go.Proofs.YtadjbmcfgjmhkaaGreat.P
