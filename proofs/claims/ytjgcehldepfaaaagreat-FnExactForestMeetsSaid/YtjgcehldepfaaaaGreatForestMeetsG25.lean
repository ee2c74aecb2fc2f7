/- The law FnExactForestMeets's own code is walked, each way out by itself, mw the contracts of what it calls. -/
import Derived.Test.YtjgcehldepfaaaaGreatForestMeetsG24
namespace Go.Proofs.YtjgcehldepfaaaaGreat.P
open Go.RowKit YtjgcehldepfaaaaGreatW.PrintWords Go.Proofs.YtjgcehldepfaaaaGreatW.PrintLast Go.Proofs.YtjgcehldepfaaaaGreatW.PrintMore
set_option maxRecDepth 100000
set_option maxHeartbeats 8000000
set_option linter.unusedVariables false
set_option linter.unusedSimpArgs false
set_option maxHeartbeats 4000000 in
theorem re (a0_0 : Int) (A0_1 : Option Addr) (ca0_1 : Nat) (l0_1 : List (S63)) (A1 : Option Addr) (ca1 : Nat) (l1 : List Int) (A2 : Option Addr) (ca2 : Nat) (l2 : List Int) (w : World) (hr0_1 : Kd.C k63 w A0_1 l0_1.length l0_1) (hc0_1 : l0_1.length ≤ ca0_1) (hr1 : Kd.C (Kd.int .i64) w A1 l1.length l1) (hc1 : l1.length ≤ ca1) (hr2 : Kd.C (Kd.int .i64) w A2 l2.length l2) (hc2 : l2.length ≤ ca2) (c0 : 1048576 < (l1.length : Int)) :
  Calls Tryz.prog 4 #[.agg #[.int .i64 a0_0, .slice A0_1 l0_1.length ca0_1], .slice A1 l1.length ca1, .slice A2 l2.length ca2] w fun e w' => e = .returned (.bool true) ∧ Below w.heap.size w w' := by
 have hu24 := Tryz.underlying24
 have hu29 := Tryz.underlying29
 have HR0_1 := zM hr0_1; clear hr0_1
 have HC0_1 := zM hc0_1; clear hc0_1
 have HR1 := zM hr1; clear hr1
 have HC1 := zM hc1; clear hc1
 have HR2 := zM hr2; clear hr2
 have HC2 := zM hc2; clear hc2
 have HB := zM (Below.refl w.heap.size w)
 have c0b : decide (1048576 < (l1.length : Int)) = true := af c0
 have c0c : decide (1048576 < l1.length) = true := af (by omega)
 clear c0
 go_enter Tryz.func4, Tryz.ntmps4
 go_wp2_with (first
  | ((with_reducible refine au (N := 3) rfl ?_); refine ze 3 #[.int .i64 a0_0, .slice A0_1 l0_1.length ca0_1] 24 ?_; intro gb3 hg w1 hbox hb; have HG3 := zM hg; have HW3 := zM (show w.heap.size ≤ gb3 by rw [hg]; exact am HB.out); have HL3 := zM (aH hbox); clear hg; have HS1 := zM hb.size; replace HB := zM (ag HB.out hb); have BK3 := zM hbox; clear hbox hb; have hc3_0 := zy BK3 0; have hf3_0 := ae BK3.out 0; have hc3_1 := zy BK3 1; have hf3_1 := ae BK3.out 1))
 go_ret
 exact ⟨rfl, HB.out⟩
set_option maxHeartbeats 4000000 in
theorem rc (a0_0 : Int) (A0_1 : Option Addr) (ca0_1 : Nat) (l0_1 : List (S63)) (A1 : Option Addr) (ca1 : Nat) (l1 : List Int) (A2 : Option Addr) (ca2 : Nat) (l2 : List Int) (w : World) (hr0_1 : Kd.C k63 w A0_1 l0_1.length l0_1) (hc0_1 : l0_1.length ≤ ca0_1) (hr1 : Kd.C (Kd.int .i64) w A1 l1.length l1) (hc1 : l1.length ≤ ca1) (hr2 : Kd.C (Kd.int .i64) w A2 l2.length l2) (hc2 : l2.length ≤ ca2) (c0 : ¬ (1048576 < (l1.length : Int))) (c1 : 1048576 < (l2.length : Int)) :
  Calls Tryz.prog 4 #[.agg #[.int .i64 a0_0, .slice A0_1 l0_1.length ca0_1], .slice A1 l1.length ca1, .slice A2 l2.length ca2] w fun e w' => e = .returned (.bool true) ∧ Below w.heap.size w w' := by
 have hu24 := Tryz.underlying24
 have hu29 := Tryz.underlying29
 have HR0_1 := zM hr0_1; clear hr0_1
 have HC0_1 := zM hc0_1; clear hc0_1
 have HR1 := zM hr1; clear hr1
 have HC1 := zM hc1; clear hc1
 have HR2 := zM hr2; clear hr2
 have HC2 := zM hc2; clear hc2
 have HB := zM (Below.refl w.heap.size w)
 have c0b : decide (1048576 < (l1.length : Int)) = false := ao c0
 have c0c : decide (1048576 < l1.length) = false := ao (by omega)
 clear c0
 have c1b : decide (1048576 < (l2.length : Int)) = true := af c1
 have c1c : decide (1048576 < l2.length) = true := af (by omega)
 clear c1
 go_enter Tryz.func4, Tryz.ntmps4
 go_wp2_with (first
  | ((with_reducible refine au (N := 3) rfl ?_); refine ze 3 #[.int .i64 a0_0, .slice A0_1 l0_1.length ca0_1] 24 ?_; intro gb3 hg w1 hbox hb; have HG3 := zM hg; have HW3 := zM (show w.heap.size ≤ gb3 by rw [hg]; exact am HB.out); have HL3 := zM (aH hbox); clear hg; have HS1 := zM hb.size; replace HB := zM (ag HB.out hb); have BK3 := zM hbox; clear hbox hb; have hc3_0 := zy BK3 0; have hf3_0 := ae BK3.out 0; have hc3_1 := zy BK3 1; have hf3_1 := ae BK3.out 1))
 go_ret
 exact ⟨rfl, HB.out⟩
set_option maxHeartbeats 4000000 in
theorem rb (a0_0 : Int) (A0_1 : Option Addr) (ca0_1 : Nat) (l0_1 : List (S63)) (A1 : Option Addr) (ca1 : Nat) (l1 : List Int) (A2 : Option Addr) (ca2 : Nat) (l2 : List Int) (t0 : Int) (w : World) (hr0_1 : Kd.C k63 w A0_1 l0_1.length l0_1) (hc0_1 : l0_1.length ≤ ca0_1) (hr1 : Kd.C (Kd.int .i64) w A1 l1.length l1) (hc1 : l1.length ≤ ca1) (hr2 : Kd.C (Kd.int .i64) w A2 l2.length l2) (hc2 : l2.length ≤ ca2) (c0 : ¬ (1048576 < (l1.length : Int))) (c1 : ¬ (1048576 < (l2.length : Int))) (c2 : t0 < 0) (h0 : gH a0_0 l0_1 1048576 = some t0) :
  Calls Tryz.prog 4 #[.agg #[.int .i64 a0_0, .slice A0_1 l0_1.length ca0_1], .slice A1 l1.length ca1, .slice A2 l2.length ca2] w fun e w' => e = .returned (.bool true) ∧ Below w.heap.size w w' := by
 have hu24 := Tryz.underlying24
 have hu29 := Tryz.underlying29
 have HR0_1 := zM hr0_1; clear hr0_1
 have HC0_1 := zM hc0_1; clear hc0_1
 have HR1 := zM hr1; clear hr1
 have HC1 := zM hc1; clear hc1
 have HR2 := zM hr2; clear hr2
 have HC2 := zM hc2; clear hc2
 have HB := zM (Below.refl w.heap.size w)
 have H0 := zM h0; clear h0
 have c0b : decide (1048576 < (l1.length : Int)) = false := ao c0
 have c0c : decide (1048576 < l1.length) = false := ao (by omega)
 clear c0
 have c1b : decide (1048576 < (l2.length : Int)) = false := ao c1
 have c1c : decide (1048576 < l2.length) = false := ao (by omega)
 clear c1
 have c2b : decide (t0 < 0) = true := af c2
 clear c2
 go_enter Tryz.func4, Tryz.ntmps4
 go_wp2_with (first
  | ((with_reducible refine au (N := 3) rfl ?_); refine ze 3 #[.int .i64 a0_0, .slice A0_1 l0_1.length ca0_1] 24 ?_; intro gb3 hg w1 hbox hb; have HG3 := zM hg; have HW3 := zM (show w.heap.size ≤ gb3 by rw [hg]; exact am HB.out); have HL3 := zM (aH hbox); clear hg; have HS1 := zM hb.size; replace HB := zM (ag HB.out hb); have BK3 := zM hbox; clear hbox hb; have hc3_0 := zy BK3 0; have hf3_0 := ae BK3.out 0; have hc3_1 := zy BK3 1; have hf3_1 := ae BK3.out 1)
  | (have hst_ : Aside0 (Below w.heap.size w w1) := HB; clear hst_; go_at_call 5; refine (mO a0_0 _ _ l0_1 1048576 t0 _ ?side1 ?side2 H0.out).mono ?_; (case side1 => exact zC (Kd.C_below HR0_1.out HB.out)); (case side2 => exact HC0_1.out); rintro e w2 ⟨rfl, hb⟩; replace BK3 := aG BK3 hb; have HS2 := zM hb.size; replace HB := zM (ag HB.out hb); clear hb; replace hc3_0 := zy BK3 0; replace hf3_0 := ae BK3.out 0; replace hc3_1 := zy BK3 1; replace hf3_1 := ae BK3.out 1))
 go_ret
 exact ⟨rfl, HB.out⟩
set_option maxHeartbeats 4000000 in
theorem ra (a0_0 : Int) (A0_1 : Option Addr) (ca0_1 : Nat) (l0_1 : List (S63)) (A1 : Option Addr) (ca1 : Nat) (l1 : List Int) (A2 : Option Addr) (ca2 : Nat) (l2 : List Int) (k1 k2 k3 k4 k5 k6 k7 k8 : Nat) (t0 : Int) (q0 : Bool) (q1 : Bool) (w : World) (hr0_1 : Kd.C k63 w A0_1 l0_1.length l0_1) (hc0_1 : l0_1.length ≤ ca0_1) (hr1 : Kd.C (Kd.int .i64) w A1 l1.length l1) (hc1 : l1.length ≤ ca1) (hr2 : Kd.C (Kd.int .i64) w A2 l2.length l2) (hc2 : l2.length ≤ ca2) (c0 : ¬ (1048576 < (l1.length : Int))) (c1 : ¬ (1048576 < (l2.length : Int))) (c2 : ¬ (t0 < 0)) (h0 : gH a0_0 l0_1 1048576 = some t0) (h1 : im k1 a0_0 l0_1 = some (a0_0, l0_1)) (h2 : gF k2 l1 = some l1) (h3 : gF k3 l2 = some l2) (h4 : ey k4 a0_0 l0_1 l1 l2 = some (q0, q1)) (h5 : eK k5 a0_0 l0_1 l1 l2 = some (q0, q1)) (h6 : iq k6 a0_0 l0_1 a0_0 l0_1 = some true) (h7 : gI k7 l1 l1 = some true) (h8 : gI k8 l2 l2 = some true) :
  Calls Tryz.prog 4 #[.agg #[.int .i64 a0_0, .slice A0_1 l0_1.length ca0_1], .slice A1 l1.length ca1, .slice A2 l2.length ca2] w fun e w' => e = .returned (.bool true) ∧ Below w.heap.size w w' := by
 have hu24 := Tryz.underlying24
 have hu29 := Tryz.underlying29
 have HR0_1 := zM hr0_1; clear hr0_1
 have HC0_1 := zM hc0_1; clear hc0_1
 have HR1 := zM hr1; clear hr1
 have HC1 := zM hc1; clear hc1
 have HR2 := zM hr2; clear hr2
 have HC2 := zM hc2; clear hc2
 have HB := zM (Below.refl w.heap.size w)
 have H0 := zM h0; clear h0
 have H1 := zM h1; clear h1
 have H2 := zM h2; clear h2
 have H3 := zM h3; clear h3
 have H4 := zM h4; clear h4
 have H5 := zM h5; clear h5
 have H6 := zM h6; clear h6
 have H7 := zM h7; clear h7
 have H8 := zM h8; clear h8
 have c0b : decide (1048576 < (l1.length : Int)) = false := ao c0
 have c0c : decide (1048576 < l1.length) = false := ao (by omega)
 clear c0
 have c1b : decide (1048576 < (l2.length : Int)) = false := ao c1
 have c1c : decide (1048576 < l2.length) = false := ao (by omega)
 clear c1
 have c2b : decide (t0 < 0) = false := ao c2
 clear c2
 go_enter Tryz.func4, Tryz.ntmps4
 go_upto_region 16 with (first
  | ((with_reducible refine au (N := 3) rfl ?_); refine ze 3 #[.int .i64 a0_0, .slice A0_1 l0_1.length ca0_1] 24 ?_; intro gb3 hg w1 hbox hb; have HG3 := zM hg; have HW3 := zM (show w.heap.size ≤ gb3 by rw [hg]; exact am HB.out); have HL3 := zM (aH hbox); clear hg; have HS1 := zM hb.size; replace HB := zM (ag HB.out hb); have BK3 := zM hbox; clear hbox hb; have hc3_0 := zy BK3 0; have hf3_0 := ae BK3.out 0; have hc3_1 := zy BK3 1; have hf3_1 := ae BK3.out 1)
  | (have hst_ : Aside0 (Below w.heap.size w w1) := HB; clear hst_; go_at_call 5; refine (mO a0_0 _ _ l0_1 1048576 t0 _ ?side1 ?side2 H0.out).mono ?_; (case side1 => exact zC (Kd.C_below HR0_1.out HB.out)); (case side2 => exact HC0_1.out); rintro e w2 ⟨rfl, hb⟩; replace BK3 := aG BK3 hb; have HS2 := zM hb.size; replace HB := zM (ag HB.out hb); clear hb; replace hc3_0 := zy BK3 0; replace hf3_0 := ae BK3.out 0; replace hc3_1 := zy BK3 1; replace hf3_1 := ae BK3.out 1)
  | (have hst_ : Aside0 (Below w.heap.size w w2) := HB; clear hst_; go_at_call 7; refine (kg k1 a0_0 _ _ l0_1 a0_0 l0_1 _ ?side1 ?side2 H1.out).mono ?_; (case side1 => exact zC (Kd.C_below HR0_1.out HB.out)); (case side2 => exact HC0_1.out); rintro e w3 ⟨v0_0, rfl, ho0, hb⟩; replace BK3 := aG BK3 hb; have HS3 := zM hb.size; have HO0_0 := uR HB.out (by first | exact ho0 | exact Kd.R_mono ho0 (fun _ _ => trivial) | exact Kd.R_mono ho0 (fun _ hk_ => hk_.1)); clear ho0; obtain ⟨Ao0_0, co0_0, eo0_0⟩ := Kd.R_slice HO0_0.out; subst eo0_0; replace HB := zM (ag HB.out hb); clear hb; replace hc3_0 := zy BK3 0; replace hf3_0 := ae BK3.out 0; replace hc3_1 := zy BK3 1; replace hf3_1 := ae BK3.out 1)
  | (have hst_ : Aside0 (Below w.heap.size w w3) := HB; clear hst_; go_at_call 8; refine (gG k2 _ _ l1 l1 _ ?side1 ?side2 H2.out).mono ?_; (case side1 => exact zC (Kd.C_below HR1.out HB.out)); (case side2 => exact HC1.out); rintro e w4 ⟨v1_0, rfl, ho0, hb⟩; replace HO0_0 := bL HO0_0 hb; replace BK3 := aG BK3 hb; have HS4 := zM hb.size; have HO1_0 := uR HB.out (by first | exact ho0 | exact Kd.R_mono ho0 (fun _ _ => trivial) | exact Kd.R_mono ho0 (fun _ hk_ => hk_.1)); clear ho0; obtain ⟨Ao1_0, co1_0, eo1_0⟩ := Kd.R_slice HO1_0.out; subst eo1_0; replace HB := zM (ag HB.out hb); clear hb; replace hc3_0 := zy BK3 0; replace hf3_0 := ae BK3.out 0; replace hc3_1 := zy BK3 1; replace hf3_1 := ae BK3.out 1)
  | (have hst_ : Aside0 (Below w.heap.size w w4) := HB; clear hst_; go_at_call 8; refine (gG k3 _ _ l2 l2 _ ?side1 ?side2 H3.out).mono ?_; (case side1 => exact zC (Kd.C_below HR2.out HB.out)); (case side2 => exact HC2.out); rintro e w5 ⟨v2_0, rfl, ho0, hb⟩; replace HO0_0 := bL HO0_0 hb; replace HO1_0 := bL HO1_0 hb; replace BK3 := aG BK3 hb; have HS5 := zM hb.size; have HO2_0 := uR HB.out (by first | exact ho0 | exact Kd.R_mono ho0 (fun _ _ => trivial) | exact Kd.R_mono ho0 (fun _ hk_ => hk_.1)); clear ho0; obtain ⟨Ao2_0, co2_0, eo2_0⟩ := Kd.R_slice HO2_0.out; subst eo2_0; replace HB := zM (ag HB.out hb); clear hb; replace hc3_0 := zy BK3 0; replace hf3_0 := ae BK3.out 0; replace hc3_1 := zy BK3 1; replace hf3_1 := ae BK3.out 1)
  | (have hst_ : Aside0 (Below w.heap.size w w5) := HB; clear hst_; go_at_call 15; refine (o6 k4 a0_0 _ _ l0_1 _ _ l1 _ _ l2 q0 q1 _ ?side1 ?side2 ?side3 ?side4 ?side5 ?side6 H4.out).mono ?_; (case side1 => exact zC (Kd.R_reads' HO0_0.out).2.2); (case side2 => exact (Kd.R_reads' HO0_0.out).2.1); (case side3 => exact zC (Kd.R_reads' HO1_0.out).2.2); (case side4 => exact (Kd.R_reads' HO1_0.out).2.1); (case side5 => exact zC (Kd.R_reads' HO2_0.out).2.2); (case side6 => exact (Kd.R_reads' HO2_0.out).2.1); clear HO0_0; clear HO1_0; clear HO2_0; rintro e w6 ⟨rfl, hb⟩; replace BK3 := aG BK3 hb; have HS6 := zM hb.size; replace HB := zM (ag HB.out hb); clear hb; replace hc3_0 := zy BK3 0; replace hf3_0 := ae BK3.out 0; replace hc3_1 := zy BK3 1; replace hf3_1 := ae BK3.out 1)
  | (have hst_ : Aside0 (Below w.heap.size w w6) := HB; clear hst_; go_at_call 7; refine (kg k1 a0_0 _ _ l0_1 a0_0 l0_1 _ ?side1 ?side2 H1.out).mono ?_; (case side1 => exact zC (Kd.C_below HR0_1.out HB.out)); (case side2 => exact HC0_1.out); rintro e w7 ⟨v3_0, rfl, ho0, hb⟩; replace BK3 := aG BK3 hb; have HS7 := zM hb.size; have HO3_0 := uR HB.out (by first | exact ho0 | exact Kd.R_mono ho0 (fun _ _ => trivial) | exact Kd.R_mono ho0 (fun _ hk_ => hk_.1)); clear ho0; obtain ⟨Ao3_0, co3_0, eo3_0⟩ := Kd.R_slice HO3_0.out; subst eo3_0; replace HB := zM (ag HB.out hb); clear hb; replace hc3_0 := zy BK3 0; replace hf3_0 := ae BK3.out 0; replace hc3_1 := zy BK3 1; replace hf3_1 := ae BK3.out 1)
  | ((with_reducible refine au (N := 10) rfl ?_); refine ze 10 #[.int .i64 0, .slice none 0 0] 29 ?_; intro gb10 hg w8 hbox hb; have HG10 := zM hg; have HW10 := zM (show w.heap.size ≤ gb10 by rw [hg]; exact am HB.out); have HL10 := zM (aH hbox); clear hg; replace HO3_0 := bL HO3_0 hb; replace BK3 := aG BK3 hb; have HS8 := zM hb.size; replace HB := zM (ag HB.out hb); have hn3_10 : gb3 ≠ gb10 := (by have := HG10.out; have := HL3.out; have := HS2.out; have := HS3.out; have := HS4.out; have := HS5.out; have := HS6.out; have := HS7.out; omega); have hn10_3 := hn3_10.symm; have BK10 := zM hbox; clear hbox hb; replace hc3_0 := zy BK3 0; replace hf3_0 := ae BK3.out 0; replace hc3_1 := zy BK3 1; replace hf3_1 := ae BK3.out 1; have hc10_0 := zy BK10 0; have hf10_0 := ae BK10.out 0; have hc10_1 := zy BK10 1; have hf10_1 := ae BK10.out 1)
  | (have hst_ : Aside0 (Below w.heap.size w w8) := HB; clear hst_; go_at_call 8; refine k9 BK10 HB HW10.out ?_; intro w9 BKn hk HBn; replace HO3_0 := oe HO3_0 hk (fun k_ hk_ e_ => by have e2 : k_ = gb10 := e_; have := HG10.out; have := HL10.out; have h2 : w6.heap.size ≤ k_ ∧ k_ < w7.heap.size := hk_; omega); replace BK3 := g6 BK3 hk (fun e_ => by have e2 : gb3 = gb10 := e_; have := HG10.out; have := HL10.out; have := HG3.out; have := HL3.out; have := HS2.out; have := HS3.out; have := HS4.out; have := HS5.out; have := HS6.out; have := HS7.out; omega); replace BK10 := BKn; replace HB := HBn; clear BKn HBn; have HS9 := zM hk.1; clear hk; refine (gG k2 _ _ l1 l1 _ ?side1 ?side2 H2.out).mono ?_; (case side1 => exact zC (Kd.C_below HR1.out HB.out)); (case side2 => exact HC1.out); rintro e w10 ⟨v4_0, rfl, ho0, hb⟩; replace HO3_0 := bL HO3_0 hb; replace BK3 := aG BK3 hb; replace BK10 := aG BK10 hb; have HS10 := zM hb.size; have HO4_0 := uR HB.out (by first | exact ho0 | exact Kd.R_mono ho0 (fun _ _ => trivial) | exact Kd.R_mono ho0 (fun _ hk_ => hk_.1)); clear ho0; obtain ⟨Ao4_0, co4_0, eo4_0⟩ := Kd.R_slice HO4_0.out; subst eo4_0; replace HB := zM (ag HB.out hb); clear hb; replace hc3_0 := zy BK3 0; replace hf3_0 := ae BK3.out 0; replace hc3_1 := zy BK3 1; replace hf3_1 := ae BK3.out 1; replace hc10_0 := zy BK10 0; replace hf10_0 := ae BK10.out 0; replace hc10_1 := zy BK10 1; replace hf10_1 := ae BK10.out 1)
  | (have hst_ : Aside0 (Below w.heap.size w w10) := HB; clear hst_; go_at_call 8; refine (gG k3 _ _ l2 l2 _ ?side1 ?side2 H3.out).mono ?_; (case side1 => exact zC (Kd.C_below HR2.out HB.out)); (case side2 => exact HC2.out); rintro e w11 ⟨v5_0, rfl, ho0, hb⟩; replace HO3_0 := bL HO3_0 hb; replace HO4_0 := bL HO4_0 hb; replace BK3 := aG BK3 hb; replace BK10 := aG BK10 hb; have HS11 := zM hb.size; have HO5_0 := uR HB.out (by first | exact ho0 | exact Kd.R_mono ho0 (fun _ _ => trivial) | exact Kd.R_mono ho0 (fun _ hk_ => hk_.1)); clear ho0; obtain ⟨Ao5_0, co5_0, eo5_0⟩ := Kd.R_slice HO5_0.out; subst eo5_0; replace HB := zM (ag HB.out hb); clear hb; replace hc3_0 := zy BK3 0; replace hf3_0 := ae BK3.out 0; replace hc3_1 := zy BK3 1; replace hf3_1 := ae BK3.out 1; replace hc10_0 := zy BK10 0; replace hf10_0 := ae BK10.out 0; replace hc10_1 := zy BK10 1; replace hf10_1 := ae BK10.out 1)
  | (have hst_ : Aside0 (Below w.heap.size w w11) := HB; clear hst_; go_at_call 16; refine (sf k5 a0_0 _ _ l0_1 _ _ l1 _ _ l2 q0 q1 _ ?side1 ?side2 ?side3 ?side4 ?side5 ?side6 H5.out).mono ?_; (case side1 => exact zC (Kd.R_reads' HO3_0.out).2.2); (case side2 => exact (Kd.R_reads' HO3_0.out).2.1); (case side3 => exact zC (Kd.R_reads' HO4_0.out).2.2); (case side4 => exact (Kd.R_reads' HO4_0.out).2.1); (case side5 => exact zC (Kd.R_reads' HO5_0.out).2.2); (case side6 => exact (Kd.R_reads' HO5_0.out).2.1); rintro e w12 ⟨rfl, hb⟩; replace HO3_0 := bL HO3_0 hb; replace HO4_0 := bL HO4_0 hb; replace HO5_0 := bL HO5_0 hb; replace BK3 := aG BK3 hb; replace BK10 := aG BK10 hb; have HS12 := zM hb.size; replace HB := zM (ag HB.out hb); clear hb; replace hc3_0 := zy BK3 0; replace hf3_0 := ae BK3.out 0; replace hc3_1 := zy BK3 1; replace hf3_1 := ae BK3.out 1; replace hc10_0 := zy BK10 0; replace hf10_0 := ae BK10.out 0; replace hc10_1 := zy BK10 1; replace hf10_1 := ae BK10.out 1))
 (try simp only [Act.put, List.setIfInBounds_toArray, List.set_cons_zero, List.set_cons_succ])
 replace HO3_0 := zM (Kd.R_drew HO3_0.out)
 replace HO4_0 := zM (Kd.R_drew HO4_0.out)
 replace HO5_0 := zM (Kd.R_drew HO5_0.out)
 replace BK3 := zM (aq BK3.out)
 replace BK10 := zM (aq BK10.out)
 replace HB := zM (aD HB.out)
 refine zs (n := 5) (fun w' => w'.cell? ⟨gb10, 0, none⟩ = some (.int .i64 a0_0) ∧ w'.cell? ⟨gb10, 1, none⟩ = some (.slice Ao3_0 l0_1.length co3_0) ∧ w'.cell? ⟨gb3, 0, none⟩ = some (.int .i64 a0_0) ∧ w'.cell? ⟨gb3, 1, none⟩ = some (.slice A0_1 l0_1.length ca0_1)) ⟨(ah BK10.out 0).trans rfl, (ah BK10.out 1).trans rfl, (ah BK3.out 0).trans rfl, (ah BK3.out 1).trans rfl⟩ (fun hHeld => ?_)
 have HS13 := zM (show w12.heap.size ≤ w12.drew.heap.size from ar _)
 generalize w12.drew = w13 at HO3_0 HO4_0 HO5_0 BK3 BK10 HB HS13 hHeld ⊢
 refine zl 0 57 hHeld ?_ (hy := by rintro w' ⟨s0, s1, s2, s3⟩; go_simp; with_reducible rfl)
 refine zl 1 58 hHeld ?_ (hy := by rintro w' ⟨s0, s1, s2, s3⟩; go_simp; with_reducible rfl)
 refine zh 2 59 Tryz.func7 #[.agg #[.int .i64 a0_0, .slice A0_1 l0_1.length ca0_1]] (fun K hK => ?_)
 (refine (kg k1 a0_0 _ _ l0_1 a0_0 l0_1 _ ?side1 ?side2 H1.out).mono ?_; (case side1 => exact zC (Kd.C_below HR0_1.out HB.out)); (case side2 => exact HC0_1.out); rintro e w14 ⟨v6_0, rfl, ho0, hb⟩; replace HO3_0 := bL HO3_0 hb; replace HO4_0 := bL HO4_0 hb; replace HO5_0 := bL HO5_0 hb; replace BK3 := aG BK3 hb; replace BK10 := aG BK10 hb; have HS14 := zM hb.size; have HO6_0 := uR HB.out (by first | exact ho0 | exact Kd.R_mono ho0 (fun _ _ => trivial) | exact Kd.R_mono ho0 (fun _ hk_ => hk_.1)); clear ho0; obtain ⟨Ao6_0, co6_0, eo6_0⟩ := Kd.R_slice HO6_0.out; subst eo6_0; replace HB := zM (ag HB.out hb); clear hb)
 refine ⟨_, rfl, ?_⟩
 refine hK.out _ _ ⟨(ah BK10.out 0).trans rfl, (ah BK10.out 1).trans rfl, (ah BK3.out 0).trans rfl, (ah BK3.out 1).trans rfl⟩ (fun hHeld => ?_)
 clear hK K
 refine zn 59 ?_
 refine zh 3 60 Tryz.func11 #[.agg #[.int .i64 a0_0, .slice Ao3_0 l0_1.length co3_0], .agg #[.int .i64 a0_0, .slice Ao6_0 l0_1.length co6_0]] (fun K hK => ?_)
 (refine (q8 k6 a0_0 _ _ l0_1 a0_0 _ _ l0_1 true _ ?side1 ?side2 ?side3 ?side4 H6.out).mono ?_; (case side1 => exact zC (Kd.R_reads' HO3_0.out).2.2); (case side2 => exact (Kd.R_reads' HO3_0.out).2.1); (case side3 => exact zC (Kd.R_reads' HO6_0.out).2.2); (case side4 => exact (Kd.R_reads' HO6_0.out).2.1); clear HO3_0; clear HO6_0; rintro e w15 ⟨rfl, hb⟩; replace HO4_0 := bL HO4_0 hb; replace HO5_0 := bL HO5_0 hb; replace BK3 := aG BK3 hb; replace BK10 := aG BK10 hb; have HS15 := zM hb.size; replace HB := zM (ag HB.out hb); clear hb)
 refine ⟨_, rfl, ?_⟩
 refine hK.out _ _ ⟨(ah BK10.out 0).trans rfl, (ah BK10.out 1).trans rfl, (ah BK3.out 0).trans rfl, (ah BK3.out 1).trans rfl⟩ (fun hHeld => ?_)
 clear hK K
 refine zn 60 ?_
 refine zq 4 61 ?_
 refine zx ?_
 replace hc3_0 := zy BK3 0
 replace hf3_0 := ae BK3.out 0
 replace hc3_1 := zy BK3 1
 replace hf3_1 := ae BK3.out 1
 replace hc10_0 := zy BK10 0
 replace hf10_0 := ae BK10.out 0
 replace hc10_1 := zy BK10 1
 replace hf10_1 := ae BK10.out 1
 go_wp2_with (first
  | (have hst_ : Aside0 (Below w.heap.size w w15) := HB; clear hst_; go_at_call 8; refine (gG k2 _ _ l1 l1 _ ?side1 ?side2 H2.out).mono ?_; (case side1 => exact zC (Kd.C_below HR1.out HB.out)); (case side2 => exact HC1.out); clear BK3 hc3_0 hf3_0 hc3_1 hf3_1; clear BK10 hc10_0 hf10_0 hc10_1 hf10_1; rintro e w16 ⟨v7_0, rfl, ho0, hb⟩; replace HO4_0 := bL HO4_0 hb; replace HO5_0 := bL HO5_0 hb; have HS16 := zM hb.size; have HO7_0 := uR HB.out (by first | exact ho0 | exact Kd.R_mono ho0 (fun _ _ => trivial) | exact Kd.R_mono ho0 (fun _ hk_ => hk_.1)); clear ho0; obtain ⟨Ao7_0, co7_0, eo7_0⟩ := Kd.R_slice HO7_0.out; subst eo7_0; replace HB := zM (ag HB.out hb); clear hb)
  | (have hst_ : Aside0 (Below w.heap.size w w16) := HB; clear hst_; go_at_call 10; refine (mP k7 _ _ l1 _ _ l1 true _ ?side1 ?side2 ?side3 ?side4 H7.out).mono ?_; (case side1 => exact zC (Kd.R_reads' HO4_0.out).2.2); (case side2 => exact (Kd.R_reads' HO4_0.out).2.1); (case side3 => exact zC (Kd.R_reads' HO7_0.out).2.2); (case side4 => exact (Kd.R_reads' HO7_0.out).2.1); clear HO4_0; clear HO7_0; rintro e w17 ⟨rfl, hb0⟩; have hb := hb0.below; clear hb0; replace HO5_0 := bL HO5_0 hb; have HS17 := zM hb.size; replace HB := zM (ag HB.out hb); clear hb)
  | (have hst_ : Aside0 (Below w.heap.size w w17) := HB; clear hst_; go_at_call 8; refine (gG k3 _ _ l2 l2 _ ?side1 ?side2 H3.out).mono ?_; (case side1 => exact zC (Kd.C_below HR2.out HB.out)); (case side2 => exact HC2.out); rintro e w18 ⟨v8_0, rfl, ho0, hb⟩; replace HO5_0 := bL HO5_0 hb; have HS18 := zM hb.size; have HO8_0 := uR HB.out (by first | exact ho0 | exact Kd.R_mono ho0 (fun _ _ => trivial) | exact Kd.R_mono ho0 (fun _ hk_ => hk_.1)); clear ho0; obtain ⟨Ao8_0, co8_0, eo8_0⟩ := Kd.R_slice HO8_0.out; subst eo8_0; replace HB := zM (ag HB.out hb); clear hb)
  | (have hst_ : Aside0 (Below w.heap.size w w18) := HB; clear hst_; go_at_call 10; refine (mP k8 _ _ l2 _ _ l2 true _ ?side1 ?side2 ?side3 ?side4 H8.out).mono ?_; (case side1 => exact zC (Kd.R_reads' HO5_0.out).2.2); (case side2 => exact (Kd.R_reads' HO5_0.out).2.1); (case side3 => exact zC (Kd.R_reads' HO8_0.out).2.2); (case side4 => exact (Kd.R_reads' HO8_0.out).2.1); clear HO5_0; clear HO8_0; rintro e w19 ⟨rfl, hb0⟩; have hb := hb0.below; clear hb0; have HS19 := zM hb.size; replace HB := zM (ag HB.out hb); clear hb))
 go_ret
 exact ⟨rfl, HB.out⟩
abbrev cB := S63
def bT (n : Nat) (f : Int → List Int) : List (List Int) := (List.range n).map fun (i : Nat) => f i
theorem gv (n : Nat) (f : Int → List Int) : (bT n f).length = n := by simp [bT]
theorem pD {n : Nat} {f g : Int → List Int} (h : ∀ i : Nat, i < n → f i = g i) : bT n f = bT n g := by
 unfold bT
 exact List.map_congr_left fun i hi => h i (List.mem_range.1 hi)
theorem jZ {n : Nat} (f : Int → List Int) (i : Nat) (h : i < n) (h' : i < (bT n f).length) : (bT n f)[i] = f i := by simp [bT]
theorem ig {n : Nat} (f : Int → List Int) {a : Int} (h0 : 0 ≤ a) (h1 : a < n) : ai (bT n f) a = f a := by
 obtain ⟨i, rfl⟩ := Int.eq_ofNat_of_zero_le h0
 have hi : i < n := by omega
 unfold ai
 rw [Int.toNat_natCast, List.getD_eq_getElem?_getD, List.getElem?_eq_getElem (by rw [gv]; exact hi), Option.getD_some, jZ f i hi]
theorem lP {n : Nat} (f : Int → List Int) {a : Int} (h0 : 0 ≤ a) (h1 : a < n) (x : List Int) : (bT n f).set a.toNat x = bT n (fun i => if i = a then x else f i) := by
 obtain ⟨i, rfl⟩ := Int.eq_ofNat_of_zero_le h0
 refine List.ext_getElem (by rw [List.length_set, gv, gv]) fun j hj hj' => ?_
 have hjn : j < n := by rw [gv] at hj'; exact hj'
 rw [jZ _ j hjn]
 simp only [Int.toNat_natCast, List.getElem_set]
 by_cases h : i = j
 · subst h; rw [if_pos rfl, if_pos rfl]
 · rw [if_neg h, if_neg (by omega), jZ _ j hjn]
theorem pC (n : Nat) : List.replicate n ([] : List Int) = bT n (fun _ => []) := by
 unfold bT
 rw [List.map_const', List.length_range]
def dE (i : Int) (p : cB) : Option Int := if p.f0 = i then some p.f1 else if p.f1 = i then some p.f0 else none
def cq (e : List cB) (i : Int) : List Int := e.filterMap (dE i)
theorem tl {α : Type} (f : cB → Option α) (e : List cB) (m : Nat) (hm : m < e.length) : (e.take (m + 1)).filterMap f = (e.take m).filterMap f ++ (f e[m]).toList := by
 rw [List.take_add_one, List.getElem?_eq_getElem hm, List.filterMap_append]
 cases h : f e[m] <;> simp [h]
theorem kB {α : Type} (f : cB → Option α) (e : List cB) (m : Nat) (he : e.length ≤ 1048576) : ((e.take m).filterMap f).length ≤ 1048576 := by
 have h1 := List.length_filterMap_le f (e.take m)
 have h2 := List.length_take_le m e
 have h3 : (e.take m).length ≤ e.length := by rw [List.length_take]; omega
 omega
theorem ug {a b c : cB} (h : bN a b = true) (k : bN b c = true) : bN a c = true := by
 unfold bN at *
 simp only [Bool.or_eq_true, Bool.and_eq_true, decide_eq_true_eq] at *
 omega
theorem ss (n : Int) (l : List cB) : ∀ p, bR n p l = true → l.Pairwise (fun a b => bN a b = true) ∧ (∀ q, p = some q → ∀ s ∈ l, bN q s = true) := by
 induction l with
 | nil => intro p h; exact ⟨.nil, fun q _ s hs => by cases hs⟩
 | cons x t ih =>
  intro p h
  simp only [bR, Bool.and_eq_true, decide_eq_true_eq] at h
  obtain ⟨_, h4, h5⟩ := h
  obtain ⟨h1, h2⟩ := ih _ h5
  refine ⟨List.pairwise_cons.2 ⟨fun s hs => h2 x rfl s hs, h1⟩, fun q hq s hs => ?_⟩
  subst hq
  have hx : bN q x = true := h4
  rcases List.mem_cons.1 hs with rfl | hs
  · exact hx
  · exact ug hx (h2 x rfl s hs)
theorem pH (i : Int) (e : List cB) (hl : ∀ p ∈ e, p.f0 < p.f1) (hp : e.Pairwise (fun a b => bN a b = true)) : (cq e i).Pairwise (· < ·) := by
 have hp2 : e.Pairwise (fun a b => bN a b = true ∧ a.f0 < a.f1 ∧ b.f0 < b.f1) := by
   refine List.Pairwise.imp_of_mem (fun {a b} ha hb h => ⟨h, hl a ha, hl b hb⟩) hp
 refine List.Pairwise.filterMap _ (fun a b h x hx y hy => ?_) hp2
 obtain ⟨h, ha, hb⟩ := h
 unfold bN at h
 simp only [Bool.or_eq_true, Bool.and_eq_true, decide_eq_true_eq] at h
 unfold dE at hx hy
 by_cases c0 : a.f0 = i
 · rw [if_pos c0] at hx
   by_cases d0 : b.f0 = i
   · rw [if_pos d0] at hy; simp at hx hy; omega
   · rw [if_neg d0] at hy
     by_cases d1 : b.f1 = i
     · rw [if_pos d1] at hy; simp at hx hy; omega
     · rw [if_neg d1] at hy; cases hy
 · rw [if_neg c0] at hx
   by_cases c1 : a.f1 = i
   · rw [if_pos c1] at hx
     by_cases d0 : b.f0 = i
     · rw [if_pos d0] at hy; simp at hx hy; omega
     · rw [if_neg d0] at hy
       by_cases d1 : b.f1 = i
       · rw [if_pos d1] at hy; simp at hx hy; omega
       · rw [if_neg d1] at hy; cases hy
   · rw [if_neg c1] at hx; cases hx
section
variable {l : List (List Int)} {e : List cB} (he : e.length ≤ 1048576) (hg : ∀ p ∈ e, 0 ≤ p.f0 ∧ p.f0 < p.f1 ∧ p.f1 < (l.length : Int))
include he hg
theorem pJ (d : Nat) : ∀ (m : Nat), e.length - m = d → m ≤ e.length → Ev (fun k => cy k (bT l.length (cq (e.take m))) e (e.length : Int) (m : Int)) (bT l.length (cq e)) := by
 induction d with
 | zero =>
  intro m h0 h1
  refine Ev.step (fun k => by rw [cy]) (Ev.neg (by omega) ?_)
  rw [List.take_of_length_le (by omega)]
  exact Ev.now _
 | succ d ih =>
  intro m h0 h1
  have hm : m < e.length := by omega
  have hp := hg e[m] (List.getElem_mem hm)
  have ihm := ih (m + 1) (by omega) (by omega)
  rw [← aJ hm (by omega)] at ihm
  refine Ev.step (fun k => by rw [cy]) (Ev.pos (by omega) (Ev.pos (by omega) (Ev.pos (by omega) ?_)))
  rw [eE e m hm, gv, ig _ hp.1 (by omega), lP _ hp.1 (by omega)]
  refine Ev.pos hp.1 (Ev.pos (by omega) (Ev.pos (by have := kB (dE e[m].f0) e m he; unfold cq; omega) (Ev.bindo rfl ?_)))
  rw [ig _ (by omega) hp.2.2, if_neg (by omega), lP _ (by omega) hp.2.2]
  refine Ev.pos (by omega) (Ev.pos (by omega) (Ev.pos (by have := kB (dE e[m].f1) e m he; unfold cq; omega) ?_))
  rw [pD (g := cq (e.take (m + 1))) (fun i hi => ?_)]
  · exact ihm
  · unfold cq
    rw [tl (dE i) e m hm]
    by_cases c1 : (i : Int) = e[m].f1
    · rw [if_pos c1, c1]
      unfold dE
      rw [if_neg (by omega), if_pos rfl]
      rfl
    · rw [if_neg c1]
      by_cases c0 : (i : Int) = e[m].f0
      · rw [if_pos c0, c0]
        unfold dE
        rw [if_pos rfl]
        rfl
      · rw [if_neg c0]
        have : dE i e[m] = none := by unfold dE; rw [if_neg (by omega), if_neg (by omega)]
        rw [this]
        simp
end
theorem pe {l : List Int} (h : l.Pairwise (· < ·)) : cN l = l := by
 unfold cN
 exact List.mergeSort_of_pairwise (h.imp fun hab => by simp; omega)
theorem pa (z : List (List Int)) (h : ∀ s ∈ z, s.Pairwise (· < ·) ∧ s.length < 4611686018427387904) : dl z = some z := by
 induction z with
 | nil => rfl
 | cons s t ih =>
  have hs := h s (.head _)
  rw [dl, show eB s = some s from by unfold eB; rw [if_pos hs.2, pe hs.1], Option.bind_some, ih (fun q hq => h q (.tail _ hq)), Option.bind_some]
section
variable (l : List (List Int)) (e : List cB) (hm : ik l e) (hg : bR (l.length : Int) none e = true)
include hm hg
def cO (l : List (List Int)) (e : List cB) : List (List Int) := bT l.length (cq e)
theorem pK : Ev (fun k => js k l e) (cO l e) := by
 have ha := kz (l.length : Int) e none hg
 have hp := (ss (l.length : Int) e none hg).1
 have hl := pJ (l := l) hm.2.2 ha (e.length - 0) 0 rfl (Nat.zero_le _)
 unfold js kr
 rw [show (fun k => ((if 0 ≤ (l.length : Int) then (if ((l.length : Int) : Int).toNat ≤ 11728124029610 then (cy k (List.replicate ((l.length : Int) : Int).toNat []) e (e.length : Int) 0) else (none)) else (none)).bind dl)) = fun k => ((cy k (List.replicate ((l.length : Int) : Int).toNat []) e (e.length : Int) 0).bind dl) from funext fun k => by rw [if_pos (by omega), if_pos (by have := hm.1; omega)]]
 rw [Int.toNat_natCast, pC]
 have e0 : cq (e.take 0) = fun _ => [] := funext fun i => by simp [cq]
 rw [e0] at hl
 refine Ev.bind hl (Ev.some ?_)
 refine pa _ fun s hs => ?_
 unfold cO bT at *
 obtain ⟨i, _, rfl⟩ := List.mem_map.1 hs
 refine ⟨pH _ e (fun p hp => (ha p hp).2.1) hp, ?_⟩
 have := kB (dE i) e e.length hm.2.2
 rw [List.take_length] at this
 unfold cq
 omega
end
theorem j7 (l : List (List Int)) (e : List cB) : (cO l e).length = l.length := gv _ _
theorem pI (e : List cB) (i : Int) : (cq e i).length ≤ e.length := List.length_filterMap_le _ _
mutual
def ga : Nat → List (List Int) → Int → List Int → Int → Option (List Int)
 | 0, _, _, _, _ => none
 | k + 1, x0, x1, x5, x6 => if x6 < (x5.length : Int) then (if 0 ≤ x6 then (ga k x0 x1 (x5.set (x6 : Int).toNat (-1)) (wrap64 (x6 + 1))) else (none)) else (if 0 ≤ x1 then (if x1 < (x5.length : Int) then (fC k x0 (x5.set (x1 : Int).toNat 0) (([x1] : List Int)) 0) else (none)) else (none))
def fC : Nat → List (List Int) → List Int → List Int → Int → Option (List Int)
 | 0, _, _, _, _ => none
 | k + 1, x0, x5, x7, x8 => if x8 < (x7.length : Int) then (if 0 ≤ x8 then (if 0 ≤ (rd x7 x8) then (if (rd x7 x8) < (x0.length : Int) then (fB k x0 x5 x7 x8 (ai x0 (rd x7 x8)) 0) else (none)) else (none)) else (none)) else (some x5)
def fB : Nat → List (List Int) → List Int → List Int → Int → List Int → Int → Option (List Int)
 | 0, _, _, _, _, _, _ => none
 | k + 1, x0, x5, x7, x8, x9, x10 => if x10 < (x9.length : Int) then (if 0 ≤ x10 then (if 0 ≤ (rd x9 x10) then (if (rd x9 x10) < (x5.length : Int) then (if (rd x5 (rd x9 x10)) < 0 then (if 0 ≤ x8 then (if x8 < (x7.length : Int) then (if 0 ≤ (rd x7 x8) then (if (rd x7 x8) < (x5.length : Int) then (if x7.length < 17592186044416 then (fB k x0 (x5.set ((rd x9 x10) : Int).toNat (wrap64 ((rd x5 (rd x7 x8)) + 1))) (x7 ++ [rd x9 x10]) x8 x9 (wrap64 (x10 + 1))) else (none)) else (none)) else (none)) else (none)) else (none)) else (fB k x0 x5 x7 x8 x9 (wrap64 (x10 + 1)))) else (none)) else (none)) else (none)) else (fC k x0 x5 x7 (wrap64 (x8 + 1)))
end
def lq (k : Nat) (l0 : List (List Int)) (a1 : Int) : Option (List Int) := if 0 ≤ (l0.length : Int) then (if ((l0.length : Int) : Int).toNat ≤ 35184372088832 then (ga k l0 a1 (List.replicate ((l0.length : Int) : Int).toNat 0) 0) else (none)) else (none)
theorem mb (l : List Int) (j k : Int) (v : Int) (h : j.toNat < l.length) : rd (l.set j.toNat v) k = if k.toNat = j.toNat then v else rd l k := by
 unfold rd
 rw [List.getD_eq_getElem?_getD, List.getD_eq_getElem?_getD, List.getElem?_set]
 by_cases c : j.toNat = k.toNat
 · rw [if_pos c, if_pos c.symm, if_pos h, Option.getD_some]
 · rw [if_neg c, if_neg (Ne.symm c)]
def eF (l : List Int) : Nat := l.countP fun x => decide (x < 0)
theorem mB (l : List Int) (j : Int) (v : Int) (h : j.toNat < l.length) (hj : rd l j < 0) (hv : 0 ≤ v) : eF (l.set j.toNat v) + 1 = eF l := by
 have e1 : rd l j = l[j.toNat] := by unfold rd; rw [List.getD_eq_getElem?_getD, List.getElem?_eq_getElem h, Option.getD_some]
 rw [e1] at hj
 unfold eF
 rw [List.countP_set h]
 have hp : 0 < l.countP (fun x => decide (x < 0)) := List.countP_pos_iff.2 ⟨_, List.getElem_mem h, af hj⟩
 rw [if_pos (af hj), if_neg (by simp; omega)]
 omega
def fV (z : List (List Int)) (P : Int → Prop) : Prop := ∀ i, 0 ≤ i → i < (z.length : Int) → P i → ∀ j ∈ ai z i, P j
def cH (z : List (List Int)) : Prop := ∀ i, 0 ≤ i → i < (z.length : Int) → ∀ j ∈ ai z i, 0 ≤ j ∧ j < (z.length : Int)
section
variable {z : List (List Int)} (hz : cH z) (hn : z.length ≤ 1048576) (hr : ∀ i, (ai z i).length ≤ 1048576)
include hn
theorem oJ {row : List Int} (hrow : ∀ j ∈ row, 0 ≤ j ∧ j < (z.length : Int)) (hrl : row.length ≤ 1048576) (i : Int) (hi : 0 ≤ i ∧ i < (z.length : Int)) (h : Nat) (d : Nat) :
  ∀ (m : Nat) (out Q : List Int), row.length - m = d → m ≤ row.length → out.length = z.length → h < Q.length → rd Q (h : Int) = i → 0 ≤ rd out i → (∀ k, rd out k < (Q.length : Int)) → eF out + Q.length ≤ 1048576 →
  ∃ (out' new : List Int), out'.length = z.length ∧ (∀ k, rd out' k < ((Q ++ new).length : Int)) ∧ eF out' + (Q ++ new).length = eF out + Q.length ∧ (∀ k, 0 ≤ rd out k → rd out' k = rd out k) ∧
    (∀ j ∈ row.drop m, 0 ≤ rd out' j) ∧ (∀ j ∈ new, j ∈ row ∧ rd out' j = rd out i + 1) ∧ (∀ k, 0 ≤ k → k < (z.length : Int) → 0 ≤ rd out' k → 0 ≤ rd out k ∨ k ∈ new) ∧
    (∀ R, Ev (fun k => db k z out' ((Q ++ new).drop (h + 1))) R → Ev (fun k => da k z out (Q.drop (h + 1)) i row (row.length : Int) (m : Int)) R) ∧
    (∀ R, Ev (fun k => fC k z out' (Q ++ new) (wrap64 ((h : Int) + 1))) R → Ev (fun k => fB k z out Q (h : Int) row (m : Int)) R) := by
 induction d with
 | zero =>
  intro m out Q h0 h1 h2 h3 h4 h5 h6 h7
  refine ⟨out, [], h2, by simpa using h6, by simp, fun _ _ => rfl, fun j hj => ?_, (fun j hj => by cases hj), fun k _ _ hk => .inl hk, fun R hR => ?_, fun R hR => ?_⟩
  · rw [List.drop_eq_nil_of_le (by omega)] at hj; cases hj
  · rw [List.append_nil] at hR
    refine Ev.step (fun k => by rw [da]) ?_
    refine Ev.neg (by omega) ?_
    exact hR
  · rw [List.append_nil] at hR
    refine Ev.step (fun k => by rw [fB]) ?_
    refine Ev.neg (by omega) ?_
    exact hR
 | succ d ih =>
  intro m out Q h0 h1 h2 h3 h4 h5 h6 h7
  have hm : m < row.length := by omega
  have hj := hrow row[m] (List.getElem_mem hm)
  have hjl : row[m].toNat < out.length := by omega
  by_cases c : rd out row[m] < 0
  · have hv6 := h6 i
    have hw : wrap64 (rd out i + 1) = rd out i + 1 := cL (by omega) (by omega)
    have hne : row[m].toNat ≠ i.toNat := fun e => by
      have : rd out row[m] = rd out i := by unfold rd; rw [e]
      omega
    have hrs : ∀ k, rd (out.set row[m].toNat (rd out i + 1)) k = if k.toNat = row[m].toNat then rd out i + 1 else rd out k := fun k => mb out row[m] k _ hjl
    have hng := mB out row[m] (rd out i + 1) hjl c (by omega)
    have hQ4 : rd (Q ++ [row[m]]) (h : Int) = i := by
      rw [← h4, aM _ h (by simp; omega), aM Q h h3, List.getElem_append_left h3]
    obtain ⟨out', new, a1, a2, a3, a4, a5, a6, a7, a8, a9⟩ := ih (m + 1) (out.set row[m].toNat (rd out i + 1)) (Q ++ [row[m]]) (by omega) (by omega) (by rw [List.length_set, h2]) (by simp; omega) hQ4
      (by rw [hrs, if_neg (Ne.symm hne)]; exact h5)
      (fun k => by rw [hrs, List.length_append, List.length_singleton]; have := h6 k; split <;> omega)
      (by rw [List.length_append, List.length_singleton]; omega)
    have hmono : ∀ k, 0 ≤ rd out k → rd (out.set row[m].toNat (rd out i + 1)) k = rd out k := fun k hk => by
      rw [hrs]
      by_cases ck : k.toNat = row[m].toNat
      · have : rd out k = rd out row[m] := by unfold rd; rw [ck]
        omega
      · rw [if_neg ck]
    have hself : rd out' row[m] = rd out i + 1 := by
      have e0 : rd (out.set row[m].toNat (rd out i + 1)) row[m] = rd out i + 1 := by rw [hrs, if_pos rfl]
      rw [a4 _ (by rw [e0]; omega), e0]
    have hap : Q ++ row[m] :: new = (Q ++ [row[m]]) ++ new := by simp
    refine ⟨out', row[m] :: new, a1, ?_, ?_, fun k hk => (a4 k (by rw [hmono k hk]; exact hk)).trans (hmono k hk), fun j hj' => ?_, fun j hj' => ?_, fun k hk0 hk1 hk => ?_, fun R hR => ?_, fun R hR => ?_⟩
    · rw [hap]; exact a2
    · rw [hap, a3, List.length_append, List.length_singleton]; omega
    · rw [List.drop_eq_getElem_cons hm] at hj'
      rcases List.mem_cons.1 hj' with rfl | hj'
      · rw [hself]; omega
      · exact a5 j hj'
    · rcases List.mem_cons.1 hj' with rfl | hj'
      · exact ⟨List.getElem_mem hm, hself⟩
      · exact ⟨(a6 j hj').1, by rw [(a6 j hj').2, hmono i h5]⟩
    · rcases a7 k hk0 hk1 hk with h' | h'
      · rw [hrs] at h'
        by_cases ck : k.toNat = row[m].toNat
        · right; rw [show k = row[m] by omega]; exact .head _
        · rw [if_neg ck] at h'; exact .inl h'
      · exact .inr (.tail _ h')
    · rw [hap] at hR
      have := a8 R hR
      rw [← aJ hm (by omega), List.drop_append_of_le_length (by omega)] at this
      refine Ev.step (fun k => by rw [da]) ?_
      refine Ev.pos (by omega) ?_
      refine Ev.pos (by omega) ?_
      refine Ev.pos (by omega) ?_
      rw [aM row m hm]
      refine Ev.pos hj.1 ?_
      refine Ev.pos (by omega) ?_
      refine Ev.pos c ?_
      refine Ev.pos hi.1 ?_
      refine Ev.pos (by omega) ?_
      refine Ev.pos (by rw [List.length_drop]; omega) ?_
      rw [hw]
      exact this
    · rw [hap] at hR
      have := a9 R hR
      rw [← aJ hm (by omega)] at this
      refine Ev.step (fun k => by rw [fB]) ?_
      refine Ev.pos (by omega) ?_
      refine Ev.pos (by omega) ?_
      rw [aM row m hm, h4]
      refine Ev.pos hj.1 ?_
      refine Ev.pos (by omega) ?_
      refine Ev.pos c ?_
      refine Ev.pos (by omega) ?_
      refine Ev.pos (by omega) ?_
      refine Ev.pos hi.1 ?_
      refine Ev.pos (by omega) ?_
      refine Ev.pos (by omega) ?_
      rw [hw]
      exact this
  · obtain ⟨out', new, a1, a2, a3, a4, a5, a6, a7, a8, a9⟩ := ih (m + 1) out Q (by omega) (by omega) h2 h3 h4 h5 h6 h7
    refine ⟨out', new, a1, a2, a3, a4, fun j hj' => ?_, a6, a7, fun R hR => ?_, fun R hR => ?_⟩
    · rw [List.drop_eq_getElem_cons hm] at hj'
      rcases List.mem_cons.1 hj' with rfl | hj'
      · rw [a4 _ (by omega)]; omega
      · exact a5 j hj'
    · have := a8 R hR
      rw [← aJ hm (by omega)] at this
      refine Ev.step (fun k => by rw [da]) ?_
      refine Ev.pos (by omega) ?_
      refine Ev.pos (by omega) ?_
      refine Ev.pos (by omega) ?_
      rw [aM row m hm]
      refine Ev.pos hj.1 ?_
      refine Ev.pos (by omega) ?_
      refine Ev.neg c ?_
      exact this
    · have := a9 R hR
      rw [← aJ hm (by omega)] at this
      refine Ev.step (fun k => by rw [fB]) ?_
      refine Ev.pos (by omega) ?_
      refine Ev.pos (by omega) ?_
      rw [aM row m hm]
      refine Ev.pos hj.1 ?_
      refine Ev.pos (by omega) ?_
      refine Ev.neg c ?_
      exact this
include hz hr
theorem oI (s : Int) (u : Nat) : ∀ (out Q : List Int) (h : Nat), eF out + (Q.length - h) = u → h ≤ Q.length → out.length = z.length → (∀ k, rd out k < (Q.length : Int)) → eF out + Q.length ≤ 1048576 → 0 < Q.length →
  (∀ q ∈ Q, 0 ≤ q ∧ q < (z.length : Int) ∧ 0 ≤ rd out q) → (∀ k, 0 ≤ k → k < (z.length : Int) → 0 ≤ rd out k → k ∈ Q) → (∀ q ∈ Q.take h, ∀ j ∈ ai z q, 0 ≤ rd out j) → (∀ P, fV z P → P s → ∀ q ∈ Q, P q) → rd out s = 0 → (∀ k, 0 ≤ k → k < (z.length : Int) → 0 ≤ rd out k → k = s ∨ ∃ p, 0 ≤ p ∧ p < (z.length : Int) ∧ k ∈ ai z p ∧ 0 ≤ rd out p ∧ rd out k = rd out p + 1) →
  ∃ R, Ev (fun k => db k z out (Q.drop h)) R ∧ Ev (fun k => fC k z out Q (h : Int)) R ∧ R.length = z.length ∧ (∀ k, rd R k ≤ 1048575) ∧ (∀ k, 0 ≤ rd out k → 0 ≤ rd R k) ∧ fV z (fun k => 0 ≤ rd R k) ∧ (∀ P, fV z P → P s → ∀ k, 0 ≤ k → k < (z.length : Int) → 0 ≤ rd R k → P k) ∧ rd R s = 0 ∧ (∀ k, 0 ≤ k → k < (z.length : Int) → 0 ≤ rd R k → k = s ∨ ∃ p, 0 ≤ p ∧ p < (z.length : Int) ∧ k ∈ ai z p ∧ 0 ≤ rd R p ∧ rd R k = rd R p + 1) := by
 induction u with
 | zero =>
  intro out Q h h0 h1 h2 h3 h4 hQ0 h5 h6 h7 h8 hS hE
  have he : h = Q.length := by omega
  refine ⟨out, ?_, ?_, h2, fun k => by have := h3 k; omega, fun _ hk => hk, fun i hi0 hi1 hi j hj => ?_, fun P hP hs k hk0 hk1 hk => h8 P hP hs k (h6 k hk0 hk1 hk), hS, hE⟩
  · rw [List.drop_eq_nil_of_le (by omega)]
    refine Ev.step (fun k => by rw [db]) ?_
    refine Ev.neg (by simp) ?_
    exact (Ev.now _)
  · refine Ev.step (fun k => by rw [fC]) ?_
    refine Ev.neg (by omega) ?_
    exact (Ev.now _)
  · exact h7 i (by rw [List.take_of_length_le (by omega)]; exact h6 i hi0 hi1 hi) j hj
 | succ u ih =>
  intro out Q h h0 h1 h2 h3 h4 hQ0 h5 h6 h7 h8 hS hE
  by_cases ce : h = Q.length
  · refine ⟨out, ?_, ?_, h2, fun k => by have := h3 k; omega, fun _ hk => hk, fun i hi0 hi1 hi j hj => ?_, fun P hP hs k hk0 hk1 hk => h8 P hP hs k (h6 k hk0 hk1 hk), hS, hE⟩
    · rw [List.drop_eq_nil_of_le (by omega)]
      refine Ev.step (fun k => by rw [db]) ?_
      refine Ev.neg (by simp) ?_
      exact (Ev.now _)
    · refine Ev.step (fun k => by rw [fC]) ?_
      refine Ev.neg (by omega) ?_
      exact (Ev.now _)
    · exact h7 i (by rw [List.take_of_length_le (by omega)]; exact h6 i hi0 hi1 hi) j hj
  have hh : h < Q.length := by omega
  obtain ⟨q0, q1, q2⟩ := h5 Q[h] (List.getElem_mem hh)
  have hrow := hz Q[h] q0 q1
  obtain ⟨out', new, a1, a2, a3, a4, a5, a6, a7, a8, a9⟩ := oJ hn hrow (hr _) Q[h] ⟨q0, q1⟩ h ((ai z Q[h]).length - 0) 0 out Q rfl (Nat.zero_le _) h2 hh (aM Q h hh) q2 h3 h4
  rw [List.drop_zero] at a5
  simp only [Int.natCast_zero] at a8 a9
  obtain ⟨R, r1, r2, r3, r4, r5, r6, r7, r8, r9⟩ := ih out' (Q ++ new) (h + 1) (by rw [List.length_append] at a3 ⊢; omega) (by rw [List.length_append]; omega) a1 a2 (by omega) (by rw [List.length_append]; omega)
    (fun q hq => by
      rcases List.mem_append.1 hq with hq | hq
      · obtain ⟨b0, b1, b2⟩ := h5 q hq; exact ⟨b0, b1, by rw [a4 q b2]; exact b2⟩
      · obtain ⟨b0, b1⟩ := a6 q hq; exact ⟨(hrow q b0).1, (hrow q b0).2, by rw [b1]; omega⟩)
    (fun k hk0 hk1 hk => by
      rcases a7 k hk0 hk1 hk with h' | h'
      · exact List.mem_append_left _ (h6 k hk0 hk1 h')
      · exact List.mem_append_right _ h')
    (fun q hq j hj => by
      rw [List.take_append_of_le_length (by omega), List.take_add_one, List.getElem?_eq_getElem hh] at hq
      rcases List.mem_append.1 hq with hq | hq
      · rw [a4 j (h7 q hq j hj)]; exact h7 q hq j hj
      · rw [show q = Q[h] by simpa using hq] at hj; exact a5 j hj)
    (fun P hP hs q hq => by
      rcases List.mem_append.1 hq with hq | hq
      · exact h8 P hP hs q hq
      · exact hP Q[h] q0 q1 (h8 P hP hs _ (List.getElem_mem hh)) q (a6 q hq).1)
    (by rw [a4 s (by omega)]; exact hS)
    (fun k hk0 hk1 hk => by
      rcases a7 k hk0 hk1 hk with h' | h'
      · rcases hE k hk0 hk1 h' with e | ⟨p, p0, p1, p2, p3, p4⟩
        · exact .inl e
        · exact .inr ⟨p, p0, p1, p2, by rw [a4 p p3]; exact p3, by rw [a4 p p3, a4 k h']; exact p4⟩
      · obtain ⟨b0, b1⟩ := a6 k h'
        exact .inr ⟨Q[h], q0, q1, b0, by rw [a4 _ q2]; exact q2, by rw [a4 _ q2]; exact b1⟩)
  refine ⟨R, ?_, ?_, r3, r4, fun k hk => r5 k (by rw [a4 k hk]; exact hk), r6, r7, r8, r9⟩
  · have e8 := a8 R r1
    rw [List.drop_eq_getElem_cons hh]
    refine Ev.step (fun k => by rw [db]) ?_
    refine Ev.pos (by rw [List.length_cons]; omega) ?_
    refine Ev.pos (by rw [List.length_cons]; omega) ?_
    refine Ev.pos (by rw [List.length_cons]; omega) ?_
    have e1 : rd (Q[h] :: Q.drop (h + 1)) 0 = Q[h] := rfl
    have e2 : (Q[h] :: Q.drop (h + 1)).drop (1 : Int).toNat = Q.drop (h + 1) := rfl
    rw [e1, e2]
    refine Ev.pos q0 ?_
    refine Ev.pos q1 ?_
    exact e8
  · have hwh : wrap64 ((h : Int) + 1) = ((h + 1 : Nat) : Int) := aJ hh (by omega)
    rw [hwh] at a9
    clear hwh
    have e9 := a9 R r2
    refine Ev.step (fun k => by rw [fC]) ?_
    refine Ev.pos (by omega) ?_
    refine Ev.pos (by omega) ?_
    rw [aM Q h hh]
    refine Ev.pos q0 ?_
    refine Ev.pos q1 ?_
    exact e9
end
theorem tm {z : List (List Int)} (i : Int) {R : List Int} (d : Nat) : ∀ (m : Nat) (out : List Int), out.length - m = d → m ≤ out.length → out.length ≤ 1048576 → out.take m = List.replicate m (-1) → Ev (fun k => ga k z i (List.replicate out.length (-1)) (out.length : Int)) R → Ev (fun k => ga k z i out (m : Int)) R := by
 induction d with
 | zero =>
  intro m out h0 h1 h2 h3 hR
  have he : m = out.length := by omega
  rw [he] at h3 ⊢
  rw [List.take_length] at h3
  rw [← h3] at hR
  exact hR
 | succ d ih =>
  intro m out h0 h1 h2 h3 hR
  have hm : m < out.length := by omega
  refine Ev.step (fun k => by rw [ga]) ?_
  refine Ev.pos (by omega) ?_
  refine Ev.pos (by omega) ?_
  have := ih (m + 1) (out.set m (-1)) (by rw [List.length_set]; omega) (by rw [List.length_set]; omega) (by rw [List.length_set]; exact h2) (by
   rw [List.take_add_one, List.getElem?_set_self hm, List.take_set_of_le (ar _), h3, List.replicate_succ', Option.toList]) (by rw [List.length_set]; exact hR)
  rw [← aJ hm (by omega)] at this
  rw [Int.toNat_natCast]
  exact this
theorem oK {z : List (List Int)} (hz : cH z) (hn : z.length ≤ 1048576) (hr : ∀ i, (ai z i).length ≤ 1048576) (s : Int) (hs0 : 0 ≤ s) (hs1 : s < (z.length : Int)) :
   ∃ R, Ev (fun k => iw k z s) R ∧ Ev (fun k => lq k z s) R ∧ R.length = z.length ∧ (∀ k, rd R k ≤ 1048575) ∧ 0 ≤ rd R s ∧ fV z (fun k => 0 ≤ rd R k) ∧ (∀ P, fV z P → P s → ∀ k, 0 ≤ k → k < (z.length : Int) → 0 ≤ rd R k → P k) ∧ rd R s = 0 ∧ (∀ k, 0 ≤ k → k < (z.length : Int) → 0 ≤ rd R k → k = s ∨ ∃ p, 0 ≤ p ∧ p < (z.length : Int) ∧ k ∈ ai z p ∧ 0 ≤ rd R p ∧ rd R k = rd R p + 1) := by
 have hl : s.toNat < (List.replicate z.length (-1 : Int)).length := by rw [List.length_replicate]; omega
 have hrs : ∀ k, rd ((List.replicate z.length (-1 : Int)).set s.toNat 0) k = if k.toNat = s.toNat then 0 else rd (List.replicate z.length (-1)) k := fun k => mb _ s k 0 hl
 have hrep : ∀ k, rd (List.replicate z.length (-1 : Int)) k < 1 := fun k => by
   unfold rd; rw [List.getD_eq_getElem?_getD, List.getElem?_replicate]; split <;> simp
 have hrep2 : ∀ k : Int, 0 ≤ k → k < (z.length : Int) → rd (List.replicate z.length (-1 : Int)) k = -1 := fun k h0 h1 => by
   unfold rd; rw [List.getD_eq_getElem?_getD, List.getElem?_replicate, if_pos (by omega)]; rfl
 have hneg := mB (List.replicate z.length (-1 : Int)) s 0 hl (by rw [hrep2 s hs0 hs1]; decide) (Int.le_refl _)
 have hneg2 : eF (List.replicate z.length (-1 : Int)) ≤ z.length := by have := List.countP_le_length (p := fun x => decide (x < 0)) (l := List.replicate z.length (-1 : Int)); rw [List.length_replicate] at this; exact this
 obtain ⟨R, r1, r2, r3, r4, r5, r6, r7, r8, r9⟩ := oI hz hn hr s _ ((List.replicate z.length (-1 : Int)).set s.toNat 0) [s] 0 rfl (Nat.zero_le _) (by rw [List.length_set, List.length_replicate])
   (fun k => by rw [hrs]; have := hrep k; simp only [List.length_singleton]; split <;> omega) (by rw [List.length_singleton]; omega) (by simp)
   (fun q hq => by rw [show q = s by simpa using hq]; exact ⟨hs0, hs1, by rw [hrs, if_pos rfl]; exact Int.le_refl _⟩)
   (fun k hk0 hk1 hk => by
     rw [hrs] at hk
     by_cases c : k.toNat = s.toNat
     · rw [show k = s by omega]; exact .head _
     · rw [if_neg c, hrep2 k hk0 hk1] at hk; omega)
   (fun q hq => by simp at hq) (fun P hP hs q hq => by rw [show q = s by simpa using hq]; exact hs) (by rw [hrs, if_pos rfl])
   (fun k hk0 hk1 hk => by
     rw [hrs] at hk
     by_cases c : k.toNat = s.toNat
     · exact .inl (by omega)
     · rw [if_neg c, hrep2 k hk0 hk1] at hk; omega)
 simp only [Int.natCast_zero, List.drop_zero] at r1 r2
 refine ⟨R, ?_, ?_, r3, r4, r5 s (by rw [hrs, if_pos rfl]; exact Int.le_refl _), r6, r7, r8, r9⟩
 · unfold iw
   refine Ev.bindo (a := List.replicate z.length (-1)) ?_ ?_
   · unfold ib
     rw [if_pos ⟨rfl, by omega, by omega⟩, Int.toNat_natCast]
     rfl
   · rw [List.length_replicate]
     refine Ev.pos hs0 ?_
     refine Ev.pos hs1 ?_
     exact r1
 · unfold lq
   refine Ev.pos (by omega) ?_
   refine Ev.pos (by omega) ?_
   rw [Int.toNat_natCast]
   have hfill := tm (z := z) (R := R) s _ 0 (List.replicate z.length 0) rfl (Nat.zero_le _) (by rw [List.length_replicate]; exact hn) (by simp)
   simp only [Int.natCast_zero, List.length_replicate] at hfill
   refine hfill ?_
   refine Ev.step (fun k => by rw [ga]) ?_
   refine Ev.neg (by rw [List.length_replicate]; omega) ?_
   rw [List.length_replicate]
   refine Ev.pos hs0 ?_
   refine Ev.pos hs1 ?_
   exact r2
theorem mc (l : List Bool) (j k : Int) (v : Bool) (h : j.toNat < l.length) : aV false (l.set j.toNat v) k = if k.toNat = j.toNat then v else aV false l k := by
 unfold aV
 rw [List.getD_eq_getElem?_getD, List.getD_eq_getElem?_getD, List.getElem?_set]
 by_cases c : j.toNat = k.toNat
 · rw [if_pos c, if_pos c.symm, if_pos h, Option.getD_some]
 · rw [if_neg c, if_neg (Ne.symm c)]
def free (l : List Bool) : Nat := l.countP fun x => !x
theorem nt (l : List Bool) (j : Int) (h : j.toNat < l.length) (hj : aV false l j = false) : free (l.set j.toNat true) + 1 = free l := by
 have e1 : aV false l j = l[j.toNat] := by unfold aV; rw [List.getD_eq_getElem?_getD, List.getElem?_eq_getElem h, Option.getD_some]
 rw [e1] at hj
 unfold free
 rw [List.countP_set h]
 have hp : 0 < l.countP (fun x => !x) := List.countP_pos_iff.2 ⟨_, List.getElem_mem h, by rw [hj]; rfl⟩
 rw [if_pos (by rw [hj]; rfl), if_neg (by simp)]
 omega
theorem fy : ∀ {l m : List Int}, l.Pairwise (· < ·) → m.Pairwise (· < ·) → (∀ x, x ∈ l ↔ x ∈ m) → l = m
 | [], [], _, _, _ => rfl
 | [], y :: t, _, _, h => by have := (h y).2 (.head _); cases this
 | x :: s, [], _, _, h => by have := (h x).1 (.head _); cases this
 | x :: s, y :: t, hl, hm, h => by
  obtain ⟨h1, h2⟩ := List.pairwise_cons.1 hl
  obtain ⟨h3, h4⟩ := List.pairwise_cons.1 hm
  have e : x = y := by
    rcases List.mem_cons.1 ((h x).1 (.head _)) with e | hx
    · exact e
    rcases List.mem_cons.1 ((h y).2 (.head _)) with e | hy
    · exact e.symm
    have := h3 x hx
    have := h1 y hy
    omega
  subst e
  rw [fy h2 h4 fun z => ⟨fun hz => ?_, fun hz => ?_⟩]
  · rcases List.mem_cons.1 ((h z).1 (.tail _ hz)) with e | hz'
    · have := h1 z hz; omega
    · exact hz'
  · rcases List.mem_cons.1 ((h z).2 (.tail _ hz)) with e | hz'
    · have := h3 z hz; omega
    · exact hz'
theorem pd {l : List Int} (h : l.Nodup) : (cN l).Pairwise (· < ·) := by
 unfold cN
 have hs : (l.mergeSort fun x y => decide (x ≤ y)).Pairwise (fun a b => decide (a ≤ b) = true) := List.pairwise_mergeSort (fun a b c h1 h2 => by simp at *; omega) (fun a b => by simp; omega) l
 have hd : (l.mergeSort fun x y => decide (x ≤ y)).Nodup := (List.mergeSort_perm l _).nodup_iff.2 h
 exact (List.Pairwise.and hs hd).imp fun hab => by obtain ⟨h1, h2⟩ := hab; simp at h1; omega
theorem pf (l : List Int) (x : Int) : x ∈ cN l ↔ x ∈ l := (List.mergeSort_perm l _).mem_iff
def eQ (z : List (List Int)) : Prop := ∀ i j, 0 ≤ i → i < (z.length : Int) → 0 ≤ j → j < (z.length : Int) → j ∈ ai z i → i ∈ ai z j
section
variable {z : List (List Int)} (hn : z.length ≤ 1048576)
include hn
variable (hz : cH z) (hr : ∀ i, (ai z i).length ≤ 1048576)
include hz hr
end
section
variable {z : List (List Int)} (hn : z.length ≤ 1048576) (hz : cH z) (hr : ∀ i, (ai z i).length ≤ 1048576) (hs : eQ z)
include hn hz hr hs
end
theorem j6 (e : List cB) (i j : Int) : j ∈ cq e i ↔ ∃ p ∈ e, (p.f0 = i ∧ p.f1 = j) ∨ (p.f0 ≠ i ∧ p.f1 = i ∧ p.f0 = j) := by
 unfold cq
 rw [List.mem_filterMap]
 refine exists_congr fun p => and_congr_right fun _ => ?_
 unfold dE
 by_cases c0 : p.f0 = i
 · rw [if_pos c0]; simp [c0]
 · rw [if_neg c0]
   by_cases c1 : p.f1 = i
   · rw [if_pos c1]; simp [c0, c1]
   · rw [if_neg c1]; simp [c0, c1]
section
variable (l : List (List Int)) (e : List cB) (hm : ik l e) (hg : bR (l.length : Int) none e = true)
include hm hg
theorem pM : cH (cO l e) := by
 have _hu := hm
 have ha := kz (l.length : Int) e none hg
 intro i h0 h1 j hj
 rw [j7] at h1 ⊢
 unfold cO at hj
 rw [ig _ h0 h1, j6] at hj
 obtain ⟨p, hp, h⟩ := hj
 have := ha p hp
 omega
theorem pL (i : Int) : (ai (cO l e) i).length ≤ 1048576 := by
 have _hu := hg
 unfold ai
 rw [List.getD_eq_getElem?_getD]
 cases h : (cO l e)[i.toNat]? with
 | none => exact Nat.zero_le _
 | some s =>
  have hs := List.mem_of_getElem? h
  unfold cO bT at hs
  obtain ⟨q, _, rfl⟩ := List.mem_map.1 hs
  exact Nat.le_trans (pI _ _) hm.2.2
end
end Go.Proofs.YtjgcehldepfaaaaGreat.P
