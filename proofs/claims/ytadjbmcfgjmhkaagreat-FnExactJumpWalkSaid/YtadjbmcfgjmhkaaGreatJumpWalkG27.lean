/- The law FnExactJumpWalk's own code is walked, each way out by itself, ll the contracts of what it calls. -/
import Derived.Test.YtadjbmcfgjmhkaaGreatJumpWalkG26
namespace Go.Proofs.YtadjbmcfgjmhkaaGreat.P
open Go.RowKit YtadjbmcfgjmhkaaGreatW.PrintWords Go.Proofs.YtadjbmcfgjmhkaaGreatW.PrintLast Go.Proofs.YtadjbmcfgjmhkaaGreatW.PrintMore
set_option maxRecDepth 100000
set_option maxHeartbeats 8000000
set_option maxHeartbeats 4000000 in
theorem pK (a0_0 : Int) (A0_1 : Option Addr) (ca0_1 : Nat) (l0_1 : List (S69)) (A1 : Option Addr) (ca1 : Nat) (l1 : List Int) (A2 : Option Addr) (ca2 : Nat) (l2 : List Int) (w : World) (hr0_1 : Kd.C k69 w A0_1 l0_1.length l0_1) (hc0_1 : l0_1.length ≤ ca0_1) (hr1 : Kd.C (Kd.int .i64) w A1 l1.length l1) (hc1 : l1.length ≤ ca1) (hr2 : Kd.C (Kd.int .i64) w A2 l2.length l2) (hc2 : l2.length ≤ ca2) (c0 : 1048576 < (l1.length : Int)) :
  Calls Tryz.prog 3 #[.agg #[.int .i64 a0_0, .slice A0_1 l0_1.length ca0_1], .slice A1 l1.length ca1, .slice A2 l2.length ca2] w fun e w' => e = .returned (.bool true) ∧ Below w.heap.size w w' := by
 have hu24 := Tryz.underlying24
 have hu30 := Tryz.underlying30
 have HR0_1 := zM hr0_1; clear hr0_1
 have HC0_1 := zM hc0_1; clear hc0_1
 have HR1 := zM hr1; clear hr1
 have HC1 := zM hc1; clear hc1
 have HR2 := zM hr2; clear hr2
 have HC2 := zM hc2; clear hc2
 have HB := zM (Below.refl w.heap.size w)
 have c0b : decide (1048576 < (l1.length : Int)) = true := ag c0
 have c0c : decide (1048576 < l1.length) = true := ag (by omega)
 clear c0
 go_enter Tryz.func3, Tryz.ntmps3
 go_wp2_with (first
  | ((with_reducible refine ap (N := 3) rfl ?_); refine ze 3 #[.int .i64 a0_0, .slice A0_1 l0_1.length ca0_1] 24 ?_; intro gb3 hg w1 hbox hb; have HG3 := zM hg; have HW3 := zM (show w.heap.size ≤ gb3 by rw [hg]; exact ai HB.out); have HL3 := zM (aA hbox); clear hg; have HS1 := zM hb.size; replace HB := zM (ah HB.out hb); have BK3 := zM hbox; clear hbox hb; have hc3_0 := zy BK3 0; have hf3_0 := ae BK3.out 0; have hc3_1 := zy BK3 1; have hf3_1 := ae BK3.out 1))
 go_ret
 exact ⟨rfl, HB.out⟩
set_option maxHeartbeats 4000000 in
theorem pJ (a0_0 : Int) (A0_1 : Option Addr) (ca0_1 : Nat) (l0_1 : List (S69)) (A1 : Option Addr) (ca1 : Nat) (l1 : List Int) (A2 : Option Addr) (ca2 : Nat) (l2 : List Int) (w : World) (hr0_1 : Kd.C k69 w A0_1 l0_1.length l0_1) (hc0_1 : l0_1.length ≤ ca0_1) (hr1 : Kd.C (Kd.int .i64) w A1 l1.length l1) (hc1 : l1.length ≤ ca1) (hr2 : Kd.C (Kd.int .i64) w A2 l2.length l2) (hc2 : l2.length ≤ ca2) (c0 : ¬ (1048576 < (l1.length : Int))) (c1 : 1048576 < (l2.length : Int)) :
  Calls Tryz.prog 3 #[.agg #[.int .i64 a0_0, .slice A0_1 l0_1.length ca0_1], .slice A1 l1.length ca1, .slice A2 l2.length ca2] w fun e w' => e = .returned (.bool true) ∧ Below w.heap.size w w' := by
 have hu24 := Tryz.underlying24
 have hu30 := Tryz.underlying30
 have HR0_1 := zM hr0_1; clear hr0_1
 have HC0_1 := zM hc0_1; clear hc0_1
 have HR1 := zM hr1; clear hr1
 have HC1 := zM hc1; clear hc1
 have HR2 := zM hr2; clear hr2
 have HC2 := zM hc2; clear hc2
 have HB := zM (Below.refl w.heap.size w)
 have c0b : decide (1048576 < (l1.length : Int)) = false := ar c0
 have c0c : decide (1048576 < l1.length) = false := ar (by omega)
 clear c0
 have c1b : decide (1048576 < (l2.length : Int)) = true := ag c1
 have c1c : decide (1048576 < l2.length) = true := ag (by omega)
 clear c1
 go_enter Tryz.func3, Tryz.ntmps3
 go_wp2_with (first
  | ((with_reducible refine ap (N := 3) rfl ?_); refine ze 3 #[.int .i64 a0_0, .slice A0_1 l0_1.length ca0_1] 24 ?_; intro gb3 hg w1 hbox hb; have HG3 := zM hg; have HW3 := zM (show w.heap.size ≤ gb3 by rw [hg]; exact ai HB.out); have HL3 := zM (aA hbox); clear hg; have HS1 := zM hb.size; replace HB := zM (ah HB.out hb); have BK3 := zM hbox; clear hbox hb; have hc3_0 := zy BK3 0; have hf3_0 := ae BK3.out 0; have hc3_1 := zy BK3 1; have hf3_1 := ae BK3.out 1))
 go_ret
 exact ⟨rfl, HB.out⟩
set_option maxHeartbeats 4000000 in
theorem pI (a0_0 : Int) (A0_1 : Option Addr) (ca0_1 : Nat) (l0_1 : List (S69)) (A1 : Option Addr) (ca1 : Nat) (l1 : List Int) (A2 : Option Addr) (ca2 : Nat) (l2 : List Int) (t0 : Int) (w : World) (hr0_1 : Kd.C k69 w A0_1 l0_1.length l0_1) (hc0_1 : l0_1.length ≤ ca0_1) (hr1 : Kd.C (Kd.int .i64) w A1 l1.length l1) (hc1 : l1.length ≤ ca1) (hr2 : Kd.C (Kd.int .i64) w A2 l2.length l2) (hc2 : l2.length ≤ ca2) (c0 : ¬ (1048576 < (l1.length : Int))) (c1 : ¬ (1048576 < (l2.length : Int))) (c2 : t0 < 0) (h0 : ft a0_0 l0_1 1048576 = some t0) :
  Calls Tryz.prog 3 #[.agg #[.int .i64 a0_0, .slice A0_1 l0_1.length ca0_1], .slice A1 l1.length ca1, .slice A2 l2.length ca2] w fun e w' => e = .returned (.bool true) ∧ Below w.heap.size w w' := by
 have hu24 := Tryz.underlying24
 have hu30 := Tryz.underlying30
 have HR0_1 := zM hr0_1; clear hr0_1
 have HC0_1 := zM hc0_1; clear hc0_1
 have HR1 := zM hr1; clear hr1
 have HC1 := zM hc1; clear hc1
 have HR2 := zM hr2; clear hr2
 have HC2 := zM hc2; clear hc2
 have HB := zM (Below.refl w.heap.size w)
 have H0 := zM h0; clear h0
 have c0b : decide (1048576 < (l1.length : Int)) = false := ar c0
 have c0c : decide (1048576 < l1.length) = false := ar (by omega)
 clear c0
 have c1b : decide (1048576 < (l2.length : Int)) = false := ar c1
 have c1c : decide (1048576 < l2.length) = false := ar (by omega)
 clear c1
 have c2b : decide (t0 < 0) = true := ag c2
 clear c2
 go_enter Tryz.func3, Tryz.ntmps3
 go_wp2_with (first
  | ((with_reducible refine ap (N := 3) rfl ?_); refine ze 3 #[.int .i64 a0_0, .slice A0_1 l0_1.length ca0_1] 24 ?_; intro gb3 hg w1 hbox hb; have HG3 := zM hg; have HW3 := zM (show w.heap.size ≤ gb3 by rw [hg]; exact ai HB.out); have HL3 := zM (aA hbox); clear hg; have HS1 := zM hb.size; replace HB := zM (ah HB.out hb); have BK3 := zM hbox; clear hbox hb; have hc3_0 := zy BK3 0; have hf3_0 := ae BK3.out 0; have hc3_1 := zy BK3 1; have hf3_1 := ae BK3.out 1)
  | (have hst_ : Aside0 (Below w.heap.size w w1) := HB; clear hst_; go_at_call 8; refine (lB a0_0 _ _ l0_1 1048576 t0 _ ?side1 ?side2 H0.out).mono ?_; (case side1 => exact zC (Kd.C_below HR0_1.out HB.out)); (case side2 => exact HC0_1.out); rintro e w2 ⟨rfl, hb⟩; replace BK3 := bj BK3 hb; have HS2 := zM hb.size; replace HB := zM (ah HB.out hb); clear hb; replace hc3_0 := zy BK3 0; replace hf3_0 := ae BK3.out 0; replace hc3_1 := zy BK3 1; replace hf3_1 := ae BK3.out 1))
 go_ret
 exact ⟨rfl, HB.out⟩
set_option maxHeartbeats 4000000 in
theorem pH (a0_0 : Int) (A0_1 : Option Addr) (ca0_1 : Nat) (l0_1 : List (S69)) (A1 : Option Addr) (ca1 : Nat) (l1 : List Int) (A2 : Option Addr) (ca2 : Nat) (l2 : List Int) (k1 k2 k3 k4 k5 k6 k7 k8 k9 k11 k12 k14 : Nat) (t0 : Int) (q0 : List (List Int)) (q1 : Bool) (kk0 : Int) (mk0_0 : List (S69)) (kk1 : Int) (mk1_0 : List Int) (kk2 : Int) (mk2_0 : List Int) (kk3 : Int) (mk3_0 : List (List Int)) (w : World) (hr0_1 : Kd.C k69 w A0_1 l0_1.length l0_1) (hc0_1 : l0_1.length ≤ ca0_1) (hr1 : Kd.C (Kd.int .i64) w A1 l1.length l1) (hc1 : l1.length ≤ ca1) (hr2 : Kd.C (Kd.int .i64) w A2 l2.length l2) (hc2 : l2.length ≤ ca2) (c0 : ¬ (1048576 < (l1.length : Int))) (c1 : ¬ (1048576 < (l2.length : Int))) (c2 : ¬ (t0 < 0)) (h0 : ft a0_0 l0_1 1048576 = some t0) (h1 : gn k1 a0_0 l0_1 = some (a0_0, l0_1)) (h2 : fq k2 l1 = some l1) (h3 : fq k3 l2 = some l2) (h4 : fg k4 a0_0 l0_1 l1 l2 = some (q0, q1)) (h5 : fF k5 a0_0 l0_1 l1 l2 = some (q0, q1)) (h6 : gu k6 q0 q0 = some true) (h7 : gw k7 a0_0 l0_1 a0_0 l0_1 = some true) (h8 : eJ k8 l1 l1 = some true) (h9 : eJ k9 l2 l2 = some true) (h10 : gq a0_0 l0_1 1 = some (kk0, mk0_0)) (h11 : dw k11 l1 kk0 = some (kk1, mk1_0)) (h12 : dw k12 l2 kk1 = some (kk2, mk2_0)) (h13 : gp q0 1 = some (kk3, mk3_0)) (h14 : fu k14 mk3_0 1 = some kk3) (nkk2 : ¬ (kk2 < 0)) (nkk3 : ¬ (kk3 < 0)) :
  Calls Tryz.prog 3 #[.agg #[.int .i64 a0_0, .slice A0_1 l0_1.length ca0_1], .slice A1 l1.length ca1, .slice A2 l2.length ca2] w fun e w' => e = .returned (.bool true) ∧ Below w.heap.size w w' := by
 have hu24 := Tryz.underlying24
 have hu30 := Tryz.underlying30
 have HR0_1 := zM hr0_1; clear hr0_1
 have HC0_1 := zM hc0_1; clear hc0_1
 have HR1 := zM hr1; clear hr1
 have HC1 := zM hc1; clear hc1
 have HR2 := zM hr2; clear hr2
 have HC2 := zM hc2; clear hc2
 have HB := zM (Below.refl w.heap.size w)
 have H0 := zM h0; clear h0
 have H1 := zM h1; clear h1
 have H2 := zM h2; clear h2
 have H3 := zM h3; clear h3
 have H4 := zM h4; clear h4
 have H5 := zM h5; clear h5
 have H6 := zM h6; clear h6
 have H7 := zM h7; clear h7
 have H8 := zM h8; clear h8
 have H9 := zM h9; clear h9
 have H10 := zM h10; clear h10
 have H11 := zM h11; clear h11
 have H12 := zM h12; clear h12
 have H13 := zM h13; clear h13
 have H14 := zM h14; clear h14
 have c0b : decide (1048576 < (l1.length : Int)) = false := ar c0
 have c0c : decide (1048576 < l1.length) = false := ar (by omega)
 clear c0
 have c1b : decide (1048576 < (l2.length : Int)) = false := ar c1
 have c1c : decide (1048576 < l2.length) = false := ar (by omega)
 clear c1
 have c2b : decide (t0 < 0) = false := ar c2
 clear c2
 have nkk2b : decide (kk2 < 0) = false := ar nkk2
 clear nkk2
 have nkk3b : decide (kk3 < 0) = false := ar nkk3
 clear nkk3
 go_enter Tryz.func3, Tryz.ntmps3
 go_upto_region 16 with (first
  | ((with_reducible refine ap (N := 3) rfl ?_); refine ze 3 #[.int .i64 a0_0, .slice A0_1 l0_1.length ca0_1] 24 ?_; intro gb3 hg w1 hbox hb; have HG3 := zM hg; have HW3 := zM (show w.heap.size ≤ gb3 by rw [hg]; exact ai HB.out); have HL3 := zM (aA hbox); clear hg; have HS1 := zM hb.size; replace HB := zM (ah HB.out hb); have BK3 := zM hbox; clear hbox hb; have hc3_0 := zy BK3 0; have hf3_0 := ae BK3.out 0; have hc3_1 := zy BK3 1; have hf3_1 := ae BK3.out 1)
  | (have hst_ : Aside0 (Below w.heap.size w w1) := HB; clear hst_; go_at_call 8; refine (lB a0_0 _ _ l0_1 1048576 t0 _ ?side1 ?side2 H0.out).mono ?_; (case side1 => exact zC (Kd.C_below HR0_1.out HB.out)); (case side2 => exact HC0_1.out); rintro e w2 ⟨rfl, hb⟩; replace BK3 := bj BK3 hb; have HS2 := zM hb.size; replace HB := zM (ah HB.out hb); clear hb; replace hc3_0 := zy BK3 0; replace hf3_0 := ae BK3.out 0; replace hc3_1 := zy BK3 1; replace hf3_1 := ae BK3.out 1)
  | (have hst_ : Aside0 (Below w.heap.size w w2) := HB; clear hst_; go_at_call 10; refine (ic k1 a0_0 _ _ l0_1 a0_0 l0_1 _ ?side1 ?side2 H1.out).mono ?_; (case side1 => exact zC (Kd.C_below HR0_1.out HB.out)); (case side2 => exact HC0_1.out); rintro e w3 ⟨v0_0, rfl, ho0, hb⟩; replace BK3 := bj BK3 hb; have HS3 := zM hb.size; have HO0_0 := uR HB.out (by first | exact ho0 | exact Kd.R_mono ho0 (fun _ _ => trivial) | exact Kd.R_mono ho0 (fun _ hk_ => hk_.1)); clear ho0; obtain ⟨Ao0_0, co0_0, eo0_0⟩ := Kd.R_slice HO0_0.out; subst eo0_0; replace HB := zM (ah HB.out hb); clear hb; replace hc3_0 := zy BK3 0; replace hf3_0 := ae BK3.out 0; replace hc3_1 := zy BK3 1; replace hf3_1 := ae BK3.out 1)
  | (have hst_ : Aside0 (Below w.heap.size w w3) := HB; clear hst_; go_at_call 11; refine (d6 k2 _ _ l1 l1 _ ?side1 ?side2 H2.out).mono ?_; (case side1 => exact zC (Kd.C_below HR1.out HB.out)); (case side2 => exact HC1.out); rintro e w4 ⟨v1_0, rfl, ho0, hb⟩; replace HO0_0 := ba HO0_0 hb; replace BK3 := bj BK3 hb; have HS4 := zM hb.size; have HO1_0 := uR HB.out (by first | exact ho0 | exact Kd.R_mono ho0 (fun _ _ => trivial) | exact Kd.R_mono ho0 (fun _ hk_ => hk_.1)); clear ho0; obtain ⟨Ao1_0, co1_0, eo1_0⟩ := Kd.R_slice HO1_0.out; subst eo1_0; replace HB := zM (ah HB.out hb); clear hb; replace hc3_0 := zy BK3 0; replace hf3_0 := ae BK3.out 0; replace hc3_1 := zy BK3 1; replace hf3_1 := ae BK3.out 1)
  | (have hst_ : Aside0 (Below w.heap.size w w4) := HB; clear hst_; go_at_call 11; refine (d6 k3 _ _ l2 l2 _ ?side1 ?side2 H3.out).mono ?_; (case side1 => exact zC (Kd.C_below HR2.out HB.out)); (case side2 => exact HC2.out); rintro e w5 ⟨v2_0, rfl, ho0, hb⟩; replace HO0_0 := ba HO0_0 hb; replace HO1_0 := ba HO1_0 hb; replace BK3 := bj BK3 hb; have HS5 := zM hb.size; have HO2_0 := uR HB.out (by first | exact ho0 | exact Kd.R_mono ho0 (fun _ _ => trivial) | exact Kd.R_mono ho0 (fun _ hk_ => hk_.1)); clear ho0; obtain ⟨Ao2_0, co2_0, eo2_0⟩ := Kd.R_slice HO2_0.out; subst eo2_0; replace HB := zM (ah HB.out hb); clear hb; replace hc3_0 := zy BK3 0; replace hf3_0 := ae BK3.out 0; replace hc3_1 := zy BK3 1; replace hf3_1 := ae BK3.out 1)
  | (have hst_ : Aside0 (Below w.heap.size w w5) := HB; clear hst_; go_at_call 9; refine (nS k4 a0_0 _ _ l0_1 _ _ l1 _ _ l2 q0 q1 _ ?side1 ?side2 ?side3 ?side4 ?side5 ?side6 H4.out).mono ?_; (case side1 => exact zC (Kd.R_reads' HO0_0.out).2.2); (case side2 => exact (Kd.R_reads' HO0_0.out).2.1); (case side3 => exact zC (Kd.R_reads' HO1_0.out).2.2); (case side4 => exact (Kd.R_reads' HO1_0.out).2.1); (case side5 => exact zC (Kd.R_reads' HO2_0.out).2.2); (case side6 => exact (Kd.R_reads' HO2_0.out).2.1); clear HO0_0; clear HO1_0; clear HO2_0; rintro e w6 ⟨v3_0, rfl, ho0, hb⟩; replace BK3 := bj BK3 hb; have HS6 := zM hb.size; have HO3_0 := uV HB.out (by first | exact ho0 | exact Kd.V_mono ho0 (fun _ _ => trivial) | exact Kd.V_mono ho0 (fun _ hk_ => hk_.1)); clear ho0; obtain ⟨Ao3_0, co3_0, eo3_0⟩ := Kd.V_slice HO3_0.out; subst eo3_0; replace HB := zM (ah HB.out hb); clear hb; replace hc3_0 := zy BK3 0; replace hf3_0 := ae BK3.out 0; replace hc3_1 := zy BK3 1; replace hf3_1 := ae BK3.out 1)
  | (have hst_ : Aside0 (Below w.heap.size w w6) := HB; clear hst_; go_at_call 10; refine (ic k1 a0_0 _ _ l0_1 a0_0 l0_1 _ ?side1 ?side2 H1.out).mono ?_; (case side1 => exact zC (Kd.C_below HR0_1.out HB.out)); (case side2 => exact HC0_1.out); rintro e w7 ⟨v4_0, rfl, ho0, hb⟩; replace HO3_0 := bN HO3_0 hb; replace BK3 := bj BK3 hb; have HS7 := zM hb.size; have HO4_0 := uR HB.out (by first | exact ho0 | exact Kd.R_mono ho0 (fun _ _ => trivial) | exact Kd.R_mono ho0 (fun _ hk_ => hk_.1)); clear ho0; obtain ⟨Ao4_0, co4_0, eo4_0⟩ := Kd.R_slice HO4_0.out; subst eo4_0; replace HB := zM (ah HB.out hb); clear hb; replace hc3_0 := zy BK3 0; replace hf3_0 := ae BK3.out 0; replace hc3_1 := zy BK3 1; replace hf3_1 := ae BK3.out 1)
  | ((with_reducible refine ap (N := 10) rfl ?_); refine ze 10 #[.int .i64 0, .slice none 0 0] 30 ?_; intro gb10 hg w8 hbox hb; have HG10 := zM hg; have HW10 := zM (show w.heap.size ≤ gb10 by rw [hg]; exact ai HB.out); have HL10 := zM (aA hbox); clear hg; replace HO3_0 := bN HO3_0 hb; replace HO4_0 := ba HO4_0 hb; replace BK3 := bj BK3 hb; have HS8 := zM hb.size; replace HB := zM (ah HB.out hb); have hn3_10 : gb3 ≠ gb10 := (by have := HG10.out; have := HL3.out; have := HS2.out; have := HS3.out; have := HS4.out; have := HS5.out; have := HS6.out; have := HS7.out; omega); have hn10_3 := hn3_10.symm; have BK10 := zM hbox; clear hbox hb; replace hc3_0 := zy BK3 0; replace hf3_0 := ae BK3.out 0; replace hc3_1 := zy BK3 1; replace hf3_1 := ae BK3.out 1; have hc10_0 := zy BK10 0; have hf10_0 := ae BK10.out 0; have hc10_1 := zy BK10 1; have hf10_1 := ae BK10.out 1)
  | (have hst_ : Aside0 (Below w.heap.size w w8) := HB; clear hst_; go_at_call 11; refine ke BK10 HB HW10.out ?_; intro w9 BKn hk HBn; replace HO3_0 := fS HO3_0 hk (fun k_ hk_ e_ => by have e2 : k_ = gb10 := e_; have := HG10.out; have := HL10.out; have h2 : w5.heap.size ≤ k_ ∧ k_ < w6.heap.size := hk_; have := HS7.out; omega); replace HO4_0 := gU HO4_0 hk (fun k_ hk_ e_ => by have e2 : k_ = gb10 := e_; have := HG10.out; have := HL10.out; have h2 : w6.heap.size ≤ k_ ∧ k_ < w7.heap.size := hk_; omega); replace BK3 := fT BK3 hk (fun e_ => by have e2 : gb3 = gb10 := e_; have := HG10.out; have := HL10.out; have := HG3.out; have := HL3.out; have := HS2.out; have := HS3.out; have := HS4.out; have := HS5.out; have := HS6.out; have := HS7.out; omega); replace BK10 := BKn; replace HB := HBn; clear BKn HBn; have HS9 := zM hk.1; clear hk; refine (d6 k2 _ _ l1 l1 _ ?side1 ?side2 H2.out).mono ?_; (case side1 => exact zC (Kd.C_below HR1.out HB.out)); (case side2 => exact HC1.out); rintro e w10 ⟨v5_0, rfl, ho0, hb⟩; replace HO3_0 := bN HO3_0 hb; replace HO4_0 := ba HO4_0 hb; replace BK3 := bj BK3 hb; replace BK10 := bj BK10 hb; have HS10 := zM hb.size; have HO5_0 := uR HB.out (by first | exact ho0 | exact Kd.R_mono ho0 (fun _ _ => trivial) | exact Kd.R_mono ho0 (fun _ hk_ => hk_.1)); clear ho0; obtain ⟨Ao5_0, co5_0, eo5_0⟩ := Kd.R_slice HO5_0.out; subst eo5_0; replace HB := zM (ah HB.out hb); clear hb; replace hc3_0 := zy BK3 0; replace hf3_0 := ae BK3.out 0; replace hc3_1 := zy BK3 1; replace hf3_1 := ae BK3.out 1; replace hc10_0 := zy BK10 0; replace hf10_0 := ae BK10.out 0; replace hc10_1 := zy BK10 1; replace hf10_1 := ae BK10.out 1)
  | (have hst_ : Aside0 (Below w.heap.size w w10) := HB; clear hst_; go_at_call 11; refine (d6 k3 _ _ l2 l2 _ ?side1 ?side2 H3.out).mono ?_; (case side1 => exact zC (Kd.C_below HR2.out HB.out)); (case side2 => exact HC2.out); rintro e w11 ⟨v6_0, rfl, ho0, hb⟩; replace HO3_0 := bN HO3_0 hb; replace HO4_0 := ba HO4_0 hb; replace HO5_0 := ba HO5_0 hb; replace BK3 := bj BK3 hb; replace BK10 := bj BK10 hb; have HS11 := zM hb.size; have HO6_0 := uR HB.out (by first | exact ho0 | exact Kd.R_mono ho0 (fun _ _ => trivial) | exact Kd.R_mono ho0 (fun _ hk_ => hk_.1)); clear ho0; obtain ⟨Ao6_0, co6_0, eo6_0⟩ := Kd.R_slice HO6_0.out; subst eo6_0; replace HB := zM (ah HB.out hb); clear hb; replace hc3_0 := zy BK3 0; replace hf3_0 := ae BK3.out 0; replace hc3_1 := zy BK3 1; replace hf3_1 := ae BK3.out 1; replace hc10_0 := zy BK10 0; replace hf10_0 := ae BK10.out 0; replace hc10_1 := zy BK10 1; replace hf10_1 := ae BK10.out 1)
  | (have hst_ : Aside0 (Below w.heap.size w w11) := HB; clear hst_; go_at_call 12; refine (lT k5 a0_0 _ _ l0_1 _ _ l1 _ _ l2 q0 q1 _ ?side1 ?side2 ?side3 ?side4 ?side5 ?side6 H5.out).mono ?_; (case side1 => exact zC (Kd.R_reads' HO4_0.out).2.2); (case side2 => exact (Kd.R_reads' HO4_0.out).2.1); (case side3 => exact zC (Kd.R_reads' HO5_0.out).2.2); (case side4 => exact (Kd.R_reads' HO5_0.out).2.1); (case side5 => exact zC (Kd.R_reads' HO6_0.out).2.2); (case side6 => exact (Kd.R_reads' HO6_0.out).2.1); rintro e w12 ⟨v7_0, rfl, ho0, hb⟩; replace HO3_0 := bN HO3_0 hb; replace HO4_0 := ba HO4_0 hb; replace HO5_0 := ba HO5_0 hb; replace HO6_0 := ba HO6_0 hb; replace BK3 := bj BK3 hb; replace BK10 := bj BK10 hb; have HS12 := zM hb.size; have HO7_0 := uS HB.out (by first | exact ho0 | exact Kd.S_mono ho0 (fun _ _ => trivial) | exact Kd.S_mono ho0 (fun _ hk_ => hk_.1)); clear ho0; obtain ⟨Ao7_0, co7_0, eo7_0⟩ := Kd.S_slice HO7_0.out; subst eo7_0; replace HB := zM (ah HB.out hb); clear hb; replace hc3_0 := zy BK3 0; replace hf3_0 := ae BK3.out 0; replace hc3_1 := zy BK3 1; replace hf3_1 := ae BK3.out 1; replace hc10_0 := zy BK10 0; replace hf10_0 := ae BK10.out 0; replace hc10_1 := zy BK10 1; replace hf10_1 := ae BK10.out 1)
  | (have hst_ : Aside0 (Below w.heap.size w w12) := HB; clear hst_; go_at_call 13; refine (jo k6 _ _ q0 _ _ q0 true _ ?side1 ?side2 ?side3 ?side4 H6.out).mono ?_; (case side1 => exact zC (Kd.S_reads' HO7_0.out).2.2); (case side2 => exact (Kd.S_reads' HO7_0.out).2.1); (case side3 => exact zC (Kd.V_reads' HO3_0.out).2.2); (case side4 => exact (Kd.V_reads' HO3_0.out).2.1); rintro e w13 ⟨rfl, hb0⟩; have hb := hb0.below; clear hb0; replace HO3_0 := bN HO3_0 hb; replace HO4_0 := ba HO4_0 hb; replace HO5_0 := ba HO5_0 hb; replace HO6_0 := ba HO6_0 hb; replace HO7_0 := ci HO7_0 hb; replace BK3 := bj BK3 hb; replace BK10 := bj BK10 hb; have HS13 := zM hb.size; replace HB := zM (ah HB.out hb); clear hb; replace hc3_0 := zy BK3 0; replace hf3_0 := ae BK3.out 0; replace hc3_1 := zy BK3 1; replace hf3_1 := ae BK3.out 1; replace hc10_0 := zy BK10 0; replace hf10_0 := ae BK10.out 0; replace hc10_1 := zy BK10 1; replace hf10_1 := ae BK10.out 1))
 (try simp only [Act.put, List.setIfInBounds_toArray, List.set_cons_zero, List.set_cons_succ])
 replace HO3_0 := zM (Kd.V_drew HO3_0.out)
 replace HO4_0 := zM (Kd.R_drew HO4_0.out)
 replace HO5_0 := zM (Kd.R_drew HO5_0.out)
 replace HO6_0 := zM (Kd.R_drew HO6_0.out)
 replace HO7_0 := zM (Kd.S_drew HO7_0.out)
 replace BK3 := zM (aq BK3.out)
 replace BK10 := zM (aq BK10.out)
 replace HB := zM (aC HB.out)
 refine zs (n := 5) (fun w' => w'.cell? ⟨gb10, 0, none⟩ = some (.int .i64 a0_0) ∧ w'.cell? ⟨gb10, 1, none⟩ = some (.slice Ao4_0 l0_1.length co4_0) ∧ w'.cell? ⟨gb3, 0, none⟩ = some (.int .i64 a0_0) ∧ w'.cell? ⟨gb3, 1, none⟩ = some (.slice A0_1 l0_1.length ca0_1)) ⟨(am BK10.out 0).trans rfl, (am BK10.out 1).trans rfl, (am BK3.out 0).trans rfl, (am BK3.out 1).trans rfl⟩ (fun hHeld => ?_)
 have HS14 := zM (show w13.heap.size ≤ w13.drew.heap.size from au _)
 generalize w13.drew = w14 at HO3_0 HO4_0 HO5_0 HO6_0 HO7_0 BK3 BK10 HB HS14 hHeld ⊢
 refine zl 0 63 hHeld ?_ (hy := by rintro w' ⟨s0, s1, s2, s3⟩; go_simp; with_reducible rfl)
 refine zl 1 64 hHeld ?_ (hy := by rintro w' ⟨s0, s1, s2, s3⟩; go_simp; with_reducible rfl)
 refine zh 2 65 Tryz.func10 #[.agg #[.int .i64 a0_0, .slice A0_1 l0_1.length ca0_1]] (fun K hK => ?_)
 (refine (ic k1 a0_0 _ _ l0_1 a0_0 l0_1 _ ?side1 ?side2 H1.out).mono ?_; (case side1 => exact zC (Kd.C_below HR0_1.out HB.out)); (case side2 => exact HC0_1.out); rintro e w15 ⟨v8_0, rfl, ho0, hb⟩; replace HO3_0 := bN HO3_0 hb; replace HO4_0 := ba HO4_0 hb; replace HO5_0 := ba HO5_0 hb; replace HO6_0 := ba HO6_0 hb; replace HO7_0 := ci HO7_0 hb; replace BK3 := bj BK3 hb; replace BK10 := bj BK10 hb; have HS15 := zM hb.size; have HO8_0 := uR HB.out (by first | exact ho0 | exact Kd.R_mono ho0 (fun _ _ => trivial) | exact Kd.R_mono ho0 (fun _ hk_ => hk_.1)); clear ho0; obtain ⟨Ao8_0, co8_0, eo8_0⟩ := Kd.R_slice HO8_0.out; subst eo8_0; replace HB := zM (ah HB.out hb); clear hb)
 refine ⟨_, rfl, ?_⟩
 refine hK.out _ _ ⟨(am BK10.out 0).trans rfl, (am BK10.out 1).trans rfl, (am BK3.out 0).trans rfl, (am BK3.out 1).trans rfl⟩ (fun hHeld => ?_)
 clear hK K
 refine zn 65 ?_
 refine zh 3 66 Tryz.func14 #[.agg #[.int .i64 a0_0, .slice Ao4_0 l0_1.length co4_0], .agg #[.int .i64 a0_0, .slice Ao8_0 l0_1.length co8_0]] (fun K hK => ?_)
 (refine (pG k7 a0_0 _ _ l0_1 a0_0 _ _ l0_1 true _ ?side1 ?side2 ?side3 ?side4 H7.out).mono ?_; (case side1 => exact zC (Kd.R_reads' HO4_0.out).2.2); (case side2 => exact (Kd.R_reads' HO4_0.out).2.1); (case side3 => exact zC (Kd.R_reads' HO8_0.out).2.2); (case side4 => exact (Kd.R_reads' HO8_0.out).2.1); clear HO8_0; rintro e w16 ⟨rfl, hb⟩; replace HO3_0 := bN HO3_0 hb; replace HO4_0 := ba HO4_0 hb; replace HO5_0 := ba HO5_0 hb; replace HO6_0 := ba HO6_0 hb; replace HO7_0 := ci HO7_0 hb; replace BK3 := bj BK3 hb; replace BK10 := bj BK10 hb; have HS16 := zM hb.size; replace HB := zM (ah HB.out hb); clear hb)
 refine ⟨_, rfl, ?_⟩
 refine hK.out _ _ ⟨(am BK10.out 0).trans rfl, (am BK10.out 1).trans rfl, (am BK3.out 0).trans rfl, (am BK3.out 1).trans rfl⟩ (fun hHeld => ?_)
 clear hK K
 refine zn 66 ?_
 refine zq 4 67 ?_
 refine zx ?_
 replace hc3_0 := zy BK3 0
 replace hf3_0 := ae BK3.out 0
 replace hc3_1 := zy BK3 1
 replace hf3_1 := ae BK3.out 1
 replace hc10_0 := zy BK10 0
 replace hf10_0 := ae BK10.out 0
 replace hc10_1 := zy BK10 1
 replace hf10_1 := ae BK10.out 1
 go_wp2_with (first
  | (have hst_ : Aside0 (Below w.heap.size w w16) := HB; clear hst_; go_at_call 11; refine (d6 k2 _ _ l1 l1 _ ?side1 ?side2 H2.out).mono ?_; (case side1 => exact zC (Kd.C_below HR1.out HB.out)); (case side2 => exact HC1.out); rintro e w17 ⟨v9_0, rfl, ho0, hb⟩; replace HO3_0 := bN HO3_0 hb; replace HO4_0 := ba HO4_0 hb; replace HO5_0 := ba HO5_0 hb; replace HO6_0 := ba HO6_0 hb; replace HO7_0 := ci HO7_0 hb; replace BK3 := bj BK3 hb; replace BK10 := bj BK10 hb; have HS17 := zM hb.size; have HO9_0 := uR HB.out (by first | exact ho0 | exact Kd.R_mono ho0 (fun _ _ => trivial) | exact Kd.R_mono ho0 (fun _ hk_ => hk_.1)); clear ho0; obtain ⟨Ao9_0, co9_0, eo9_0⟩ := Kd.R_slice HO9_0.out; subst eo9_0; replace HB := zM (ah HB.out hb); clear hb; replace hc3_0 := zy BK3 0; replace hf3_0 := ae BK3.out 0; replace hc3_1 := zy BK3 1; replace hf3_1 := ae BK3.out 1; replace hc10_0 := zy BK10 0; replace hf10_0 := ae BK10.out 0; replace hc10_1 := zy BK10 1; replace hf10_1 := ae BK10.out 1)
  | (have hst_ : Aside0 (Below w.heap.size w w17) := HB; clear hst_; go_at_call 15; refine (eb k8 _ _ l1 _ _ l1 true _ ?side1 ?side2 ?side3 ?side4 H8.out).mono ?_; (case side1 => exact zC (Kd.R_reads' HO5_0.out).2.2); (case side2 => exact (Kd.R_reads' HO5_0.out).2.1); (case side3 => exact zC (Kd.R_reads' HO9_0.out).2.2); (case side4 => exact (Kd.R_reads' HO9_0.out).2.1); clear HO9_0; rintro e w18 ⟨rfl, hb0⟩; have hb := hb0.below; clear hb0; replace HO3_0 := bN HO3_0 hb; replace HO4_0 := ba HO4_0 hb; replace HO5_0 := ba HO5_0 hb; replace HO6_0 := ba HO6_0 hb; replace HO7_0 := ci HO7_0 hb; replace BK3 := bj BK3 hb; replace BK10 := bj BK10 hb; have HS18 := zM hb.size; replace HB := zM (ah HB.out hb); clear hb; replace hc3_0 := zy BK3 0; replace hf3_0 := ae BK3.out 0; replace hc3_1 := zy BK3 1; replace hf3_1 := ae BK3.out 1; replace hc10_0 := zy BK10 0; replace hf10_0 := ae BK10.out 0; replace hc10_1 := zy BK10 1; replace hf10_1 := ae BK10.out 1)
  | (have hst_ : Aside0 (Below w.heap.size w w18) := HB; clear hst_; go_at_call 11; refine (d6 k3 _ _ l2 l2 _ ?side1 ?side2 H3.out).mono ?_; (case side1 => exact zC (Kd.C_below HR2.out HB.out)); (case side2 => exact HC2.out); rintro e w19 ⟨v10_0, rfl, ho0, hb⟩; replace HO3_0 := bN HO3_0 hb; replace HO4_0 := ba HO4_0 hb; replace HO5_0 := ba HO5_0 hb; replace HO6_0 := ba HO6_0 hb; replace HO7_0 := ci HO7_0 hb; replace BK3 := bj BK3 hb; replace BK10 := bj BK10 hb; have HS19 := zM hb.size; have HO10_0 := uR HB.out (by first | exact ho0 | exact Kd.R_mono ho0 (fun _ _ => trivial) | exact Kd.R_mono ho0 (fun _ hk_ => hk_.1)); clear ho0; obtain ⟨Ao10_0, co10_0, eo10_0⟩ := Kd.R_slice HO10_0.out; subst eo10_0; replace HB := zM (ah HB.out hb); clear hb; replace hc3_0 := zy BK3 0; replace hf3_0 := ae BK3.out 0; replace hc3_1 := zy BK3 1; replace hf3_1 := ae BK3.out 1; replace hc10_0 := zy BK10 0; replace hf10_0 := ae BK10.out 0; replace hc10_1 := zy BK10 1; replace hf10_1 := ae BK10.out 1)
  | (have hst_ : Aside0 (Below w.heap.size w w19) := HB; clear hst_; go_at_call 15; refine (eb k9 _ _ l2 _ _ l2 true _ ?side1 ?side2 ?side3 ?side4 H9.out).mono ?_; (case side1 => exact zC (Kd.R_reads' HO6_0.out).2.2); (case side2 => exact (Kd.R_reads' HO6_0.out).2.1); (case side3 => exact zC (Kd.R_reads' HO10_0.out).2.2); (case side4 => exact (Kd.R_reads' HO10_0.out).2.1); clear HO10_0; rintro e w20 ⟨rfl, hb0⟩; have hb := hb0.below; clear hb0; replace HO3_0 := bN HO3_0 hb; replace HO4_0 := ba HO4_0 hb; replace HO5_0 := ba HO5_0 hb; replace HO6_0 := ba HO6_0 hb; replace HO7_0 := ci HO7_0 hb; replace BK3 := bj BK3 hb; replace BK10 := bj BK10 hb; have HS20 := zM hb.size; replace HB := zM (ah HB.out hb); clear hb; replace hc3_0 := zy BK3 0; replace hf3_0 := ae BK3.out 0; replace hc3_1 := zy BK3 1; replace hf3_1 := ae BK3.out 1; replace hc10_0 := zy BK10 0; replace hf10_0 := ae BK10.out 0; replace hc10_1 := zy BK10 1; replace hf10_1 := ae BK10.out 1)
  | (have hst_ : Aside0 (Below w.heap.size w w20) := HB; clear hst_; go_at_call 16; refine (pE a0_0 _ _ l0_1 1 kk0 mk0_0 w w20 HB.out HO4_0.out H10.out).mono ?_; clear HO4_0; clear BK10 hc10_0 hf10_0 hc10_1 hf10_1; rintro e w21 ⟨rfl, hy0, hb2, hk⟩; replace HO3_0 := fS HO3_0 hk (fun k_ hk_ e_ => by have e2 : w6.heap.size ≤ k_ ∧ k_ < w7.heap.size := e_; have h2 : w5.heap.size ≤ k_ ∧ k_ < w6.heap.size := hk_; omega); replace HO5_0 := gU HO5_0 hk (fun k_ hk_ e_ => by have e2 : w6.heap.size ≤ k_ ∧ k_ < w7.heap.size := e_; have h2 : w9.heap.size ≤ k_ ∧ k_ < w10.heap.size := hk_; have := HS8.out; have := HS9.out; omega); replace HO6_0 := gU HO6_0 hk (fun k_ hk_ e_ => by have e2 : w6.heap.size ≤ k_ ∧ k_ < w7.heap.size := e_; have h2 : w10.heap.size ≤ k_ ∧ k_ < w11.heap.size := hk_; have := HS8.out; have := HS9.out; have := HS10.out; omega); replace HO7_0 := iI HO7_0 hk (fun k_ hk_ e_ => by have e2 : w6.heap.size ≤ k_ ∧ k_ < w7.heap.size := e_; have h2 : w11.heap.size ≤ k_ ∧ k_ < w12.heap.size := hk_; have := HS8.out; have := HS9.out; have := HS10.out; have := HS11.out; omega); replace BK3 := fT BK3 hk (fun e_ => by have e2 : w6.heap.size ≤ gb3 ∧ gb3 < w7.heap.size := e_; have := HG3.out; have := HL3.out; have := HS2.out; have := HS3.out; have := HS4.out; have := HS5.out; have := HS6.out; omega); clear hy0; have HS21 := zM hk.1; replace HB := zM hb2; clear hb2 hk; replace hc3_0 := zy BK3 0; replace hf3_0 := ae BK3.out 0; replace hc3_1 := zy BK3 1; replace hf3_1 := ae BK3.out 1)
  | (have hst_ : Aside0 (Below w.heap.size w w21) := HB; clear hst_; go_at_call 17; refine (jm k11 _ _ l1 kk0 kk1 mk1_0 w w21 HB.out HO5_0.out H11.out).mono ?_; clear HO5_0; rintro e w22 ⟨rfl, hy0, hb2, hk⟩; replace HO3_0 := fS HO3_0 hk (fun k_ hk_ e_ => by have e2 : w9.heap.size ≤ k_ ∧ k_ < w10.heap.size := e_; have h2 : w5.heap.size ≤ k_ ∧ k_ < w6.heap.size := hk_; have := HS7.out; have := HS8.out; have := HS9.out; omega); replace HO6_0 := gU HO6_0 hk (fun k_ hk_ e_ => by have e2 : w9.heap.size ≤ k_ ∧ k_ < w10.heap.size := e_; have h2 : w10.heap.size ≤ k_ ∧ k_ < w11.heap.size := hk_; omega); replace HO7_0 := iI HO7_0 hk (fun k_ hk_ e_ => by have e2 : w9.heap.size ≤ k_ ∧ k_ < w10.heap.size := e_; have h2 : w11.heap.size ≤ k_ ∧ k_ < w12.heap.size := hk_; have := HS11.out; omega); replace BK3 := fT BK3 hk (fun e_ => by have e2 : w9.heap.size ≤ gb3 ∧ gb3 < w10.heap.size := e_; have := HG3.out; have := HL3.out; have := HS2.out; have := HS3.out; have := HS4.out; have := HS5.out; have := HS6.out; have := HS7.out; have := HS8.out; have := HS9.out; omega); clear hy0; have HS22 := zM hk.1; replace HB := zM hb2; clear hb2 hk; replace hc3_0 := zy BK3 0; replace hf3_0 := ae BK3.out 0; replace hc3_1 := zy BK3 1; replace hf3_1 := ae BK3.out 1)
  | (have hst_ : Aside0 (Below w.heap.size w w22) := HB; clear hst_; go_at_call 17; refine (jm k12 _ _ l2 kk1 kk2 mk2_0 w w22 HB.out HO6_0.out H12.out).mono ?_; clear HO6_0; rintro e w23 ⟨rfl, hy0, hb2, hk⟩; replace HO3_0 := fS HO3_0 hk (fun k_ hk_ e_ => by have e2 : w10.heap.size ≤ k_ ∧ k_ < w11.heap.size := e_; have h2 : w5.heap.size ≤ k_ ∧ k_ < w6.heap.size := hk_; have := HS7.out; have := HS8.out; have := HS9.out; have := HS10.out; omega); replace HO7_0 := iI HO7_0 hk (fun k_ hk_ e_ => by have e2 : w10.heap.size ≤ k_ ∧ k_ < w11.heap.size := e_; have h2 : w11.heap.size ≤ k_ ∧ k_ < w12.heap.size := hk_; omega); replace BK3 := fT BK3 hk (fun e_ => by have e2 : w10.heap.size ≤ gb3 ∧ gb3 < w11.heap.size := e_; have := HG3.out; have := HL3.out; have := HS2.out; have := HS3.out; have := HS4.out; have := HS5.out; have := HS6.out; have := HS7.out; have := HS8.out; have := HS9.out; have := HS10.out; omega); clear hy0; have HS23 := zM hk.1; replace HB := zM hb2; clear hb2 hk; replace hc3_0 := zy BK3 0; replace hf3_0 := ae BK3.out 0; replace hc3_1 := zy BK3 1; replace hf3_1 := ae BK3.out 1)
  | (have hst_ : Aside0 (Below w.heap.size w w23) := HB; clear hst_; go_at_call 13; refine (jo k6 _ _ q0 _ _ q0 true _ ?side1 ?side2 ?side3 ?side4 H6.out).mono ?_; (case side1 => exact zC (Kd.S_reads' HO7_0.out).2.2); (case side2 => exact (Kd.S_reads' HO7_0.out).2.1); (case side3 => exact zC (Kd.V_reads' HO3_0.out).2.2); (case side4 => exact (Kd.V_reads' HO3_0.out).2.1); rintro e w24 ⟨rfl, hb0⟩; have hb := hb0.below; clear hb0; replace HO3_0 := bN HO3_0 hb; replace HO7_0 := ci HO7_0 hb; replace BK3 := bj BK3 hb; have HS24 := zM hb.size; replace HB := zM (ah HB.out hb); clear hb; replace hc3_0 := zy BK3 0; replace hf3_0 := ae BK3.out 0; replace hc3_1 := zy BK3 1; replace hf3_1 := ae BK3.out 1)
  | (have hst_ : Aside0 (Below w.heap.size w w24) := HB; clear hst_; go_at_call 18; refine (pC _ _ q0 1 kk3 mk3_0 w w24 HB.out HO7_0.out H13.out).mono ?_; rintro e w25 ⟨rfl, hy0, hb2, hk⟩; replace HO3_0 := fS HO3_0 hk (fun k_ hk_ e_ => by have e2 : w11.heap.size ≤ k_ ∧ k_ < w12.heap.size := e_; have h2 : w5.heap.size ≤ k_ ∧ k_ < w6.heap.size := hk_; have := HS7.out; have := HS8.out; have := HS9.out; have := HS10.out; have := HS11.out; omega); replace BK3 := fT BK3 hk (fun e_ => by have e2 : w11.heap.size ≤ gb3 ∧ gb3 < w12.heap.size := e_; have := HG3.out; have := HL3.out; have := HS2.out; have := HS3.out; have := HS4.out; have := HS5.out; have := HS6.out; have := HS7.out; have := HS8.out; have := HS9.out; have := HS10.out; have := HS11.out; omega); replace HO7_0 := zM (Kd.S_mono (Kd.S_bound hy0) (fun k_ hk_ => (Or.imp id (fun h_ => ⟨h_, hk_.2.2.1⟩) hk_.1 : (w11.heap.size ≤ k_ ∧ k_ < w12.heap.size) ∨ (w24.heap.size ≤ k_ ∧ k_ < w25.heap.size)))); clear hy0; have hl7_0 := (Kd.S_reads' HO7_0.out).1; rw [hl7_0] at HO7_0; replace hl7_0 := zM hl7_0; have HS25 := zM hk.1; replace HB := zM hb2; clear hb2 hk; replace hc3_0 := zy BK3 0; replace hf3_0 := ae BK3.out 0; replace hc3_1 := zy BK3 1; replace hf3_1 := ae BK3.out 1)
  | (have hst_ : Aside0 (Below w.heap.size w w25) := HB; clear hst_; go_at_call 19; refine kg (args' := #[.slice Ao7_0 mk3_0.length co7_0, .int .i64 1]) (by rw [hl7_0.out]) ?_; refine (lC k14 _ _ mk3_0 1 kk3 _ ?side1 ?side2 H14.out).mono ?_; (case side1 => exact zC (Kd.S_reads' HO7_0.out).2.2); (case side2 => exact (Kd.S_reads' HO7_0.out).2.1); rintro e w26 ⟨rfl, hb0⟩; have hb := hb0.below; clear hb0; replace HO3_0 := bN HO3_0 hb; replace HO7_0 := ci HO7_0 hb; replace BK3 := bj BK3 hb; have HS26 := zM hb.size; replace HB := zM (ah HB.out hb); clear hb; replace hc3_0 := zy BK3 0; replace hf3_0 := ae BK3.out 0; replace hc3_1 := zy BK3 1; replace hf3_1 := ae BK3.out 1)
  | (have hst_ : Aside0 (Below w.heap.size w w26) := HB; clear hst_; go_at_call 10; refine (ic k1 a0_0 _ _ l0_1 a0_0 l0_1 _ ?side1 ?side2 H1.out).mono ?_; (case side1 => exact zC (Kd.C_below HR0_1.out HB.out)); (case side2 => exact HC0_1.out); clear BK3 hc3_0 hf3_0 hc3_1 hf3_1; rintro e w27 ⟨v11_0, rfl, ho0, hb⟩; replace HO3_0 := bN HO3_0 hb; replace HO7_0 := ci HO7_0 hb; have HS27 := zM hb.size; have HO11_0 := uR HB.out (by first | exact ho0 | exact Kd.R_mono ho0 (fun _ _ => trivial) | exact Kd.R_mono ho0 (fun _ hk_ => hk_.1)); clear ho0; obtain ⟨Ao11_0, co11_0, eo11_0⟩ := Kd.R_slice HO11_0.out; subst eo11_0; replace HB := zM (ah HB.out hb); clear hb)
  | (have hst_ : Aside0 (Below w.heap.size w w27) := HB; clear hst_; go_at_call 11; refine (d6 k2 _ _ l1 l1 _ ?side1 ?side2 H2.out).mono ?_; (case side1 => exact zC (Kd.C_below HR1.out HB.out)); (case side2 => exact HC1.out); rintro e w28 ⟨v12_0, rfl, ho0, hb⟩; replace HO3_0 := bN HO3_0 hb; replace HO7_0 := ci HO7_0 hb; replace HO11_0 := ba HO11_0 hb; have HS28 := zM hb.size; have HO12_0 := uR HB.out (by first | exact ho0 | exact Kd.R_mono ho0 (fun _ _ => trivial) | exact Kd.R_mono ho0 (fun _ hk_ => hk_.1)); clear ho0; obtain ⟨Ao12_0, co12_0, eo12_0⟩ := Kd.R_slice HO12_0.out; subst eo12_0; replace HB := zM (ah HB.out hb); clear hb)
  | (have hst_ : Aside0 (Below w.heap.size w w28) := HB; clear hst_; go_at_call 11; refine (d6 k3 _ _ l2 l2 _ ?side1 ?side2 H3.out).mono ?_; (case side1 => exact zC (Kd.C_below HR2.out HB.out)); (case side2 => exact HC2.out); rintro e w29 ⟨v13_0, rfl, ho0, hb⟩; replace HO3_0 := bN HO3_0 hb; replace HO7_0 := ci HO7_0 hb; replace HO11_0 := ba HO11_0 hb; replace HO12_0 := ba HO12_0 hb; have HS29 := zM hb.size; have HO13_0 := uR HB.out (by first | exact ho0 | exact Kd.R_mono ho0 (fun _ _ => trivial) | exact Kd.R_mono ho0 (fun _ hk_ => hk_.1)); clear ho0; obtain ⟨Ao13_0, co13_0, eo13_0⟩ := Kd.R_slice HO13_0.out; subst eo13_0; replace HB := zM (ah HB.out hb); clear hb)
  | (have hst_ : Aside0 (Below w.heap.size w w29) := HB; clear hst_; go_at_call 12; refine (lT k5 a0_0 _ _ l0_1 _ _ l1 _ _ l2 q0 q1 _ ?side1 ?side2 ?side3 ?side4 ?side5 ?side6 H5.out).mono ?_; (case side1 => exact zC (Kd.R_reads' HO11_0.out).2.2); (case side2 => exact (Kd.R_reads' HO11_0.out).2.1); (case side3 => exact zC (Kd.R_reads' HO12_0.out).2.2); (case side4 => exact (Kd.R_reads' HO12_0.out).2.1); (case side5 => exact zC (Kd.R_reads' HO13_0.out).2.2); (case side6 => exact (Kd.R_reads' HO13_0.out).2.1); clear HO11_0; clear HO12_0; clear HO13_0; rintro e w30 ⟨v14_0, rfl, ho0, hb⟩; replace HO3_0 := bN HO3_0 hb; replace HO7_0 := ci HO7_0 hb; have HS30 := zM hb.size; have HO14_0 := uS HB.out (by first | exact ho0 | exact Kd.S_mono ho0 (fun _ _ => trivial) | exact Kd.S_mono ho0 (fun _ hk_ => hk_.1)); clear ho0; obtain ⟨Ao14_0, co14_0, eo14_0⟩ := Kd.S_slice HO14_0.out; subst eo14_0; replace HB := zM (ah HB.out hb); clear hb)
  | (have hst_ : Aside0 (Below w.heap.size w w30) := HB; clear hst_; go_at_call 13; refine (jo k6 _ _ q0 _ _ q0 true _ ?side1 ?side2 ?side3 ?side4 H6.out).mono ?_; (case side1 => exact zC (Kd.S_reads' HO14_0.out).2.2); (case side2 => exact (Kd.S_reads' HO14_0.out).2.1); (case side3 => exact zC (Kd.V_reads' HO3_0.out).2.2); (case side4 => exact (Kd.V_reads' HO3_0.out).2.1); clear HO3_0; clear HO14_0; rintro e w31 ⟨rfl, hb0⟩; have hb := hb0.below; clear hb0; replace HO7_0 := ci HO7_0 hb; have HS31 := zM hb.size; replace HB := zM (ah HB.out hb); clear hb)
  | (have hst_ : Aside0 (Below w.heap.size w w31) := HB; clear hst_; go_at_call 19; refine kg (args' := #[.slice Ao7_0 mk3_0.length co7_0, .int .i64 1]) (by rw [hl7_0.out]) ?_; refine (lC k14 _ _ mk3_0 1 kk3 _ ?side1 ?side2 H14.out).mono ?_; (case side1 => exact zC (Kd.S_reads' HO7_0.out).2.2); (case side2 => exact (Kd.S_reads' HO7_0.out).2.1); clear HO7_0; rintro e w32 ⟨rfl, hb0⟩; have hb := hb0.below; clear hb0; have HS32 := zM hb.size; replace HB := zM (ah HB.out hb); clear hb))
 go_ret
 exact ⟨rfl, HB.out⟩
abbrev bM := S69
def bC (n : Nat) (f : Int → List Int) : List (List Int) := (List.range n).map fun (i : Nat) => f i
theorem d3 (n : Nat) (f : Int → List Int) : (bC n f).length = n := by simp [bC]
theorem hX {n : Nat} {f g : Int → List Int} (h : ∀ i : Nat, i < n → f i = g i) : bC n f = bC n g := by
 unfold bC
 exact List.map_congr_left fun i hi => h i (List.mem_range.1 hi)
theorem i5 {n : Nat} (f : Int → List Int) (i : Nat) (h : i < n) (h' : i < (bC n f).length) : (bC n f)[i] = f i := by simp [bC]
theorem eE {n : Nat} (f : Int → List Int) {a : Int} (h0 : 0 ≤ a) (h1 : a < n) : af (bC n f) a = f a := by
 obtain ⟨i, rfl⟩ := Int.eq_ofNat_of_zero_le h0
 have hi : i < n := by omega
 unfold af
 rw [Int.toNat_natCast, List.getD_eq_getElem?_getD, List.getElem?_eq_getElem (by rw [d3]; exact hi), Option.getD_some, i5 f i hi]
theorem hU {n : Nat} (f : Int → List Int) {a : Int} (h0 : 0 ≤ a) (h1 : a < n) (x : List Int) : (bC n f).set a.toNat x = bC n (fun i => if i = a then x else f i) := by
 obtain ⟨i, rfl⟩ := Int.eq_ofNat_of_zero_le h0
 refine List.ext_getElem (by rw [List.length_set, d3, d3]) fun j hj hj' => ?_
 have hjn : j < n := by rw [d3] at hj'; exact hj'
 rw [i5 _ j hjn]
 simp only [Int.toNat_natCast, List.getElem_set]
 by_cases h : i = j
 · subst h; rw [if_pos rfl, if_pos rfl]
 · rw [if_neg h, if_neg (by omega), i5 _ j hjn]
theorem kK (n : Nat) : List.replicate n ([] : List Int) = bC n (fun _ => []) := by
 unfold bC
 rw [List.map_const', List.length_range]
def b9 (i : Int) (p : bM) : Option Int := if p.f0 = i then some p.f1 else none
def bB (i : Int) (p : bM) : Option Int := if p.f1 = i then some p.f0 else none
def bV (i : Int) (p : bM) : Option Int := if p.f0 = i then some p.f1 else if p.f1 = i then some p.f0 else none
def bZ (e : List bM) (i : Int) : List Int := e.filterMap (bV i)
theorem jE {α : Type} (f : bM → Option α) (e : List bM) (m : Nat) (hm : m < e.length) : (e.take (m + 1)).filterMap f = (e.take m).filterMap f ++ (f e[m]).toList := by
 rw [List.take_add_one, List.getElem?_eq_getElem hm, List.filterMap_append]
 cases h : f e[m] <;> simp [h]
theorem fJ {α : Type} (f : bM → Option α) (e : List bM) (m : Nat) (he : e.length ≤ 1048576) : ((e.take m).filterMap f).length ≤ 1048576 := by
 have h1 := List.length_filterMap_le f (e.take m)
 have h2 := List.length_take_le m e
 have h3 : (e.take m).length ≤ e.length := by rw [List.length_take]; omega
 omega
theorem sK {a b c : bM} (h : bE a b = true) (k : bE b c = true) : bE a c = true := by
 unfold bE at *
 simp only [Bool.or_eq_true, Bool.and_eq_true, decide_eq_true_eq] at *
 omega
theorem l5 (n : Int) (l : List bM) : ∀ p, bL n p l = true → l.Pairwise (fun a b => bE a b = true) ∧ (∀ q, p = some q → ∀ s ∈ l, bE q s = true) := by
 induction l with
 | nil => intro p h; exact ⟨.nil, fun q _ s hs => by cases hs⟩
 | cons x t ih =>
  intro p h
  simp only [bL, Bool.and_eq_true, decide_eq_true_eq] at h
  obtain ⟨_, h4, h5⟩ := h
  obtain ⟨h1, h2⟩ := ih _ h5
  refine ⟨List.pairwise_cons.2 ⟨fun s hs => h2 x rfl s hs, h1⟩, fun q hq s hs => ?_⟩
  subst hq
  have hx : bE q x = true := h4
  rcases List.mem_cons.1 hs with rfl | hs
  · exact hx
  · exact sK hx (h2 x rfl s hs)
theorem oz (i : Int) (e : List bM) : (∀ p ∈ e, p.f0 < p.f1) → e.Pairwise (fun a b => bE a b = true) → e.filterMap (bB i) ++ e.filterMap (b9 i) = bZ e i := by
 induction e with
 | nil => intro _ _; rfl
 | cons p t ih =>
  intro hl hp
  obtain ⟨h1, h2⟩ := List.pairwise_cons.1 hp
  have ih' := ih (fun q hq => hl q (.tail _ hq)) h2
  have hpl := hl p (.head _)
  unfold bZ at ih' ⊢
  by_cases c0 : p.f0 = i
  · have e1 : bB i p = none := by unfold bB; rw [if_neg (by omega)]
    have e0 : b9 i p = some p.f1 := by unfold b9; rw [if_pos c0]
    have eL : bV i p = some p.f1 := by unfold bV; rw [if_pos c0]
    have ht : t.filterMap (bB i) = [] := by
      rw [List.filterMap_eq_nil_iff]
      intro q hq
      have hb := h1 q hq
      have hq' := hl q (.tail _ hq)
      unfold bE at hb
      simp only [Bool.or_eq_true, Bool.and_eq_true, decide_eq_true_eq] at hb
      unfold bB
      rw [if_neg (by omega)]
    rw [ht, List.nil_append] at ih'
    rw [List.filterMap_cons_none e1, List.filterMap_cons_some e0, List.filterMap_cons_some eL, ht, List.nil_append, ih']
  · have e0 : b9 i p = none := by unfold b9; rw [if_neg c0]
    by_cases c1 : p.f1 = i
    · have e1 : bB i p = some p.f0 := by unfold bB; rw [if_pos c1]
      have eL : bV i p = some p.f0 := by unfold bV; rw [if_neg c0, if_pos c1]
      rw [List.filterMap_cons_some e1, List.filterMap_cons_none e0, List.filterMap_cons_some eL, List.cons_append, ih']
    · have e1 : bB i p = none := by unfold bB; rw [if_neg c1]
      have eL : bV i p = none := by unfold bV; rw [if_neg c0, if_neg c1]
      rw [List.filterMap_cons_none e1, List.filterMap_cons_none e0, List.filterMap_cons_none eL, ih']
theorem oA (i : Int) (e : List bM) (hl : ∀ p ∈ e, p.f0 < p.f1) (hp : e.Pairwise (fun a b => bE a b = true)) : (bZ e i).Pairwise (· < ·) := by
 have hp2 : e.Pairwise (fun a b => bE a b = true ∧ a.f0 < a.f1 ∧ b.f0 < b.f1) := by
   refine List.Pairwise.imp_of_mem (fun {a b} ha hb h => ⟨h, hl a ha, hl b hb⟩) hp
 refine List.Pairwise.filterMap _ (fun a b h x hx y hy => ?_) hp2
 obtain ⟨h, ha, hb⟩ := h
 unfold bE at h
 simp only [Bool.or_eq_true, Bool.and_eq_true, decide_eq_true_eq] at h
 unfold bV at hx hy
 by_cases c0 : a.f0 = i
 · rw [if_pos c0] at hx
   by_cases d0 : b.f0 = i
   · rw [if_pos d0] at hy; simp at hx hy; omega
   · rw [if_neg d0] at hy
     by_cases d1 : b.f1 = i
     · rw [if_pos d1] at hy; simp at hx hy; omega
     · rw [if_neg d1] at hy; cases hy
 · rw [if_neg c0] at hx
   by_cases c1 : a.f1 = i
   · rw [if_pos c1] at hx
     by_cases d0 : b.f0 = i
     · rw [if_pos d0] at hy; simp at hx hy; omega
     · rw [if_neg d0] at hy
       by_cases d1 : b.f1 = i
       · rw [if_pos d1] at hy; simp at hx hy; omega
       · rw [if_neg d1] at hy; cases hy
   · rw [if_neg c1] at hx; cases hx
section
variable {l : List (List Int)} {e : List bM} (he : e.length ≤ 1048576) (hg : ∀ p ∈ e, 0 ≤ p.f0 ∧ p.f0 < p.f1 ∧ p.f1 < (l.length : Int))
include he hg
theorem oC (d : Nat) : ∀ (m : Nat), e.length - m = d → m ≤ e.length → Ev (fun k => b3 k (bC l.length (bZ (e.take m))) e (e.length : Int) (m : Int)) (bC l.length (bZ e)) := by
 induction d with
 | zero =>
  intro m h0 h1
  refine Ev.step (fun k => by rw [b3]) (Ev.neg (by omega) ?_)
  rw [List.take_of_length_le (by omega)]
  exact Ev.now _
 | succ d ih =>
  intro m h0 h1
  have hm : m < e.length := by omega
  have hp := hg e[m] (List.getElem_mem hm)
  have ihm := ih (m + 1) (by omega) (by omega)
  rw [← aM hm (by omega)] at ihm
  refine Ev.step (fun k => by rw [b3]) (Ev.pos (by omega) (Ev.pos (by omega) (Ev.pos (by omega) ?_)))
  rw [dK e m hm, d3, eE _ hp.1 (by omega), hU _ hp.1 (by omega)]
  refine Ev.pos hp.1 (Ev.pos (by omega) (Ev.pos (by have := fJ (bV e[m].f0) e m he; unfold bZ; omega) (Ev.bindo rfl ?_)))
  rw [eE _ (by omega) hp.2.2, if_neg (by omega), hU _ (by omega) hp.2.2]
  refine Ev.pos (by omega) (Ev.pos (by omega) (Ev.pos (by have := fJ (bV e[m].f1) e m he; unfold bZ; omega) ?_))
  rw [hX (g := bZ (e.take (m + 1))) (fun i hi => ?_)]
  · exact ihm
  · unfold bZ
    rw [jE (bV i) e m hm]
    by_cases c1 : (i : Int) = e[m].f1
    · rw [if_pos c1, c1]
      unfold bV
      rw [if_neg (by omega), if_pos rfl]
      rfl
    · rw [if_neg c1]
      by_cases c0 : (i : Int) = e[m].f0
      · rw [if_pos c0, c0]
        unfold bV
        rw [if_pos rfl]
        rfl
      · rw [if_neg c0]
        have : bV i e[m] = none := by unfold bV; rw [if_neg (by omega), if_neg (by omega)]
        rw [this]
        simp
theorem pv (d : Nat) : ∀ (m : Nat), e.length - m = d → m ≤ e.length → Ev (fun k => cZ k (bC l.length (fun i => e.filterMap (bB i) ++ (e.take m).filterMap (b9 i))) (m : Int) l e) (bC l.length (fun i => e.filterMap (bB i) ++ e.filterMap (b9 i))) := by
 induction d with
 | zero =>
  intro m h0 h1
  refine Ev.step (fun k => by rw [cZ]) (Ev.neg (by omega) ?_)
  rw [List.take_of_length_le (by omega)]
  exact Ev.now _
 | succ d ih =>
  intro m h0 h1
  have hm : m < e.length := by omega
  have hp := hg e[m] (List.getElem_mem hm)
  have ihm := ih (m + 1) (by omega) (by omega)
  rw [← aM hm (by omega)] at ihm
  refine Ev.step (fun k => by rw [cZ]) (Ev.pos (by omega) (Ev.pos (by omega) ?_))
  rw [dK e m hm, d3, eE _ hp.1 (by omega), hU _ hp.1 (by omega)]
  refine Ev.pos hp.1 (Ev.pos (by omega) (Ev.pos ?_ ?_))
  · have h1 := fJ (b9 e[m].f0) e m he
    have h2 := fJ (bB e[m].f0) e e.length he
    rw [List.take_length] at h2
    rw [List.length_append]
    omega
  rw [hX (g := fun i => e.filterMap (bB i) ++ (e.take (m + 1)).filterMap (b9 i)) (fun i hi => ?_)]
  · exact ihm
  · rw [jE (b9 i) e m hm]
    by_cases c0 : (i : Int) = e[m].f0
    · rw [if_pos c0, c0]
      unfold b9
      rw [if_pos rfl, List.append_assoc]
      rfl
    · rw [if_neg c0]
      have : b9 i e[m] = none := by unfold b9; rw [if_neg (by omega)]
      rw [this]
      simp
theorem pw {R : List (List Int)} (hR : Ev (fun k => cZ k (bC l.length (fun i => e.filterMap (bB i))) 0 l e) R) (d : Nat) : ∀ (m : Nat), e.length - m = d → m ≤ e.length → Ev (fun k => da k (bC l.length (fun i => (e.take m).filterMap (bB i))) (m : Int) l e) R := by
 induction d with
 | zero =>
  intro m h0 h1
  refine Ev.step (fun k => by rw [da]) (Ev.neg (by omega) ?_)
  rw [List.take_of_length_le (by omega)]
  exact hR
 | succ d ih =>
  intro m h0 h1
  have hm : m < e.length := by omega
  have hp := hg e[m] (List.getElem_mem hm)
  have ihm := ih (m + 1) (by omega) (by omega)
  rw [← aM hm (by omega)] at ihm
  refine Ev.step (fun k => by rw [da]) (Ev.pos (by omega) (Ev.pos (by omega) ?_))
  rw [dK e m hm, d3, eE _ (by omega) hp.2.2, hU _ (by omega) hp.2.2]
  refine Ev.pos (by omega) (Ev.pos (by omega) (Ev.pos (by have := fJ (bB e[m].f1) e m he; omega) ?_))
  rw [hX (g := fun i => (e.take (m + 1)).filterMap (bB i)) (fun i hi => ?_)]
  · exact ihm
  · rw [jE (bB i) e m hm]
    by_cases c0 : (i : Int) = e[m].f1
    · rw [if_pos c0, c0]
      unfold bB
      rw [if_pos rfl]
      rfl
    · rw [if_neg c0]
      have : bB i e[m] = none := by unfold bB; rw [if_neg (by omega)]
      rw [this]
      simp
end
theorem n4 {l : List Int} (h : l.Pairwise (· < ·)) : eD l = l := by
 unfold eD
 exact List.mergeSort_of_pairwise (h.imp fun hab => by simp; omega)
theorem nZ (z : List (List Int)) (h : ∀ s ∈ z, s.Pairwise (· < ·) ∧ s.length < 4611686018427387904) : cM z = some z := by
 induction z with
 | nil => rfl
 | cons s t ih =>
  have hs := h s (.head _)
  rw [cM, show fi s = some s from by unfold fi; rw [if_pos hs.2, n4 hs.1], Option.bind_some, ih (fun q hq => h q (.tail _ hq)), Option.bind_some]
section
variable (l : List (List Int)) (e : List bM) (hm : gi l e) (hg : bL (l.length : Int) none e = true)
include hm hg
def cz (l : List (List Int)) (e : List bM) : List (List Int) := bC l.length (bZ e)
theorem kN : Ev (fun k => ip k l e) (cz l e) := by
 have ha := gE (l.length : Int) e none hg
 have hp := (l5 (l.length : Int) e none hg).1
 have hl := oC (l := l) hm.2.2 ha (e.length - 0) 0 rfl (Nat.zero_le _)
 unfold ip jw
 rw [show (fun k => ((if 0 ≤ (l.length : Int) then (if ((l.length : Int) : Int).toNat ≤ 11728124029610 then (b3 k (List.replicate ((l.length : Int) : Int).toNat []) e (e.length : Int) 0) else (none)) else (none)).bind cM)) = fun k => ((b3 k (List.replicate ((l.length : Int) : Int).toNat []) e (e.length : Int) 0).bind cM) from funext fun k => by rw [if_pos (by omega), if_pos (by have := hm.1; omega)]]
 rw [Int.toNat_natCast, kK]
 have e0 : bZ (e.take 0) = fun _ => [] := funext fun i => by simp [bZ]
 rw [e0] at hl
 refine Ev.bind hl (Ev.some ?_)
 refine nZ _ fun s hs => ?_
 unfold cz bC at *
 obtain ⟨i, _, rfl⟩ := List.mem_map.1 hs
 refine ⟨oA _ e (fun p hp => (ha p hp).2.1) hp, ?_⟩
 have := fJ (bV i) e e.length hm.2.2
 rw [List.take_length] at this
 unfold bZ
 omega
theorem lx : Ev (fun k => f2 k l e) (cz l e) := by
 have ha := gE (l.length : Int) e none hg
 have hp := (l5 (l.length : Int) e none hg).1
 have h2 := pv (l := l) hm.2.2 ha (e.length - 0) 0 rfl (Nat.zero_le _)
 have e0 : (fun i => e.filterMap (bB i) ++ (e.take 0).filterMap (b9 i)) = fun i => e.filterMap (bB i) := funext fun i => by simp
 rw [e0] at h2
 have h1 := pw (l := l) hm.2.2 ha h2 (e.length - 0) 0 rfl (Nat.zero_le _)
 have e1 : (fun i => (e.take 0).filterMap (bB i)) = fun _ => [] := funext fun i => by simp
 rw [e1] at h1
 unfold f2
 refine Ev.pos (by omega) (Ev.pos (by have := hm.1; omega) ?_)
 rw [Int.toNat_natCast, kK]
 rw [show cz l e = bC l.length (fun i => e.filterMap (bB i) ++ e.filterMap (b9 i)) from hX fun i _ => (oz i e (fun p hp => (ha p hp).2.1) hp).symm]
 exact h1
end
theorem i9 (l : List (List Int)) (e : List bM) : (cz l e).length = l.length := d3 _ _
theorem oB (e : List bM) (i : Int) : (bZ e i).length ≤ e.length := List.length_filterMap_le _ _
end Go.Proofs.YtadjbmcfgjmhkaaGreat.P
