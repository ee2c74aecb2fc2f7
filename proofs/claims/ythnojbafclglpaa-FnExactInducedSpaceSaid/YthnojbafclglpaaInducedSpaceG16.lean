/- The law FnExactInducedSpace's own code is walked, each way out by itself, over the contracts of what it calls. -/
import Derived.Test.YthnojbafclglpaaInducedSpaceG5
import Derived.Test.YthnojbafclglpaaInducedSpaceG6
import Derived.Test.YthnojbafclglpaaInducedSpaceG10
import Derived.Test.YthnojbafclglpaaInducedSpaceG13
import Derived.Test.YthnojbafclglpaaInducedSpaceG14
import Derived.Test.YthnojbafclglpaaInducedSpaceG15
import Derived.ProofKit
import Derived.OpenShut
import Derived.Deep.Matrix
import Derived.Lib.SmallJoins
import Derived.Test.YthnojbafclglpaaInducedSpaceG11
import Derived.Test.YthnojbafclglpaaInducedSpaceG12
import Derived.Test.YthnojbafclglpaaInducedSpaceG8
namespace Go.Proofs.Ythnojbafclglpaa.P
open Go.RowKit Go.Proofs.YthnojbafclglpaaW.PrintWords Go.Proofs.YthnojbafclglpaaW.PrintLast Go.Proofs.YthnojbafclglpaaW.PrintMore
set_option linter.unusedVariables false
set_option linter.unusedSimpArgs false
set_option maxRecDepth 100000 in
set_option maxHeartbeats 4000000 in
theorem laws_FnExactInducedSpace.exit0 (A0_0 : Option Addr) (ca0_0 : Nat) (l0_0 : List (List Int)) (A0_1 : Option Addr) (ca0_1 : Nat) (l0_1 : List (S64)) (A1 : Option Addr) (ca1 : Nat) (l1 : List Int) (w : World) (hr0_0 : Kd.C (Kd.slice 3 (Kd.int .i64)) w A0_0 l0_0.length l0_0) (hc0_0 : l0_0.length ≤ ca0_0) (hr0_1 : Kd.C k64 w A0_1 l0_1.length l0_1) (hc0_1 : l0_1.length ≤ ca0_1) (hr1 : Kd.C (Kd.int .i64) w A1 l1.length l1) (hc1 : l1.length ≤ ca1) (c0 : 1048576 < (l1.length : Int)) :
    Calls Try.prog 3 #[.agg #[.slice A0_0 l0_0.length ca0_0, .slice A0_1 l0_1.length ca0_1], .slice A1 l1.length ca1] w fun e w' => e = .returned (.bool true) ∧ Below w.heap.size w w' := by
  have hu25 := Try.underlying25
  have hu28 := Try.underlying28
  have HR0_0 := zM hr0_0; clear hr0_0
  have HC0_0 := zM hc0_0; clear hc0_0
  have HR0_1 := zM hr0_1; clear hr0_1
  have HC0_1 := zM hc0_1; clear hc0_1
  have HR1 := zM hr1; clear hr1
  have HC1 := zM hc1; clear hc1
  have HB := zM (Below.refl w.heap.size w)
  have c0b : decide (1048576 < (l1.length : Int)) = true := decide_eq_true c0
  have c0c : decide (1048576 < l1.length) = true := decide_eq_true (by omega)
  clear c0
  go_enter Try.func3, Try.ntmps3
  go_wp2_with (first
    | ((with_reducible refine gate_dst (N := 2) rfl ?_); refine ze 2 #[.slice A0_0 l0_0.length ca0_0, .slice A0_1 l0_1.length ca0_1] 25 ?_; intro gb2 hg w1 hbox hb; have HG2 := zM hg; have HW2 := zM (show w.heap.size ≤ gb2 by rw [hg]; exact below_size HB.out); have HL2 := zM (blk_lt hbox); clear hg; have HS1 := zM hb.size; replace HB := zM (below_step HB.out hb); have BK2 := zM hbox; clear hbox hb; have hc2_0 := zy BK2 0; have hf2_0 := blk_frozen BK2.out 0; have hc2_1 := zy BK2 1; have hf2_1 := blk_frozen BK2.out 1))
  go_ret
  exact ⟨rfl, HB.out⟩
set_option maxRecDepth 100000 in
set_option maxHeartbeats 4000000 in
theorem laws_FnExactInducedSpace.exit1 (A0_0 : Option Addr) (ca0_0 : Nat) (l0_0 : List (List Int)) (A0_1 : Option Addr) (ca0_1 : Nat) (l0_1 : List (S64)) (A1 : Option Addr) (ca1 : Nat) (l1 : List Int) (k0 : Nat) (t0 : Int) (w : World) (hr0_0 : Kd.C (Kd.slice 3 (Kd.int .i64)) w A0_0 l0_0.length l0_0) (hc0_0 : l0_0.length ≤ ca0_0) (hr0_1 : Kd.C k64 w A0_1 l0_1.length l0_1) (hc0_1 : l0_1.length ≤ ca0_1) (hr1 : Kd.C (Kd.int .i64) w A1 l1.length l1) (hc1 : l1.length ≤ ca1) (c0 : ¬ (1048576 < (l1.length : Int))) (c1 : t0 < 0) (h0 : laws_szSpace.f k0 l0_0 l0_1 1048576 = some t0) :
    Calls Try.prog 3 #[.agg #[.slice A0_0 l0_0.length ca0_0, .slice A0_1 l0_1.length ca0_1], .slice A1 l1.length ca1] w fun e w' => e = .returned (.bool true) ∧ Below w.heap.size w w' := by
  have hu25 := Try.underlying25
  have hu28 := Try.underlying28
  have HR0_0 := zM hr0_0; clear hr0_0
  have HC0_0 := zM hc0_0; clear hc0_0
  have HR0_1 := zM hr0_1; clear hr0_1
  have HC0_1 := zM hc0_1; clear hc0_1
  have HR1 := zM hr1; clear hr1
  have HC1 := zM hc1; clear hc1
  have HB := zM (Below.refl w.heap.size w)
  have H0 := zM h0; clear h0
  have c0b : decide (1048576 < (l1.length : Int)) = false := decide_eq_false c0
  have c0c : decide (1048576 < l1.length) = false := decide_eq_false (by omega)
  clear c0
  have c1b : decide (t0 < 0) = true := decide_eq_true c1
  clear c1
  go_enter Try.func3, Try.ntmps3
  go_wp2_with (first
    | ((with_reducible refine gate_dst (N := 2) rfl ?_); refine ze 2 #[.slice A0_0 l0_0.length ca0_0, .slice A0_1 l0_1.length ca0_1] 25 ?_; intro gb2 hg w1 hbox hb; have HG2 := zM hg; have HW2 := zM (show w.heap.size ≤ gb2 by rw [hg]; exact below_size HB.out); have HL2 := zM (blk_lt hbox); clear hg; have HS1 := zM hb.size; replace HB := zM (below_step HB.out hb); have BK2 := zM hbox; clear hbox hb; have hc2_0 := zy BK2 0; have hf2_0 := blk_frozen BK2.out 0; have hc2_1 := zy BK2 1; have hf2_1 := blk_frozen BK2.out 1)
    | (have hst_ : Aside0 (Below w.heap.size w w1) := HB; clear hst_; go_at_call 12; refine (laws_szSpace.calls k0 _ _ l0_0 _ _ l0_1 1048576 t0 _ ?side1 ?side2 ?side3 ?side4 H0.out).mono ?_; (case side1 => exact zC (Kd.C_below HR0_0.out HB.out)); (case side2 => exact HC0_0.out); (case side3 => exact zC (Kd.C_below HR0_1.out HB.out)); (case side4 => exact HC0_1.out); rintro e w2 ⟨rfl, hb⟩; replace BK2 := uKb BK2 hb; have HS2 := zM hb.size; replace HB := zM (below_step HB.out hb); clear hb; replace hc2_0 := zy BK2 0; replace hf2_0 := blk_frozen BK2.out 0; replace hc2_1 := zy BK2 1; replace hf2_1 := blk_frozen BK2.out 1))
  go_ret
  exact ⟨rfl, HB.out⟩
set_option maxRecDepth 100000 in
set_option maxHeartbeats 4000000 in
theorem laws_FnExactInducedSpace.walk (A0_0 : Option Addr) (ca0_0 : Nat) (l0_0 : List (List Int)) (A0_1 : Option Addr) (ca0_1 : Nat) (l0_1 : List (S64)) (A1 : Option Addr) (ca1 : Nat) (l1 : List Int) (k0 k1 k2 k3 k4 k5 k6 k7 k9 k11 : Nat) (t0 : Int) (q0 : List (List Int)) (q1 : List (S64)) (q2 : Bool) (kk0 : Int) (mk0_0 : List (List Int)) (mk0_1 : List (S64)) (kk1 : Int) (mk1_0 : List Int) (kk2 : Int) (mk2_0 : List (List Int)) (mk2_1 : List (S64)) (w : World) (hr0_0 : Kd.C (Kd.slice 3 (Kd.int .i64)) w A0_0 l0_0.length l0_0) (hc0_0 : l0_0.length ≤ ca0_0) (hr0_1 : Kd.C k64 w A0_1 l0_1.length l0_1) (hc0_1 : l0_1.length ≤ ca0_1) (hr1 : Kd.C (Kd.int .i64) w A1 l1.length l1) (hc1 : l1.length ≤ ca1) (c0 : ¬ (1048576 < (l1.length : Int))) (c1 : ¬ (t0 < 0)) (h0 : laws_szSpace.f k0 l0_0 l0_1 1048576 = some t0) (h1 : laws_toSpace.f k1 l0_0 l0_1 = some (l0_0, l0_1)) (h2 : laws_toIntS.f k2 l1 = some l1) (h3 : spec_InducedSpace.f k3 l0_0 l0_1 l1 = some (q0, q1, q2)) (h4 : impl_InducedSpace.f k4 l0_0 l0_1 l1 = some (q0, q1, q2)) (h5 : laws_eqSpace.f k5 q0 q1 q0 q1 = some true) (h6 : laws_eqSpace.f k6 l0_0 l0_1 l0_0 l0_1 = some true) (h7 : laws_eqIntS.f k7 l1 l1 = some true) (h8 : laws_markSpace.f l0_0 l0_1 1 = some (kk0, mk0_0, mk0_1)) (h9 : laws_markIntS.f k9 l1 kk0 = some (kk1, mk1_0)) (h10 : laws_markSpace.f q0 q1 1 = some (kk2, mk2_0, mk2_1)) (h11 : laws_heldSpace.f k11 mk2_0 mk2_1 1 = some kk2) (nkk1 : ¬ (kk1 < 0)) (nkk2 : ¬ (kk2 < 0)) :
    Calls Try.prog 3 #[.agg #[.slice A0_0 l0_0.length ca0_0, .slice A0_1 l0_1.length ca0_1], .slice A1 l1.length ca1] w fun e w' => e = .returned (.bool true) ∧ Below w.heap.size w w' := by
  have hu25 := Try.underlying25
  have hu28 := Try.underlying28
  have HR0_0 := zM hr0_0; clear hr0_0
  have HC0_0 := zM hc0_0; clear hc0_0
  have HR0_1 := zM hr0_1; clear hr0_1
  have HC0_1 := zM hc0_1; clear hc0_1
  have HR1 := zM hr1; clear hr1
  have HC1 := zM hc1; clear hc1
  have HB := zM (Below.refl w.heap.size w)
  have H0 := zM h0; clear h0
  have H1 := zM h1; clear h1
  have H2 := zM h2; clear h2
  have H3 := zM h3; clear h3
  have H4 := zM h4; clear h4
  have H5 := zM h5; clear h5
  have H6 := zM h6; clear h6
  have H7 := zM h7; clear h7
  have H8 := zM h8; clear h8
  have H9 := zM h9; clear h9
  have H10 := zM h10; clear h10
  have H11 := zM h11; clear h11
  have c0b : decide (1048576 < (l1.length : Int)) = false := decide_eq_false c0
  have c0c : decide (1048576 < l1.length) = false := decide_eq_false (by omega)
  clear c0
  have c1b : decide (t0 < 0) = false := decide_eq_false c1
  clear c1
  have nkk1b : decide (kk1 < 0) = false := decide_eq_false nkk1
  clear nkk1
  have nkk2b : decide (kk2 < 0) = false := decide_eq_false nkk2
  clear nkk2
  go_enter Try.func3, Try.ntmps3
  go_upto_region 13 with (first
    | ((with_reducible refine gate_dst (N := 2) rfl ?_); refine ze 2 #[.slice A0_0 l0_0.length ca0_0, .slice A0_1 l0_1.length ca0_1] 25 ?_; intro gb2 hg w1 hbox hb; have HG2 := zM hg; have HW2 := zM (show w.heap.size ≤ gb2 by rw [hg]; exact below_size HB.out); have HL2 := zM (blk_lt hbox); clear hg; have HS1 := zM hb.size; replace HB := zM (below_step HB.out hb); have BK2 := zM hbox; clear hbox hb; have hc2_0 := zy BK2 0; have hf2_0 := blk_frozen BK2.out 0; have hc2_1 := zy BK2 1; have hf2_1 := blk_frozen BK2.out 1)
    | (have hst_ : Aside0 (Below w.heap.size w w1) := HB; clear hst_; go_at_call 12; refine (laws_szSpace.calls k0 _ _ l0_0 _ _ l0_1 1048576 t0 _ ?side1 ?side2 ?side3 ?side4 H0.out).mono ?_; (case side1 => exact zC (Kd.C_below HR0_0.out HB.out)); (case side2 => exact HC0_0.out); (case side3 => exact zC (Kd.C_below HR0_1.out HB.out)); (case side4 => exact HC0_1.out); rintro e w2 ⟨rfl, hb⟩; replace BK2 := uKb BK2 hb; have HS2 := zM hb.size; replace HB := zM (below_step HB.out hb); clear hb; replace hc2_0 := zy BK2 0; replace hf2_0 := blk_frozen BK2.out 0; replace hc2_1 := zy BK2 1; replace hf2_1 := blk_frozen BK2.out 1)
    | (have hst_ : Aside0 (Below w.heap.size w w2) := HB; clear hst_; go_at_call 14; refine (laws_toSpace.calls k1 _ _ l0_0 _ _ l0_1 l0_0 l0_1 _ ?side1 ?side2 ?side3 ?side4 H1.out).mono ?_; (case side1 => exact zC (Kd.C_below HR0_0.out HB.out)); (case side2 => exact HC0_0.out); (case side3 => exact zC (Kd.C_below HR0_1.out HB.out)); (case side4 => exact HC0_1.out); rintro e w3 ⟨v0_0, v0_1, rfl, ho0, ho1, hb⟩; replace BK2 := uKb BK2 hb; have HS3 := zM hb.size; have HO0_0 := uS HB.out ho0; clear ho0; obtain ⟨Ao0_0, co0_0, eo0_0⟩ := Kd.S_slice HO0_0.out; subst eo0_0; have HO0_1 := uR HB.out ho1; clear ho1; obtain ⟨Ao0_1, co0_1, eo0_1⟩ := Kd.R_slice HO0_1.out; subst eo0_1; replace HB := zM (below_step HB.out hb); clear hb; replace hc2_0 := zy BK2 0; replace hf2_0 := blk_frozen BK2.out 0; replace hc2_1 := zy BK2 1; replace hf2_1 := blk_frozen BK2.out 1)
    | (have hst_ : Aside0 (Below w.heap.size w w3) := HB; clear hst_; go_at_call 15; refine (laws_toIntS.calls k2 _ _ l1 l1 _ ?side1 ?side2 H2.out).mono ?_; (case side1 => exact zC (Kd.C_below HR1.out HB.out)); (case side2 => exact HC1.out); rintro e w4 ⟨v1_0, rfl, ho0, hb⟩; replace HO0_0 := uSb HO0_0 hb; replace HO0_1 := uRb HO0_1 hb; replace BK2 := uKb BK2 hb; have HS4 := zM hb.size; have HO1_0 := uR HB.out ho0; clear ho0; obtain ⟨Ao1_0, co1_0, eo1_0⟩ := Kd.R_slice HO1_0.out; subst eo1_0; replace HB := zM (below_step HB.out hb); clear hb; replace hc2_0 := zy BK2 0; replace hf2_0 := blk_frozen BK2.out 0; replace hc2_1 := zy BK2 1; replace hf2_1 := blk_frozen BK2.out 1)
    | (have hst_ : Aside0 (Below w.heap.size w w4) := HB; clear hst_; go_at_call 13; refine (spec_InducedSpace.calls k3 _ _ l0_0 _ _ l0_1 _ _ l1 q0 q1 q2 _ ?side1 ?side2 ?side3 ?side4 ?side5 ?side6 H3.out).mono ?_; (case side1 => exact zC (Kd.S_reads' HO0_0.out).2.2); (case side2 => exact (Kd.S_reads' HO0_0.out).2.1); (case side3 => exact zC (Kd.R_reads' HO0_1.out).2.2); (case side4 => exact (Kd.R_reads' HO0_1.out).2.1); (case side5 => exact zC (Kd.R_reads' HO1_0.out).2.2); (case side6 => exact (Kd.R_reads' HO1_0.out).2.1); clear HO0_0 HO0_1; clear HO1_0; rintro e w5 ⟨v2_0, v2_1, rfl, ho0, ho1, hb⟩; replace BK2 := uKb BK2 hb; have HS5 := zM hb.size; have HO2_0 := uS HB.out ho0; clear ho0; obtain ⟨Ao2_0, co2_0, eo2_0⟩ := Kd.S_slice HO2_0.out; subst eo2_0; have HO2_1 := uR HB.out ho1; clear ho1; obtain ⟨Ao2_1, co2_1, eo2_1⟩ := Kd.R_slice HO2_1.out; subst eo2_1; replace HB := zM (below_step HB.out hb); clear hb; replace hc2_0 := zy BK2 0; replace hf2_0 := blk_frozen BK2.out 0; replace hc2_1 := zy BK2 1; replace hf2_1 := blk_frozen BK2.out 1)
    | ((with_reducible refine gate_dst (N := 6) rfl ?_); refine ze 6 #[.slice none 0 0, .slice none 0 0] 28 ?_; intro gb6 hg w6 hbox hb; have HG6 := zM hg; have HW6 := zM (show w.heap.size ≤ gb6 by rw [hg]; exact below_size HB.out); have HL6 := zM (blk_lt hbox); clear hg; replace HO2_0 := uSb HO2_0 hb; replace HO2_1 := uRb HO2_1 hb; replace BK2 := uKb BK2 hb; have HS6 := zM hb.size; replace HB := zM (below_step HB.out hb); have hn2_6 : gb2 ≠ gb6 := (by have := HG6.out; have := HL2.out; have := HS2.out; have := HS3.out; have := HS4.out; have := HS5.out; omega); have hn6_2 := hn2_6.symm; have BK6 := zM hbox; clear hbox hb; replace hc2_0 := zy BK2 0; replace hf2_0 := blk_frozen BK2.out 0; replace hc2_1 := zy BK2 1; replace hf2_1 := blk_frozen BK2.out 1; have hc6_0 := zy BK6 0; have hf6_0 := blk_frozen BK6.out 0; have hc6_1 := zy BK6 1; have hf6_1 := blk_frozen BK6.out 1)
    | (have hst_ : Aside0 (Below w.heap.size w w6) := HB; clear hst_; go_at_call 14; refine uBox BK6 HB HW6.out ?_; intro w7 BKn hk HBn; replace HO2_0 := uSk HO2_0 hk (fun k_ hk_ e_ => by have e2 : k_ = gb6 := e_; have := HG6.out; have := HL6.out; have h2 : w4.heap.size ≤ k_ ∧ k_ < w5.heap.size := hk_; omega); replace HO2_1 := uRk HO2_1 hk (fun k_ hk_ e_ => by have e2 : k_ = gb6 := e_; have := HG6.out; have := HL6.out; have h2 : w4.heap.size ≤ k_ ∧ k_ < w5.heap.size := hk_; omega); replace BK2 := uKk BK2 hk (fun e_ => by have e2 : gb2 = gb6 := e_; have := HG6.out; have := HL6.out; have := HG2.out; have := HL2.out; have := HS2.out; have := HS3.out; have := HS4.out; have := HS5.out; omega); replace BK6 := BKn; replace HB := HBn; clear BKn HBn; have HS7 := zM hk.1; clear hk; refine (laws_toSpace.calls k1 _ _ l0_0 _ _ l0_1 l0_0 l0_1 _ ?side1 ?side2 ?side3 ?side4 H1.out).mono ?_; (case side1 => exact zC (Kd.C_below HR0_0.out HB.out)); (case side2 => exact HC0_0.out); (case side3 => exact zC (Kd.C_below HR0_1.out HB.out)); (case side4 => exact HC0_1.out); rintro e w8 ⟨v3_0, v3_1, rfl, ho0, ho1, hb⟩; replace HO2_0 := uSb HO2_0 hb; replace HO2_1 := uRb HO2_1 hb; replace BK2 := uKb BK2 hb; replace BK6 := uKb BK6 hb; have HS8 := zM hb.size; have HO3_0 := uS HB.out ho0; clear ho0; obtain ⟨Ao3_0, co3_0, eo3_0⟩ := Kd.S_slice HO3_0.out; subst eo3_0; have HO3_1 := uR HB.out ho1; clear ho1; obtain ⟨Ao3_1, co3_1, eo3_1⟩ := Kd.R_slice HO3_1.out; subst eo3_1; replace HB := zM (below_step HB.out hb); clear hb; replace hc2_0 := zy BK2 0; replace hf2_0 := blk_frozen BK2.out 0; replace hc2_1 := zy BK2 1; replace hf2_1 := blk_frozen BK2.out 1; replace hc6_0 := zy BK6 0; replace hf6_0 := blk_frozen BK6.out 0; replace hc6_1 := zy BK6 1; replace hf6_1 := blk_frozen BK6.out 1)
    | ((with_reducible refine gate_dst (N := 8) rfl ?_); refine ze 8 #[.slice none 0 0, .slice none 0 0] 28 ?_; intro gb8 hg w9 hbox hb; have HG8 := zM hg; have HW8 := zM (show w.heap.size ≤ gb8 by rw [hg]; exact below_size HB.out); have HL8 := zM (blk_lt hbox); clear hg; replace HO2_0 := uSb HO2_0 hb; replace HO2_1 := uRb HO2_1 hb; replace HO3_0 := uSb HO3_0 hb; replace HO3_1 := uRb HO3_1 hb; replace BK2 := uKb BK2 hb; replace BK6 := uKb BK6 hb; have HS9 := zM hb.size; replace HB := zM (below_step HB.out hb); have hn2_8 : gb2 ≠ gb8 := (by have := HG8.out; have := HL2.out; have := HS2.out; have := HS3.out; have := HS4.out; have := HS5.out; have := HS6.out; have := HS7.out; have := HS8.out; omega); have hn8_2 := hn2_8.symm; have hn6_8 : gb6 ≠ gb8 := (by have := HG8.out; have := HL6.out; have := HS7.out; have := HS8.out; omega); have hn8_6 := hn6_8.symm; have BK8 := zM hbox; clear hbox hb; replace hc2_0 := zy BK2 0; replace hf2_0 := blk_frozen BK2.out 0; replace hc2_1 := zy BK2 1; replace hf2_1 := blk_frozen BK2.out 1; replace hc6_0 := zy BK6 0; replace hf6_0 := blk_frozen BK6.out 0; replace hc6_1 := zy BK6 1; replace hf6_1 := blk_frozen BK6.out 1; have hc8_0 := zy BK8 0; have hf8_0 := blk_frozen BK8.out 0; have hc8_1 := zy BK8 1; have hf8_1 := blk_frozen BK8.out 1)
    | (have hst_ : Aside0 (Below w.heap.size w w9) := HB; clear hst_; go_at_call 15; refine uBox BK8 HB HW8.out ?_; intro w10 BKn hk HBn; replace HO2_0 := uSk HO2_0 hk (fun k_ hk_ e_ => by have e2 : k_ = gb8 := e_; have := HG8.out; have := HL8.out; have h2 : w4.heap.size ≤ k_ ∧ k_ < w5.heap.size := hk_; have := HS6.out; have := HS7.out; have := HS8.out; omega); replace HO2_1 := uRk HO2_1 hk (fun k_ hk_ e_ => by have e2 : k_ = gb8 := e_; have := HG8.out; have := HL8.out; have h2 : w4.heap.size ≤ k_ ∧ k_ < w5.heap.size := hk_; have := HS6.out; have := HS7.out; have := HS8.out; omega); replace HO3_0 := uSk HO3_0 hk (fun k_ hk_ e_ => by have e2 : k_ = gb8 := e_; have := HG8.out; have := HL8.out; have h2 : w7.heap.size ≤ k_ ∧ k_ < w8.heap.size := hk_; omega); replace HO3_1 := uRk HO3_1 hk (fun k_ hk_ e_ => by have e2 : k_ = gb8 := e_; have := HG8.out; have := HL8.out; have h2 : w7.heap.size ≤ k_ ∧ k_ < w8.heap.size := hk_; omega); replace BK2 := uKk BK2 hk (fun e_ => by have e2 : gb2 = gb8 := e_; have := HG8.out; have := HL8.out; have := HG2.out; have := HL2.out; have := HS2.out; have := HS3.out; have := HS4.out; have := HS5.out; have := HS6.out; have := HS7.out; have := HS8.out; omega); replace BK6 := uKk BK6 hk (fun e_ => by have e2 : gb6 = gb8 := e_; have := HG8.out; have := HL8.out; have := HG6.out; have := HL6.out; have := HS7.out; have := HS8.out; omega); replace BK8 := BKn; replace HB := HBn; clear BKn HBn; have HS10 := zM hk.1; clear hk; refine (laws_toIntS.calls k2 _ _ l1 l1 _ ?side1 ?side2 H2.out).mono ?_; (case side1 => exact zC (Kd.C_below HR1.out HB.out)); (case side2 => exact HC1.out); rintro e w11 ⟨v4_0, rfl, ho0, hb⟩; replace HO2_0 := uSb HO2_0 hb; replace HO2_1 := uRb HO2_1 hb; replace HO3_0 := uSb HO3_0 hb; replace HO3_1 := uRb HO3_1 hb; replace BK2 := uKb BK2 hb; replace BK6 := uKb BK6 hb; replace BK8 := uKb BK8 hb; have HS11 := zM hb.size; have HO4_0 := uR HB.out ho0; clear ho0; obtain ⟨Ao4_0, co4_0, eo4_0⟩ := Kd.R_slice HO4_0.out; subst eo4_0; replace HB := zM (below_step HB.out hb); clear hb; replace hc2_0 := zy BK2 0; replace hf2_0 := blk_frozen BK2.out 0; replace hc2_1 := zy BK2 1; replace hf2_1 := blk_frozen BK2.out 1; replace hc6_0 := zy BK6 0; replace hf6_0 := blk_frozen BK6.out 0; replace hc6_1 := zy BK6 1; replace hf6_1 := blk_frozen BK6.out 1; replace hc8_0 := zy BK8 0; replace hf8_0 := blk_frozen BK8.out 0; replace hc8_1 := zy BK8 1; replace hf8_1 := blk_frozen BK8.out 1)
    | (have hst_ : Aside0 (Below w.heap.size w w11) := HB; clear hst_; go_at_call 16; refine (impl_InducedSpace.calls k4 _ _ l0_0 _ _ l0_1 _ _ l1 q0 q1 q2 _ ?side1 ?side2 ?side3 ?side4 ?side5 ?side6 H4.out).mono ?_; (case side1 => exact zC (Kd.S_reads' HO3_0.out).2.2); (case side2 => exact (Kd.S_reads' HO3_0.out).2.1); (case side3 => exact zC (Kd.R_reads' HO3_1.out).2.2); (case side4 => exact (Kd.R_reads' HO3_1.out).2.1); (case side5 => exact zC (Kd.R_reads' HO4_0.out).2.2); (case side6 => exact (Kd.R_reads' HO4_0.out).2.1); rintro e w12 ⟨v5_0, v5_1, rfl, ho0, ho1, hb⟩; replace HO2_0 := uSb HO2_0 hb; replace HO2_1 := uRb HO2_1 hb; replace HO3_0 := uSb HO3_0 hb; replace HO3_1 := uRb HO3_1 hb; replace HO4_0 := uRb HO4_0 hb; replace BK2 := uKb BK2 hb; replace BK6 := uKb BK6 hb; replace BK8 := uKb BK8 hb; have HS12 := zM hb.size; have HO5_0 := uS HB.out ho0; clear ho0; obtain ⟨Ao5_0, co5_0, eo5_0⟩ := Kd.S_slice HO5_0.out; subst eo5_0; have HO5_1 := uR HB.out ho1; clear ho1; obtain ⟨Ao5_1, co5_1, eo5_1⟩ := Kd.R_slice HO5_1.out; subst eo5_1; replace HB := zM (below_step HB.out hb); clear hb; replace hc2_0 := zy BK2 0; replace hf2_0 := blk_frozen BK2.out 0; replace hc2_1 := zy BK2 1; replace hf2_1 := blk_frozen BK2.out 1; replace hc6_0 := zy BK6 0; replace hf6_0 := blk_frozen BK6.out 0; replace hc6_1 := zy BK6 1; replace hf6_1 := blk_frozen BK6.out 1; replace hc8_0 := zy BK8 0; replace hf8_0 := blk_frozen BK8.out 0; replace hc8_1 := zy BK8 1; replace hf8_1 := blk_frozen BK8.out 1)
    | ((with_reducible refine gate_dst (N := 10) rfl ?_); refine ze 10 #[.slice none 0 0, .slice none 0 0] 28 ?_; intro gb10 hg w13 hbox hb; have HG10 := zM hg; have HW10 := zM (show w.heap.size ≤ gb10 by rw [hg]; exact below_size HB.out); have HL10 := zM (blk_lt hbox); clear hg; replace HO2_0 := uSb HO2_0 hb; replace HO2_1 := uRb HO2_1 hb; replace HO3_0 := uSb HO3_0 hb; replace HO3_1 := uRb HO3_1 hb; replace HO4_0 := uRb HO4_0 hb; replace HO5_0 := uSb HO5_0 hb; replace HO5_1 := uRb HO5_1 hb; replace BK2 := uKb BK2 hb; replace BK6 := uKb BK6 hb; replace BK8 := uKb BK8 hb; have HS13 := zM hb.size; replace HB := zM (below_step HB.out hb); have hn2_10 : gb2 ≠ gb10 := (by have := HG10.out; have := HL2.out; have := HS2.out; have := HS3.out; have := HS4.out; have := HS5.out; have := HS6.out; have := HS7.out; have := HS8.out; have := HS9.out; have := HS10.out; have := HS11.out; have := HS12.out; omega); have hn10_2 := hn2_10.symm; have hn6_10 : gb6 ≠ gb10 := (by have := HG10.out; have := HL6.out; have := HS7.out; have := HS8.out; have := HS9.out; have := HS10.out; have := HS11.out; have := HS12.out; omega); have hn10_6 := hn6_10.symm; have hn8_10 : gb8 ≠ gb10 := (by have := HG10.out; have := HL8.out; have := HS10.out; have := HS11.out; have := HS12.out; omega); have hn10_8 := hn8_10.symm; have BK10 := zM hbox; clear hbox hb; replace hc2_0 := zy BK2 0; replace hf2_0 := blk_frozen BK2.out 0; replace hc2_1 := zy BK2 1; replace hf2_1 := blk_frozen BK2.out 1; replace hc6_0 := zy BK6 0; replace hf6_0 := blk_frozen BK6.out 0; replace hc6_1 := zy BK6 1; replace hf6_1 := blk_frozen BK6.out 1; replace hc8_0 := zy BK8 0; replace hf8_0 := blk_frozen BK8.out 0; replace hc8_1 := zy BK8 1; replace hf8_1 := blk_frozen BK8.out 1; have hc10_0 := zy BK10 0; have hf10_0 := blk_frozen BK10.out 0; have hc10_1 := zy BK10 1; have hf10_1 := blk_frozen BK10.out 1)
    | (have hst_ : Aside0 (Below w.heap.size w w13) := HB; clear hst_; go_at_call 17; refine uBox BK10 HB HW10.out ?_; intro w14 BKn hk HBn; replace HO2_0 := uSk HO2_0 hk (fun k_ hk_ e_ => by have e2 : k_ = gb10 := e_; have := HG10.out; have := HL10.out; have h2 : w4.heap.size ≤ k_ ∧ k_ < w5.heap.size := hk_; have := HS6.out; have := HS7.out; have := HS8.out; have := HS9.out; have := HS10.out; have := HS11.out; have := HS12.out; omega); replace HO2_1 := uRk HO2_1 hk (fun k_ hk_ e_ => by have e2 : k_ = gb10 := e_; have := HG10.out; have := HL10.out; have h2 : w4.heap.size ≤ k_ ∧ k_ < w5.heap.size := hk_; have := HS6.out; have := HS7.out; have := HS8.out; have := HS9.out; have := HS10.out; have := HS11.out; have := HS12.out; omega); replace HO3_0 := uSk HO3_0 hk (fun k_ hk_ e_ => by have e2 : k_ = gb10 := e_; have := HG10.out; have := HL10.out; have h2 : w7.heap.size ≤ k_ ∧ k_ < w8.heap.size := hk_; have := HS9.out; have := HS10.out; have := HS11.out; have := HS12.out; omega); replace HO3_1 := uRk HO3_1 hk (fun k_ hk_ e_ => by have e2 : k_ = gb10 := e_; have := HG10.out; have := HL10.out; have h2 : w7.heap.size ≤ k_ ∧ k_ < w8.heap.size := hk_; have := HS9.out; have := HS10.out; have := HS11.out; have := HS12.out; omega); replace HO4_0 := uRk HO4_0 hk (fun k_ hk_ e_ => by have e2 : k_ = gb10 := e_; have := HG10.out; have := HL10.out; have h2 : w10.heap.size ≤ k_ ∧ k_ < w11.heap.size := hk_; have := HS12.out; omega); replace HO5_0 := uSk HO5_0 hk (fun k_ hk_ e_ => by have e2 : k_ = gb10 := e_; have := HG10.out; have := HL10.out; have h2 : w11.heap.size ≤ k_ ∧ k_ < w12.heap.size := hk_; omega); replace HO5_1 := uRk HO5_1 hk (fun k_ hk_ e_ => by have e2 : k_ = gb10 := e_; have := HG10.out; have := HL10.out; have h2 : w11.heap.size ≤ k_ ∧ k_ < w12.heap.size := hk_; omega); replace BK2 := uKk BK2 hk (fun e_ => by have e2 : gb2 = gb10 := e_; have := HG10.out; have := HL10.out; have := HG2.out; have := HL2.out; have := HS2.out; have := HS3.out; have := HS4.out; have := HS5.out; have := HS6.out; have := HS7.out; have := HS8.out; have := HS9.out; have := HS10.out; have := HS11.out; have := HS12.out; omega); replace BK6 := uKk BK6 hk (fun e_ => by have e2 : gb6 = gb10 := e_; have := HG10.out; have := HL10.out; have := HG6.out; have := HL6.out; have := HS7.out; have := HS8.out; have := HS9.out; have := HS10.out; have := HS11.out; have := HS12.out; omega); replace BK8 := uKk BK8 hk (fun e_ => by have e2 : gb8 = gb10 := e_; have := HG10.out; have := HL10.out; have := HG8.out; have := HL8.out; have := HS10.out; have := HS11.out; have := HS12.out; omega); replace BK10 := BKn; replace HB := HBn; clear BKn HBn; have HS14 := zM hk.1; clear hk; refine (laws_eqSpace.calls k5 _ _ q0 _ _ q1 _ _ q0 _ _ q1 true _ ?side1 ?side2 ?side3 ?side4 ?side5 ?side6 ?side7 ?side8 H5.out).mono ?_; (case side1 => exact zC (Kd.S_reads' HO5_0.out).2.2); (case side2 => exact (Kd.S_reads' HO5_0.out).2.1); (case side3 => exact zC (Kd.R_reads' HO5_1.out).2.2); (case side4 => exact (Kd.R_reads' HO5_1.out).2.1); (case side5 => exact zC (Kd.S_reads' HO2_0.out).2.2); (case side6 => exact (Kd.S_reads' HO2_0.out).2.1); (case side7 => exact zC (Kd.R_reads' HO2_1.out).2.2); (case side8 => exact (Kd.R_reads' HO2_1.out).2.1); rintro e w15 ⟨rfl, hb⟩; replace HO2_0 := uSb HO2_0 hb; replace HO2_1 := uRb HO2_1 hb; replace HO3_0 := uSb HO3_0 hb; replace HO3_1 := uRb HO3_1 hb; replace HO4_0 := uRb HO4_0 hb; replace HO5_0 := uSb HO5_0 hb; replace HO5_1 := uRb HO5_1 hb; replace BK2 := uKb BK2 hb; replace BK6 := uKb BK6 hb; replace BK8 := uKb BK8 hb; replace BK10 := uKb BK10 hb; have HS15 := zM hb.size; replace HB := zM (below_step HB.out hb); clear hb; replace hc2_0 := zy BK2 0; replace hf2_0 := blk_frozen BK2.out 0; replace hc2_1 := zy BK2 1; replace hf2_1 := blk_frozen BK2.out 1; replace hc6_0 := zy BK6 0; replace hf6_0 := blk_frozen BK6.out 0; replace hc6_1 := zy BK6 1; replace hf6_1 := blk_frozen BK6.out 1; replace hc8_0 := zy BK8 0; replace hf8_0 := blk_frozen BK8.out 0; replace hc8_1 := zy BK8 1; replace hf8_1 := blk_frozen BK8.out 1; replace hc10_0 := zy BK10 0; replace hf10_0 := blk_frozen BK10.out 0; replace hc10_1 := zy BK10 1; replace hf10_1 := blk_frozen BK10.out 1))
  (try simp only [Act.put, List.setIfInBounds_toArray, List.set_cons_zero, List.set_cons_succ])
  replace HO2_0 := zM (Kd.S_drew HO2_0.out)
  replace HO2_1 := zM (Kd.R_drew HO2_1.out)
  replace HO3_0 := zM (Kd.S_drew HO3_0.out)
  replace HO3_1 := zM (Kd.R_drew HO3_1.out)
  replace HO4_0 := zM (Kd.R_drew HO4_0.out)
  replace HO5_0 := zM (Kd.S_drew HO5_0.out)
  replace HO5_1 := zM (Kd.R_drew HO5_1.out)
  replace BK2 := zM (blk_drew BK2.out)
  replace BK6 := zM (blk_drew BK6.out)
  replace BK8 := zM (blk_drew BK8.out)
  replace BK10 := zM (blk_drew BK10.out)
  replace HB := zM (below_drew1 HB.out)
  refine zs (n := 5) (fun w' => w'.cell? ⟨gb8, 0, none⟩ = some (.slice Ao3_0 l0_0.length co3_0) ∧ w'.cell? ⟨gb8, 1, none⟩ = some (.slice Ao3_1 l0_1.length co3_1) ∧ w'.cell? ⟨gb2, 0, none⟩ = some (.slice A0_0 l0_0.length ca0_0) ∧ w'.cell? ⟨gb2, 1, none⟩ = some (.slice A0_1 l0_1.length ca0_1)) ⟨(blk_cell BK8.out 0).trans rfl, (blk_cell BK8.out 1).trans rfl, (blk_cell BK2.out 0).trans rfl, (blk_cell BK2.out 1).trans rfl⟩ (fun hHeld => ?_)
  have HS16 := zM (show w15.heap.size ≤ w15.drew.heap.size from Nat.le_refl _)
  generalize w15.drew = w16 at HO2_0 HO2_1 HO3_0 HO3_1 HO4_0 HO5_0 HO5_1 BK2 BK6 BK8 BK10 HB HS16 hHeld ⊢
  refine zl 0 52 hHeld ?_ (hy := by rintro w' ⟨s0, s1, s2, s3⟩; go_simp; with_reducible rfl)
  refine zl 1 53 hHeld ?_ (hy := by rintro w' ⟨s0, s1, s2, s3⟩; go_simp; with_reducible rfl)
  refine zh 2 54 Try.func14 #[.agg #[.slice A0_0 l0_0.length ca0_0, .slice A0_1 l0_1.length ca0_1]] (fun K hK => ?_)
  (refine (laws_toSpace.calls k1 _ _ l0_0 _ _ l0_1 l0_0 l0_1 _ ?side1 ?side2 ?side3 ?side4 H1.out).mono ?_; (case side1 => exact zC (Kd.C_below HR0_0.out HB.out)); (case side2 => exact HC0_0.out); (case side3 => exact zC (Kd.C_below HR0_1.out HB.out)); (case side4 => exact HC0_1.out); rintro e w17 ⟨v6_0, v6_1, rfl, ho0, ho1, hb⟩; replace HO2_0 := uSb HO2_0 hb; replace HO2_1 := uRb HO2_1 hb; replace HO3_0 := uSb HO3_0 hb; replace HO3_1 := uRb HO3_1 hb; replace HO4_0 := uRb HO4_0 hb; replace HO5_0 := uSb HO5_0 hb; replace HO5_1 := uRb HO5_1 hb; replace BK2 := uKb BK2 hb; replace BK6 := uKb BK6 hb; replace BK8 := uKb BK8 hb; replace BK10 := uKb BK10 hb; have HS17 := zM hb.size; have HO6_0 := uS HB.out ho0; clear ho0; obtain ⟨Ao6_0, co6_0, eo6_0⟩ := Kd.S_slice HO6_0.out; subst eo6_0; have HO6_1 := uR HB.out ho1; clear ho1; obtain ⟨Ao6_1, co6_1, eo6_1⟩ := Kd.R_slice HO6_1.out; subst eo6_1; replace HB := zM (below_step HB.out hb); clear hb)
  refine ⟨_, rfl, ?_⟩
  refine hK.out _ _ ⟨(blk_cell BK8.out 0).trans rfl, (blk_cell BK8.out 1).trans rfl, (blk_cell BK2.out 0).trans rfl, (blk_cell BK2.out 1).trans rfl⟩ (fun hHeld => ?_)
  clear hK K
  refine zn 54 ?_
  refine zh 3 55 Try.func17 #[.agg #[.slice Ao3_0 l0_0.length co3_0, .slice Ao3_1 l0_1.length co3_1], .agg #[.slice Ao6_0 l0_0.length co6_0, .slice Ao6_1 l0_1.length co6_1]] (fun K hK => ?_)
  (refine (laws_eqSpace.calls k6 _ _ l0_0 _ _ l0_1 _ _ l0_0 _ _ l0_1 true _ ?side1 ?side2 ?side3 ?side4 ?side5 ?side6 ?side7 ?side8 H6.out).mono ?_; (case side1 => exact zC (Kd.S_reads' HO3_0.out).2.2); (case side2 => exact (Kd.S_reads' HO3_0.out).2.1); (case side3 => exact zC (Kd.R_reads' HO3_1.out).2.2); (case side4 => exact (Kd.R_reads' HO3_1.out).2.1); (case side5 => exact zC (Kd.S_reads' HO6_0.out).2.2); (case side6 => exact (Kd.S_reads' HO6_0.out).2.1); (case side7 => exact zC (Kd.R_reads' HO6_1.out).2.2); (case side8 => exact (Kd.R_reads' HO6_1.out).2.1); clear HO6_0 HO6_1; rintro e w18 ⟨rfl, hb⟩; replace HO2_0 := uSb HO2_0 hb; replace HO2_1 := uRb HO2_1 hb; replace HO3_0 := uSb HO3_0 hb; replace HO3_1 := uRb HO3_1 hb; replace HO4_0 := uRb HO4_0 hb; replace HO5_0 := uSb HO5_0 hb; replace HO5_1 := uRb HO5_1 hb; replace BK2 := uKb BK2 hb; replace BK6 := uKb BK6 hb; replace BK8 := uKb BK8 hb; replace BK10 := uKb BK10 hb; have HS18 := zM hb.size; replace HB := zM (below_step HB.out hb); clear hb)
  refine ⟨_, rfl, ?_⟩
  refine hK.out _ _ ⟨(blk_cell BK8.out 0).trans rfl, (blk_cell BK8.out 1).trans rfl, (blk_cell BK2.out 0).trans rfl, (blk_cell BK2.out 1).trans rfl⟩ (fun hHeld => ?_)
  clear hK K
  refine zn 55 ?_
  refine zq 4 56 ?_
  refine zx ?_
  replace hc2_0 := zy BK2 0
  replace hf2_0 := blk_frozen BK2.out 0
  replace hc2_1 := zy BK2 1
  replace hf2_1 := blk_frozen BK2.out 1
  replace hc6_0 := zy BK6 0
  replace hf6_0 := blk_frozen BK6.out 0
  replace hc6_1 := zy BK6 1
  replace hf6_1 := blk_frozen BK6.out 1
  replace hc8_0 := zy BK8 0
  replace hf8_0 := blk_frozen BK8.out 0
  replace hc8_1 := zy BK8 1
  replace hf8_1 := blk_frozen BK8.out 1
  replace hc10_0 := zy BK10 0
  replace hf10_0 := blk_frozen BK10.out 0
  replace hc10_1 := zy BK10 1
  replace hf10_1 := blk_frozen BK10.out 1
  go_wp2_with (first
    | (have hst_ : Aside0 (Below w.heap.size w w18) := HB; clear hst_; go_at_call 15; refine (laws_toIntS.calls k2 _ _ l1 l1 _ ?side1 ?side2 H2.out).mono ?_; (case side1 => exact zC (Kd.C_below HR1.out HB.out)); (case side2 => exact HC1.out); rintro e w19 ⟨v7_0, rfl, ho0, hb⟩; replace HO2_0 := uSb HO2_0 hb; replace HO2_1 := uRb HO2_1 hb; replace HO3_0 := uSb HO3_0 hb; replace HO3_1 := uRb HO3_1 hb; replace HO4_0 := uRb HO4_0 hb; replace HO5_0 := uSb HO5_0 hb; replace HO5_1 := uRb HO5_1 hb; replace BK2 := uKb BK2 hb; replace BK6 := uKb BK6 hb; replace BK8 := uKb BK8 hb; replace BK10 := uKb BK10 hb; have HS19 := zM hb.size; have HO7_0 := uR HB.out ho0; clear ho0; obtain ⟨Ao7_0, co7_0, eo7_0⟩ := Kd.R_slice HO7_0.out; subst eo7_0; replace HB := zM (below_step HB.out hb); clear hb; replace hc2_0 := zy BK2 0; replace hf2_0 := blk_frozen BK2.out 0; replace hc2_1 := zy BK2 1; replace hf2_1 := blk_frozen BK2.out 1; replace hc6_0 := zy BK6 0; replace hf6_0 := blk_frozen BK6.out 0; replace hc6_1 := zy BK6 1; replace hf6_1 := blk_frozen BK6.out 1; replace hc8_0 := zy BK8 0; replace hf8_0 := blk_frozen BK8.out 0; replace hc8_1 := zy BK8 1; replace hf8_1 := blk_frozen BK8.out 1; replace hc10_0 := zy BK10 0; replace hf10_0 := blk_frozen BK10.out 0; replace hc10_1 := zy BK10 1; replace hf10_1 := blk_frozen BK10.out 1)
    | (have hst_ : Aside0 (Below w.heap.size w w19) := HB; clear hst_; go_at_call 18; refine (laws_eqIntS.calls k7 _ _ l1 _ _ l1 true _ ?side1 ?side2 ?side3 ?side4 H7.out).mono ?_; (case side1 => exact zC (Kd.R_reads' HO4_0.out).2.2); (case side2 => exact (Kd.R_reads' HO4_0.out).2.1); (case side3 => exact zC (Kd.R_reads' HO7_0.out).2.2); (case side4 => exact (Kd.R_reads' HO7_0.out).2.1); clear HO7_0; rintro e w20 ⟨rfl, hb0⟩; have hb := hb0.below; clear hb0; replace HO2_0 := uSb HO2_0 hb; replace HO2_1 := uRb HO2_1 hb; replace HO3_0 := uSb HO3_0 hb; replace HO3_1 := uRb HO3_1 hb; replace HO4_0 := uRb HO4_0 hb; replace HO5_0 := uSb HO5_0 hb; replace HO5_1 := uRb HO5_1 hb; replace BK2 := uKb BK2 hb; replace BK6 := uKb BK6 hb; replace BK8 := uKb BK8 hb; replace BK10 := uKb BK10 hb; have HS20 := zM hb.size; replace HB := zM (below_step HB.out hb); clear hb; replace hc2_0 := zy BK2 0; replace hf2_0 := blk_frozen BK2.out 0; replace hc2_1 := zy BK2 1; replace hf2_1 := blk_frozen BK2.out 1; replace hc6_0 := zy BK6 0; replace hf6_0 := blk_frozen BK6.out 0; replace hc6_1 := zy BK6 1; replace hf6_1 := blk_frozen BK6.out 1; replace hc8_0 := zy BK8 0; replace hf8_0 := blk_frozen BK8.out 0; replace hc8_1 := zy BK8 1; replace hf8_1 := blk_frozen BK8.out 1; replace hc10_0 := zy BK10 0; replace hf10_0 := blk_frozen BK10.out 0; replace hc10_1 := zy BK10 1; replace hf10_1 := blk_frozen BK10.out 1)
    | (have hst_ : Aside0 (Below w.heap.size w w20) := HB; clear hst_; go_at_call 19; refine (laws_markSpace.callsf _ _ _ _ l0_0 l0_1 1 kk0 mk0_0 mk0_1 w w20 HB.out HO3_0.out HO3_1.out H8.out).mono ?_; clear HO3_0 HO3_1; clear BK8 hc8_0 hf8_0 hc8_1 hf8_1; rintro e w21 ⟨rfl, hy0, hy1, hb2, hk⟩; replace HO2_0 := uSk HO2_0 hk (fun k_ hk_ e_ => by have e2 : w7.heap.size ≤ k_ ∧ k_ < w8.heap.size := e_.elim id id; have h2 : w4.heap.size ≤ k_ ∧ k_ < w5.heap.size := hk_; have := HS6.out; have := HS7.out; omega); replace HO2_1 := uRk HO2_1 hk (fun k_ hk_ e_ => by have e2 : w7.heap.size ≤ k_ ∧ k_ < w8.heap.size := e_.elim id id; have h2 : w4.heap.size ≤ k_ ∧ k_ < w5.heap.size := hk_; have := HS6.out; have := HS7.out; omega); replace HO4_0 := uRk HO4_0 hk (fun k_ hk_ e_ => by have e2 : w7.heap.size ≤ k_ ∧ k_ < w8.heap.size := e_.elim id id; have h2 : w10.heap.size ≤ k_ ∧ k_ < w11.heap.size := hk_; have := HS9.out; have := HS10.out; omega); replace HO5_0 := uSk HO5_0 hk (fun k_ hk_ e_ => by have e2 : w7.heap.size ≤ k_ ∧ k_ < w8.heap.size := e_.elim id id; have h2 : w11.heap.size ≤ k_ ∧ k_ < w12.heap.size := hk_; have := HS9.out; have := HS10.out; have := HS11.out; omega); replace HO5_1 := uRk HO5_1 hk (fun k_ hk_ e_ => by have e2 : w7.heap.size ≤ k_ ∧ k_ < w8.heap.size := e_.elim id id; have h2 : w11.heap.size ≤ k_ ∧ k_ < w12.heap.size := hk_; have := HS9.out; have := HS10.out; have := HS11.out; omega); replace BK2 := uKk BK2 hk (fun e_ => by have e2 : w7.heap.size ≤ gb2 ∧ gb2 < w8.heap.size := e_.elim id id; have := HG2.out; have := HL2.out; have := HS2.out; have := HS3.out; have := HS4.out; have := HS5.out; have := HS6.out; have := HS7.out; omega); replace BK6 := uKk BK6 hk (fun e_ => by have e2 : w7.heap.size ≤ gb6 ∧ gb6 < w8.heap.size := e_.elim id id; have := HG6.out; have := HL6.out; have := HS7.out; omega); replace BK10 := uKk BK10 hk (fun e_ => by have e2 : w7.heap.size ≤ gb10 ∧ gb10 < w8.heap.size := e_.elim id id; have := HG10.out; have := HL10.out; have := HS9.out; have := HS10.out; have := HS11.out; have := HS12.out; omega); clear hy0; clear hy1; have HS21 := zM hk.1; replace HB := zM hb2; clear hb2 hk; replace hc2_0 := zy BK2 0; replace hf2_0 := blk_frozen BK2.out 0; replace hc2_1 := zy BK2 1; replace hf2_1 := blk_frozen BK2.out 1; replace hc6_0 := zy BK6 0; replace hf6_0 := blk_frozen BK6.out 0; replace hc6_1 := zy BK6 1; replace hf6_1 := blk_frozen BK6.out 1; replace hc10_0 := zy BK10 0; replace hf10_0 := blk_frozen BK10.out 0; replace hc10_1 := zy BK10 1; replace hf10_1 := blk_frozen BK10.out 1)
    | (have hst_ : Aside0 (Below w.heap.size w w21) := HB; clear hst_; go_at_call 20; refine (laws_markIntS.calls k9 _ _ l1 kk0 kk1 mk1_0 w w21 HB.out HO4_0.out H9.out).mono ?_; clear HO4_0; rintro e w22 ⟨rfl, hy0, hb2, hk⟩; replace HO2_0 := uSk HO2_0 hk (fun k_ hk_ e_ => by have e2 : w10.heap.size ≤ k_ ∧ k_ < w11.heap.size := e_; have h2 : w4.heap.size ≤ k_ ∧ k_ < w5.heap.size := hk_; have := HS6.out; have := HS7.out; have := HS8.out; have := HS9.out; have := HS10.out; omega); replace HO2_1 := uRk HO2_1 hk (fun k_ hk_ e_ => by have e2 : w10.heap.size ≤ k_ ∧ k_ < w11.heap.size := e_; have h2 : w4.heap.size ≤ k_ ∧ k_ < w5.heap.size := hk_; have := HS6.out; have := HS7.out; have := HS8.out; have := HS9.out; have := HS10.out; omega); replace HO5_0 := uSk HO5_0 hk (fun k_ hk_ e_ => by have e2 : w10.heap.size ≤ k_ ∧ k_ < w11.heap.size := e_; have h2 : w11.heap.size ≤ k_ ∧ k_ < w12.heap.size := hk_; omega); replace HO5_1 := uRk HO5_1 hk (fun k_ hk_ e_ => by have e2 : w10.heap.size ≤ k_ ∧ k_ < w11.heap.size := e_; have h2 : w11.heap.size ≤ k_ ∧ k_ < w12.heap.size := hk_; omega); replace BK2 := uKk BK2 hk (fun e_ => by have e2 : w10.heap.size ≤ gb2 ∧ gb2 < w11.heap.size := e_; have := HG2.out; have := HL2.out; have := HS2.out; have := HS3.out; have := HS4.out; have := HS5.out; have := HS6.out; have := HS7.out; have := HS8.out; have := HS9.out; have := HS10.out; omega); replace BK6 := uKk BK6 hk (fun e_ => by have e2 : w10.heap.size ≤ gb6 ∧ gb6 < w11.heap.size := e_; have := HG6.out; have := HL6.out; have := HS7.out; have := HS8.out; have := HS9.out; have := HS10.out; omega); replace BK10 := uKk BK10 hk (fun e_ => by have e2 : w10.heap.size ≤ gb10 ∧ gb10 < w11.heap.size := e_; have := HG10.out; have := HL10.out; have := HS12.out; omega); clear hy0; have HS22 := zM hk.1; replace HB := zM hb2; clear hb2 hk; replace hc2_0 := zy BK2 0; replace hf2_0 := blk_frozen BK2.out 0; replace hc2_1 := zy BK2 1; replace hf2_1 := blk_frozen BK2.out 1; replace hc6_0 := zy BK6 0; replace hf6_0 := blk_frozen BK6.out 0; replace hc6_1 := zy BK6 1; replace hf6_1 := blk_frozen BK6.out 1; replace hc10_0 := zy BK10 0; replace hf10_0 := blk_frozen BK10.out 0; replace hc10_1 := zy BK10 1; replace hf10_1 := blk_frozen BK10.out 1)
    | (have hst_ : Aside0 (Below w.heap.size w w22) := HB; clear hst_; go_at_call 17; refine (laws_eqSpace.calls k5 _ _ q0 _ _ q1 _ _ q0 _ _ q1 true _ ?side1 ?side2 ?side3 ?side4 ?side5 ?side6 ?side7 ?side8 H5.out).mono ?_; (case side1 => exact zC (Kd.S_reads' HO5_0.out).2.2); (case side2 => exact (Kd.S_reads' HO5_0.out).2.1); (case side3 => exact zC (Kd.R_reads' HO5_1.out).2.2); (case side4 => exact (Kd.R_reads' HO5_1.out).2.1); (case side5 => exact zC (Kd.S_reads' HO2_0.out).2.2); (case side6 => exact (Kd.S_reads' HO2_0.out).2.1); (case side7 => exact zC (Kd.R_reads' HO2_1.out).2.2); (case side8 => exact (Kd.R_reads' HO2_1.out).2.1); rintro e w23 ⟨rfl, hb⟩; replace HO2_0 := uSb HO2_0 hb; replace HO2_1 := uRb HO2_1 hb; replace HO5_0 := uSb HO5_0 hb; replace HO5_1 := uRb HO5_1 hb; replace BK2 := uKb BK2 hb; replace BK6 := uKb BK6 hb; replace BK10 := uKb BK10 hb; have HS23 := zM hb.size; replace HB := zM (below_step HB.out hb); clear hb; replace hc2_0 := zy BK2 0; replace hf2_0 := blk_frozen BK2.out 0; replace hc2_1 := zy BK2 1; replace hf2_1 := blk_frozen BK2.out 1; replace hc6_0 := zy BK6 0; replace hf6_0 := blk_frozen BK6.out 0; replace hc6_1 := zy BK6 1; replace hf6_1 := blk_frozen BK6.out 1; replace hc10_0 := zy BK10 0; replace hf10_0 := blk_frozen BK10.out 0; replace hc10_1 := zy BK10 1; replace hf10_1 := blk_frozen BK10.out 1)
    | (have hst_ : Aside0 (Below w.heap.size w w23) := HB; clear hst_; go_at_call 19; refine (laws_markSpace.callsf _ _ _ _ q0 q1 1 kk2 mk2_0 mk2_1 w w23 HB.out HO5_0.out HO5_1.out H10.out).mono ?_; rintro e w24 ⟨rfl, hy0, hy1, hb2, hk⟩; replace HO2_0 := uSk HO2_0 hk (fun k_ hk_ e_ => by have e2 : w11.heap.size ≤ k_ ∧ k_ < w12.heap.size := e_.elim id id; have h2 : w4.heap.size ≤ k_ ∧ k_ < w5.heap.size := hk_; have := HS6.out; have := HS7.out; have := HS8.out; have := HS9.out; have := HS10.out; have := HS11.out; omega); replace HO2_1 := uRk HO2_1 hk (fun k_ hk_ e_ => by have e2 : w11.heap.size ≤ k_ ∧ k_ < w12.heap.size := e_.elim id id; have h2 : w4.heap.size ≤ k_ ∧ k_ < w5.heap.size := hk_; have := HS6.out; have := HS7.out; have := HS8.out; have := HS9.out; have := HS10.out; have := HS11.out; omega); replace BK2 := uKk BK2 hk (fun e_ => by have e2 : w11.heap.size ≤ gb2 ∧ gb2 < w12.heap.size := e_.elim id id; have := HG2.out; have := HL2.out; have := HS2.out; have := HS3.out; have := HS4.out; have := HS5.out; have := HS6.out; have := HS7.out; have := HS8.out; have := HS9.out; have := HS10.out; have := HS11.out; omega); replace BK6 := uKk BK6 hk (fun e_ => by have e2 : w11.heap.size ≤ gb6 ∧ gb6 < w12.heap.size := e_.elim id id; have := HG6.out; have := HL6.out; have := HS7.out; have := HS8.out; have := HS9.out; have := HS10.out; have := HS11.out; omega); replace BK10 := uKk BK10 hk (fun e_ => by have e2 : w11.heap.size ≤ gb10 ∧ gb10 < w12.heap.size := e_.elim id id; have := HG10.out; have := HL10.out; omega); replace HO5_0 := zM (Kd.S_mono (Kd.S_bound hy0) (fun k_ hk_ => (Or.imp id (fun h_ => ⟨h_, hk_.2.2.1⟩) hk_.1 : (w11.heap.size ≤ k_ ∧ k_ < w12.heap.size) ∨ (w23.heap.size ≤ k_ ∧ k_ < w24.heap.size)))); clear hy0; have hl5_0 := (Kd.S_reads' HO5_0.out).1; rw [hl5_0] at HO5_0; replace hl5_0 := zM hl5_0; replace HO5_1 := zM (Kd.R_mono (Kd.R_bound hy1) (fun k_ hk_ => (Or.imp id (fun h_ => ⟨h_, hk_.2.2.1⟩) hk_.1 : (w11.heap.size ≤ k_ ∧ k_ < w12.heap.size) ∨ (w23.heap.size ≤ k_ ∧ k_ < w24.heap.size)))); clear hy1; have hl5_1 := (Kd.R_reads' HO5_1.out).1; rw [hl5_1] at HO5_1; replace hl5_1 := zM hl5_1; have HS24 := zM hk.1; replace HB := zM hb2; clear hb2 hk; replace hc2_0 := zy BK2 0; replace hf2_0 := blk_frozen BK2.out 0; replace hc2_1 := zy BK2 1; replace hf2_1 := blk_frozen BK2.out 1; replace hc6_0 := zy BK6 0; replace hf6_0 := blk_frozen BK6.out 0; replace hc6_1 := zy BK6 1; replace hf6_1 := blk_frozen BK6.out 1; replace hc10_0 := zy BK10 0; replace hf10_0 := blk_frozen BK10.out 0; replace hc10_1 := zy BK10 1; replace hf10_1 := blk_frozen BK10.out 1)
    | (have hst_ : Aside0 (Below w.heap.size w w24) := HB; clear hst_; go_at_call 21; refine uArgs (args' := #[.agg #[.slice Ao5_0 mk2_0.length co5_0, .slice Ao5_1 mk2_1.length co5_1], .int .i64 1]) (by rw [hl5_0.out, hl5_1.out]) ?_; refine (laws_heldSpace.calls k11 _ _ mk2_0 _ _ mk2_1 1 kk2 _ ?side1 ?side2 ?side3 ?side4 H11.out).mono ?_; (case side1 => exact zC (Kd.S_reads' HO5_0.out).2.2); (case side2 => exact (Kd.S_reads' HO5_0.out).2.1); (case side3 => exact zC (Kd.R_reads' HO5_1.out).2.2); (case side4 => exact (Kd.R_reads' HO5_1.out).2.1); rintro e w25 ⟨rfl, hb⟩; replace HO2_0 := uSb HO2_0 hb; replace HO2_1 := uRb HO2_1 hb; replace HO5_0 := uSb HO5_0 hb; replace HO5_1 := uRb HO5_1 hb; replace BK2 := uKb BK2 hb; replace BK6 := uKb BK6 hb; replace BK10 := uKb BK10 hb; have HS25 := zM hb.size; replace HB := zM (below_step HB.out hb); clear hb; replace hc2_0 := zy BK2 0; replace hf2_0 := blk_frozen BK2.out 0; replace hc2_1 := zy BK2 1; replace hf2_1 := blk_frozen BK2.out 1; replace hc6_0 := zy BK6 0; replace hf6_0 := blk_frozen BK6.out 0; replace hc6_1 := zy BK6 1; replace hf6_1 := blk_frozen BK6.out 1; replace hc10_0 := zy BK10 0; replace hf10_0 := blk_frozen BK10.out 0; replace hc10_1 := zy BK10 1; replace hf10_1 := blk_frozen BK10.out 1)
    | (have hst_ : Aside0 (Below w.heap.size w w25) := HB; clear hst_; go_at_call 14; refine (laws_toSpace.calls k1 _ _ l0_0 _ _ l0_1 l0_0 l0_1 _ ?side1 ?side2 ?side3 ?side4 H1.out).mono ?_; (case side1 => exact zC (Kd.C_below HR0_0.out HB.out)); (case side2 => exact HC0_0.out); (case side3 => exact zC (Kd.C_below HR0_1.out HB.out)); (case side4 => exact HC0_1.out); clear BK2 hc2_0 hf2_0 hc2_1 hf2_1; rintro e w26 ⟨v8_0, v8_1, rfl, ho0, ho1, hb⟩; replace HO2_0 := uSb HO2_0 hb; replace HO2_1 := uRb HO2_1 hb; replace HO5_0 := uSb HO5_0 hb; replace HO5_1 := uRb HO5_1 hb; replace BK6 := uKb BK6 hb; replace BK10 := uKb BK10 hb; have HS26 := zM hb.size; have HO8_0 := uS HB.out ho0; clear ho0; obtain ⟨Ao8_0, co8_0, eo8_0⟩ := Kd.S_slice HO8_0.out; subst eo8_0; have HO8_1 := uR HB.out ho1; clear ho1; obtain ⟨Ao8_1, co8_1, eo8_1⟩ := Kd.R_slice HO8_1.out; subst eo8_1; replace HB := zM (below_step HB.out hb); clear hb; replace hc6_0 := zy BK6 0; replace hf6_0 := blk_frozen BK6.out 0; replace hc6_1 := zy BK6 1; replace hf6_1 := blk_frozen BK6.out 1; replace hc10_0 := zy BK10 0; replace hf10_0 := blk_frozen BK10.out 0; replace hc10_1 := zy BK10 1; replace hf10_1 := blk_frozen BK10.out 1)
    | (have hst_ : Aside0 (Below w.heap.size w w26) := HB; clear hst_; go_at_call 15; refine (laws_toIntS.calls k2 _ _ l1 l1 _ ?side1 ?side2 H2.out).mono ?_; (case side1 => exact zC (Kd.C_below HR1.out HB.out)); (case side2 => exact HC1.out); rintro e w27 ⟨v9_0, rfl, ho0, hb⟩; replace HO2_0 := uSb HO2_0 hb; replace HO2_1 := uRb HO2_1 hb; replace HO5_0 := uSb HO5_0 hb; replace HO5_1 := uRb HO5_1 hb; replace HO8_0 := uSb HO8_0 hb; replace HO8_1 := uRb HO8_1 hb; replace BK6 := uKb BK6 hb; replace BK10 := uKb BK10 hb; have HS27 := zM hb.size; have HO9_0 := uR HB.out ho0; clear ho0; obtain ⟨Ao9_0, co9_0, eo9_0⟩ := Kd.R_slice HO9_0.out; subst eo9_0; replace HB := zM (below_step HB.out hb); clear hb; replace hc6_0 := zy BK6 0; replace hf6_0 := blk_frozen BK6.out 0; replace hc6_1 := zy BK6 1; replace hf6_1 := blk_frozen BK6.out 1; replace hc10_0 := zy BK10 0; replace hf10_0 := blk_frozen BK10.out 0; replace hc10_1 := zy BK10 1; replace hf10_1 := blk_frozen BK10.out 1)
    | (have hst_ : Aside0 (Below w.heap.size w w27) := HB; clear hst_; go_at_call 16; refine (impl_InducedSpace.calls k4 _ _ l0_0 _ _ l0_1 _ _ l1 q0 q1 q2 _ ?side1 ?side2 ?side3 ?side4 ?side5 ?side6 H4.out).mono ?_; (case side1 => exact zC (Kd.S_reads' HO8_0.out).2.2); (case side2 => exact (Kd.S_reads' HO8_0.out).2.1); (case side3 => exact zC (Kd.R_reads' HO8_1.out).2.2); (case side4 => exact (Kd.R_reads' HO8_1.out).2.1); (case side5 => exact zC (Kd.R_reads' HO9_0.out).2.2); (case side6 => exact (Kd.R_reads' HO9_0.out).2.1); clear HO8_0 HO8_1; clear HO9_0; rintro e w28 ⟨v10_0, v10_1, rfl, ho0, ho1, hb⟩; replace HO2_0 := uSb HO2_0 hb; replace HO2_1 := uRb HO2_1 hb; replace HO5_0 := uSb HO5_0 hb; replace HO5_1 := uRb HO5_1 hb; replace BK6 := uKb BK6 hb; replace BK10 := uKb BK10 hb; have HS28 := zM hb.size; have HO10_0 := uS HB.out ho0; clear ho0; obtain ⟨Ao10_0, co10_0, eo10_0⟩ := Kd.S_slice HO10_0.out; subst eo10_0; have HO10_1 := uR HB.out ho1; clear ho1; obtain ⟨Ao10_1, co10_1, eo10_1⟩ := Kd.R_slice HO10_1.out; subst eo10_1; replace HB := zM (below_step HB.out hb); clear hb; replace hc6_0 := zy BK6 0; replace hf6_0 := blk_frozen BK6.out 0; replace hc6_1 := zy BK6 1; replace hf6_1 := blk_frozen BK6.out 1; replace hc10_0 := zy BK10 0; replace hf10_0 := blk_frozen BK10.out 0; replace hc10_1 := zy BK10 1; replace hf10_1 := blk_frozen BK10.out 1)
    | ((with_reducible refine gate_dst (N := 15) rfl ?_); refine ze 15 #[.slice none 0 0, .slice none 0 0] 28 ?_; intro gb15 hg w29 hbox hb; have HG15 := zM hg; have HW15 := zM (show w.heap.size ≤ gb15 by rw [hg]; exact below_size HB.out); have HL15 := zM (blk_lt hbox); clear hg; replace HO2_0 := uSb HO2_0 hb; replace HO2_1 := uRb HO2_1 hb; replace HO5_0 := uSb HO5_0 hb; replace HO5_1 := uRb HO5_1 hb; replace HO10_0 := uSb HO10_0 hb; replace HO10_1 := uRb HO10_1 hb; replace BK6 := uKb BK6 hb; replace BK10 := uKb BK10 hb; have HS29 := zM hb.size; replace HB := zM (below_step HB.out hb); have hn6_15 : gb6 ≠ gb15 := (by have := HG15.out; have := HL6.out; have := HS7.out; have := HS8.out; have := HS9.out; have := HS10.out; have := HS11.out; have := HS12.out; have := HS13.out; have := HS14.out; have := HS15.out; have := HS16.out; have := HS17.out; have := HS18.out; have := HS19.out; have := HS20.out; have := HS21.out; have := HS22.out; have := HS23.out; have := HS24.out; have := HS25.out; have := HS26.out; have := HS27.out; have := HS28.out; omega); have hn15_6 := hn6_15.symm; have hn10_15 : gb10 ≠ gb15 := (by have := HG15.out; have := HL10.out; have := HS14.out; have := HS15.out; have := HS16.out; have := HS17.out; have := HS18.out; have := HS19.out; have := HS20.out; have := HS21.out; have := HS22.out; have := HS23.out; have := HS24.out; have := HS25.out; have := HS26.out; have := HS27.out; have := HS28.out; omega); have hn15_10 := hn10_15.symm; have BK15 := zM hbox; clear hbox hb; replace hc6_0 := zy BK6 0; replace hf6_0 := blk_frozen BK6.out 0; replace hc6_1 := zy BK6 1; replace hf6_1 := blk_frozen BK6.out 1; replace hc10_0 := zy BK10 0; replace hf10_0 := blk_frozen BK10.out 0; replace hc10_1 := zy BK10 1; replace hf10_1 := blk_frozen BK10.out 1; have hc15_0 := zy BK15 0; have hf15_0 := blk_frozen BK15.out 0; have hc15_1 := zy BK15 1; have hf15_1 := blk_frozen BK15.out 1)
    | (have hst_ : Aside0 (Below w.heap.size w w29) := HB; clear hst_; go_at_call 17; refine uBox BK15 HB HW15.out ?_; intro w30 BKn hk HBn; replace HO2_0 := uSk HO2_0 hk (fun k_ hk_ e_ => by have e2 : k_ = gb15 := e_; have := HG15.out; have := HL15.out; have h2 : w4.heap.size ≤ k_ ∧ k_ < w5.heap.size := hk_; have := HS6.out; have := HS7.out; have := HS8.out; have := HS9.out; have := HS10.out; have := HS11.out; have := HS12.out; have := HS13.out; have := HS14.out; have := HS15.out; have := HS16.out; have := HS17.out; have := HS18.out; have := HS19.out; have := HS20.out; have := HS21.out; have := HS22.out; have := HS23.out; have := HS24.out; have := HS25.out; have := HS26.out; have := HS27.out; have := HS28.out; omega); replace HO2_1 := uRk HO2_1 hk (fun k_ hk_ e_ => by have e2 : k_ = gb15 := e_; have := HG15.out; have := HL15.out; have h2 : w4.heap.size ≤ k_ ∧ k_ < w5.heap.size := hk_; have := HS6.out; have := HS7.out; have := HS8.out; have := HS9.out; have := HS10.out; have := HS11.out; have := HS12.out; have := HS13.out; have := HS14.out; have := HS15.out; have := HS16.out; have := HS17.out; have := HS18.out; have := HS19.out; have := HS20.out; have := HS21.out; have := HS22.out; have := HS23.out; have := HS24.out; have := HS25.out; have := HS26.out; have := HS27.out; have := HS28.out; omega); replace HO5_0 := uSk HO5_0 hk (fun k_ hk_ e_ => by have e2 : k_ = gb15 := e_; have := HG15.out; have := HL15.out; have h2 : (w11.heap.size ≤ k_ ∧ k_ < w12.heap.size) ∨ (w23.heap.size ≤ k_ ∧ k_ < w24.heap.size) := hk_; have := HS13.out; have := HS14.out; have := HS15.out; have := HS16.out; have := HS17.out; have := HS18.out; have := HS19.out; have := HS20.out; have := HS21.out; have := HS22.out; have := HS23.out; have := HS24.out; have := HS25.out; have := HS26.out; have := HS27.out; have := HS28.out; have := HS25.out; have := HS26.out; have := HS27.out; have := HS28.out; omega); replace HO5_1 := uRk HO5_1 hk (fun k_ hk_ e_ => by have e2 : k_ = gb15 := e_; have := HG15.out; have := HL15.out; have h2 : (w11.heap.size ≤ k_ ∧ k_ < w12.heap.size) ∨ (w23.heap.size ≤ k_ ∧ k_ < w24.heap.size) := hk_; have := HS13.out; have := HS14.out; have := HS15.out; have := HS16.out; have := HS17.out; have := HS18.out; have := HS19.out; have := HS20.out; have := HS21.out; have := HS22.out; have := HS23.out; have := HS24.out; have := HS25.out; have := HS26.out; have := HS27.out; have := HS28.out; have := HS25.out; have := HS26.out; have := HS27.out; have := HS28.out; omega); replace HO10_0 := uSk HO10_0 hk (fun k_ hk_ e_ => by have e2 : k_ = gb15 := e_; have := HG15.out; have := HL15.out; have h2 : w27.heap.size ≤ k_ ∧ k_ < w28.heap.size := hk_; omega); replace HO10_1 := uRk HO10_1 hk (fun k_ hk_ e_ => by have e2 : k_ = gb15 := e_; have := HG15.out; have := HL15.out; have h2 : w27.heap.size ≤ k_ ∧ k_ < w28.heap.size := hk_; omega); replace BK6 := uKk BK6 hk (fun e_ => by have e2 : gb6 = gb15 := e_; have := HG15.out; have := HL15.out; have := HG6.out; have := HL6.out; have := HS7.out; have := HS8.out; have := HS9.out; have := HS10.out; have := HS11.out; have := HS12.out; have := HS13.out; have := HS14.out; have := HS15.out; have := HS16.out; have := HS17.out; have := HS18.out; have := HS19.out; have := HS20.out; have := HS21.out; have := HS22.out; have := HS23.out; have := HS24.out; have := HS25.out; have := HS26.out; have := HS27.out; have := HS28.out; omega); replace BK10 := uKk BK10 hk (fun e_ => by have e2 : gb10 = gb15 := e_; have := HG15.out; have := HL15.out; have := HG10.out; have := HL10.out; have := HS14.out; have := HS15.out; have := HS16.out; have := HS17.out; have := HS18.out; have := HS19.out; have := HS20.out; have := HS21.out; have := HS22.out; have := HS23.out; have := HS24.out; have := HS25.out; have := HS26.out; have := HS27.out; have := HS28.out; omega); replace BK15 := BKn; replace HB := HBn; clear BKn HBn; have HS30 := zM hk.1; clear hk; refine (laws_eqSpace.calls k5 _ _ q0 _ _ q1 _ _ q0 _ _ q1 true _ ?side1 ?side2 ?side3 ?side4 ?side5 ?side6 ?side7 ?side8 H5.out).mono ?_; (case side1 => exact zC (Kd.S_reads' HO10_0.out).2.2); (case side2 => exact (Kd.S_reads' HO10_0.out).2.1); (case side3 => exact zC (Kd.R_reads' HO10_1.out).2.2); (case side4 => exact (Kd.R_reads' HO10_1.out).2.1); (case side5 => exact zC (Kd.S_reads' HO2_0.out).2.2); (case side6 => exact (Kd.S_reads' HO2_0.out).2.1); (case side7 => exact zC (Kd.R_reads' HO2_1.out).2.2); (case side8 => exact (Kd.R_reads' HO2_1.out).2.1); clear HO2_0 HO2_1; clear HO10_0 HO10_1; clear BK6 hc6_0 hf6_0 hc6_1 hf6_1; clear BK15 hc15_0 hf15_0 hc15_1 hf15_1; rintro e w31 ⟨rfl, hb⟩; replace HO5_0 := uSb HO5_0 hb; replace HO5_1 := uRb HO5_1 hb; replace BK10 := uKb BK10 hb; have HS31 := zM hb.size; replace HB := zM (below_step HB.out hb); clear hb; replace hc10_0 := zy BK10 0; replace hf10_0 := blk_frozen BK10.out 0; replace hc10_1 := zy BK10 1; replace hf10_1 := blk_frozen BK10.out 1)
    | (have hst_ : Aside0 (Below w.heap.size w w31) := HB; clear hst_; go_at_call 21; refine uArgs (args' := #[.agg #[.slice Ao5_0 mk2_0.length co5_0, .slice Ao5_1 mk2_1.length co5_1], .int .i64 1]) (by rw [hl5_0.out, hl5_1.out]) ?_; refine (laws_heldSpace.calls k11 _ _ mk2_0 _ _ mk2_1 1 kk2 _ ?side1 ?side2 ?side3 ?side4 H11.out).mono ?_; (case side1 => exact zC (Kd.S_reads' HO5_0.out).2.2); (case side2 => exact (Kd.S_reads' HO5_0.out).2.1); (case side3 => exact zC (Kd.R_reads' HO5_1.out).2.2); (case side4 => exact (Kd.R_reads' HO5_1.out).2.1); clear HO5_0 HO5_1; clear BK10 hc10_0 hf10_0 hc10_1 hf10_1; rintro e w32 ⟨rfl, hb⟩; have HS32 := zM hb.size; replace HB := zM (below_step HB.out hb); clear hb))
  go_ret
  exact ⟨rfl, HB.out⟩
end Go.Proofs.Ythnojbafclglpaa.P
namespace Go.Proofs.Ythnojbafclglpaa.P
open Go.RowKit Go.Deep Go.ChangeShapes Go.Joins Go.Proofs.YthnojbafclglpaaW.PrintWords
set_option linter.unusedVariables false
set_option linter.unusedSimpArgs false
/-- A whole number, a list of them, a list of pairs, a list of lists, as they come in. -/
def FitL (l : List Int) : Prop := l.length ≤ 9223372036854775807 ∧ ∀ n ∈ l, (Lit.int .i64 n).wf = true
def FitP (l : List S64) : Prop := l.length ≤ 9223372036854775807 ∧ ∀ e ∈ l, (Lit.int .i64 e.f0).wf = true ∧ (Lit.int .i64 e.f1).wf = true
def FitLL (l : List (List Int)) : Prop := l.length ≤ 9223372036854775807 ∧ ∀ s ∈ l, FitL s
section
variable {H : Type} {enc : TypeId × Value → H} {W : World} {base : Nat} {held : Bool} {fuel : Nat}

theorem read_ints {v : Value} {y : DataW H × List MemPlace} (h : DataW.trod enc Try.prog W base (fun _ => true) held fuel 26 [v] = some y) :
    ∃ (A : Option Addr) (c : Nat) (l : List Int), v = .slice A l.length c ∧ l.length ≤ c ∧ Kd.C (Kd.int .i64) W A l.length l ∧ FitL l := by
  rcases open_ints Try.underlying26 Try.underlying3 (by kernel_rfl) h with ⟨hcs, _⟩ | ⟨a, len, cap, zs, hcs, _, hl, hm, hz, _, hcell, hwf⟩
  · injection hcs with hv _
    exact ⟨none, 0, [], hv, Nat.le_refl _, ⟨rfl, Nat.zero_le _, fun h0 => absurd h0 (Nat.lt_irrefl _)⟩, ⟨Nat.zero_le _, fun n hn => by cases hn⟩⟩
  · injection hcs with hv _
    simp only [if_true] at hz
    have hlen : (zs.take len).length = len := by rw [List.length_take]; omega
    refine ⟨some a, cap, zs.take len, by rw [hlen]; exact hv, by omega, ⟨rfl, by unfold maxLen at hm; omega, fun _ => ⟨a, rfl, fun j p hj => ⟨[.int .i64 p], rfl, rfl, fun i u hi => ?_⟩⟩⟩, ⟨by rw [hlen]; unfold maxLen at hm; omega, fun n hn => hwf n (List.mem_of_mem_take hn)⟩⟩
    cases i with
    | succ i => simp at hi
    | zero =>
      have hu : Value.int .i64 p = u := by simpa using hi
      subst hu
      have hj2 := (List.getElem?_eq_some_iff.1 hj).1
      rw [hlen] at hj2
      have hj3 : zs[j]? = some p := by rw [List.getElem?_take, if_pos hj2] at hj; exact hj
      have := hcell j (by omega)
      rw [List.getD_eq_getElem?_getD, hj3] at this
      simpa [show (Kd.int .i64).sz = 1 from rfl] using this

theorem read_lists {v : Value} {y : DataW H × List MemPlace} (h : DataW.trod enc Try.prog W base (fun _ => true) held fuel 22 [v] = some y) :
    ∃ (A : Option Addr) (c : Nat) (l : List (List Int)), v = .slice A l.length c ∧ l.length ≤ c ∧ Kd.C (Kd.slice 3 (Kd.int .i64)) W A l.length l ∧ FitLL l := by
  rcases open_int_rows Try.underlying22 Try.underlying26 Try.underlying3 (by kernel_rfl) (by kernel_rfl) h with ⟨hcs, _⟩ | ⟨a, len, cap, Ar, L, C, Z, hcs, _, hl, hm, _, hx⟩
  · injection hcs with hv _
    exact ⟨none, 0, [], hv, Nat.le_refl _, ⟨rfl, Nat.zero_le _, fun h0 => absurd h0 (Nat.lt_irrefl _)⟩, ⟨Nat.zero_le _, fun n hn => by cases hn⟩⟩
  · injection hcs with hv _
    have hlen : ((List.range len).map fun r => (Z r).take (L r)).length = len := by simp
    refine ⟨some a, cap, (List.range len).map fun r => (Z r).take (L r), by rw [hlen]; exact hv, by omega, ⟨rfl, by unfold maxLen at hm; omega, fun _ => ⟨a, rfl, fun j p hj => ?_⟩⟩, ⟨by rw [hlen]; unfold maxLen at hm; omega, ?_⟩⟩
    · have hj2 := (List.getElem?_eq_some_iff.1 hj).1
      rw [hlen] at hj2
      have hp : (Z j).take (L j) = p := by
        rw [List.getElem?_map, List.getElem?_range hj2] at hj
        exact Option.some.inj hj
      subst hp
      obtain ⟨h1, h2, h3, h4, h5, h6, h7⟩ := hx j (by omega)
      have hpl : ((Z j).take (L j)).length = L j := by rw [List.length_take]; omega
      refine ⟨[.slice (Ar j) (L j) (C j)], rfl, ⟨Ar j, C j, by rw [hpl], by omega, ⟨rfl, by unfold maxLen at h3; omega, fun h0 => ?_⟩⟩, fun i u hi => ?_⟩
      · cases ha : Ar j with
        | none => have := h6 ha; omega
        | some a' =>
          refine ⟨a', rfl, fun q p hq => ⟨[.int .i64 p], rfl, rfl, fun i u hi => ?_⟩⟩
          cases i with
          | succ i => simp at hi
          | zero =>
            have hu : Value.int .i64 p = u := by simpa using hi
            subst hu
            have hq2 := (List.getElem?_eq_some_iff.1 hq).1
            rw [hpl] at hq2
            have hq3 : (Z j)[q]? = some p := by rw [List.getElem?_take, if_pos hq2] at hq; exact hq
            have := (h7 a' ha).2 q (by omega)
            rw [List.getD_eq_getElem?_getD, hq3] at this
            simpa [show (Kd.int .i64).sz = 1 from rfl] using this
      · cases i with
        | succ i => simp at hi
        | zero =>
          have hu : Value.slice (Ar j) (L j) (C j) = u := by simpa using hi
          subst hu
          simpa [show (Kd.slice 3 (Kd.int .i64)).sz = 1 from rfl] using h1
    · intro s hs
      rw [List.mem_map] at hs
      obtain ⟨r, hr, rfl⟩ := hs
      have h1 := hx r (by have := List.mem_range.1 hr; omega)
      exact ⟨by have := h1.2.2.1; have := h1.2.2.2.1; unfold maxLen at *; rw [List.length_take]; omega, fun n hn => h1.2.2.2.2.1 n (List.mem_of_mem_take hn)⟩

theorem read_prs {v : Value} {y : DataW H × List MemPlace} (h : DataW.trod enc Try.prog W base (fun _ => true) held fuel 23 [v] = some y) :
    ∃ (A : Option Addr) (c : Nat) (l : List S64), v = .slice A l.length c ∧ l.length ≤ c ∧ Kd.C k64 W A l.length l ∧ FitP l := by
  rcases open_slice Try.underlying23 h with ⟨hcs, _⟩ | ⟨a, len, cap, m, n, D, Pl, hcs, _, hl, hm, hmm, _, hx⟩
  · injection hcs with hv _
    exact ⟨none, 0, [], hv, Nat.le_refl _, ⟨rfl, Nat.zero_le _, fun h0 => absurd h0 (Nat.lt_irrefl _)⟩, ⟨Nat.zero_le _, fun n hn => by cases hn⟩⟩
  · injection hcs with hv _
    have hce : Try.prog.cellsOf 64 = 2 := by kernel_rfl
    have hci : Try.prog.cellsOf 3 = 1 := by kernel_rfl
    have each : ∀ i, i < len → ∃ e : S64, (W.cell? (a.add (i * 2)) = some (.int .i64 e.f0) ∧ W.cell? (a.add (i * 2 + 1)) = some (.int .i64 e.f1)) ∧ (Lit.int .i64 e.f0).wf = true ∧ (Lit.int .i64 e.f1).wf = true := by
      intro i hi
      obtain ⟨cs', h1, h2⟩ := hx i (by simp only [if_true] at hmm; omega)
      rw [hce] at h1
      obtain ⟨_, hcl, hcc⟩ := World.cells?_some h1
      obtain ⟨c0, c1, rfl⟩ : ∃ c0 c1, cs' = [c0, c1] := by
        match cs', hcl with
        | [c0, c1], _ => exact ⟨c0, c1, rfl⟩
      obtain ⟨xs, q, rfl, hq, _, hxl, he⟩ := DataW.trod_array Try.underlying64 h2
      have e0 := he 0 (by omega)
      have e1 := he 1 (by omega)
      simp only [hci] at e0 e1
      obtain ⟨y0, hy0⟩ : ∃ y0, xs[0]? = some y0 := ⟨xs[0], List.getElem?_eq_getElem (by omega)⟩
      obtain ⟨y1, hy1⟩ : ∃ y1, xs[1]? = some y1 := ⟨xs[1], List.getElem?_eq_getElem (by omega)⟩
      rw [hy0] at e0
      rw [hy1] at e1
      obtain ⟨n0, k0, _, w0⟩ := DataW.trod_int Try.underlying3 e0
      obtain ⟨n1, k1, _, w1⟩ := DataW.trod_int Try.underlying3 e1
      simp at k0 k1
      subst k0
      subst k1
      have f0 := hcc 0 (by omega)
      have f1 := hcc 1 (by omega)
      refine ⟨⟨n0, n1⟩, ⟨?_, ?_⟩, w0, w1⟩
      · rw [Addr.add_add, Nat.add_zero] at f0
        simpa using f0
      · rw [Addr.add_add] at f1
        simpa using f1
    have hlen : ((List.range len).map fun i => if hi : i < len then (each i hi).choose else z64).length = len := by simp
    refine ⟨some a, cap, (List.range len).map fun i => if hi : i < len then (each i hi).choose else z64, by rw [hlen]; exact hv, by omega, ⟨rfl, by unfold maxLen at hm; omega, fun _ => ⟨a, rfl, fun j p hj => ?_⟩⟩, ⟨by rw [hlen]; unfold maxLen at hm; omega, ?_⟩⟩
    · have hj2 := (List.getElem?_eq_some_iff.1 hj).1
      rw [hlen] at hj2
      have hp : (each j hj2).choose = p := by
        rw [List.getElem?_map, List.getElem?_range hj2] at hj
        simpa [hj2] using hj
      obtain ⟨⟨h1, h2⟩, _⟩ := (each j hj2).choose_spec
      rw [hp] at h1 h2
      refine ⟨[.int .i64 p.f0, .int .i64 p.f1], rfl, k64_mk W p, fun i u hi => ?_⟩
      rw [show k64.sz = 2 from rfl]
      match i, hi with
      | 0, hi =>
        have hu : Value.int .i64 p.f0 = u := by simpa using hi
        subst hu
        exact h1
      | 1, hi =>
        have hu : Value.int .i64 p.f1 = u := by simpa using hi
        subst hu
        exact h2
    · intro e he
      rw [List.mem_map] at he
      obtain ⟨r, hr, rfl⟩ := he
      have hr2 := List.mem_range.1 hr
      simp only [hr2, dif_pos]
      exact (each r hr2).choose_spec.2
end
end Go.Proofs.Ythnojbafclglpaa.P
namespace Go.Proofs.Ythnojbafclglpaa.P
open Go.RowKit Go.Proofs.YthnojbafclglpaaW.PrintWords Go.Proofs.YthnojbafclglpaaW.PrintLast Go.Proofs.YthnojbafclglpaaW.PrintMore
set_option linter.unusedVariables false
set_option linter.unusedSimpArgs false
section
variable {α β : Type}
theorem Ev.pos {c : Prop} [Decidable c] {f g : Nat → Option α} {r : α} (h : c) (k : Ev f r) : Ev (fun n => if c then f n else g n) r := by simpa only [if_pos h] using k
theorem Ev.neg {c : Prop} [Decidable c] {f g : Nat → Option α} {r : α} (h : ¬ c) (k : Ev g r) : Ev (fun n => if c then f n else g n) r := by simpa only [if_neg h] using k
theorem Ev.bindo {o : Option α} {f : Nat → α → Option β} {a : α} {r : β} (h : o = some a) (k : Ev (fun n => f n a) r) : Ev (fun n => o.bind (f n)) r := by simpa only [h, Option.bind_some] using k
theorem Ev.some {o : Option α} {r : α} (h : o = some r) : Ev (fun _ => o) r := ⟨0, fun _ _ => h⟩
end
theorem wrap_nat {m : Int} (h : -9223372036854775808 ≤ m) (h2 : m ≤ 9223372036854775807) : wrap64 m = m := by unfold wrap64; omega
theorem wrap_up {m n : Nat} (h : m < n) (hn : n ≤ 9223372036854775807) : wrap64 ((m : Int) + 1) = ((m + 1 : Nat) : Int) := by unfold wrap64; omega
theorem rd_at (l : List Int) (m : Nat) (h : m < l.length) : rd l (m : Int) = l[m] := by simp [rd, List.getD_eq_getElem?_getD, List.getElem?_eq_getElem h]
theorem rdT_at (l : List S64) (m : Nat) (h : m < l.length) : rd_T64 l (m : Int) = l[m] := by simp [rd_T64, List.getD_eq_getElem?_getD, List.getElem?_eq_getElem h]

/-! Copies. -/
theorem take_set_next {α : Type} (l acc : List α) (m : Nat) (hm : m < l.length) (ha : acc.length = l.length) (h : acc.take m = l.take m) : (acc.set m l[m]).take (m + 1) = l.take (m + 1) := by
  rw [List.take_succ_eq_append_getElem (by rw [List.length_set]; omega), List.take_succ_eq_append_getElem hm, List.getElem_set_self, List.take_set_of_le (Nat.le_refl _), h]
theorem toIntA2S_loop (l : List S64) (hl : l.length ≤ 1048576) (d : Nat) : ∀ (acc : List S64) (m : Nat), l.length - m = d → m ≤ l.length → acc.length = l.length → acc.take m = l.take m →
    Ev (fun k => laws_toIntA2S.l0 k l acc (m : Int)) l := by
  induction d with
  | zero =>
    intro acc m h0 h1 h2 h3
    refine Ev.step (fun k => by rw [laws_toIntA2S.l0]) ?_
    refine Ev.neg (by omega) ?_
    have : acc = l := by rw [← List.take_length (l := acc), ← List.take_length (l := l), h2, show l.length = m by omega]; exact h3
    rw [this]
    exact Ev.now _
  | succ d ih =>
    intro acc m h0 h1 h2 h3
    have hm : m < l.length := by omega
    refine Ev.step (fun k => by rw [laws_toIntA2S.l0]) ?_
    refine Ev.pos (by omega) (Ev.pos (by omega) (Ev.bindo rfl (Ev.pos (by omega) ?_)))
    rw [wrap_up hm (by omega), rdT_at l m hm, Int.toNat_natCast]
    exact ih _ (m + 1) (by omega) (by omega) (by rw [List.length_set]; exact h2) (take_set_next l acc m hm h2 h3)
theorem toIntA2S_ev (l : List S64) (hl : l.length ≤ 1048576) : Ev (fun k => laws_toIntA2S.f k l) l := by
  unfold laws_toIntA2S.f
  refine Ev.pos (by omega) (Ev.pos (by omega) ?_)
  exact toIntA2S_loop l hl l.length _ 0 (by omega) (Nat.zero_le _) (by simp) (by simp)
theorem toIntS_loop (l : List Int) (hl : l.length ≤ 1048576) (d : Nat) : ∀ (acc : List Int) (m : Nat), l.length - m = d → m ≤ l.length → acc.length = l.length → acc.take m = l.take m →
    Ev (fun k => laws_toIntS.l0 k l acc (m : Int)) l := by
  induction d with
  | zero =>
    intro acc m h0 h1 h2 h3
    refine Ev.step (fun k => by rw [laws_toIntS.l0]) ?_
    refine Ev.neg (by omega) ?_
    have : acc = l := by rw [← List.take_length (l := acc), ← List.take_length (l := l), h2, show l.length = m by omega]; exact h3
    rw [this]
    exact Ev.now _
  | succ d ih =>
    intro acc m h0 h1 h2 h3
    have hm : m < l.length := by omega
    refine Ev.step (fun k => by rw [laws_toIntS.l0]) ?_
    refine Ev.pos (by omega) (Ev.pos (by omega) (Ev.pos (by omega) ?_))
    rw [wrap_up hm (by omega), rd_at l m hm, Int.toNat_natCast]
    exact ih _ (m + 1) (by omega) (by omega) (by rw [List.length_set]; exact h2) (take_set_next l acc m hm h2 h3)
theorem toIntS_ev (l : List Int) (hl : l.length ≤ 1048576) : Ev (fun k => laws_toIntS.f k l) l := by
  unfold laws_toIntS.f
  refine Ev.pos (by omega) (Ev.pos (by omega) ?_)
  exact toIntS_loop l hl l.length _ 0 (by omega) (Nat.zero_le _) (by simp) (by simp)
/-! Comparisons of equals. -/
theorem eqIntA2S_loop (l : List S64) (hl : l.length ≤ 1048576) (d : Nat) : ∀ (m : Nat), l.length - m = d → m ≤ l.length → Ev (fun k => laws_eqIntA2S.l0 k l l (m : Int)) true := by
  induction d with
  | zero =>
    intro m h0 h1
    refine Ev.step (fun k => by rw [laws_eqIntA2S.l0]) ?_
    exact Ev.neg (by omega) (Ev.now _)
  | succ d ih =>
    intro m h0 h1
    have hm : m < l.length := by omega
    refine Ev.step (fun k => by rw [laws_eqIntA2S.l0]) ?_
    refine Ev.pos (by omega) (Ev.pos (by omega) (Ev.pos (by omega) (Ev.bindo (a := true) (by simp [laws_eqIntA2.f]) (Ev.pos rfl ?_))))
    rw [wrap_up hm (by omega)]
    exact ih (m + 1) (by omega) (by omega)
theorem eqIntA2S_ev (l : List S64) (hl : l.length ≤ 1048576) : Ev (fun k => laws_eqIntA2S.f k l l) true := by
  unfold laws_eqIntA2S.f
  exact Ev.pos rfl (eqIntA2S_loop l hl l.length 0 (by omega) (Nat.zero_le _))
theorem eqIntS_loop (l : List Int) (hl : l.length ≤ 1048576) (d : Nat) : ∀ (m : Nat), l.length - m = d → m ≤ l.length → Ev (fun k => laws_eqIntS.l0 k l l (m : Int)) true := by
  induction d with
  | zero =>
    intro m h0 h1
    refine Ev.step (fun k => by rw [laws_eqIntS.l0]) ?_
    exact Ev.neg (by omega) (Ev.now _)
  | succ d ih =>
    intro m h0 h1
    have hm : m < l.length := by omega
    refine Ev.step (fun k => by rw [laws_eqIntS.l0]) ?_
    refine Ev.pos (by omega) (Ev.pos (by omega) (Ev.pos (by omega) (Ev.pos rfl ?_)))
    rw [wrap_up hm (by omega)]
    exact ih (m + 1) (by omega) (by omega)
theorem eqIntS_ev (l : List Int) (hl : l.length ≤ 1048576) : Ev (fun k => laws_eqIntS.f k l l) true := by
  unfold laws_eqIntS.f
  exact Ev.pos rfl (eqIntS_loop l hl l.length 0 (by omega) (Nat.zero_le _))
end Go.Proofs.Ythnojbafclglpaa.P
