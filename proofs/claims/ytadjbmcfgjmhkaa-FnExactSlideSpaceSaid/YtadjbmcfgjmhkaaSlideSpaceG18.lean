/- The law FnExactSlideSpace's own code is walked, each way out by itself, over the contracts of what it calls. -/
import Derived.Test.YtadjbmcfgjmhkaaSlideSpaceG5
import Derived.Test.YtadjbmcfgjmhkaaSlideSpaceG15
import Derived.Test.YtadjbmcfgjmhkaaSlideSpaceG16
import Derived.Test.YtadjbmcfgjmhkaaSlideSpaceG12
import Derived.Test.YtadjbmcfgjmhkaaSlideSpaceG17
import Derived.Test.YtadjbmcfgjmhkaaSlideSpaceG13
import Derived.Test.YtadjbmcfgjmhkaaSlideSpaceG9
import Derived.Test.YtadjbmcfgjmhkaaSlideSpaceG8
import Derived.Test.YtadjbmcfgjmhkaaSlideSpaceG10
import Derived.Test.YtadjbmcfgjmhkaaSlideSpaceG11
namespace Go.Proofs.Ytadjbmcfgjmhkaa.P
open Go.RowKit Go.Proofs.YtadjbmcfgjmhkaaW.PrintWords Go.Proofs.YtadjbmcfgjmhkaaW.PrintLast Go.Proofs.YtadjbmcfgjmhkaaW.PrintMore
set_option linter.unusedVariables false
set_option linter.unusedSimpArgs false
set_option maxRecDepth 100000 in
set_option maxHeartbeats 4000000 in
theorem laws_FnExactSlideSpace.exit0 (a0_0 : Int) (A0_1 : Option Addr) (ca0_1 : Nat) (l0_1 : List (S70)) (a1 : Int) (t0 : Int) (w : World) (hr0_1 : Kd.C k70 w A0_1 l0_1.length l0_1) (hc0_1 : l0_1.length ≤ ca0_1) (c0 : t0 < 0) (h0 : laws_szGraph.f a0_0 l0_1 1048576 = some t0) :
    Calls Try.prog 9 #[.agg #[.int .i64 a0_0, .slice A0_1 l0_1.length ca0_1], .int .i64 a1] w fun e w' => e = .returned (.bool true) ∧ Below w.heap.size w w' := by
  have hu24 := Try.underlying24
  have hu28 := Try.underlying28
  have hu46 := Try.underlying46
  have HR0_1 := zM hr0_1; clear hr0_1
  have HC0_1 := zM hc0_1; clear hc0_1
  have HB := zM (Below.refl w.heap.size w)
  have H0 := zM h0; clear h0
  have c0b : decide (t0 < 0) = true := decide_eq_true c0
  clear c0
  go_enter Try.func9, Try.ntmps9
  go_wp2_with (first
    | ((with_reducible refine gate_dst (N := 2) rfl ?_); refine ze 2 #[.int .i64 a0_0, .slice A0_1 l0_1.length ca0_1] 24 ?_; intro gb2 hg w1 hbox hb; have HG2 := zM hg; have HW2 := zM (show w.heap.size ≤ gb2 by rw [hg]; exact below_size HB.out); have HL2 := zM (blk_lt hbox); clear hg; have HS1 := zM hb.size; replace HB := zM (below_step HB.out hb); have BK2 := zM hbox; clear hbox hb; have hc2_0 := zy BK2 0; have hf2_0 := blk_frozen BK2.out 0; have hc2_1 := zy BK2 1; have hf2_1 := blk_frozen BK2.out 1)
    | (have hst_ : Aside0 (Below w.heap.size w w1) := HB; clear hst_; go_at_call 10; refine (laws_szGraph.calls a0_0 _ _ l0_1 1048576 t0 _ ?side1 ?side2 H0.out).mono ?_; (case side1 => exact zC (Kd.C_below HR0_1.out HB.out)); (case side2 => exact HC0_1.out); rintro e w2 ⟨rfl, hb⟩; replace BK2 := uKb BK2 hb; have HS2 := zM hb.size; replace HB := zM (below_step HB.out hb); clear hb; replace hc2_0 := zy BK2 0; replace hf2_0 := blk_frozen BK2.out 0; replace hc2_1 := zy BK2 1; replace hf2_1 := blk_frozen BK2.out 1))
  go_ret
  exact ⟨rfl, HB.out⟩
set_option maxRecDepth 100000 in
set_option maxHeartbeats 4000000 in
theorem laws_FnExactSlideSpace.walk (a0_0 : Int) (A0_1 : Option Addr) (ca0_1 : Nat) (l0_1 : List (S70)) (a1 : Int) (k1 k2 k3 k4 k5 k8 : Nat) (t0 : Int) (q0 : List (List Int)) (q1 : List (S70)) (q2 : Bool) (kk0 : Int) (mk0_0 : List (S70)) (kk1 : Int) (mk1_0 : List (List Int)) (mk1_1 : List (S70)) (w : World) (hr0_1 : Kd.C k70 w A0_1 l0_1.length l0_1) (hc0_1 : l0_1.length ≤ ca0_1) (c0 : ¬ (t0 < 0)) (h0 : laws_szGraph.f a0_0 l0_1 1048576 = some t0) (h1 : laws_toGraph.f k1 a0_0 l0_1 = some (a0_0, l0_1)) (h2 : spec_SlideSpace.f k2 a0_0 l0_1 a1 = some (q0, q1, q2)) (h3 : impl_SlideSpace.f k3 a0_0 l0_1 a1 = some (q0, q1, q2)) (h4 : laws_eqSpace.f k4 q0 q1 q0 q1 = some true) (h5 : laws_eqGraph.f k5 a0_0 l0_1 a0_0 l0_1 = some true) (h6 : laws_markGraph.f a0_0 l0_1 1 = some (kk0, mk0_0)) (h7 : laws_markSpace.f q0 q1 1 = some (kk1, mk1_0, mk1_1)) (h8 : laws_heldSpace.f k8 mk1_0 mk1_1 1 = some kk1) (nkk0 : ¬ (kk0 < 0)) (nkk1 : ¬ (kk1 < 0)) :
    Calls Try.prog 9 #[.agg #[.int .i64 a0_0, .slice A0_1 l0_1.length ca0_1], .int .i64 a1] w fun e w' => e = .returned (.bool true) ∧ Below w.heap.size w w' := by
  have hu24 := Try.underlying24
  have hu28 := Try.underlying28
  have hu46 := Try.underlying46
  have HR0_1 := zM hr0_1; clear hr0_1
  have HC0_1 := zM hc0_1; clear hc0_1
  have HB := zM (Below.refl w.heap.size w)
  have H0 := zM h0; clear h0
  have H1 := zM h1; clear h1
  have H2 := zM h2; clear h2
  have H3 := zM h3; clear h3
  have H4 := zM h4; clear h4
  have H5 := zM h5; clear h5
  have H6 := zM h6; clear h6
  have H7 := zM h7; clear h7
  have H8 := zM h8; clear h8
  have c0b : decide (t0 < 0) = false := decide_eq_false c0
  clear c0
  have nkk0b : decide (kk0 < 0) = false := decide_eq_false nkk0
  clear nkk0
  have nkk1b : decide (kk1 < 0) = false := decide_eq_false nkk1
  clear nkk1
  go_enter Try.func9, Try.ntmps9
  go_upto_region 10 with (first
    | ((with_reducible refine gate_dst (N := 2) rfl ?_); refine ze 2 #[.int .i64 a0_0, .slice A0_1 l0_1.length ca0_1] 24 ?_; intro gb2 hg w1 hbox hb; have HG2 := zM hg; have HW2 := zM (show w.heap.size ≤ gb2 by rw [hg]; exact below_size HB.out); have HL2 := zM (blk_lt hbox); clear hg; have HS1 := zM hb.size; replace HB := zM (below_step HB.out hb); have BK2 := zM hbox; clear hbox hb; have hc2_0 := zy BK2 0; have hf2_0 := blk_frozen BK2.out 0; have hc2_1 := zy BK2 1; have hf2_1 := blk_frozen BK2.out 1)
    | (have hst_ : Aside0 (Below w.heap.size w w1) := HB; clear hst_; go_at_call 10; refine (laws_szGraph.calls a0_0 _ _ l0_1 1048576 t0 _ ?side1 ?side2 H0.out).mono ?_; (case side1 => exact zC (Kd.C_below HR0_1.out HB.out)); (case side2 => exact HC0_1.out); rintro e w2 ⟨rfl, hb⟩; replace BK2 := uKb BK2 hb; have HS2 := zM hb.size; replace HB := zM (below_step HB.out hb); clear hb; replace hc2_0 := zy BK2 0; replace hf2_0 := blk_frozen BK2.out 0; replace hc2_1 := zy BK2 1; replace hf2_1 := blk_frozen BK2.out 1)
    | (have hst_ : Aside0 (Below w.heap.size w w2) := HB; clear hst_; go_at_call 12; refine (laws_toGraph.calls k1 a0_0 _ _ l0_1 a0_0 l0_1 _ ?side1 ?side2 H1.out).mono ?_; (case side1 => exact zC (Kd.C_below HR0_1.out HB.out)); (case side2 => exact HC0_1.out); rintro e w3 ⟨v0_0, rfl, ho0, hb⟩; replace BK2 := uKb BK2 hb; have HS3 := zM hb.size; have HO0_0 := uR HB.out (by first | exact ho0 | exact Kd.R_mono ho0 (fun _ _ => trivial) | exact Kd.R_mono ho0 (fun _ hk_ => hk_.1)); clear ho0; obtain ⟨Ao0_0, co0_0, eo0_0⟩ := Kd.R_slice HO0_0.out; subst eo0_0; replace HB := zM (below_step HB.out hb); clear hb; replace hc2_0 := zy BK2 0; replace hf2_0 := blk_frozen BK2.out 0; replace hc2_1 := zy BK2 1; replace hf2_1 := blk_frozen BK2.out 1)
    | (have hst_ : Aside0 (Below w.heap.size w w3) := HB; clear hst_; go_at_call 35; refine (spec_SlideSpace.calls k2 a0_0 _ _ l0_1 a1 q0 q1 q2 _ ?side1 ?side2 H2.out).mono ?_; (case side1 => exact zC (Kd.R_reads' HO0_0.out).2.2); (case side2 => exact (Kd.R_reads' HO0_0.out).2.1); clear HO0_0; rintro e w4 ⟨v1_0, v1_1, rfl, ho0, ho1, hb⟩; replace BK2 := uKb BK2 hb; have HS4 := zM hb.size; have HO1_0 := uV HB.out (by first | exact ho0 | exact Kd.V_mono ho0 (fun _ _ => trivial) | exact Kd.V_mono ho0 (fun _ hk_ => hk_.1)); clear ho0; obtain ⟨Ao1_0, co1_0, eo1_0⟩ := Kd.V_slice HO1_0.out; subst eo1_0; have HO1_1 := uR HB.out (by first | exact ho1 | exact Kd.R_mono ho1 (fun _ _ => trivial) | exact Kd.R_mono ho1 (fun _ hk_ => hk_.1)); clear ho1; obtain ⟨Ao1_1, co1_1, eo1_1⟩ := Kd.R_slice HO1_1.out; subst eo1_1; replace HB := zM (below_step HB.out hb); clear hb; replace hc2_0 := zy BK2 0; replace hf2_0 := blk_frozen BK2.out 0; replace hc2_1 := zy BK2 1; replace hf2_1 := blk_frozen BK2.out 1)
    | ((with_reducible refine gate_dst (N := 6) rfl ?_); refine ze 6 #[.slice none 0 0, .slice none 0 0] 46 ?_; intro gb6 hg w5 hbox hb; have HG6 := zM hg; have HW6 := zM (show w.heap.size ≤ gb6 by rw [hg]; exact below_size HB.out); have HL6 := zM (blk_lt hbox); clear hg; replace HO1_0 := uVb HO1_0 hb; replace HO1_1 := uRb HO1_1 hb; replace BK2 := uKb BK2 hb; have HS5 := zM hb.size; replace HB := zM (below_step HB.out hb); have hn2_6 : gb2 ≠ gb6 := (by have := HG6.out; have := HL2.out; have := HS2.out; have := HS3.out; have := HS4.out; omega); have hn6_2 := hn2_6.symm; have BK6 := zM hbox; clear hbox hb; replace hc2_0 := zy BK2 0; replace hf2_0 := blk_frozen BK2.out 0; replace hc2_1 := zy BK2 1; replace hf2_1 := blk_frozen BK2.out 1; have hc6_0 := zy BK6 0; have hf6_0 := blk_frozen BK6.out 0; have hc6_1 := zy BK6 1; have hf6_1 := blk_frozen BK6.out 1)
    | (have hst_ : Aside0 (Below w.heap.size w w5) := HB; clear hst_; go_at_call 12; refine uBox BK6 HB HW6.out ?_; intro w6 BKn hk HBn; replace HO1_0 := uVk HO1_0 hk (fun k_ hk_ e_ => by have e2 : k_ = gb6 := e_; have := HG6.out; have := HL6.out; have h2 : w3.heap.size ≤ k_ ∧ k_ < w4.heap.size := hk_; omega); replace HO1_1 := uRk HO1_1 hk (fun k_ hk_ e_ => by have e2 : k_ = gb6 := e_; have := HG6.out; have := HL6.out; have h2 : w3.heap.size ≤ k_ ∧ k_ < w4.heap.size := hk_; omega); replace BK2 := uKk BK2 hk (fun e_ => by have e2 : gb2 = gb6 := e_; have := HG6.out; have := HL6.out; have := HG2.out; have := HL2.out; have := HS2.out; have := HS3.out; have := HS4.out; omega); replace BK6 := BKn; replace HB := HBn; clear BKn HBn; have HS6 := zM hk.1; clear hk; refine (laws_toGraph.calls k1 a0_0 _ _ l0_1 a0_0 l0_1 _ ?side1 ?side2 H1.out).mono ?_; (case side1 => exact zC (Kd.C_below HR0_1.out HB.out)); (case side2 => exact HC0_1.out); rintro e w7 ⟨v2_0, rfl, ho0, hb⟩; replace HO1_0 := uVb HO1_0 hb; replace HO1_1 := uRb HO1_1 hb; replace BK2 := uKb BK2 hb; replace BK6 := uKb BK6 hb; have HS7 := zM hb.size; have HO2_0 := uR HB.out (by first | exact ho0 | exact Kd.R_mono ho0 (fun _ _ => trivial) | exact Kd.R_mono ho0 (fun _ hk_ => hk_.1)); clear ho0; obtain ⟨Ao2_0, co2_0, eo2_0⟩ := Kd.R_slice HO2_0.out; subst eo2_0; replace HB := zM (below_step HB.out hb); clear hb; replace hc2_0 := zy BK2 0; replace hf2_0 := blk_frozen BK2.out 0; replace hc2_1 := zy BK2 1; replace hf2_1 := blk_frozen BK2.out 1; replace hc6_0 := zy BK6 0; replace hf6_0 := blk_frozen BK6.out 0; replace hc6_1 := zy BK6 1; replace hf6_1 := blk_frozen BK6.out 1)
    | ((with_reducible refine gate_dst (N := 8) rfl ?_); refine ze 8 #[.int .i64 0, .slice none 0 0] 28 ?_; intro gb8 hg w8 hbox hb; have HG8 := zM hg; have HW8 := zM (show w.heap.size ≤ gb8 by rw [hg]; exact below_size HB.out); have HL8 := zM (blk_lt hbox); clear hg; replace HO1_0 := uVb HO1_0 hb; replace HO1_1 := uRb HO1_1 hb; replace HO2_0 := uRb HO2_0 hb; replace BK2 := uKb BK2 hb; replace BK6 := uKb BK6 hb; have HS8 := zM hb.size; replace HB := zM (below_step HB.out hb); have hn2_8 : gb2 ≠ gb8 := (by have := HG8.out; have := HL2.out; have := HS2.out; have := HS3.out; have := HS4.out; have := HS5.out; have := HS6.out; have := HS7.out; omega); have hn8_2 := hn2_8.symm; have hn6_8 : gb6 ≠ gb8 := (by have := HG8.out; have := HL6.out; have := HS6.out; have := HS7.out; omega); have hn8_6 := hn6_8.symm; have BK8 := zM hbox; clear hbox hb; replace hc2_0 := zy BK2 0; replace hf2_0 := blk_frozen BK2.out 0; replace hc2_1 := zy BK2 1; replace hf2_1 := blk_frozen BK2.out 1; replace hc6_0 := zy BK6 0; replace hf6_0 := blk_frozen BK6.out 0; replace hc6_1 := zy BK6 1; replace hf6_1 := blk_frozen BK6.out 1; have hc8_0 := zy BK8 0; have hf8_0 := blk_frozen BK8.out 0; have hc8_1 := zy BK8 1; have hf8_1 := blk_frozen BK8.out 1)
    | (have hst_ : Aside0 (Below w.heap.size w w8) := HB; clear hst_; go_at_call 36; refine uBox BK8 HB HW8.out ?_; intro w9 BKn hk HBn; replace HO1_0 := uVk HO1_0 hk (fun k_ hk_ e_ => by have e2 : k_ = gb8 := e_; have := HG8.out; have := HL8.out; have h2 : w3.heap.size ≤ k_ ∧ k_ < w4.heap.size := hk_; have := HS5.out; have := HS6.out; have := HS7.out; omega); replace HO1_1 := uRk HO1_1 hk (fun k_ hk_ e_ => by have e2 : k_ = gb8 := e_; have := HG8.out; have := HL8.out; have h2 : w3.heap.size ≤ k_ ∧ k_ < w4.heap.size := hk_; have := HS5.out; have := HS6.out; have := HS7.out; omega); replace HO2_0 := uRk HO2_0 hk (fun k_ hk_ e_ => by have e2 : k_ = gb8 := e_; have := HG8.out; have := HL8.out; have h2 : w6.heap.size ≤ k_ ∧ k_ < w7.heap.size := hk_; omega); replace BK2 := uKk BK2 hk (fun e_ => by have e2 : gb2 = gb8 := e_; have := HG8.out; have := HL8.out; have := HG2.out; have := HL2.out; have := HS2.out; have := HS3.out; have := HS4.out; have := HS5.out; have := HS6.out; have := HS7.out; omega); replace BK6 := uKk BK6 hk (fun e_ => by have e2 : gb6 = gb8 := e_; have := HG8.out; have := HL8.out; have := HG6.out; have := HL6.out; have := HS6.out; have := HS7.out; omega); replace BK8 := BKn; replace HB := HBn; clear BKn HBn; have HS9 := zM hk.1; clear hk; refine (impl_SlideSpace.calls k3 a0_0 _ _ l0_1 a1 q0 q1 q2 _ ?side1 ?side2 H3.out).mono ?_; (case side1 => exact zC (Kd.R_reads' HO2_0.out).2.2); (case side2 => exact (Kd.R_reads' HO2_0.out).2.1); rintro e w10 ⟨v3_0, v3_1, rfl, ho0, ho1, hb⟩; replace HO1_0 := uVb HO1_0 hb; replace HO1_1 := uRb HO1_1 hb; replace HO2_0 := uRb HO2_0 hb; replace BK2 := uKb BK2 hb; replace BK6 := uKb BK6 hb; replace BK8 := uKb BK8 hb; have HS10 := zM hb.size; have HO3_0 := uS HB.out (by first | exact ho0 | exact Kd.S_mono ho0 (fun _ _ => trivial) | exact Kd.S_mono ho0 (fun _ hk_ => hk_.1)); clear ho0; obtain ⟨Ao3_0, co3_0, eo3_0⟩ := Kd.S_slice HO3_0.out; subst eo3_0; have HO3_1 := uR HB.out (by first | exact ho1 | exact Kd.R_mono ho1 (fun _ _ => trivial) | exact Kd.R_mono ho1 (fun _ hk_ => hk_.1)); clear ho1; obtain ⟨Ao3_1, co3_1, eo3_1⟩ := Kd.R_slice HO3_1.out; subst eo3_1; replace HB := zM (below_step HB.out hb); clear hb; replace hc2_0 := zy BK2 0; replace hf2_0 := blk_frozen BK2.out 0; replace hc2_1 := zy BK2 1; replace hf2_1 := blk_frozen BK2.out 1; replace hc6_0 := zy BK6 0; replace hf6_0 := blk_frozen BK6.out 0; replace hc6_1 := zy BK6 1; replace hf6_1 := blk_frozen BK6.out 1; replace hc8_0 := zy BK8 0; replace hf8_0 := blk_frozen BK8.out 0; replace hc8_1 := zy BK8 1; replace hf8_1 := blk_frozen BK8.out 1)
    | ((with_reducible refine gate_dst (N := 9) rfl ?_); refine ze 9 #[.slice none 0 0, .slice none 0 0] 46 ?_; intro gb9 hg w11 hbox hb; have HG9 := zM hg; have HW9 := zM (show w.heap.size ≤ gb9 by rw [hg]; exact below_size HB.out); have HL9 := zM (blk_lt hbox); clear hg; replace HO1_0 := uVb HO1_0 hb; replace HO1_1 := uRb HO1_1 hb; replace HO2_0 := uRb HO2_0 hb; replace HO3_0 := uSb HO3_0 hb; replace HO3_1 := uRb HO3_1 hb; replace BK2 := uKb BK2 hb; replace BK6 := uKb BK6 hb; replace BK8 := uKb BK8 hb; have HS11 := zM hb.size; replace HB := zM (below_step HB.out hb); have hn2_9 : gb2 ≠ gb9 := (by have := HG9.out; have := HL2.out; have := HS2.out; have := HS3.out; have := HS4.out; have := HS5.out; have := HS6.out; have := HS7.out; have := HS8.out; have := HS9.out; have := HS10.out; omega); have hn9_2 := hn2_9.symm; have hn6_9 : gb6 ≠ gb9 := (by have := HG9.out; have := HL6.out; have := HS6.out; have := HS7.out; have := HS8.out; have := HS9.out; have := HS10.out; omega); have hn9_6 := hn6_9.symm; have hn8_9 : gb8 ≠ gb9 := (by have := HG9.out; have := HL8.out; have := HS9.out; have := HS10.out; omega); have hn9_8 := hn8_9.symm; have BK9 := zM hbox; clear hbox hb; replace hc2_0 := zy BK2 0; replace hf2_0 := blk_frozen BK2.out 0; replace hc2_1 := zy BK2 1; replace hf2_1 := blk_frozen BK2.out 1; replace hc6_0 := zy BK6 0; replace hf6_0 := blk_frozen BK6.out 0; replace hc6_1 := zy BK6 1; replace hf6_1 := blk_frozen BK6.out 1; replace hc8_0 := zy BK8 0; replace hf8_0 := blk_frozen BK8.out 0; replace hc8_1 := zy BK8 1; replace hf8_1 := blk_frozen BK8.out 1; have hc9_0 := zy BK9 0; have hf9_0 := blk_frozen BK9.out 0; have hc9_1 := zy BK9 1; have hf9_1 := blk_frozen BK9.out 1)
    | (have hst_ : Aside0 (Below w.heap.size w w11) := HB; clear hst_; go_at_call 30; refine uBox BK9 HB HW9.out ?_; intro w12 BKn hk HBn; replace HO1_0 := uVk HO1_0 hk (fun k_ hk_ e_ => by have e2 : k_ = gb9 := e_; have := HG9.out; have := HL9.out; have h2 : w3.heap.size ≤ k_ ∧ k_ < w4.heap.size := hk_; have := HS5.out; have := HS6.out; have := HS7.out; have := HS8.out; have := HS9.out; have := HS10.out; omega); replace HO1_1 := uRk HO1_1 hk (fun k_ hk_ e_ => by have e2 : k_ = gb9 := e_; have := HG9.out; have := HL9.out; have h2 : w3.heap.size ≤ k_ ∧ k_ < w4.heap.size := hk_; have := HS5.out; have := HS6.out; have := HS7.out; have := HS8.out; have := HS9.out; have := HS10.out; omega); replace HO2_0 := uRk HO2_0 hk (fun k_ hk_ e_ => by have e2 : k_ = gb9 := e_; have := HG9.out; have := HL9.out; have h2 : w6.heap.size ≤ k_ ∧ k_ < w7.heap.size := hk_; have := HS8.out; have := HS9.out; have := HS10.out; omega); replace HO3_0 := uSk HO3_0 hk (fun k_ hk_ e_ => by have e2 : k_ = gb9 := e_; have := HG9.out; have := HL9.out; have h2 : w9.heap.size ≤ k_ ∧ k_ < w10.heap.size := hk_; omega); replace HO3_1 := uRk HO3_1 hk (fun k_ hk_ e_ => by have e2 : k_ = gb9 := e_; have := HG9.out; have := HL9.out; have h2 : w9.heap.size ≤ k_ ∧ k_ < w10.heap.size := hk_; omega); replace BK2 := uKk BK2 hk (fun e_ => by have e2 : gb2 = gb9 := e_; have := HG9.out; have := HL9.out; have := HG2.out; have := HL2.out; have := HS2.out; have := HS3.out; have := HS4.out; have := HS5.out; have := HS6.out; have := HS7.out; have := HS8.out; have := HS9.out; have := HS10.out; omega); replace BK6 := uKk BK6 hk (fun e_ => by have e2 : gb6 = gb9 := e_; have := HG9.out; have := HL9.out; have := HG6.out; have := HL6.out; have := HS6.out; have := HS7.out; have := HS8.out; have := HS9.out; have := HS10.out; omega); replace BK8 := uKk BK8 hk (fun e_ => by have e2 : gb8 = gb9 := e_; have := HG9.out; have := HL9.out; have := HG8.out; have := HL8.out; have := HS9.out; have := HS10.out; omega); replace BK9 := BKn; replace HB := HBn; clear BKn HBn; have HS12 := zM hk.1; clear hk; refine (laws_eqSpace.calls k4 _ _ q0 _ _ q1 _ _ q0 _ _ q1 true _ ?side1 ?side2 ?side3 ?side4 ?side5 ?side6 ?side7 ?side8 H4.out).mono ?_; (case side1 => exact zC (Kd.S_reads' HO3_0.out).2.2); (case side2 => exact (Kd.S_reads' HO3_0.out).2.1); (case side3 => exact zC (Kd.R_reads' HO3_1.out).2.2); (case side4 => exact (Kd.R_reads' HO3_1.out).2.1); (case side5 => exact zC (Kd.V_reads' HO1_0.out).2.2); (case side6 => exact (Kd.V_reads' HO1_0.out).2.1); (case side7 => exact zC (Kd.R_reads' HO1_1.out).2.2); (case side8 => exact (Kd.R_reads' HO1_1.out).2.1); rintro e w13 ⟨rfl, hb⟩; replace HO1_0 := uVb HO1_0 hb; replace HO1_1 := uRb HO1_1 hb; replace HO2_0 := uRb HO2_0 hb; replace HO3_0 := uSb HO3_0 hb; replace HO3_1 := uRb HO3_1 hb; replace BK2 := uKb BK2 hb; replace BK6 := uKb BK6 hb; replace BK8 := uKb BK8 hb; replace BK9 := uKb BK9 hb; have HS13 := zM hb.size; replace HB := zM (below_step HB.out hb); clear hb; replace hc2_0 := zy BK2 0; replace hf2_0 := blk_frozen BK2.out 0; replace hc2_1 := zy BK2 1; replace hf2_1 := blk_frozen BK2.out 1; replace hc6_0 := zy BK6 0; replace hf6_0 := blk_frozen BK6.out 0; replace hc6_1 := zy BK6 1; replace hf6_1 := blk_frozen BK6.out 1; replace hc8_0 := zy BK8 0; replace hf8_0 := blk_frozen BK8.out 0; replace hc8_1 := zy BK8 1; replace hf8_1 := blk_frozen BK8.out 1; replace hc9_0 := zy BK9 0; replace hf9_0 := blk_frozen BK9.out 0; replace hc9_1 := zy BK9 1; replace hf9_1 := blk_frozen BK9.out 1))
  (try simp only [Act.put, List.setIfInBounds_toArray, List.set_cons_zero, List.set_cons_succ])
  replace HO1_0 := zM (Kd.V_drew HO1_0.out)
  replace HO1_1 := zM (Kd.R_drew HO1_1.out)
  replace HO2_0 := zM (Kd.R_drew HO2_0.out)
  replace HO3_0 := zM (Kd.S_drew HO3_0.out)
  replace HO3_1 := zM (Kd.R_drew HO3_1.out)
  replace BK2 := zM (blk_drew BK2.out)
  replace BK6 := zM (blk_drew BK6.out)
  replace BK8 := zM (blk_drew BK8.out)
  replace BK9 := zM (blk_drew BK9.out)
  replace HB := zM (below_drew1 HB.out)
  refine zs (n := 5) (fun w' => w'.cell? ⟨gb8, 0, none⟩ = some (.int .i64 a0_0) ∧ w'.cell? ⟨gb8, 1, none⟩ = some (.slice Ao2_0 l0_1.length co2_0) ∧ w'.cell? ⟨gb2, 0, none⟩ = some (.int .i64 a0_0) ∧ w'.cell? ⟨gb2, 1, none⟩ = some (.slice A0_1 l0_1.length ca0_1)) ⟨(blk_cell BK8.out 0).trans rfl, (blk_cell BK8.out 1).trans rfl, (blk_cell BK2.out 0).trans rfl, (blk_cell BK2.out 1).trans rfl⟩ (fun hHeld => ?_)
  have HS14 := zM (show w13.heap.size ≤ w13.drew.heap.size from Nat.le_refl _)
  generalize w13.drew = w14 at HO1_0 HO1_1 HO2_0 HO3_0 HO3_1 BK2 BK6 BK8 BK9 HB HS14 hHeld ⊢
  refine zl 0 45 hHeld ?_ (hy := by rintro w' ⟨s0, s1, s2, s3⟩; go_simp; with_reducible rfl)
  refine zl 1 46 hHeld ?_ (hy := by rintro w' ⟨s0, s1, s2, s3⟩; go_simp; with_reducible rfl)
  refine zh 2 47 Try.func12 #[.agg #[.int .i64 a0_0, .slice A0_1 l0_1.length ca0_1]] (fun K hK => ?_)
  (refine (laws_toGraph.calls k1 a0_0 _ _ l0_1 a0_0 l0_1 _ ?side1 ?side2 H1.out).mono ?_; (case side1 => exact zC (Kd.C_below HR0_1.out HB.out)); (case side2 => exact HC0_1.out); rintro e w15 ⟨v4_0, rfl, ho0, hb⟩; replace HO1_0 := uVb HO1_0 hb; replace HO1_1 := uRb HO1_1 hb; replace HO2_0 := uRb HO2_0 hb; replace HO3_0 := uSb HO3_0 hb; replace HO3_1 := uRb HO3_1 hb; replace BK2 := uKb BK2 hb; replace BK6 := uKb BK6 hb; replace BK8 := uKb BK8 hb; replace BK9 := uKb BK9 hb; have HS15 := zM hb.size; have HO4_0 := uR HB.out (by first | exact ho0 | exact Kd.R_mono ho0 (fun _ _ => trivial) | exact Kd.R_mono ho0 (fun _ hk_ => hk_.1)); clear ho0; obtain ⟨Ao4_0, co4_0, eo4_0⟩ := Kd.R_slice HO4_0.out; subst eo4_0; replace HB := zM (below_step HB.out hb); clear hb)
  refine ⟨_, rfl, ?_⟩
  refine hK.out _ _ ⟨(blk_cell BK8.out 0).trans rfl, (blk_cell BK8.out 1).trans rfl, (blk_cell BK2.out 0).trans rfl, (blk_cell BK2.out 1).trans rfl⟩ (fun hHeld => ?_)
  clear hK K
  refine zn 47 ?_
  refine zh 3 48 Try.func14 #[.agg #[.int .i64 a0_0, .slice Ao2_0 l0_1.length co2_0], .agg #[.int .i64 a0_0, .slice Ao4_0 l0_1.length co4_0]] (fun K hK => ?_)
  (refine (laws_eqGraph.calls k5 a0_0 _ _ l0_1 a0_0 _ _ l0_1 true _ ?side1 ?side2 ?side3 ?side4 H5.out).mono ?_; (case side1 => exact zC (Kd.R_reads' HO2_0.out).2.2); (case side2 => exact (Kd.R_reads' HO2_0.out).2.1); (case side3 => exact zC (Kd.R_reads' HO4_0.out).2.2); (case side4 => exact (Kd.R_reads' HO4_0.out).2.1); clear HO4_0; rintro e w16 ⟨rfl, hb⟩; replace HO1_0 := uVb HO1_0 hb; replace HO1_1 := uRb HO1_1 hb; replace HO2_0 := uRb HO2_0 hb; replace HO3_0 := uSb HO3_0 hb; replace HO3_1 := uRb HO3_1 hb; replace BK2 := uKb BK2 hb; replace BK6 := uKb BK6 hb; replace BK8 := uKb BK8 hb; replace BK9 := uKb BK9 hb; have HS16 := zM hb.size; replace HB := zM (below_step HB.out hb); clear hb)
  refine ⟨_, rfl, ?_⟩
  refine hK.out _ _ ⟨(blk_cell BK8.out 0).trans rfl, (blk_cell BK8.out 1).trans rfl, (blk_cell BK2.out 0).trans rfl, (blk_cell BK2.out 1).trans rfl⟩ (fun hHeld => ?_)
  clear hK K
  refine zn 48 ?_
  refine zq 4 49 ?_
  refine zx ?_
  replace hc2_0 := zy BK2 0
  replace hf2_0 := blk_frozen BK2.out 0
  replace hc2_1 := zy BK2 1
  replace hf2_1 := blk_frozen BK2.out 1
  replace hc6_0 := zy BK6 0
  replace hf6_0 := blk_frozen BK6.out 0
  replace hc6_1 := zy BK6 1
  replace hf6_1 := blk_frozen BK6.out 1
  replace hc8_0 := zy BK8 0
  replace hf8_0 := blk_frozen BK8.out 0
  replace hc8_1 := zy BK8 1
  replace hf8_1 := blk_frozen BK8.out 1
  replace hc9_0 := zy BK9 0
  replace hf9_0 := blk_frozen BK9.out 0
  replace hc9_1 := zy BK9 1
  replace hf9_1 := blk_frozen BK9.out 1
  go_wp2_with (first
    | (have hst_ : Aside0 (Below w.heap.size w w16) := HB; clear hst_; go_at_call 18; refine (laws_markGraph.calls a0_0 _ _ l0_1 1 kk0 mk0_0 w w16 HB.out HO2_0.out H6.out).mono ?_; clear HO2_0; clear BK8 hc8_0 hf8_0 hc8_1 hf8_1; rintro e w17 ⟨rfl, hy0, hb2, hk⟩; replace HO1_0 := uVk HO1_0 hk (fun k_ hk_ e_ => by have e2 : w6.heap.size ≤ k_ ∧ k_ < w7.heap.size := e_; have h2 : w3.heap.size ≤ k_ ∧ k_ < w4.heap.size := hk_; have := HS5.out; have := HS6.out; omega); replace HO1_1 := uRk HO1_1 hk (fun k_ hk_ e_ => by have e2 : w6.heap.size ≤ k_ ∧ k_ < w7.heap.size := e_; have h2 : w3.heap.size ≤ k_ ∧ k_ < w4.heap.size := hk_; have := HS5.out; have := HS6.out; omega); replace HO3_0 := uSk HO3_0 hk (fun k_ hk_ e_ => by have e2 : w6.heap.size ≤ k_ ∧ k_ < w7.heap.size := e_; have h2 : w9.heap.size ≤ k_ ∧ k_ < w10.heap.size := hk_; have := HS8.out; have := HS9.out; omega); replace HO3_1 := uRk HO3_1 hk (fun k_ hk_ e_ => by have e2 : w6.heap.size ≤ k_ ∧ k_ < w7.heap.size := e_; have h2 : w9.heap.size ≤ k_ ∧ k_ < w10.heap.size := hk_; have := HS8.out; have := HS9.out; omega); replace BK2 := uKk BK2 hk (fun e_ => by have e2 : w6.heap.size ≤ gb2 ∧ gb2 < w7.heap.size := e_; have := HG2.out; have := HL2.out; have := HS2.out; have := HS3.out; have := HS4.out; have := HS5.out; have := HS6.out; omega); replace BK6 := uKk BK6 hk (fun e_ => by have e2 : w6.heap.size ≤ gb6 ∧ gb6 < w7.heap.size := e_; have := HG6.out; have := HL6.out; have := HS6.out; omega); replace BK9 := uKk BK9 hk (fun e_ => by have e2 : w6.heap.size ≤ gb9 ∧ gb9 < w7.heap.size := e_; have := HG9.out; have := HL9.out; have := HS8.out; have := HS9.out; have := HS10.out; omega); clear hy0; have HS17 := zM hk.1; replace HB := zM hb2; clear hb2 hk; replace hc2_0 := zy BK2 0; replace hf2_0 := blk_frozen BK2.out 0; replace hc2_1 := zy BK2 1; replace hf2_1 := blk_frozen BK2.out 1; replace hc6_0 := zy BK6 0; replace hf6_0 := blk_frozen BK6.out 0; replace hc6_1 := zy BK6 1; replace hf6_1 := blk_frozen BK6.out 1; replace hc9_0 := zy BK9 0; replace hf9_0 := blk_frozen BK9.out 0; replace hc9_1 := zy BK9 1; replace hf9_1 := blk_frozen BK9.out 1)
    | (have hst_ : Aside0 (Below w.heap.size w w17) := HB; clear hst_; go_at_call 30; refine (laws_eqSpace.calls k4 _ _ q0 _ _ q1 _ _ q0 _ _ q1 true _ ?side1 ?side2 ?side3 ?side4 ?side5 ?side6 ?side7 ?side8 H4.out).mono ?_; (case side1 => exact zC (Kd.S_reads' HO3_0.out).2.2); (case side2 => exact (Kd.S_reads' HO3_0.out).2.1); (case side3 => exact zC (Kd.R_reads' HO3_1.out).2.2); (case side4 => exact (Kd.R_reads' HO3_1.out).2.1); (case side5 => exact zC (Kd.V_reads' HO1_0.out).2.2); (case side6 => exact (Kd.V_reads' HO1_0.out).2.1); (case side7 => exact zC (Kd.R_reads' HO1_1.out).2.2); (case side8 => exact (Kd.R_reads' HO1_1.out).2.1); rintro e w18 ⟨rfl, hb⟩; replace HO1_0 := uVb HO1_0 hb; replace HO1_1 := uRb HO1_1 hb; replace HO3_0 := uSb HO3_0 hb; replace HO3_1 := uRb HO3_1 hb; replace BK2 := uKb BK2 hb; replace BK6 := uKb BK6 hb; replace BK9 := uKb BK9 hb; have HS18 := zM hb.size; replace HB := zM (below_step HB.out hb); clear hb; replace hc2_0 := zy BK2 0; replace hf2_0 := blk_frozen BK2.out 0; replace hc2_1 := zy BK2 1; replace hf2_1 := blk_frozen BK2.out 1; replace hc6_0 := zy BK6 0; replace hf6_0 := blk_frozen BK6.out 0; replace hc6_1 := zy BK6 1; replace hf6_1 := blk_frozen BK6.out 1; replace hc9_0 := zy BK9 0; replace hf9_0 := blk_frozen BK9.out 0; replace hc9_1 := zy BK9 1; replace hf9_1 := blk_frozen BK9.out 1)
    | (have hst_ : Aside0 (Below w.heap.size w w18) := HB; clear hst_; go_at_call 31; refine (laws_markSpace.callsf _ _ _ _ q0 q1 1 kk1 mk1_0 mk1_1 w w18 HB.out HO3_0.out HO3_1.out H7.out).mono ?_; rintro e w19 ⟨rfl, hy0, hy1, hb2, hk⟩; replace HO1_0 := uVk HO1_0 hk (fun k_ hk_ e_ => by have e2 : w9.heap.size ≤ k_ ∧ k_ < w10.heap.size := e_.elim id id; have h2 : w3.heap.size ≤ k_ ∧ k_ < w4.heap.size := hk_; have := HS5.out; have := HS6.out; have := HS7.out; have := HS8.out; have := HS9.out; omega); replace HO1_1 := uRk HO1_1 hk (fun k_ hk_ e_ => by have e2 : w9.heap.size ≤ k_ ∧ k_ < w10.heap.size := e_.elim id id; have h2 : w3.heap.size ≤ k_ ∧ k_ < w4.heap.size := hk_; have := HS5.out; have := HS6.out; have := HS7.out; have := HS8.out; have := HS9.out; omega); replace BK2 := uKk BK2 hk (fun e_ => by have e2 : w9.heap.size ≤ gb2 ∧ gb2 < w10.heap.size := e_.elim id id; have := HG2.out; have := HL2.out; have := HS2.out; have := HS3.out; have := HS4.out; have := HS5.out; have := HS6.out; have := HS7.out; have := HS8.out; have := HS9.out; omega); replace BK6 := uKk BK6 hk (fun e_ => by have e2 : w9.heap.size ≤ gb6 ∧ gb6 < w10.heap.size := e_.elim id id; have := HG6.out; have := HL6.out; have := HS6.out; have := HS7.out; have := HS8.out; have := HS9.out; omega); replace BK9 := uKk BK9 hk (fun e_ => by have e2 : w9.heap.size ≤ gb9 ∧ gb9 < w10.heap.size := e_.elim id id; have := HG9.out; have := HL9.out; omega); replace HO3_0 := zM (Kd.S_mono (Kd.S_bound hy0) (fun k_ hk_ => (Or.imp id (fun h_ => ⟨h_, hk_.2.2.1⟩) hk_.1 : (w9.heap.size ≤ k_ ∧ k_ < w10.heap.size) ∨ (w18.heap.size ≤ k_ ∧ k_ < w19.heap.size)))); clear hy0; have hl3_0 := (Kd.S_reads' HO3_0.out).1; rw [hl3_0] at HO3_0; replace hl3_0 := zM hl3_0; replace HO3_1 := zM (Kd.R_mono (Kd.R_bound hy1) (fun k_ hk_ => (Or.imp id (fun h_ => ⟨h_, hk_.2.2.1⟩) hk_.1 : (w9.heap.size ≤ k_ ∧ k_ < w10.heap.size) ∨ (w18.heap.size ≤ k_ ∧ k_ < w19.heap.size)))); clear hy1; have hl3_1 := (Kd.R_reads' HO3_1.out).1; rw [hl3_1] at HO3_1; replace hl3_1 := zM hl3_1; have HS19 := zM hk.1; replace HB := zM hb2; clear hb2 hk; replace hc2_0 := zy BK2 0; replace hf2_0 := blk_frozen BK2.out 0; replace hc2_1 := zy BK2 1; replace hf2_1 := blk_frozen BK2.out 1; replace hc6_0 := zy BK6 0; replace hf6_0 := blk_frozen BK6.out 0; replace hc6_1 := zy BK6 1; replace hf6_1 := blk_frozen BK6.out 1; replace hc9_0 := zy BK9 0; replace hf9_0 := blk_frozen BK9.out 0; replace hc9_1 := zy BK9 1; replace hf9_1 := blk_frozen BK9.out 1)
    | (have hst_ : Aside0 (Below w.heap.size w w19) := HB; clear hst_; go_at_call 32; refine uArgs (args' := #[.agg #[.slice Ao3_0 mk1_0.length co3_0, .slice Ao3_1 mk1_1.length co3_1], .int .i64 1]) (by rw [hl3_0.out, hl3_1.out]) ?_; refine (laws_heldSpace.calls k8 _ _ mk1_0 _ _ mk1_1 1 kk1 _ ?side1 ?side2 ?side3 ?side4 H8.out).mono ?_; (case side1 => exact zC (Kd.S_reads' HO3_0.out).2.2); (case side2 => exact (Kd.S_reads' HO3_0.out).2.1); (case side3 => exact zC (Kd.R_reads' HO3_1.out).2.2); (case side4 => exact (Kd.R_reads' HO3_1.out).2.1); rintro e w20 ⟨rfl, hb⟩; replace HO1_0 := uVb HO1_0 hb; replace HO1_1 := uRb HO1_1 hb; replace HO3_0 := uSb HO3_0 hb; replace HO3_1 := uRb HO3_1 hb; replace BK2 := uKb BK2 hb; replace BK6 := uKb BK6 hb; replace BK9 := uKb BK9 hb; have HS20 := zM hb.size; replace HB := zM (below_step HB.out hb); clear hb; replace hc2_0 := zy BK2 0; replace hf2_0 := blk_frozen BK2.out 0; replace hc2_1 := zy BK2 1; replace hf2_1 := blk_frozen BK2.out 1; replace hc6_0 := zy BK6 0; replace hf6_0 := blk_frozen BK6.out 0; replace hc6_1 := zy BK6 1; replace hf6_1 := blk_frozen BK6.out 1; replace hc9_0 := zy BK9 0; replace hf9_0 := blk_frozen BK9.out 0; replace hc9_1 := zy BK9 1; replace hf9_1 := blk_frozen BK9.out 1)
    | (have hst_ : Aside0 (Below w.heap.size w w20) := HB; clear hst_; go_at_call 12; refine (laws_toGraph.calls k1 a0_0 _ _ l0_1 a0_0 l0_1 _ ?side1 ?side2 H1.out).mono ?_; (case side1 => exact zC (Kd.C_below HR0_1.out HB.out)); (case side2 => exact HC0_1.out); clear BK2 hc2_0 hf2_0 hc2_1 hf2_1; rintro e w21 ⟨v5_0, rfl, ho0, hb⟩; replace HO1_0 := uVb HO1_0 hb; replace HO1_1 := uRb HO1_1 hb; replace HO3_0 := uSb HO3_0 hb; replace HO3_1 := uRb HO3_1 hb; replace BK6 := uKb BK6 hb; replace BK9 := uKb BK9 hb; have HS21 := zM hb.size; have HO5_0 := uR HB.out (by first | exact ho0 | exact Kd.R_mono ho0 (fun _ _ => trivial) | exact Kd.R_mono ho0 (fun _ hk_ => hk_.1)); clear ho0; obtain ⟨Ao5_0, co5_0, eo5_0⟩ := Kd.R_slice HO5_0.out; subst eo5_0; replace HB := zM (below_step HB.out hb); clear hb; replace hc6_0 := zy BK6 0; replace hf6_0 := blk_frozen BK6.out 0; replace hc6_1 := zy BK6 1; replace hf6_1 := blk_frozen BK6.out 1; replace hc9_0 := zy BK9 0; replace hf9_0 := blk_frozen BK9.out 0; replace hc9_1 := zy BK9 1; replace hf9_1 := blk_frozen BK9.out 1)
    | (have hst_ : Aside0 (Below w.heap.size w w21) := HB; clear hst_; go_at_call 36; refine (impl_SlideSpace.calls k3 a0_0 _ _ l0_1 a1 q0 q1 q2 _ ?side1 ?side2 H3.out).mono ?_; (case side1 => exact zC (Kd.R_reads' HO5_0.out).2.2); (case side2 => exact (Kd.R_reads' HO5_0.out).2.1); clear HO5_0; rintro e w22 ⟨v6_0, v6_1, rfl, ho0, ho1, hb⟩; replace HO1_0 := uVb HO1_0 hb; replace HO1_1 := uRb HO1_1 hb; replace HO3_0 := uSb HO3_0 hb; replace HO3_1 := uRb HO3_1 hb; replace BK6 := uKb BK6 hb; replace BK9 := uKb BK9 hb; have HS22 := zM hb.size; have HO6_0 := uS HB.out (by first | exact ho0 | exact Kd.S_mono ho0 (fun _ _ => trivial) | exact Kd.S_mono ho0 (fun _ hk_ => hk_.1)); clear ho0; obtain ⟨Ao6_0, co6_0, eo6_0⟩ := Kd.S_slice HO6_0.out; subst eo6_0; have HO6_1 := uR HB.out (by first | exact ho1 | exact Kd.R_mono ho1 (fun _ _ => trivial) | exact Kd.R_mono ho1 (fun _ hk_ => hk_.1)); clear ho1; obtain ⟨Ao6_1, co6_1, eo6_1⟩ := Kd.R_slice HO6_1.out; subst eo6_1; replace HB := zM (below_step HB.out hb); clear hb; replace hc6_0 := zy BK6 0; replace hf6_0 := blk_frozen BK6.out 0; replace hc6_1 := zy BK6 1; replace hf6_1 := blk_frozen BK6.out 1; replace hc9_0 := zy BK9 0; replace hf9_0 := blk_frozen BK9.out 0; replace hc9_1 := zy BK9 1; replace hf9_1 := blk_frozen BK9.out 1)
    | ((with_reducible refine gate_dst (N := 14) rfl ?_); refine ze 14 #[.slice none 0 0, .slice none 0 0] 46 ?_; intro gb14 hg w23 hbox hb; have HG14 := zM hg; have HW14 := zM (show w.heap.size ≤ gb14 by rw [hg]; exact below_size HB.out); have HL14 := zM (blk_lt hbox); clear hg; replace HO1_0 := uVb HO1_0 hb; replace HO1_1 := uRb HO1_1 hb; replace HO3_0 := uSb HO3_0 hb; replace HO3_1 := uRb HO3_1 hb; replace HO6_0 := uSb HO6_0 hb; replace HO6_1 := uRb HO6_1 hb; replace BK6 := uKb BK6 hb; replace BK9 := uKb BK9 hb; have HS23 := zM hb.size; replace HB := zM (below_step HB.out hb); have hn6_14 : gb6 ≠ gb14 := (by have := HG14.out; have := HL6.out; have := HS6.out; have := HS7.out; have := HS8.out; have := HS9.out; have := HS10.out; have := HS11.out; have := HS12.out; have := HS13.out; have := HS14.out; have := HS15.out; have := HS16.out; have := HS17.out; have := HS18.out; have := HS19.out; have := HS20.out; have := HS21.out; have := HS22.out; omega); have hn14_6 := hn6_14.symm; have hn9_14 : gb9 ≠ gb14 := (by have := HG14.out; have := HL9.out; have := HS12.out; have := HS13.out; have := HS14.out; have := HS15.out; have := HS16.out; have := HS17.out; have := HS18.out; have := HS19.out; have := HS20.out; have := HS21.out; have := HS22.out; omega); have hn14_9 := hn9_14.symm; have BK14 := zM hbox; clear hbox hb; replace hc6_0 := zy BK6 0; replace hf6_0 := blk_frozen BK6.out 0; replace hc6_1 := zy BK6 1; replace hf6_1 := blk_frozen BK6.out 1; replace hc9_0 := zy BK9 0; replace hf9_0 := blk_frozen BK9.out 0; replace hc9_1 := zy BK9 1; replace hf9_1 := blk_frozen BK9.out 1; have hc14_0 := zy BK14 0; have hf14_0 := blk_frozen BK14.out 0; have hc14_1 := zy BK14 1; have hf14_1 := blk_frozen BK14.out 1)
    | (have hst_ : Aside0 (Below w.heap.size w w23) := HB; clear hst_; go_at_call 30; refine uBox BK14 HB HW14.out ?_; intro w24 BKn hk HBn; replace HO1_0 := uVk HO1_0 hk (fun k_ hk_ e_ => by have e2 : k_ = gb14 := e_; have := HG14.out; have := HL14.out; have h2 : w3.heap.size ≤ k_ ∧ k_ < w4.heap.size := hk_; have := HS5.out; have := HS6.out; have := HS7.out; have := HS8.out; have := HS9.out; have := HS10.out; have := HS11.out; have := HS12.out; have := HS13.out; have := HS14.out; have := HS15.out; have := HS16.out; have := HS17.out; have := HS18.out; have := HS19.out; have := HS20.out; have := HS21.out; have := HS22.out; omega); replace HO1_1 := uRk HO1_1 hk (fun k_ hk_ e_ => by have e2 : k_ = gb14 := e_; have := HG14.out; have := HL14.out; have h2 : w3.heap.size ≤ k_ ∧ k_ < w4.heap.size := hk_; have := HS5.out; have := HS6.out; have := HS7.out; have := HS8.out; have := HS9.out; have := HS10.out; have := HS11.out; have := HS12.out; have := HS13.out; have := HS14.out; have := HS15.out; have := HS16.out; have := HS17.out; have := HS18.out; have := HS19.out; have := HS20.out; have := HS21.out; have := HS22.out; omega); replace HO3_0 := uSk HO3_0 hk (fun k_ hk_ e_ => by have e2 : k_ = gb14 := e_; have := HG14.out; have := HL14.out; have h2 : (w9.heap.size ≤ k_ ∧ k_ < w10.heap.size) ∨ (w18.heap.size ≤ k_ ∧ k_ < w19.heap.size) := hk_; have := HS11.out; have := HS12.out; have := HS13.out; have := HS14.out; have := HS15.out; have := HS16.out; have := HS17.out; have := HS18.out; have := HS19.out; have := HS20.out; have := HS21.out; have := HS22.out; have := HS20.out; have := HS21.out; have := HS22.out; omega); replace HO3_1 := uRk HO3_1 hk (fun k_ hk_ e_ => by have e2 : k_ = gb14 := e_; have := HG14.out; have := HL14.out; have h2 : (w9.heap.size ≤ k_ ∧ k_ < w10.heap.size) ∨ (w18.heap.size ≤ k_ ∧ k_ < w19.heap.size) := hk_; have := HS11.out; have := HS12.out; have := HS13.out; have := HS14.out; have := HS15.out; have := HS16.out; have := HS17.out; have := HS18.out; have := HS19.out; have := HS20.out; have := HS21.out; have := HS22.out; have := HS20.out; have := HS21.out; have := HS22.out; omega); replace HO6_0 := uSk HO6_0 hk (fun k_ hk_ e_ => by have e2 : k_ = gb14 := e_; have := HG14.out; have := HL14.out; have h2 : w21.heap.size ≤ k_ ∧ k_ < w22.heap.size := hk_; omega); replace HO6_1 := uRk HO6_1 hk (fun k_ hk_ e_ => by have e2 : k_ = gb14 := e_; have := HG14.out; have := HL14.out; have h2 : w21.heap.size ≤ k_ ∧ k_ < w22.heap.size := hk_; omega); replace BK6 := uKk BK6 hk (fun e_ => by have e2 : gb6 = gb14 := e_; have := HG14.out; have := HL14.out; have := HG6.out; have := HL6.out; have := HS6.out; have := HS7.out; have := HS8.out; have := HS9.out; have := HS10.out; have := HS11.out; have := HS12.out; have := HS13.out; have := HS14.out; have := HS15.out; have := HS16.out; have := HS17.out; have := HS18.out; have := HS19.out; have := HS20.out; have := HS21.out; have := HS22.out; omega); replace BK9 := uKk BK9 hk (fun e_ => by have e2 : gb9 = gb14 := e_; have := HG14.out; have := HL14.out; have := HG9.out; have := HL9.out; have := HS12.out; have := HS13.out; have := HS14.out; have := HS15.out; have := HS16.out; have := HS17.out; have := HS18.out; have := HS19.out; have := HS20.out; have := HS21.out; have := HS22.out; omega); replace BK14 := BKn; replace HB := HBn; clear BKn HBn; have HS24 := zM hk.1; clear hk; refine (laws_eqSpace.calls k4 _ _ q0 _ _ q1 _ _ q0 _ _ q1 true _ ?side1 ?side2 ?side3 ?side4 ?side5 ?side6 ?side7 ?side8 H4.out).mono ?_; (case side1 => exact zC (Kd.S_reads' HO6_0.out).2.2); (case side2 => exact (Kd.S_reads' HO6_0.out).2.1); (case side3 => exact zC (Kd.R_reads' HO6_1.out).2.2); (case side4 => exact (Kd.R_reads' HO6_1.out).2.1); (case side5 => exact zC (Kd.V_reads' HO1_0.out).2.2); (case side6 => exact (Kd.V_reads' HO1_0.out).2.1); (case side7 => exact zC (Kd.R_reads' HO1_1.out).2.2); (case side8 => exact (Kd.R_reads' HO1_1.out).2.1); clear HO1_0 HO1_1; clear HO6_0 HO6_1; clear BK6 hc6_0 hf6_0 hc6_1 hf6_1; clear BK14 hc14_0 hf14_0 hc14_1 hf14_1; rintro e w25 ⟨rfl, hb⟩; replace HO3_0 := uSb HO3_0 hb; replace HO3_1 := uRb HO3_1 hb; replace BK9 := uKb BK9 hb; have HS25 := zM hb.size; replace HB := zM (below_step HB.out hb); clear hb; replace hc9_0 := zy BK9 0; replace hf9_0 := blk_frozen BK9.out 0; replace hc9_1 := zy BK9 1; replace hf9_1 := blk_frozen BK9.out 1)
    | (have hst_ : Aside0 (Below w.heap.size w w25) := HB; clear hst_; go_at_call 32; refine uArgs (args' := #[.agg #[.slice Ao3_0 mk1_0.length co3_0, .slice Ao3_1 mk1_1.length co3_1], .int .i64 1]) (by rw [hl3_0.out, hl3_1.out]) ?_; refine (laws_heldSpace.calls k8 _ _ mk1_0 _ _ mk1_1 1 kk1 _ ?side1 ?side2 ?side3 ?side4 H8.out).mono ?_; (case side1 => exact zC (Kd.S_reads' HO3_0.out).2.2); (case side2 => exact (Kd.S_reads' HO3_0.out).2.1); (case side3 => exact zC (Kd.R_reads' HO3_1.out).2.2); (case side4 => exact (Kd.R_reads' HO3_1.out).2.1); clear HO3_0 HO3_1; clear BK9 hc9_0 hf9_0 hc9_1 hf9_1; rintro e w26 ⟨rfl, hb⟩; have HS26 := zM hb.size; replace HB := zM (below_step HB.out hb); clear hb))
  go_ret
  exact ⟨rfl, HB.out⟩
end Go.Proofs.Ytadjbmcfgjmhkaa.P
namespace Go.Proofs.Ytadjbmcfgjmhkaa.P
open Go.RowKit Go.Proofs.YtadjbmcfgjmhkaaW.PrintWords Go.Proofs.YtadjbmcfgjmhkaaW.PrintLast Go.Proofs.YtadjbmcfgjmhkaaW.PrintMore
set_option linter.unusedVariables false
set_option linter.unusedSimpArgs false

theorem own_at (l : List Int) (h : l.length ≤ 1048576) : spec_l1Own.f l = some l := by
  unfold spec_l1Own.f
  rw [Option.bind_some, List.length_nil, if_pos (by omega), List.nil_append]
theorem same_loop (x y : List Int) (hx : x.length ≤ 1048576) (hxy : x.length = y.length) (d : Nat) : ∀ (m : Nat), x.length - m = d → m ≤ x.length → Ev (fun k => spec_l1Same.l0 k x y (m : Int)) (decide (x.drop m = y.drop m)) := by
  induction d with
  | zero =>
    intro m h0 h1
    refine Ev.step (fun k => by rw [spec_l1Same.l0]) (Ev.neg (by omega) ?_)
    rw [List.drop_eq_nil_of_le (by omega), List.drop_eq_nil_of_le (by omega), decide_eq_true rfl]
    exact Ev.now _
  | succ d ih =>
    intro m h0 h1
    have hm : m < x.length := by omega
    have hy : m < y.length := by omega
    refine Ev.step (fun k => by rw [spec_l1Same.l0]) (Ev.pos (by omega) (Ev.pos (by omega) (Ev.pos (by omega) ?_)))
    rw [rd_at x m hm, rd_at y m hy, List.drop_eq_getElem_cons hm, List.drop_eq_getElem_cons hy]
    by_cases c : x[m] = y[m]
    · have := ih (m + 1) (by omega) (by omega)
      rw [show decide (x[m] :: x.drop (m + 1) = y[m] :: y.drop (m + 1)) = decide (x.drop (m + 1) = y.drop (m + 1)) from by rw [decide_eq_decide, List.cons.injEq]; exact ⟨fun h => h.2, fun h => ⟨c, h⟩⟩, wrap_up hm (by omega)]
      exact Ev.pos c this
    · rw [decide_eq_false (fun h => c (by injection h))]
      exact Ev.neg c (Ev.now _)
theorem same_ev (x y : List Int) (hx : x.length ≤ 1048576) : Ev (fun k => spec_l1Same.f k x y) (decide (x = y)) := by
  unfold spec_l1Same.f
  by_cases c : x.length = y.length
  · have := same_loop x y hx c x.length 0 (by omega) (Nat.zero_le _)
    rw [List.drop_zero, List.drop_zero] at this
    exact Ev.pos (by omega) this
  · rw [decide_eq_false (fun h => c (by rw [h]))]
    exact Ev.neg (by omega) (Ev.now _)
theorem lex_ins {o : List (List Int)} (h : LexS o) (s : List Int) (p : Nat) (h1 : ∀ x ∈ o.drop p, befL s x = true) (h2 : ∀ x ∈ o.take p, befL x s = true) :
    LexS (o.take p ++ [s] ++ o.drop p) ∧ ∀ x, x ∈ o.take p ++ [s] ++ o.drop p ↔ x ∈ o ∨ x = s := by
  have hm : ∀ x, x ∈ o ↔ x ∈ o.take p ∨ x ∈ o.drop p := fun x => by rw [← List.mem_append, List.take_append_drop]
  constructor
  · unfold LexS
    rw [List.append_assoc, List.singleton_append, List.pairwise_append, List.pairwise_cons]
    refine ⟨h.sublist (List.take_sublist ..), ⟨h1, h.sublist (List.drop_sublist ..)⟩, fun a ha b hb => ?_⟩
    rcases List.mem_cons.1 hb with rfl | hb
    · exact h2 a ha
    · exact befL_trans _ _ _ (h2 a ha) (h1 b hb)
  · intro x
    rw [hm x]
    simp only [List.mem_append, List.mem_singleton]
    constructor
    · rintro ((h | h) | h)
      · exact .inl (.inl h)
      · exact .inr h
      · exact .inl (.inr h)
    · rintro ((h | h) | h)
      · exact .inl (.inl h)
      · exact .inr h
      · exact .inl (.inr h)
section
variable (ls : List (List Int)) (hls : ls.length ≤ 1048576) (hb : ∀ s ∈ ls, s.length ≤ 1048576)
include hls hb
theorem sorted_in (i : Nat) (hi : i < ls.length) (o : List (List Int)) (ho : LexS o) (hol : o.length ≤ i) (hob : ∀ x ∈ o, x.length ≤ 1048576) : ∀ p : Nat, p ≤ o.length → (∀ x ∈ o.drop p, befL ls[i] x = true) →
    ∃ R, LexS R ∧ R.length ≤ o.length + 1 ∧ (∀ x, x ∈ R ↔ x ∈ o ∨ x = ls[i]) ∧ ∀ F, Ev (fun k => spec_l2Sorted.l0 k ls R (wrap64 ((i : Int) + 1))) F → Ev (fun k => spec_l2Sorted.l1 k ls o (i : Int) (p : Int)) F := by
  have hs := hb ls[i] (List.getElem_mem hi)
  intro p
  induction p with
  | zero =>
    intro hp hd
    obtain ⟨g1, g2⟩ := lex_ins ho ls[i] 0 hd (fun x hx => by simp at hx)
    refine ⟨_, g1, by simp, g2, fun F hF => ?_⟩
    refine Ev.step (fun k => by rw [spec_l2Sorted.l1]) ?_
    refine Ev.neg (by omega) ?_
    refine Ev.step (fun k => by rw [spec_l2Sorted.j2]) ?_
    refine Ev.pos rfl ?_
    refine Ev.bindo rfl ?_
    refine Ev.pos (by omega) ?_
    refine Ev.pos (by omega) ?_
    refine Ev.bindo rfl ?_
    refine Ev.pos (by simp) ?_
    refine Ev.bindo rfl ?_
    refine Ev.pos (by omega) ?_
    refine Ev.pos (by omega) ?_
    rw [rdL_at ls i hi]
    refine Ev.bindo (own_at _ hs) ?_
    refine Ev.pos (by simp) ?_
    refine Ev.bindo rfl ?_
    refine Ev.bindo rfl ?_
    refine Ev.pos (by simp; omega) ?_
    exact hF
  | succ p ih =>
    intro hp hd
    have hpl : p < o.length := by omega
    have hw : wrap64 (((p + 1 : Nat) : Int) - 1) = (p : Int) := by unfold wrap64; omega
    cases c : befL ls[i] o[p] with
    | true =>
      obtain ⟨R, r1, r2, r3, r4⟩ := ih (by omega) (fun x hx => by
        rw [List.drop_eq_getElem_cons hpl] at hx
        rcases List.mem_cons.1 hx with rfl | hx
        · exact c
        · exact hd x hx)
      refine ⟨R, r1, r2, r3, fun F hF => ?_⟩
      refine Ev.step (fun k => by rw [spec_l2Sorted.l1]) ?_
      refine Ev.pos (by omega) ?_
      refine Ev.pos (by omega) ?_
      refine Ev.pos (by omega) ?_
      rw [hw]
      refine Ev.pos (by omega) ?_
      refine Ev.pos (by omega) ?_
      rw [rdL_at ls i hi, rdL_at o p hpl]
      refine Ev.bind (l2Before_ev _ _ hs (hob _ (List.getElem_mem hpl))) ?_
      refine Ev.pos c ?_
      exact r4 F hF
    | false =>
      by_cases e : o[p] = ls[i]
      · refine ⟨o, ho, by omega, fun x => ⟨.inl, fun h => h.elim id fun h => by rw [h, ← e]; exact List.getElem_mem hpl⟩, fun F hF => ?_⟩
        refine Ev.step (fun k => by rw [spec_l2Sorted.l1]) ?_
        refine Ev.pos (by omega) ?_
        refine Ev.pos (by omega) ?_
        refine Ev.pos (by omega) ?_
        rw [hw]
        refine Ev.pos (by omega) ?_
        refine Ev.pos (by omega) ?_
        rw [rdL_at ls i hi, rdL_at o p hpl]
        refine Ev.bind (l2Before_ev _ _ hs (hob _ (List.getElem_mem hpl))) ?_
        refine Ev.neg (by rw [c]; decide) ?_
        refine Ev.step (fun k => by rw [spec_l2Sorted.j2]) ?_
        refine Ev.neg (by omega) ?_
        rw [hw]
        refine Ev.pos (by omega) ?_
        refine Ev.pos (by omega) ?_
        refine Ev.pos (by omega) ?_
        refine Ev.pos (by omega) ?_
        rw [rdL_at ls i hi, rdL_at o p hpl]
        refine Ev.bind (same_ev _ _ (hob _ (List.getElem_mem hpl))) ?_
        refine Ev.pos (decide_eq_true e) ?_
        exact hF
      · have hlt : befL o[p] ls[i] = true := by
          cases c2 : befL o[p] ls[i] with
          | true => rfl
          | false => exact absurd (befL_tri _ _ c2 c) e
        obtain ⟨g1, g2⟩ := lex_ins ho ls[i] (p + 1) hd (fun x hx => by
          obtain ⟨q, hq, rfl⟩ := List.getElem_of_mem hx
          rw [List.length_take] at hq
          rw [List.getElem_take]
          by_cases hqp : q = p
          · subst hqp; exact hlt
          · exact befL_trans _ _ _ (List.pairwise_iff_getElem.1 ho q p (by omega) hpl (by omega)) hlt)
        refine ⟨_, g1, by simp [List.length_take, List.length_drop]; omega, g2, fun F hF => ?_⟩
        refine Ev.step (fun k => by rw [spec_l2Sorted.l1]) ?_
        refine Ev.pos (by omega) ?_
        refine Ev.pos (by omega) ?_
        refine Ev.pos (by omega) ?_
        rw [hw]
        refine Ev.pos (by omega) ?_
        refine Ev.pos (by omega) ?_
        rw [rdL_at ls i hi, rdL_at o p hpl]
        refine Ev.bind (l2Before_ev _ _ hs (hob _ (List.getElem_mem hpl))) ?_
        refine Ev.neg (by rw [c]; decide) ?_
        refine Ev.step (fun k => by rw [spec_l2Sorted.j2]) ?_
        refine Ev.neg (by omega) ?_
        rw [hw]
        refine Ev.pos (by omega) ?_
        refine Ev.pos (by omega) ?_
        refine Ev.pos (by omega) ?_
        refine Ev.pos (by omega) ?_
        rw [rdL_at ls i hi, rdL_at o p hpl]
        refine Ev.bind (same_ev _ _ (hob _ (List.getElem_mem hpl))) ?_
        refine Ev.neg (by rw [decide_eq_false e]; decide) ?_
        refine Ev.bindo rfl ?_
        refine Ev.pos (by omega) ?_
        refine Ev.pos (by omega) ?_
        refine Ev.bindo rfl ?_
        rw [Int.toNat_natCast]
        refine Ev.pos (by simp [List.length_take]; omega) ?_
        refine Ev.bindo rfl ?_
        refine Ev.bindo (own_at _ hs) ?_
        refine Ev.pos (by simp [List.length_take]; omega) ?_
        refine Ev.bindo rfl ?_
        refine Ev.bindo rfl ?_
        refine Ev.pos (by simp [List.length_take, List.length_drop]; omega) ?_
        exact hF
theorem sorted_loop (d : Nat) : ∀ (m : Nat) (o : List (List Int)), ls.length - m = d → m ≤ ls.length → LexS o → o.length ≤ m → (∀ x, x ∈ o ↔ x ∈ ls.take m) →
    ∃ R, LexS R ∧ R.length ≤ ls.length ∧ (∀ x, x ∈ R ↔ x ∈ ls) ∧ Ev (fun k => spec_l2Sorted.l0 k ls o (m : Int)) R := by
  induction d with
  | zero =>
    intro m o h0 h1 h2 h3 h4
    refine ⟨o, h2, by omega, fun x => by rw [h4 x, List.take_of_length_le (by omega)], ?_⟩
    refine Ev.step (fun k => by rw [spec_l2Sorted.l0]) ?_
    exact Ev.neg (by omega) (Ev.now _)
  | succ d ih =>
    intro m o h0 h1 h2 h3 h4
    have hm : m < ls.length := by omega
    obtain ⟨R, r1, r2, r3, r4⟩ := sorted_in ls hls hb m hm o h2 h3 (fun x hx => hb x (List.mem_of_mem_take ((h4 x).1 hx))) o.length (Nat.le_refl _) (fun x hx => by rw [List.drop_length] at hx; simp at hx)
    obtain ⟨R', q1, q2, q3, q4⟩ := ih (m + 1) R (by omega) (by omega) r1 (by omega) (fun x => by
      rw [r3 x, h4 x, List.take_succ_eq_append_getElem hm, List.mem_append, List.mem_singleton])
    rw [← wrap_up hm (by omega)] at q4
    refine ⟨R', q1, q2, q3, ?_⟩
    refine Ev.step (fun k => by rw [spec_l2Sorted.l0]) ?_
    refine Ev.pos (by omega) ?_
    exact r4 R' q4
end
theorem l2Sorted_ev (ls : List (List Int)) (hls : ls.length ≤ 1048576) (hb : ∀ s ∈ ls, s.length ≤ 1048576) : ∃ R, LexS R ∧ R.length ≤ ls.length ∧ (∀ x, x ∈ R ↔ x ∈ ls) ∧ Ev (fun k => spec_l2Sorted.f k ls) R := by
  obtain ⟨R, r1, r2, r3, r4⟩ := sorted_loop ls hls hb ls.length 0 [] (by omega) (Nat.zero_le _) List.Pairwise.nil (Nat.le_refl _) (fun x => by simp)
  refine ⟨R, r1, r2, r3, ?_⟩
  unfold spec_l2Sorted.f
  simpa only [Int.natCast_zero] using r4
theorem l2Sorted_nodup (ls : List (List Int)) (hls : ls.length ≤ 1048576) (hb : ∀ s ∈ ls, s.length ≤ 1048576) (hn : ls.Nodup) : Ev (fun k => spec_l2Sorted.f k ls) (sortLL ls) := by
  obtain ⟨R, r1, r2, r3, r4⟩ := l2Sorted_ev ls hls hb
  rw [← lex_unique R (sortLL ls) r1 (sortLL_lex ls hn) (fun s => by rw [r3, sortLL_mem])]
  exact r4
end Go.Proofs.Ytadjbmcfgjmhkaa.P
namespace Go.Proofs.Ytadjbmcfgjmhkaa.P
open Go.RowKit Go.Proofs.YtadjbmcfgjmhkaaW.PrintWords Go.Proofs.YtadjbmcfgjmhkaaW.PrintLast Go.Proofs.YtadjbmcfgjmhkaaW.PrintMore
set_option linter.unusedVariables false
set_option linter.unusedSimpArgs false

abbrev bagL (b : Int) : List Int := selI (hasI b) 8 0
theorem hasB_fin : ∀ b : Fin 256, ∀ y : Fin 8, (Go.bits .and .i64 (shr .i64 b y) 1 == 1) = hasI b y := by decide +kernel
theorem hasB_at {b y : Int} (hb : 0 ≤ b ∧ b < 256) (hy : 0 ≤ y ∧ y < 8) : (Go.bits .and .i64 (shr .i64 b y) 1 = 1) ↔ hasI b y = true := by
  obtain ⟨i, rfl⟩ := fin_of (n := 256) hb.1 hb.2
  obtain ⟨j, rfl⟩ := fin_of (n := 8) hy.1 hy.2
  have := hasB_fin i j
  rw [← this, beq_iff_eq]
theorem high_fin : ∀ n : Fin 9, ∀ b : Fin 256, decide (b.val < 2 ^ n.val) = (List.range 8).all (fun y => decide (y < n.val) || !hasI b y) := by decide +kernel
theorem high_at {n : Nat} {b : Int} (hn : n ≤ 8) (hb : 0 ≤ b ∧ b < 256) : b < ((2 ^ n : Nat) : Int) ↔ ∀ y : Int, (n : Int) ≤ y → y < 8 → hasI b y = false := by
  obtain ⟨i, rfl⟩ := fin_of (n := 256) hb.1 hb.2
  have h := high_fin ⟨n, by omega⟩ i
  have e1 : ((i.val : Int) < ((2 ^ n : Nat) : Int)) ↔ decide (i.val < 2 ^ n) = true := by rw [decide_eq_true_eq]; omega
  rw [e1, h, List.all_eq_true]
  constructor
  · intro h y h0 h1
    have := h y.toNat (by rw [List.mem_range]; omega)
    simp only [Bool.or_eq_true, decide_eq_true_eq, Bool.not_eq_true'] at this
    rw [show ((y.toNat : Nat) : Int) = y by omega] at this
    exact this.resolve_left (by omega)
  · intro h y hy
    rw [List.mem_range] at hy
    by_cases c : y < n
    · simp [c]
    · have := h (y : Int) (by omega) (by omega)
      simp [this]
theorem bag_left : ∀ b : Fin 256, bagI 0 (selI (hasI b) 8 0) = b := by decide +kernel
theorem bag_left_at {b : Int} (hb : 0 ≤ b ∧ b < 256) : bagI 0 (bagL b) = b := by
  obtain ⟨i, rfl⟩ := fin_of (n := 256) hb.1 hb.2
  exact bag_left i
theorem bits_loop (n : Int) (b : Int) (hn : n ≤ 8) (hb : 0 ≤ b ∧ b < 256) (d : Nat) : ∀ (y : Int) (acc : List Int), (n - y).toNat = d → 0 ≤ y → acc.length + d ≤ 1000 → Ev (fun k => spec_l2Bits.l0 k n b acc y) (acc ++ selI (hasI b) d y) := by
  induction d with
  | zero =>
    intro y acc h0 h1 h2
    refine Ev.step (fun k => by rw [spec_l2Bits.l0]) (Ev.neg (by omega) ?_)
    simp only [selI, List.append_nil]
    exact Ev.now _
  | succ d ih =>
    intro y acc h0 h1 h2
    refine Ev.step (fun k => by rw [spec_l2Bits.l0]) (Ev.pos (by omega) (Ev.pos (by omega) ?_))
    have hw : wrap64 (y + 1) = y + 1 := wrap_nat (by omega) (by omega)
    rw [hw, selI]
    by_cases c : hasI b y = true
    · rw [if_pos c, ← List.append_assoc]
      refine Ev.pos ((hasB_at hb ⟨h1, by omega⟩).2 c) (Ev.pos (by omega) ?_)
      exact ih (y + 1) _ (by omega) (by omega) (by rw [List.length_append, List.length_singleton]; omega)
    · rw [if_neg c, List.nil_append]
      exact Ev.neg (fun h => c ((hasB_at hb ⟨h1, by omega⟩).1 h)) (ih (y + 1) acc (by omega) (by omega) (by omega))
theorem bits_ev (n : Nat) (b : Int) (hn : n ≤ 8) (hb : 0 ≤ b ∧ b < ((2 ^ n : Nat) : Int)) : Ev (fun k => spec_l2Bits.f k (n : Int) b) (bagL b) := by
  have hpow : 2 ^ n ≤ 256 := Nat.pow_le_pow_right (n := 2) (by decide) (show n ≤ 8 from hn)
  have h := bits_loop (n : Int) b (by omega) ⟨hb.1, by omega⟩ n 0 [] (by omega) (by omega) (by simp; omega)
  unfold spec_l2Bits.f
  have e : bagL b = selI (hasI b) n 0 := by
    unfold bagL
    rw [show 8 = n + (8 - n) by omega, selI_add, selI_none _ (8 - n), List.append_nil]
    intro z h0 h1
    exact (high_at hn ⟨hb.1, by omega⟩).1 hb.2 z (by omega) (by omega)
  rw [e]
  simpa only [List.nil_append] using h
/-- A set of nodes. -/
def SetN (n : Nat) (s : List Int) : Prop := s.Pairwise (· < ·) ∧ ∀ x ∈ s, 0 ≤ x ∧ x < (n : Int)
theorem SetN.ris {n : Nat} {s : List Int} (h : SetN n s) : risI 0 ((n : Int) - 1) none s = true := risI_of _ _ s none h.1 (fun x hx => by have := h.2 x hx; omega) (fun q e => by cases e)
theorem SetN.wide {n m : Nat} {s : List Int} (h : SetN n s) (hm : n ≤ m) : SetN m s := ⟨h.1, fun x hx => by have := h.2 x hx; omega⟩
theorem selI_pw (f : Int → Bool) (d : Nat) : ∀ y, (selI f d y).Pairwise (· < ·) := by
  induction d with
  | zero => intro y; exact List.Pairwise.nil
  | succ d ih =>
    intro y
    simp only [selI]
    by_cases c : f y = true
    · rw [if_pos c, List.singleton_append, List.pairwise_cons]
      exact ⟨fun z hz => by have := ((selI_mem f d (y + 1) z).1 hz).1; omega, ih (y + 1)⟩
    · rw [if_neg c, List.nil_append]
      exact ih (y + 1)
theorem bagL_set {n : Nat} {b : Int} (hn : n ≤ 8) (hb : 0 ≤ b ∧ b < ((2 ^ n : Nat) : Int)) : SetN n (bagL b) := by
  have hpow : 2 ^ n ≤ 256 := Nat.pow_le_pow_right (n := 2) (by decide) (show n ≤ 8 from hn)
  refine ⟨selI_pw _ _ _, fun x hx => ?_⟩
  obtain ⟨h1, h2⟩ := (selI_mem _ _ _ _).1 hx
  have h3 := (high_at hn ⟨hb.1, by omega⟩).1 hb.2
  refine ⟨by omega, ?_⟩
  by_cases c : x < (n : Int)
  · exact c
  · have := h3 x (by omega) (by omega)
    rw [h2] at this
    exact absurd this (by decide)
theorem pw_unique {l1 l2 : List Int} (h1 : l1.Pairwise (· < ·)) (h2 : l2.Pairwise (· < ·)) (h : ∀ x, x ∈ l1 ↔ x ∈ l2) : l1 = l2 := by
  induction l1 generalizing l2 with
  | nil =>
    cases l2 with
    | nil => rfl
    | cons b u => exact absurd ((h b).2 (List.mem_cons_self ..)) (by simp)
  | cons a t ih =>
    cases l2 with
    | nil => exact absurd ((h a).1 (List.mem_cons_self ..)) (by simp)
    | cons b u =>
      have p1 := List.pairwise_cons.1 h1
      have p2 := List.pairwise_cons.1 h2
      have hab : a = b := by
        rcases List.mem_cons.1 ((h a).1 (List.mem_cons_self ..)) with e | e
        · exact e
        · rcases List.mem_cons.1 ((h b).2 (List.mem_cons_self ..)) with e2 | e2
          · exact e2.symm
          · have := p1.1 b e2
            have := p2.1 a e
            omega
      subst hab
      rw [ih p1.2 p2.2 fun s => ?_]
      constructor
      · intro hs
        rcases List.mem_cons.1 ((h s).1 (List.mem_cons_of_mem _ hs)) with e | e
        · have := p1.1 s hs; omega
        · exact e
      · intro hs
        rcases List.mem_cons.1 ((h s).2 (List.mem_cons_of_mem _ hs)) with e | e
        · have := p2.1 s hs; omega
        · exact e
theorem bag_list_set {l : List Int} (h : risI 0 (((8 : Nat) : Int) - 1) none l = true) : bagL (bagI 0 l) = l := by
  have hp := risI_pw _ _ l none h
  have hx : ∀ x ∈ l, 0 ≤ x ∧ x < 8 := fun x hx => by have := risI_all _ _ l none h x hx; omega
  have hb := (bagI_at l 0 (by omega) hx).2
  refine pw_unique (selI_pw _ _ _) hp.1 fun x => ?_
  rw [selI_mem]
  constructor
  · rintro ⟨h1, h2⟩
    rw [hb x (by omega) (by omega), hasI_nil (by omega) (by omega), Bool.false_or, decide_eq_true_eq] at h2
    exact h2
  · intro hx'
    have := hx x hx'
    refine ⟨by omega, ?_⟩
    rw [hb x (by omega) (by omega), hasI_nil (by omega) (by omega), Bool.false_or, decide_eq_true_eq]
    exact hx'
theorem SetN.code {n : Nat} {s : List Int} (hn : n ≤ 8) (h : SetN n s) : (0 ≤ bagI 0 s ∧ bagI 0 s < ((2 ^ n : Nat) : Int)) ∧ bagL (bagI 0 s) = s := by
  have h8 := (h.wide hn).ris
  have hb := bagI_at s 0 (by omega) (fun x hx => by have := h.2 x hx; omega)
  refine ⟨⟨hb.1.1, (high_at hn hb.1).2 fun y h0 h1 => ?_⟩, bag_list_set h8⟩
  rw [hb.2 y (by omega) h1, hasI_nil (by omega) h1, Bool.false_or, decide_eq_false_iff_not]
  intro hy
  have := h.2 y hy
  omega
theorem codes_mem {n : Nat} (hn : n ≤ 8) (p : Int → Bool) (s : List Int) : s ∈ codesL p (2 ^ n) ↔ SetN n s ∧ p (bagI 0 s) = true := by
  have hpow : 2 ^ n ≤ 256 := Nat.pow_le_pow_right (n := 2) (by decide) (show n ≤ 8 from hn)
  unfold codesL
  rw [List.mem_map]
  constructor
  · rintro ⟨b, hb, rfl⟩
    obtain ⟨h1, h2⟩ := (selI_mem _ _ _ _).1 hb
    have h3 : 0 ≤ b ∧ b < ((2 ^ n : Nat) : Int) := ⟨h1.1, by omega⟩
    refine ⟨bagL_set hn h3, ?_⟩
    rw [bag_left_at ⟨h3.1, by omega⟩]
    exact h2
  · rintro ⟨h1, h2⟩
    have h3 := h1.code hn
    exact ⟨bagI 0 s, (selI_mem _ _ _ _).2 ⟨by have := h3.1; omega, h2⟩, h3.2⟩
theorem codes_nodup {n : Nat} (hn : n ≤ 256) (p : Int → Bool) : (codesL p n).Nodup := by
  unfold codesL
  refine List.Pairwise.map _ ?_ (List.Pairwise.and_mem.1 (selI_pw p n 0))
  rintro a b ⟨ha, hb, hab⟩ e
  have h1 := ((selI_mem _ _ _ _).1 ha).1
  have h2 := ((selI_mem _ _ _ _).1 hb).1
  have := congrArg (bagI 0) e
  rw [bag_left_at ⟨by omega, by omega⟩, bag_left_at ⟨by omega, by omega⟩] at this
  omega
theorem SetN.len {n : Nat} {s : List Int} (h : SetN n s) : s.length ≤ n := by
  have : ∀ (s : List Int) (a : Int), s.Pairwise (· < ·) → (∀ x ∈ s, a ≤ x ∧ x < (n : Int)) → (s.length : Int) ≤ (n : Int) - a ∨ s = [] := by
    intro s
    induction s with
    | nil => intro a _ _; exact .inr rfl
    | cons x t ih =>
      intro a h1 h2
      have p1 := List.pairwise_cons.1 h1
      have hx := h2 x (List.mem_cons_self ..)
      rcases ih (x + 1) p1.2 (fun y hy => ⟨by have := p1.1 y hy; omega, (h2 y (List.mem_cons_of_mem _ hy)).2⟩) with h3 | h3
      · exact .inl (by rw [List.length_cons]; omega)
      · subst h3
        exact .inl (by rw [List.length_singleton]; omega)
  rcases this s 0 h.1 h.2 with h3 | h3
  · omega
  · subst h3; exact Nat.zero_le _
end Go.Proofs.Ytadjbmcfgjmhkaa.P
namespace Go.Proofs.Ytadjbmcfgjmhkaa.P
open Go.RowKit Go.Proofs.YtadjbmcfgjmhkaaW.PrintWords Go.Proofs.YtadjbmcfgjmhkaaW.PrintLast Go.Proofs.YtadjbmcfgjmhkaaW.PrintMore
set_option linter.unusedVariables false

def freeN (e : List S70) (l : List Int) (r : Bool) : Nat → Nat → Bool
  | 0, _ => r
  | d + 1, i => if (l.take i).any (fun y => hasP e y (l[i]?.getD 0)) = true then false else freeN e l r d (i + 1)
theorem freeN_iff (e : List S70) (l : List Int) (r : Bool) (d : Nat) : ∀ i, freeN e l r d i = true ↔ r = true ∧ ∀ q, i ≤ q → q < i + d → ∀ y ∈ l.take q, ¬ hasP e y (l[q]?.getD 0) = true := by
  induction d with
  | zero => intro i; simp only [freeN]; exact ⟨fun h => ⟨h, fun q h1 h2 => by omega⟩, fun h => h.1⟩
  | succ d ih =>
    intro i
    simp only [freeN]
    by_cases c : (l.take i).any (fun y => hasP e y (l[i]?.getD 0)) = true
    · rw [if_pos c]
      refine ⟨fun h => by simp at h, fun h => ?_⟩
      obtain ⟨y, hy, hc⟩ := List.any_eq_true.1 c
      exact absurd hc (h.2 i (Nat.le_refl _) (by omega) y hy)
    · rw [if_neg c, ih]
      refine and_congr_right fun _ => ⟨fun h q h1 h2 y hy hc => ?_, fun h q h1 h2 => h q (by omega) (by omega)⟩
      by_cases hq : q = i
      · subst hq
        exact c (List.any_eq_true.2 ⟨y, hy, hc⟩)
      · exact h q (by omega) (by omega) y hy hc
section
variable (a : Int) (e : List S70) (l : List Int) (he : e.length ≤ 1048576) (hl : l.length ≤ 1048576)
include he hl
theorem free_row {R : Bool} (i : Nat) (hi : i < l.length) (d : Nat) : ∀ (j : Nat), i - j = d → j ≤ i → Ev (fun k => spec_l3Free.l0 k l (wrap64 ((i : Int) + 1)) a e) R →
    Ev (fun k => spec_l3Free.l1 k l (i : Int) (j : Int) a e) (if ((l.take i).drop j).any (fun y => hasP e y (l[i]?.getD 0)) = true then false else R) := by
  induction d with
  | zero =>
    intro j h0 h1 h
    refine Ev.step (fun k => by rw [spec_l3Free.l1]) (Ev.neg (by omega) ?_)
    rw [List.drop_eq_nil_of_le (by rw [List.length_take]; omega), List.any_nil, if_neg (by decide)]
    exact h
  | succ d ih =>
    intro j h0 h1 h
    have hj : j < l.length := by omega
    refine Ev.step (fun k => by rw [spec_l3Free.l1]) (Ev.pos (by omega) (Ev.pos (by omega) (Ev.pos (by omega) (Ev.pos (by omega) (Ev.pos (by omega) ?_)))))
    rw [rd_at l j hj, rd_at l i hi]
    refine Ev.bind (near_ev a e l[j] l[i] he) ?_
    have hd : (l.take i).drop j = l[j] :: (l.take i).drop (j + 1) := by
      rw [List.drop_eq_getElem_cons (by rw [List.length_take]; omega), List.getElem_take]
    rw [hd, List.any_cons, List.getElem?_eq_getElem hi, Option.getD_some]
    by_cases c : hasP e l[j] l[i] = true
    · rw [c, Bool.true_or, if_pos rfl]
      exact Ev.pos rfl (Ev.now _)
    · have c' : hasP e l[j] l[i] = false := by simpa using c
      rw [c', Bool.false_or, wrap_up hj (by omega)]
      have := ih (j + 1) (by omega) (by omega) h
      rw [List.getElem?_eq_getElem hi, Option.getD_some] at this
      exact Ev.neg (by decide) this
theorem free_loop (d : Nat) : ∀ (i : Nat), l.length - i = d → i ≤ l.length → Ev (fun k => spec_l3Free.l0 k l (i : Int) a e) (freeN e l (risI 0 (wrap64 (a - 1)) none l) d i) := by
  induction d with
  | zero =>
    intro i h0 h1
    refine Ev.step (fun k => by rw [spec_l3Free.l0]) (Ev.neg (by omega) ?_)
    exact Ev.bind (l2Set_ev a e l hl) (Ev.now _)
  | succ d ih =>
    intro i h0 h1
    have hi : i < l.length := by omega
    refine Ev.step (fun k => by rw [spec_l3Free.l0]) (Ev.pos (by omega) ?_)
    have h := ih (i + 1) (by omega) (by omega)
    rw [← wrap_up hi (by omega)] at h
    have := free_row a e l he hl i hi i 0 (by omega) (by omega) h
    simpa only [List.drop_zero, freeN, Int.natCast_zero] using this
end
theorem l3Free_ev (a : Int) (e : List S70) (l : List Int) (he : e.length ≤ 1048576) (hl : l.length ≤ 1048576) : Ev (fun k => spec_l3Free.f k a e l) (freeN e l (risI 0 (wrap64 (a - 1)) none l) l.length 0) :=
  free_loop a e l he hl l.length 0 (by omega) (Nat.zero_le _)
/-- No edge has both nodes in the set. -/
def freeI (e : List S70) (l : List Int) : Bool := !(e.any fun s => decide (s.f0 ∈ l) && decide (s.f1 ∈ l))
theorem hasP_iff (e : List S70) (x y : Int) : hasP e x y = true ↔ ∃ s ∈ e, (s.f0 = x ∧ s.f1 = y) ∨ (s.f0 = y ∧ s.f1 = x) := by
  unfold hasP
  rw [List.any_eq_true]
  simp only [Bool.or_eq_true, Bool.and_eq_true, decide_eq_true_eq]
theorem freeN_freeI (e : List S70) (l : List Int) (r : Bool) (hu : ∀ s ∈ e, s.f0 < s.f1) : freeN e l r l.length 0 = (r && freeI e l) := by
  rw [Bool.eq_iff_iff, freeN_iff, Bool.and_eq_true]
  refine and_congr_right fun _ => ?_
  unfold freeI
  rw [Bool.not_eq_true', List.any_eq_false]
  simp only [Bool.and_eq_true, decide_eq_true_eq]
  constructor
  · intro h s hs hc
    obtain ⟨p, hp, h0⟩ := List.getElem_of_mem hc.1
    obtain ⟨q, hq, h1⟩ := List.getElem_of_mem hc.2
    have hne := hu s hs
    have hmem : ∀ p q (hp : p < l.length) (hq : q < l.length), p < q → l[p] ∈ l.take q := by
      intro p q hp hq hpq
      rw [List.mem_take_iff_getElem]
      exact ⟨p, by omega, rfl⟩
    rcases Nat.lt_trichotomy p q with hpq | hpq | hpq
    · refine h q (by omega) (by omega) l[p] (hmem p q hp hq hpq) ?_
      rw [List.getElem?_eq_getElem hq, Option.getD_some, hasP_iff]
      exact ⟨s, hs, .inl ⟨h0.symm, h1.symm⟩⟩
    · subst hpq
      rw [h0] at h1
      omega
    · refine h p (by omega) (by omega) l[q] (hmem q p hq hp hpq) ?_
      rw [List.getElem?_eq_getElem hp, Option.getD_some, hasP_iff]
      exact ⟨s, hs, .inr ⟨h0.symm, h1.symm⟩⟩
  · intro h q _ h2 y hy hc
    have hq : q < l.length := by omega
    rw [List.getElem?_eq_getElem hq, Option.getD_some, hasP_iff] at hc
    obtain ⟨s, hs, hc⟩ := hc
    have hy' : y ∈ l := List.mem_of_mem_take hy
    have hq' : l[q] ∈ l := List.getElem_mem hq
    refine h s hs ?_
    rcases hc with ⟨h0, h1⟩ | ⟨h0, h1⟩
    · exact ⟨h0 ▸ hy', h1 ▸ hq'⟩
    · exact ⟨h0 ▸ hq', h1 ▸ hy'⟩
end Go.Proofs.Ytadjbmcfgjmhkaa.P
