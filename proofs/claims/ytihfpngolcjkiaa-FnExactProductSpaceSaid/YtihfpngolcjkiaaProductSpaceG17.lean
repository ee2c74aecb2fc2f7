/- The law FnExactProductSpace's own code is walked, each way out by itself, over the contracts of what it calls. -/
import Derived.Test.YtihfpngolcjkiaaProductSpaceG6
import Derived.Test.YtihfpngolcjkiaaProductSpaceG12
import Derived.Test.YtihfpngolcjkiaaProductSpaceG14
import Derived.Test.YtihfpngolcjkiaaProductSpaceG15
import Derived.Test.YtihfpngolcjkiaaProductSpaceG16
namespace Go.Proofs.Ytihfpngolcjkiaa.P
open Go.RowKit Go.Proofs.YtihfpngolcjkiaaW.PrintWords Go.Proofs.YtihfpngolcjkiaaW.PrintLast Go.Proofs.YtihfpngolcjkiaaW.PrintMore
set_option linter.unusedVariables false
set_option linter.unusedSimpArgs false
def laws_FnExactProductSpace.T8 : Bool × List (List Nat × List Nat) := (true, [([], []), ([0], [0]), ([], []), ([2, 1], [2]), ([1, 3, 3], [1, 3]), ([4], [4]), ([5], [5]), ([5], [5]), ([], []), ([8, 6, 4, 0, 1, 2, 3, 4, 5, 6, 8], [6, 8]), ([7, 9, 0, 1, 2, 3, 4, 5, 6, 7, 8, 9], [7])])
def laws_FnExactProductSpace.B8 : List Nat := [0, 1, 0, 7, 15, 31, 63, 63, 0, 383, 1023]
theorem laws_FnExactProductSpace.tab8 : rtab .any (opsOf Try.f3 8) = laws_FnExactProductSpace.T8 := by kernel_rfl
theorem laws_FnExactProductSpace.bits8 : waitsOk laws_FnExactProductSpace.T8.2 laws_FnExactProductSpace.B8 = true := by kernel_rfl
def laws_FnExactProductSpace.T31 : Bool × List (List Nat × List Nat) := (true, [([], []), ([0], [0]), ([], []), ([2, 1], [2]), ([1, 3, 3], [1, 3]), ([4], [4]), ([5], [5]), ([5], [5]), ([], []), ([8, 6, 4, 0, 1, 2, 3, 4, 5, 6, 8], [6, 8]), ([7, 9, 0, 1, 2, 3, 4, 5, 6, 7, 8, 9], [7])])
def laws_FnExactProductSpace.B31 : List Nat := [0, 1, 0, 7, 15, 31, 63, 63, 0, 383, 1023]
theorem laws_FnExactProductSpace.tab31 : rtab .any (opsOf Try.f3 31) = laws_FnExactProductSpace.T31 := by kernel_rfl
theorem laws_FnExactProductSpace.bits31 : waitsOk laws_FnExactProductSpace.T31.2 laws_FnExactProductSpace.B31 = true := by kernel_rfl
set_option maxRecDepth 100000 in
set_option maxHeartbeats 4000000 in
theorem laws_FnExactProductSpace.exit0 (A0_0 : Option Addr) (ca0_0 : Nat) (l0_0 : List (List Int)) (A0_1 : Option Addr) (ca0_1 : Nat) (l0_1 : List (S41)) (A1_0 : Option Addr) (ca1_0 : Nat) (l1_0 : List (List Int)) (A1_1 : Option Addr) (ca1_1 : Nat) (l1_1 : List (S41)) (k0 : Nat) (t0 : Int) (w : World) (hr0_0 : Kd.C (Kd.slice 3 (Kd.int .i64)) w A0_0 l0_0.length l0_0) (hc0_0 : l0_0.length ≤ ca0_0) (hr0_1 : Kd.C k41 w A0_1 l0_1.length l0_1) (hc0_1 : l0_1.length ≤ ca0_1) (hr1_0 : Kd.C (Kd.slice 3 (Kd.int .i64)) w A1_0 l1_0.length l1_0) (hc1_0 : l1_0.length ≤ ca1_0) (hr1_1 : Kd.C k41 w A1_1 l1_1.length l1_1) (hc1_1 : l1_1.length ≤ ca1_1) (c0 : t0 < 0) (h0 : laws_szSpace.f k0 l0_0 l0_1 1048576 = some t0) :
    Calls Try.prog 3 #[.agg #[.slice A0_0 l0_0.length ca0_0, .slice A0_1 l0_1.length ca0_1], .agg #[.slice A1_0 l1_0.length ca1_0, .slice A1_1 l1_1.length ca1_1]] w fun e w' => e = .returned (.bool true) ∧ Below w.heap.size w w' := by
  have hu25 := Try.underlying25
  have hu27 := Try.underlying27
  have HR0_0 := zM hr0_0; clear hr0_0
  have HC0_0 := zM hc0_0; clear hc0_0
  have HR0_1 := zM hr0_1; clear hr0_1
  have HC0_1 := zM hc0_1; clear hc0_1
  have HR1_0 := zM hr1_0; clear hr1_0
  have HC1_0 := zM hc1_0; clear hc1_0
  have HR1_1 := zM hr1_1; clear hr1_1
  have HC1_1 := zM hc1_1; clear hc1_1
  have HB := zM (Below.refl w.heap.size w)
  have H0 := zM h0; clear h0
  have c0b : decide (t0 < 0) = true := decide_eq_true c0
  clear c0
  go_enter Try.func3, Try.ntmps3
  go_wp2_with (first
    | ((with_reducible refine gate_dst (N := 2) rfl ?_); refine ze 2 #[.slice A0_0 l0_0.length ca0_0, .slice A0_1 l0_1.length ca0_1] 25 ?_; intro gb2 hg w1 hbox hb; have HG2 := zM hg; have HW2 := zM (show w.heap.size ≤ gb2 by rw [hg]; exact below_size HB.out); have HL2 := zM (blk_lt hbox); clear hg; have HS1 := zM hb.size; replace HB := zM (below_step HB.out hb); have BK2 := zM hbox; clear hbox hb; have hc2_0 := zy BK2 0; have hf2_0 := blk_frozen BK2.out 0; have hc2_1 := zy BK2 1; have hf2_1 := blk_frozen BK2.out 1)
    | ((with_reducible refine gate_dst (N := 3) rfl ?_); refine ze 3 #[.slice A1_0 l1_0.length ca1_0, .slice A1_1 l1_1.length ca1_1] 25 ?_; intro gb3 hg w2 hbox hb; have HG3 := zM hg; have HW3 := zM (show w.heap.size ≤ gb3 by rw [hg]; exact below_size HB.out); have HL3 := zM (blk_lt hbox); clear hg; replace BK2 := uKb BK2 hb; have HS2 := zM hb.size; replace HB := zM (below_step HB.out hb); have hn2_3 : gb2 ≠ gb3 := (by have := HG3.out; have := HL2.out; omega); have hn3_2 := hn2_3.symm; have BK3 := zM hbox; clear hbox hb; replace hc2_0 := zy BK2 0; replace hf2_0 := blk_frozen BK2.out 0; replace hc2_1 := zy BK2 1; replace hf2_1 := blk_frozen BK2.out 1; have hc3_0 := zy BK3 0; have hf3_0 := blk_frozen BK3.out 0; have hc3_1 := zy BK3 1; have hf3_1 := blk_frozen BK3.out 1)
    | (have hst_ : Aside0 (Below w.heap.size w w2) := HB; clear hst_; go_at_call 5; refine (laws_szSpace.calls k0 _ _ l0_0 _ _ l0_1 1048576 t0 _ ?side1 ?side2 ?side3 ?side4 H0.out).mono ?_; (case side1 => exact zC (Kd.C_below HR0_0.out HB.out)); (case side2 => exact HC0_0.out); (case side3 => exact zC (Kd.C_below HR0_1.out HB.out)); (case side4 => exact HC0_1.out); rintro e w3 ⟨rfl, hb⟩; replace BK2 := uKb BK2 hb; replace BK3 := uKb BK3 hb; have HS3 := zM hb.size; replace HB := zM (below_step HB.out hb); clear hb; replace hc2_0 := zy BK2 0; replace hf2_0 := blk_frozen BK2.out 0; replace hc2_1 := zy BK2 1; replace hf2_1 := blk_frozen BK2.out 1; replace hc3_0 := zy BK3 0; replace hf3_0 := blk_frozen BK3.out 0; replace hc3_1 := zy BK3 1; replace hf3_1 := blk_frozen BK3.out 1))
  go_ret
  exact ⟨rfl, HB.out⟩
set_option maxRecDepth 100000 in
set_option maxHeartbeats 4000000 in
theorem laws_FnExactProductSpace.exit1 (A0_0 : Option Addr) (ca0_0 : Nat) (l0_0 : List (List Int)) (A0_1 : Option Addr) (ca0_1 : Nat) (l0_1 : List (S41)) (A1_0 : Option Addr) (ca1_0 : Nat) (l1_0 : List (List Int)) (A1_1 : Option Addr) (ca1_1 : Nat) (l1_1 : List (S41)) (k0 k1 : Nat) (t0 : Int) (t1 : Int) (w : World) (hr0_0 : Kd.C (Kd.slice 3 (Kd.int .i64)) w A0_0 l0_0.length l0_0) (hc0_0 : l0_0.length ≤ ca0_0) (hr0_1 : Kd.C k41 w A0_1 l0_1.length l0_1) (hc0_1 : l0_1.length ≤ ca0_1) (hr1_0 : Kd.C (Kd.slice 3 (Kd.int .i64)) w A1_0 l1_0.length l1_0) (hc1_0 : l1_0.length ≤ ca1_0) (hr1_1 : Kd.C k41 w A1_1 l1_1.length l1_1) (hc1_1 : l1_1.length ≤ ca1_1) (c0 : ¬ (t0 < 0)) (c1 : t1 < 0) (h0 : laws_szSpace.f k0 l0_0 l0_1 1048576 = some t0) (h1 : laws_szSpace.f k1 l1_0 l1_1 t0 = some t1) :
    Calls Try.prog 3 #[.agg #[.slice A0_0 l0_0.length ca0_0, .slice A0_1 l0_1.length ca0_1], .agg #[.slice A1_0 l1_0.length ca1_0, .slice A1_1 l1_1.length ca1_1]] w fun e w' => e = .returned (.bool true) ∧ Below w.heap.size w w' := by
  have hu25 := Try.underlying25
  have hu27 := Try.underlying27
  have HR0_0 := zM hr0_0; clear hr0_0
  have HC0_0 := zM hc0_0; clear hc0_0
  have HR0_1 := zM hr0_1; clear hr0_1
  have HC0_1 := zM hc0_1; clear hc0_1
  have HR1_0 := zM hr1_0; clear hr1_0
  have HC1_0 := zM hc1_0; clear hc1_0
  have HR1_1 := zM hr1_1; clear hr1_1
  have HC1_1 := zM hc1_1; clear hc1_1
  have HB := zM (Below.refl w.heap.size w)
  have H0 := zM h0; clear h0
  have H1 := zM h1; clear h1
  have c0b : decide (t0 < 0) = false := decide_eq_false c0
  clear c0
  have c1b : decide (t1 < 0) = true := decide_eq_true c1
  clear c1
  go_enter Try.func3, Try.ntmps3
  go_wp2_with (first
    | ((with_reducible refine gate_dst (N := 2) rfl ?_); refine ze 2 #[.slice A0_0 l0_0.length ca0_0, .slice A0_1 l0_1.length ca0_1] 25 ?_; intro gb2 hg w1 hbox hb; have HG2 := zM hg; have HW2 := zM (show w.heap.size ≤ gb2 by rw [hg]; exact below_size HB.out); have HL2 := zM (blk_lt hbox); clear hg; have HS1 := zM hb.size; replace HB := zM (below_step HB.out hb); have BK2 := zM hbox; clear hbox hb; have hc2_0 := zy BK2 0; have hf2_0 := blk_frozen BK2.out 0; have hc2_1 := zy BK2 1; have hf2_1 := blk_frozen BK2.out 1)
    | ((with_reducible refine gate_dst (N := 3) rfl ?_); refine ze 3 #[.slice A1_0 l1_0.length ca1_0, .slice A1_1 l1_1.length ca1_1] 25 ?_; intro gb3 hg w2 hbox hb; have HG3 := zM hg; have HW3 := zM (show w.heap.size ≤ gb3 by rw [hg]; exact below_size HB.out); have HL3 := zM (blk_lt hbox); clear hg; replace BK2 := uKb BK2 hb; have HS2 := zM hb.size; replace HB := zM (below_step HB.out hb); have hn2_3 : gb2 ≠ gb3 := (by have := HG3.out; have := HL2.out; omega); have hn3_2 := hn2_3.symm; have BK3 := zM hbox; clear hbox hb; replace hc2_0 := zy BK2 0; replace hf2_0 := blk_frozen BK2.out 0; replace hc2_1 := zy BK2 1; replace hf2_1 := blk_frozen BK2.out 1; have hc3_0 := zy BK3 0; have hf3_0 := blk_frozen BK3.out 0; have hc3_1 := zy BK3 1; have hf3_1 := blk_frozen BK3.out 1)
    | (have hst_ : Aside0 (Below w.heap.size w w2) := HB; clear hst_; go_at_call 5; refine (laws_szSpace.calls k0 _ _ l0_0 _ _ l0_1 1048576 t0 _ ?side1 ?side2 ?side3 ?side4 H0.out).mono ?_; (case side1 => exact zC (Kd.C_below HR0_0.out HB.out)); (case side2 => exact HC0_0.out); (case side3 => exact zC (Kd.C_below HR0_1.out HB.out)); (case side4 => exact HC0_1.out); rintro e w3 ⟨rfl, hb⟩; replace BK2 := uKb BK2 hb; replace BK3 := uKb BK3 hb; have HS3 := zM hb.size; replace HB := zM (below_step HB.out hb); clear hb; replace hc2_0 := zy BK2 0; replace hf2_0 := blk_frozen BK2.out 0; replace hc2_1 := zy BK2 1; replace hf2_1 := blk_frozen BK2.out 1; replace hc3_0 := zy BK3 0; replace hf3_0 := blk_frozen BK3.out 0; replace hc3_1 := zy BK3 1; replace hf3_1 := blk_frozen BK3.out 1)
    | (have hst_ : Aside0 (Below w.heap.size w w3) := HB; clear hst_; go_at_call 5; refine (laws_szSpace.calls k1 _ _ l1_0 _ _ l1_1 t0 t1 _ ?side1 ?side2 ?side3 ?side4 H1.out).mono ?_; (case side1 => exact zC (Kd.C_below HR1_0.out HB.out)); (case side2 => exact HC1_0.out); (case side3 => exact zC (Kd.C_below HR1_1.out HB.out)); (case side4 => exact HC1_1.out); rintro e w4 ⟨rfl, hb⟩; replace BK2 := uKb BK2 hb; replace BK3 := uKb BK3 hb; have HS4 := zM hb.size; replace HB := zM (below_step HB.out hb); clear hb; replace hc2_0 := zy BK2 0; replace hf2_0 := blk_frozen BK2.out 0; replace hc2_1 := zy BK2 1; replace hf2_1 := blk_frozen BK2.out 1; replace hc3_0 := zy BK3 0; replace hf3_0 := blk_frozen BK3.out 0; replace hc3_1 := zy BK3 1; replace hf3_1 := blk_frozen BK3.out 1))
  go_ret
  exact ⟨rfl, HB.out⟩
set_option maxRecDepth 100000 in
set_option maxHeartbeats 4000000 in
theorem laws_FnExactProductSpace.walk (A0_0 : Option Addr) (ca0_0 : Nat) (l0_0 : List (List Int)) (A0_1 : Option Addr) (ca0_1 : Nat) (l0_1 : List (S41)) (A1_0 : Option Addr) (ca1_0 : Nat) (l1_0 : List (List Int)) (A1_1 : Option Addr) (ca1_1 : Nat) (l1_1 : List (S41)) (k0 k1 k2 k3 k4 k5 k6 k7 k8 k12 : Nat) (t0 : Int) (t1 : Int) (q0 : List (List Int)) (q1 : List (S41)) (q2 : Bool) (kk0 : Int) (mk0_0 : List (List Int)) (mk0_1 : List (S41)) (kk1 : Int) (mk1_0 : List (List Int)) (mk1_1 : List (S41)) (kk2 : Int) (mk2_0 : List (List Int)) (mk2_1 : List (S41)) (w : World) (hr0_0 : Kd.C (Kd.slice 3 (Kd.int .i64)) w A0_0 l0_0.length l0_0) (hc0_0 : l0_0.length ≤ ca0_0) (hr0_1 : Kd.C k41 w A0_1 l0_1.length l0_1) (hc0_1 : l0_1.length ≤ ca0_1) (hr1_0 : Kd.C (Kd.slice 3 (Kd.int .i64)) w A1_0 l1_0.length l1_0) (hc1_0 : l1_0.length ≤ ca1_0) (hr1_1 : Kd.C k41 w A1_1 l1_1.length l1_1) (hc1_1 : l1_1.length ≤ ca1_1) (c0 : ¬ (t0 < 0)) (c1 : ¬ (t1 < 0)) (h0 : laws_szSpace.f k0 l0_0 l0_1 1048576 = some t0) (h1 : laws_szSpace.f k1 l1_0 l1_1 t0 = some t1) (h2 : laws_toSpace.f k2 l0_0 l0_1 = some (l0_0, l0_1)) (h3 : laws_toSpace.f k3 l1_0 l1_1 = some (l1_0, l1_1)) (h4 : spec_ProductSpace.f k4 l0_0 l0_1 l1_0 l1_1 = some (q0, q1, q2)) (h5 : impl_ProductSpace.f k5 l0_0 l0_1 l1_0 l1_1 = some (q0, q1, q2)) (h6 : laws_eqSpace.f k6 q0 q1 q0 q1 = some true) (h7 : laws_eqSpace.f k7 l0_0 l0_1 l0_0 l0_1 = some true) (h8 : laws_eqSpace.f k8 l1_0 l1_1 l1_0 l1_1 = some true) (h9 : laws_markSpace.f l0_0 l0_1 1 = some (kk0, mk0_0, mk0_1)) (h10 : laws_markSpace.f l1_0 l1_1 kk0 = some (kk1, mk1_0, mk1_1)) (h11 : laws_markSpace.f q0 q1 1 = some (kk2, mk2_0, mk2_1)) (h12 : laws_heldSpace.f k12 mk2_0 mk2_1 1 = some kk2) (nkk1 : ¬ (kk1 < 0)) (nkk2 : ¬ (kk2 < 0)) :
    Calls Try.prog 3 #[.agg #[.slice A0_0 l0_0.length ca0_0, .slice A0_1 l0_1.length ca0_1], .agg #[.slice A1_0 l1_0.length ca1_0, .slice A1_1 l1_1.length ca1_1]] w fun e w' => e = .returned (.bool true) ∧ Below w.heap.size w w' := by
  have hu25 := Try.underlying25
  have hu27 := Try.underlying27
  have HR0_0 := zM hr0_0; clear hr0_0
  have HC0_0 := zM hc0_0; clear hc0_0
  have HR0_1 := zM hr0_1; clear hr0_1
  have HC0_1 := zM hc0_1; clear hc0_1
  have HR1_0 := zM hr1_0; clear hr1_0
  have HC1_0 := zM hc1_0; clear hc1_0
  have HR1_1 := zM hr1_1; clear hr1_1
  have HC1_1 := zM hc1_1; clear hc1_1
  have HB := zM (Below.refl w.heap.size w)
  have H0 := zM h0; clear h0
  have H1 := zM h1; clear h1
  have H2 := zM h2; clear h2
  have H3 := zM h3; clear h3
  have H4 := zM h4; clear h4
  have H5 := zM h5; clear h5
  have H6 := zM h6; clear h6
  have H7 := zM h7; clear h7
  have H8 := zM h8; clear h8
  have H9 := zM h9; clear h9
  have H10 := zM h10; clear h10
  have H11 := zM h11; clear h11
  have H12 := zM h12; clear h12
  have c0b : decide (t0 < 0) = false := decide_eq_false c0
  clear c0
  have c1b : decide (t1 < 0) = false := decide_eq_false c1
  clear c1
  have nkk1b : decide (kk1 < 0) = false := decide_eq_false nkk1
  clear nkk1
  have nkk2b : decide (kk2 < 0) = false := decide_eq_false nkk2
  clear nkk2
  go_enter Try.func3, Try.ntmps3
  go_upto_region 8 with (first
    | ((with_reducible refine gate_dst (N := 2) rfl ?_); refine ze 2 #[.slice A0_0 l0_0.length ca0_0, .slice A0_1 l0_1.length ca0_1] 25 ?_; intro gb2 hg w1 hbox hb; have HG2 := zM hg; have HW2 := zM (show w.heap.size ≤ gb2 by rw [hg]; exact below_size HB.out); have HL2 := zM (blk_lt hbox); clear hg; have HS1 := zM hb.size; replace HB := zM (below_step HB.out hb); have BK2 := zM hbox; clear hbox hb; have hc2_0 := zy BK2 0; have hf2_0 := blk_frozen BK2.out 0; have hc2_1 := zy BK2 1; have hf2_1 := blk_frozen BK2.out 1)
    | ((with_reducible refine gate_dst (N := 3) rfl ?_); refine ze 3 #[.slice A1_0 l1_0.length ca1_0, .slice A1_1 l1_1.length ca1_1] 25 ?_; intro gb3 hg w2 hbox hb; have HG3 := zM hg; have HW3 := zM (show w.heap.size ≤ gb3 by rw [hg]; exact below_size HB.out); have HL3 := zM (blk_lt hbox); clear hg; replace BK2 := uKb BK2 hb; have HS2 := zM hb.size; replace HB := zM (below_step HB.out hb); have hn2_3 : gb2 ≠ gb3 := (by have := HG3.out; have := HL2.out; omega); have hn3_2 := hn2_3.symm; have BK3 := zM hbox; clear hbox hb; replace hc2_0 := zy BK2 0; replace hf2_0 := blk_frozen BK2.out 0; replace hc2_1 := zy BK2 1; replace hf2_1 := blk_frozen BK2.out 1; have hc3_0 := zy BK3 0; have hf3_0 := blk_frozen BK3.out 0; have hc3_1 := zy BK3 1; have hf3_1 := blk_frozen BK3.out 1)
    | (have hst_ : Aside0 (Below w.heap.size w w2) := HB; clear hst_; go_at_call 5; refine (laws_szSpace.calls k0 _ _ l0_0 _ _ l0_1 1048576 t0 _ ?side1 ?side2 ?side3 ?side4 H0.out).mono ?_; (case side1 => exact zC (Kd.C_below HR0_0.out HB.out)); (case side2 => exact HC0_0.out); (case side3 => exact zC (Kd.C_below HR0_1.out HB.out)); (case side4 => exact HC0_1.out); rintro e w3 ⟨rfl, hb⟩; replace BK2 := uKb BK2 hb; replace BK3 := uKb BK3 hb; have HS3 := zM hb.size; replace HB := zM (below_step HB.out hb); clear hb; replace hc2_0 := zy BK2 0; replace hf2_0 := blk_frozen BK2.out 0; replace hc2_1 := zy BK2 1; replace hf2_1 := blk_frozen BK2.out 1; replace hc3_0 := zy BK3 0; replace hf3_0 := blk_frozen BK3.out 0; replace hc3_1 := zy BK3 1; replace hf3_1 := blk_frozen BK3.out 1)
    | (have hst_ : Aside0 (Below w.heap.size w w3) := HB; clear hst_; go_at_call 5; refine (laws_szSpace.calls k1 _ _ l1_0 _ _ l1_1 t0 t1 _ ?side1 ?side2 ?side3 ?side4 H1.out).mono ?_; (case side1 => exact zC (Kd.C_below HR1_0.out HB.out)); (case side2 => exact HC1_0.out); (case side3 => exact zC (Kd.C_below HR1_1.out HB.out)); (case side4 => exact HC1_1.out); rintro e w4 ⟨rfl, hb⟩; replace BK2 := uKb BK2 hb; replace BK3 := uKb BK3 hb; have HS4 := zM hb.size; replace HB := zM (below_step HB.out hb); clear hb; replace hc2_0 := zy BK2 0; replace hf2_0 := blk_frozen BK2.out 0; replace hc2_1 := zy BK2 1; replace hf2_1 := blk_frozen BK2.out 1; replace hc3_0 := zy BK3 0; replace hf3_0 := blk_frozen BK3.out 0; replace hc3_1 := zy BK3 1; replace hf3_1 := blk_frozen BK3.out 1))
  (try simp only [Act.put, List.setIfInBounds_toArray, List.set_cons_zero, List.set_cons_succ])
  replace BK2 := zM (blk_drew BK2.out)
  replace BK3 := zM (blk_drew BK3.out)
  replace HB := zM (below_drew1 HB.out)
  refine start_ (n := 11) (S := fun w' => True) (ds := []) #[false, false, false, false, false, false, false, false, false, false, false] (by kernel_rfl) rfl rfl trivial (fun hHeld => ?_)
  refine with_tabW laws_FnExactProductSpace.tab8 laws_FnExactProductSpace.bits8 (fun HT_ HW_ => ?_)
  have HS5 := zM (show w4.heap.size ≤ w4.drew.heap.size from Nat.le_refl _)
  clear hHeld; generalize w4.drew = w5 at BK2 BK3 HB HS5 ⊢
  have HBW := zM (Below.refl w5.heap.size w5)
  refine inv_at [0, 1, 2, 3, 4, 5, 6, 7, 8, 9, 10] (fun a0_ b a w' => ∃ (Ao8_1_0 : Option Addr) (co8_1_0 : Nat) (Ao8_1_1 : Option Addr) (co8_1_1 : Nat) (Ao8_3_0 : Option Addr) (co8_3_0 : Nat) (Ao8_3_1 : Option Addr) (co8_3_1 : Nat) (Ao0_0 : Option Addr) (co0_0 : Nat) (Ao0_1 : Option Addr) (co0_1 : Nat) (gb6 : Nat) (m1_ : Value) (m3_ : Value) (m4_ : Value) (m5_ : Value) (m6_ : Value) (m8_ : Value), a = putSel a0_ b [(0, 28, .agg #[.slice A0_0 l0_0.length ca0_0, .slice A0_1 l0_1.length ca0_1]), (1, 29, m1_), (2, 30, .agg #[.slice A1_0 l1_0.length ca1_0, .slice A1_1 l1_1.length ca1_1]), (3, 31, m3_), (4, 32, m4_), (5, 27, m5_), (6, 33, m6_), (7, 34, .bool q2), (8, 6, m8_), (10, 7, .bool q2)] ∧ (Below w5.heap.size w5 w') ∧ (b 1 = true → b 4 = false → Kd.C (Kd.slice 3 (Kd.int .i64)) w' Ao8_1_0 l0_0.length l0_0) ∧ (b 1 = true → b 4 = false → l0_0.length ≤ co8_1_0) ∧ (b 1 = true → b 4 = false → Kd.C k41 w' Ao8_1_1 l0_1.length l0_1) ∧ (b 1 = true → b 4 = false → l0_1.length ≤ co8_1_1) ∧ (b 3 = true → b 4 = false → Kd.C (Kd.slice 3 (Kd.int .i64)) w' Ao8_3_0 l1_0.length l1_0) ∧ (b 3 = true → b 4 = false → l1_0.length ≤ co8_3_0) ∧ (b 3 = true → b 4 = false → Kd.C k41 w' Ao8_3_1 l1_1.length l1_1) ∧ (b 3 = true → b 4 = false → l1_1.length ≤ co8_3_1) ∧ (b 4 = true → Kd.S (Kd.slice 3 (Kd.int .i64)) 39 w' w5.heap.size (fun _ => True) (.slice Ao0_0 q0.length co0_0) q0) ∧ (b 4 = true → Kd.R k41 41 w' w5.heap.size (fun _ => True) (.slice Ao0_1 q1.length co0_1) q1) ∧ (b 8 = true → b 9 = false → w'.heap[gb6]? = some (.cells #[.slice none 0 0, .slice none 0 0] 27 (0, 0))) ∧ (b 8 = true → w5.heap.size ≤ gb6) ∧ (b 9 = true → w'.heap[gb6]? = some (.cells #[.slice Ao0_0 q0.length co0_0, .slice Ao0_1 q1.length co0_1] 27 (0, 0))) ∧ (b 1 = true → (m1_ : Value) = .agg #[.slice Ao8_1_0 l0_0.length co8_1_0, .slice Ao8_1_1 l0_1.length co8_1_1]) ∧ (b 3 = true → (m3_ : Value) = .agg #[.slice Ao8_3_0 l1_0.length co8_3_0, .slice Ao8_3_1 l1_1.length co8_3_1]) ∧ (b 4 = true → (m4_ : Value) = .tuple #[.agg #[.slice Ao0_0 q0.length co0_0, .slice Ao0_1 q1.length co0_1], .bool q2]) ∧ (b 5 = true → (m5_ : Value) = .tuple #[.agg #[.slice Ao0_0 q0.length co0_0, .slice Ao0_1 q1.length co0_1], .bool q2]) ∧ (b 6 = true → (m6_ : Value) = .agg #[.slice Ao0_0 q0.length co0_0, .slice Ao0_1 q1.length co0_1]) ∧ (b 8 = true → (m8_ : Value) = .pointer (some ⟨gb6, 0, none⟩))) HT_.out HW_.out (by kernel_rfl) (by kernel_rfl) ?_ ?_ ?_
  · exact ⟨none, 0, none, 0, none, 0, none, 0, none, 0, none, 0, 0, .bool false, .bool false, .bool false, .bool false, .bool false, .bool false, by simp only [putSel, Bool.false_eq_true, if_false], HBW.out, fun h_ => absurd h_ (by decide), fun h_ => absurd h_ (by decide), fun h_ => absurd h_ (by decide), fun h_ => absurd h_ (by decide), fun h_ => absurd h_ (by decide), fun h_ => absurd h_ (by decide), fun h_ => absurd h_ (by decide), fun h_ => absurd h_ (by decide), fun h_ => absurd h_ (by decide), fun h_ => absurd h_ (by decide), fun h_ => absurd h_ (by decide), fun h_ => absurd h_ (by decide), fun h_ => absurd h_ (by decide), fun h_ => absurd h_ (by decide), fun h_ => absurd h_ (by decide), fun h_ => absurd h_ (by decide), fun h_ => absurd h_ (by decide), fun h_ => absurd h_ (by decide), fun h_ => absurd h_ (by decide)⟩
  · skip
    clear HBW
    refine steps_cons ?_ ?_
    · rintro b a w' ⟨Ao8_1_0, co8_1_0, Ao8_1_1, co8_1_1, Ao8_3_0, co8_3_0, Ao8_3_1, co8_3_1, Ao0_0, co0_0, Ao0_1, co0_1, gb6, m1_, m3_, m4_, m5_, m6_, m8_, ha, Q_HBW, Q_CC8_1_0, Q_LL8_1_0, Q_CC8_1_1, Q_LL8_1_1, Q_CC8_3_0, Q_LL8_3_0, Q_CC8_3_1, Q_LL8_3_1, Q_HO0_0, Q_HO0_1, Q_BKa, Q_GW, Q_BK6, Q_X1_, Q_X3_, Q_X4_, Q_X5_, Q_X6_, Q_X8_⟩ hb_ hon hoff
      refine ⟨_, rfl, fun K hK => ?_⟩
      have e2 : a.tmps[2]? = some (.pointer (some ⟨gb2, 0, none⟩)) := by rw [ha]; exact (putSel_off rfl).trans rfl
      replace ha := Aside0.mk ha
      have HBW := Aside0.mk Q_HBW
      have hc0_ : w'.cell? ⟨gb2, 0, none⟩ = some (.slice A0_0 l0_0.length ca0_0) := (blk_cell (blk_below BK2.out HBW.out) 0).trans rfl
      have hc1_ : w'.cell? ⟨gb2, 1, none⟩ = some (.slice A0_1 l0_1.length ca0_1) := (blk_cell (blk_below BK2.out HBW.out) 1).trans rfl
      refine value_ (w1 := w') (v := .agg #[.slice A0_0 l0_0.length ca0_0, .slice A0_1 l0_1.length ca0_1]) (by rfl) rfl ?_ ?_
      · go_simp
        (try simp only [i64_w])
        try rfl
      refine hK.out _ _ ⟨Ao8_1_0, co8_1_0, Ao8_1_1, co8_1_1, Ao8_3_0, co8_3_0, Ao8_3_1, co8_3_1, Ao0_0, co0_0, Ao0_1, co0_1, gb6, m1_, m3_, m4_, m5_, m6_, m8_, (by rw [ha.out]; exact putSel_upk 0 hb_ rfl rfl rfl), Q_HBW, fun h0_ _ => absurd ((hoff 1 (by kernel_rfl)).symm.trans h0_) (by decide), fun h0_ _ => absurd ((hoff 1 (by kernel_rfl)).symm.trans h0_) (by decide), fun h0_ _ => absurd ((hoff 1 (by kernel_rfl)).symm.trans h0_) (by decide), fun h0_ _ => absurd ((hoff 1 (by kernel_rfl)).symm.trans h0_) (by decide), fun h0_ _ => absurd ((hoff 3 (by kernel_rfl)).symm.trans h0_) (by decide), fun h0_ _ => absurd ((hoff 3 (by kernel_rfl)).symm.trans h0_) (by decide), fun h0_ _ => absurd ((hoff 3 (by kernel_rfl)).symm.trans h0_) (by decide), fun h0_ _ => absurd ((hoff 3 (by kernel_rfl)).symm.trans h0_) (by decide), fun h0_ => absurd ((hoff 4 (by kernel_rfl)).symm.trans h0_) (by decide), fun h0_ => absurd ((hoff 4 (by kernel_rfl)).symm.trans h0_) (by decide), Q_BKa, Q_GW, fun h0_ => absurd ((hoff 9 (by kernel_rfl)).symm.trans h0_) (by decide), fun h0_ => absurd ((hoff 1 (by kernel_rfl)).symm.trans h0_) (by decide), fun h0_ => absurd ((hoff 3 (by kernel_rfl)).symm.trans h0_) (by decide), fun h0_ => absurd ((hoff 4 (by kernel_rfl)).symm.trans h0_) (by decide), fun h0_ => absurd ((hoff 5 (by kernel_rfl)).symm.trans h0_) (by decide), fun h0_ => absurd ((hoff 6 (by kernel_rfl)).symm.trans h0_) (by decide), Q_X8_⟩
    refine steps_cons ?_ ?_
    · rintro b a w' ⟨Ao8_1_0, co8_1_0, Ao8_1_1, co8_1_1, Ao8_3_0, co8_3_0, Ao8_3_1, co8_3_1, Ao0_0, co0_0, Ao0_1, co0_1, gb6, m1_, m3_, m4_, m5_, m6_, m8_, ha, Q_HBW, Q_CC8_1_0, Q_LL8_1_0, Q_CC8_1_1, Q_LL8_1_1, Q_CC8_3_0, Q_LL8_3_0, Q_CC8_3_1, Q_LL8_3_1, Q_HO0_0, Q_HO0_1, Q_BKa, Q_GW, Q_BK6, Q_X1_, Q_X3_, Q_X4_, Q_X5_, Q_X6_, Q_X8_⟩ hb_ hon hoff
      refine ⟨_, rfl, fun K hK => ?_⟩
      have e28 : a.tmps[28]? = some (.agg #[.slice A0_0 l0_0.length ca0_0, .slice A0_1 l0_1.length ca0_1]) := by rw [ha]; exact putSel_on (e := (0, 28, .agg #[.slice A0_0 l0_0.length ca0_0, .slice A0_1 l0_1.length ca0_1])) 0 rfl rfl (hon 0 (by kernel_rfl)) rfl
      replace ha := Aside0.mk ha
      have HBW := Aside0.mk Q_HBW
      have HBx := zM (below_step HB.out HBW.out)
      refine goes_ Try.func7 (by kernel_rfl) rfl #[.agg #[.slice A0_0 l0_0.length ca0_0, .slice A0_1 l0_1.length ca0_1]] (by rfl) rfl rfl (by first | (simp only [List.map_toArray, List.map_cons, List.map_nil, Act.eval, Array.getD_eq_getD_getElem?, Option.getD_some, e28]; done) | (simp only [List.map_toArray, List.map_cons, List.map_nil, Act.eval, Array.getD_eq_getD_getElem?, Option.getD_some, e28]; rfl)) ?_
      with_reducible refine (laws_toSpace.calls k2 _ _ l0_0 _ _ l0_1 l0_0 l0_1 _ ?side1 ?side2 ?side3 ?side4 H2.out).mono ?_
      (case side1 => exact zC (Kd.C_below HR0_0.out HBx.out))
      (case side2 => exact HC0_0.out)
      (case side3 => exact zC (Kd.C_below HR0_1.out HBx.out))
      (case side4 => exact HC0_1.out)
      rintro e wz ⟨v0_, v1_, rfl, ho0, ho1, hb⟩
      obtain ⟨NA8_1_0, Nc8_1_0, eo_⟩ := Kd.S_slice ho0
      subst eo_
      obtain ⟨NA8_1_1, Nc8_1_1, eo_⟩ := Kd.R_slice ho1
      subst eo_
      refine ⟨_, rfl, ?_⟩
      refine hK.out _ _ ⟨NA8_1_0, Nc8_1_0, NA8_1_1, Nc8_1_1, Ao8_3_0, co8_3_0, Ao8_3_1, co8_3_1, Ao0_0, co0_0, Ao0_1, co0_1, gb6, (.agg #[.slice NA8_1_0 l0_0.length Nc8_1_0, .slice NA8_1_1 l0_1.length Nc8_1_1]), m3_, m4_, m5_, m6_, m8_, (by rw [ha.out]; exact putSel_upk 1 hb_ rfl rfl rfl), below_step HBW.out hb, fun _ _ => (Kd.S_reads' ho0).2.2, fun _ _ => (Kd.S_reads' ho0).2.1, fun _ _ => (Kd.R_reads' ho1).2.2, fun _ _ => (Kd.R_reads' ho1).2.1, fun h0_ _ => absurd ((hoff 3 (by kernel_rfl)).symm.trans h0_) (by decide), fun h0_ _ => absurd ((hoff 3 (by kernel_rfl)).symm.trans h0_) (by decide), fun h0_ _ => absurd ((hoff 3 (by kernel_rfl)).symm.trans h0_) (by decide), fun h0_ _ => absurd ((hoff 3 (by kernel_rfl)).symm.trans h0_) (by decide), fun h0_ => absurd ((hoff 4 (by kernel_rfl)).symm.trans h0_) (by decide), fun h0_ => absurd ((hoff 4 (by kernel_rfl)).symm.trans h0_) (by decide), fun h0_ h1_ => blk_below (Q_BKa h0_ h1_) hb, Q_GW, fun h0_ => absurd ((hoff 9 (by kernel_rfl)).symm.trans h0_) (by decide), fun _ => rfl, fun h0_ => absurd ((hoff 3 (by kernel_rfl)).symm.trans h0_) (by decide), fun h0_ => absurd ((hoff 4 (by kernel_rfl)).symm.trans h0_) (by decide), fun h0_ => absurd ((hoff 5 (by kernel_rfl)).symm.trans h0_) (by decide), fun h0_ => absurd ((hoff 6 (by kernel_rfl)).symm.trans h0_) (by decide), Q_X8_⟩
    refine steps_cons ?_ ?_
    · rintro b a w' ⟨Ao8_1_0, co8_1_0, Ao8_1_1, co8_1_1, Ao8_3_0, co8_3_0, Ao8_3_1, co8_3_1, Ao0_0, co0_0, Ao0_1, co0_1, gb6, m1_, m3_, m4_, m5_, m6_, m8_, ha, Q_HBW, Q_CC8_1_0, Q_LL8_1_0, Q_CC8_1_1, Q_LL8_1_1, Q_CC8_3_0, Q_LL8_3_0, Q_CC8_3_1, Q_LL8_3_1, Q_HO0_0, Q_HO0_1, Q_BKa, Q_GW, Q_BK6, Q_X1_, Q_X3_, Q_X4_, Q_X5_, Q_X6_, Q_X8_⟩ hb_ hon hoff
      refine ⟨_, rfl, fun K hK => ?_⟩
      have e3 : a.tmps[3]? = some (.pointer (some ⟨gb3, 0, none⟩)) := by rw [ha]; exact (putSel_off rfl).trans rfl
      replace ha := Aside0.mk ha
      have HBW := Aside0.mk Q_HBW
      have hc0_ : w'.cell? ⟨gb3, 0, none⟩ = some (.slice A1_0 l1_0.length ca1_0) := (blk_cell (blk_below BK3.out HBW.out) 0).trans rfl
      have hc1_ : w'.cell? ⟨gb3, 1, none⟩ = some (.slice A1_1 l1_1.length ca1_1) := (blk_cell (blk_below BK3.out HBW.out) 1).trans rfl
      refine value_ (w1 := w') (v := .agg #[.slice A1_0 l1_0.length ca1_0, .slice A1_1 l1_1.length ca1_1]) (by rfl) rfl ?_ ?_
      · go_simp
        (try simp only [i64_w])
        try rfl
      refine hK.out _ _ ⟨Ao8_1_0, co8_1_0, Ao8_1_1, co8_1_1, Ao8_3_0, co8_3_0, Ao8_3_1, co8_3_1, Ao0_0, co0_0, Ao0_1, co0_1, gb6, m1_, m3_, m4_, m5_, m6_, m8_, (by rw [ha.out]; exact putSel_upk 2 hb_ rfl rfl rfl), Q_HBW, Q_CC8_1_0, Q_LL8_1_0, Q_CC8_1_1, Q_LL8_1_1, fun h0_ _ => absurd ((hoff 3 (by kernel_rfl)).symm.trans h0_) (by decide), fun h0_ _ => absurd ((hoff 3 (by kernel_rfl)).symm.trans h0_) (by decide), fun h0_ _ => absurd ((hoff 3 (by kernel_rfl)).symm.trans h0_) (by decide), fun h0_ _ => absurd ((hoff 3 (by kernel_rfl)).symm.trans h0_) (by decide), fun h0_ => absurd ((hoff 4 (by kernel_rfl)).symm.trans h0_) (by decide), fun h0_ => absurd ((hoff 4 (by kernel_rfl)).symm.trans h0_) (by decide), Q_BKa, Q_GW, fun h0_ => absurd ((hoff 9 (by kernel_rfl)).symm.trans h0_) (by decide), Q_X1_, fun h0_ => absurd ((hoff 3 (by kernel_rfl)).symm.trans h0_) (by decide), fun h0_ => absurd ((hoff 4 (by kernel_rfl)).symm.trans h0_) (by decide), fun h0_ => absurd ((hoff 5 (by kernel_rfl)).symm.trans h0_) (by decide), fun h0_ => absurd ((hoff 6 (by kernel_rfl)).symm.trans h0_) (by decide), Q_X8_⟩
    refine steps_cons ?_ ?_
    · rintro b a w' ⟨Ao8_1_0, co8_1_0, Ao8_1_1, co8_1_1, Ao8_3_0, co8_3_0, Ao8_3_1, co8_3_1, Ao0_0, co0_0, Ao0_1, co0_1, gb6, m1_, m3_, m4_, m5_, m6_, m8_, ha, Q_HBW, Q_CC8_1_0, Q_LL8_1_0, Q_CC8_1_1, Q_LL8_1_1, Q_CC8_3_0, Q_LL8_3_0, Q_CC8_3_1, Q_LL8_3_1, Q_HO0_0, Q_HO0_1, Q_BKa, Q_GW, Q_BK6, Q_X1_, Q_X3_, Q_X4_, Q_X5_, Q_X6_, Q_X8_⟩ hb_ hon hoff
      refine ⟨_, rfl, fun K hK => ?_⟩
      have e30 : a.tmps[30]? = some (.agg #[.slice A1_0 l1_0.length ca1_0, .slice A1_1 l1_1.length ca1_1]) := by rw [ha]; exact putSel_on (e := (2, 30, .agg #[.slice A1_0 l1_0.length ca1_0, .slice A1_1 l1_1.length ca1_1])) 2 rfl rfl (hon 2 (by kernel_rfl)) rfl
      replace ha := Aside0.mk ha
      have HBW := Aside0.mk Q_HBW
      have CC8_1_0 := Aside0.mk (Q_CC8_1_0 (hon 1 (by kernel_rfl)) (hoff 4 (by kernel_rfl)))
      have LL8_1_0 := Aside0.mk (Q_LL8_1_0 (hon 1 (by kernel_rfl)) (hoff 4 (by kernel_rfl)))
      have CC8_1_1 := Aside0.mk (Q_CC8_1_1 (hon 1 (by kernel_rfl)) (hoff 4 (by kernel_rfl)))
      have LL8_1_1 := Aside0.mk (Q_LL8_1_1 (hon 1 (by kernel_rfl)) (hoff 4 (by kernel_rfl)))
      have HBx := zM (below_step HB.out HBW.out)
      refine goes_ Try.func7 (by kernel_rfl) rfl #[.agg #[.slice A1_0 l1_0.length ca1_0, .slice A1_1 l1_1.length ca1_1]] (by rfl) rfl rfl (by first | (simp only [List.map_toArray, List.map_cons, List.map_nil, Act.eval, Array.getD_eq_getD_getElem?, Option.getD_some, e30]; done) | (simp only [List.map_toArray, List.map_cons, List.map_nil, Act.eval, Array.getD_eq_getD_getElem?, Option.getD_some, e30]; rfl)) ?_
      with_reducible refine (laws_toSpace.calls k3 _ _ l1_0 _ _ l1_1 l1_0 l1_1 _ ?side1 ?side2 ?side3 ?side4 H3.out).mono ?_
      (case side1 => exact zC (Kd.C_below HR1_0.out HBx.out))
      (case side2 => exact HC1_0.out)
      (case side3 => exact zC (Kd.C_below HR1_1.out HBx.out))
      (case side4 => exact HC1_1.out)
      rintro e wz ⟨v0_, v1_, rfl, ho0, ho1, hb⟩
      obtain ⟨NA8_3_0, Nc8_3_0, eo_⟩ := Kd.S_slice ho0
      subst eo_
      obtain ⟨NA8_3_1, Nc8_3_1, eo_⟩ := Kd.R_slice ho1
      subst eo_
      refine ⟨_, rfl, ?_⟩
      refine hK.out _ _ ⟨Ao8_1_0, co8_1_0, Ao8_1_1, co8_1_1, NA8_3_0, Nc8_3_0, NA8_3_1, Nc8_3_1, Ao0_0, co0_0, Ao0_1, co0_1, gb6, m1_, (.agg #[.slice NA8_3_0 l1_0.length Nc8_3_0, .slice NA8_3_1 l1_1.length Nc8_3_1]), m4_, m5_, m6_, m8_, (by rw [ha.out]; exact putSel_upk 3 hb_ rfl rfl rfl), below_step HBW.out hb, fun _ _ => Kd.C_below CC8_1_0.out hb, Q_LL8_1_0, fun _ _ => Kd.C_below CC8_1_1.out hb, Q_LL8_1_1, fun _ _ => (Kd.S_reads' ho0).2.2, fun _ _ => (Kd.S_reads' ho0).2.1, fun _ _ => (Kd.R_reads' ho1).2.2, fun _ _ => (Kd.R_reads' ho1).2.1, fun h0_ => absurd ((hoff 4 (by kernel_rfl)).symm.trans h0_) (by decide), fun h0_ => absurd ((hoff 4 (by kernel_rfl)).symm.trans h0_) (by decide), fun h0_ h1_ => blk_below (Q_BKa h0_ h1_) hb, Q_GW, fun h0_ => absurd ((hoff 9 (by kernel_rfl)).symm.trans h0_) (by decide), Q_X1_, fun _ => rfl, fun h0_ => absurd ((hoff 4 (by kernel_rfl)).symm.trans h0_) (by decide), fun h0_ => absurd ((hoff 5 (by kernel_rfl)).symm.trans h0_) (by decide), fun h0_ => absurd ((hoff 6 (by kernel_rfl)).symm.trans h0_) (by decide), Q_X8_⟩
    refine steps_cons ?_ ?_
    · rintro b a w' ⟨Ao8_1_0, co8_1_0, Ao8_1_1, co8_1_1, Ao8_3_0, co8_3_0, Ao8_3_1, co8_3_1, Ao0_0, co0_0, Ao0_1, co0_1, gb6, m1_, m3_, m4_, m5_, m6_, m8_, ha, Q_HBW, Q_CC8_1_0, Q_LL8_1_0, Q_CC8_1_1, Q_LL8_1_1, Q_CC8_3_0, Q_LL8_3_0, Q_CC8_3_1, Q_LL8_3_1, Q_HO0_0, Q_HO0_1, Q_BKa, Q_GW, Q_BK6, Q_X1_, Q_X3_, Q_X4_, Q_X5_, Q_X6_, Q_X8_⟩ hb_ hon hoff
      refine ⟨_, rfl, fun K hK => ?_⟩
      have e29 : a.tmps[29]? = some (m1_) := by rw [ha]; exact putSel_on (e := (1, 29, m1_)) 1 rfl rfl (hon 1 (by kernel_rfl)) rfl
      rw [Q_X1_ (hon 1 (by kernel_rfl))] at e29
      have e31 : a.tmps[31]? = some (m3_) := by rw [ha]; exact putSel_on (e := (3, 31, m3_)) 3 rfl rfl (hon 3 (by kernel_rfl)) rfl
      rw [Q_X3_ (hon 3 (by kernel_rfl))] at e31
      replace ha := Aside0.mk ha
      have HBW := Aside0.mk Q_HBW
      have CC8_1_0 := Aside0.mk (Q_CC8_1_0 (hon 1 (by kernel_rfl)) hb_)
      have LL8_1_0 := Aside0.mk (Q_LL8_1_0 (hon 1 (by kernel_rfl)) hb_)
      have CC8_1_1 := Aside0.mk (Q_CC8_1_1 (hon 1 (by kernel_rfl)) hb_)
      have LL8_1_1 := Aside0.mk (Q_LL8_1_1 (hon 1 (by kernel_rfl)) hb_)
      have CC8_3_0 := Aside0.mk (Q_CC8_3_0 (hon 3 (by kernel_rfl)) hb_)
      have LL8_3_0 := Aside0.mk (Q_LL8_3_0 (hon 3 (by kernel_rfl)) hb_)
      have CC8_3_1 := Aside0.mk (Q_CC8_3_1 (hon 3 (by kernel_rfl)) hb_)
      have LL8_3_1 := Aside0.mk (Q_LL8_3_1 (hon 3 (by kernel_rfl)) hb_)
      have HBx := zM (below_step HB.out HBW.out)
      refine goes_ Try.func6 (by kernel_rfl) rfl #[.agg #[.slice Ao8_1_0 l0_0.length co8_1_0, .slice Ao8_1_1 l0_1.length co8_1_1], .agg #[.slice Ao8_3_0 l1_0.length co8_3_0, .slice Ao8_3_1 l1_1.length co8_3_1]] (by rfl) rfl rfl (by first | (simp only [List.map_toArray, List.map_cons, List.map_nil, Act.eval, Array.getD_eq_getD_getElem?, Option.getD_some, e29, e31]; done) | (simp only [List.map_toArray, List.map_cons, List.map_nil, Act.eval, Array.getD_eq_getD_getElem?, Option.getD_some, e29, e31]; rfl)) ?_
      with_reducible refine (spec_ProductSpace.calls k4 _ _ l0_0 _ _ l0_1 _ _ l1_0 _ _ l1_1 q0 q1 q2 _ ?side1 ?side2 ?side3 ?side4 ?side5 ?side6 ?side7 ?side8 H4.out).mono ?_
      (case side1 => exact CC8_1_0.out)
      (case side2 => exact LL8_1_0.out)
      (case side3 => exact CC8_1_1.out)
      (case side4 => exact LL8_1_1.out)
      (case side5 => exact CC8_3_0.out)
      (case side6 => exact LL8_3_0.out)
      (case side7 => exact CC8_3_1.out)
      (case side8 => exact LL8_3_1.out)
      rintro e wz ⟨v0_, v1_, rfl, ho0, ho1, hb⟩
      obtain ⟨NA0_0, Nc0_0, eo_⟩ := Kd.S_slice ho0
      subst eo_
      obtain ⟨NA0_1, Nc0_1, eo_⟩ := Kd.R_slice ho1
      subst eo_
      refine ⟨_, rfl, ?_⟩
      refine hK.out _ _ ⟨Ao8_1_0, co8_1_0, Ao8_1_1, co8_1_1, Ao8_3_0, co8_3_0, Ao8_3_1, co8_3_1, NA0_0, Nc0_0, NA0_1, Nc0_1, gb6, m1_, m3_, (.tuple #[.agg #[.slice NA0_0 q0.length Nc0_0, .slice NA0_1 q1.length Nc0_1], .bool q2]), m5_, m6_, m8_, (by rw [ha.out]; exact putSel_upk 4 hb_ rfl rfl rfl), below_step HBW.out hb, fun _ h1_ => absurd ((up_self b 4).symm.trans h1_) (by decide), fun _ h1_ => absurd ((up_self b 4).symm.trans h1_) (by decide), fun _ h1_ => absurd ((up_self b 4).symm.trans h1_) (by decide), fun _ h1_ => absurd ((up_self b 4).symm.trans h1_) (by decide), fun _ h1_ => absurd ((up_self b 4).symm.trans h1_) (by decide), fun _ h1_ => absurd ((up_self b 4).symm.trans h1_) (by decide), fun _ h1_ => absurd ((up_self b 4).symm.trans h1_) (by decide), fun _ h1_ => absurd ((up_self b 4).symm.trans h1_) (by decide), fun _ => Kd.S_lower ho0 (below_size HBW.out), fun _ => Kd.R_lower ho1 (below_size HBW.out), fun h0_ h1_ => blk_below (Q_BKa h0_ h1_) hb, Q_GW, fun h0_ => absurd ((hoff 9 (by kernel_rfl)).symm.trans h0_) (by decide), Q_X1_, Q_X3_, fun _ => rfl, fun h0_ => absurd ((hoff 5 (by kernel_rfl)).symm.trans h0_) (by decide), fun h0_ => absurd ((hoff 6 (by kernel_rfl)).symm.trans h0_) (by decide), Q_X8_⟩
    refine steps_cons ?_ ?_
    · rintro b a w' ⟨Ao8_1_0, co8_1_0, Ao8_1_1, co8_1_1, Ao8_3_0, co8_3_0, Ao8_3_1, co8_3_1, Ao0_0, co0_0, Ao0_1, co0_1, gb6, m1_, m3_, m4_, m5_, m6_, m8_, ha, Q_HBW, Q_CC8_1_0, Q_LL8_1_0, Q_CC8_1_1, Q_LL8_1_1, Q_CC8_3_0, Q_LL8_3_0, Q_CC8_3_1, Q_LL8_3_1, Q_HO0_0, Q_HO0_1, Q_BKa, Q_GW, Q_BK6, Q_X1_, Q_X3_, Q_X4_, Q_X5_, Q_X6_, Q_X8_⟩ hb_ hon hoff
      refine ⟨_, rfl, fun K hK => ?_⟩
      have e32 : a.tmps[32]? = some (m4_) := by rw [ha]; exact putSel_on (e := (4, 32, m4_)) 4 rfl rfl (hon 4 (by kernel_rfl)) rfl
      rw [Q_X4_ (hon 4 (by kernel_rfl))] at e32
      replace ha := Aside0.mk ha
      have HBW := Aside0.mk Q_HBW
      have HO0_0 := Aside0.mk (Q_HO0_0 (hon 4 (by kernel_rfl)))
      have HO0_1 := Aside0.mk (Q_HO0_1 (hon 4 (by kernel_rfl)))
      refine value_ (w1 := w') (v := .tuple #[.agg #[.slice Ao0_0 q0.length co0_0, .slice Ao0_1 q1.length co0_1], .bool q2]) (by rfl) rfl ?_ ?_
      · go_simp
        (try simp only [i64_w])
        try rfl
      refine hK.out _ _ ⟨Ao8_1_0, co8_1_0, Ao8_1_1, co8_1_1, Ao8_3_0, co8_3_0, Ao8_3_1, co8_3_1, Ao0_0, co0_0, Ao0_1, co0_1, gb6, m1_, m3_, m4_, (.tuple #[.agg #[.slice Ao0_0 q0.length co0_0, .slice Ao0_1 q1.length co0_1], .bool q2]), m6_, m8_, (by rw [ha.out]; exact putSel_upk 5 hb_ rfl rfl rfl), Q_HBW, fun _ h1_ => absurd ((hon 4 (by kernel_rfl)).symm.trans h1_) (by decide), fun _ h1_ => absurd ((hon 4 (by kernel_rfl)).symm.trans h1_) (by decide), fun _ h1_ => absurd ((hon 4 (by kernel_rfl)).symm.trans h1_) (by decide), fun _ h1_ => absurd ((hon 4 (by kernel_rfl)).symm.trans h1_) (by decide), fun _ h1_ => absurd ((hon 4 (by kernel_rfl)).symm.trans h1_) (by decide), fun _ h1_ => absurd ((hon 4 (by kernel_rfl)).symm.trans h1_) (by decide), fun _ h1_ => absurd ((hon 4 (by kernel_rfl)).symm.trans h1_) (by decide), fun _ h1_ => absurd ((hon 4 (by kernel_rfl)).symm.trans h1_) (by decide), Q_HO0_0, Q_HO0_1, Q_BKa, Q_GW, fun h0_ => absurd ((hoff 9 (by kernel_rfl)).symm.trans h0_) (by decide), Q_X1_, Q_X3_, Q_X4_, fun _ => rfl, fun h0_ => absurd ((hoff 6 (by kernel_rfl)).symm.trans h0_) (by decide), Q_X8_⟩
    refine steps_cons ?_ ?_
    · rintro b a w' ⟨Ao8_1_0, co8_1_0, Ao8_1_1, co8_1_1, Ao8_3_0, co8_3_0, Ao8_3_1, co8_3_1, Ao0_0, co0_0, Ao0_1, co0_1, gb6, m1_, m3_, m4_, m5_, m6_, m8_, ha, Q_HBW, Q_CC8_1_0, Q_LL8_1_0, Q_CC8_1_1, Q_LL8_1_1, Q_CC8_3_0, Q_LL8_3_0, Q_CC8_3_1, Q_LL8_3_1, Q_HO0_0, Q_HO0_1, Q_BKa, Q_GW, Q_BK6, Q_X1_, Q_X3_, Q_X4_, Q_X5_, Q_X6_, Q_X8_⟩ hb_ hon hoff
      refine ⟨_, rfl, fun K hK => ?_⟩
      have e27 : a.tmps[27]? = some (m5_) := by rw [ha]; exact putSel_on (e := (5, 27, m5_)) 5 rfl rfl (hon 5 (by kernel_rfl)) rfl
      rw [Q_X5_ (hon 5 (by kernel_rfl))] at e27
      replace ha := Aside0.mk ha
      have HBW := Aside0.mk Q_HBW
      have HO0_0 := Aside0.mk (Q_HO0_0 (hon 4 (by kernel_rfl)))
      have HO0_1 := Aside0.mk (Q_HO0_1 (hon 4 (by kernel_rfl)))
      refine value_ (w1 := w') (v := .agg #[.slice Ao0_0 q0.length co0_0, .slice Ao0_1 q1.length co0_1]) (by rfl) rfl ?_ ?_
      · go_simp
        (try simp only [i64_w])
        try rfl
      refine hK.out _ _ ⟨Ao8_1_0, co8_1_0, Ao8_1_1, co8_1_1, Ao8_3_0, co8_3_0, Ao8_3_1, co8_3_1, Ao0_0, co0_0, Ao0_1, co0_1, gb6, m1_, m3_, m4_, m5_, (.agg #[.slice Ao0_0 q0.length co0_0, .slice Ao0_1 q1.length co0_1]), m8_, (by rw [ha.out]; exact putSel_upk 6 hb_ rfl rfl rfl), Q_HBW, fun _ h1_ => absurd ((hon 4 (by kernel_rfl)).symm.trans h1_) (by decide), fun _ h1_ => absurd ((hon 4 (by kernel_rfl)).symm.trans h1_) (by decide), fun _ h1_ => absurd ((hon 4 (by kernel_rfl)).symm.trans h1_) (by decide), fun _ h1_ => absurd ((hon 4 (by kernel_rfl)).symm.trans h1_) (by decide), fun _ h1_ => absurd ((hon 4 (by kernel_rfl)).symm.trans h1_) (by decide), fun _ h1_ => absurd ((hon 4 (by kernel_rfl)).symm.trans h1_) (by decide), fun _ h1_ => absurd ((hon 4 (by kernel_rfl)).symm.trans h1_) (by decide), fun _ h1_ => absurd ((hon 4 (by kernel_rfl)).symm.trans h1_) (by decide), Q_HO0_0, Q_HO0_1, Q_BKa, Q_GW, fun h0_ => absurd ((hoff 9 (by kernel_rfl)).symm.trans h0_) (by decide), Q_X1_, Q_X3_, Q_X4_, Q_X5_, fun _ => rfl, Q_X8_⟩
    refine steps_cons ?_ ?_
    · rintro b a w' ⟨Ao8_1_0, co8_1_0, Ao8_1_1, co8_1_1, Ao8_3_0, co8_3_0, Ao8_3_1, co8_3_1, Ao0_0, co0_0, Ao0_1, co0_1, gb6, m1_, m3_, m4_, m5_, m6_, m8_, ha, Q_HBW, Q_CC8_1_0, Q_LL8_1_0, Q_CC8_1_1, Q_LL8_1_1, Q_CC8_3_0, Q_LL8_3_0, Q_CC8_3_1, Q_LL8_3_1, Q_HO0_0, Q_HO0_1, Q_BKa, Q_GW, Q_BK6, Q_X1_, Q_X3_, Q_X4_, Q_X5_, Q_X6_, Q_X8_⟩ hb_ hon hoff
      refine ⟨_, rfl, fun K hK => ?_⟩
      have e27 : a.tmps[27]? = some (m5_) := by rw [ha]; exact putSel_on (e := (5, 27, m5_)) 5 rfl rfl (hon 5 (by kernel_rfl)) rfl
      rw [Q_X5_ (hon 5 (by kernel_rfl))] at e27
      replace ha := Aside0.mk ha
      have HBW := Aside0.mk Q_HBW
      have HO0_0 := Aside0.mk (Q_HO0_0 (hon 4 (by kernel_rfl)))
      have HO0_1 := Aside0.mk (Q_HO0_1 (hon 4 (by kernel_rfl)))
      refine value_ (w1 := w') (v := .bool q2) (by rfl) rfl ?_ ?_
      · go_simp
        (try simp only [i64_w])
        try rfl
      refine hK.out _ _ ⟨Ao8_1_0, co8_1_0, Ao8_1_1, co8_1_1, Ao8_3_0, co8_3_0, Ao8_3_1, co8_3_1, Ao0_0, co0_0, Ao0_1, co0_1, gb6, m1_, m3_, m4_, m5_, m6_, m8_, (by rw [ha.out]; exact putSel_upk 7 hb_ rfl rfl rfl), Q_HBW, fun _ h1_ => absurd ((hon 4 (by kernel_rfl)).symm.trans h1_) (by decide), fun _ h1_ => absurd ((hon 4 (by kernel_rfl)).symm.trans h1_) (by decide), fun _ h1_ => absurd ((hon 4 (by kernel_rfl)).symm.trans h1_) (by decide), fun _ h1_ => absurd ((hon 4 (by kernel_rfl)).symm.trans h1_) (by decide), fun _ h1_ => absurd ((hon 4 (by kernel_rfl)).symm.trans h1_) (by decide), fun _ h1_ => absurd ((hon 4 (by kernel_rfl)).symm.trans h1_) (by decide), fun _ h1_ => absurd ((hon 4 (by kernel_rfl)).symm.trans h1_) (by decide), fun _ h1_ => absurd ((hon 4 (by kernel_rfl)).symm.trans h1_) (by decide), Q_HO0_0, Q_HO0_1, Q_BKa, Q_GW, Q_BK6, Q_X1_, Q_X3_, Q_X4_, Q_X5_, Q_X6_, Q_X8_⟩
    refine steps_cons ?_ ?_
    · rintro b a w' ⟨Ao8_1_0, co8_1_0, Ao8_1_1, co8_1_1, Ao8_3_0, co8_3_0, Ao8_3_1, co8_3_1, Ao0_0, co0_0, Ao0_1, co0_1, gb6, m1_, m3_, m4_, m5_, m6_, m8_, ha, Q_HBW, Q_CC8_1_0, Q_LL8_1_0, Q_CC8_1_1, Q_LL8_1_1, Q_CC8_3_0, Q_LL8_3_0, Q_CC8_3_1, Q_LL8_3_1, Q_HO0_0, Q_HO0_1, Q_BKa, Q_GW, Q_BK6, Q_X1_, Q_X3_, Q_X4_, Q_X5_, Q_X6_, Q_X8_⟩ hb_ hon hoff
      refine ⟨_, rfl, fun K hK => ?_⟩
      replace ha := Aside0.mk ha
      have HBW := Aside0.mk Q_HBW
      refine box_step ?hg (N := 6) ?hd (cs := #[.slice none 0 0, .slice none 0 0]) (t := 27) ?hr ?_; (case hd => rfl); (case hg => rfl); (case hr => first | (go_simp; done) | (go_simp; rfl))
      intro Ng hg wz hbox hb
      refine hK.out _ _ ⟨Ao8_1_0, co8_1_0, Ao8_1_1, co8_1_1, Ao8_3_0, co8_3_0, Ao8_3_1, co8_3_1, Ao0_0, co0_0, Ao0_1, co0_1, Ng, m1_, m3_, m4_, m5_, m6_, (.pointer (some ⟨Ng, 0, none⟩)), (by rw [ha.out]; exact putSel_upk 8 hb_ rfl rfl rfl), below_step HBW.out hb, fun h0_ h1_ => Kd.C_below (Q_CC8_1_0 h0_ h1_) hb, Q_LL8_1_0, fun h0_ h1_ => Kd.C_below (Q_CC8_1_1 h0_ h1_) hb, Q_LL8_1_1, fun h0_ h1_ => Kd.C_below (Q_CC8_3_0 h0_ h1_) hb, Q_LL8_3_0, fun h0_ h1_ => Kd.C_below (Q_CC8_3_1 h0_ h1_) hb, Q_LL8_3_1, fun h0_ => Kd.S_below (Q_HO0_0 h0_) hb, fun h0_ => Kd.R_below (Q_HO0_1 h0_) hb, fun _ _ => hbox, fun _ => (by rw [hg]; exact below_size HBW.out), fun h0_ => absurd ((hoff 9 (by kernel_rfl)).symm.trans h0_) (by decide), Q_X1_, Q_X3_, Q_X4_, Q_X5_, Q_X6_, fun _ => rfl⟩
    refine steps_cons ?_ ?_
    · rintro b a w' ⟨Ao8_1_0, co8_1_0, Ao8_1_1, co8_1_1, Ao8_3_0, co8_3_0, Ao8_3_1, co8_3_1, Ao0_0, co0_0, Ao0_1, co0_1, gb6, m1_, m3_, m4_, m5_, m6_, m8_, ha, Q_HBW, Q_CC8_1_0, Q_LL8_1_0, Q_CC8_1_1, Q_LL8_1_1, Q_CC8_3_0, Q_LL8_3_0, Q_CC8_3_1, Q_LL8_3_1, Q_HO0_0, Q_HO0_1, Q_BKa, Q_GW, Q_BK6, Q_X1_, Q_X3_, Q_X4_, Q_X5_, Q_X6_, Q_X8_⟩ hb_ hon hoff
      refine ⟨_, rfl, fun K hK => ?_⟩
      have e6 : a.tmps[6]? = some (m8_) := by rw [ha]; exact putSel_on (e := (8, 6, m8_)) 8 rfl rfl (hon 8 (by kernel_rfl)) rfl
      rw [Q_X8_ (hon 8 (by kernel_rfl))] at e6
      have e33 : a.tmps[33]? = some (m6_) := by rw [ha]; exact putSel_on (e := (6, 33, m6_)) 6 rfl rfl (hon 6 (by kernel_rfl)) rfl
      rw [Q_X6_ (hon 6 (by kernel_rfl))] at e33
      replace ha := Aside0.mk ha
      have HBW := Aside0.mk Q_HBW
      have HO0_0 := Aside0.mk (Q_HO0_0 (hon 4 (by kernel_rfl)))
      have HO0_1 := Aside0.mk (Q_HO0_1 (hon 4 (by kernel_rfl)))
      have BKa := Aside0.mk (Q_BKa (hon 8 (by kernel_rfl)) hb_)
      have GW := Aside0.mk (Q_GW (hon 8 (by kernel_rfl)))
      have hs0_ : w'.cell? ⟨gb6, 0, none⟩ = some (.slice none 0 0) := (blk_cell BKa.out 0).trans rfl
      have hs1_ : w'.cell? ⟨gb6, 1, none⟩ = some (.slice none 0 0) := (blk_cell BKa.out 1).trans rfl
      have hf0_ := blk_frozen BKa.out 0
      have hf1_ := blk_frozen BKa.out 1
      refine skip_ (w1 := ?_) (by rfl) rfl ?_ ?_
      rotate_left
      · go_simp
        rfl
      refine hK.out _ _ ⟨Ao8_1_0, co8_1_0, Ao8_1_1, co8_1_1, Ao8_3_0, co8_3_0, Ao8_3_1, co8_3_1, Ao0_0, co0_0, Ao0_1, co0_1, gb6, m1_, m3_, m4_, m5_, m6_, m8_, (by rw [ha.out]; exact putSel_none (v := undef) rfl), below_set (below_set HBW.out GW.out) GW.out, fun _ h1_ => absurd ((hon 4 (by kernel_rfl)).symm.trans h1_) (by decide), fun _ h1_ => absurd ((hon 4 (by kernel_rfl)).symm.trans h1_) (by decide), fun _ h1_ => absurd ((hon 4 (by kernel_rfl)).symm.trans h1_) (by decide), fun _ h1_ => absurd ((hon 4 (by kernel_rfl)).symm.trans h1_) (by decide), fun _ h1_ => absurd ((hon 4 (by kernel_rfl)).symm.trans h1_) (by decide), fun _ h1_ => absurd ((hon 4 (by kernel_rfl)).symm.trans h1_) (by decide), fun _ h1_ => absurd ((hon 4 (by kernel_rfl)).symm.trans h1_) (by decide), fun _ h1_ => absurd ((hon 4 (by kernel_rfl)).symm.trans h1_) (by decide), fun _ => Kd.S_mono (Kd.S_far (p := ⟨gb6, 1, none⟩) (Kd.S_far (p := ⟨gb6, 0, none⟩) (Kd.S_types HO0_0.out BKa.out (by decide)) (fun _ hk => hk.2) _) (fun _ hk => hk.2) _) (fun _ _ => trivial), fun _ => Kd.R_mono (Kd.R_far (p := ⟨gb6, 1, none⟩) (Kd.R_far (p := ⟨gb6, 0, none⟩) (Kd.R_types HO0_1.out BKa.out (by decide)) (fun _ hk => hk.2) _) (fun _ hk => hk.2) _) (fun _ _ => trivial), fun _ h1_ => absurd ((up_self b 9).symm.trans h1_) (by decide), Q_GW, fun _ => blk_put (cs := #[.slice Ao0_0 q0.length co0_0, .slice none 0 0]) (blk_put (cs := #[.slice none 0 0, .slice none 0 0]) BKa.out 0 _ rfl) 1 _ rfl, Q_X1_, Q_X3_, Q_X4_, Q_X5_, Q_X6_, Q_X8_⟩
    refine steps_cons ?_ ?_
    · rintro b a w' ⟨Ao8_1_0, co8_1_0, Ao8_1_1, co8_1_1, Ao8_3_0, co8_3_0, Ao8_3_1, co8_3_1, Ao0_0, co0_0, Ao0_1, co0_1, gb6, m1_, m3_, m4_, m5_, m6_, m8_, ha, Q_HBW, Q_CC8_1_0, Q_LL8_1_0, Q_CC8_1_1, Q_LL8_1_1, Q_CC8_3_0, Q_LL8_3_0, Q_CC8_3_1, Q_LL8_3_1, Q_HO0_0, Q_HO0_1, Q_BKa, Q_GW, Q_BK6, Q_X1_, Q_X3_, Q_X4_, Q_X5_, Q_X6_, Q_X8_⟩ hb_ hon hoff
      refine ⟨_, rfl, fun K hK => ?_⟩
      have e34 : a.tmps[34]? = some (.bool q2) := by rw [ha]; exact putSel_on (e := (7, 34, .bool q2)) 7 rfl rfl (hon 7 (by kernel_rfl)) rfl
      replace ha := Aside0.mk ha
      have HBW := Aside0.mk Q_HBW
      have HO0_0 := Aside0.mk (Q_HO0_0 (hon 4 (by kernel_rfl)))
      have HO0_1 := Aside0.mk (Q_HO0_1 (hon 4 (by kernel_rfl)))
      have GW := Aside0.mk (Q_GW (hon 8 (by kernel_rfl)))
      have BK6 := Aside0.mk (Q_BK6 (hon 9 (by kernel_rfl)))
      refine value_ (w1 := w') (v := .bool q2) (by rfl) rfl ?_ ?_
      · go_simp
        (try simp only [i64_w])
        try rfl
      refine hK.out _ _ ⟨Ao8_1_0, co8_1_0, Ao8_1_1, co8_1_1, Ao8_3_0, co8_3_0, Ao8_3_1, co8_3_1, Ao0_0, co0_0, Ao0_1, co0_1, gb6, m1_, m3_, m4_, m5_, m6_, m8_, (by rw [ha.out]; exact putSel_upk 9 hb_ rfl rfl rfl), Q_HBW, fun _ h1_ => absurd ((hon 4 (by kernel_rfl)).symm.trans h1_) (by decide), fun _ h1_ => absurd ((hon 4 (by kernel_rfl)).symm.trans h1_) (by decide), fun _ h1_ => absurd ((hon 4 (by kernel_rfl)).symm.trans h1_) (by decide), fun _ h1_ => absurd ((hon 4 (by kernel_rfl)).symm.trans h1_) (by decide), fun _ h1_ => absurd ((hon 4 (by kernel_rfl)).symm.trans h1_) (by decide), fun _ h1_ => absurd ((hon 4 (by kernel_rfl)).symm.trans h1_) (by decide), fun _ h1_ => absurd ((hon 4 (by kernel_rfl)).symm.trans h1_) (by decide), fun _ h1_ => absurd ((hon 4 (by kernel_rfl)).symm.trans h1_) (by decide), Q_HO0_0, Q_HO0_1, fun _ h1_ => absurd ((hon 9 (by kernel_rfl)).symm.trans h1_) (by decide), Q_GW, Q_BK6, Q_X1_, Q_X3_, Q_X4_, Q_X5_, Q_X6_, Q_X8_⟩
    exact steps_nil
  rintro b a w6 hall ⟨Ao8_1_0, co8_1_0, Ao8_1_1, co8_1_1, Ao8_3_0, co8_3_0, Ao8_3_1, co8_3_1, Ao0_0, co0_0, Ao0_1, co0_1, gb6, m1_, m3_, m4_, m5_, m6_, m8_, ha, Q_HBW, Q_CC8_1_0, Q_LL8_1_0, Q_CC8_1_1, Q_LL8_1_1, Q_CC8_3_0, Q_LL8_3_0, Q_CC8_3_1, Q_LL8_3_1, Q_HO0_0, Q_HO0_1, Q_BKa, Q_GW, Q_BK6, Q_X1_, Q_X3_, Q_X4_, Q_X5_, Q_X6_, Q_X8_⟩
  clear HBW
  have hb0_ := hall 0 (by kernel_rfl)
  have hb1_ := hall 1 (by kernel_rfl)
  have hb2_ := hall 2 (by kernel_rfl)
  have hb3_ := hall 3 (by kernel_rfl)
  have hb4_ := hall 4 (by kernel_rfl)
  have hb5_ := hall 5 (by kernel_rfl)
  have hb6_ := hall 6 (by kernel_rfl)
  have hb7_ := hall 7 (by kernel_rfl)
  have hb8_ := hall 8 (by kernel_rfl)
  have hb9_ := hall 9 (by kernel_rfl)
  have hb10_ := hall 10 (by kernel_rfl)
  subst ha
  obtain rfl := Q_X1_ hb1_
  obtain rfl := Q_X3_ hb3_
  obtain rfl := Q_X4_ hb4_
  obtain rfl := Q_X5_ hb5_
  obtain rfl := Q_X6_ hb6_
  obtain rfl := Q_X8_ hb8_
  simp only [putSel, hb0_, hb1_, hb2_, hb3_, hb4_, hb5_, hb6_, hb7_, hb8_, hb9_, hb10_, if_true, Act.put, List.setIfInBounds_toArray, List.set_cons_zero, List.set_cons_succ]
  have HBW := Aside0.mk Q_HBW
  clear Q_HBW
  clear Q_CC8_1_0
  clear Q_LL8_1_0
  clear Q_CC8_1_1
  clear Q_LL8_1_1
  clear Q_CC8_3_0
  clear Q_LL8_3_0
  clear Q_CC8_3_1
  clear Q_LL8_3_1
  have HO0_0 := Aside0.mk (Q_HO0_0 hb4_)
  clear Q_HO0_0
  have HO0_1 := Aside0.mk (Q_HO0_1 hb4_)
  clear Q_HO0_1
  clear Q_BKa
  have GW := Aside0.mk (Q_GW hb8_)
  clear Q_GW
  have BK6 := Aside0.mk (Q_BK6 hb9_)
  clear Q_BK6
  clear hall hb0_ hb1_ hb2_ hb3_ hb4_ hb5_ hb6_ hb7_ hb8_ hb9_ hb10_
  have HBs_ := zM (below_size HB.out)
  have hb := HBW.out
  replace BK2 := uKb BK2 hb
  replace BK3 := uKb BK3 hb
  have HS6 := zM hb.size
  replace HO0_0 := uS HB.out HO0_0.out
  replace HO0_1 := uR HB.out HO0_1.out
  replace HB := zM (below_step HB.out hb); clear hb HBW
  have HG6 := GW; have HW6 := zM (show w.heap.size ≤ gb6 from Nat.le_trans HBs_.out GW.out); have HL6 := zM (blk_lt BK6.out); clear GW HBs_
  have hn2_6 : gb2 ≠ gb6 := (by have := HG6.out; have := HL2.out; have := HS2.out; have := HS3.out; have := HS4.out; have := HS5.out; omega); have hn6_2 := hn2_6.symm
  have hn3_6 : gb3 ≠ gb6 := (by have := HG6.out; have := HL3.out; have := HS3.out; have := HS4.out; have := HS5.out; omega); have hn6_3 := hn3_6.symm
  replace hc2_0 := zy BK2 0
  replace hf2_0 := blk_frozen BK2.out 0
  replace hc2_1 := zy BK2 1
  replace hf2_1 := blk_frozen BK2.out 1
  replace hc3_0 := zy BK3 0
  replace hf3_0 := blk_frozen BK3.out 0
  replace hc3_1 := zy BK3 1
  replace hf3_1 := blk_frozen BK3.out 1
  have hc6_0 := zy BK6 0
  have hf6_0 := blk_frozen BK6.out 0
  have hc6_1 := zy BK6 1
  have hf6_1 := blk_frozen BK6.out 1
  go_upto_region 14 with (first
    | (have hst_ : Aside0 (Below w.heap.size w w6) := HB; clear hst_; go_at_call 7; refine (laws_toSpace.calls k2 _ _ l0_0 _ _ l0_1 l0_0 l0_1 _ ?side1 ?side2 ?side3 ?side4 H2.out).mono ?_; (case side1 => exact zC (Kd.C_below HR0_0.out HB.out)); (case side2 => exact HC0_0.out); (case side3 => exact zC (Kd.C_below HR0_1.out HB.out)); (case side4 => exact HC0_1.out); rintro e w7 ⟨v1_0, v1_1, rfl, ho0, ho1, hb⟩; replace HO0_0 := uSb HO0_0 hb; replace HO0_1 := uRb HO0_1 hb; replace BK2 := uKb BK2 hb; replace BK3 := uKb BK3 hb; replace BK6 := uKb BK6 hb; have HS7 := zM hb.size; have HO1_0 := uS HB.out (by first | exact ho0 | exact Kd.S_mono ho0 (fun _ _ => trivial) | exact Kd.S_mono ho0 (fun _ hk_ => hk_.1)); clear ho0; obtain ⟨Ao1_0, co1_0, eo1_0⟩ := Kd.S_slice HO1_0.out; subst eo1_0; have HO1_1 := uR HB.out (by first | exact ho1 | exact Kd.R_mono ho1 (fun _ _ => trivial) | exact Kd.R_mono ho1 (fun _ hk_ => hk_.1)); clear ho1; obtain ⟨Ao1_1, co1_1, eo1_1⟩ := Kd.R_slice HO1_1.out; subst eo1_1; replace HB := zM (below_step HB.out hb); clear hb; replace hc2_0 := zy BK2 0; replace hf2_0 := blk_frozen BK2.out 0; replace hc2_1 := zy BK2 1; replace hf2_1 := blk_frozen BK2.out 1; replace hc3_0 := zy BK3 0; replace hf3_0 := blk_frozen BK3.out 0; replace hc3_1 := zy BK3 1; replace hf3_1 := blk_frozen BK3.out 1; replace hc6_0 := zy BK6 0; replace hf6_0 := blk_frozen BK6.out 0; replace hc6_1 := zy BK6 1; replace hf6_1 := blk_frozen BK6.out 1)
    | ((with_reducible refine gate_dst (N := 8) rfl ?_); refine ze 8 #[.slice none 0 0, .slice none 0 0] 27 ?_; intro gb8 hg w8 hbox hb; have HG8 := zM hg; have HW8 := zM (show w.heap.size ≤ gb8 by rw [hg]; exact below_size HB.out); have HL8 := zM (blk_lt hbox); clear hg; replace HO0_0 := uSb HO0_0 hb; replace HO0_1 := uRb HO0_1 hb; replace HO1_0 := uSb HO1_0 hb; replace HO1_1 := uRb HO1_1 hb; replace BK2 := uKb BK2 hb; replace BK3 := uKb BK3 hb; replace BK6 := uKb BK6 hb; have HS8 := zM hb.size; replace HB := zM (below_step HB.out hb); have hn2_8 : gb2 ≠ gb8 := (by have := HG8.out; have := HL2.out; have := HS2.out; have := HS3.out; have := HS4.out; have := HS5.out; have := HS6.out; have := HS7.out; omega); have hn8_2 := hn2_8.symm; have hn3_8 : gb3 ≠ gb8 := (by have := HG8.out; have := HL3.out; have := HS3.out; have := HS4.out; have := HS5.out; have := HS6.out; have := HS7.out; omega); have hn8_3 := hn3_8.symm; have hn6_8 : gb6 ≠ gb8 := (by have := HG8.out; have := HL6.out; have := HS7.out; omega); have hn8_6 := hn6_8.symm; have BK8 := zM hbox; clear hbox hb; replace hc2_0 := zy BK2 0; replace hf2_0 := blk_frozen BK2.out 0; replace hc2_1 := zy BK2 1; replace hf2_1 := blk_frozen BK2.out 1; replace hc3_0 := zy BK3 0; replace hf3_0 := blk_frozen BK3.out 0; replace hc3_1 := zy BK3 1; replace hf3_1 := blk_frozen BK3.out 1; replace hc6_0 := zy BK6 0; replace hf6_0 := blk_frozen BK6.out 0; replace hc6_1 := zy BK6 1; replace hf6_1 := blk_frozen BK6.out 1; have hc8_0 := zy BK8 0; have hf8_0 := blk_frozen BK8.out 0; have hc8_1 := zy BK8 1; have hf8_1 := blk_frozen BK8.out 1)
    | (have hst_ : Aside0 (Below w.heap.size w w8) := HB; clear hst_; go_at_call 7; refine uBox BK8 HB HW8.out ?_; intro w9 BKn hk HBn; replace HO0_0 := uSk HO0_0 hk (fun k_ hk_ e_ => by have e2 : k_ = gb8 := e_; have := HG8.out; have := HL8.out; have h2 : w5.heap.size ≤ k_ ∧ k_ < w6.heap.size := hk_; have := HS7.out; omega); replace HO0_1 := uRk HO0_1 hk (fun k_ hk_ e_ => by have e2 : k_ = gb8 := e_; have := HG8.out; have := HL8.out; have h2 : w5.heap.size ≤ k_ ∧ k_ < w6.heap.size := hk_; have := HS7.out; omega); replace HO1_0 := uSk HO1_0 hk (fun k_ hk_ e_ => by have e2 : k_ = gb8 := e_; have := HG8.out; have := HL8.out; have h2 : w6.heap.size ≤ k_ ∧ k_ < w7.heap.size := hk_; omega); replace HO1_1 := uRk HO1_1 hk (fun k_ hk_ e_ => by have e2 : k_ = gb8 := e_; have := HG8.out; have := HL8.out; have h2 : w6.heap.size ≤ k_ ∧ k_ < w7.heap.size := hk_; omega); replace BK2 := uKk BK2 hk (fun e_ => by have e2 : gb2 = gb8 := e_; have := HG8.out; have := HL8.out; have := HG2.out; have := HL2.out; have := HS2.out; have := HS3.out; have := HS4.out; have := HS5.out; have := HS6.out; have := HS7.out; omega); replace BK3 := uKk BK3 hk (fun e_ => by have e2 : gb3 = gb8 := e_; have := HG8.out; have := HL8.out; have := HG3.out; have := HL3.out; have := HS3.out; have := HS4.out; have := HS5.out; have := HS6.out; have := HS7.out; omega); replace BK6 := uKk BK6 hk (fun e_ => by have e2 : gb6 = gb8 := e_; have := HG8.out; have := HL8.out; have := HG6.out; have := HL6.out; have := HS7.out; omega); replace BK8 := BKn; replace HB := HBn; clear BKn HBn; have HS9 := zM hk.1; clear hk; refine (laws_toSpace.calls k3 _ _ l1_0 _ _ l1_1 l1_0 l1_1 _ ?side1 ?side2 ?side3 ?side4 H3.out).mono ?_; (case side1 => exact zC (Kd.C_below HR1_0.out HB.out)); (case side2 => exact HC1_0.out); (case side3 => exact zC (Kd.C_below HR1_1.out HB.out)); (case side4 => exact HC1_1.out); rintro e w10 ⟨v2_0, v2_1, rfl, ho0, ho1, hb⟩; replace HO0_0 := uSb HO0_0 hb; replace HO0_1 := uRb HO0_1 hb; replace HO1_0 := uSb HO1_0 hb; replace HO1_1 := uRb HO1_1 hb; replace BK2 := uKb BK2 hb; replace BK3 := uKb BK3 hb; replace BK6 := uKb BK6 hb; replace BK8 := uKb BK8 hb; have HS10 := zM hb.size; have HO2_0 := uS HB.out (by first | exact ho0 | exact Kd.S_mono ho0 (fun _ _ => trivial) | exact Kd.S_mono ho0 (fun _ hk_ => hk_.1)); clear ho0; obtain ⟨Ao2_0, co2_0, eo2_0⟩ := Kd.S_slice HO2_0.out; subst eo2_0; have HO2_1 := uR HB.out (by first | exact ho1 | exact Kd.R_mono ho1 (fun _ _ => trivial) | exact Kd.R_mono ho1 (fun _ hk_ => hk_.1)); clear ho1; obtain ⟨Ao2_1, co2_1, eo2_1⟩ := Kd.R_slice HO2_1.out; subst eo2_1; replace HB := zM (below_step HB.out hb); clear hb; replace hc2_0 := zy BK2 0; replace hf2_0 := blk_frozen BK2.out 0; replace hc2_1 := zy BK2 1; replace hf2_1 := blk_frozen BK2.out 1; replace hc3_0 := zy BK3 0; replace hf3_0 := blk_frozen BK3.out 0; replace hc3_1 := zy BK3 1; replace hf3_1 := blk_frozen BK3.out 1; replace hc6_0 := zy BK6 0; replace hf6_0 := blk_frozen BK6.out 0; replace hc6_1 := zy BK6 1; replace hf6_1 := blk_frozen BK6.out 1; replace hc8_0 := zy BK8 0; replace hf8_0 := blk_frozen BK8.out 0; replace hc8_1 := zy BK8 1; replace hf8_1 := blk_frozen BK8.out 1)
    | ((with_reducible refine gate_dst (N := 9) rfl ?_); refine ze 9 #[.slice none 0 0, .slice none 0 0] 27 ?_; intro gb9 hg w11 hbox hb; have HG9 := zM hg; have HW9 := zM (show w.heap.size ≤ gb9 by rw [hg]; exact below_size HB.out); have HL9 := zM (blk_lt hbox); clear hg; replace HO0_0 := uSb HO0_0 hb; replace HO0_1 := uRb HO0_1 hb; replace HO1_0 := uSb HO1_0 hb; replace HO1_1 := uRb HO1_1 hb; replace HO2_0 := uSb HO2_0 hb; replace HO2_1 := uRb HO2_1 hb; replace BK2 := uKb BK2 hb; replace BK3 := uKb BK3 hb; replace BK6 := uKb BK6 hb; replace BK8 := uKb BK8 hb; have HS11 := zM hb.size; replace HB := zM (below_step HB.out hb); have hn2_9 : gb2 ≠ gb9 := (by have := HG9.out; have := HL2.out; have := HS2.out; have := HS3.out; have := HS4.out; have := HS5.out; have := HS6.out; have := HS7.out; have := HS8.out; have := HS9.out; have := HS10.out; omega); have hn9_2 := hn2_9.symm; have hn3_9 : gb3 ≠ gb9 := (by have := HG9.out; have := HL3.out; have := HS3.out; have := HS4.out; have := HS5.out; have := HS6.out; have := HS7.out; have := HS8.out; have := HS9.out; have := HS10.out; omega); have hn9_3 := hn3_9.symm; have hn6_9 : gb6 ≠ gb9 := (by have := HG9.out; have := HL6.out; have := HS7.out; have := HS8.out; have := HS9.out; have := HS10.out; omega); have hn9_6 := hn6_9.symm; have hn8_9 : gb8 ≠ gb9 := (by have := HG9.out; have := HL8.out; have := HS9.out; have := HS10.out; omega); have hn9_8 := hn8_9.symm; have BK9 := zM hbox; clear hbox hb; replace hc2_0 := zy BK2 0; replace hf2_0 := blk_frozen BK2.out 0; replace hc2_1 := zy BK2 1; replace hf2_1 := blk_frozen BK2.out 1; replace hc3_0 := zy BK3 0; replace hf3_0 := blk_frozen BK3.out 0; replace hc3_1 := zy BK3 1; replace hf3_1 := blk_frozen BK3.out 1; replace hc6_0 := zy BK6 0; replace hf6_0 := blk_frozen BK6.out 0; replace hc6_1 := zy BK6 1; replace hf6_1 := blk_frozen BK6.out 1; replace hc8_0 := zy BK8 0; replace hf8_0 := blk_frozen BK8.out 0; replace hc8_1 := zy BK8 1; replace hf8_1 := blk_frozen BK8.out 1; have hc9_0 := zy BK9 0; have hf9_0 := blk_frozen BK9.out 0; have hc9_1 := zy BK9 1; have hf9_1 := blk_frozen BK9.out 1)
    | (have hst_ : Aside0 (Below w.heap.size w w11) := HB; clear hst_; go_at_call 8; refine uBox BK9 HB HW9.out ?_; intro w12 BKn hk HBn; replace HO0_0 := uSk HO0_0 hk (fun k_ hk_ e_ => by have e2 : k_ = gb9 := e_; have := HG9.out; have := HL9.out; have h2 : w5.heap.size ≤ k_ ∧ k_ < w6.heap.size := hk_; have := HS7.out; have := HS8.out; have := HS9.out; have := HS10.out; omega); replace HO0_1 := uRk HO0_1 hk (fun k_ hk_ e_ => by have e2 : k_ = gb9 := e_; have := HG9.out; have := HL9.out; have h2 : w5.heap.size ≤ k_ ∧ k_ < w6.heap.size := hk_; have := HS7.out; have := HS8.out; have := HS9.out; have := HS10.out; omega); replace HO1_0 := uSk HO1_0 hk (fun k_ hk_ e_ => by have e2 : k_ = gb9 := e_; have := HG9.out; have := HL9.out; have h2 : w6.heap.size ≤ k_ ∧ k_ < w7.heap.size := hk_; have := HS8.out; have := HS9.out; have := HS10.out; omega); replace HO1_1 := uRk HO1_1 hk (fun k_ hk_ e_ => by have e2 : k_ = gb9 := e_; have := HG9.out; have := HL9.out; have h2 : w6.heap.size ≤ k_ ∧ k_ < w7.heap.size := hk_; have := HS8.out; have := HS9.out; have := HS10.out; omega); replace HO2_0 := uSk HO2_0 hk (fun k_ hk_ e_ => by have e2 : k_ = gb9 := e_; have := HG9.out; have := HL9.out; have h2 : w9.heap.size ≤ k_ ∧ k_ < w10.heap.size := hk_; omega); replace HO2_1 := uRk HO2_1 hk (fun k_ hk_ e_ => by have e2 : k_ = gb9 := e_; have := HG9.out; have := HL9.out; have h2 : w9.heap.size ≤ k_ ∧ k_ < w10.heap.size := hk_; omega); replace BK2 := uKk BK2 hk (fun e_ => by have e2 : gb2 = gb9 := e_; have := HG9.out; have := HL9.out; have := HG2.out; have := HL2.out; have := HS2.out; have := HS3.out; have := HS4.out; have := HS5.out; have := HS6.out; have := HS7.out; have := HS8.out; have := HS9.out; have := HS10.out; omega); replace BK3 := uKk BK3 hk (fun e_ => by have e2 : gb3 = gb9 := e_; have := HG9.out; have := HL9.out; have := HG3.out; have := HL3.out; have := HS3.out; have := HS4.out; have := HS5.out; have := HS6.out; have := HS7.out; have := HS8.out; have := HS9.out; have := HS10.out; omega); replace BK6 := uKk BK6 hk (fun e_ => by have e2 : gb6 = gb9 := e_; have := HG9.out; have := HL9.out; have := HG6.out; have := HL6.out; have := HS7.out; have := HS8.out; have := HS9.out; have := HS10.out; omega); replace BK8 := uKk BK8 hk (fun e_ => by have e2 : gb8 = gb9 := e_; have := HG9.out; have := HL9.out; have := HG8.out; have := HL8.out; have := HS9.out; have := HS10.out; omega); replace BK9 := BKn; replace HB := HBn; clear BKn HBn; have HS12 := zM hk.1; clear hk; refine (impl_ProductSpace.calls k5 _ _ l0_0 _ _ l0_1 _ _ l1_0 _ _ l1_1 q0 q1 q2 _ ?side1 ?side2 ?side3 ?side4 ?side5 ?side6 ?side7 ?side8 H5.out).mono ?_; (case side1 => exact zC (Kd.S_reads' HO1_0.out).2.2); (case side2 => exact (Kd.S_reads' HO1_0.out).2.1); (case side3 => exact zC (Kd.R_reads' HO1_1.out).2.2); (case side4 => exact (Kd.R_reads' HO1_1.out).2.1); (case side5 => exact zC (Kd.S_reads' HO2_0.out).2.2); (case side6 => exact (Kd.S_reads' HO2_0.out).2.1); (case side7 => exact zC (Kd.R_reads' HO2_1.out).2.2); (case side8 => exact (Kd.R_reads' HO2_1.out).2.1); rintro e w13 ⟨v3_0, v3_1, rfl, ho0, ho1, hb⟩; replace HO0_0 := uSb HO0_0 hb; replace HO0_1 := uRb HO0_1 hb; replace HO1_0 := uSb HO1_0 hb; replace HO1_1 := uRb HO1_1 hb; replace HO2_0 := uSb HO2_0 hb; replace HO2_1 := uRb HO2_1 hb; replace BK2 := uKb BK2 hb; replace BK3 := uKb BK3 hb; replace BK6 := uKb BK6 hb; replace BK8 := uKb BK8 hb; replace BK9 := uKb BK9 hb; have HS13 := zM hb.size; have HO3_0 := uS HB.out (by first | exact ho0 | exact Kd.S_mono ho0 (fun _ _ => trivial) | exact Kd.S_mono ho0 (fun _ hk_ => hk_.1)); clear ho0; obtain ⟨Ao3_0, co3_0, eo3_0⟩ := Kd.S_slice HO3_0.out; subst eo3_0; have HO3_1 := uR HB.out (by first | exact ho1 | exact Kd.R_mono ho1 (fun _ _ => trivial) | exact Kd.R_mono ho1 (fun _ hk_ => hk_.1)); clear ho1; obtain ⟨Ao3_1, co3_1, eo3_1⟩ := Kd.R_slice HO3_1.out; subst eo3_1; replace HB := zM (below_step HB.out hb); clear hb; replace hc2_0 := zy BK2 0; replace hf2_0 := blk_frozen BK2.out 0; replace hc2_1 := zy BK2 1; replace hf2_1 := blk_frozen BK2.out 1; replace hc3_0 := zy BK3 0; replace hf3_0 := blk_frozen BK3.out 0; replace hc3_1 := zy BK3 1; replace hf3_1 := blk_frozen BK3.out 1; replace hc6_0 := zy BK6 0; replace hf6_0 := blk_frozen BK6.out 0; replace hc6_1 := zy BK6 1; replace hf6_1 := blk_frozen BK6.out 1; replace hc8_0 := zy BK8 0; replace hf8_0 := blk_frozen BK8.out 0; replace hc8_1 := zy BK8 1; replace hf8_1 := blk_frozen BK8.out 1; replace hc9_0 := zy BK9 0; replace hf9_0 := blk_frozen BK9.out 0; replace hc9_1 := zy BK9 1; replace hf9_1 := blk_frozen BK9.out 1)
    | ((with_reducible refine gate_dst (N := 10) rfl ?_); refine ze 10 #[.slice none 0 0, .slice none 0 0] 27 ?_; intro gb10 hg w14 hbox hb; have HG10 := zM hg; have HW10 := zM (show w.heap.size ≤ gb10 by rw [hg]; exact below_size HB.out); have HL10 := zM (blk_lt hbox); clear hg; replace HO0_0 := uSb HO0_0 hb; replace HO0_1 := uRb HO0_1 hb; replace HO1_0 := uSb HO1_0 hb; replace HO1_1 := uRb HO1_1 hb; replace HO2_0 := uSb HO2_0 hb; replace HO2_1 := uRb HO2_1 hb; replace HO3_0 := uSb HO3_0 hb; replace HO3_1 := uRb HO3_1 hb; replace BK2 := uKb BK2 hb; replace BK3 := uKb BK3 hb; replace BK6 := uKb BK6 hb; replace BK8 := uKb BK8 hb; replace BK9 := uKb BK9 hb; have HS14 := zM hb.size; replace HB := zM (below_step HB.out hb); have hn2_10 : gb2 ≠ gb10 := (by have := HG10.out; have := HL2.out; have := HS2.out; have := HS3.out; have := HS4.out; have := HS5.out; have := HS6.out; have := HS7.out; have := HS8.out; have := HS9.out; have := HS10.out; have := HS11.out; have := HS12.out; have := HS13.out; omega); have hn10_2 := hn2_10.symm; have hn3_10 : gb3 ≠ gb10 := (by have := HG10.out; have := HL3.out; have := HS3.out; have := HS4.out; have := HS5.out; have := HS6.out; have := HS7.out; have := HS8.out; have := HS9.out; have := HS10.out; have := HS11.out; have := HS12.out; have := HS13.out; omega); have hn10_3 := hn3_10.symm; have hn6_10 : gb6 ≠ gb10 := (by have := HG10.out; have := HL6.out; have := HS7.out; have := HS8.out; have := HS9.out; have := HS10.out; have := HS11.out; have := HS12.out; have := HS13.out; omega); have hn10_6 := hn6_10.symm; have hn8_10 : gb8 ≠ gb10 := (by have := HG10.out; have := HL8.out; have := HS9.out; have := HS10.out; have := HS11.out; have := HS12.out; have := HS13.out; omega); have hn10_8 := hn8_10.symm; have hn9_10 : gb9 ≠ gb10 := (by have := HG10.out; have := HL9.out; have := HS12.out; have := HS13.out; omega); have hn10_9 := hn9_10.symm; have BK10 := zM hbox; clear hbox hb; replace hc2_0 := zy BK2 0; replace hf2_0 := blk_frozen BK2.out 0; replace hc2_1 := zy BK2 1; replace hf2_1 := blk_frozen BK2.out 1; replace hc3_0 := zy BK3 0; replace hf3_0 := blk_frozen BK3.out 0; replace hc3_1 := zy BK3 1; replace hf3_1 := blk_frozen BK3.out 1; replace hc6_0 := zy BK6 0; replace hf6_0 := blk_frozen BK6.out 0; replace hc6_1 := zy BK6 1; replace hf6_1 := blk_frozen BK6.out 1; replace hc8_0 := zy BK8 0; replace hf8_0 := blk_frozen BK8.out 0; replace hc8_1 := zy BK8 1; replace hf8_1 := blk_frozen BK8.out 1; replace hc9_0 := zy BK9 0; replace hf9_0 := blk_frozen BK9.out 0; replace hc9_1 := zy BK9 1; replace hf9_1 := blk_frozen BK9.out 1; have hc10_0 := zy BK10 0; have hf10_0 := blk_frozen BK10.out 0; have hc10_1 := zy BK10 1; have hf10_1 := blk_frozen BK10.out 1)
    | (have hst_ : Aside0 (Below w.heap.size w w14) := HB; clear hst_; go_at_call 9; refine uBox BK10 HB HW10.out ?_; intro w15 BKn hk HBn; replace HO0_0 := uSk HO0_0 hk (fun k_ hk_ e_ => by have e2 : k_ = gb10 := e_; have := HG10.out; have := HL10.out; have h2 : w5.heap.size ≤ k_ ∧ k_ < w6.heap.size := hk_; have := HS7.out; have := HS8.out; have := HS9.out; have := HS10.out; have := HS11.out; have := HS12.out; have := HS13.out; omega); replace HO0_1 := uRk HO0_1 hk (fun k_ hk_ e_ => by have e2 : k_ = gb10 := e_; have := HG10.out; have := HL10.out; have h2 : w5.heap.size ≤ k_ ∧ k_ < w6.heap.size := hk_; have := HS7.out; have := HS8.out; have := HS9.out; have := HS10.out; have := HS11.out; have := HS12.out; have := HS13.out; omega); replace HO1_0 := uSk HO1_0 hk (fun k_ hk_ e_ => by have e2 : k_ = gb10 := e_; have := HG10.out; have := HL10.out; have h2 : w6.heap.size ≤ k_ ∧ k_ < w7.heap.size := hk_; have := HS8.out; have := HS9.out; have := HS10.out; have := HS11.out; have := HS12.out; have := HS13.out; omega); replace HO1_1 := uRk HO1_1 hk (fun k_ hk_ e_ => by have e2 : k_ = gb10 := e_; have := HG10.out; have := HL10.out; have h2 : w6.heap.size ≤ k_ ∧ k_ < w7.heap.size := hk_; have := HS8.out; have := HS9.out; have := HS10.out; have := HS11.out; have := HS12.out; have := HS13.out; omega); replace HO2_0 := uSk HO2_0 hk (fun k_ hk_ e_ => by have e2 : k_ = gb10 := e_; have := HG10.out; have := HL10.out; have h2 : w9.heap.size ≤ k_ ∧ k_ < w10.heap.size := hk_; have := HS11.out; have := HS12.out; have := HS13.out; omega); replace HO2_1 := uRk HO2_1 hk (fun k_ hk_ e_ => by have e2 : k_ = gb10 := e_; have := HG10.out; have := HL10.out; have h2 : w9.heap.size ≤ k_ ∧ k_ < w10.heap.size := hk_; have := HS11.out; have := HS12.out; have := HS13.out; omega); replace HO3_0 := uSk HO3_0 hk (fun k_ hk_ e_ => by have e2 : k_ = gb10 := e_; have := HG10.out; have := HL10.out; have h2 : w12.heap.size ≤ k_ ∧ k_ < w13.heap.size := hk_; omega); replace HO3_1 := uRk HO3_1 hk (fun k_ hk_ e_ => by have e2 : k_ = gb10 := e_; have := HG10.out; have := HL10.out; have h2 : w12.heap.size ≤ k_ ∧ k_ < w13.heap.size := hk_; omega); replace BK2 := uKk BK2 hk (fun e_ => by have e2 : gb2 = gb10 := e_; have := HG10.out; have := HL10.out; have := HG2.out; have := HL2.out; have := HS2.out; have := HS3.out; have := HS4.out; have := HS5.out; have := HS6.out; have := HS7.out; have := HS8.out; have := HS9.out; have := HS10.out; have := HS11.out; have := HS12.out; have := HS13.out; omega); replace BK3 := uKk BK3 hk (fun e_ => by have e2 : gb3 = gb10 := e_; have := HG10.out; have := HL10.out; have := HG3.out; have := HL3.out; have := HS3.out; have := HS4.out; have := HS5.out; have := HS6.out; have := HS7.out; have := HS8.out; have := HS9.out; have := HS10.out; have := HS11.out; have := HS12.out; have := HS13.out; omega); replace BK6 := uKk BK6 hk (fun e_ => by have e2 : gb6 = gb10 := e_; have := HG10.out; have := HL10.out; have := HG6.out; have := HL6.out; have := HS7.out; have := HS8.out; have := HS9.out; have := HS10.out; have := HS11.out; have := HS12.out; have := HS13.out; omega); replace BK8 := uKk BK8 hk (fun e_ => by have e2 : gb8 = gb10 := e_; have := HG10.out; have := HL10.out; have := HG8.out; have := HL8.out; have := HS9.out; have := HS10.out; have := HS11.out; have := HS12.out; have := HS13.out; omega); replace BK9 := uKk BK9 hk (fun e_ => by have e2 : gb9 = gb10 := e_; have := HG10.out; have := HL10.out; have := HG9.out; have := HL9.out; have := HS12.out; have := HS13.out; omega); replace BK10 := BKn; replace HB := HBn; clear BKn HBn; have HS15 := zM hk.1; clear hk; refine (laws_eqSpace.calls k6 _ _ q0 _ _ q1 _ _ q0 _ _ q1 true _ ?side1 ?side2 ?side3 ?side4 ?side5 ?side6 ?side7 ?side8 H6.out).mono ?_; (case side1 => exact zC (Kd.S_reads' HO3_0.out).2.2); (case side2 => exact (Kd.S_reads' HO3_0.out).2.1); (case side3 => exact zC (Kd.R_reads' HO3_1.out).2.2); (case side4 => exact (Kd.R_reads' HO3_1.out).2.1); (case side5 => exact zC (Kd.S_reads' HO0_0.out).2.2); (case side6 => exact (Kd.S_reads' HO0_0.out).2.1); (case side7 => exact zC (Kd.R_reads' HO0_1.out).2.2); (case side8 => exact (Kd.R_reads' HO0_1.out).2.1); rintro e w16 ⟨rfl, hb⟩; replace HO0_0 := uSb HO0_0 hb; replace HO0_1 := uRb HO0_1 hb; replace HO1_0 := uSb HO1_0 hb; replace HO1_1 := uRb HO1_1 hb; replace HO2_0 := uSb HO2_0 hb; replace HO2_1 := uRb HO2_1 hb; replace HO3_0 := uSb HO3_0 hb; replace HO3_1 := uRb HO3_1 hb; replace BK2 := uKb BK2 hb; replace BK3 := uKb BK3 hb; replace BK6 := uKb BK6 hb; replace BK8 := uKb BK8 hb; replace BK9 := uKb BK9 hb; replace BK10 := uKb BK10 hb; have HS16 := zM hb.size; replace HB := zM (below_step HB.out hb); clear hb; replace hc2_0 := zy BK2 0; replace hf2_0 := blk_frozen BK2.out 0; replace hc2_1 := zy BK2 1; replace hf2_1 := blk_frozen BK2.out 1; replace hc3_0 := zy BK3 0; replace hf3_0 := blk_frozen BK3.out 0; replace hc3_1 := zy BK3 1; replace hf3_1 := blk_frozen BK3.out 1; replace hc6_0 := zy BK6 0; replace hf6_0 := blk_frozen BK6.out 0; replace hc6_1 := zy BK6 1; replace hf6_1 := blk_frozen BK6.out 1; replace hc8_0 := zy BK8 0; replace hf8_0 := blk_frozen BK8.out 0; replace hc8_1 := zy BK8 1; replace hf8_1 := blk_frozen BK8.out 1; replace hc9_0 := zy BK9 0; replace hf9_0 := blk_frozen BK9.out 0; replace hc9_1 := zy BK9 1; replace hf9_1 := blk_frozen BK9.out 1; replace hc10_0 := zy BK10 0; replace hf10_0 := blk_frozen BK10.out 0; replace hc10_1 := zy BK10 1; replace hf10_1 := blk_frozen BK10.out 1))
  (try simp only [Act.put, List.setIfInBounds_toArray, List.set_cons_zero, List.set_cons_succ])
  replace HO0_0 := zM (Kd.S_drew HO0_0.out)
  replace HO0_1 := zM (Kd.R_drew HO0_1.out)
  replace HO1_0 := zM (Kd.S_drew HO1_0.out)
  replace HO1_1 := zM (Kd.R_drew HO1_1.out)
  replace HO2_0 := zM (Kd.S_drew HO2_0.out)
  replace HO2_1 := zM (Kd.R_drew HO2_1.out)
  replace HO3_0 := zM (Kd.S_drew HO3_0.out)
  replace HO3_1 := zM (Kd.R_drew HO3_1.out)
  replace BK2 := zM (blk_drew BK2.out)
  replace BK3 := zM (blk_drew BK3.out)
  replace BK6 := zM (blk_drew BK6.out)
  replace BK8 := zM (blk_drew BK8.out)
  replace BK9 := zM (blk_drew BK9.out)
  replace BK10 := zM (blk_drew BK10.out)
  replace HB := zM (below_drew1 HB.out)
  refine zs (n := 5) (fun w' => w'.cell? ⟨gb8, 0, none⟩ = some (.slice Ao1_0 l0_0.length co1_0) ∧ w'.cell? ⟨gb8, 1, none⟩ = some (.slice Ao1_1 l0_1.length co1_1) ∧ w'.cell? ⟨gb2, 0, none⟩ = some (.slice A0_0 l0_0.length ca0_0) ∧ w'.cell? ⟨gb2, 1, none⟩ = some (.slice A0_1 l0_1.length ca0_1)) ⟨(blk_cell BK8.out 0).trans rfl, (blk_cell BK8.out 1).trans rfl, (blk_cell BK2.out 0).trans rfl, (blk_cell BK2.out 1).trans rfl⟩ (fun hHeld => ?_)
  have HS17 := zM (show w16.heap.size ≤ w16.drew.heap.size from Nat.le_refl _)
  generalize w16.drew = w17 at HO0_0 HO0_1 HO1_0 HO1_1 HO2_0 HO2_1 HO3_0 HO3_1 BK2 BK3 BK6 BK8 BK9 BK10 HB HS17 hHeld ⊢
  refine zl 0 54 hHeld ?_ (hy := by rintro w' ⟨s0, s1, s2, s3⟩; go_simp; with_reducible rfl)
  refine zl 1 55 hHeld ?_ (hy := by rintro w' ⟨s0, s1, s2, s3⟩; go_simp; with_reducible rfl)
  refine zh 2 56 Try.func7 #[.agg #[.slice A0_0 l0_0.length ca0_0, .slice A0_1 l0_1.length ca0_1]] (fun K hK => ?_)
  (refine (laws_toSpace.calls k2 _ _ l0_0 _ _ l0_1 l0_0 l0_1 _ ?side1 ?side2 ?side3 ?side4 H2.out).mono ?_; (case side1 => exact zC (Kd.C_below HR0_0.out HB.out)); (case side2 => exact HC0_0.out); (case side3 => exact zC (Kd.C_below HR0_1.out HB.out)); (case side4 => exact HC0_1.out); rintro e w18 ⟨v4_0, v4_1, rfl, ho0, ho1, hb⟩; replace HO0_0 := uSb HO0_0 hb; replace HO0_1 := uRb HO0_1 hb; replace HO1_0 := uSb HO1_0 hb; replace HO1_1 := uRb HO1_1 hb; replace HO2_0 := uSb HO2_0 hb; replace HO2_1 := uRb HO2_1 hb; replace HO3_0 := uSb HO3_0 hb; replace HO3_1 := uRb HO3_1 hb; replace BK2 := uKb BK2 hb; replace BK3 := uKb BK3 hb; replace BK6 := uKb BK6 hb; replace BK8 := uKb BK8 hb; replace BK9 := uKb BK9 hb; replace BK10 := uKb BK10 hb; have HS18 := zM hb.size; have HO4_0 := uS HB.out (by first | exact ho0 | exact Kd.S_mono ho0 (fun _ _ => trivial) | exact Kd.S_mono ho0 (fun _ hk_ => hk_.1)); clear ho0; obtain ⟨Ao4_0, co4_0, eo4_0⟩ := Kd.S_slice HO4_0.out; subst eo4_0; have HO4_1 := uR HB.out (by first | exact ho1 | exact Kd.R_mono ho1 (fun _ _ => trivial) | exact Kd.R_mono ho1 (fun _ hk_ => hk_.1)); clear ho1; obtain ⟨Ao4_1, co4_1, eo4_1⟩ := Kd.R_slice HO4_1.out; subst eo4_1; replace HB := zM (below_step HB.out hb); clear hb)
  refine ⟨_, rfl, ?_⟩
  refine hK.out _ _ ⟨(blk_cell BK8.out 0).trans rfl, (blk_cell BK8.out 1).trans rfl, (blk_cell BK2.out 0).trans rfl, (blk_cell BK2.out 1).trans rfl⟩ (fun hHeld => ?_)
  clear hK K
  refine zn 56 ?_
  refine zh 3 57 Try.func9 #[.agg #[.slice Ao1_0 l0_0.length co1_0, .slice Ao1_1 l0_1.length co1_1], .agg #[.slice Ao4_0 l0_0.length co4_0, .slice Ao4_1 l0_1.length co4_1]] (fun K hK => ?_)
  (refine (laws_eqSpace.calls k7 _ _ l0_0 _ _ l0_1 _ _ l0_0 _ _ l0_1 true _ ?side1 ?side2 ?side3 ?side4 ?side5 ?side6 ?side7 ?side8 H7.out).mono ?_; (case side1 => exact zC (Kd.S_reads' HO1_0.out).2.2); (case side2 => exact (Kd.S_reads' HO1_0.out).2.1); (case side3 => exact zC (Kd.R_reads' HO1_1.out).2.2); (case side4 => exact (Kd.R_reads' HO1_1.out).2.1); (case side5 => exact zC (Kd.S_reads' HO4_0.out).2.2); (case side6 => exact (Kd.S_reads' HO4_0.out).2.1); (case side7 => exact zC (Kd.R_reads' HO4_1.out).2.2); (case side8 => exact (Kd.R_reads' HO4_1.out).2.1); clear HO4_0 HO4_1; rintro e w19 ⟨rfl, hb⟩; replace HO0_0 := uSb HO0_0 hb; replace HO0_1 := uRb HO0_1 hb; replace HO1_0 := uSb HO1_0 hb; replace HO1_1 := uRb HO1_1 hb; replace HO2_0 := uSb HO2_0 hb; replace HO2_1 := uRb HO2_1 hb; replace HO3_0 := uSb HO3_0 hb; replace HO3_1 := uRb HO3_1 hb; replace BK2 := uKb BK2 hb; replace BK3 := uKb BK3 hb; replace BK6 := uKb BK6 hb; replace BK8 := uKb BK8 hb; replace BK9 := uKb BK9 hb; replace BK10 := uKb BK10 hb; have HS19 := zM hb.size; replace HB := zM (below_step HB.out hb); clear hb)
  refine ⟨_, rfl, ?_⟩
  refine hK.out _ _ ⟨(blk_cell BK8.out 0).trans rfl, (blk_cell BK8.out 1).trans rfl, (blk_cell BK2.out 0).trans rfl, (blk_cell BK2.out 1).trans rfl⟩ (fun hHeld => ?_)
  clear hK K
  refine zn 57 ?_
  refine zq 4 58 ?_
  refine zx ?_
  replace hc2_0 := zy BK2 0
  replace hf2_0 := blk_frozen BK2.out 0
  replace hc2_1 := zy BK2 1
  replace hf2_1 := blk_frozen BK2.out 1
  replace hc3_0 := zy BK3 0
  replace hf3_0 := blk_frozen BK3.out 0
  replace hc3_1 := zy BK3 1
  replace hf3_1 := blk_frozen BK3.out 1
  replace hc6_0 := zy BK6 0
  replace hf6_0 := blk_frozen BK6.out 0
  replace hc6_1 := zy BK6 1
  replace hf6_1 := blk_frozen BK6.out 1
  replace hc8_0 := zy BK8 0
  replace hf8_0 := blk_frozen BK8.out 0
  replace hc8_1 := zy BK8 1
  replace hf8_1 := blk_frozen BK8.out 1
  replace hc9_0 := zy BK9 0
  replace hf9_0 := blk_frozen BK9.out 0
  replace hc9_1 := zy BK9 1
  replace hf9_1 := blk_frozen BK9.out 1
  replace hc10_0 := zy BK10 0
  replace hf10_0 := blk_frozen BK10.out 0
  replace hc10_1 := zy BK10 1
  replace hf10_1 := blk_frozen BK10.out 1
  go_upto_region 16 with (fail)
  (try simp only [Act.put, List.setIfInBounds_toArray, List.set_cons_zero, List.set_cons_succ])
  replace HO0_0 := zM (Kd.S_drew HO0_0.out)
  replace HO0_1 := zM (Kd.R_drew HO0_1.out)
  replace HO1_0 := zM (Kd.S_drew HO1_0.out)
  replace HO1_1 := zM (Kd.R_drew HO1_1.out)
  replace HO2_0 := zM (Kd.S_drew HO2_0.out)
  replace HO2_1 := zM (Kd.R_drew HO2_1.out)
  replace HO3_0 := zM (Kd.S_drew HO3_0.out)
  replace HO3_1 := zM (Kd.R_drew HO3_1.out)
  replace BK2 := zM (blk_drew BK2.out)
  replace BK3 := zM (blk_drew BK3.out)
  replace BK6 := zM (blk_drew BK6.out)
  replace BK8 := zM (blk_drew BK8.out)
  replace BK9 := zM (blk_drew BK9.out)
  replace BK10 := zM (blk_drew BK10.out)
  replace HB := zM (below_drew1 HB.out)
  refine zs (n := 5) (fun w' => w'.cell? ⟨gb9, 0, none⟩ = some (.slice Ao2_0 l1_0.length co2_0) ∧ w'.cell? ⟨gb9, 1, none⟩ = some (.slice Ao2_1 l1_1.length co2_1) ∧ w'.cell? ⟨gb3, 0, none⟩ = some (.slice A1_0 l1_0.length ca1_0) ∧ w'.cell? ⟨gb3, 1, none⟩ = some (.slice A1_1 l1_1.length ca1_1)) ⟨(blk_cell BK9.out 0).trans rfl, (blk_cell BK9.out 1).trans rfl, (blk_cell BK3.out 0).trans rfl, (blk_cell BK3.out 1).trans rfl⟩ (fun hHeld => ?_)
  have HS20 := zM (show w19.heap.size ≤ w19.drew.heap.size from Nat.le_refl _)
  generalize w19.drew = w20 at HO0_0 HO0_1 HO1_0 HO1_1 HO2_0 HO2_1 HO3_0 HO3_1 BK2 BK3 BK6 BK8 BK9 BK10 HB HS20 hHeld ⊢
  refine zl 0 59 hHeld ?_ (hy := by rintro w' ⟨s0, s1, s2, s3⟩; go_simp; with_reducible rfl)
  refine zl 1 60 hHeld ?_ (hy := by rintro w' ⟨s0, s1, s2, s3⟩; go_simp; with_reducible rfl)
  refine zh 2 61 Try.func7 #[.agg #[.slice A1_0 l1_0.length ca1_0, .slice A1_1 l1_1.length ca1_1]] (fun K hK => ?_)
  (refine (laws_toSpace.calls k3 _ _ l1_0 _ _ l1_1 l1_0 l1_1 _ ?side1 ?side2 ?side3 ?side4 H3.out).mono ?_; (case side1 => exact zC (Kd.C_below HR1_0.out HB.out)); (case side2 => exact HC1_0.out); (case side3 => exact zC (Kd.C_below HR1_1.out HB.out)); (case side4 => exact HC1_1.out); rintro e w21 ⟨v5_0, v5_1, rfl, ho0, ho1, hb⟩; replace HO0_0 := uSb HO0_0 hb; replace HO0_1 := uRb HO0_1 hb; replace HO1_0 := uSb HO1_0 hb; replace HO1_1 := uRb HO1_1 hb; replace HO2_0 := uSb HO2_0 hb; replace HO2_1 := uRb HO2_1 hb; replace HO3_0 := uSb HO3_0 hb; replace HO3_1 := uRb HO3_1 hb; replace BK2 := uKb BK2 hb; replace BK3 := uKb BK3 hb; replace BK6 := uKb BK6 hb; replace BK8 := uKb BK8 hb; replace BK9 := uKb BK9 hb; replace BK10 := uKb BK10 hb; have HS21 := zM hb.size; have HO5_0 := uS HB.out (by first | exact ho0 | exact Kd.S_mono ho0 (fun _ _ => trivial) | exact Kd.S_mono ho0 (fun _ hk_ => hk_.1)); clear ho0; obtain ⟨Ao5_0, co5_0, eo5_0⟩ := Kd.S_slice HO5_0.out; subst eo5_0; have HO5_1 := uR HB.out (by first | exact ho1 | exact Kd.R_mono ho1 (fun _ _ => trivial) | exact Kd.R_mono ho1 (fun _ hk_ => hk_.1)); clear ho1; obtain ⟨Ao5_1, co5_1, eo5_1⟩ := Kd.R_slice HO5_1.out; subst eo5_1; replace HB := zM (below_step HB.out hb); clear hb)
  refine ⟨_, rfl, ?_⟩
  refine hK.out _ _ ⟨(blk_cell BK9.out 0).trans rfl, (blk_cell BK9.out 1).trans rfl, (blk_cell BK3.out 0).trans rfl, (blk_cell BK3.out 1).trans rfl⟩ (fun hHeld => ?_)
  clear hK K
  refine zn 61 ?_
  refine zh 3 62 Try.func9 #[.agg #[.slice Ao2_0 l1_0.length co2_0, .slice Ao2_1 l1_1.length co2_1], .agg #[.slice Ao5_0 l1_0.length co5_0, .slice Ao5_1 l1_1.length co5_1]] (fun K hK => ?_)
  (refine (laws_eqSpace.calls k8 _ _ l1_0 _ _ l1_1 _ _ l1_0 _ _ l1_1 true _ ?side1 ?side2 ?side3 ?side4 ?side5 ?side6 ?side7 ?side8 H8.out).mono ?_; (case side1 => exact zC (Kd.S_reads' HO2_0.out).2.2); (case side2 => exact (Kd.S_reads' HO2_0.out).2.1); (case side3 => exact zC (Kd.R_reads' HO2_1.out).2.2); (case side4 => exact (Kd.R_reads' HO2_1.out).2.1); (case side5 => exact zC (Kd.S_reads' HO5_0.out).2.2); (case side6 => exact (Kd.S_reads' HO5_0.out).2.1); (case side7 => exact zC (Kd.R_reads' HO5_1.out).2.2); (case side8 => exact (Kd.R_reads' HO5_1.out).2.1); clear HO5_0 HO5_1; rintro e w22 ⟨rfl, hb⟩; replace HO0_0 := uSb HO0_0 hb; replace HO0_1 := uRb HO0_1 hb; replace HO1_0 := uSb HO1_0 hb; replace HO1_1 := uRb HO1_1 hb; replace HO2_0 := uSb HO2_0 hb; replace HO2_1 := uRb HO2_1 hb; replace HO3_0 := uSb HO3_0 hb; replace HO3_1 := uRb HO3_1 hb; replace BK2 := uKb BK2 hb; replace BK3 := uKb BK3 hb; replace BK6 := uKb BK6 hb; replace BK8 := uKb BK8 hb; replace BK9 := uKb BK9 hb; replace BK10 := uKb BK10 hb; have HS22 := zM hb.size; replace HB := zM (below_step HB.out hb); clear hb)
  refine ⟨_, rfl, ?_⟩
  refine hK.out _ _ ⟨(blk_cell BK9.out 0).trans rfl, (blk_cell BK9.out 1).trans rfl, (blk_cell BK3.out 0).trans rfl, (blk_cell BK3.out 1).trans rfl⟩ (fun hHeld => ?_)
  clear hK K
  refine zn 62 ?_
  refine zq 4 63 ?_
  refine zx ?_
  replace hc2_0 := zy BK2 0
  replace hf2_0 := blk_frozen BK2.out 0
  replace hc2_1 := zy BK2 1
  replace hf2_1 := blk_frozen BK2.out 1
  replace hc3_0 := zy BK3 0
  replace hf3_0 := blk_frozen BK3.out 0
  replace hc3_1 := zy BK3 1
  replace hf3_1 := blk_frozen BK3.out 1
  replace hc6_0 := zy BK6 0
  replace hf6_0 := blk_frozen BK6.out 0
  replace hc6_1 := zy BK6 1
  replace hf6_1 := blk_frozen BK6.out 1
  replace hc8_0 := zy BK8 0
  replace hf8_0 := blk_frozen BK8.out 0
  replace hc8_1 := zy BK8 1
  replace hf8_1 := blk_frozen BK8.out 1
  replace hc9_0 := zy BK9 0
  replace hf9_0 := blk_frozen BK9.out 0
  replace hc9_1 := zy BK9 1
  replace hf9_1 := blk_frozen BK9.out 1
  replace hc10_0 := zy BK10 0
  replace hf10_0 := blk_frozen BK10.out 0
  replace hc10_1 := zy BK10 1
  replace hf10_1 := blk_frozen BK10.out 1
  go_upto_region 31 with (first
    | (have hst_ : Aside0 (Below w.heap.size w w22) := HB; clear hst_; go_at_call 10; refine (laws_markSpace.callsf _ _ _ _ l0_0 l0_1 1 kk0 mk0_0 mk0_1 w w22 HB.out HO1_0.out HO1_1.out H9.out).mono ?_; clear HO1_0 HO1_1; clear BK8 hc8_0 hf8_0 hc8_1 hf8_1; rintro e w23 ⟨rfl, hy0, hy1, hb2, hk⟩; replace HO0_0 := uSk HO0_0 hk (fun k_ hk_ e_ => by have e2 : w6.heap.size ≤ k_ ∧ k_ < w7.heap.size := e_.elim id id; have h2 : w5.heap.size ≤ k_ ∧ k_ < w6.heap.size := hk_; omega); replace HO0_1 := uRk HO0_1 hk (fun k_ hk_ e_ => by have e2 : w6.heap.size ≤ k_ ∧ k_ < w7.heap.size := e_.elim id id; have h2 : w5.heap.size ≤ k_ ∧ k_ < w6.heap.size := hk_; omega); replace HO2_0 := uSk HO2_0 hk (fun k_ hk_ e_ => by have e2 : w6.heap.size ≤ k_ ∧ k_ < w7.heap.size := e_.elim id id; have h2 : w9.heap.size ≤ k_ ∧ k_ < w10.heap.size := hk_; have := HS8.out; have := HS9.out; omega); replace HO2_1 := uRk HO2_1 hk (fun k_ hk_ e_ => by have e2 : w6.heap.size ≤ k_ ∧ k_ < w7.heap.size := e_.elim id id; have h2 : w9.heap.size ≤ k_ ∧ k_ < w10.heap.size := hk_; have := HS8.out; have := HS9.out; omega); replace HO3_0 := uSk HO3_0 hk (fun k_ hk_ e_ => by have e2 : w6.heap.size ≤ k_ ∧ k_ < w7.heap.size := e_.elim id id; have h2 : w12.heap.size ≤ k_ ∧ k_ < w13.heap.size := hk_; have := HS8.out; have := HS9.out; have := HS10.out; have := HS11.out; have := HS12.out; omega); replace HO3_1 := uRk HO3_1 hk (fun k_ hk_ e_ => by have e2 : w6.heap.size ≤ k_ ∧ k_ < w7.heap.size := e_.elim id id; have h2 : w12.heap.size ≤ k_ ∧ k_ < w13.heap.size := hk_; have := HS8.out; have := HS9.out; have := HS10.out; have := HS11.out; have := HS12.out; omega); replace BK2 := uKk BK2 hk (fun e_ => by have e2 : w6.heap.size ≤ gb2 ∧ gb2 < w7.heap.size := e_.elim id id; have := HG2.out; have := HL2.out; have := HS2.out; have := HS3.out; have := HS4.out; have := HS5.out; have := HS6.out; omega); replace BK3 := uKk BK3 hk (fun e_ => by have e2 : w6.heap.size ≤ gb3 ∧ gb3 < w7.heap.size := e_.elim id id; have := HG3.out; have := HL3.out; have := HS3.out; have := HS4.out; have := HS5.out; have := HS6.out; omega); replace BK6 := uKk BK6 hk (fun e_ => by have e2 : w6.heap.size ≤ gb6 ∧ gb6 < w7.heap.size := e_.elim id id; have := HG6.out; have := HL6.out; omega); replace BK9 := uKk BK9 hk (fun e_ => by have e2 : w6.heap.size ≤ gb9 ∧ gb9 < w7.heap.size := e_.elim id id; have := HG9.out; have := HL9.out; have := HS8.out; have := HS9.out; have := HS10.out; omega); replace BK10 := uKk BK10 hk (fun e_ => by have e2 : w6.heap.size ≤ gb10 ∧ gb10 < w7.heap.size := e_.elim id id; have := HG10.out; have := HL10.out; have := HS8.out; have := HS9.out; have := HS10.out; have := HS11.out; have := HS12.out; have := HS13.out; omega); clear hy0; clear hy1; have HS23 := zM hk.1; replace HB := zM hb2; clear hb2 hk; replace hc2_0 := zy BK2 0; replace hf2_0 := blk_frozen BK2.out 0; replace hc2_1 := zy BK2 1; replace hf2_1 := blk_frozen BK2.out 1; replace hc3_0 := zy BK3 0; replace hf3_0 := blk_frozen BK3.out 0; replace hc3_1 := zy BK3 1; replace hf3_1 := blk_frozen BK3.out 1; replace hc6_0 := zy BK6 0; replace hf6_0 := blk_frozen BK6.out 0; replace hc6_1 := zy BK6 1; replace hf6_1 := blk_frozen BK6.out 1; replace hc9_0 := zy BK9 0; replace hf9_0 := blk_frozen BK9.out 0; replace hc9_1 := zy BK9 1; replace hf9_1 := blk_frozen BK9.out 1; replace hc10_0 := zy BK10 0; replace hf10_0 := blk_frozen BK10.out 0; replace hc10_1 := zy BK10 1; replace hf10_1 := blk_frozen BK10.out 1)
    | (have hst_ : Aside0 (Below w.heap.size w w23) := HB; clear hst_; go_at_call 10; refine (laws_markSpace.callsf _ _ _ _ l1_0 l1_1 kk0 kk1 mk1_0 mk1_1 w w23 HB.out HO2_0.out HO2_1.out H10.out).mono ?_; clear HO2_0 HO2_1; clear BK9 hc9_0 hf9_0 hc9_1 hf9_1; rintro e w24 ⟨rfl, hy0, hy1, hb2, hk⟩; replace HO0_0 := uSk HO0_0 hk (fun k_ hk_ e_ => by have e2 : w9.heap.size ≤ k_ ∧ k_ < w10.heap.size := e_.elim id id; have h2 : w5.heap.size ≤ k_ ∧ k_ < w6.heap.size := hk_; have := HS7.out; have := HS8.out; have := HS9.out; omega); replace HO0_1 := uRk HO0_1 hk (fun k_ hk_ e_ => by have e2 : w9.heap.size ≤ k_ ∧ k_ < w10.heap.size := e_.elim id id; have h2 : w5.heap.size ≤ k_ ∧ k_ < w6.heap.size := hk_; have := HS7.out; have := HS8.out; have := HS9.out; omega); replace HO3_0 := uSk HO3_0 hk (fun k_ hk_ e_ => by have e2 : w9.heap.size ≤ k_ ∧ k_ < w10.heap.size := e_.elim id id; have h2 : w12.heap.size ≤ k_ ∧ k_ < w13.heap.size := hk_; have := HS11.out; have := HS12.out; omega); replace HO3_1 := uRk HO3_1 hk (fun k_ hk_ e_ => by have e2 : w9.heap.size ≤ k_ ∧ k_ < w10.heap.size := e_.elim id id; have h2 : w12.heap.size ≤ k_ ∧ k_ < w13.heap.size := hk_; have := HS11.out; have := HS12.out; omega); replace BK2 := uKk BK2 hk (fun e_ => by have e2 : w9.heap.size ≤ gb2 ∧ gb2 < w10.heap.size := e_.elim id id; have := HG2.out; have := HL2.out; have := HS2.out; have := HS3.out; have := HS4.out; have := HS5.out; have := HS6.out; have := HS7.out; have := HS8.out; have := HS9.out; omega); replace BK3 := uKk BK3 hk (fun e_ => by have e2 : w9.heap.size ≤ gb3 ∧ gb3 < w10.heap.size := e_.elim id id; have := HG3.out; have := HL3.out; have := HS3.out; have := HS4.out; have := HS5.out; have := HS6.out; have := HS7.out; have := HS8.out; have := HS9.out; omega); replace BK6 := uKk BK6 hk (fun e_ => by have e2 : w9.heap.size ≤ gb6 ∧ gb6 < w10.heap.size := e_.elim id id; have := HG6.out; have := HL6.out; have := HS7.out; have := HS8.out; have := HS9.out; omega); replace BK10 := uKk BK10 hk (fun e_ => by have e2 : w9.heap.size ≤ gb10 ∧ gb10 < w10.heap.size := e_.elim id id; have := HG10.out; have := HL10.out; have := HS11.out; have := HS12.out; have := HS13.out; omega); clear hy0; clear hy1; have HS24 := zM hk.1; replace HB := zM hb2; clear hb2 hk; replace hc2_0 := zy BK2 0; replace hf2_0 := blk_frozen BK2.out 0; replace hc2_1 := zy BK2 1; replace hf2_1 := blk_frozen BK2.out 1; replace hc3_0 := zy BK3 0; replace hf3_0 := blk_frozen BK3.out 0; replace hc3_1 := zy BK3 1; replace hf3_1 := blk_frozen BK3.out 1; replace hc6_0 := zy BK6 0; replace hf6_0 := blk_frozen BK6.out 0; replace hc6_1 := zy BK6 1; replace hf6_1 := blk_frozen BK6.out 1; replace hc10_0 := zy BK10 0; replace hf10_0 := blk_frozen BK10.out 0; replace hc10_1 := zy BK10 1; replace hf10_1 := blk_frozen BK10.out 1)
    | (have hst_ : Aside0 (Below w.heap.size w w24) := HB; clear hst_; go_at_call 9; refine (laws_eqSpace.calls k6 _ _ q0 _ _ q1 _ _ q0 _ _ q1 true _ ?side1 ?side2 ?side3 ?side4 ?side5 ?side6 ?side7 ?side8 H6.out).mono ?_; (case side1 => exact zC (Kd.S_reads' HO3_0.out).2.2); (case side2 => exact (Kd.S_reads' HO3_0.out).2.1); (case side3 => exact zC (Kd.R_reads' HO3_1.out).2.2); (case side4 => exact (Kd.R_reads' HO3_1.out).2.1); (case side5 => exact zC (Kd.S_reads' HO0_0.out).2.2); (case side6 => exact (Kd.S_reads' HO0_0.out).2.1); (case side7 => exact zC (Kd.R_reads' HO0_1.out).2.2); (case side8 => exact (Kd.R_reads' HO0_1.out).2.1); rintro e w25 ⟨rfl, hb⟩; replace HO0_0 := uSb HO0_0 hb; replace HO0_1 := uRb HO0_1 hb; replace HO3_0 := uSb HO3_0 hb; replace HO3_1 := uRb HO3_1 hb; replace BK2 := uKb BK2 hb; replace BK3 := uKb BK3 hb; replace BK6 := uKb BK6 hb; replace BK10 := uKb BK10 hb; have HS25 := zM hb.size; replace HB := zM (below_step HB.out hb); clear hb; replace hc2_0 := zy BK2 0; replace hf2_0 := blk_frozen BK2.out 0; replace hc2_1 := zy BK2 1; replace hf2_1 := blk_frozen BK2.out 1; replace hc3_0 := zy BK3 0; replace hf3_0 := blk_frozen BK3.out 0; replace hc3_1 := zy BK3 1; replace hf3_1 := blk_frozen BK3.out 1; replace hc6_0 := zy BK6 0; replace hf6_0 := blk_frozen BK6.out 0; replace hc6_1 := zy BK6 1; replace hf6_1 := blk_frozen BK6.out 1; replace hc10_0 := zy BK10 0; replace hf10_0 := blk_frozen BK10.out 0; replace hc10_1 := zy BK10 1; replace hf10_1 := blk_frozen BK10.out 1)
    | (have hst_ : Aside0 (Below w.heap.size w w25) := HB; clear hst_; go_at_call 10; refine (laws_markSpace.callsf _ _ _ _ q0 q1 1 kk2 mk2_0 mk2_1 w w25 HB.out HO3_0.out HO3_1.out H11.out).mono ?_; rintro e w26 ⟨rfl, hy0, hy1, hb2, hk⟩; replace HO0_0 := uSk HO0_0 hk (fun k_ hk_ e_ => by have e2 : w12.heap.size ≤ k_ ∧ k_ < w13.heap.size := e_.elim id id; have h2 : w5.heap.size ≤ k_ ∧ k_ < w6.heap.size := hk_; have := HS7.out; have := HS8.out; have := HS9.out; have := HS10.out; have := HS11.out; have := HS12.out; omega); replace HO0_1 := uRk HO0_1 hk (fun k_ hk_ e_ => by have e2 : w12.heap.size ≤ k_ ∧ k_ < w13.heap.size := e_.elim id id; have h2 : w5.heap.size ≤ k_ ∧ k_ < w6.heap.size := hk_; have := HS7.out; have := HS8.out; have := HS9.out; have := HS10.out; have := HS11.out; have := HS12.out; omega); replace BK2 := uKk BK2 hk (fun e_ => by have e2 : w12.heap.size ≤ gb2 ∧ gb2 < w13.heap.size := e_.elim id id; have := HG2.out; have := HL2.out; have := HS2.out; have := HS3.out; have := HS4.out; have := HS5.out; have := HS6.out; have := HS7.out; have := HS8.out; have := HS9.out; have := HS10.out; have := HS11.out; have := HS12.out; omega); replace BK3 := uKk BK3 hk (fun e_ => by have e2 : w12.heap.size ≤ gb3 ∧ gb3 < w13.heap.size := e_.elim id id; have := HG3.out; have := HL3.out; have := HS3.out; have := HS4.out; have := HS5.out; have := HS6.out; have := HS7.out; have := HS8.out; have := HS9.out; have := HS10.out; have := HS11.out; have := HS12.out; omega); replace BK6 := uKk BK6 hk (fun e_ => by have e2 : w12.heap.size ≤ gb6 ∧ gb6 < w13.heap.size := e_.elim id id; have := HG6.out; have := HL6.out; have := HS7.out; have := HS8.out; have := HS9.out; have := HS10.out; have := HS11.out; have := HS12.out; omega); replace BK10 := uKk BK10 hk (fun e_ => by have e2 : w12.heap.size ≤ gb10 ∧ gb10 < w13.heap.size := e_.elim id id; have := HG10.out; have := HL10.out; omega); replace HO3_0 := zM (Kd.S_mono (Kd.S_bound hy0) (fun k_ hk_ => (Or.imp id (fun h_ => ⟨h_, hk_.2.2.1⟩) hk_.1 : (w12.heap.size ≤ k_ ∧ k_ < w13.heap.size) ∨ (w25.heap.size ≤ k_ ∧ k_ < w26.heap.size)))); clear hy0; have hl3_0 := (Kd.S_reads' HO3_0.out).1; rw [hl3_0] at HO3_0; replace hl3_0 := zM hl3_0; replace HO3_1 := zM (Kd.R_mono (Kd.R_bound hy1) (fun k_ hk_ => (Or.imp id (fun h_ => ⟨h_, hk_.2.2.1⟩) hk_.1 : (w12.heap.size ≤ k_ ∧ k_ < w13.heap.size) ∨ (w25.heap.size ≤ k_ ∧ k_ < w26.heap.size)))); clear hy1; have hl3_1 := (Kd.R_reads' HO3_1.out).1; rw [hl3_1] at HO3_1; replace hl3_1 := zM hl3_1; have HS26 := zM hk.1; replace HB := zM hb2; clear hb2 hk; replace hc2_0 := zy BK2 0; replace hf2_0 := blk_frozen BK2.out 0; replace hc2_1 := zy BK2 1; replace hf2_1 := blk_frozen BK2.out 1; replace hc3_0 := zy BK3 0; replace hf3_0 := blk_frozen BK3.out 0; replace hc3_1 := zy BK3 1; replace hf3_1 := blk_frozen BK3.out 1; replace hc6_0 := zy BK6 0; replace hf6_0 := blk_frozen BK6.out 0; replace hc6_1 := zy BK6 1; replace hf6_1 := blk_frozen BK6.out 1; replace hc10_0 := zy BK10 0; replace hf10_0 := blk_frozen BK10.out 0; replace hc10_1 := zy BK10 1; replace hf10_1 := blk_frozen BK10.out 1)
    | (have hst_ : Aside0 (Below w.heap.size w w26) := HB; clear hst_; go_at_call 11; refine uArgs (args' := #[.agg #[.slice Ao3_0 mk2_0.length co3_0, .slice Ao3_1 mk2_1.length co3_1], .int .i64 1]) (by rw [hl3_0.out, hl3_1.out]) ?_; refine (laws_heldSpace.calls k12 _ _ mk2_0 _ _ mk2_1 1 kk2 _ ?side1 ?side2 ?side3 ?side4 H12.out).mono ?_; (case side1 => exact zC (Kd.S_reads' HO3_0.out).2.2); (case side2 => exact (Kd.S_reads' HO3_0.out).2.1); (case side3 => exact zC (Kd.R_reads' HO3_1.out).2.2); (case side4 => exact (Kd.R_reads' HO3_1.out).2.1); rintro e w27 ⟨rfl, hb⟩; replace HO0_0 := uSb HO0_0 hb; replace HO0_1 := uRb HO0_1 hb; replace HO3_0 := uSb HO3_0 hb; replace HO3_1 := uRb HO3_1 hb; replace BK2 := uKb BK2 hb; replace BK3 := uKb BK3 hb; replace BK6 := uKb BK6 hb; replace BK10 := uKb BK10 hb; have HS27 := zM hb.size; replace HB := zM (below_step HB.out hb); clear hb; replace hc2_0 := zy BK2 0; replace hf2_0 := blk_frozen BK2.out 0; replace hc2_1 := zy BK2 1; replace hf2_1 := blk_frozen BK2.out 1; replace hc3_0 := zy BK3 0; replace hf3_0 := blk_frozen BK3.out 0; replace hc3_1 := zy BK3 1; replace hf3_1 := blk_frozen BK3.out 1; replace hc6_0 := zy BK6 0; replace hf6_0 := blk_frozen BK6.out 0; replace hc6_1 := zy BK6 1; replace hf6_1 := blk_frozen BK6.out 1; replace hc10_0 := zy BK10 0; replace hf10_0 := blk_frozen BK10.out 0; replace hc10_1 := zy BK10 1; replace hf10_1 := blk_frozen BK10.out 1))
  (try simp only [Act.put, List.setIfInBounds_toArray, List.set_cons_zero, List.set_cons_succ])
  replace HO0_0 := zM (Kd.S_drew HO0_0.out)
  replace HO0_1 := zM (Kd.R_drew HO0_1.out)
  replace HO3_0 := zM (Kd.S_drew HO3_0.out)
  replace HO3_1 := zM (Kd.R_drew HO3_1.out)
  replace BK2 := zM (blk_drew BK2.out)
  replace BK3 := zM (blk_drew BK3.out)
  replace BK6 := zM (blk_drew BK6.out)
  replace BK10 := zM (blk_drew BK10.out)
  replace HB := zM (below_drew1 HB.out)
  refine start_ (n := 11) (S := fun w' => True) (ds := []) #[false, false, false, false, false, false, false, false, false, false, false] (by kernel_rfl) rfl rfl trivial (fun hHeld => ?_)
  refine with_tabW laws_FnExactProductSpace.tab31 laws_FnExactProductSpace.bits31 (fun HT_ HW_ => ?_)
  have HS28 := zM (show w27.heap.size ≤ w27.drew.heap.size from Nat.le_refl _)
  clear hHeld; generalize w27.drew = w28 at HO0_0 HO0_1 HO3_0 HO3_1 BK2 BK3 BK6 BK10 HB HS28 ⊢
  have HBW := zM (Below.refl w28.heap.size w28)
  refine inv_at [0, 1, 2, 3, 4, 5, 6, 7, 8, 9, 10] (fun a0_ b a w' => ∃ (Ao31_1_0 : Option Addr) (co31_1_0 : Nat) (Ao31_1_1 : Option Addr) (co31_1_1 : Nat) (Ao31_3_0 : Option Addr) (co31_3_0 : Nat) (Ao31_3_1 : Option Addr) (co31_3_1 : Nat) (Ao6_0 : Option Addr) (co6_0 : Nat) (Ao6_1 : Option Addr) (co6_1 : Nat) (gb15 : Nat) (m1_ : Value) (m3_ : Value) (m4_ : Value) (m5_ : Value) (m6_ : Value) (m8_ : Value), a = putSel a0_ b [(0, 95, .agg #[.slice A0_0 l0_0.length ca0_0, .slice A0_1 l0_1.length ca0_1]), (1, 96, m1_), (2, 97, .agg #[.slice A1_0 l1_0.length ca1_0, .slice A1_1 l1_1.length ca1_1]), (3, 98, m3_), (4, 99, m4_), (5, 94, m5_), (6, 100, m6_), (7, 101, .bool q2), (8, 15, m8_), (10, 16, .bool q2)] ∧ (Below w28.heap.size w28 w') ∧ (b 1 = true → b 4 = false → Kd.C (Kd.slice 3 (Kd.int .i64)) w' Ao31_1_0 l0_0.length l0_0) ∧ (b 1 = true → b 4 = false → l0_0.length ≤ co31_1_0) ∧ (b 1 = true → b 4 = false → Kd.C k41 w' Ao31_1_1 l0_1.length l0_1) ∧ (b 1 = true → b 4 = false → l0_1.length ≤ co31_1_1) ∧ (b 3 = true → b 4 = false → Kd.C (Kd.slice 3 (Kd.int .i64)) w' Ao31_3_0 l1_0.length l1_0) ∧ (b 3 = true → b 4 = false → l1_0.length ≤ co31_3_0) ∧ (b 3 = true → b 4 = false → Kd.C k41 w' Ao31_3_1 l1_1.length l1_1) ∧ (b 3 = true → b 4 = false → l1_1.length ≤ co31_3_1) ∧ (b 4 = true → Kd.S (Kd.slice 3 (Kd.int .i64)) 39 w' w28.heap.size (fun _ => True) (.slice Ao6_0 q0.length co6_0) q0) ∧ (b 4 = true → Kd.R k41 41 w' w28.heap.size (fun _ => True) (.slice Ao6_1 q1.length co6_1) q1) ∧ (b 8 = true → b 9 = false → w'.heap[gb15]? = some (.cells #[.slice none 0 0, .slice none 0 0] 27 (0, 0))) ∧ (b 8 = true → w28.heap.size ≤ gb15) ∧ (b 9 = true → w'.heap[gb15]? = some (.cells #[.slice Ao6_0 q0.length co6_0, .slice Ao6_1 q1.length co6_1] 27 (0, 0))) ∧ (b 1 = true → (m1_ : Value) = .agg #[.slice Ao31_1_0 l0_0.length co31_1_0, .slice Ao31_1_1 l0_1.length co31_1_1]) ∧ (b 3 = true → (m3_ : Value) = .agg #[.slice Ao31_3_0 l1_0.length co31_3_0, .slice Ao31_3_1 l1_1.length co31_3_1]) ∧ (b 4 = true → (m4_ : Value) = .tuple #[.agg #[.slice Ao6_0 q0.length co6_0, .slice Ao6_1 q1.length co6_1], .bool q2]) ∧ (b 5 = true → (m5_ : Value) = .tuple #[.agg #[.slice Ao6_0 q0.length co6_0, .slice Ao6_1 q1.length co6_1], .bool q2]) ∧ (b 6 = true → (m6_ : Value) = .agg #[.slice Ao6_0 q0.length co6_0, .slice Ao6_1 q1.length co6_1]) ∧ (b 8 = true → (m8_ : Value) = .pointer (some ⟨gb15, 0, none⟩))) HT_.out HW_.out (by kernel_rfl) (by kernel_rfl) ?_ ?_ ?_
  · exact ⟨none, 0, none, 0, none, 0, none, 0, none, 0, none, 0, 0, .bool false, .bool false, .bool false, .bool false, .bool false, .bool false, by simp only [putSel, Bool.false_eq_true, if_false], HBW.out, fun h_ => absurd h_ (by decide), fun h_ => absurd h_ (by decide), fun h_ => absurd h_ (by decide), fun h_ => absurd h_ (by decide), fun h_ => absurd h_ (by decide), fun h_ => absurd h_ (by decide), fun h_ => absurd h_ (by decide), fun h_ => absurd h_ (by decide), fun h_ => absurd h_ (by decide), fun h_ => absurd h_ (by decide), fun h_ => absurd h_ (by decide), fun h_ => absurd h_ (by decide), fun h_ => absurd h_ (by decide), fun h_ => absurd h_ (by decide), fun h_ => absurd h_ (by decide), fun h_ => absurd h_ (by decide), fun h_ => absurd h_ (by decide), fun h_ => absurd h_ (by decide), fun h_ => absurd h_ (by decide)⟩
  · skip
    clear HBW
    refine steps_cons ?_ ?_
    · rintro b a w' ⟨Ao31_1_0, co31_1_0, Ao31_1_1, co31_1_1, Ao31_3_0, co31_3_0, Ao31_3_1, co31_3_1, Ao6_0, co6_0, Ao6_1, co6_1, gb15, m1_, m3_, m4_, m5_, m6_, m8_, ha, Q_HBW, Q_CC31_1_0, Q_LL31_1_0, Q_CC31_1_1, Q_LL31_1_1, Q_CC31_3_0, Q_LL31_3_0, Q_CC31_3_1, Q_LL31_3_1, Q_HO6_0, Q_HO6_1, Q_BKa, Q_GW, Q_BK15, Q_X1_, Q_X3_, Q_X4_, Q_X5_, Q_X6_, Q_X8_⟩ hb_ hon hoff
      refine ⟨_, rfl, fun K hK => ?_⟩
      have e2 : a.tmps[2]? = some (.pointer (some ⟨gb2, 0, none⟩)) := by rw [ha]; exact (putSel_off rfl).trans rfl
      replace ha := Aside0.mk ha
      have HBW := Aside0.mk Q_HBW
      have hc0_ : w'.cell? ⟨gb2, 0, none⟩ = some (.slice A0_0 l0_0.length ca0_0) := (blk_cell (blk_below BK2.out HBW.out) 0).trans rfl
      have hc1_ : w'.cell? ⟨gb2, 1, none⟩ = some (.slice A0_1 l0_1.length ca0_1) := (blk_cell (blk_below BK2.out HBW.out) 1).trans rfl
      refine value_ (w1 := w') (v := .agg #[.slice A0_0 l0_0.length ca0_0, .slice A0_1 l0_1.length ca0_1]) (by rfl) rfl ?_ ?_
      · go_simp
        (try simp only [i64_w])
        try rfl
      refine hK.out _ _ ⟨Ao31_1_0, co31_1_0, Ao31_1_1, co31_1_1, Ao31_3_0, co31_3_0, Ao31_3_1, co31_3_1, Ao6_0, co6_0, Ao6_1, co6_1, gb15, m1_, m3_, m4_, m5_, m6_, m8_, (by rw [ha.out]; exact putSel_upk 0 hb_ rfl rfl rfl), Q_HBW, fun h0_ _ => absurd ((hoff 1 (by kernel_rfl)).symm.trans h0_) (by decide), fun h0_ _ => absurd ((hoff 1 (by kernel_rfl)).symm.trans h0_) (by decide), fun h0_ _ => absurd ((hoff 1 (by kernel_rfl)).symm.trans h0_) (by decide), fun h0_ _ => absurd ((hoff 1 (by kernel_rfl)).symm.trans h0_) (by decide), fun h0_ _ => absurd ((hoff 3 (by kernel_rfl)).symm.trans h0_) (by decide), fun h0_ _ => absurd ((hoff 3 (by kernel_rfl)).symm.trans h0_) (by decide), fun h0_ _ => absurd ((hoff 3 (by kernel_rfl)).symm.trans h0_) (by decide), fun h0_ _ => absurd ((hoff 3 (by kernel_rfl)).symm.trans h0_) (by decide), fun h0_ => absurd ((hoff 4 (by kernel_rfl)).symm.trans h0_) (by decide), fun h0_ => absurd ((hoff 4 (by kernel_rfl)).symm.trans h0_) (by decide), Q_BKa, Q_GW, fun h0_ => absurd ((hoff 9 (by kernel_rfl)).symm.trans h0_) (by decide), fun h0_ => absurd ((hoff 1 (by kernel_rfl)).symm.trans h0_) (by decide), fun h0_ => absurd ((hoff 3 (by kernel_rfl)).symm.trans h0_) (by decide), fun h0_ => absurd ((hoff 4 (by kernel_rfl)).symm.trans h0_) (by decide), fun h0_ => absurd ((hoff 5 (by kernel_rfl)).symm.trans h0_) (by decide), fun h0_ => absurd ((hoff 6 (by kernel_rfl)).symm.trans h0_) (by decide), Q_X8_⟩
    refine steps_cons ?_ ?_
    · rintro b a w' ⟨Ao31_1_0, co31_1_0, Ao31_1_1, co31_1_1, Ao31_3_0, co31_3_0, Ao31_3_1, co31_3_1, Ao6_0, co6_0, Ao6_1, co6_1, gb15, m1_, m3_, m4_, m5_, m6_, m8_, ha, Q_HBW, Q_CC31_1_0, Q_LL31_1_0, Q_CC31_1_1, Q_LL31_1_1, Q_CC31_3_0, Q_LL31_3_0, Q_CC31_3_1, Q_LL31_3_1, Q_HO6_0, Q_HO6_1, Q_BKa, Q_GW, Q_BK15, Q_X1_, Q_X3_, Q_X4_, Q_X5_, Q_X6_, Q_X8_⟩ hb_ hon hoff
      refine ⟨_, rfl, fun K hK => ?_⟩
      have e95 : a.tmps[95]? = some (.agg #[.slice A0_0 l0_0.length ca0_0, .slice A0_1 l0_1.length ca0_1]) := by rw [ha]; exact putSel_on (e := (0, 95, .agg #[.slice A0_0 l0_0.length ca0_0, .slice A0_1 l0_1.length ca0_1])) 0 rfl rfl (hon 0 (by kernel_rfl)) rfl
      replace ha := Aside0.mk ha
      have HBW := Aside0.mk Q_HBW
      have HBx := zM (below_step HB.out HBW.out)
      refine goes_ Try.func7 (by kernel_rfl) rfl #[.agg #[.slice A0_0 l0_0.length ca0_0, .slice A0_1 l0_1.length ca0_1]] (by rfl) rfl rfl (by first | (simp only [List.map_toArray, List.map_cons, List.map_nil, Act.eval, Array.getD_eq_getD_getElem?, Option.getD_some, e95]; done) | (simp only [List.map_toArray, List.map_cons, List.map_nil, Act.eval, Array.getD_eq_getD_getElem?, Option.getD_some, e95]; rfl)) ?_
      with_reducible refine (laws_toSpace.calls k2 _ _ l0_0 _ _ l0_1 l0_0 l0_1 _ ?side1 ?side2 ?side3 ?side4 H2.out).mono ?_
      (case side1 => exact zC (Kd.C_below HR0_0.out HBx.out))
      (case side2 => exact HC0_0.out)
      (case side3 => exact zC (Kd.C_below HR0_1.out HBx.out))
      (case side4 => exact HC0_1.out)
      rintro e wz ⟨v0_, v1_, rfl, ho0, ho1, hb⟩
      obtain ⟨NA31_1_0, Nc31_1_0, eo_⟩ := Kd.S_slice ho0
      subst eo_
      obtain ⟨NA31_1_1, Nc31_1_1, eo_⟩ := Kd.R_slice ho1
      subst eo_
      refine ⟨_, rfl, ?_⟩
      refine hK.out _ _ ⟨NA31_1_0, Nc31_1_0, NA31_1_1, Nc31_1_1, Ao31_3_0, co31_3_0, Ao31_3_1, co31_3_1, Ao6_0, co6_0, Ao6_1, co6_1, gb15, (.agg #[.slice NA31_1_0 l0_0.length Nc31_1_0, .slice NA31_1_1 l0_1.length Nc31_1_1]), m3_, m4_, m5_, m6_, m8_, (by rw [ha.out]; exact putSel_upk 1 hb_ rfl rfl rfl), below_step HBW.out hb, fun _ _ => (Kd.S_reads' ho0).2.2, fun _ _ => (Kd.S_reads' ho0).2.1, fun _ _ => (Kd.R_reads' ho1).2.2, fun _ _ => (Kd.R_reads' ho1).2.1, fun h0_ _ => absurd ((hoff 3 (by kernel_rfl)).symm.trans h0_) (by decide), fun h0_ _ => absurd ((hoff 3 (by kernel_rfl)).symm.trans h0_) (by decide), fun h0_ _ => absurd ((hoff 3 (by kernel_rfl)).symm.trans h0_) (by decide), fun h0_ _ => absurd ((hoff 3 (by kernel_rfl)).symm.trans h0_) (by decide), fun h0_ => absurd ((hoff 4 (by kernel_rfl)).symm.trans h0_) (by decide), fun h0_ => absurd ((hoff 4 (by kernel_rfl)).symm.trans h0_) (by decide), fun h0_ h1_ => blk_below (Q_BKa h0_ h1_) hb, Q_GW, fun h0_ => absurd ((hoff 9 (by kernel_rfl)).symm.trans h0_) (by decide), fun _ => rfl, fun h0_ => absurd ((hoff 3 (by kernel_rfl)).symm.trans h0_) (by decide), fun h0_ => absurd ((hoff 4 (by kernel_rfl)).symm.trans h0_) (by decide), fun h0_ => absurd ((hoff 5 (by kernel_rfl)).symm.trans h0_) (by decide), fun h0_ => absurd ((hoff 6 (by kernel_rfl)).symm.trans h0_) (by decide), Q_X8_⟩
    refine steps_cons ?_ ?_
    · rintro b a w' ⟨Ao31_1_0, co31_1_0, Ao31_1_1, co31_1_1, Ao31_3_0, co31_3_0, Ao31_3_1, co31_3_1, Ao6_0, co6_0, Ao6_1, co6_1, gb15, m1_, m3_, m4_, m5_, m6_, m8_, ha, Q_HBW, Q_CC31_1_0, Q_LL31_1_0, Q_CC31_1_1, Q_LL31_1_1, Q_CC31_3_0, Q_LL31_3_0, Q_CC31_3_1, Q_LL31_3_1, Q_HO6_0, Q_HO6_1, Q_BKa, Q_GW, Q_BK15, Q_X1_, Q_X3_, Q_X4_, Q_X5_, Q_X6_, Q_X8_⟩ hb_ hon hoff
      refine ⟨_, rfl, fun K hK => ?_⟩
      have e3 : a.tmps[3]? = some (.pointer (some ⟨gb3, 0, none⟩)) := by rw [ha]; exact (putSel_off rfl).trans rfl
      replace ha := Aside0.mk ha
      have HBW := Aside0.mk Q_HBW
      have hc0_ : w'.cell? ⟨gb3, 0, none⟩ = some (.slice A1_0 l1_0.length ca1_0) := (blk_cell (blk_below BK3.out HBW.out) 0).trans rfl
      have hc1_ : w'.cell? ⟨gb3, 1, none⟩ = some (.slice A1_1 l1_1.length ca1_1) := (blk_cell (blk_below BK3.out HBW.out) 1).trans rfl
      refine value_ (w1 := w') (v := .agg #[.slice A1_0 l1_0.length ca1_0, .slice A1_1 l1_1.length ca1_1]) (by rfl) rfl ?_ ?_
      · go_simp
        (try simp only [i64_w])
        try rfl
      refine hK.out _ _ ⟨Ao31_1_0, co31_1_0, Ao31_1_1, co31_1_1, Ao31_3_0, co31_3_0, Ao31_3_1, co31_3_1, Ao6_0, co6_0, Ao6_1, co6_1, gb15, m1_, m3_, m4_, m5_, m6_, m8_, (by rw [ha.out]; exact putSel_upk 2 hb_ rfl rfl rfl), Q_HBW, Q_CC31_1_0, Q_LL31_1_0, Q_CC31_1_1, Q_LL31_1_1, fun h0_ _ => absurd ((hoff 3 (by kernel_rfl)).symm.trans h0_) (by decide), fun h0_ _ => absurd ((hoff 3 (by kernel_rfl)).symm.trans h0_) (by decide), fun h0_ _ => absurd ((hoff 3 (by kernel_rfl)).symm.trans h0_) (by decide), fun h0_ _ => absurd ((hoff 3 (by kernel_rfl)).symm.trans h0_) (by decide), fun h0_ => absurd ((hoff 4 (by kernel_rfl)).symm.trans h0_) (by decide), fun h0_ => absurd ((hoff 4 (by kernel_rfl)).symm.trans h0_) (by decide), Q_BKa, Q_GW, fun h0_ => absurd ((hoff 9 (by kernel_rfl)).symm.trans h0_) (by decide), Q_X1_, fun h0_ => absurd ((hoff 3 (by kernel_rfl)).symm.trans h0_) (by decide), fun h0_ => absurd ((hoff 4 (by kernel_rfl)).symm.trans h0_) (by decide), fun h0_ => absurd ((hoff 5 (by kernel_rfl)).symm.trans h0_) (by decide), fun h0_ => absurd ((hoff 6 (by kernel_rfl)).symm.trans h0_) (by decide), Q_X8_⟩
    refine steps_cons ?_ ?_
    · rintro b a w' ⟨Ao31_1_0, co31_1_0, Ao31_1_1, co31_1_1, Ao31_3_0, co31_3_0, Ao31_3_1, co31_3_1, Ao6_0, co6_0, Ao6_1, co6_1, gb15, m1_, m3_, m4_, m5_, m6_, m8_, ha, Q_HBW, Q_CC31_1_0, Q_LL31_1_0, Q_CC31_1_1, Q_LL31_1_1, Q_CC31_3_0, Q_LL31_3_0, Q_CC31_3_1, Q_LL31_3_1, Q_HO6_0, Q_HO6_1, Q_BKa, Q_GW, Q_BK15, Q_X1_, Q_X3_, Q_X4_, Q_X5_, Q_X6_, Q_X8_⟩ hb_ hon hoff
      refine ⟨_, rfl, fun K hK => ?_⟩
      have e97 : a.tmps[97]? = some (.agg #[.slice A1_0 l1_0.length ca1_0, .slice A1_1 l1_1.length ca1_1]) := by rw [ha]; exact putSel_on (e := (2, 97, .agg #[.slice A1_0 l1_0.length ca1_0, .slice A1_1 l1_1.length ca1_1])) 2 rfl rfl (hon 2 (by kernel_rfl)) rfl
      replace ha := Aside0.mk ha
      have HBW := Aside0.mk Q_HBW
      have CC31_1_0 := Aside0.mk (Q_CC31_1_0 (hon 1 (by kernel_rfl)) (hoff 4 (by kernel_rfl)))
      have LL31_1_0 := Aside0.mk (Q_LL31_1_0 (hon 1 (by kernel_rfl)) (hoff 4 (by kernel_rfl)))
      have CC31_1_1 := Aside0.mk (Q_CC31_1_1 (hon 1 (by kernel_rfl)) (hoff 4 (by kernel_rfl)))
      have LL31_1_1 := Aside0.mk (Q_LL31_1_1 (hon 1 (by kernel_rfl)) (hoff 4 (by kernel_rfl)))
      have HBx := zM (below_step HB.out HBW.out)
      refine goes_ Try.func7 (by kernel_rfl) rfl #[.agg #[.slice A1_0 l1_0.length ca1_0, .slice A1_1 l1_1.length ca1_1]] (by rfl) rfl rfl (by first | (simp only [List.map_toArray, List.map_cons, List.map_nil, Act.eval, Array.getD_eq_getD_getElem?, Option.getD_some, e97]; done) | (simp only [List.map_toArray, List.map_cons, List.map_nil, Act.eval, Array.getD_eq_getD_getElem?, Option.getD_some, e97]; rfl)) ?_
      with_reducible refine (laws_toSpace.calls k3 _ _ l1_0 _ _ l1_1 l1_0 l1_1 _ ?side1 ?side2 ?side3 ?side4 H3.out).mono ?_
      (case side1 => exact zC (Kd.C_below HR1_0.out HBx.out))
      (case side2 => exact HC1_0.out)
      (case side3 => exact zC (Kd.C_below HR1_1.out HBx.out))
      (case side4 => exact HC1_1.out)
      rintro e wz ⟨v0_, v1_, rfl, ho0, ho1, hb⟩
      obtain ⟨NA31_3_0, Nc31_3_0, eo_⟩ := Kd.S_slice ho0
      subst eo_
      obtain ⟨NA31_3_1, Nc31_3_1, eo_⟩ := Kd.R_slice ho1
      subst eo_
      refine ⟨_, rfl, ?_⟩
      refine hK.out _ _ ⟨Ao31_1_0, co31_1_0, Ao31_1_1, co31_1_1, NA31_3_0, Nc31_3_0, NA31_3_1, Nc31_3_1, Ao6_0, co6_0, Ao6_1, co6_1, gb15, m1_, (.agg #[.slice NA31_3_0 l1_0.length Nc31_3_0, .slice NA31_3_1 l1_1.length Nc31_3_1]), m4_, m5_, m6_, m8_, (by rw [ha.out]; exact putSel_upk 3 hb_ rfl rfl rfl), below_step HBW.out hb, fun _ _ => Kd.C_below CC31_1_0.out hb, Q_LL31_1_0, fun _ _ => Kd.C_below CC31_1_1.out hb, Q_LL31_1_1, fun _ _ => (Kd.S_reads' ho0).2.2, fun _ _ => (Kd.S_reads' ho0).2.1, fun _ _ => (Kd.R_reads' ho1).2.2, fun _ _ => (Kd.R_reads' ho1).2.1, fun h0_ => absurd ((hoff 4 (by kernel_rfl)).symm.trans h0_) (by decide), fun h0_ => absurd ((hoff 4 (by kernel_rfl)).symm.trans h0_) (by decide), fun h0_ h1_ => blk_below (Q_BKa h0_ h1_) hb, Q_GW, fun h0_ => absurd ((hoff 9 (by kernel_rfl)).symm.trans h0_) (by decide), Q_X1_, fun _ => rfl, fun h0_ => absurd ((hoff 4 (by kernel_rfl)).symm.trans h0_) (by decide), fun h0_ => absurd ((hoff 5 (by kernel_rfl)).symm.trans h0_) (by decide), fun h0_ => absurd ((hoff 6 (by kernel_rfl)).symm.trans h0_) (by decide), Q_X8_⟩
    refine steps_cons ?_ ?_
    · rintro b a w' ⟨Ao31_1_0, co31_1_0, Ao31_1_1, co31_1_1, Ao31_3_0, co31_3_0, Ao31_3_1, co31_3_1, Ao6_0, co6_0, Ao6_1, co6_1, gb15, m1_, m3_, m4_, m5_, m6_, m8_, ha, Q_HBW, Q_CC31_1_0, Q_LL31_1_0, Q_CC31_1_1, Q_LL31_1_1, Q_CC31_3_0, Q_LL31_3_0, Q_CC31_3_1, Q_LL31_3_1, Q_HO6_0, Q_HO6_1, Q_BKa, Q_GW, Q_BK15, Q_X1_, Q_X3_, Q_X4_, Q_X5_, Q_X6_, Q_X8_⟩ hb_ hon hoff
      refine ⟨_, rfl, fun K hK => ?_⟩
      have e96 : a.tmps[96]? = some (m1_) := by rw [ha]; exact putSel_on (e := (1, 96, m1_)) 1 rfl rfl (hon 1 (by kernel_rfl)) rfl
      rw [Q_X1_ (hon 1 (by kernel_rfl))] at e96
      have e98 : a.tmps[98]? = some (m3_) := by rw [ha]; exact putSel_on (e := (3, 98, m3_)) 3 rfl rfl (hon 3 (by kernel_rfl)) rfl
      rw [Q_X3_ (hon 3 (by kernel_rfl))] at e98
      replace ha := Aside0.mk ha
      have HBW := Aside0.mk Q_HBW
      have CC31_1_0 := Aside0.mk (Q_CC31_1_0 (hon 1 (by kernel_rfl)) hb_)
      have LL31_1_0 := Aside0.mk (Q_LL31_1_0 (hon 1 (by kernel_rfl)) hb_)
      have CC31_1_1 := Aside0.mk (Q_CC31_1_1 (hon 1 (by kernel_rfl)) hb_)
      have LL31_1_1 := Aside0.mk (Q_LL31_1_1 (hon 1 (by kernel_rfl)) hb_)
      have CC31_3_0 := Aside0.mk (Q_CC31_3_0 (hon 3 (by kernel_rfl)) hb_)
      have LL31_3_0 := Aside0.mk (Q_LL31_3_0 (hon 3 (by kernel_rfl)) hb_)
      have CC31_3_1 := Aside0.mk (Q_CC31_3_1 (hon 3 (by kernel_rfl)) hb_)
      have LL31_3_1 := Aside0.mk (Q_LL31_3_1 (hon 3 (by kernel_rfl)) hb_)
      have HBx := zM (below_step HB.out HBW.out)
      refine goes_ Try.func8 (by kernel_rfl) rfl #[.agg #[.slice Ao31_1_0 l0_0.length co31_1_0, .slice Ao31_1_1 l0_1.length co31_1_1], .agg #[.slice Ao31_3_0 l1_0.length co31_3_0, .slice Ao31_3_1 l1_1.length co31_3_1]] (by rfl) rfl rfl (by first | (simp only [List.map_toArray, List.map_cons, List.map_nil, Act.eval, Array.getD_eq_getD_getElem?, Option.getD_some, e96, e98]; done) | (simp only [List.map_toArray, List.map_cons, List.map_nil, Act.eval, Array.getD_eq_getD_getElem?, Option.getD_some, e96, e98]; rfl)) ?_
      with_reducible refine (impl_ProductSpace.calls k5 _ _ l0_0 _ _ l0_1 _ _ l1_0 _ _ l1_1 q0 q1 q2 _ ?side1 ?side2 ?side3 ?side4 ?side5 ?side6 ?side7 ?side8 H5.out).mono ?_
      (case side1 => exact CC31_1_0.out)
      (case side2 => exact LL31_1_0.out)
      (case side3 => exact CC31_1_1.out)
      (case side4 => exact LL31_1_1.out)
      (case side5 => exact CC31_3_0.out)
      (case side6 => exact LL31_3_0.out)
      (case side7 => exact CC31_3_1.out)
      (case side8 => exact LL31_3_1.out)
      rintro e wz ⟨v0_, v1_, rfl, ho0, ho1, hb⟩
      obtain ⟨NA6_0, Nc6_0, eo_⟩ := Kd.S_slice ho0
      subst eo_
      obtain ⟨NA6_1, Nc6_1, eo_⟩ := Kd.R_slice ho1
      subst eo_
      refine ⟨_, rfl, ?_⟩
      refine hK.out _ _ ⟨Ao31_1_0, co31_1_0, Ao31_1_1, co31_1_1, Ao31_3_0, co31_3_0, Ao31_3_1, co31_3_1, NA6_0, Nc6_0, NA6_1, Nc6_1, gb15, m1_, m3_, (.tuple #[.agg #[.slice NA6_0 q0.length Nc6_0, .slice NA6_1 q1.length Nc6_1], .bool q2]), m5_, m6_, m8_, (by rw [ha.out]; exact putSel_upk 4 hb_ rfl rfl rfl), below_step HBW.out hb, fun _ h1_ => absurd ((up_self b 4).symm.trans h1_) (by decide), fun _ h1_ => absurd ((up_self b 4).symm.trans h1_) (by decide), fun _ h1_ => absurd ((up_self b 4).symm.trans h1_) (by decide), fun _ h1_ => absurd ((up_self b 4).symm.trans h1_) (by decide), fun _ h1_ => absurd ((up_self b 4).symm.trans h1_) (by decide), fun _ h1_ => absurd ((up_self b 4).symm.trans h1_) (by decide), fun _ h1_ => absurd ((up_self b 4).symm.trans h1_) (by decide), fun _ h1_ => absurd ((up_self b 4).symm.trans h1_) (by decide), fun _ => Kd.S_lower ho0 (below_size HBW.out), fun _ => Kd.R_lower ho1 (below_size HBW.out), fun h0_ h1_ => blk_below (Q_BKa h0_ h1_) hb, Q_GW, fun h0_ => absurd ((hoff 9 (by kernel_rfl)).symm.trans h0_) (by decide), Q_X1_, Q_X3_, fun _ => rfl, fun h0_ => absurd ((hoff 5 (by kernel_rfl)).symm.trans h0_) (by decide), fun h0_ => absurd ((hoff 6 (by kernel_rfl)).symm.trans h0_) (by decide), Q_X8_⟩
    refine steps_cons ?_ ?_
    · rintro b a w' ⟨Ao31_1_0, co31_1_0, Ao31_1_1, co31_1_1, Ao31_3_0, co31_3_0, Ao31_3_1, co31_3_1, Ao6_0, co6_0, Ao6_1, co6_1, gb15, m1_, m3_, m4_, m5_, m6_, m8_, ha, Q_HBW, Q_CC31_1_0, Q_LL31_1_0, Q_CC31_1_1, Q_LL31_1_1, Q_CC31_3_0, Q_LL31_3_0, Q_CC31_3_1, Q_LL31_3_1, Q_HO6_0, Q_HO6_1, Q_BKa, Q_GW, Q_BK15, Q_X1_, Q_X3_, Q_X4_, Q_X5_, Q_X6_, Q_X8_⟩ hb_ hon hoff
      refine ⟨_, rfl, fun K hK => ?_⟩
      have e99 : a.tmps[99]? = some (m4_) := by rw [ha]; exact putSel_on (e := (4, 99, m4_)) 4 rfl rfl (hon 4 (by kernel_rfl)) rfl
      rw [Q_X4_ (hon 4 (by kernel_rfl))] at e99
      replace ha := Aside0.mk ha
      have HBW := Aside0.mk Q_HBW
      have HO6_0 := Aside0.mk (Q_HO6_0 (hon 4 (by kernel_rfl)))
      have HO6_1 := Aside0.mk (Q_HO6_1 (hon 4 (by kernel_rfl)))
      refine value_ (w1 := w') (v := .tuple #[.agg #[.slice Ao6_0 q0.length co6_0, .slice Ao6_1 q1.length co6_1], .bool q2]) (by rfl) rfl ?_ ?_
      · go_simp
        (try simp only [i64_w])
        try rfl
      refine hK.out _ _ ⟨Ao31_1_0, co31_1_0, Ao31_1_1, co31_1_1, Ao31_3_0, co31_3_0, Ao31_3_1, co31_3_1, Ao6_0, co6_0, Ao6_1, co6_1, gb15, m1_, m3_, m4_, (.tuple #[.agg #[.slice Ao6_0 q0.length co6_0, .slice Ao6_1 q1.length co6_1], .bool q2]), m6_, m8_, (by rw [ha.out]; exact putSel_upk 5 hb_ rfl rfl rfl), Q_HBW, fun _ h1_ => absurd ((hon 4 (by kernel_rfl)).symm.trans h1_) (by decide), fun _ h1_ => absurd ((hon 4 (by kernel_rfl)).symm.trans h1_) (by decide), fun _ h1_ => absurd ((hon 4 (by kernel_rfl)).symm.trans h1_) (by decide), fun _ h1_ => absurd ((hon 4 (by kernel_rfl)).symm.trans h1_) (by decide), fun _ h1_ => absurd ((hon 4 (by kernel_rfl)).symm.trans h1_) (by decide), fun _ h1_ => absurd ((hon 4 (by kernel_rfl)).symm.trans h1_) (by decide), fun _ h1_ => absurd ((hon 4 (by kernel_rfl)).symm.trans h1_) (by decide), fun _ h1_ => absurd ((hon 4 (by kernel_rfl)).symm.trans h1_) (by decide), Q_HO6_0, Q_HO6_1, Q_BKa, Q_GW, fun h0_ => absurd ((hoff 9 (by kernel_rfl)).symm.trans h0_) (by decide), Q_X1_, Q_X3_, Q_X4_, fun _ => rfl, fun h0_ => absurd ((hoff 6 (by kernel_rfl)).symm.trans h0_) (by decide), Q_X8_⟩
    refine steps_cons ?_ ?_
    · rintro b a w' ⟨Ao31_1_0, co31_1_0, Ao31_1_1, co31_1_1, Ao31_3_0, co31_3_0, Ao31_3_1, co31_3_1, Ao6_0, co6_0, Ao6_1, co6_1, gb15, m1_, m3_, m4_, m5_, m6_, m8_, ha, Q_HBW, Q_CC31_1_0, Q_LL31_1_0, Q_CC31_1_1, Q_LL31_1_1, Q_CC31_3_0, Q_LL31_3_0, Q_CC31_3_1, Q_LL31_3_1, Q_HO6_0, Q_HO6_1, Q_BKa, Q_GW, Q_BK15, Q_X1_, Q_X3_, Q_X4_, Q_X5_, Q_X6_, Q_X8_⟩ hb_ hon hoff
      refine ⟨_, rfl, fun K hK => ?_⟩
      have e94 : a.tmps[94]? = some (m5_) := by rw [ha]; exact putSel_on (e := (5, 94, m5_)) 5 rfl rfl (hon 5 (by kernel_rfl)) rfl
      rw [Q_X5_ (hon 5 (by kernel_rfl))] at e94
      replace ha := Aside0.mk ha
      have HBW := Aside0.mk Q_HBW
      have HO6_0 := Aside0.mk (Q_HO6_0 (hon 4 (by kernel_rfl)))
      have HO6_1 := Aside0.mk (Q_HO6_1 (hon 4 (by kernel_rfl)))
      refine value_ (w1 := w') (v := .agg #[.slice Ao6_0 q0.length co6_0, .slice Ao6_1 q1.length co6_1]) (by rfl) rfl ?_ ?_
      · go_simp
        (try simp only [i64_w])
        try rfl
      refine hK.out _ _ ⟨Ao31_1_0, co31_1_0, Ao31_1_1, co31_1_1, Ao31_3_0, co31_3_0, Ao31_3_1, co31_3_1, Ao6_0, co6_0, Ao6_1, co6_1, gb15, m1_, m3_, m4_, m5_, (.agg #[.slice Ao6_0 q0.length co6_0, .slice Ao6_1 q1.length co6_1]), m8_, (by rw [ha.out]; exact putSel_upk 6 hb_ rfl rfl rfl), Q_HBW, fun _ h1_ => absurd ((hon 4 (by kernel_rfl)).symm.trans h1_) (by decide), fun _ h1_ => absurd ((hon 4 (by kernel_rfl)).symm.trans h1_) (by decide), fun _ h1_ => absurd ((hon 4 (by kernel_rfl)).symm.trans h1_) (by decide), fun _ h1_ => absurd ((hon 4 (by kernel_rfl)).symm.trans h1_) (by decide), fun _ h1_ => absurd ((hon 4 (by kernel_rfl)).symm.trans h1_) (by decide), fun _ h1_ => absurd ((hon 4 (by kernel_rfl)).symm.trans h1_) (by decide), fun _ h1_ => absurd ((hon 4 (by kernel_rfl)).symm.trans h1_) (by decide), fun _ h1_ => absurd ((hon 4 (by kernel_rfl)).symm.trans h1_) (by decide), Q_HO6_0, Q_HO6_1, Q_BKa, Q_GW, fun h0_ => absurd ((hoff 9 (by kernel_rfl)).symm.trans h0_) (by decide), Q_X1_, Q_X3_, Q_X4_, Q_X5_, fun _ => rfl, Q_X8_⟩
    refine steps_cons ?_ ?_
    · rintro b a w' ⟨Ao31_1_0, co31_1_0, Ao31_1_1, co31_1_1, Ao31_3_0, co31_3_0, Ao31_3_1, co31_3_1, Ao6_0, co6_0, Ao6_1, co6_1, gb15, m1_, m3_, m4_, m5_, m6_, m8_, ha, Q_HBW, Q_CC31_1_0, Q_LL31_1_0, Q_CC31_1_1, Q_LL31_1_1, Q_CC31_3_0, Q_LL31_3_0, Q_CC31_3_1, Q_LL31_3_1, Q_HO6_0, Q_HO6_1, Q_BKa, Q_GW, Q_BK15, Q_X1_, Q_X3_, Q_X4_, Q_X5_, Q_X6_, Q_X8_⟩ hb_ hon hoff
      refine ⟨_, rfl, fun K hK => ?_⟩
      have e94 : a.tmps[94]? = some (m5_) := by rw [ha]; exact putSel_on (e := (5, 94, m5_)) 5 rfl rfl (hon 5 (by kernel_rfl)) rfl
      rw [Q_X5_ (hon 5 (by kernel_rfl))] at e94
      replace ha := Aside0.mk ha
      have HBW := Aside0.mk Q_HBW
      have HO6_0 := Aside0.mk (Q_HO6_0 (hon 4 (by kernel_rfl)))
      have HO6_1 := Aside0.mk (Q_HO6_1 (hon 4 (by kernel_rfl)))
      refine value_ (w1 := w') (v := .bool q2) (by rfl) rfl ?_ ?_
      · go_simp
        (try simp only [i64_w])
        try rfl
      refine hK.out _ _ ⟨Ao31_1_0, co31_1_0, Ao31_1_1, co31_1_1, Ao31_3_0, co31_3_0, Ao31_3_1, co31_3_1, Ao6_0, co6_0, Ao6_1, co6_1, gb15, m1_, m3_, m4_, m5_, m6_, m8_, (by rw [ha.out]; exact putSel_upk 7 hb_ rfl rfl rfl), Q_HBW, fun _ h1_ => absurd ((hon 4 (by kernel_rfl)).symm.trans h1_) (by decide), fun _ h1_ => absurd ((hon 4 (by kernel_rfl)).symm.trans h1_) (by decide), fun _ h1_ => absurd ((hon 4 (by kernel_rfl)).symm.trans h1_) (by decide), fun _ h1_ => absurd ((hon 4 (by kernel_rfl)).symm.trans h1_) (by decide), fun _ h1_ => absurd ((hon 4 (by kernel_rfl)).symm.trans h1_) (by decide), fun _ h1_ => absurd ((hon 4 (by kernel_rfl)).symm.trans h1_) (by decide), fun _ h1_ => absurd ((hon 4 (by kernel_rfl)).symm.trans h1_) (by decide), fun _ h1_ => absurd ((hon 4 (by kernel_rfl)).symm.trans h1_) (by decide), Q_HO6_0, Q_HO6_1, Q_BKa, Q_GW, Q_BK15, Q_X1_, Q_X3_, Q_X4_, Q_X5_, Q_X6_, Q_X8_⟩
    refine steps_cons ?_ ?_
    · rintro b a w' ⟨Ao31_1_0, co31_1_0, Ao31_1_1, co31_1_1, Ao31_3_0, co31_3_0, Ao31_3_1, co31_3_1, Ao6_0, co6_0, Ao6_1, co6_1, gb15, m1_, m3_, m4_, m5_, m6_, m8_, ha, Q_HBW, Q_CC31_1_0, Q_LL31_1_0, Q_CC31_1_1, Q_LL31_1_1, Q_CC31_3_0, Q_LL31_3_0, Q_CC31_3_1, Q_LL31_3_1, Q_HO6_0, Q_HO6_1, Q_BKa, Q_GW, Q_BK15, Q_X1_, Q_X3_, Q_X4_, Q_X5_, Q_X6_, Q_X8_⟩ hb_ hon hoff
      refine ⟨_, rfl, fun K hK => ?_⟩
      replace ha := Aside0.mk ha
      have HBW := Aside0.mk Q_HBW
      refine box_step ?hg (N := 15) ?hd (cs := #[.slice none 0 0, .slice none 0 0]) (t := 27) ?hr ?_; (case hd => rfl); (case hg => rfl); (case hr => first | (go_simp; done) | (go_simp; rfl))
      intro Ng hg wz hbox hb
      refine hK.out _ _ ⟨Ao31_1_0, co31_1_0, Ao31_1_1, co31_1_1, Ao31_3_0, co31_3_0, Ao31_3_1, co31_3_1, Ao6_0, co6_0, Ao6_1, co6_1, Ng, m1_, m3_, m4_, m5_, m6_, (.pointer (some ⟨Ng, 0, none⟩)), (by rw [ha.out]; exact putSel_upk 8 hb_ rfl rfl rfl), below_step HBW.out hb, fun h0_ h1_ => Kd.C_below (Q_CC31_1_0 h0_ h1_) hb, Q_LL31_1_0, fun h0_ h1_ => Kd.C_below (Q_CC31_1_1 h0_ h1_) hb, Q_LL31_1_1, fun h0_ h1_ => Kd.C_below (Q_CC31_3_0 h0_ h1_) hb, Q_LL31_3_0, fun h0_ h1_ => Kd.C_below (Q_CC31_3_1 h0_ h1_) hb, Q_LL31_3_1, fun h0_ => Kd.S_below (Q_HO6_0 h0_) hb, fun h0_ => Kd.R_below (Q_HO6_1 h0_) hb, fun _ _ => hbox, fun _ => (by rw [hg]; exact below_size HBW.out), fun h0_ => absurd ((hoff 9 (by kernel_rfl)).symm.trans h0_) (by decide), Q_X1_, Q_X3_, Q_X4_, Q_X5_, Q_X6_, fun _ => rfl⟩
    refine steps_cons ?_ ?_
    · rintro b a w' ⟨Ao31_1_0, co31_1_0, Ao31_1_1, co31_1_1, Ao31_3_0, co31_3_0, Ao31_3_1, co31_3_1, Ao6_0, co6_0, Ao6_1, co6_1, gb15, m1_, m3_, m4_, m5_, m6_, m8_, ha, Q_HBW, Q_CC31_1_0, Q_LL31_1_0, Q_CC31_1_1, Q_LL31_1_1, Q_CC31_3_0, Q_LL31_3_0, Q_CC31_3_1, Q_LL31_3_1, Q_HO6_0, Q_HO6_1, Q_BKa, Q_GW, Q_BK15, Q_X1_, Q_X3_, Q_X4_, Q_X5_, Q_X6_, Q_X8_⟩ hb_ hon hoff
      refine ⟨_, rfl, fun K hK => ?_⟩
      have e15 : a.tmps[15]? = some (m8_) := by rw [ha]; exact putSel_on (e := (8, 15, m8_)) 8 rfl rfl (hon 8 (by kernel_rfl)) rfl
      rw [Q_X8_ (hon 8 (by kernel_rfl))] at e15
      have e100 : a.tmps[100]? = some (m6_) := by rw [ha]; exact putSel_on (e := (6, 100, m6_)) 6 rfl rfl (hon 6 (by kernel_rfl)) rfl
      rw [Q_X6_ (hon 6 (by kernel_rfl))] at e100
      replace ha := Aside0.mk ha
      have HBW := Aside0.mk Q_HBW
      have HO6_0 := Aside0.mk (Q_HO6_0 (hon 4 (by kernel_rfl)))
      have HO6_1 := Aside0.mk (Q_HO6_1 (hon 4 (by kernel_rfl)))
      have BKa := Aside0.mk (Q_BKa (hon 8 (by kernel_rfl)) hb_)
      have GW := Aside0.mk (Q_GW (hon 8 (by kernel_rfl)))
      have hs0_ : w'.cell? ⟨gb15, 0, none⟩ = some (.slice none 0 0) := (blk_cell BKa.out 0).trans rfl
      have hs1_ : w'.cell? ⟨gb15, 1, none⟩ = some (.slice none 0 0) := (blk_cell BKa.out 1).trans rfl
      have hf0_ := blk_frozen BKa.out 0
      have hf1_ := blk_frozen BKa.out 1
      refine skip_ (w1 := ?_) (by rfl) rfl ?_ ?_
      rotate_left
      · go_simp
        rfl
      refine hK.out _ _ ⟨Ao31_1_0, co31_1_0, Ao31_1_1, co31_1_1, Ao31_3_0, co31_3_0, Ao31_3_1, co31_3_1, Ao6_0, co6_0, Ao6_1, co6_1, gb15, m1_, m3_, m4_, m5_, m6_, m8_, (by rw [ha.out]; exact putSel_none (v := undef) rfl), below_set (below_set HBW.out GW.out) GW.out, fun _ h1_ => absurd ((hon 4 (by kernel_rfl)).symm.trans h1_) (by decide), fun _ h1_ => absurd ((hon 4 (by kernel_rfl)).symm.trans h1_) (by decide), fun _ h1_ => absurd ((hon 4 (by kernel_rfl)).symm.trans h1_) (by decide), fun _ h1_ => absurd ((hon 4 (by kernel_rfl)).symm.trans h1_) (by decide), fun _ h1_ => absurd ((hon 4 (by kernel_rfl)).symm.trans h1_) (by decide), fun _ h1_ => absurd ((hon 4 (by kernel_rfl)).symm.trans h1_) (by decide), fun _ h1_ => absurd ((hon 4 (by kernel_rfl)).symm.trans h1_) (by decide), fun _ h1_ => absurd ((hon 4 (by kernel_rfl)).symm.trans h1_) (by decide), fun _ => Kd.S_mono (Kd.S_far (p := ⟨gb15, 1, none⟩) (Kd.S_far (p := ⟨gb15, 0, none⟩) (Kd.S_types HO6_0.out BKa.out (by decide)) (fun _ hk => hk.2) _) (fun _ hk => hk.2) _) (fun _ _ => trivial), fun _ => Kd.R_mono (Kd.R_far (p := ⟨gb15, 1, none⟩) (Kd.R_far (p := ⟨gb15, 0, none⟩) (Kd.R_types HO6_1.out BKa.out (by decide)) (fun _ hk => hk.2) _) (fun _ hk => hk.2) _) (fun _ _ => trivial), fun _ h1_ => absurd ((up_self b 9).symm.trans h1_) (by decide), Q_GW, fun _ => blk_put (cs := #[.slice Ao6_0 q0.length co6_0, .slice none 0 0]) (blk_put (cs := #[.slice none 0 0, .slice none 0 0]) BKa.out 0 _ rfl) 1 _ rfl, Q_X1_, Q_X3_, Q_X4_, Q_X5_, Q_X6_, Q_X8_⟩
    refine steps_cons ?_ ?_
    · rintro b a w' ⟨Ao31_1_0, co31_1_0, Ao31_1_1, co31_1_1, Ao31_3_0, co31_3_0, Ao31_3_1, co31_3_1, Ao6_0, co6_0, Ao6_1, co6_1, gb15, m1_, m3_, m4_, m5_, m6_, m8_, ha, Q_HBW, Q_CC31_1_0, Q_LL31_1_0, Q_CC31_1_1, Q_LL31_1_1, Q_CC31_3_0, Q_LL31_3_0, Q_CC31_3_1, Q_LL31_3_1, Q_HO6_0, Q_HO6_1, Q_BKa, Q_GW, Q_BK15, Q_X1_, Q_X3_, Q_X4_, Q_X5_, Q_X6_, Q_X8_⟩ hb_ hon hoff
      refine ⟨_, rfl, fun K hK => ?_⟩
      have e101 : a.tmps[101]? = some (.bool q2) := by rw [ha]; exact putSel_on (e := (7, 101, .bool q2)) 7 rfl rfl (hon 7 (by kernel_rfl)) rfl
      replace ha := Aside0.mk ha
      have HBW := Aside0.mk Q_HBW
      have HO6_0 := Aside0.mk (Q_HO6_0 (hon 4 (by kernel_rfl)))
      have HO6_1 := Aside0.mk (Q_HO6_1 (hon 4 (by kernel_rfl)))
      have GW := Aside0.mk (Q_GW (hon 8 (by kernel_rfl)))
      have BK15 := Aside0.mk (Q_BK15 (hon 9 (by kernel_rfl)))
      refine value_ (w1 := w') (v := .bool q2) (by rfl) rfl ?_ ?_
      · go_simp
        (try simp only [i64_w])
        try rfl
      refine hK.out _ _ ⟨Ao31_1_0, co31_1_0, Ao31_1_1, co31_1_1, Ao31_3_0, co31_3_0, Ao31_3_1, co31_3_1, Ao6_0, co6_0, Ao6_1, co6_1, gb15, m1_, m3_, m4_, m5_, m6_, m8_, (by rw [ha.out]; exact putSel_upk 9 hb_ rfl rfl rfl), Q_HBW, fun _ h1_ => absurd ((hon 4 (by kernel_rfl)).symm.trans h1_) (by decide), fun _ h1_ => absurd ((hon 4 (by kernel_rfl)).symm.trans h1_) (by decide), fun _ h1_ => absurd ((hon 4 (by kernel_rfl)).symm.trans h1_) (by decide), fun _ h1_ => absurd ((hon 4 (by kernel_rfl)).symm.trans h1_) (by decide), fun _ h1_ => absurd ((hon 4 (by kernel_rfl)).symm.trans h1_) (by decide), fun _ h1_ => absurd ((hon 4 (by kernel_rfl)).symm.trans h1_) (by decide), fun _ h1_ => absurd ((hon 4 (by kernel_rfl)).symm.trans h1_) (by decide), fun _ h1_ => absurd ((hon 4 (by kernel_rfl)).symm.trans h1_) (by decide), Q_HO6_0, Q_HO6_1, fun _ h1_ => absurd ((hon 9 (by kernel_rfl)).symm.trans h1_) (by decide), Q_GW, Q_BK15, Q_X1_, Q_X3_, Q_X4_, Q_X5_, Q_X6_, Q_X8_⟩
    exact steps_nil
  rintro b a w29 hall ⟨Ao31_1_0, co31_1_0, Ao31_1_1, co31_1_1, Ao31_3_0, co31_3_0, Ao31_3_1, co31_3_1, Ao6_0, co6_0, Ao6_1, co6_1, gb15, m1_, m3_, m4_, m5_, m6_, m8_, ha, Q_HBW, Q_CC31_1_0, Q_LL31_1_0, Q_CC31_1_1, Q_LL31_1_1, Q_CC31_3_0, Q_LL31_3_0, Q_CC31_3_1, Q_LL31_3_1, Q_HO6_0, Q_HO6_1, Q_BKa, Q_GW, Q_BK15, Q_X1_, Q_X3_, Q_X4_, Q_X5_, Q_X6_, Q_X8_⟩
  clear HBW
  have hb0_ := hall 0 (by kernel_rfl)
  have hb1_ := hall 1 (by kernel_rfl)
  have hb2_ := hall 2 (by kernel_rfl)
  have hb3_ := hall 3 (by kernel_rfl)
  have hb4_ := hall 4 (by kernel_rfl)
  have hb5_ := hall 5 (by kernel_rfl)
  have hb6_ := hall 6 (by kernel_rfl)
  have hb7_ := hall 7 (by kernel_rfl)
  have hb8_ := hall 8 (by kernel_rfl)
  have hb9_ := hall 9 (by kernel_rfl)
  have hb10_ := hall 10 (by kernel_rfl)
  subst ha
  obtain rfl := Q_X1_ hb1_
  obtain rfl := Q_X3_ hb3_
  obtain rfl := Q_X4_ hb4_
  obtain rfl := Q_X5_ hb5_
  obtain rfl := Q_X6_ hb6_
  obtain rfl := Q_X8_ hb8_
  simp only [putSel, hb0_, hb1_, hb2_, hb3_, hb4_, hb5_, hb6_, hb7_, hb8_, hb9_, hb10_, if_true, Act.put, List.setIfInBounds_toArray, List.set_cons_zero, List.set_cons_succ]
  have HBW := Aside0.mk Q_HBW
  clear Q_HBW
  clear Q_CC31_1_0
  clear Q_LL31_1_0
  clear Q_CC31_1_1
  clear Q_LL31_1_1
  clear Q_CC31_3_0
  clear Q_LL31_3_0
  clear Q_CC31_3_1
  clear Q_LL31_3_1
  have HO6_0 := Aside0.mk (Q_HO6_0 hb4_)
  clear Q_HO6_0
  have HO6_1 := Aside0.mk (Q_HO6_1 hb4_)
  clear Q_HO6_1
  clear Q_BKa
  have GW := Aside0.mk (Q_GW hb8_)
  clear Q_GW
  have BK15 := Aside0.mk (Q_BK15 hb9_)
  clear Q_BK15
  clear hall hb0_ hb1_ hb2_ hb3_ hb4_ hb5_ hb6_ hb7_ hb8_ hb9_ hb10_
  have HBs_ := zM (below_size HB.out)
  have hb := HBW.out
  replace HO0_0 := uSb HO0_0 hb
  replace HO0_1 := uRb HO0_1 hb
  replace HO3_0 := uSb HO3_0 hb
  replace HO3_1 := uRb HO3_1 hb
  replace BK2 := uKb BK2 hb
  replace BK3 := uKb BK3 hb
  replace BK6 := uKb BK6 hb
  replace BK10 := uKb BK10 hb
  have HS29 := zM hb.size
  replace HO6_0 := uS HB.out HO6_0.out
  replace HO6_1 := uR HB.out HO6_1.out
  replace HB := zM (below_step HB.out hb); clear hb HBW
  have HG15 := GW; have HW15 := zM (show w.heap.size ≤ gb15 from Nat.le_trans HBs_.out GW.out); have HL15 := zM (blk_lt BK15.out); clear GW HBs_
  have hn2_15 : gb2 ≠ gb15 := (by have := HG15.out; have := HL2.out; have := HS2.out; have := HS3.out; have := HS4.out; have := HS5.out; have := HS6.out; have := HS7.out; have := HS8.out; have := HS9.out; have := HS10.out; have := HS11.out; have := HS12.out; have := HS13.out; have := HS14.out; have := HS15.out; have := HS16.out; have := HS17.out; have := HS18.out; have := HS19.out; have := HS20.out; have := HS21.out; have := HS22.out; have := HS23.out; have := HS24.out; have := HS25.out; have := HS26.out; have := HS27.out; have := HS28.out; omega); have hn15_2 := hn2_15.symm
  have hn3_15 : gb3 ≠ gb15 := (by have := HG15.out; have := HL3.out; have := HS3.out; have := HS4.out; have := HS5.out; have := HS6.out; have := HS7.out; have := HS8.out; have := HS9.out; have := HS10.out; have := HS11.out; have := HS12.out; have := HS13.out; have := HS14.out; have := HS15.out; have := HS16.out; have := HS17.out; have := HS18.out; have := HS19.out; have := HS20.out; have := HS21.out; have := HS22.out; have := HS23.out; have := HS24.out; have := HS25.out; have := HS26.out; have := HS27.out; have := HS28.out; omega); have hn15_3 := hn3_15.symm
  have hn6_15 : gb6 ≠ gb15 := (by have := HG15.out; have := HL6.out; have := HS7.out; have := HS8.out; have := HS9.out; have := HS10.out; have := HS11.out; have := HS12.out; have := HS13.out; have := HS14.out; have := HS15.out; have := HS16.out; have := HS17.out; have := HS18.out; have := HS19.out; have := HS20.out; have := HS21.out; have := HS22.out; have := HS23.out; have := HS24.out; have := HS25.out; have := HS26.out; have := HS27.out; have := HS28.out; omega); have hn15_6 := hn6_15.symm
  have hn10_15 : gb10 ≠ gb15 := (by have := HG15.out; have := HL10.out; have := HS15.out; have := HS16.out; have := HS17.out; have := HS18.out; have := HS19.out; have := HS20.out; have := HS21.out; have := HS22.out; have := HS23.out; have := HS24.out; have := HS25.out; have := HS26.out; have := HS27.out; have := HS28.out; omega); have hn15_10 := hn10_15.symm
  replace hc2_0 := zy BK2 0
  replace hf2_0 := blk_frozen BK2.out 0
  replace hc2_1 := zy BK2 1
  replace hf2_1 := blk_frozen BK2.out 1
  replace hc3_0 := zy BK3 0
  replace hf3_0 := blk_frozen BK3.out 0
  replace hc3_1 := zy BK3 1
  replace hf3_1 := blk_frozen BK3.out 1
  replace hc6_0 := zy BK6 0
  replace hf6_0 := blk_frozen BK6.out 0
  replace hc6_1 := zy BK6 1
  replace hf6_1 := blk_frozen BK6.out 1
  replace hc10_0 := zy BK10 0
  replace hf10_0 := blk_frozen BK10.out 0
  replace hc10_1 := zy BK10 1
  replace hf10_1 := blk_frozen BK10.out 1
  have hc15_0 := zy BK15 0
  have hf15_0 := blk_frozen BK15.out 0
  have hc15_1 := zy BK15 1
  have hf15_1 := blk_frozen BK15.out 1
  go_wp2_with (first
    | (have hst_ : Aside0 (Below w.heap.size w w29) := HB; clear hst_; go_at_call 9; refine (laws_eqSpace.calls k6 _ _ q0 _ _ q1 _ _ q0 _ _ q1 true _ ?side1 ?side2 ?side3 ?side4 ?side5 ?side6 ?side7 ?side8 H6.out).mono ?_; (case side1 => exact zC (Kd.S_reads' HO6_0.out).2.2); (case side2 => exact (Kd.S_reads' HO6_0.out).2.1); (case side3 => exact zC (Kd.R_reads' HO6_1.out).2.2); (case side4 => exact (Kd.R_reads' HO6_1.out).2.1); (case side5 => exact zC (Kd.S_reads' HO0_0.out).2.2); (case side6 => exact (Kd.S_reads' HO0_0.out).2.1); (case side7 => exact zC (Kd.R_reads' HO0_1.out).2.2); (case side8 => exact (Kd.R_reads' HO0_1.out).2.1); clear HO0_0 HO0_1; clear HO6_0 HO6_1; clear BK6 hc6_0 hf6_0 hc6_1 hf6_1; clear BK15 hc15_0 hf15_0 hc15_1 hf15_1; rintro e w30 ⟨rfl, hb⟩; replace HO3_0 := uSb HO3_0 hb; replace HO3_1 := uRb HO3_1 hb; replace BK2 := uKb BK2 hb; replace BK3 := uKb BK3 hb; replace BK10 := uKb BK10 hb; have HS30 := zM hb.size; replace HB := zM (below_step HB.out hb); clear hb; replace hc2_0 := zy BK2 0; replace hf2_0 := blk_frozen BK2.out 0; replace hc2_1 := zy BK2 1; replace hf2_1 := blk_frozen BK2.out 1; replace hc3_0 := zy BK3 0; replace hf3_0 := blk_frozen BK3.out 0; replace hc3_1 := zy BK3 1; replace hf3_1 := blk_frozen BK3.out 1; replace hc10_0 := zy BK10 0; replace hf10_0 := blk_frozen BK10.out 0; replace hc10_1 := zy BK10 1; replace hf10_1 := blk_frozen BK10.out 1)
    | (have hst_ : Aside0 (Below w.heap.size w w30) := HB; clear hst_; go_at_call 11; refine uArgs (args' := #[.agg #[.slice Ao3_0 mk2_0.length co3_0, .slice Ao3_1 mk2_1.length co3_1], .int .i64 1]) (by rw [hl3_0.out, hl3_1.out]) ?_; refine (laws_heldSpace.calls k12 _ _ mk2_0 _ _ mk2_1 1 kk2 _ ?side1 ?side2 ?side3 ?side4 H12.out).mono ?_; (case side1 => exact zC (Kd.S_reads' HO3_0.out).2.2); (case side2 => exact (Kd.S_reads' HO3_0.out).2.1); (case side3 => exact zC (Kd.R_reads' HO3_1.out).2.2); (case side4 => exact (Kd.R_reads' HO3_1.out).2.1); clear HO3_0 HO3_1; clear BK2 hc2_0 hf2_0 hc2_1 hf2_1; clear BK3 hc3_0 hf3_0 hc3_1 hf3_1; clear BK10 hc10_0 hf10_0 hc10_1 hf10_1; rintro e w31 ⟨rfl, hb⟩; have HS31 := zM hb.size; replace HB := zM (below_step HB.out hb); clear hb))
  go_ret
  exact ⟨rfl, HB.out⟩
end Go.Proofs.Ytihfpngolcjkiaa.P
