-- Written by a program of this session (the kit's print, turned: wip/print/patch.py) out of the translation. Not trusted: Lean checks it.
import Derived.Test.YtaemfocjokkopaaCutPlacesG5
import Derived.Test.YtaemfocjokkopaaCutPlacesG12
namespace Go.Proofs.Ytaemfocjokkopaa.P
open Go.RowKit Go.Proofs.YtaemfocjokkopaaW.PrintWords Go.Proofs.YtaemfocjokkopaaW.PrintLast Go.Proofs.YtaemfocjokkopaaW.PrintMore
attribute [local go_sem] max2_int min2_int max_two min_two max_three min_three max_four min_four   -- for this text's walks alone
set_option linter.unusedVariables false
set_option linter.unusedSimpArgs false

/-! ### spec_l2Induced: function 18 -/
mutual
def spec_l2Induced.l0 : Nat → List Int → List Int → Int → List (List Int) → List (S54) → List (List Int) → List (S54) → Option ((List (List Int)) × (List (S54)))
 | 0, _, _, _, _, _, _, _ => none
 | k + 1, x1, x6, x7, x264000, x264001, x275000, x275001 => if x7 < (x6.length : Int) then (if 0 ≤ x7 then (spec_l2Induced.l0 k x1 (x6.set (x7 : Int).toNat (-1)) (wrap64 (x7 + 1)) x264000 x264001 x275000 x275001) else (none)) else (spec_l2Induced.l1 k x1 x6 0 x264000 x264001 x275000 x275001)
def spec_l2Induced.l1 : Nat → List Int → List Int → Int → List (List Int) → List (S54) → List (List Int) → List (S54) → Option ((List (List Int)) × (List (S54)))
 | 0, _, _, _, _, _, _, _ => none
 | k + 1, x1, x6, x8, x264000, x264001, x275000, x275001 => if x8 < (x1.length : Int) then (if 0 ≤ x8 then (if 0 ≤ (rd x1 x8) then (if (rd x1 x8) < (x6.length : Int) then (if (rd x1 x8) < (x264000.length : Int) then ((spec_l1Own.f (rd_L1 x264000 (rd x1 x8))).bind fun t280 => (if x275000.length < 5864062014805 then (spec_l2Induced.l1 k x1 (x6.set ((rd x1 x8) : Int).toNat x8) (wrap64 (x8 + 1)) x264000 x264001 (x275000 ++ [t280]) x275001) else (none))) else (none)) else (none)) else (none)) else (none)) else (spec_l2Induced.l2 k x6 0 x264000 x264001 x275000 x275001)
def spec_l2Induced.l2 : Nat → List Int → Int → List (List Int) → List (S54) → List (List Int) → List (S54) → Option ((List (List Int)) × (List (S54)))
 | 0, _, _, _, _, _, _ => none
 | k + 1, x6, x9, x264000, x264001, x275000, x275001 => if x9 < (x264001.length : Int) then (if 0 ≤ x9 then (if 0 ≤ ((rd_T54 x264001 x9).f0) then (if ((rd_T54 x264001 x9).f0) < (x6.length : Int) then (if 0 ≤ ((rd_T54 x264001 x9).f1) then (if ((rd_T54 x264001 x9).f1) < (x6.length : Int) then (if (rd x6 ((rd_T54 x264001 x9).f0)) ≥ 0 then (if (rd x6 ((rd_T54 x264001 x9).f1)) ≥ 0 then (if x275001.length < 8796093022208 then (spec_l2Induced.l2 k x6 (wrap64 (x9 + 1)) x264000 x264001 x275000 (x275001 ++ [(⟨rd x6 ((rd_T54 x264001 x9).f0), rd x6 ((rd_T54 x264001 x9).f1)⟩ : S54)])) else (none)) else (spec_l2Induced.l2 k x6 (wrap64 (x9 + 1)) x264000 x264001 x275000 x275001)) else (spec_l2Induced.l2 k x6 (wrap64 (x9 + 1)) x264000 x264001 x275000 x275001)) else (none)) else (none)) else (none)) else (none)) else (none)) else (some (x275000, x275001))
end
def spec_l2Induced.f (k : Nat) (l0_0 : List (List Int)) (l0_1 : List (S54)) (l1 : List Int) : Option ((List (List Int)) × (List (S54))) := if 0 ≤ (l0_0.length : Int) then (if ((l0_0.length : Int) : Int).toNat ≤ 35184372088832 then (spec_l2Induced.l0 k l1 (List.replicate ((l0_0.length : Int) : Int).toNat 0) 0 l0_0 l0_1 (([] : List (List Int))) (([] : List (S54)))) else (none)) else (none)
def spec_l2Induced.T1 : Bool × List (List Nat × List Nat) := (true, [([], []), ([], []), ([0, 1], [0, 1]), ([], []), ([3], [3]), ([4], [4]), ([5, 5], [5]), ([], []), ([7, 2, 0, 1, 2, 7], [2, 7]), ([6, 8, 0, 1, 2, 3, 4, 5, 6, 7, 8], [6])])
def spec_l2Induced.B1 : List Nat := [0, 0, 3, 0, 8, 24, 56, 0, 135, 511]
theorem spec_l2Induced.tab1 : rtab .any (opsOf Try.f18 1) = spec_l2Induced.T1 := by kernel_rfl
theorem spec_l2Induced.bits1 : waitsOk spec_l2Induced.T1.2 spec_l2Induced.B1 = true := by kernel_rfl
def spec_l2Induced.T10 : Bool × List (List Nat × List Nat) := (true, [([], []), ([0], [0]), ([], []), ([2], [2]), ([], []), ([], []), ([4, 5], [4, 5]), ([6], [6]), ([3, 7], [3, 7]), ([8], [8]), ([9], [9]), ([10], [10]), ([1, 11, 10], [1, 11]), ([0, 1, 2, 3, 4, 5, 6, 7, 8, 9, 10, 11, 12], []), ([13, 12, 12, 0, 1, 2, 3, 4, 5, 6, 7, 8, 9, 10, 11, 12], [12, 13])])
def spec_l2Induced.B10 : List Nat := [0, 1, 0, 4, 0, 0, 48, 112, 252, 508, 1020, 2044, 4095, 8191, 16383]
theorem spec_l2Induced.tab10 : rtab .any (opsOf Try.f18 10) = spec_l2Induced.T10 := by kernel_rfl
theorem spec_l2Induced.bits10 : waitsOk spec_l2Induced.T10.2 spec_l2Induced.B10 = true := by kernel_rfl
def spec_l2Induced.T14 : Bool × List (List Nat × List Nat) := (true, [([], []), ([], []), ([1], [1]), ([], []), ([2, 3], [2, 3]), ([4], [4]), ([5], [5]), ([0, 6], [0, 6]), ([7], [7]), ([], []), ([], []), ([10], [10]), ([], []), ([11, 12], [11, 12]), ([13], [13]), ([14], [14]), ([9, 15], [9, 15]), ([16], [16]), ([8, 0, 1, 2, 3, 4, 5, 6, 7, 8], [8]), ([17, 18, 0, 1, 2, 3, 4, 5, 6, 7, 8, 9, 10, 11, 12, 13, 14, 15, 16, 17, 18], [17])])
def spec_l2Induced.B14 : List Nat := [0, 0, 2, 0, 14, 30, 62, 127, 255, 0, 0, 1024, 0, 7168, 15360, 31744, 65024, 130560, 511, 524287]
theorem spec_l2Induced.tab14 : rtab .any (opsOf Try.f18 14) = spec_l2Induced.T14 := by kernel_rfl
theorem spec_l2Induced.bits14 : waitsOk spec_l2Induced.T14.2 spec_l2Induced.B14 = true := by kernel_rfl
set_option maxHeartbeats 8000000 in
set_option maxRecDepth 100000 in
theorem spec_l2Induced.calls (k : Nat) (A0_0 : Option Addr) (c0_0 : Nat) (l0_0 : List (List Int)) (A0_1 : Option Addr) (c0_1 : Nat) (l0_1 : List (S54)) (A1 : Option Addr) (c1 : Nat) (l1 : List Int) (r1 : List (List Int)) (r2 : List (S54)) (w : World) (hr0_0 : Kd.C (Kd.slice 3 (Kd.int .i64)) w A0_0 l0_0.length l0_0) (hc0_0 : l0_0.length ≤ c0_0) (hr0_1 : Kd.C k54 w A0_1 l0_1.length l0_1) (hc0_1 : l0_1.length ≤ c0_1) (hr1 : Kd.C (Kd.int .i64) w A1 l1.length l1) (hc1 : l1.length ≤ c1) (h : spec_l2Induced.f k l0_0 l0_1 l1 = some (r1, r2)) :
 Calls Try.prog 18 #[.agg #[.slice A0_0 l0_0.length c0_0, .slice A0_1 l0_1.length c0_1], .slice A1 l1.length c1] w fun e w' => ∃ v0_ v1_ : Value, e = .returned (.agg #[v0_, v1_]) ∧ Kd.S (Kd.slice 3 (Kd.int .i64)) 27 w' w.heap.size (fun _ => True) v0_ r1 ∧ Kd.R k54 54 w' w.heap.size (fun _ => True) v1_ r2 ∧ Below w.heap.size w w' := by
 have hu30 := Try.underlying30
 have hu54 := Try.underlying54
 have HR0_0 := Aside0.mk hr0_0
 have HC0_0 := Aside0.mk hc0_0
 clear hr0_0 hc0_0
 have HR0_1 := Aside0.mk hr0_1
 have HC0_1 := Aside0.mk hc0_1
 clear hr0_1 hc0_1
 have HR1 := Aside0.mk hr1
 have HC1 := Aside0.mk hc1
 clear hr1 hc1
 have HB := zM (Below.refl w.heap.size w)
 have H : (if 0 ≤ (l0_0.length : Int) then (if ((l0_0.length : Int) : Int).toNat ≤ 35184372088832 then (spec_l2Induced.l0 k l1 (List.replicate ((l0_0.length : Int) : Int).toNat 0) 0 l0_0 l0_1 (([] : List (List Int))) (([] : List (S54)))) else (none)) else (none)) = some (r1, r2) := h
 clear h
 obtain ⟨y265, hy265⟩ : ∃ y_ : List (List Int), y_ = (([] : List (List Int))) := ⟨_, rfl⟩
 replace H : (if 0 ≤ (l0_0.length : Int) then (if ((l0_0.length : Int) : Int).toNat ≤ 35184372088832 then (spec_l2Induced.l0 k l1 (List.replicate ((l0_0.length : Int) : Int).toNat 0) 0 l0_0 l0_1 y265 (([] : List (S54)))) else (none)) else (none)) = some (r1, r2) := by first | (rw [hy265]; with_reducible exact H) | (have H2_ := (Option.bind_some _ _).symm.trans H; rw [hy265]; with_reducible exact H2_) | (have H2_ := (Option.bind_some _ _).symm.trans H; with_reducible exact H2_) | with_reducible exact H | (rw [hy265]; exact H) | exact H
 have Ny265 := Aside0.mk hy265
 clear hy265
 obtain ⟨y268, hy268⟩ : ∃ y_ : List (S54), y_ = (([] : List (S54))) := ⟨_, rfl⟩
 replace H : (if 0 ≤ (l0_0.length : Int) then (if ((l0_0.length : Int) : Int).toNat ≤ 35184372088832 then (spec_l2Induced.l0 k l1 (List.replicate ((l0_0.length : Int) : Int).toNat 0) 0 l0_0 l0_1 y265 y268) else (none)) else (none)) = some (r1, r2) := by first | (rw [hy268]; with_reducible exact H) | (have H2_ := (Option.bind_some _ _).symm.trans H; rw [hy268]; with_reducible exact H2_) | (have H2_ := (Option.bind_some _ _).symm.trans H; with_reducible exact H2_) | with_reducible exact H | (rw [hy268]; exact H) | exact H
 have Ny268 := Aside0.mk hy268
 clear hy268
 by_cases c3 : 0 ≤ (l0_0.length : Int)
 · rw [if_pos c3] at H
   have c3b0 := eq_true c3
   have c3b1 : decide (0 ≤ (l0_0.length : Int)) = true := decide_eq_true c3
   clear c3
   by_cases c4 : ((l0_0.length : Int) : Int).toNat ≤ 35184372088832
   · rw [if_pos c4] at H
     have c4b0 := eq_true c4
     have c4b1 : decide (((l0_0.length : Int) : Int).toNat ≤ 35184372088832) = true := decide_eq_true c4
     clear c4
     obtain ⟨y271, hy271⟩ : ∃ y_ : List Int, y_ = (List.replicate ((l0_0.length : Int) : Int).toNat 0) := ⟨_, rfl⟩
     replace H : (spec_l2Induced.l0 k l1 y271 0 l0_0 l0_1 y265 y268) = some (r1, r2) := by first | (rw [hy271]; with_reducible exact H) | (have H2_ := (Option.bind_some _ _).symm.trans H; rw [hy271]; with_reducible exact H2_) | (have H2_ := (Option.bind_some _ _).symm.trans H; with_reducible exact H2_) | with_reducible exact H | (rw [hy271]; exact H) | exact H
     have Ny271 := Aside0.mk hy271
     clear hy271
     have H' := Aside0.mk H
     clear H
     go_enter Try.func18, Try.ntmps18
     try go_wp2_with (first | ((with_reducible refine gate_dst (N := 2) rfl ?_); refine zb (w := w) 2 #[.slice A0_0 l0_0.length c0_0, .slice A0_1 l0_1.length c0_1] 30 zB ?_; clear HB; intro gb263 w5 HB BK263 GW263; have GE263 := GW263) | ((with_reducible refine gate_dst (N := 4) rfl ?_); refine ze 4 #[.slice none 0 0, .slice none 0 0] 30 ?_; intro gb264 hg w6 hbox hb; have BK264 := zM (hbox); have GW264 := zM ((by rw [hg]; exact (below_size zB) : w.heap.size ≤ gb264)); have GE264 := zM ((by rw [hg]; exact (below_size zB) : w.heap.size ≤ gb264)); replace HB := zM (below_step zB hb); have NB263_264 := zM ((by rw [hg]; exact Nat.ne_of_lt (blk_lt (g := gb263) (o := .cells #[.slice A0_0 l0_0.length c0_0, .slice A0_1 l0_1.length c0_1] 30 (0, 0)) (zK BK263.out)) : gb263 ≠ gb264)); have NB264_263 := zM ((by rw [hg]; exact Nat.ne_of_gt (blk_lt (g := gb263) (o := .cells #[.slice A0_0 l0_0.length c0_0, .slice A0_1 l0_1.length c0_1] 30 (0, 0)) (zK BK263.out)) : gb264 ≠ gb263)); replace BK263 := zM (blk_below (g := gb263) (o := .cells #[.slice A0_0 l0_0.length c0_0, .slice A0_1 l0_1.length c0_1] 30 (0, 0)) (zK BK263.out) hb); clear hb hbox hg))
     replace BK263 := zM (blk_drew BK263.out)
     replace BK264 := zM (blk_drew BK264.out)
     replace HB := zM (below_drew1 HB.out)
     refine zs (n := 10) (fun w' => w'.cell? ⟨gb263, 0, none⟩ = some (.slice A0_0 l0_0.length c0_0) ∧ w'.cell? ⟨gb263, 1, none⟩ = some (.slice A0_1 l0_1.length c0_1)) ⟨(blk_cell BK263.out 0).trans rfl, (blk_cell BK263.out 1).trans rfl⟩ (fun hHeld => ?_); refine with_tabW spec_l2Induced.tab1 spec_l2Induced.bits1 (fun HT_ HW_ => ?_)
     generalize w6.drew = w7 at BK263 BK264 HB hHeld ⊢
     refine zp HT_ 3 15 ?_
     refine zt HT_ HW_ 4 16 hHeld ?_ (hy := by rintro w' ⟨s0, s1⟩; go_simp; with_reducible rfl)
     refine zp HT_ 5 17 ?_
     refine join_ (σ := Value × Value × Value × Nat) 1 #[true, true, true, true, true, true, true, true, true, false] (fun s_ => [(12, s_.1), (13, s_.2.1), (18, s_.2.2.1), (5, .pointer (some ⟨s_.2.2.2, 0, none⟩)), (14, .agg #[s_.1, s_.2.1])]) (fun s_ w' => (w'.cell? ⟨gb263, 0, none⟩ = some (.slice A0_0 l0_0.length c0_0) ∧ w'.cell? ⟨gb263, 1, none⟩ = some (.slice A0_1 l0_1.length c0_1)) ∧ (Kd.S (Kd.slice 3 (Kd.int .i64)) 27 w' w.heap.size (fun k_ => some k_ ≠ (s_.2.2.1 : Value).ownBlock) s_.1 y265) ∧ (Kd.R k54 54 w' w.heap.size (fun _ => True) s_.2.1 y268) ∧ (Kd.R (Kd.int .i64) 3 w' w.heap.size (fun _ => True) s_.2.2.1 y271) ∧ (w'.heap[gb263]? = some (.cells #[.slice A0_0 l0_0.length c0_0, .slice A0_1 l0_1.length c0_1] 30 (0, 0))) ∧ (w'.heap[gb264]? = some (.cells #[.slice none 0 0, .slice none 0 0] 30 (0, 0))) ∧ (w'.heap[s_.2.2.2]? = some (.cells #[s_.1, s_.2.1] 30 (0, 0))) ∧ (w.heap.size ≤ s_.2.2.2) ∧ (w.heap.size ≤ s_.2.2.2) ∧ (gb263 ≠ s_.2.2.2) ∧ (s_.2.2.2 ≠ gb263) ∧ (gb264 ≠ s_.2.2.2) ∧ (s_.2.2.2 ≠ gb264) ∧ (Below w.heap.size w w')) ?_ ?_
     rotate_left
     · intro hJ0_1_6_7_8
       refine join_ (σ := Value × Value × Value × Nat) 2 #[true, true, true, true, true, true, true, true, false, false] (fun s_ => [(12, s_.1), (13, s_.2.1), (18, s_.2.2.1), (5, .pointer (some ⟨s_.2.2.2, 0, none⟩)), (14, .agg #[s_.1, s_.2.1])]) (fun s_ w' => (w'.cell? ⟨gb263, 0, none⟩ = some (.slice A0_0 l0_0.length c0_0) ∧ w'.cell? ⟨gb263, 1, none⟩ = some (.slice A0_1 l0_1.length c0_1)) ∧ (Kd.S (Kd.slice 3 (Kd.int .i64)) 27 w' w.heap.size (fun k_ => some k_ ≠ (s_.2.2.1 : Value).ownBlock) s_.1 y265) ∧ (Kd.R k54 54 w' w.heap.size (fun _ => True) s_.2.1 y268) ∧ (Kd.R (Kd.int .i64) 3 w' w.heap.size (fun _ => True) s_.2.2.1 y271) ∧ (w'.heap[gb263]? = some (.cells #[.slice A0_0 l0_0.length c0_0, .slice A0_1 l0_1.length c0_1] 30 (0, 0))) ∧ (w'.heap[gb264]? = some (.cells #[.slice none 0 0, .slice none 0 0] 30 (0, 0))) ∧ (w'.heap[s_.2.2.2]? = some (.cells #[.slice none 0 0, .slice none 0 0] 30 (0, 0))) ∧ (w.heap.size ≤ s_.2.2.2) ∧ (w.heap.size ≤ s_.2.2.2) ∧ (gb263 ≠ s_.2.2.2) ∧ (s_.2.2.2 ≠ gb263) ∧ (gb264 ≠ s_.2.2.2) ∧ (s_.2.2.2 ≠ gb264) ∧ (Below w.heap.size w w')) ?_ ?_
       rotate_left
       · intro hJ0_1_6_7
         refine join_ (σ := Value × Value × Nat) 2 #[true, true, true, true, true, true, false, true, true, false] (fun s_ => [(12, s_.1), (13, s_.2.1), (5, .pointer (some ⟨s_.2.2, 0, none⟩)), (14, .agg #[s_.1, s_.2.1])]) (fun s_ w' => (w'.cell? ⟨gb263, 0, none⟩ = some (.slice A0_0 l0_0.length c0_0) ∧ w'.cell? ⟨gb263, 1, none⟩ = some (.slice A0_1 l0_1.length c0_1)) ∧ (Kd.S (Kd.slice 3 (Kd.int .i64)) 27 w' w.heap.size (fun _ => True) s_.1 y265) ∧ (Kd.R k54 54 w' w.heap.size (fun _ => True) s_.2.1 y268) ∧ (w'.heap[gb263]? = some (.cells #[.slice A0_0 l0_0.length c0_0, .slice A0_1 l0_1.length c0_1] 30 (0, 0))) ∧ (w'.heap[gb264]? = some (.cells #[.slice none 0 0, .slice none 0 0] 30 (0, 0))) ∧ (w'.heap[s_.2.2]? = some (.cells #[s_.1, s_.2.1] 30 (0, 0))) ∧ (w.heap.size ≤ s_.2.2) ∧ (w.heap.size ≤ s_.2.2) ∧ (gb263 ≠ s_.2.2) ∧ (s_.2.2 ≠ gb263) ∧ (gb264 ≠ s_.2.2) ∧ (s_.2.2 ≠ gb264) ∧ (Below w.heap.size w w')) ?_ ?_
         rotate_left
         · intro hJ0_1_7_8
           refine join_ (σ := Value × Value × Value) 3 #[true, true, true, true, true, true, true, false, false, false] (fun s_ => [(12, s_.1), (13, s_.2.1), (18, s_.2.2), (14, .agg #[s_.1, s_.2.1])]) (fun s_ w' => (w'.cell? ⟨gb263, 0, none⟩ = some (.slice A0_0 l0_0.length c0_0) ∧ w'.cell? ⟨gb263, 1, none⟩ = some (.slice A0_1 l0_1.length c0_1)) ∧ (Kd.S (Kd.slice 3 (Kd.int .i64)) 27 w' w.heap.size (fun k_ => some k_ ≠ (s_.2.2 : Value).ownBlock) s_.1 y265) ∧ (Kd.R k54 54 w' w.heap.size (fun _ => True) s_.2.1 y268) ∧ (Kd.R (Kd.int .i64) 3 w' w.heap.size (fun _ => True) s_.2.2 y271) ∧ (w'.heap[gb263]? = some (.cells #[.slice A0_0 l0_0.length c0_0, .slice A0_1 l0_1.length c0_1] 30 (0, 0))) ∧ (w'.heap[gb264]? = some (.cells #[.slice none 0 0, .slice none 0 0] 30 (0, 0))) ∧ (Below w.heap.size w w')) ?_ ?_
           rotate_left
           · intro hJ0_1_6
             refine join_ (σ := Value × Value × Nat) 3 #[true, true, true, true, true, true, false, true, false, false] (fun s_ => [(12, s_.1), (13, s_.2.1), (5, .pointer (some ⟨s_.2.2, 0, none⟩)), (14, .agg #[s_.1, s_.2.1])]) (fun s_ w' => (w'.cell? ⟨gb263, 0, none⟩ = some (.slice A0_0 l0_0.length c0_0) ∧ w'.cell? ⟨gb263, 1, none⟩ = some (.slice A0_1 l0_1.length c0_1)) ∧ (Kd.S (Kd.slice 3 (Kd.int .i64)) 27 w' w.heap.size (fun _ => True) s_.1 y265) ∧ (Kd.R k54 54 w' w.heap.size (fun _ => True) s_.2.1 y268) ∧ (w'.heap[gb263]? = some (.cells #[.slice A0_0 l0_0.length c0_0, .slice A0_1 l0_1.length c0_1] 30 (0, 0))) ∧ (w'.heap[gb264]? = some (.cells #[.slice none 0 0, .slice none 0 0] 30 (0, 0))) ∧ (w'.heap[s_.2.2]? = some (.cells #[.slice none 0 0, .slice none 0 0] 30 (0, 0))) ∧ (w.heap.size ≤ s_.2.2) ∧ (w.heap.size ≤ s_.2.2) ∧ (gb263 ≠ s_.2.2) ∧ (s_.2.2 ≠ gb263) ∧ (gb264 ≠ s_.2.2) ∧ (s_.2.2 ≠ gb264) ∧ (Below w.heap.size w w')) ?_ ?_
             rotate_left
             · intro hJ0_1_7
               refine join_ (σ := Value × Value × Nat) 4 #[true, false, false, true, true, true, true, true, false, false] (fun s_ => [(12, s_.1), (18, s_.2.1), (5, .pointer (some ⟨s_.2.2, 0, none⟩))]) (fun s_ w' => (w'.cell? ⟨gb263, 0, none⟩ = some (.slice A0_0 l0_0.length c0_0) ∧ w'.cell? ⟨gb263, 1, none⟩ = some (.slice A0_1 l0_1.length c0_1)) ∧ (Kd.S (Kd.slice 3 (Kd.int .i64)) 27 w' w.heap.size (fun k_ => some k_ ≠ (s_.2.1 : Value).ownBlock) s_.1 y265) ∧ (Kd.R (Kd.int .i64) 3 w' w.heap.size (fun _ => True) s_.2.1 y271) ∧ (w'.heap[gb263]? = some (.cells #[.slice A0_0 l0_0.length c0_0, .slice A0_1 l0_1.length c0_1] 30 (0, 0))) ∧ (w'.heap[gb264]? = some (.cells #[.slice none 0 0, .slice none 0 0] 30 (0, 0))) ∧ (w'.heap[s_.2.2]? = some (.cells #[.slice none 0 0, .slice none 0 0] 30 (0, 0))) ∧ (w.heap.size ≤ s_.2.2) ∧ (w.heap.size ≤ s_.2.2) ∧ (gb263 ≠ s_.2.2) ∧ (s_.2.2 ≠ gb263) ∧ (gb264 ≠ s_.2.2) ∧ (s_.2.2 ≠ gb264) ∧ (Below w.heap.size w w')) ?_ ?_
               rotate_left
               · intro hJ0_6_7
                 refine join_ (σ := Value × Value × Nat) 4 #[false, true, false, true, true, true, true, true, false, false] (fun s_ => [(13, s_.1), (18, s_.2.1), (5, .pointer (some ⟨s_.2.2, 0, none⟩))]) (fun s_ w' => (w'.cell? ⟨gb263, 0, none⟩ = some (.slice A0_0 l0_0.length c0_0) ∧ w'.cell? ⟨gb263, 1, none⟩ = some (.slice A0_1 l0_1.length c0_1)) ∧ (Kd.R k54 54 w' w.heap.size (fun _ => True) s_.1 y268) ∧ (Kd.R (Kd.int .i64) 3 w' w.heap.size (fun _ => True) s_.2.1 y271) ∧ (w'.heap[gb263]? = some (.cells #[.slice A0_0 l0_0.length c0_0, .slice A0_1 l0_1.length c0_1] 30 (0, 0))) ∧ (w'.heap[gb264]? = some (.cells #[.slice none 0 0, .slice none 0 0] 30 (0, 0))) ∧ (w'.heap[s_.2.2]? = some (.cells #[.slice none 0 0, .slice none 0 0] 30 (0, 0))) ∧ (w.heap.size ≤ s_.2.2) ∧ (w.heap.size ≤ s_.2.2) ∧ (gb263 ≠ s_.2.2) ∧ (s_.2.2 ≠ gb263) ∧ (gb264 ≠ s_.2.2) ∧ (s_.2.2 ≠ gb264) ∧ (Below w.heap.size w w')) ?_ ?_
                 rotate_left
                 · intro hJ1_6_7
                   refine join_ (σ := Value × Value) 4 #[true, true, true, true, true, true, false, false, false, false] (fun s_ => [(12, s_.1), (13, s_.2), (14, .agg #[s_.1, s_.2])]) (fun s_ w' => (w'.cell? ⟨gb263, 0, none⟩ = some (.slice A0_0 l0_0.length c0_0) ∧ w'.cell? ⟨gb263, 1, none⟩ = some (.slice A0_1 l0_1.length c0_1)) ∧ (Kd.S (Kd.slice 3 (Kd.int .i64)) 27 w' w.heap.size (fun _ => True) s_.1 y265) ∧ (Kd.R k54 54 w' w.heap.size (fun _ => True) s_.2 y268) ∧ (w'.heap[gb263]? = some (.cells #[.slice A0_0 l0_0.length c0_0, .slice A0_1 l0_1.length c0_1] 30 (0, 0))) ∧ (w'.heap[gb264]? = some (.cells #[.slice none 0 0, .slice none 0 0] 30 (0, 0))) ∧ (Below w.heap.size w w')) ?_ ?_
                   rotate_left
                   · intro hJ0_1
                     refine join_ (σ := Value × Value) 5 #[true, false, false, true, true, true, true, false, false, false] (fun s_ => [(12, s_.1), (18, s_.2)]) (fun s_ w' => (w'.cell? ⟨gb263, 0, none⟩ = some (.slice A0_0 l0_0.length c0_0) ∧ w'.cell? ⟨gb263, 1, none⟩ = some (.slice A0_1 l0_1.length c0_1)) ∧ (Kd.S (Kd.slice 3 (Kd.int .i64)) 27 w' w.heap.size (fun k_ => some k_ ≠ (s_.2 : Value).ownBlock) s_.1 y265) ∧ (Kd.R (Kd.int .i64) 3 w' w.heap.size (fun _ => True) s_.2 y271) ∧ (w'.heap[gb263]? = some (.cells #[.slice A0_0 l0_0.length c0_0, .slice A0_1 l0_1.length c0_1] 30 (0, 0))) ∧ (w'.heap[gb264]? = some (.cells #[.slice none 0 0, .slice none 0 0] 30 (0, 0))) ∧ (Below w.heap.size w w')) ?_ ?_
                     rotate_left
                     · intro hJ0_6
                       refine join_ (σ := Value × Nat) 5 #[true, false, false, true, true, true, false, true, false, false] (fun s_ => [(12, s_.1), (5, .pointer (some ⟨s_.2, 0, none⟩))]) (fun s_ w' => (w'.cell? ⟨gb263, 0, none⟩ = some (.slice A0_0 l0_0.length c0_0) ∧ w'.cell? ⟨gb263, 1, none⟩ = some (.slice A0_1 l0_1.length c0_1)) ∧ (Kd.S (Kd.slice 3 (Kd.int .i64)) 27 w' w.heap.size (fun _ => True) s_.1 y265) ∧ (w'.heap[gb263]? = some (.cells #[.slice A0_0 l0_0.length c0_0, .slice A0_1 l0_1.length c0_1] 30 (0, 0))) ∧ (w'.heap[gb264]? = some (.cells #[.slice none 0 0, .slice none 0 0] 30 (0, 0))) ∧ (w'.heap[s_.2]? = some (.cells #[.slice none 0 0, .slice none 0 0] 30 (0, 0))) ∧ (w.heap.size ≤ s_.2) ∧ (w.heap.size ≤ s_.2) ∧ (gb263 ≠ s_.2) ∧ (s_.2 ≠ gb263) ∧ (gb264 ≠ s_.2) ∧ (s_.2 ≠ gb264) ∧ (Below w.heap.size w w')) ?_ ?_
                       rotate_left
                       · intro hJ0_7
                         refine join_ (σ := Value × Value) 5 #[false, true, false, true, true, true, true, false, false, false] (fun s_ => [(13, s_.1), (18, s_.2)]) (fun s_ w' => (w'.cell? ⟨gb263, 0, none⟩ = some (.slice A0_0 l0_0.length c0_0) ∧ w'.cell? ⟨gb263, 1, none⟩ = some (.slice A0_1 l0_1.length c0_1)) ∧ (Kd.R k54 54 w' w.heap.size (fun _ => True) s_.1 y268) ∧ (Kd.R (Kd.int .i64) 3 w' w.heap.size (fun _ => True) s_.2 y271) ∧ (w'.heap[gb263]? = some (.cells #[.slice A0_0 l0_0.length c0_0, .slice A0_1 l0_1.length c0_1] 30 (0, 0))) ∧ (w'.heap[gb264]? = some (.cells #[.slice none 0 0, .slice none 0 0] 30 (0, 0))) ∧ (Below w.heap.size w w')) ?_ ?_
                         rotate_left
                         · intro hJ1_6
                           refine join_ (σ := Value × Nat) 5 #[false, true, false, true, true, true, false, true, false, false] (fun s_ => [(13, s_.1), (5, .pointer (some ⟨s_.2, 0, none⟩))]) (fun s_ w' => (w'.cell? ⟨gb263, 0, none⟩ = some (.slice A0_0 l0_0.length c0_0) ∧ w'.cell? ⟨gb263, 1, none⟩ = some (.slice A0_1 l0_1.length c0_1)) ∧ (Kd.R k54 54 w' w.heap.size (fun _ => True) s_.1 y268) ∧ (w'.heap[gb263]? = some (.cells #[.slice A0_0 l0_0.length c0_0, .slice A0_1 l0_1.length c0_1] 30 (0, 0))) ∧ (w'.heap[gb264]? = some (.cells #[.slice none 0 0, .slice none 0 0] 30 (0, 0))) ∧ (w'.heap[s_.2]? = some (.cells #[.slice none 0 0, .slice none 0 0] 30 (0, 0))) ∧ (w.heap.size ≤ s_.2) ∧ (w.heap.size ≤ s_.2) ∧ (gb263 ≠ s_.2) ∧ (s_.2 ≠ gb263) ∧ (gb264 ≠ s_.2) ∧ (s_.2 ≠ gb264) ∧ (Below w.heap.size w w')) ?_ ?_
                           rotate_left
                           · intro hJ1_7
                             refine join_ (σ := Value × Nat) 5 #[false, false, false, true, true, true, true, true, false, false] (fun s_ => [(18, s_.1), (5, .pointer (some ⟨s_.2, 0, none⟩))]) (fun s_ w' => (w'.cell? ⟨gb263, 0, none⟩ = some (.slice A0_0 l0_0.length c0_0) ∧ w'.cell? ⟨gb263, 1, none⟩ = some (.slice A0_1 l0_1.length c0_1)) ∧ (Kd.R (Kd.int .i64) 3 w' w.heap.size (fun _ => True) s_.1 y271) ∧ (w'.heap[gb263]? = some (.cells #[.slice A0_0 l0_0.length c0_0, .slice A0_1 l0_1.length c0_1] 30 (0, 0))) ∧ (w'.heap[gb264]? = some (.cells #[.slice none 0 0, .slice none 0 0] 30 (0, 0))) ∧ (w'.heap[s_.2]? = some (.cells #[.slice none 0 0, .slice none 0 0] 30 (0, 0))) ∧ (w.heap.size ≤ s_.2) ∧ (w.heap.size ≤ s_.2) ∧ (gb263 ≠ s_.2) ∧ (s_.2 ≠ gb263) ∧ (gb264 ≠ s_.2) ∧ (s_.2 ≠ gb264) ∧ (Below w.heap.size w w')) ?_ ?_
                             rotate_left
                             · intro hJ6_7
                               refine join_ (σ := Value) 6 #[true, false, false, true, true, true, false, false, false, false] (fun s_ => [(12, s_)]) (fun s_ w' => (w'.cell? ⟨gb263, 0, none⟩ = some (.slice A0_0 l0_0.length c0_0) ∧ w'.cell? ⟨gb263, 1, none⟩ = some (.slice A0_1 l0_1.length c0_1)) ∧ (Kd.S (Kd.slice 3 (Kd.int .i64)) 27 w' w.heap.size (fun _ => True) s_ y265) ∧ (w'.heap[gb263]? = some (.cells #[.slice A0_0 l0_0.length c0_0, .slice A0_1 l0_1.length c0_1] 30 (0, 0))) ∧ (w'.heap[gb264]? = some (.cells #[.slice none 0 0, .slice none 0 0] 30 (0, 0))) ∧ (Below w.heap.size w w')) ?_ ?_
                               rotate_left
                               · intro hJ0
                                 refine join_ (σ := Value) 6 #[false, true, false, true, true, true, false, false, false, false] (fun s_ => [(13, s_)]) (fun s_ w' => (w'.cell? ⟨gb263, 0, none⟩ = some (.slice A0_0 l0_0.length c0_0) ∧ w'.cell? ⟨gb263, 1, none⟩ = some (.slice A0_1 l0_1.length c0_1)) ∧ (Kd.R k54 54 w' w.heap.size (fun _ => True) s_ y268) ∧ (w'.heap[gb263]? = some (.cells #[.slice A0_0 l0_0.length c0_0, .slice A0_1 l0_1.length c0_1] 30 (0, 0))) ∧ (w'.heap[gb264]? = some (.cells #[.slice none 0 0, .slice none 0 0] 30 (0, 0))) ∧ (Below w.heap.size w w')) ?_ ?_
                                 rotate_left
                                 · intro hJ1
                                   refine join_ (σ := Value) 6 #[false, false, false, true, true, true, true, false, false, false] (fun s_ => [(18, s_)]) (fun s_ w' => (w'.cell? ⟨gb263, 0, none⟩ = some (.slice A0_0 l0_0.length c0_0) ∧ w'.cell? ⟨gb263, 1, none⟩ = some (.slice A0_1 l0_1.length c0_1)) ∧ (Kd.R (Kd.int .i64) 3 w' w.heap.size (fun _ => True) s_ y271) ∧ (w'.heap[gb263]? = some (.cells #[.slice A0_0 l0_0.length c0_0, .slice A0_1 l0_1.length c0_1] 30 (0, 0))) ∧ (w'.heap[gb264]? = some (.cells #[.slice none 0 0, .slice none 0 0] 30 (0, 0))) ∧ (Below w.heap.size w w')) ?_ ?_
                                   rotate_left
                                   · intro hJ6
                                     refine join_ (σ := Nat) 6 #[false, false, false, true, true, true, false, true, false, false] (fun s_ => [(5, .pointer (some ⟨s_, 0, none⟩))]) (fun s_ w' => (w'.cell? ⟨gb263, 0, none⟩ = some (.slice A0_0 l0_0.length c0_0) ∧ w'.cell? ⟨gb263, 1, none⟩ = some (.slice A0_1 l0_1.length c0_1)) ∧ (w'.heap[gb263]? = some (.cells #[.slice A0_0 l0_0.length c0_0, .slice A0_1 l0_1.length c0_1] 30 (0, 0))) ∧ (w'.heap[gb264]? = some (.cells #[.slice none 0 0, .slice none 0 0] 30 (0, 0))) ∧ (w'.heap[s_]? = some (.cells #[.slice none 0 0, .slice none 0 0] 30 (0, 0))) ∧ (w.heap.size ≤ s_) ∧ (w.heap.size ≤ s_) ∧ (gb263 ≠ s_) ∧ (s_ ≠ gb263) ∧ (gb264 ≠ s_) ∧ (s_ ≠ gb264) ∧ (Below w.heap.size w w')) ?_ ?_
                                     rotate_left
                                     · intro hJ7
                                       refine four_ (i := 0) (j := 1) (k := 6) (m := 7) (Ni := some 12) (Nj := some 13) (Nk := some 18) (Nm := some 5) #[true, false, false, true, true, true, false, false, false, false] #[false, true, false, true, true, true, false, false, false, false] #[false, false, false, true, true, true, true, false, false, false] #[false, false, false, true, true, true, false, true, false, false] rfl rfl rfl rfl rfl rfl rfl rfl (four_of HT_.out (by kernel_rfl)) (by decide) (by decide) (by decide) (by decide) (fun K hK => ?_) (fun K hK => ?_) (fun K hK => ?_) (fun K hK => ?_)
                                       · skip
                                         refine Kd.S_lit_step (Kd.slice 3 (Kd.int .i64)) _ 27 ?hg (N := 12) ?hd (xs := ([] : List (List Int))) (inner := []) (ok := fun _ => True) (okp := fun _ => True) ?hr ?hp (fun _ hk => hk) trivial (Below.refl _ _) (Nat.le_refl _) (by simp) ?_; (case hd => rfl); (case hg => rfl); (case hr => first | (go_simp; done) | (go_simp; rfl)); (case hp => exact (Reps.none _ _))
                                         intro v266 w8 ho9 hb hg_ hnew_
                                         clear hg_ hnew_
                                         (first | rw [← Ny265.out] at ho9 | (simp only [Int.reduceToNat] at ho9; rw [← Ny265.out] at ho9))
                                         have HO267 := zM (Kd.S_lower ho9 (below_size zB))
                                         replace BK263 := zM (blk_below (g := gb263) (o := .cells #[.slice A0_0 l0_0.length c0_0, .slice A0_1 l0_1.length c0_1] 30 (0, 0)) (zK BK263.out) hb)
                                         replace BK264 := zM (blk_below (g := gb264) (o := .cells #[.slice none 0 0, .slice none 0 0] 30 (0, 0)) (zK BK264.out) hb)
                                         replace HB := zM (below_step zB hb)
                                         clear hb ho9
                                         refine hK.out _ _ ⟨(blk_cell BK263.out 0).trans rfl, (blk_cell BK263.out 1).trans rfl⟩ (fun hHeld => ?_)
                                         clear hK K
                                         refine zn 12 ?_
                                         exact norm_ (by first | (simp only [putAll, Act.put, List.setIfInBounds_toArray, List.set_cons_zero, List.set_cons_succ]; done) | (simp only [putAll, Act.put, List.setIfInBounds_toArray, List.set_cons_zero, List.set_cons_succ]; rfl)) (hJ0 (v266) _ ⟨hHeld, (by (with_reducible repeat (first | apply Kd.S_alloc | apply Kd.S_drewN | apply Kd.S_drew)); exact HO267.out), (zK BK263.out), (zK BK264.out), zB⟩)
                                       · skip
                                         refine Kd.R_lit_step k54 _ 54 ?hg (N := 13) ?hd (xs := ([] : List (S54))) (inner := []) (ok := fun _ => True) (okp := fun _ => True) ?hr ?hp (fun _ hk => hk) trivial (Below.refl _ _) (Nat.le_refl _) (by simp) ?_; (case hd => rfl); (case hg => rfl); (case hr => first | (go_simp; done) | (go_simp; rfl)); (case hp => exact (Reps.none _ _))
                                         intro v269 w8 ho9 hb hg_ hnew_
                                         clear hg_ hnew_
                                         (first | rw [← Ny268.out] at ho9 | (simp only [Int.reduceToNat] at ho9; rw [← Ny268.out] at ho9))
                                         have HO270 := zM (Kd.R_lower ho9 (below_size zB))
                                         replace BK263 := zM (blk_below (g := gb263) (o := .cells #[.slice A0_0 l0_0.length c0_0, .slice A0_1 l0_1.length c0_1] 30 (0, 0)) (zK BK263.out) hb)
                                         replace BK264 := zM (blk_below (g := gb264) (o := .cells #[.slice none 0 0, .slice none 0 0] 30 (0, 0)) (zK BK264.out) hb)
                                         replace HB := zM (below_step zB hb)
                                         clear hb ho9
                                         refine hK.out _ _ ⟨(blk_cell BK263.out 0).trans rfl, (blk_cell BK263.out 1).trans rfl⟩ (fun hHeld => ?_)
                                         clear hK K
                                         refine zn 13 ?_
                                         exact norm_ (by first | (simp only [putAll, Act.put, List.setIfInBounds_toArray, List.set_cons_zero, List.set_cons_succ]; done) | (simp only [putAll, Act.put, List.setIfInBounds_toArray, List.set_cons_zero, List.set_cons_succ]; rfl)) (hJ1 (v269) _ ⟨hHeld, (zR HO270.out), (zK BK263.out), (zK BK264.out), zB⟩)
                                       · skip
                                         refine Kd.R_make_step (Kd.int .i64) _ 3 (by rfl) (N := 18) rfl 27 _ _ rfl (l0_0.length : Int) rfl rfl Try.underlying27 (.int .i64 0) 8 info3 rfl (by decide) (by omega) 0 (ok := fun _ => True) (okp := fun _ => True) rfl (fun _ hk => hk) trivial (of_decide_eq_true zA) (Nat.le_trans (Nat.mul_le_mul_right _ (of_decide_eq_true zA : (l0_0.length : Int).toNat ≤ 35184372088832)) (by omega)) (Below.refl _ _) (Nat.le_refl _) ?_
                                         intro v272 w8 ho9 hb hg_ hnew_
                                         clear hg_ hnew_
                                         (first | rw [← Ny271.out] at ho9 | (simp only [Int.reduceToNat] at ho9; rw [← Ny271.out] at ho9))
                                         have HO273 := zM (Kd.R_lower ho9 (below_size zB))
                                         replace BK263 := zM (blk_below (g := gb263) (o := .cells #[.slice A0_0 l0_0.length c0_0, .slice A0_1 l0_1.length c0_1] 30 (0, 0)) (zK BK263.out) hb)
                                         replace BK264 := zM (blk_below (g := gb264) (o := .cells #[.slice none 0 0, .slice none 0 0] 30 (0, 0)) (zK BK264.out) hb)
                                         replace HB := zM (below_step zB hb)
                                         clear hb ho9
                                         refine hK.out _ _ ⟨(blk_cell BK263.out 0).trans rfl, (blk_cell BK263.out 1).trans rfl⟩ (fun hHeld => ?_)
                                         clear hK K
                                         refine zn 18 ?_
                                         exact norm_ (by first | (simp only [putAll, Act.put, List.setIfInBounds_toArray, List.set_cons_zero, List.set_cons_succ]; done) | (simp only [putAll, Act.put, List.setIfInBounds_toArray, List.set_cons_zero, List.set_cons_succ]; rfl)) (hJ6 (v272) _ ⟨hHeld, (zR HO273.out), (zK BK263.out), (zK BK264.out), zB⟩)
                                       · skip
                                         refine box_step ?hg (N := 5) ?hd (cs := #[.slice none 0 0, .slice none 0 0]) (t := 30) ?hr ?_; (case hd => rfl); (case hg => rfl); (case hr => first | (go_simp; done) | (go_simp; rfl))
                                         intro gb274 hg w8 hbox hb
                                         have BK274 := zM (hbox)
                                         have GW274 := zM ((by rw [hg]; exact (below_size zB) : w.heap.size ≤ gb274))
                                         have GE274 := zM ((by rw [hg]; exact (below_size zB) : w.heap.size ≤ gb274))
                                         replace HB := zM (below_step zB hb)
                                         have NB263_274 := zM ((by rw [hg]; exact Nat.ne_of_lt (blk_lt (g := gb263) (o := .cells #[.slice A0_0 l0_0.length c0_0, .slice A0_1 l0_1.length c0_1] 30 (0, 0)) (zK BK263.out)) : gb263 ≠ gb274))
                                         have NB274_263 := zM ((by rw [hg]; exact Nat.ne_of_gt (blk_lt (g := gb263) (o := .cells #[.slice A0_0 l0_0.length c0_0, .slice A0_1 l0_1.length c0_1] 30 (0, 0)) (zK BK263.out)) : gb274 ≠ gb263))
                                         replace BK263 := zM (blk_below (g := gb263) (o := .cells #[.slice A0_0 l0_0.length c0_0, .slice A0_1 l0_1.length c0_1] 30 (0, 0)) (zK BK263.out) hb)
                                         have NB264_274 := zM ((by rw [hg]; exact Nat.ne_of_lt (blk_lt (g := gb264) (o := .cells #[.slice none 0 0, .slice none 0 0] 30 (0, 0)) (zK BK264.out)) : gb264 ≠ gb274))
                                         have NB274_264 := zM ((by rw [hg]; exact Nat.ne_of_gt (blk_lt (g := gb264) (o := .cells #[.slice none 0 0, .slice none 0 0] 30 (0, 0)) (zK BK264.out)) : gb274 ≠ gb264))
                                         replace BK264 := zM (blk_below (g := gb264) (o := .cells #[.slice none 0 0, .slice none 0 0] 30 (0, 0)) (zK BK264.out) hb)
                                         clear hb hbox hg
                                         refine hK.out _ _ ⟨(blk_cell BK263.out 0).trans rfl, (blk_cell BK263.out 1).trans rfl⟩ (fun hHeld => ?_)
                                         clear hK K
                                         refine zn 5 ?_
                                         exact norm_ (by first | (simp only [putAll, Act.put, List.setIfInBounds_toArray, List.set_cons_zero, List.set_cons_succ]; done) | (simp only [putAll, Act.put, List.setIfInBounds_toArray, List.set_cons_zero, List.set_cons_succ]; rfl)) (hJ7 (gb274) _ ⟨hHeld, (zK BK263.out), (zK BK264.out), (zK BK274.out), GW274.out, GE274.out, NB263_274.out, NB274_263.out, NB264_274.out, NB274_264.out, zB⟩)
                                     · skip
                                       rintro gb274 w9 ⟨hS_, h0_, h1_, h2_, h3_, h4_, h5_, h6_, h7_, h8_, h9_⟩
                                       have n0_ : Aside0 (w9.heap[gb263]? = some (.cells #[.slice A0_0 l0_0.length c0_0, .slice A0_1 l0_1.length c0_1] 30 (0, 0))) := ⟨h0_⟩
                                       have n1_ : Aside0 (w9.heap[gb264]? = some (.cells #[.slice none 0 0, .slice none 0 0] 30 (0, 0))) := ⟨h1_⟩
                                       have n2_ : Aside0 (w9.heap[gb274]? = some (.cells #[.slice none 0 0, .slice none 0 0] 30 (0, 0))) := ⟨h2_⟩
                                       have n3_ : Aside0 (w.heap.size ≤ gb274) := ⟨h3_⟩
                                       have n4_ : Aside0 (w.heap.size ≤ gb274) := ⟨h4_⟩
                                       have n5_ : Aside0 (gb263 ≠ gb274) := ⟨h5_⟩
                                       have n6_ : Aside0 (gb274 ≠ gb263) := ⟨h6_⟩
                                       have n7_ : Aside0 (gb264 ≠ gb274) := ⟨h7_⟩
                                       have n8_ : Aside0 (gb274 ≠ gb264) := ⟨h8_⟩
                                       have n9_ : Aside0 (Below w.heap.size w w9) := ⟨h9_⟩
                                       clear BK263
                                       clear BK264
                                       clear HB
                                       clear h0_ h1_ h2_ h3_ h4_ h5_ h6_ h7_ h8_ h9_
                                       have BK263 := n0_
                                       have BK264 := n1_
                                       have BK274 := n2_
                                       have GW274 := n3_
                                       have GE274 := n4_
                                       have NB263_274 := n5_
                                       have NB274_263 := n6_
                                       have NB264_274 := n7_
                                       have NB274_264 := n8_
                                       have HB := n9_
                                       clear n0_ n1_ n2_ n3_ n4_ n5_ n6_ n7_ n8_ n9_
                                       have hHeld : w9.cell? ⟨gb263, 0, none⟩ = some (.slice A0_0 l0_0.length c0_0) ∧ w9.cell? ⟨gb263, 1, none⟩ = some (.slice A0_1 l0_1.length c0_1) := hS_
                                       refine norm_ (a' := ?_) ?_ ?_
                                       rotate_left
                                       · simp only [putAll, Act.put, List.setIfInBounds_toArray, List.set_cons_zero, List.set_cons_succ]
                                         rfl
                                       refine three_ (i := 0) (j := 1) (k := 6) (Ni := some 12) (Nj := some 13) (Nk := some 18) #[true, false, false, true, true, true, false, true, false, false] #[false, true, false, true, true, true, false, true, false, false] #[false, false, false, true, true, true, true, true, false, false] rfl rfl rfl rfl rfl rfl (three_of HT_.out (by kernel_rfl)) (by decide) (by decide) (by decide) (fun K hK => ?_) (fun K hK => ?_) (fun K hK => ?_)
                                       · skip
                                         refine Kd.S_lit_step (Kd.slice 3 (Kd.int .i64)) _ 27 ?hg (N := 12) ?hd (xs := ([] : List (List Int))) (inner := []) (ok := fun _ => True) (okp := fun _ => True) ?hr ?hp (fun _ hk => hk) trivial (Below.refl _ _) (Nat.le_refl _) (by simp) ?_; (case hd => rfl); (case hg => rfl); (case hr => first | (go_simp; done) | (go_simp; rfl)); (case hp => exact (Reps.none _ _))
                                         intro v266 w10 ho11 hb hg_ hnew_
                                         clear hg_ hnew_
                                         (first | rw [← Ny265.out] at ho11 | (simp only [Int.reduceToNat] at ho11; rw [← Ny265.out] at ho11))
                                         have HO267 := zM (Kd.S_lower ho11 (below_size zB))
                                         replace BK263 := zM (blk_below (g := gb263) (o := .cells #[.slice A0_0 l0_0.length c0_0, .slice A0_1 l0_1.length c0_1] 30 (0, 0)) (zK BK263.out) hb)
                                         replace BK264 := zM (blk_below (g := gb264) (o := .cells #[.slice none 0 0, .slice none 0 0] 30 (0, 0)) (zK BK264.out) hb)
                                         replace BK274 := zM (blk_below (g := gb274) (o := .cells #[.slice none 0 0, .slice none 0 0] 30 (0, 0)) (zK BK274.out) hb)
                                         replace HB := zM (below_step zB hb)
                                         clear hb ho11
                                         refine hK.out _ _ ⟨(blk_cell BK263.out 0).trans rfl, (blk_cell BK263.out 1).trans rfl⟩ (fun hHeld => ?_)
                                         clear hK K
                                         refine zn 12 ?_
                                         exact norm_ (by first | (simp only [putAll, Act.put, List.setIfInBounds_toArray, List.set_cons_zero, List.set_cons_succ]; done) | (simp only [putAll, Act.put, List.setIfInBounds_toArray, List.set_cons_zero, List.set_cons_succ]; rfl)) (hJ0_7 (v266, gb274) _ ⟨hHeld, (by (with_reducible repeat (first | apply Kd.S_alloc | apply Kd.S_drewN | apply Kd.S_drew)); exact HO267.out), (zK BK263.out), (zK BK264.out), (zK BK274.out), GW274.out, GE274.out, NB263_274.out, NB274_263.out, NB264_274.out, NB274_264.out, zB⟩)
                                       · skip
                                         refine Kd.R_lit_step k54 _ 54 ?hg (N := 13) ?hd (xs := ([] : List (S54))) (inner := []) (ok := fun _ => True) (okp := fun _ => True) ?hr ?hp (fun _ hk => hk) trivial (Below.refl _ _) (Nat.le_refl _) (by simp) ?_; (case hd => rfl); (case hg => rfl); (case hr => first | (go_simp; done) | (go_simp; rfl)); (case hp => exact (Reps.none _ _))
                                         intro v269 w10 ho11 hb hg_ hnew_
                                         clear hg_ hnew_
                                         (first | rw [← Ny268.out] at ho11 | (simp only [Int.reduceToNat] at ho11; rw [← Ny268.out] at ho11))
                                         have HO270 := zM (Kd.R_lower ho11 (below_size zB))
                                         replace BK263 := zM (blk_below (g := gb263) (o := .cells #[.slice A0_0 l0_0.length c0_0, .slice A0_1 l0_1.length c0_1] 30 (0, 0)) (zK BK263.out) hb)
                                         replace BK264 := zM (blk_below (g := gb264) (o := .cells #[.slice none 0 0, .slice none 0 0] 30 (0, 0)) (zK BK264.out) hb)
                                         replace BK274 := zM (blk_below (g := gb274) (o := .cells #[.slice none 0 0, .slice none 0 0] 30 (0, 0)) (zK BK274.out) hb)
                                         replace HB := zM (below_step zB hb)
                                         clear hb ho11
                                         refine hK.out _ _ ⟨(blk_cell BK263.out 0).trans rfl, (blk_cell BK263.out 1).trans rfl⟩ (fun hHeld => ?_)
                                         clear hK K
                                         refine zn 13 ?_
                                         exact norm_ (by first | (simp only [putAll, Act.put, List.setIfInBounds_toArray, List.set_cons_zero, List.set_cons_succ]; done) | (simp only [putAll, Act.put, List.setIfInBounds_toArray, List.set_cons_zero, List.set_cons_succ]; rfl)) (hJ1_7 (v269, gb274) _ ⟨hHeld, (zR HO270.out), (zK BK263.out), (zK BK264.out), (zK BK274.out), GW274.out, GE274.out, NB263_274.out, NB274_263.out, NB264_274.out, NB274_264.out, zB⟩)
                                       · skip
                                         refine Kd.R_make_step (Kd.int .i64) _ 3 (by rfl) (N := 18) rfl 27 _ _ rfl (l0_0.length : Int) rfl rfl Try.underlying27 (.int .i64 0) 8 info3 rfl (by decide) (by omega) 0 (ok := fun _ => True) (okp := fun _ => True) rfl (fun _ hk => hk) trivial (of_decide_eq_true zA) (Nat.le_trans (Nat.mul_le_mul_right _ (of_decide_eq_true zA : (l0_0.length : Int).toNat ≤ 35184372088832)) (by omega)) (Below.refl _ _) (Nat.le_refl _) ?_
                                         intro v272 w10 ho11 hb hg_ hnew_
                                         clear hg_ hnew_
                                         (first | rw [← Ny271.out] at ho11 | (simp only [Int.reduceToNat] at ho11; rw [← Ny271.out] at ho11))
                                         have HO273 := zM (Kd.R_lower ho11 (below_size zB))
                                         replace BK263 := zM (blk_below (g := gb263) (o := .cells #[.slice A0_0 l0_0.length c0_0, .slice A0_1 l0_1.length c0_1] 30 (0, 0)) (zK BK263.out) hb)
                                         replace BK264 := zM (blk_below (g := gb264) (o := .cells #[.slice none 0 0, .slice none 0 0] 30 (0, 0)) (zK BK264.out) hb)
                                         replace BK274 := zM (blk_below (g := gb274) (o := .cells #[.slice none 0 0, .slice none 0 0] 30 (0, 0)) (zK BK274.out) hb)
                                         replace HB := zM (below_step zB hb)
                                         clear hb ho11
                                         refine hK.out _ _ ⟨(blk_cell BK263.out 0).trans rfl, (blk_cell BK263.out 1).trans rfl⟩ (fun hHeld => ?_)
                                         clear hK K
                                         refine zn 18 ?_
                                         exact norm_ (by first | (simp only [putAll, Act.put, List.setIfInBounds_toArray, List.set_cons_zero, List.set_cons_succ]; done) | (simp only [putAll, Act.put, List.setIfInBounds_toArray, List.set_cons_zero, List.set_cons_succ]; rfl)) (hJ6_7 (v272, gb274) _ ⟨hHeld, (zR HO273.out), (zK BK263.out), (zK BK264.out), (zK BK274.out), GW274.out, GE274.out, NB263_274.out, NB274_263.out, NB264_274.out, NB274_264.out, zB⟩)
                                   · skip
                                     rintro v272 w10 ⟨hS_, h0_, h1_, h2_, h3_⟩
                                     have n0_ : Aside0 (Kd.R (Kd.int .i64) 3 w10 w.heap.size (fun _ => True) v272 y271) := ⟨h0_⟩
                                     have n1_ : Aside0 (w10.heap[gb263]? = some (.cells #[.slice A0_0 l0_0.length c0_0, .slice A0_1 l0_1.length c0_1] 30 (0, 0))) := ⟨h1_⟩
                                     have n2_ : Aside0 (w10.heap[gb264]? = some (.cells #[.slice none 0 0, .slice none 0 0] 30 (0, 0))) := ⟨h2_⟩
                                     have n3_ : Aside0 (Below w.heap.size w w10) := ⟨h3_⟩
                                     clear BK263
                                     clear BK264
                                     clear HB
                                     clear h0_ h1_ h2_ h3_
                                     have HO273 := n0_
                                     have BK263 := n1_
                                     have BK264 := n2_
                                     have HB := n3_
                                     clear n0_ n1_ n2_ n3_
                                     have hHeld : w10.cell? ⟨gb263, 0, none⟩ = some (.slice A0_0 l0_0.length c0_0) ∧ w10.cell? ⟨gb263, 1, none⟩ = some (.slice A0_1 l0_1.length c0_1) := hS_
                                     refine norm_ (a' := ?_) ?_ ?_
                                     rotate_left
                                     · simp only [putAll, Act.put, List.setIfInBounds_toArray, List.set_cons_zero, List.set_cons_succ]
                                       rfl
                                     refine three_ (i := 0) (j := 1) (k := 7) (Ni := some 12) (Nj := some 13) (Nk := some 5) #[true, false, false, true, true, true, true, false, false, false] #[false, true, false, true, true, true, true, false, false, false] #[false, false, false, true, true, true, true, true, false, false] rfl rfl rfl rfl rfl rfl (three_of HT_.out (by kernel_rfl)) (by decide) (by decide) (by decide) (fun K hK => ?_) (fun K hK => ?_) (fun K hK => ?_)
                                     · skip
                                       refine Kd.S_lit_step (Kd.slice 3 (Kd.int .i64)) _ 27 ?hg (N := 12) ?hd (xs := ([] : List (List Int))) (inner := []) (ok := fun _ => True) (okp := fun _ => True) ?hr ?hp (fun _ hk => hk) trivial (Below.refl _ _) (Nat.le_refl _) (by simp) ?_; (case hd => rfl); (case hg => rfl); (case hr => first | (go_simp; done) | (go_simp; rfl)); (case hp => exact (Reps.none _ _))
                                       intro v266 w11 ho12 hb hg_ hnew_
                                       clear hg_ hnew_
                                       (first | rw [← Ny265.out] at ho12 | (simp only [Int.reduceToNat] at ho12; rw [← Ny265.out] at ho12))
                                       have HO267 := zM (Kd.S_lower (Kd.S_new' ho12 (Kd.R_lt (zR HO273.out))) (below_size zB))
                                       replace HO273 := zM (Kd.R_below (zR HO273.out) hb)
                                       replace BK263 := zM (blk_below (g := gb263) (o := .cells #[.slice A0_0 l0_0.length c0_0, .slice A0_1 l0_1.length c0_1] 30 (0, 0)) (zK BK263.out) hb)
                                       replace BK264 := zM (blk_below (g := gb264) (o := .cells #[.slice none 0 0, .slice none 0 0] 30 (0, 0)) (zK BK264.out) hb)
                                       replace HB := zM (below_step zB hb)
                                       clear hb ho12
                                       refine hK.out _ _ ⟨(blk_cell BK263.out 0).trans rfl, (blk_cell BK263.out 1).trans rfl⟩ (fun hHeld => ?_)
                                       clear hK K
                                       refine zn 12 ?_
                                       exact norm_ (by first | (simp only [putAll, Act.put, List.setIfInBounds_toArray, List.set_cons_zero, List.set_cons_succ]; done) | (simp only [putAll, Act.put, List.setIfInBounds_toArray, List.set_cons_zero, List.set_cons_succ]; rfl)) (hJ0_6 (v266, v272) _ ⟨hHeld, (by (with_reducible repeat (first | apply Kd.S_alloc | apply Kd.S_drewN | apply Kd.S_drew)); exact Kd.S_mono HO267.out (fun _ hk => hk.2)), (zR HO273.out), (zK BK263.out), (zK BK264.out), zB⟩)
                                     · skip
                                       refine Kd.R_lit_step k54 _ 54 ?hg (N := 13) ?hd (xs := ([] : List (S54))) (inner := []) (ok := fun _ => True) (okp := fun _ => True) ?hr ?hp (fun _ hk => hk) trivial (Below.refl _ _) (Nat.le_refl _) (by simp) ?_; (case hd => rfl); (case hg => rfl); (case hr => first | (go_simp; done) | (go_simp; rfl)); (case hp => exact (Reps.none _ _))
                                       intro v269 w11 ho12 hb hg_ hnew_
                                       clear hg_ hnew_
                                       (first | rw [← Ny268.out] at ho12 | (simp only [Int.reduceToNat] at ho12; rw [← Ny268.out] at ho12))
                                       replace HO273 := zM (Kd.R_below (zR HO273.out) hb)
                                       have HO270 := zM (Kd.R_lower ho12 (below_size zB))
                                       replace BK263 := zM (blk_below (g := gb263) (o := .cells #[.slice A0_0 l0_0.length c0_0, .slice A0_1 l0_1.length c0_1] 30 (0, 0)) (zK BK263.out) hb)
                                       replace BK264 := zM (blk_below (g := gb264) (o := .cells #[.slice none 0 0, .slice none 0 0] 30 (0, 0)) (zK BK264.out) hb)
                                       replace HB := zM (below_step zB hb)
                                       clear hb ho12
                                       refine hK.out _ _ ⟨(blk_cell BK263.out 0).trans rfl, (blk_cell BK263.out 1).trans rfl⟩ (fun hHeld => ?_)
                                       clear hK K
                                       refine zn 13 ?_
                                       exact norm_ (by first | (simp only [putAll, Act.put, List.setIfInBounds_toArray, List.set_cons_zero, List.set_cons_succ]; done) | (simp only [putAll, Act.put, List.setIfInBounds_toArray, List.set_cons_zero, List.set_cons_succ]; rfl)) (hJ1_6 (v269, v272) _ ⟨hHeld, (zR HO270.out), (zR HO273.out), (zK BK263.out), (zK BK264.out), zB⟩)
                                     · skip
                                       refine box_step ?hg (N := 5) ?hd (cs := #[.slice none 0 0, .slice none 0 0]) (t := 30) ?hr ?_; (case hd => rfl); (case hg => rfl); (case hr => first | (go_simp; done) | (go_simp; rfl))
                                       intro gb274 hg w11 hbox hb
                                       replace HO273 := zM (Kd.R_below (zR HO273.out) hb)
                                       have BK274 := zM (hbox)
                                       have GW274 := zM ((by rw [hg]; exact (below_size zB) : w.heap.size ≤ gb274))
                                       have GE274 := zM ((by rw [hg]; exact (below_size zB) : w.heap.size ≤ gb274))
                                       replace HB := zM (below_step zB hb)
                                       have NB263_274 := zM ((by rw [hg]; exact Nat.ne_of_lt (blk_lt (g := gb263) (o := .cells #[.slice A0_0 l0_0.length c0_0, .slice A0_1 l0_1.length c0_1] 30 (0, 0)) (zK BK263.out)) : gb263 ≠ gb274))
                                       have NB274_263 := zM ((by rw [hg]; exact Nat.ne_of_gt (blk_lt (g := gb263) (o := .cells #[.slice A0_0 l0_0.length c0_0, .slice A0_1 l0_1.length c0_1] 30 (0, 0)) (zK BK263.out)) : gb274 ≠ gb263))
                                       replace BK263 := zM (blk_below (g := gb263) (o := .cells #[.slice A0_0 l0_0.length c0_0, .slice A0_1 l0_1.length c0_1] 30 (0, 0)) (zK BK263.out) hb)
                                       have NB264_274 := zM ((by rw [hg]; exact Nat.ne_of_lt (blk_lt (g := gb264) (o := .cells #[.slice none 0 0, .slice none 0 0] 30 (0, 0)) (zK BK264.out)) : gb264 ≠ gb274))
                                       have NB274_264 := zM ((by rw [hg]; exact Nat.ne_of_gt (blk_lt (g := gb264) (o := .cells #[.slice none 0 0, .slice none 0 0] 30 (0, 0)) (zK BK264.out)) : gb274 ≠ gb264))
                                       replace BK264 := zM (blk_below (g := gb264) (o := .cells #[.slice none 0 0, .slice none 0 0] 30 (0, 0)) (zK BK264.out) hb)
                                       clear hb hbox hg
                                       refine hK.out _ _ ⟨(blk_cell BK263.out 0).trans rfl, (blk_cell BK263.out 1).trans rfl⟩ (fun hHeld => ?_)
                                       clear hK K
                                       refine zn 5 ?_
                                       exact norm_ (by first | (simp only [putAll, Act.put, List.setIfInBounds_toArray, List.set_cons_zero, List.set_cons_succ]; done) | (simp only [putAll, Act.put, List.setIfInBounds_toArray, List.set_cons_zero, List.set_cons_succ]; rfl)) (hJ6_7 (v272, gb274) _ ⟨hHeld, (zR HO273.out), (zK BK263.out), (zK BK264.out), (zK BK274.out), GW274.out, GE274.out, NB263_274.out, NB274_263.out, NB264_274.out, NB274_264.out, zB⟩)
                                 · skip
                                   rintro v269 w10 ⟨hS_, h0_, h1_, h2_, h3_⟩
                                   have n0_ : Aside0 (Kd.R k54 54 w10 w.heap.size (fun _ => True) v269 y268) := ⟨h0_⟩
                                   have n1_ : Aside0 (w10.heap[gb263]? = some (.cells #[.slice A0_0 l0_0.length c0_0, .slice A0_1 l0_1.length c0_1] 30 (0, 0))) := ⟨h1_⟩
                                   have n2_ : Aside0 (w10.heap[gb264]? = some (.cells #[.slice none 0 0, .slice none 0 0] 30 (0, 0))) := ⟨h2_⟩
                                   have n3_ : Aside0 (Below w.heap.size w w10) := ⟨h3_⟩
                                   clear BK263
                                   clear BK264
                                   clear HB
                                   clear h0_ h1_ h2_ h3_
                                   have HO270 := n0_
                                   have BK263 := n1_
                                   have BK264 := n2_
                                   have HB := n3_
                                   clear n0_ n1_ n2_ n3_
                                   have hHeld : w10.cell? ⟨gb263, 0, none⟩ = some (.slice A0_0 l0_0.length c0_0) ∧ w10.cell? ⟨gb263, 1, none⟩ = some (.slice A0_1 l0_1.length c0_1) := hS_
                                   refine norm_ (a' := ?_) ?_ ?_
                                   rotate_left
                                   · simp only [putAll, Act.put, List.setIfInBounds_toArray, List.set_cons_zero, List.set_cons_succ]
                                     rfl
                                   refine three_ (i := 0) (j := 6) (k := 7) (Ni := some 12) (Nj := some 18) (Nk := some 5) #[true, true, false, true, true, true, false, false, false, false] #[false, true, false, true, true, true, true, false, false, false] #[false, true, false, true, true, true, false, true, false, false] rfl rfl rfl rfl rfl rfl (three_of HT_.out (by kernel_rfl)) (by decide) (by decide) (by decide) (fun K hK => ?_) (fun K hK => ?_) (fun K hK => ?_)
                                   · skip
                                     refine Kd.S_lit_step (Kd.slice 3 (Kd.int .i64)) _ 27 ?hg (N := 12) ?hd (xs := ([] : List (List Int))) (inner := []) (ok := fun _ => True) (okp := fun _ => True) ?hr ?hp (fun _ hk => hk) trivial (Below.refl _ _) (Nat.le_refl _) (by simp) ?_; (case hd => rfl); (case hg => rfl); (case hr => first | (go_simp; done) | (go_simp; rfl)); (case hp => exact (Reps.none _ _))
                                     intro v266 w11 ho12 hb hg_ hnew_
                                     clear hg_ hnew_
                                     (first | rw [← Ny265.out] at ho12 | (simp only [Int.reduceToNat] at ho12; rw [← Ny265.out] at ho12))
                                     replace HO270 := zM (Kd.R_below (zR HO270.out) hb)
                                     have HO267 := zM (Kd.S_lower ho12 (below_size zB))
                                     replace BK263 := zM (blk_below (g := gb263) (o := .cells #[.slice A0_0 l0_0.length c0_0, .slice A0_1 l0_1.length c0_1] 30 (0, 0)) (zK BK263.out) hb)
                                     replace BK264 := zM (blk_below (g := gb264) (o := .cells #[.slice none 0 0, .slice none 0 0] 30 (0, 0)) (zK BK264.out) hb)
                                     replace HB := zM (below_step zB hb)
                                     clear hb ho12
                                     obtain ⟨Ao13, co13, eo13⟩ := Kd.R_slice HO270.out
                                     (first | subst eo13 | (injection eo13 with f1_ f2_ f3_; have f4_ := f1_.symm; have f5_ := f3_.symm; clear f1_ f2_ f3_; subst f4_; subst f5_))
                                     obtain ⟨Ao14, co14, eo14⟩ := Kd.S_slice HO267.out
                                     (first | subst eo14 | (injection eo14 with f1_ f2_ f3_; have f4_ := f1_.symm; have f5_ := f3_.symm; clear f1_ f2_ f3_; subst f4_; subst f5_))
                                     refine hK.out _ _ ⟨(blk_cell BK263.out 0).trans rfl, (blk_cell BK263.out 1).trans rfl⟩ (fun hHeld => ?_)
                                     clear hK K
                                     refine zn 12 ?_
                                     refine zp HT_ 2 14 ?_
                                     exact norm_ (by first | (simp only [putAll, Act.put, List.setIfInBounds_toArray, List.set_cons_zero, List.set_cons_succ]; done) | (simp only [putAll, Act.put, List.setIfInBounds_toArray, List.set_cons_zero, List.set_cons_succ]; rfl)) (hJ0_1 (.slice Ao14 y265.length co14, .slice Ao13 y268.length co13) _ ⟨hHeld, (by (with_reducible repeat (first | apply Kd.S_alloc | apply Kd.S_drewN | apply Kd.S_drew)); exact HO267.out), (zR HO270.out), (zK BK263.out), (zK BK264.out), zB⟩)
                                   · skip
                                     refine Kd.R_make_step (Kd.int .i64) _ 3 (by rfl) (N := 18) rfl 27 _ _ rfl (l0_0.length : Int) rfl rfl Try.underlying27 (.int .i64 0) 8 info3 rfl (by decide) (by omega) 0 (ok := fun _ => True) (okp := fun _ => True) rfl (fun _ hk => hk) trivial (of_decide_eq_true zA) (Nat.le_trans (Nat.mul_le_mul_right _ (of_decide_eq_true zA : (l0_0.length : Int).toNat ≤ 35184372088832)) (by omega)) (Below.refl _ _) (Nat.le_refl _) ?_
                                     intro v272 w11 ho12 hb hg_ hnew_
                                     clear hg_ hnew_
                                     (first | rw [← Ny271.out] at ho12 | (simp only [Int.reduceToNat] at ho12; rw [← Ny271.out] at ho12))
                                     replace HO270 := zM (Kd.R_below (zR HO270.out) hb)
                                     have HO273 := zM (Kd.R_lower ho12 (below_size zB))
                                     replace BK263 := zM (blk_below (g := gb263) (o := .cells #[.slice A0_0 l0_0.length c0_0, .slice A0_1 l0_1.length c0_1] 30 (0, 0)) (zK BK263.out) hb)
                                     replace BK264 := zM (blk_below (g := gb264) (o := .cells #[.slice none 0 0, .slice none 0 0] 30 (0, 0)) (zK BK264.out) hb)
                                     replace HB := zM (below_step zB hb)
                                     clear hb ho12
                                     refine hK.out _ _ ⟨(blk_cell BK263.out 0).trans rfl, (blk_cell BK263.out 1).trans rfl⟩ (fun hHeld => ?_)
                                     clear hK K
                                     refine zn 18 ?_
                                     exact norm_ (by first | (simp only [putAll, Act.put, List.setIfInBounds_toArray, List.set_cons_zero, List.set_cons_succ]; done) | (simp only [putAll, Act.put, List.setIfInBounds_toArray, List.set_cons_zero, List.set_cons_succ]; rfl)) (hJ1_6 (v269, v272) _ ⟨hHeld, (zR HO270.out), (zR HO273.out), (zK BK263.out), (zK BK264.out), zB⟩)
                                   · skip
                                     refine box_step ?hg (N := 5) ?hd (cs := #[.slice none 0 0, .slice none 0 0]) (t := 30) ?hr ?_; (case hd => rfl); (case hg => rfl); (case hr => first | (go_simp; done) | (go_simp; rfl))
                                     intro gb274 hg w11 hbox hb
                                     replace HO270 := zM (Kd.R_below (zR HO270.out) hb)
                                     have BK274 := zM (hbox)
                                     have GW274 := zM ((by rw [hg]; exact (below_size zB) : w.heap.size ≤ gb274))
                                     have GE274 := zM ((by rw [hg]; exact (below_size zB) : w.heap.size ≤ gb274))
                                     replace HB := zM (below_step zB hb)
                                     have NB263_274 := zM ((by rw [hg]; exact Nat.ne_of_lt (blk_lt (g := gb263) (o := .cells #[.slice A0_0 l0_0.length c0_0, .slice A0_1 l0_1.length c0_1] 30 (0, 0)) (zK BK263.out)) : gb263 ≠ gb274))
                                     have NB274_263 := zM ((by rw [hg]; exact Nat.ne_of_gt (blk_lt (g := gb263) (o := .cells #[.slice A0_0 l0_0.length c0_0, .slice A0_1 l0_1.length c0_1] 30 (0, 0)) (zK BK263.out)) : gb274 ≠ gb263))
                                     replace BK263 := zM (blk_below (g := gb263) (o := .cells #[.slice A0_0 l0_0.length c0_0, .slice A0_1 l0_1.length c0_1] 30 (0, 0)) (zK BK263.out) hb)
                                     have NB264_274 := zM ((by rw [hg]; exact Nat.ne_of_lt (blk_lt (g := gb264) (o := .cells #[.slice none 0 0, .slice none 0 0] 30 (0, 0)) (zK BK264.out)) : gb264 ≠ gb274))
                                     have NB274_264 := zM ((by rw [hg]; exact Nat.ne_of_gt (blk_lt (g := gb264) (o := .cells #[.slice none 0 0, .slice none 0 0] 30 (0, 0)) (zK BK264.out)) : gb274 ≠ gb264))
                                     replace BK264 := zM (blk_below (g := gb264) (o := .cells #[.slice none 0 0, .slice none 0 0] 30 (0, 0)) (zK BK264.out) hb)
                                     clear hb hbox hg
                                     refine hK.out _ _ ⟨(blk_cell BK263.out 0).trans rfl, (blk_cell BK263.out 1).trans rfl⟩ (fun hHeld => ?_)
                                     clear hK K
                                     refine zn 5 ?_
                                     exact norm_ (by first | (simp only [putAll, Act.put, List.setIfInBounds_toArray, List.set_cons_zero, List.set_cons_succ]; done) | (simp only [putAll, Act.put, List.setIfInBounds_toArray, List.set_cons_zero, List.set_cons_succ]; rfl)) (hJ1_7 (v269, gb274) _ ⟨hHeld, (zR HO270.out), (zK BK263.out), (zK BK264.out), (zK BK274.out), GW274.out, GE274.out, NB263_274.out, NB274_263.out, NB264_274.out, NB274_264.out, zB⟩)
                               · skip
                                 rintro v266 w10 ⟨hS_, h0_, h1_, h2_, h3_⟩
                                 have n0_ : Aside0 (Kd.S (Kd.slice 3 (Kd.int .i64)) 27 w10 w.heap.size (fun _ => True) v266 y265) := ⟨h0_⟩
                                 have n1_ : Aside0 (w10.heap[gb263]? = some (.cells #[.slice A0_0 l0_0.length c0_0, .slice A0_1 l0_1.length c0_1] 30 (0, 0))) := ⟨h1_⟩
                                 have n2_ : Aside0 (w10.heap[gb264]? = some (.cells #[.slice none 0 0, .slice none 0 0] 30 (0, 0))) := ⟨h2_⟩
                                 have n3_ : Aside0 (Below w.heap.size w w10) := ⟨h3_⟩
                                 clear BK263
                                 clear BK264
                                 clear HB
                                 clear h0_ h1_ h2_ h3_
                                 have HO267 := n0_
                                 have BK263 := n1_
                                 have BK264 := n2_
                                 have HB := n3_
                                 clear n0_ n1_ n2_ n3_
                                 have hHeld : w10.cell? ⟨gb263, 0, none⟩ = some (.slice A0_0 l0_0.length c0_0) ∧ w10.cell? ⟨gb263, 1, none⟩ = some (.slice A0_1 l0_1.length c0_1) := hS_
                                 refine norm_ (a' := ?_) ?_ ?_
                                 rotate_left
                                 · simp only [putAll, Act.put, List.setIfInBounds_toArray, List.set_cons_zero, List.set_cons_succ]
                                   rfl
                                 refine three_ (i := 1) (j := 6) (k := 7) (Ni := some 13) (Nj := some 18) (Nk := some 5) #[true, true, false, true, true, true, false, false, false, false] #[true, false, false, true, true, true, true, false, false, false] #[true, false, false, true, true, true, false, true, false, false] rfl rfl rfl rfl rfl rfl (three_of HT_.out (by kernel_rfl)) (by decide) (by decide) (by decide) (fun K hK => ?_) (fun K hK => ?_) (fun K hK => ?_)
                                 · skip
                                   refine Kd.R_lit_step k54 _ 54 ?hg (N := 13) ?hd (xs := ([] : List (S54))) (inner := []) (ok := fun _ => True) (okp := fun _ => True) ?hr ?hp (fun _ hk => hk) trivial (Below.refl _ _) (Nat.le_refl _) (by simp) ?_; (case hd => rfl); (case hg => rfl); (case hr => first | (go_simp; done) | (go_simp; rfl)); (case hp => exact (Reps.none _ _))
                                   intro v269 w11 ho12 hb hg_ hnew_
                                   clear hg_ hnew_
                                   (first | rw [← Ny268.out] at ho12 | (simp only [Int.reduceToNat] at ho12; rw [← Ny268.out] at ho12))
                                   replace HO267 := zM (Kd.S_below (by (with_reducible repeat (first | apply Kd.S_alloc | apply Kd.S_drewN | apply Kd.S_drew)); exact HO267.out) hb)
                                   have HO270 := zM (Kd.R_lower ho12 (below_size zB))
                                   replace BK263 := zM (blk_below (g := gb263) (o := .cells #[.slice A0_0 l0_0.length c0_0, .slice A0_1 l0_1.length c0_1] 30 (0, 0)) (zK BK263.out) hb)
                                   replace BK264 := zM (blk_below (g := gb264) (o := .cells #[.slice none 0 0, .slice none 0 0] 30 (0, 0)) (zK BK264.out) hb)
                                   replace HB := zM (below_step zB hb)
                                   clear hb ho12
                                   obtain ⟨Ao13, co13, eo13⟩ := Kd.R_slice HO270.out
                                   (first | subst eo13 | (injection eo13 with f1_ f2_ f3_; have f4_ := f1_.symm; have f5_ := f3_.symm; clear f1_ f2_ f3_; subst f4_; subst f5_))
                                   obtain ⟨Ao14, co14, eo14⟩ := Kd.S_slice HO267.out
                                   (first | subst eo14 | (injection eo14 with f1_ f2_ f3_; have f4_ := f1_.symm; have f5_ := f3_.symm; clear f1_ f2_ f3_; subst f4_; subst f5_))
                                   refine hK.out _ _ ⟨(blk_cell BK263.out 0).trans rfl, (blk_cell BK263.out 1).trans rfl⟩ (fun hHeld => ?_)
                                   clear hK K
                                   refine zn 13 ?_
                                   refine zp HT_ 2 14 ?_
                                   exact norm_ (by first | (simp only [putAll, Act.put, List.setIfInBounds_toArray, List.set_cons_zero, List.set_cons_succ]; done) | (simp only [putAll, Act.put, List.setIfInBounds_toArray, List.set_cons_zero, List.set_cons_succ]; rfl)) (hJ0_1 (.slice Ao14 y265.length co14, .slice Ao13 y268.length co13) _ ⟨hHeld, (by (with_reducible repeat (first | apply Kd.S_alloc | apply Kd.S_drewN | apply Kd.S_drew)); exact HO267.out), (zR HO270.out), (zK BK263.out), (zK BK264.out), zB⟩)
                                 · skip
                                   refine Kd.R_make_step (Kd.int .i64) _ 3 (by rfl) (N := 18) rfl 27 _ _ rfl (l0_0.length : Int) rfl rfl Try.underlying27 (.int .i64 0) 8 info3 rfl (by decide) (by omega) 0 (ok := fun _ => True) (okp := fun _ => True) rfl (fun _ hk => hk) trivial (of_decide_eq_true zA) (Nat.le_trans (Nat.mul_le_mul_right _ (of_decide_eq_true zA : (l0_0.length : Int).toNat ≤ 35184372088832)) (by omega)) (Below.refl _ _) (Nat.le_refl _) ?_
                                   intro v272 w11 ho12 hb hg_ hnew_
                                   clear hg_ hnew_
                                   (first | rw [← Ny271.out] at ho12 | (simp only [Int.reduceToNat] at ho12; rw [← Ny271.out] at ho12))
                                   replace HO267 := zM (Kd.S_elder' (by (with_reducible repeat (first | apply Kd.S_alloc | apply Kd.S_drewN | apply Kd.S_drew)); exact HO267.out) (Kd.R_base ho12) hb)
                                   have HO273 := zM (Kd.R_lower ho12 (below_size zB))
                                   replace BK263 := zM (blk_below (g := gb263) (o := .cells #[.slice A0_0 l0_0.length c0_0, .slice A0_1 l0_1.length c0_1] 30 (0, 0)) (zK BK263.out) hb)
                                   replace BK264 := zM (blk_below (g := gb264) (o := .cells #[.slice none 0 0, .slice none 0 0] 30 (0, 0)) (zK BK264.out) hb)
                                   replace HB := zM (below_step zB hb)
                                   clear hb ho12
                                   refine hK.out _ _ ⟨(blk_cell BK263.out 0).trans rfl, (blk_cell BK263.out 1).trans rfl⟩ (fun hHeld => ?_)
                                   clear hK K
                                   refine zn 18 ?_
                                   exact norm_ (by first | (simp only [putAll, Act.put, List.setIfInBounds_toArray, List.set_cons_zero, List.set_cons_succ]; done) | (simp only [putAll, Act.put, List.setIfInBounds_toArray, List.set_cons_zero, List.set_cons_succ]; rfl)) (hJ0_6 (v266, v272) _ ⟨hHeld, (by (with_reducible repeat (first | apply Kd.S_alloc | apply Kd.S_drewN | apply Kd.S_drew)); exact Kd.S_mono HO267.out (fun _ hk => hk.2)), (zR HO273.out), (zK BK263.out), (zK BK264.out), zB⟩)
                                 · skip
                                   refine box_step ?hg (N := 5) ?hd (cs := #[.slice none 0 0, .slice none 0 0]) (t := 30) ?hr ?_; (case hd => rfl); (case hg => rfl); (case hr => first | (go_simp; done) | (go_simp; rfl))
                                   intro gb274 hg w11 hbox hb
                                   replace HO267 := zM (Kd.S_below (by (with_reducible repeat (first | apply Kd.S_alloc | apply Kd.S_drewN | apply Kd.S_drew)); exact HO267.out) hb)
                                   have BK274 := zM (hbox)
                                   have GW274 := zM ((by rw [hg]; exact (below_size zB) : w.heap.size ≤ gb274))
                                   have GE274 := zM ((by rw [hg]; exact (below_size zB) : w.heap.size ≤ gb274))
                                   replace HB := zM (below_step zB hb)
                                   have NB263_274 := zM ((by rw [hg]; exact Nat.ne_of_lt (blk_lt (g := gb263) (o := .cells #[.slice A0_0 l0_0.length c0_0, .slice A0_1 l0_1.length c0_1] 30 (0, 0)) (zK BK263.out)) : gb263 ≠ gb274))
                                   have NB274_263 := zM ((by rw [hg]; exact Nat.ne_of_gt (blk_lt (g := gb263) (o := .cells #[.slice A0_0 l0_0.length c0_0, .slice A0_1 l0_1.length c0_1] 30 (0, 0)) (zK BK263.out)) : gb274 ≠ gb263))
                                   replace BK263 := zM (blk_below (g := gb263) (o := .cells #[.slice A0_0 l0_0.length c0_0, .slice A0_1 l0_1.length c0_1] 30 (0, 0)) (zK BK263.out) hb)
                                   have NB264_274 := zM ((by rw [hg]; exact Nat.ne_of_lt (blk_lt (g := gb264) (o := .cells #[.slice none 0 0, .slice none 0 0] 30 (0, 0)) (zK BK264.out)) : gb264 ≠ gb274))
                                   have NB274_264 := zM ((by rw [hg]; exact Nat.ne_of_gt (blk_lt (g := gb264) (o := .cells #[.slice none 0 0, .slice none 0 0] 30 (0, 0)) (zK BK264.out)) : gb274 ≠ gb264))
                                   replace BK264 := zM (blk_below (g := gb264) (o := .cells #[.slice none 0 0, .slice none 0 0] 30 (0, 0)) (zK BK264.out) hb)
                                   clear hb hbox hg
                                   refine hK.out _ _ ⟨(blk_cell BK263.out 0).trans rfl, (blk_cell BK263.out 1).trans rfl⟩ (fun hHeld => ?_)
                                   clear hK K
                                   refine zn 5 ?_
                                   exact norm_ (by first | (simp only [putAll, Act.put, List.setIfInBounds_toArray, List.set_cons_zero, List.set_cons_succ]; done) | (simp only [putAll, Act.put, List.setIfInBounds_toArray, List.set_cons_zero, List.set_cons_succ]; rfl)) (hJ0_7 (v266, gb274) _ ⟨hHeld, (by (with_reducible repeat (first | apply Kd.S_alloc | apply Kd.S_drewN | apply Kd.S_drew)); exact HO267.out), (zK BK263.out), (zK BK264.out), (zK BK274.out), GW274.out, GE274.out, NB263_274.out, NB274_263.out, NB264_274.out, NB274_264.out, zB⟩)
                             · skip
                               rintro ⟨v272, gb274⟩ w11 ⟨hS_, h0_, h1_, h2_, h3_, h4_, h5_, h6_, h7_, h8_, h9_, h10_⟩
                               have n0_ : Aside0 (Kd.R (Kd.int .i64) 3 w11 w.heap.size (fun _ => True) v272 y271) := ⟨h0_⟩
                               have n1_ : Aside0 (w11.heap[gb263]? = some (.cells #[.slice A0_0 l0_0.length c0_0, .slice A0_1 l0_1.length c0_1] 30 (0, 0))) := ⟨h1_⟩
                               have n2_ : Aside0 (w11.heap[gb264]? = some (.cells #[.slice none 0 0, .slice none 0 0] 30 (0, 0))) := ⟨h2_⟩
                               have n3_ : Aside0 (w11.heap[gb274]? = some (.cells #[.slice none 0 0, .slice none 0 0] 30 (0, 0))) := ⟨h3_⟩
                               have n4_ : Aside0 (w.heap.size ≤ gb274) := ⟨h4_⟩
                               have n5_ : Aside0 (w.heap.size ≤ gb274) := ⟨h5_⟩
                               have n6_ : Aside0 (gb263 ≠ gb274) := ⟨h6_⟩
                               have n7_ : Aside0 (gb274 ≠ gb263) := ⟨h7_⟩
                               have n8_ : Aside0 (gb264 ≠ gb274) := ⟨h8_⟩
                               have n9_ : Aside0 (gb274 ≠ gb264) := ⟨h9_⟩
                               have n10_ : Aside0 (Below w.heap.size w w11) := ⟨h10_⟩
                               clear BK263
                               clear BK264
                               clear HB
                               clear h0_ h1_ h2_ h3_ h4_ h5_ h6_ h7_ h8_ h9_ h10_
                               have HO273 := n0_
                               have BK263 := n1_
                               have BK264 := n2_
                               have BK274 := n3_
                               have GW274 := n4_
                               have GE274 := n5_
                               have NB263_274 := n6_
                               have NB274_263 := n7_
                               have NB264_274 := n8_
                               have NB274_264 := n9_
                               have HB := n10_
                               clear n0_ n1_ n2_ n3_ n4_ n5_ n6_ n7_ n8_ n9_ n10_
                               have hHeld : w11.cell? ⟨gb263, 0, none⟩ = some (.slice A0_0 l0_0.length c0_0) ∧ w11.cell? ⟨gb263, 1, none⟩ = some (.slice A0_1 l0_1.length c0_1) := hS_
                               refine norm_ (a' := ?_) ?_ ?_
                               rotate_left
                               · simp only [putAll, Act.put, List.setIfInBounds_toArray, List.set_cons_zero, List.set_cons_succ]
                                 rfl
                               refine two_ (i := 0) (j := 1) (Ni := some 12) (Nj := some 13) #[true, false, false, true, true, true, true, true, false, false] #[false, true, false, true, true, true, true, true, false, false] rfl rfl rfl rfl (two_of HT_.out (by kernel_rfl)) (by decide) (by decide) (fun K hK => ?_) (fun K hK => ?_)
                               · skip
                                 refine Kd.S_lit_step (Kd.slice 3 (Kd.int .i64)) _ 27 ?hg (N := 12) ?hd (xs := ([] : List (List Int))) (inner := []) (ok := fun _ => True) (okp := fun _ => True) ?hr ?hp (fun _ hk => hk) trivial (Below.refl _ _) (Nat.le_refl _) (by simp) ?_; (case hd => rfl); (case hg => rfl); (case hr => first | (go_simp; done) | (go_simp; rfl)); (case hp => exact (Reps.none _ _))
                                 intro v266 w12 ho13 hb hg_ hnew_
                                 clear hg_ hnew_
                                 (first | rw [← Ny265.out] at ho13 | (simp only [Int.reduceToNat] at ho13; rw [← Ny265.out] at ho13))
                                 have HO267 := zM (Kd.S_lower (Kd.S_new' ho13 (Kd.R_lt (zR HO273.out))) (below_size zB))
                                 replace HO273 := zM (Kd.R_below (zR HO273.out) hb)
                                 replace BK263 := zM (blk_below (g := gb263) (o := .cells #[.slice A0_0 l0_0.length c0_0, .slice A0_1 l0_1.length c0_1] 30 (0, 0)) (zK BK263.out) hb)
                                 replace BK264 := zM (blk_below (g := gb264) (o := .cells #[.slice none 0 0, .slice none 0 0] 30 (0, 0)) (zK BK264.out) hb)
                                 replace BK274 := zM (blk_below (g := gb274) (o := .cells #[.slice none 0 0, .slice none 0 0] 30 (0, 0)) (zK BK274.out) hb)
                                 replace HB := zM (below_step zB hb)
                                 clear hb ho13
                                 refine hK.out _ _ ⟨(blk_cell BK263.out 0).trans rfl, (blk_cell BK263.out 1).trans rfl⟩ (fun hHeld => ?_)
                                 clear hK K
                                 refine zn 12 ?_
                                 exact norm_ (by first | (simp only [putAll, Act.put, List.setIfInBounds_toArray, List.set_cons_zero, List.set_cons_succ]; done) | (simp only [putAll, Act.put, List.setIfInBounds_toArray, List.set_cons_zero, List.set_cons_succ]; rfl)) (hJ0_6_7 (v266, v272, gb274) _ ⟨hHeld, (by (with_reducible repeat (first | apply Kd.S_alloc | apply Kd.S_drewN | apply Kd.S_drew)); exact Kd.S_mono HO267.out (fun _ hk => hk.2)), (zR HO273.out), (zK BK263.out), (zK BK264.out), (zK BK274.out), GW274.out, GE274.out, NB263_274.out, NB274_263.out, NB264_274.out, NB274_264.out, zB⟩)
                               · skip
                                 refine Kd.R_lit_step k54 _ 54 ?hg (N := 13) ?hd (xs := ([] : List (S54))) (inner := []) (ok := fun _ => True) (okp := fun _ => True) ?hr ?hp (fun _ hk => hk) trivial (Below.refl _ _) (Nat.le_refl _) (by simp) ?_; (case hd => rfl); (case hg => rfl); (case hr => first | (go_simp; done) | (go_simp; rfl)); (case hp => exact (Reps.none _ _))
                                 intro v269 w12 ho13 hb hg_ hnew_
                                 clear hg_ hnew_
                                 (first | rw [← Ny268.out] at ho13 | (simp only [Int.reduceToNat] at ho13; rw [← Ny268.out] at ho13))
                                 replace HO273 := zM (Kd.R_below (zR HO273.out) hb)
                                 have HO270 := zM (Kd.R_lower ho13 (below_size zB))
                                 replace BK263 := zM (blk_below (g := gb263) (o := .cells #[.slice A0_0 l0_0.length c0_0, .slice A0_1 l0_1.length c0_1] 30 (0, 0)) (zK BK263.out) hb)
                                 replace BK264 := zM (blk_below (g := gb264) (o := .cells #[.slice none 0 0, .slice none 0 0] 30 (0, 0)) (zK BK264.out) hb)
                                 replace BK274 := zM (blk_below (g := gb274) (o := .cells #[.slice none 0 0, .slice none 0 0] 30 (0, 0)) (zK BK274.out) hb)
                                 replace HB := zM (below_step zB hb)
                                 clear hb ho13
                                 refine hK.out _ _ ⟨(blk_cell BK263.out 0).trans rfl, (blk_cell BK263.out 1).trans rfl⟩ (fun hHeld => ?_)
                                 clear hK K
                                 refine zn 13 ?_
                                 exact norm_ (by first | (simp only [putAll, Act.put, List.setIfInBounds_toArray, List.set_cons_zero, List.set_cons_succ]; done) | (simp only [putAll, Act.put, List.setIfInBounds_toArray, List.set_cons_zero, List.set_cons_succ]; rfl)) (hJ1_6_7 (v269, v272, gb274) _ ⟨hHeld, (zR HO270.out), (zR HO273.out), (zK BK263.out), (zK BK264.out), (zK BK274.out), GW274.out, GE274.out, NB263_274.out, NB274_263.out, NB264_274.out, NB274_264.out, zB⟩)
                           · skip
                             rintro ⟨v269, gb274⟩ w11 ⟨hS_, h0_, h1_, h2_, h3_, h4_, h5_, h6_, h7_, h8_, h9_, h10_⟩
                             have n0_ : Aside0 (Kd.R k54 54 w11 w.heap.size (fun _ => True) v269 y268) := ⟨h0_⟩
                             have n1_ : Aside0 (w11.heap[gb263]? = some (.cells #[.slice A0_0 l0_0.length c0_0, .slice A0_1 l0_1.length c0_1] 30 (0, 0))) := ⟨h1_⟩
                             have n2_ : Aside0 (w11.heap[gb264]? = some (.cells #[.slice none 0 0, .slice none 0 0] 30 (0, 0))) := ⟨h2_⟩
                             have n3_ : Aside0 (w11.heap[gb274]? = some (.cells #[.slice none 0 0, .slice none 0 0] 30 (0, 0))) := ⟨h3_⟩
                             have n4_ : Aside0 (w.heap.size ≤ gb274) := ⟨h4_⟩
                             have n5_ : Aside0 (w.heap.size ≤ gb274) := ⟨h5_⟩
                             have n6_ : Aside0 (gb263 ≠ gb274) := ⟨h6_⟩
                             have n7_ : Aside0 (gb274 ≠ gb263) := ⟨h7_⟩
                             have n8_ : Aside0 (gb264 ≠ gb274) := ⟨h8_⟩
                             have n9_ : Aside0 (gb274 ≠ gb264) := ⟨h9_⟩
                             have n10_ : Aside0 (Below w.heap.size w w11) := ⟨h10_⟩
                             clear BK263
                             clear BK264
                             clear HB
                             clear h0_ h1_ h2_ h3_ h4_ h5_ h6_ h7_ h8_ h9_ h10_
                             have HO270 := n0_
                             have BK263 := n1_
                             have BK264 := n2_
                             have BK274 := n3_
                             have GW274 := n4_
                             have GE274 := n5_
                             have NB263_274 := n6_
                             have NB274_263 := n7_
                             have NB264_274 := n8_
                             have NB274_264 := n9_
                             have HB := n10_
                             clear n0_ n1_ n2_ n3_ n4_ n5_ n6_ n7_ n8_ n9_ n10_
                             have hHeld : w11.cell? ⟨gb263, 0, none⟩ = some (.slice A0_0 l0_0.length c0_0) ∧ w11.cell? ⟨gb263, 1, none⟩ = some (.slice A0_1 l0_1.length c0_1) := hS_
                             refine norm_ (a' := ?_) ?_ ?_
                             rotate_left
                             · simp only [putAll, Act.put, List.setIfInBounds_toArray, List.set_cons_zero, List.set_cons_succ]
                               rfl
                             refine two_ (i := 0) (j := 6) (Ni := some 12) (Nj := some 18) #[true, true, false, true, true, true, false, true, false, false] #[false, true, false, true, true, true, true, true, false, false] rfl rfl rfl rfl (two_of HT_.out (by kernel_rfl)) (by decide) (by decide) (fun K hK => ?_) (fun K hK => ?_)
                             · skip
                               refine Kd.S_lit_step (Kd.slice 3 (Kd.int .i64)) _ 27 ?hg (N := 12) ?hd (xs := ([] : List (List Int))) (inner := []) (ok := fun _ => True) (okp := fun _ => True) ?hr ?hp (fun _ hk => hk) trivial (Below.refl _ _) (Nat.le_refl _) (by simp) ?_; (case hd => rfl); (case hg => rfl); (case hr => first | (go_simp; done) | (go_simp; rfl)); (case hp => exact (Reps.none _ _))
                               intro v266 w12 ho13 hb hg_ hnew_
                               clear hg_ hnew_
                               (first | rw [← Ny265.out] at ho13 | (simp only [Int.reduceToNat] at ho13; rw [← Ny265.out] at ho13))
                               replace HO270 := zM (Kd.R_below (zR HO270.out) hb)
                               have HO267 := zM (Kd.S_lower ho13 (below_size zB))
                               replace BK263 := zM (blk_below (g := gb263) (o := .cells #[.slice A0_0 l0_0.length c0_0, .slice A0_1 l0_1.length c0_1] 30 (0, 0)) (zK BK263.out) hb)
                               replace BK264 := zM (blk_below (g := gb264) (o := .cells #[.slice none 0 0, .slice none 0 0] 30 (0, 0)) (zK BK264.out) hb)
                               replace BK274 := zM (blk_below (g := gb274) (o := .cells #[.slice none 0 0, .slice none 0 0] 30 (0, 0)) (zK BK274.out) hb)
                               replace HB := zM (below_step zB hb)
                               clear hb ho13
                               obtain ⟨Ao14, co14, eo14⟩ := Kd.R_slice HO270.out
                               (first | subst eo14 | (injection eo14 with f1_ f2_ f3_; have f4_ := f1_.symm; have f5_ := f3_.symm; clear f1_ f2_ f3_; subst f4_; subst f5_))
                               obtain ⟨Ao15, co15, eo15⟩ := Kd.S_slice HO267.out
                               (first | subst eo15 | (injection eo15 with f1_ f2_ f3_; have f4_ := f1_.symm; have f5_ := f3_.symm; clear f1_ f2_ f3_; subst f4_; subst f5_))
                               refine hK.out _ _ ⟨(blk_cell BK263.out 0).trans rfl, (blk_cell BK263.out 1).trans rfl⟩ (fun hHeld => ?_)
                               clear hK K
                               refine zn 12 ?_
                               refine zp HT_ 2 14 ?_
                               exact norm_ (by first | (simp only [putAll, Act.put, List.setIfInBounds_toArray, List.set_cons_zero, List.set_cons_succ]; done) | (simp only [putAll, Act.put, List.setIfInBounds_toArray, List.set_cons_zero, List.set_cons_succ]; rfl)) (hJ0_1_7 (.slice Ao15 y265.length co15, .slice Ao14 y268.length co14, gb274) _ ⟨hHeld, (by (with_reducible repeat (first | apply Kd.S_alloc | apply Kd.S_drewN | apply Kd.S_drew)); exact HO267.out), (zR HO270.out), (zK BK263.out), (zK BK264.out), (zK BK274.out), GW274.out, GE274.out, NB263_274.out, NB274_263.out, NB264_274.out, NB274_264.out, zB⟩)
                             · skip
                               refine Kd.R_make_step (Kd.int .i64) _ 3 (by rfl) (N := 18) rfl 27 _ _ rfl (l0_0.length : Int) rfl rfl Try.underlying27 (.int .i64 0) 8 info3 rfl (by decide) (by omega) 0 (ok := fun _ => True) (okp := fun _ => True) rfl (fun _ hk => hk) trivial (of_decide_eq_true zA) (Nat.le_trans (Nat.mul_le_mul_right _ (of_decide_eq_true zA : (l0_0.length : Int).toNat ≤ 35184372088832)) (by omega)) (Below.refl _ _) (Nat.le_refl _) ?_
                               intro v272 w12 ho13 hb hg_ hnew_
                               clear hg_ hnew_
                               (first | rw [← Ny271.out] at ho13 | (simp only [Int.reduceToNat] at ho13; rw [← Ny271.out] at ho13))
                               replace HO270 := zM (Kd.R_below (zR HO270.out) hb)
                               have HO273 := zM (Kd.R_lower ho13 (below_size zB))
                               replace BK263 := zM (blk_below (g := gb263) (o := .cells #[.slice A0_0 l0_0.length c0_0, .slice A0_1 l0_1.length c0_1] 30 (0, 0)) (zK BK263.out) hb)
                               replace BK264 := zM (blk_below (g := gb264) (o := .cells #[.slice none 0 0, .slice none 0 0] 30 (0, 0)) (zK BK264.out) hb)
                               replace BK274 := zM (blk_below (g := gb274) (o := .cells #[.slice none 0 0, .slice none 0 0] 30 (0, 0)) (zK BK274.out) hb)
                               replace HB := zM (below_step zB hb)
                               clear hb ho13
                               refine hK.out _ _ ⟨(blk_cell BK263.out 0).trans rfl, (blk_cell BK263.out 1).trans rfl⟩ (fun hHeld => ?_)
                               clear hK K
                               refine zn 18 ?_
                               exact norm_ (by first | (simp only [putAll, Act.put, List.setIfInBounds_toArray, List.set_cons_zero, List.set_cons_succ]; done) | (simp only [putAll, Act.put, List.setIfInBounds_toArray, List.set_cons_zero, List.set_cons_succ]; rfl)) (hJ1_6_7 (v269, v272, gb274) _ ⟨hHeld, (zR HO270.out), (zR HO273.out), (zK BK263.out), (zK BK264.out), (zK BK274.out), GW274.out, GE274.out, NB263_274.out, NB274_263.out, NB264_274.out, NB274_264.out, zB⟩)
                         · skip
                           rintro ⟨v269, v272⟩ w12 ⟨hS_, h0_, h1_, h2_, h3_, h4_⟩
                           have n0_ : Aside0 (Kd.R k54 54 w12 w.heap.size (fun _ => True) v269 y268) := ⟨h0_⟩
                           have n1_ : Aside0 (Kd.R (Kd.int .i64) 3 w12 w.heap.size (fun _ => True) v272 y271) := ⟨h1_⟩
                           have n2_ : Aside0 (w12.heap[gb263]? = some (.cells #[.slice A0_0 l0_0.length c0_0, .slice A0_1 l0_1.length c0_1] 30 (0, 0))) := ⟨h2_⟩
                           have n3_ : Aside0 (w12.heap[gb264]? = some (.cells #[.slice none 0 0, .slice none 0 0] 30 (0, 0))) := ⟨h3_⟩
                           have n4_ : Aside0 (Below w.heap.size w w12) := ⟨h4_⟩
                           clear BK263
                           clear BK264
                           clear HB
                           clear h0_ h1_ h2_ h3_ h4_
                           have HO270 := n0_
                           have HO273 := n1_
                           have BK263 := n2_
                           have BK264 := n3_
                           have HB := n4_
                           clear n0_ n1_ n2_ n3_ n4_
                           have hHeld : w12.cell? ⟨gb263, 0, none⟩ = some (.slice A0_0 l0_0.length c0_0) ∧ w12.cell? ⟨gb263, 1, none⟩ = some (.slice A0_1 l0_1.length c0_1) := hS_
                           refine norm_ (a' := ?_) ?_ ?_
                           rotate_left
                           · simp only [putAll, Act.put, List.setIfInBounds_toArray, List.set_cons_zero, List.set_cons_succ]
                             rfl
                           refine two_ (i := 0) (j := 7) (Ni := some 12) (Nj := some 5) #[true, true, false, true, true, true, true, false, false, false] #[false, true, false, true, true, true, true, true, false, false] rfl rfl rfl rfl (two_of HT_.out (by kernel_rfl)) (by decide) (by decide) (fun K hK => ?_) (fun K hK => ?_)
                           · skip
                             refine Kd.S_lit_step (Kd.slice 3 (Kd.int .i64)) _ 27 ?hg (N := 12) ?hd (xs := ([] : List (List Int))) (inner := []) (ok := fun _ => True) (okp := fun _ => True) ?hr ?hp (fun _ hk => hk) trivial (Below.refl _ _) (Nat.le_refl _) (by simp) ?_; (case hd => rfl); (case hg => rfl); (case hr => first | (go_simp; done) | (go_simp; rfl)); (case hp => exact (Reps.none _ _))
                             intro v266 w13 ho14 hb hg_ hnew_
                             clear hg_ hnew_
                             (first | rw [← Ny265.out] at ho14 | (simp only [Int.reduceToNat] at ho14; rw [← Ny265.out] at ho14))
                             replace HO270 := zM (Kd.R_below (zR HO270.out) hb)
                             have HO267 := zM (Kd.S_lower (Kd.S_new' ho14 (Kd.R_lt (zR HO273.out))) (below_size zB))
                             replace HO273 := zM (Kd.R_below (zR HO273.out) hb)
                             replace BK263 := zM (blk_below (g := gb263) (o := .cells #[.slice A0_0 l0_0.length c0_0, .slice A0_1 l0_1.length c0_1] 30 (0, 0)) (zK BK263.out) hb)
                             replace BK264 := zM (blk_below (g := gb264) (o := .cells #[.slice none 0 0, .slice none 0 0] 30 (0, 0)) (zK BK264.out) hb)
                             replace HB := zM (below_step zB hb)
                             clear hb ho14
                             obtain ⟨Ao15, co15, eo15⟩ := Kd.R_slice HO270.out
                             (first | subst eo15 | (injection eo15 with f1_ f2_ f3_; have f4_ := f1_.symm; have f5_ := f3_.symm; clear f1_ f2_ f3_; subst f4_; subst f5_))
                             obtain ⟨Ao16, co16, eo16⟩ := Kd.S_slice HO267.out
                             (first | subst eo16 | (injection eo16 with f1_ f2_ f3_; have f4_ := f1_.symm; have f5_ := f3_.symm; clear f1_ f2_ f3_; subst f4_; subst f5_))
                             refine hK.out _ _ ⟨(blk_cell BK263.out 0).trans rfl, (blk_cell BK263.out 1).trans rfl⟩ (fun hHeld => ?_)
                             clear hK K
                             refine zn 12 ?_
                             refine zp HT_ 2 14 ?_
                             exact norm_ (by first | (simp only [putAll, Act.put, List.setIfInBounds_toArray, List.set_cons_zero, List.set_cons_succ]; done) | (simp only [putAll, Act.put, List.setIfInBounds_toArray, List.set_cons_zero, List.set_cons_succ]; rfl)) (hJ0_1_6 (.slice Ao16 y265.length co16, .slice Ao15 y268.length co15, v272) _ ⟨hHeld, (by (with_reducible repeat (first | apply Kd.S_alloc | apply Kd.S_drewN | apply Kd.S_drew)); exact Kd.S_mono HO267.out (fun _ hk => hk.2)), (zR HO270.out), (zR HO273.out), (zK BK263.out), (zK BK264.out), zB⟩)
                           · skip
                             refine box_step ?hg (N := 5) ?hd (cs := #[.slice none 0 0, .slice none 0 0]) (t := 30) ?hr ?_; (case hd => rfl); (case hg => rfl); (case hr => first | (go_simp; done) | (go_simp; rfl))
                             intro gb274 hg w13 hbox hb
                             replace HO270 := zM (Kd.R_below (zR HO270.out) hb)
                             replace HO273 := zM (Kd.R_below (zR HO273.out) hb)
                             have BK274 := zM (hbox)
                             have GW274 := zM ((by rw [hg]; exact (below_size zB) : w.heap.size ≤ gb274))
                             have GE274 := zM ((by rw [hg]; exact (below_size zB) : w.heap.size ≤ gb274))
                             replace HB := zM (below_step zB hb)
                             have NB263_274 := zM ((by rw [hg]; exact Nat.ne_of_lt (blk_lt (g := gb263) (o := .cells #[.slice A0_0 l0_0.length c0_0, .slice A0_1 l0_1.length c0_1] 30 (0, 0)) (zK BK263.out)) : gb263 ≠ gb274))
                             have NB274_263 := zM ((by rw [hg]; exact Nat.ne_of_gt (blk_lt (g := gb263) (o := .cells #[.slice A0_0 l0_0.length c0_0, .slice A0_1 l0_1.length c0_1] 30 (0, 0)) (zK BK263.out)) : gb274 ≠ gb263))
                             replace BK263 := zM (blk_below (g := gb263) (o := .cells #[.slice A0_0 l0_0.length c0_0, .slice A0_1 l0_1.length c0_1] 30 (0, 0)) (zK BK263.out) hb)
                             have NB264_274 := zM ((by rw [hg]; exact Nat.ne_of_lt (blk_lt (g := gb264) (o := .cells #[.slice none 0 0, .slice none 0 0] 30 (0, 0)) (zK BK264.out)) : gb264 ≠ gb274))
                             have NB274_264 := zM ((by rw [hg]; exact Nat.ne_of_gt (blk_lt (g := gb264) (o := .cells #[.slice none 0 0, .slice none 0 0] 30 (0, 0)) (zK BK264.out)) : gb274 ≠ gb264))
                             replace BK264 := zM (blk_below (g := gb264) (o := .cells #[.slice none 0 0, .slice none 0 0] 30 (0, 0)) (zK BK264.out) hb)
                             clear hb hbox hg
                             refine hK.out _ _ ⟨(blk_cell BK263.out 0).trans rfl, (blk_cell BK263.out 1).trans rfl⟩ (fun hHeld => ?_)
                             clear hK K
                             refine zn 5 ?_
                             exact norm_ (by first | (simp only [putAll, Act.put, List.setIfInBounds_toArray, List.set_cons_zero, List.set_cons_succ]; done) | (simp only [putAll, Act.put, List.setIfInBounds_toArray, List.set_cons_zero, List.set_cons_succ]; rfl)) (hJ1_6_7 (v269, v272, gb274) _ ⟨hHeld, (zR HO270.out), (zR HO273.out), (zK BK263.out), (zK BK264.out), (zK BK274.out), GW274.out, GE274.out, NB263_274.out, NB274_263.out, NB264_274.out, NB274_264.out, zB⟩)
                       · skip
                         rintro ⟨v266, gb274⟩ w11 ⟨hS_, h0_, h1_, h2_, h3_, h4_, h5_, h6_, h7_, h8_, h9_, h10_⟩
                         have n0_ : Aside0 (Kd.S (Kd.slice 3 (Kd.int .i64)) 27 w11 w.heap.size (fun _ => True) v266 y265) := ⟨h0_⟩
                         have n1_ : Aside0 (w11.heap[gb263]? = some (.cells #[.slice A0_0 l0_0.length c0_0, .slice A0_1 l0_1.length c0_1] 30 (0, 0))) := ⟨h1_⟩
                         have n2_ : Aside0 (w11.heap[gb264]? = some (.cells #[.slice none 0 0, .slice none 0 0] 30 (0, 0))) := ⟨h2_⟩
                         have n3_ : Aside0 (w11.heap[gb274]? = some (.cells #[.slice none 0 0, .slice none 0 0] 30 (0, 0))) := ⟨h3_⟩
                         have n4_ : Aside0 (w.heap.size ≤ gb274) := ⟨h4_⟩
                         have n5_ : Aside0 (w.heap.size ≤ gb274) := ⟨h5_⟩
                         have n6_ : Aside0 (gb263 ≠ gb274) := ⟨h6_⟩
                         have n7_ : Aside0 (gb274 ≠ gb263) := ⟨h7_⟩
                         have n8_ : Aside0 (gb264 ≠ gb274) := ⟨h8_⟩
                         have n9_ : Aside0 (gb274 ≠ gb264) := ⟨h9_⟩
                         have n10_ : Aside0 (Below w.heap.size w w11) := ⟨h10_⟩
                         clear BK263
                         clear BK264
                         clear HB
                         clear h0_ h1_ h2_ h3_ h4_ h5_ h6_ h7_ h8_ h9_ h10_
                         have HO267 := n0_
                         have BK263 := n1_
                         have BK264 := n2_
                         have BK274 := n3_
                         have GW274 := n4_
                         have GE274 := n5_
                         have NB263_274 := n6_
                         have NB274_263 := n7_
                         have NB264_274 := n8_
                         have NB274_264 := n9_
                         have HB := n10_
                         clear n0_ n1_ n2_ n3_ n4_ n5_ n6_ n7_ n8_ n9_ n10_
                         have hHeld : w11.cell? ⟨gb263, 0, none⟩ = some (.slice A0_0 l0_0.length c0_0) ∧ w11.cell? ⟨gb263, 1, none⟩ = some (.slice A0_1 l0_1.length c0_1) := hS_
                         refine norm_ (a' := ?_) ?_ ?_
                         rotate_left
                         · simp only [putAll, Act.put, List.setIfInBounds_toArray, List.set_cons_zero, List.set_cons_succ]
                           rfl
                         refine two_ (i := 1) (j := 6) (Ni := some 13) (Nj := some 18) #[true, true, false, true, true, true, false, true, false, false] #[true, false, false, true, true, true, true, true, false, false] rfl rfl rfl rfl (two_of HT_.out (by kernel_rfl)) (by decide) (by decide) (fun K hK => ?_) (fun K hK => ?_)
                         · skip
                           refine Kd.R_lit_step k54 _ 54 ?hg (N := 13) ?hd (xs := ([] : List (S54))) (inner := []) (ok := fun _ => True) (okp := fun _ => True) ?hr ?hp (fun _ hk => hk) trivial (Below.refl _ _) (Nat.le_refl _) (by simp) ?_; (case hd => rfl); (case hg => rfl); (case hr => first | (go_simp; done) | (go_simp; rfl)); (case hp => exact (Reps.none _ _))
                           intro v269 w12 ho13 hb hg_ hnew_
                           clear hg_ hnew_
                           (first | rw [← Ny268.out] at ho13 | (simp only [Int.reduceToNat] at ho13; rw [← Ny268.out] at ho13))
                           replace HO267 := zM (Kd.S_below (by (with_reducible repeat (first | apply Kd.S_alloc | apply Kd.S_drewN | apply Kd.S_drew)); exact HO267.out) hb)
                           have HO270 := zM (Kd.R_lower ho13 (below_size zB))
                           replace BK263 := zM (blk_below (g := gb263) (o := .cells #[.slice A0_0 l0_0.length c0_0, .slice A0_1 l0_1.length c0_1] 30 (0, 0)) (zK BK263.out) hb)
                           replace BK264 := zM (blk_below (g := gb264) (o := .cells #[.slice none 0 0, .slice none 0 0] 30 (0, 0)) (zK BK264.out) hb)
                           replace BK274 := zM (blk_below (g := gb274) (o := .cells #[.slice none 0 0, .slice none 0 0] 30 (0, 0)) (zK BK274.out) hb)
                           replace HB := zM (below_step zB hb)
                           clear hb ho13
                           obtain ⟨Ao14, co14, eo14⟩ := Kd.R_slice HO270.out
                           (first | subst eo14 | (injection eo14 with f1_ f2_ f3_; have f4_ := f1_.symm; have f5_ := f3_.symm; clear f1_ f2_ f3_; subst f4_; subst f5_))
                           obtain ⟨Ao15, co15, eo15⟩ := Kd.S_slice HO267.out
                           (first | subst eo15 | (injection eo15 with f1_ f2_ f3_; have f4_ := f1_.symm; have f5_ := f3_.symm; clear f1_ f2_ f3_; subst f4_; subst f5_))
                           refine hK.out _ _ ⟨(blk_cell BK263.out 0).trans rfl, (blk_cell BK263.out 1).trans rfl⟩ (fun hHeld => ?_)
                           clear hK K
                           refine zn 13 ?_
                           refine zp HT_ 2 14 ?_
                           exact norm_ (by first | (simp only [putAll, Act.put, List.setIfInBounds_toArray, List.set_cons_zero, List.set_cons_succ]; done) | (simp only [putAll, Act.put, List.setIfInBounds_toArray, List.set_cons_zero, List.set_cons_succ]; rfl)) (hJ0_1_7 (.slice Ao15 y265.length co15, .slice Ao14 y268.length co14, gb274) _ ⟨hHeld, (by (with_reducible repeat (first | apply Kd.S_alloc | apply Kd.S_drewN | apply Kd.S_drew)); exact HO267.out), (zR HO270.out), (zK BK263.out), (zK BK264.out), (zK BK274.out), GW274.out, GE274.out, NB263_274.out, NB274_263.out, NB264_274.out, NB274_264.out, zB⟩)
                         · skip
                           refine Kd.R_make_step (Kd.int .i64) _ 3 (by rfl) (N := 18) rfl 27 _ _ rfl (l0_0.length : Int) rfl rfl Try.underlying27 (.int .i64 0) 8 info3 rfl (by decide) (by omega) 0 (ok := fun _ => True) (okp := fun _ => True) rfl (fun _ hk => hk) trivial (of_decide_eq_true zA) (Nat.le_trans (Nat.mul_le_mul_right _ (of_decide_eq_true zA : (l0_0.length : Int).toNat ≤ 35184372088832)) (by omega)) (Below.refl _ _) (Nat.le_refl _) ?_
                           intro v272 w12 ho13 hb hg_ hnew_
                           clear hg_ hnew_
                           (first | rw [← Ny271.out] at ho13 | (simp only [Int.reduceToNat] at ho13; rw [← Ny271.out] at ho13))
                           replace HO267 := zM (Kd.S_elder' (by (with_reducible repeat (first | apply Kd.S_alloc | apply Kd.S_drewN | apply Kd.S_drew)); exact HO267.out) (Kd.R_base ho13) hb)
                           have HO273 := zM (Kd.R_lower ho13 (below_size zB))
                           replace BK263 := zM (blk_below (g := gb263) (o := .cells #[.slice A0_0 l0_0.length c0_0, .slice A0_1 l0_1.length c0_1] 30 (0, 0)) (zK BK263.out) hb)
                           replace BK264 := zM (blk_below (g := gb264) (o := .cells #[.slice none 0 0, .slice none 0 0] 30 (0, 0)) (zK BK264.out) hb)
                           replace BK274 := zM (blk_below (g := gb274) (o := .cells #[.slice none 0 0, .slice none 0 0] 30 (0, 0)) (zK BK274.out) hb)
                           replace HB := zM (below_step zB hb)
                           clear hb ho13
                           refine hK.out _ _ ⟨(blk_cell BK263.out 0).trans rfl, (blk_cell BK263.out 1).trans rfl⟩ (fun hHeld => ?_)
                           clear hK K
                           refine zn 18 ?_
                           exact norm_ (by first | (simp only [putAll, Act.put, List.setIfInBounds_toArray, List.set_cons_zero, List.set_cons_succ]; done) | (simp only [putAll, Act.put, List.setIfInBounds_toArray, List.set_cons_zero, List.set_cons_succ]; rfl)) (hJ0_6_7 (v266, v272, gb274) _ ⟨hHeld, (by (with_reducible repeat (first | apply Kd.S_alloc | apply Kd.S_drewN | apply Kd.S_drew)); exact Kd.S_mono HO267.out (fun _ hk => hk.2)), (zR HO273.out), (zK BK263.out), (zK BK264.out), (zK BK274.out), GW274.out, GE274.out, NB263_274.out, NB274_263.out, NB264_274.out, NB274_264.out, zB⟩)
                     · skip
                       rintro ⟨v266, v272⟩ w12 ⟨hS_, h0_, h1_, h2_, h3_, h4_⟩
                       have n0_ : Aside0 (Kd.S (Kd.slice 3 (Kd.int .i64)) 27 w12 w.heap.size (fun k_ => some k_ ≠ (v272 : Value).ownBlock) v266 y265) := ⟨h0_⟩
                       have n1_ : Aside0 (Kd.R (Kd.int .i64) 3 w12 w.heap.size (fun _ => True) v272 y271) := ⟨h1_⟩
                       have n2_ : Aside0 (w12.heap[gb263]? = some (.cells #[.slice A0_0 l0_0.length c0_0, .slice A0_1 l0_1.length c0_1] 30 (0, 0))) := ⟨h2_⟩
                       have n3_ : Aside0 (w12.heap[gb264]? = some (.cells #[.slice none 0 0, .slice none 0 0] 30 (0, 0))) := ⟨h3_⟩
                       have n4_ : Aside0 (Below w.heap.size w w12) := ⟨h4_⟩
                       clear BK263
                       clear BK264
                       clear HB
                       clear h0_ h1_ h2_ h3_ h4_
                       have HO267 := n0_
                       have HO273 := n1_
                       have BK263 := n2_
                       have BK264 := n3_
                       have HB := n4_
                       clear n0_ n1_ n2_ n3_ n4_
                       have hHeld : w12.cell? ⟨gb263, 0, none⟩ = some (.slice A0_0 l0_0.length c0_0) ∧ w12.cell? ⟨gb263, 1, none⟩ = some (.slice A0_1 l0_1.length c0_1) := hS_
                       refine norm_ (a' := ?_) ?_ ?_
                       rotate_left
                       · simp only [putAll, Act.put, List.setIfInBounds_toArray, List.set_cons_zero, List.set_cons_succ]
                         rfl
                       refine two_ (i := 1) (j := 7) (Ni := some 13) (Nj := some 5) #[true, true, false, true, true, true, true, false, false, false] #[true, false, false, true, true, true, true, true, false, false] rfl rfl rfl rfl (two_of HT_.out (by kernel_rfl)) (by decide) (by decide) (fun K hK => ?_) (fun K hK => ?_)
                       · skip
                         refine Kd.R_lit_step k54 _ 54 ?hg (N := 13) ?hd (xs := ([] : List (S54))) (inner := []) (ok := fun _ => True) (okp := fun _ => True) ?hr ?hp (fun _ hk => hk) trivial (Below.refl _ _) (Nat.le_refl _) (by simp) ?_; (case hd => rfl); (case hg => rfl); (case hr => first | (go_simp; done) | (go_simp; rfl)); (case hp => exact (Reps.none _ _))
                         intro v269 w13 ho14 hb hg_ hnew_
                         clear hg_ hnew_
                         (first | rw [← Ny268.out] at ho14 | (simp only [Int.reduceToNat] at ho14; rw [← Ny268.out] at ho14))
                         replace HO267 := zM (Kd.S_below (by (with_reducible repeat (first | apply Kd.S_alloc | apply Kd.S_drewN | apply Kd.S_drew)); exact HO267.out) hb)
                         replace HO273 := zM (Kd.R_below (zR HO273.out) hb)
                         have HO270 := zM (Kd.R_lower ho14 (below_size zB))
                         replace BK263 := zM (blk_below (g := gb263) (o := .cells #[.slice A0_0 l0_0.length c0_0, .slice A0_1 l0_1.length c0_1] 30 (0, 0)) (zK BK263.out) hb)
                         replace BK264 := zM (blk_below (g := gb264) (o := .cells #[.slice none 0 0, .slice none 0 0] 30 (0, 0)) (zK BK264.out) hb)
                         replace HB := zM (below_step zB hb)
                         clear hb ho14
                         obtain ⟨Ao15, co15, eo15⟩ := Kd.R_slice HO270.out
                         (first | subst eo15 | (injection eo15 with f1_ f2_ f3_; have f4_ := f1_.symm; have f5_ := f3_.symm; clear f1_ f2_ f3_; subst f4_; subst f5_))
                         obtain ⟨Ao16, co16, eo16⟩ := Kd.S_slice HO267.out
                         (first | subst eo16 | (injection eo16 with f1_ f2_ f3_; have f4_ := f1_.symm; have f5_ := f3_.symm; clear f1_ f2_ f3_; subst f4_; subst f5_))
                         refine hK.out _ _ ⟨(blk_cell BK263.out 0).trans rfl, (blk_cell BK263.out 1).trans rfl⟩ (fun hHeld => ?_)
                         clear hK K
                         refine zn 13 ?_
                         refine zp HT_ 2 14 ?_
                         exact norm_ (by first | (simp only [putAll, Act.put, List.setIfInBounds_toArray, List.set_cons_zero, List.set_cons_succ]; done) | (simp only [putAll, Act.put, List.setIfInBounds_toArray, List.set_cons_zero, List.set_cons_succ]; rfl)) (hJ0_1_6 (.slice Ao16 y265.length co16, .slice Ao15 y268.length co15, v272) _ ⟨hHeld, (by (with_reducible repeat (first | apply Kd.S_alloc | apply Kd.S_drewN | apply Kd.S_drew)); exact HO267.out), (zR HO270.out), (zR HO273.out), (zK BK263.out), (zK BK264.out), zB⟩)
                       · skip
                         refine box_step ?hg (N := 5) ?hd (cs := #[.slice none 0 0, .slice none 0 0]) (t := 30) ?hr ?_; (case hd => rfl); (case hg => rfl); (case hr => first | (go_simp; done) | (go_simp; rfl))
                         intro gb274 hg w13 hbox hb
                         replace HO267 := zM (Kd.S_below (by (with_reducible repeat (first | apply Kd.S_alloc | apply Kd.S_drewN | apply Kd.S_drew)); exact HO267.out) hb)
                         replace HO273 := zM (Kd.R_below (zR HO273.out) hb)
                         have BK274 := zM (hbox)
                         have GW274 := zM ((by rw [hg]; exact (below_size zB) : w.heap.size ≤ gb274))
                         have GE274 := zM ((by rw [hg]; exact (below_size zB) : w.heap.size ≤ gb274))
                         replace HB := zM (below_step zB hb)
                         have NB263_274 := zM ((by rw [hg]; exact Nat.ne_of_lt (blk_lt (g := gb263) (o := .cells #[.slice A0_0 l0_0.length c0_0, .slice A0_1 l0_1.length c0_1] 30 (0, 0)) (zK BK263.out)) : gb263 ≠ gb274))
                         have NB274_263 := zM ((by rw [hg]; exact Nat.ne_of_gt (blk_lt (g := gb263) (o := .cells #[.slice A0_0 l0_0.length c0_0, .slice A0_1 l0_1.length c0_1] 30 (0, 0)) (zK BK263.out)) : gb274 ≠ gb263))
                         replace BK263 := zM (blk_below (g := gb263) (o := .cells #[.slice A0_0 l0_0.length c0_0, .slice A0_1 l0_1.length c0_1] 30 (0, 0)) (zK BK263.out) hb)
                         have NB264_274 := zM ((by rw [hg]; exact Nat.ne_of_lt (blk_lt (g := gb264) (o := .cells #[.slice none 0 0, .slice none 0 0] 30 (0, 0)) (zK BK264.out)) : gb264 ≠ gb274))
                         have NB274_264 := zM ((by rw [hg]; exact Nat.ne_of_gt (blk_lt (g := gb264) (o := .cells #[.slice none 0 0, .slice none 0 0] 30 (0, 0)) (zK BK264.out)) : gb274 ≠ gb264))
                         replace BK264 := zM (blk_below (g := gb264) (o := .cells #[.slice none 0 0, .slice none 0 0] 30 (0, 0)) (zK BK264.out) hb)
                         clear hb hbox hg
                         refine hK.out _ _ ⟨(blk_cell BK263.out 0).trans rfl, (blk_cell BK263.out 1).trans rfl⟩ (fun hHeld => ?_)
                         clear hK K
                         refine zn 5 ?_
                         exact norm_ (by first | (simp only [putAll, Act.put, List.setIfInBounds_toArray, List.set_cons_zero, List.set_cons_succ]; done) | (simp only [putAll, Act.put, List.setIfInBounds_toArray, List.set_cons_zero, List.set_cons_succ]; rfl)) (hJ0_6_7 (v266, v272, gb274) _ ⟨hHeld, (by (with_reducible repeat (first | apply Kd.S_alloc | apply Kd.S_drewN | apply Kd.S_drew)); exact HO267.out), (zR HO273.out), (zK BK263.out), (zK BK264.out), (zK BK274.out), GW274.out, GE274.out, NB263_274.out, NB274_263.out, NB264_274.out, NB274_264.out, zB⟩)
                   · skip
                     rintro ⟨v266, v269⟩ w14 ⟨hS_, h0_, h1_, h2_, h3_, h4_⟩
                     have n0_ : Aside0 (Kd.S (Kd.slice 3 (Kd.int .i64)) 27 w14 w.heap.size (fun _ => True) v266 y265) := ⟨h0_⟩
                     have n1_ : Aside0 (Kd.R k54 54 w14 w.heap.size (fun _ => True) v269 y268) := ⟨h1_⟩
                     have n2_ : Aside0 (w14.heap[gb263]? = some (.cells #[.slice A0_0 l0_0.length c0_0, .slice A0_1 l0_1.length c0_1] 30 (0, 0))) := ⟨h2_⟩
                     have n3_ : Aside0 (w14.heap[gb264]? = some (.cells #[.slice none 0 0, .slice none 0 0] 30 (0, 0))) := ⟨h3_⟩
                     have n4_ : Aside0 (Below w.heap.size w w14) := ⟨h4_⟩
                     clear BK263
                     clear BK264
                     clear HB
                     clear h0_ h1_ h2_ h3_ h4_
                     have HO267 := n0_
                     have HO270 := n1_
                     have BK263 := n2_
                     have BK264 := n3_
                     have HB := n4_
                     clear n0_ n1_ n2_ n3_ n4_
                     have hHeld : w14.cell? ⟨gb263, 0, none⟩ = some (.slice A0_0 l0_0.length c0_0) ∧ w14.cell? ⟨gb263, 1, none⟩ = some (.slice A0_1 l0_1.length c0_1) := hS_
                     obtain ⟨Ao15, co15, eo15⟩ := Kd.R_slice HO270.out
                     (first | subst eo15 | (injection eo15 with f1_ f2_ f3_; have f4_ := f1_.symm; have f5_ := f3_.symm; clear f1_ f2_ f3_; subst f4_; subst f5_))
                     obtain ⟨Ao16, co16, eo16⟩ := Kd.S_slice HO267.out
                     (first | subst eo16 | (injection eo16 with f1_ f2_ f3_; have f4_ := f1_.symm; have f5_ := f3_.symm; clear f1_ f2_ f3_; subst f4_; subst f5_))
                     refine norm_ (a' := ?_) ?_ ?_
                     rotate_left
                     · simp only [putAll, Act.put, List.setIfInBounds_toArray, List.set_cons_zero, List.set_cons_succ]
                       rfl
                     refine two_ (i := 6) (j := 7) (Ni := some 18) (Nj := some 5) #[true, true, true, true, true, true, true, false, false, false] #[true, true, true, true, true, true, false, true, false, false] rfl rfl rfl rfl (two_of HT_.out (by kernel_rfl)) (by decide) (by decide) (fun K hK => ?_) (fun K hK => ?_)
                     · skip
                       refine Kd.R_make_step (Kd.int .i64) _ 3 (by rfl) (N := 18) rfl 27 _ _ rfl (l0_0.length : Int) rfl rfl Try.underlying27 (.int .i64 0) 8 info3 rfl (by decide) (by omega) 0 (ok := fun _ => True) (okp := fun _ => True) rfl (fun _ hk => hk) trivial (of_decide_eq_true zA) (Nat.le_trans (Nat.mul_le_mul_right _ (of_decide_eq_true zA : (l0_0.length : Int).toNat ≤ 35184372088832)) (by omega)) (Below.refl _ _) (Nat.le_refl _) ?_
                       intro v272 w17 ho18 hb hg_ hnew_
                       clear hg_ hnew_
                       (first | rw [← Ny271.out] at ho18 | (simp only [Int.reduceToNat] at ho18; rw [← Ny271.out] at ho18))
                       replace HO267 := zM (Kd.S_elder' (by (with_reducible repeat (first | apply Kd.S_alloc | apply Kd.S_drewN | apply Kd.S_drew)); exact HO267.out) (Kd.R_base ho18) hb)
                       replace HO270 := zM (Kd.R_below (zR HO270.out) hb)
                       have HO273 := zM (Kd.R_lower ho18 (below_size zB))
                       replace BK263 := zM (blk_below (g := gb263) (o := .cells #[.slice A0_0 l0_0.length c0_0, .slice A0_1 l0_1.length c0_1] 30 (0, 0)) (zK BK263.out) hb)
                       replace BK264 := zM (blk_below (g := gb264) (o := .cells #[.slice none 0 0, .slice none 0 0] 30 (0, 0)) (zK BK264.out) hb)
                       replace HB := zM (below_step zB hb)
                       clear hb ho18
                       refine hK.out _ _ ⟨(blk_cell BK263.out 0).trans rfl, (blk_cell BK263.out 1).trans rfl⟩ (fun hHeld => ?_)
                       clear hK K
                       refine zn 18 ?_
                       exact norm_ (by first | (simp only [putAll, Act.put, List.setIfInBounds_toArray, List.set_cons_zero, List.set_cons_succ]; done) | (simp only [putAll, Act.put, List.setIfInBounds_toArray, List.set_cons_zero, List.set_cons_succ]; rfl)) (hJ0_1_6 (.slice Ao16 y265.length co16, .slice Ao15 y268.length co15, v272) _ ⟨hHeld, (by (with_reducible repeat (first | apply Kd.S_alloc | apply Kd.S_drewN | apply Kd.S_drew)); exact Kd.S_mono HO267.out (fun _ hk => hk.2)), (zR HO270.out), (zR HO273.out), (zK BK263.out), (zK BK264.out), zB⟩)
                     · skip
                       refine box_step ?hg (N := 5) ?hd (cs := #[.slice none 0 0, .slice none 0 0]) (t := 30) ?hr ?_; (case hd => rfl); (case hg => rfl); (case hr => first | (go_simp; done) | (go_simp; rfl))
                       intro gb274 hg w17 hbox hb
                       replace HO267 := zM (Kd.S_below (by (with_reducible repeat (first | apply Kd.S_alloc | apply Kd.S_drewN | apply Kd.S_drew)); exact HO267.out) hb)
                       replace HO270 := zM (Kd.R_below (zR HO270.out) hb)
                       have BK274 := zM (hbox)
                       have GW274 := zM ((by rw [hg]; exact (below_size zB) : w.heap.size ≤ gb274))
                       have GE274 := zM ((by rw [hg]; exact (below_size zB) : w.heap.size ≤ gb274))
                       replace HB := zM (below_step zB hb)
                       have NB263_274 := zM ((by rw [hg]; exact Nat.ne_of_lt (blk_lt (g := gb263) (o := .cells #[.slice A0_0 l0_0.length c0_0, .slice A0_1 l0_1.length c0_1] 30 (0, 0)) (zK BK263.out)) : gb263 ≠ gb274))
                       have NB274_263 := zM ((by rw [hg]; exact Nat.ne_of_gt (blk_lt (g := gb263) (o := .cells #[.slice A0_0 l0_0.length c0_0, .slice A0_1 l0_1.length c0_1] 30 (0, 0)) (zK BK263.out)) : gb274 ≠ gb263))
                       replace BK263 := zM (blk_below (g := gb263) (o := .cells #[.slice A0_0 l0_0.length c0_0, .slice A0_1 l0_1.length c0_1] 30 (0, 0)) (zK BK263.out) hb)
                       have NB264_274 := zM ((by rw [hg]; exact Nat.ne_of_lt (blk_lt (g := gb264) (o := .cells #[.slice none 0 0, .slice none 0 0] 30 (0, 0)) (zK BK264.out)) : gb264 ≠ gb274))
                       have NB274_264 := zM ((by rw [hg]; exact Nat.ne_of_gt (blk_lt (g := gb264) (o := .cells #[.slice none 0 0, .slice none 0 0] 30 (0, 0)) (zK BK264.out)) : gb274 ≠ gb264))
                       replace BK264 := zM (blk_below (g := gb264) (o := .cells #[.slice none 0 0, .slice none 0 0] 30 (0, 0)) (zK BK264.out) hb)
                       clear hb hbox hg
                       refine hK.out _ _ ⟨(blk_cell BK263.out 0).trans rfl, (blk_cell BK263.out 1).trans rfl⟩ (fun hHeld => ?_)
                       clear hK K
                       refine zn 5 ?_
                       exact norm_ (by first | (simp only [putAll, Act.put, List.setIfInBounds_toArray, List.set_cons_zero, List.set_cons_succ]; done) | (simp only [putAll, Act.put, List.setIfInBounds_toArray, List.set_cons_zero, List.set_cons_succ]; rfl)) (hJ0_1_7 (.slice Ao16 y265.length co16, .slice Ao15 y268.length co15, gb274) _ ⟨hHeld, (by (with_reducible repeat (first | apply Kd.S_alloc | apply Kd.S_drewN | apply Kd.S_drew)); exact HO267.out), (zR HO270.out), (zK BK263.out), (zK BK264.out), (zK BK274.out), GW274.out, GE274.out, NB263_274.out, NB274_263.out, NB264_274.out, NB274_264.out, zB⟩)
                 · skip
                   rintro ⟨v269, v272, gb274⟩ w13 ⟨hS_, h0_, h1_, h2_, h3_, h4_, h5_, h6_, h7_, h8_, h9_, h10_, h11_⟩
                   have n0_ : Aside0 (Kd.R k54 54 w13 w.heap.size (fun _ => True) v269 y268) := ⟨h0_⟩
                   have n1_ : Aside0 (Kd.R (Kd.int .i64) 3 w13 w.heap.size (fun _ => True) v272 y271) := ⟨h1_⟩
                   have n2_ : Aside0 (w13.heap[gb263]? = some (.cells #[.slice A0_0 l0_0.length c0_0, .slice A0_1 l0_1.length c0_1] 30 (0, 0))) := ⟨h2_⟩
                   have n3_ : Aside0 (w13.heap[gb264]? = some (.cells #[.slice none 0 0, .slice none 0 0] 30 (0, 0))) := ⟨h3_⟩
                   have n4_ : Aside0 (w13.heap[gb274]? = some (.cells #[.slice none 0 0, .slice none 0 0] 30 (0, 0))) := ⟨h4_⟩
                   have n5_ : Aside0 (w.heap.size ≤ gb274) := ⟨h5_⟩
                   have n6_ : Aside0 (w.heap.size ≤ gb274) := ⟨h6_⟩
                   have n7_ : Aside0 (gb263 ≠ gb274) := ⟨h7_⟩
                   have n8_ : Aside0 (gb274 ≠ gb263) := ⟨h8_⟩
                   have n9_ : Aside0 (gb264 ≠ gb274) := ⟨h9_⟩
                   have n10_ : Aside0 (gb274 ≠ gb264) := ⟨h10_⟩
                   have n11_ : Aside0 (Below w.heap.size w w13) := ⟨h11_⟩
                   clear BK263
                   clear BK264
                   clear HB
                   clear h0_ h1_ h2_ h3_ h4_ h5_ h6_ h7_ h8_ h9_ h10_ h11_
                   have HO270 := n0_
                   have HO273 := n1_
                   have BK263 := n2_
                   have BK264 := n3_
                   have BK274 := n4_
                   have GW274 := n5_
                   have GE274 := n6_
                   have NB263_274 := n7_
                   have NB274_263 := n8_
                   have NB264_274 := n9_
                   have NB274_264 := n10_
                   have HB := n11_
                   clear n0_ n1_ n2_ n3_ n4_ n5_ n6_ n7_ n8_ n9_ n10_ n11_
                   have hHeld : w13.cell? ⟨gb263, 0, none⟩ = some (.slice A0_0 l0_0.length c0_0) ∧ w13.cell? ⟨gb263, 1, none⟩ = some (.slice A0_1 l0_1.length c0_1) := hS_
                   refine norm_ (a' := ?_) ?_ ?_
                   rotate_left
                   · simp only [putAll, Act.put, List.setIfInBounds_toArray, List.set_cons_zero, List.set_cons_succ]
                     rfl
                   refine one_ (i := 0) (N := some 12) #[true, true, false, true, true, true, true, true, false, false] rfl rfl (one_of HT_.out (by kernel_rfl)) (by decide) (fun K hK => ?_)
                   refine Kd.S_lit_step (Kd.slice 3 (Kd.int .i64)) _ 27 ?hg (N := 12) ?hd (xs := ([] : List (List Int))) (inner := []) (ok := fun _ => True) (okp := fun _ => True) ?hr ?hp (fun _ hk => hk) trivial (Below.refl _ _) (Nat.le_refl _) (by simp) ?_; (case hd => rfl); (case hg => rfl); (case hr => first | (go_simp; done) | (go_simp; rfl)); (case hp => exact (Reps.none _ _))
                   intro v266 w14 ho15 hb hg_ hnew_
                   clear hg_ hnew_
                   (first | rw [← Ny265.out] at ho15 | (simp only [Int.reduceToNat] at ho15; rw [← Ny265.out] at ho15))
                   replace HO270 := zM (Kd.R_below (zR HO270.out) hb)
                   have HO267 := zM (Kd.S_lower (Kd.S_new' ho15 (Kd.R_lt (zR HO273.out))) (below_size zB))
                   replace HO273 := zM (Kd.R_below (zR HO273.out) hb)
                   replace BK263 := zM (blk_below (g := gb263) (o := .cells #[.slice A0_0 l0_0.length c0_0, .slice A0_1 l0_1.length c0_1] 30 (0, 0)) (zK BK263.out) hb)
                   replace BK264 := zM (blk_below (g := gb264) (o := .cells #[.slice none 0 0, .slice none 0 0] 30 (0, 0)) (zK BK264.out) hb)
                   replace BK274 := zM (blk_below (g := gb274) (o := .cells #[.slice none 0 0, .slice none 0 0] 30 (0, 0)) (zK BK274.out) hb)
                   replace HB := zM (below_step zB hb)
                   clear hb ho15
                   obtain ⟨Ao16, co16, eo16⟩ := Kd.R_slice HO270.out
                   (first | subst eo16 | (injection eo16 with f1_ f2_ f3_; have f4_ := f1_.symm; have f5_ := f3_.symm; clear f1_ f2_ f3_; subst f4_; subst f5_))
                   obtain ⟨Ao17, co17, eo17⟩ := Kd.S_slice HO267.out
                   (first | subst eo17 | (injection eo17 with f1_ f2_ f3_; have f4_ := f1_.symm; have f5_ := f3_.symm; clear f1_ f2_ f3_; subst f4_; subst f5_))
                   refine hK.out _ _ ⟨(blk_cell BK263.out 0).trans rfl, (blk_cell BK263.out 1).trans rfl⟩ (fun hHeld => ?_)
                   clear hK K
                   refine zn 12 ?_
                   refine zp HT_ 2 14 ?_
                   exact norm_ (by first | (simp only [putAll, Act.put, List.setIfInBounds_toArray, List.set_cons_zero, List.set_cons_succ]; done) | (simp only [putAll, Act.put, List.setIfInBounds_toArray, List.set_cons_zero, List.set_cons_succ]; rfl)) (hJ0_1_6_7 (.slice Ao17 y265.length co17, .slice Ao16 y268.length co16, v272, gb274) _ ⟨hHeld, (by (with_reducible repeat (first | apply Kd.S_alloc | apply Kd.S_drewN | apply Kd.S_drew)); exact Kd.S_mono HO267.out (fun _ hk => hk.2)), (zR HO270.out), (zR HO273.out), (zK BK263.out), (zK BK264.out), (zK BK274.out), GW274.out, GE274.out, NB263_274.out, NB274_263.out, NB264_274.out, NB274_264.out, zB⟩)
               · skip
                 rintro ⟨v266, v272, gb274⟩ w13 ⟨hS_, h0_, h1_, h2_, h3_, h4_, h5_, h6_, h7_, h8_, h9_, h10_, h11_⟩
                 have n0_ : Aside0 (Kd.S (Kd.slice 3 (Kd.int .i64)) 27 w13 w.heap.size (fun k_ => some k_ ≠ (v272 : Value).ownBlock) v266 y265) := ⟨h0_⟩
                 have n1_ : Aside0 (Kd.R (Kd.int .i64) 3 w13 w.heap.size (fun _ => True) v272 y271) := ⟨h1_⟩
                 have n2_ : Aside0 (w13.heap[gb263]? = some (.cells #[.slice A0_0 l0_0.length c0_0, .slice A0_1 l0_1.length c0_1] 30 (0, 0))) := ⟨h2_⟩
                 have n3_ : Aside0 (w13.heap[gb264]? = some (.cells #[.slice none 0 0, .slice none 0 0] 30 (0, 0))) := ⟨h3_⟩
                 have n4_ : Aside0 (w13.heap[gb274]? = some (.cells #[.slice none 0 0, .slice none 0 0] 30 (0, 0))) := ⟨h4_⟩
                 have n5_ : Aside0 (w.heap.size ≤ gb274) := ⟨h5_⟩
                 have n6_ : Aside0 (w.heap.size ≤ gb274) := ⟨h6_⟩
                 have n7_ : Aside0 (gb263 ≠ gb274) := ⟨h7_⟩
                 have n8_ : Aside0 (gb274 ≠ gb263) := ⟨h8_⟩
                 have n9_ : Aside0 (gb264 ≠ gb274) := ⟨h9_⟩
                 have n10_ : Aside0 (gb274 ≠ gb264) := ⟨h10_⟩
                 have n11_ : Aside0 (Below w.heap.size w w13) := ⟨h11_⟩
                 clear BK263
                 clear BK264
                 clear HB
                 clear h0_ h1_ h2_ h3_ h4_ h5_ h6_ h7_ h8_ h9_ h10_ h11_
                 have HO267 := n0_
                 have HO273 := n1_
                 have BK263 := n2_
                 have BK264 := n3_
                 have BK274 := n4_
                 have GW274 := n5_
                 have GE274 := n6_
                 have NB263_274 := n7_
                 have NB274_263 := n8_
                 have NB264_274 := n9_
                 have NB274_264 := n10_
                 have HB := n11_
                 clear n0_ n1_ n2_ n3_ n4_ n5_ n6_ n7_ n8_ n9_ n10_ n11_
                 have hHeld : w13.cell? ⟨gb263, 0, none⟩ = some (.slice A0_0 l0_0.length c0_0) ∧ w13.cell? ⟨gb263, 1, none⟩ = some (.slice A0_1 l0_1.length c0_1) := hS_
                 refine norm_ (a' := ?_) ?_ ?_
                 rotate_left
                 · simp only [putAll, Act.put, List.setIfInBounds_toArray, List.set_cons_zero, List.set_cons_succ]
                   rfl
                 refine one_ (i := 1) (N := some 13) #[true, true, false, true, true, true, true, true, false, false] rfl rfl (one_of HT_.out (by kernel_rfl)) (by decide) (fun K hK => ?_)
                 refine Kd.R_lit_step k54 _ 54 ?hg (N := 13) ?hd (xs := ([] : List (S54))) (inner := []) (ok := fun _ => True) (okp := fun _ => True) ?hr ?hp (fun _ hk => hk) trivial (Below.refl _ _) (Nat.le_refl _) (by simp) ?_; (case hd => rfl); (case hg => rfl); (case hr => first | (go_simp; done) | (go_simp; rfl)); (case hp => exact (Reps.none _ _))
                 intro v269 w14 ho15 hb hg_ hnew_
                 clear hg_ hnew_
                 (first | rw [← Ny268.out] at ho15 | (simp only [Int.reduceToNat] at ho15; rw [← Ny268.out] at ho15))
                 replace HO267 := zM (Kd.S_below (by (with_reducible repeat (first | apply Kd.S_alloc | apply Kd.S_drewN | apply Kd.S_drew)); exact HO267.out) hb)
                 replace HO273 := zM (Kd.R_below (zR HO273.out) hb)
                 have HO270 := zM (Kd.R_lower ho15 (below_size zB))
                 replace BK263 := zM (blk_below (g := gb263) (o := .cells #[.slice A0_0 l0_0.length c0_0, .slice A0_1 l0_1.length c0_1] 30 (0, 0)) (zK BK263.out) hb)
                 replace BK264 := zM (blk_below (g := gb264) (o := .cells #[.slice none 0 0, .slice none 0 0] 30 (0, 0)) (zK BK264.out) hb)
                 replace BK274 := zM (blk_below (g := gb274) (o := .cells #[.slice none 0 0, .slice none 0 0] 30 (0, 0)) (zK BK274.out) hb)
                 replace HB := zM (below_step zB hb)
                 clear hb ho15
                 obtain ⟨Ao16, co16, eo16⟩ := Kd.R_slice HO270.out
                 (first | subst eo16 | (injection eo16 with f1_ f2_ f3_; have f4_ := f1_.symm; have f5_ := f3_.symm; clear f1_ f2_ f3_; subst f4_; subst f5_))
                 obtain ⟨Ao17, co17, eo17⟩ := Kd.S_slice HO267.out
                 (first | subst eo17 | (injection eo17 with f1_ f2_ f3_; have f4_ := f1_.symm; have f5_ := f3_.symm; clear f1_ f2_ f3_; subst f4_; subst f5_))
                 refine hK.out _ _ ⟨(blk_cell BK263.out 0).trans rfl, (blk_cell BK263.out 1).trans rfl⟩ (fun hHeld => ?_)
                 clear hK K
                 refine zn 13 ?_
                 refine zp HT_ 2 14 ?_
                 exact norm_ (by first | (simp only [putAll, Act.put, List.setIfInBounds_toArray, List.set_cons_zero, List.set_cons_succ]; done) | (simp only [putAll, Act.put, List.setIfInBounds_toArray, List.set_cons_zero, List.set_cons_succ]; rfl)) (hJ0_1_6_7 (.slice Ao17 y265.length co17, .slice Ao16 y268.length co16, v272, gb274) _ ⟨hHeld, (by (with_reducible repeat (first | apply Kd.S_alloc | apply Kd.S_drewN | apply Kd.S_drew)); exact HO267.out), (zR HO270.out), (zR HO273.out), (zK BK263.out), (zK BK264.out), (zK BK274.out), GW274.out, GE274.out, NB263_274.out, NB274_263.out, NB264_274.out, NB274_264.out, zB⟩)
             · skip
               rintro ⟨v266, v269, gb274⟩ w15 ⟨hS_, h0_, h1_, h2_, h3_, h4_, h5_, h6_, h7_, h8_, h9_, h10_, h11_⟩
               have n0_ : Aside0 (Kd.S (Kd.slice 3 (Kd.int .i64)) 27 w15 w.heap.size (fun _ => True) v266 y265) := ⟨h0_⟩
               have n1_ : Aside0 (Kd.R k54 54 w15 w.heap.size (fun _ => True) v269 y268) := ⟨h1_⟩
               have n2_ : Aside0 (w15.heap[gb263]? = some (.cells #[.slice A0_0 l0_0.length c0_0, .slice A0_1 l0_1.length c0_1] 30 (0, 0))) := ⟨h2_⟩
               have n3_ : Aside0 (w15.heap[gb264]? = some (.cells #[.slice none 0 0, .slice none 0 0] 30 (0, 0))) := ⟨h3_⟩
               have n4_ : Aside0 (w15.heap[gb274]? = some (.cells #[.slice none 0 0, .slice none 0 0] 30 (0, 0))) := ⟨h4_⟩
               have n5_ : Aside0 (w.heap.size ≤ gb274) := ⟨h5_⟩
               have n6_ : Aside0 (w.heap.size ≤ gb274) := ⟨h6_⟩
               have n7_ : Aside0 (gb263 ≠ gb274) := ⟨h7_⟩
               have n8_ : Aside0 (gb274 ≠ gb263) := ⟨h8_⟩
               have n9_ : Aside0 (gb264 ≠ gb274) := ⟨h9_⟩
               have n10_ : Aside0 (gb274 ≠ gb264) := ⟨h10_⟩
               have n11_ : Aside0 (Below w.heap.size w w15) := ⟨h11_⟩
               clear BK263
               clear BK264
               clear HB
               clear h0_ h1_ h2_ h3_ h4_ h5_ h6_ h7_ h8_ h9_ h10_ h11_
               have HO267 := n0_
               have HO270 := n1_
               have BK263 := n2_
               have BK264 := n3_
               have BK274 := n4_
               have GW274 := n5_
               have GE274 := n6_
               have NB263_274 := n7_
               have NB274_263 := n8_
               have NB264_274 := n9_
               have NB274_264 := n10_
               have HB := n11_
               clear n0_ n1_ n2_ n3_ n4_ n5_ n6_ n7_ n8_ n9_ n10_ n11_
               have hHeld : w15.cell? ⟨gb263, 0, none⟩ = some (.slice A0_0 l0_0.length c0_0) ∧ w15.cell? ⟨gb263, 1, none⟩ = some (.slice A0_1 l0_1.length c0_1) := hS_
               obtain ⟨Ao16, co16, eo16⟩ := Kd.R_slice HO270.out
               (first | subst eo16 | (injection eo16 with f1_ f2_ f3_; have f4_ := f1_.symm; have f5_ := f3_.symm; clear f1_ f2_ f3_; subst f4_; subst f5_))
               obtain ⟨Ao17, co17, eo17⟩ := Kd.S_slice HO267.out
               (first | subst eo17 | (injection eo17 with f1_ f2_ f3_; have f4_ := f1_.symm; have f5_ := f3_.symm; clear f1_ f2_ f3_; subst f4_; subst f5_))
               refine norm_ (a' := ?_) ?_ ?_
               rotate_left
               · simp only [putAll, Act.put, List.setIfInBounds_toArray, List.set_cons_zero, List.set_cons_succ]
                 rfl
               refine two_ (i := 6) (j := 8) (Ni := some 18) (Nj := none) #[true, true, true, true, true, true, true, true, false, false] #[true, true, true, true, true, true, false, true, true, false] rfl rfl rfl rfl (two_of HT_.out (by kernel_rfl)) (by decide) (by decide) (fun K hK => ?_) (fun K hK => ?_)
               · skip
                 refine Kd.R_make_step (Kd.int .i64) _ 3 (by rfl) (N := 18) rfl 27 _ _ rfl (l0_0.length : Int) rfl rfl Try.underlying27 (.int .i64 0) 8 info3 rfl (by decide) (by omega) 0 (ok := fun _ => True) (okp := fun _ => True) rfl (fun _ hk => hk) trivial (of_decide_eq_true zA) (Nat.le_trans (Nat.mul_le_mul_right _ (of_decide_eq_true zA : (l0_0.length : Int).toNat ≤ 35184372088832)) (by omega)) (Below.refl _ _) (Nat.le_refl _) ?_
                 intro v272 w18 ho19 hb hg_ hnew_
                 clear hg_ hnew_
                 (first | rw [← Ny271.out] at ho19 | (simp only [Int.reduceToNat] at ho19; rw [← Ny271.out] at ho19))
                 replace HO267 := zM (Kd.S_elder' (by (with_reducible repeat (first | apply Kd.S_alloc | apply Kd.S_drewN | apply Kd.S_drew)); exact HO267.out) (Kd.R_base ho19) hb)
                 replace HO270 := zM (Kd.R_below (zR HO270.out) hb)
                 have HO273 := zM (Kd.R_lower ho19 (below_size zB))
                 replace BK263 := zM (blk_below (g := gb263) (o := .cells #[.slice A0_0 l0_0.length c0_0, .slice A0_1 l0_1.length c0_1] 30 (0, 0)) (zK BK263.out) hb)
                 replace BK264 := zM (blk_below (g := gb264) (o := .cells #[.slice none 0 0, .slice none 0 0] 30 (0, 0)) (zK BK264.out) hb)
                 replace BK274 := zM (blk_below (g := gb274) (o := .cells #[.slice none 0 0, .slice none 0 0] 30 (0, 0)) (zK BK274.out) hb)
                 replace HB := zM (below_step zB hb)
                 clear hb ho19
                 refine hK.out _ _ ⟨(blk_cell BK263.out 0).trans rfl, (blk_cell BK263.out 1).trans rfl⟩ (fun hHeld => ?_)
                 clear hK K
                 refine zn 18 ?_
                 exact norm_ (by first | (simp only [putAll, Act.put, List.setIfInBounds_toArray, List.set_cons_zero, List.set_cons_succ]; done) | (simp only [putAll, Act.put, List.setIfInBounds_toArray, List.set_cons_zero, List.set_cons_succ]; rfl)) (hJ0_1_6_7 (.slice Ao17 y265.length co17, .slice Ao16 y268.length co16, v272, gb274) _ ⟨hHeld, (by (with_reducible repeat (first | apply Kd.S_alloc | apply Kd.S_drewN | apply Kd.S_drew)); exact Kd.S_mono HO267.out (fun _ hk => hk.2)), (zR HO270.out), (zR HO273.out), (zK BK263.out), (zK BK264.out), (zK BK274.out), GW274.out, GE274.out, NB263_274.out, NB274_263.out, NB264_274.out, NB274_264.out, zB⟩)
               · skip
                 have hs18 : w15.cell? ⟨gb274, 0, none⟩ = some (.slice none 0 0) := (blk_cell BK274.out 0).trans rfl
                 have hfs18 := blk_frozen BK274.out 0
                 have hns18_0 := NB263_274.out
                 have hns18_1 := NB264_274.out
                 have hms18_0 := NB274_263.out
                 have hms18_1 := NB274_264.out
                 have hs19 : w15.cell? ⟨gb274, 1, none⟩ = some (.slice none 0 0) := (blk_cell BK274.out 1).trans rfl
                 have hfs19 := blk_frozen BK274.out 1
                 have hns19_0 := NB263_274.out
                 have hns19_1 := NB264_274.out
                 have hms19_0 := NB274_263.out
                 have hms19_1 := NB274_264.out
                 refine skip_ (w1 := ?_) (by rfl) rfl ?_ ?_
                 rotate_left
                 · go_simp
                   rfl
                 refine hK.out _ _ ⟨((cell_far (p := ⟨gb274, _, none⟩) NB263_274.out _).trans (((cell_far (p := ⟨gb274, _, none⟩) NB263_274.out _).trans (hHeld.1)))), ((cell_far (p := ⟨gb274, _, none⟩) NB263_274.out _).trans (((cell_far (p := ⟨gb274, _, none⟩) NB263_274.out _).trans (hHeld.2))))⟩ (fun hHeld => ?_)
                 clear hK K
                 exact norm_ (by first | (simp only [putAll, Act.put, List.setIfInBounds_toArray, List.set_cons_zero, List.set_cons_succ]; done) | (simp only [putAll, Act.put, List.setIfInBounds_toArray, List.set_cons_zero, List.set_cons_succ]; rfl)) (hJ0_1_7_8 (.slice Ao17 y265.length co17, .slice Ao16 y268.length co16, gb274) _ ⟨hHeld, (by (with_reducible repeat (first | apply Kd.S_alloc | apply Kd.S_drewN | apply Kd.S_drew)); exact Kd.S_mono (Kd.S_far (p := ⟨gb274, 1, none⟩) (Kd.S_far (p := ⟨gb274, 0, none⟩) (Kd.S_types HO267.out BK274.out (by decide)) (fun _ hk => hk.2) (.slice Ao17 y265.length co17)) (fun _ hk => hk.2) (.slice Ao16 y268.length co16)) (fun _ hk => trivial)), (by (with_reducible repeat (first | apply Kd.R_alloc | apply Kd.R_drewN | apply Kd.R_drew)); exact Kd.R_mono (Kd.R_far (p := ⟨gb274, 1, none⟩) (Kd.R_far (p := ⟨gb274, 0, none⟩) (Kd.R_types HO270.out BK274.out (by decide)) (fun _ hk => hk.2) (.slice Ao17 y265.length co17)) (fun _ hk => hk.2) (.slice Ao16 y268.length co16)) (fun _ hk => trivial)), (by (with_reducible repeat (first | refine blk_drewN ?_ _ | refine blk_drew ?_ | refine blk_alloc ?_ _)); refine blk_far ?_ NB263_274.out _; (with_reducible repeat (first | refine blk_drewN ?_ _ | refine blk_drew ?_ | refine blk_alloc ?_ _)); refine blk_far ?_ NB263_274.out _; (with_reducible repeat (first | refine blk_drewN ?_ _ | refine blk_drew ?_ | refine blk_alloc ?_ _)); exact BK263.out), (by (with_reducible repeat (first | refine blk_drewN ?_ _ | refine blk_drew ?_ | refine blk_alloc ?_ _)); refine blk_far ?_ NB264_274.out _; (with_reducible repeat (first | refine blk_drewN ?_ _ | refine blk_drew ?_ | refine blk_alloc ?_ _)); refine blk_far ?_ NB264_274.out _; (with_reducible repeat (first | refine blk_drewN ?_ _ | refine blk_drew ?_ | refine blk_alloc ?_ _)); exact BK264.out), (by (with_reducible repeat (first | refine blk_drewN ?_ _ | refine blk_drew ?_ | refine blk_alloc ?_ _)); refine blk_put (cs := #[.slice Ao17 y265.length co17, .slice none 0 0]) ?_ 1 _ rfl; (with_reducible repeat (first | refine blk_drewN ?_ _ | refine blk_drew ?_ | refine blk_alloc ?_ _)); refine blk_put (cs := #[.slice none 0 0, .slice none 0 0]) ?_ 0 _ rfl; (with_reducible repeat (first | refine blk_drewN ?_ _ | refine blk_drew ?_ | refine blk_alloc ?_ _)); exact BK274.out), GW274.out, GE274.out, NB263_274.out, NB274_263.out, NB264_274.out, NB274_264.out, zB⟩)
           · skip
             rintro ⟨v266, v269, v272⟩ w16 ⟨hS_, h0_, h1_, h2_, h3_, h4_, h5_⟩
             have n0_ : Aside0 (Kd.S (Kd.slice 3 (Kd.int .i64)) 27 w16 w.heap.size (fun k_ => some k_ ≠ (v272 : Value).ownBlock) v266 y265) := ⟨h0_⟩
             have n1_ : Aside0 (Kd.R k54 54 w16 w.heap.size (fun _ => True) v269 y268) := ⟨h1_⟩
             have n2_ : Aside0 (Kd.R (Kd.int .i64) 3 w16 w.heap.size (fun _ => True) v272 y271) := ⟨h2_⟩
             have n3_ : Aside0 (w16.heap[gb263]? = some (.cells #[.slice A0_0 l0_0.length c0_0, .slice A0_1 l0_1.length c0_1] 30 (0, 0))) := ⟨h3_⟩
             have n4_ : Aside0 (w16.heap[gb264]? = some (.cells #[.slice none 0 0, .slice none 0 0] 30 (0, 0))) := ⟨h4_⟩
             have n5_ : Aside0 (Below w.heap.size w w16) := ⟨h5_⟩
             clear BK263
             clear BK264
             clear HB
             clear h0_ h1_ h2_ h3_ h4_ h5_
             have HO267 := n0_
             have HO270 := n1_
             have HO273 := n2_
             have BK263 := n3_
             have BK264 := n4_
             have HB := n5_
             clear n0_ n1_ n2_ n3_ n4_ n5_
             have hHeld : w16.cell? ⟨gb263, 0, none⟩ = some (.slice A0_0 l0_0.length c0_0) ∧ w16.cell? ⟨gb263, 1, none⟩ = some (.slice A0_1 l0_1.length c0_1) := hS_
             obtain ⟨Ao17, co17, eo17⟩ := Kd.R_slice HO270.out
             (first | subst eo17 | (injection eo17 with f1_ f2_ f3_; have f4_ := f1_.symm; have f5_ := f3_.symm; clear f1_ f2_ f3_; subst f4_; subst f5_))
             obtain ⟨Ao18, co18, eo18⟩ := Kd.S_slice HO267.out
             (first | subst eo18 | (injection eo18 with f1_ f2_ f3_; have f4_ := f1_.symm; have f5_ := f3_.symm; clear f1_ f2_ f3_; subst f4_; subst f5_))
             refine norm_ (a' := ?_) ?_ ?_
             rotate_left
             · simp only [putAll, Act.put, List.setIfInBounds_toArray, List.set_cons_zero, List.set_cons_succ]
               rfl
             refine one_ (i := 7) (N := some 5) #[true, true, true, true, true, true, true, true, false, false] rfl rfl (one_of HT_.out (by kernel_rfl)) (by decide) (fun K hK => ?_)
             refine box_step ?hg (N := 5) ?hd (cs := #[.slice none 0 0, .slice none 0 0]) (t := 30) ?hr ?_; (case hd => rfl); (case hg => rfl); (case hr => first | (go_simp; done) | (go_simp; rfl))
             intro gb274 hg w19 hbox hb
             replace HO267 := zM (Kd.S_below (by (with_reducible repeat (first | apply Kd.S_alloc | apply Kd.S_drewN | apply Kd.S_drew)); exact HO267.out) hb)
             replace HO270 := zM (Kd.R_below (zR HO270.out) hb)
             replace HO273 := zM (Kd.R_below (zR HO273.out) hb)
             have BK274 := zM (hbox)
             have GW274 := zM ((by rw [hg]; exact (below_size zB) : w.heap.size ≤ gb274))
             have GE274 := zM ((by rw [hg]; exact (below_size zB) : w.heap.size ≤ gb274))
             replace HB := zM (below_step zB hb)
             have NB263_274 := zM ((by rw [hg]; exact Nat.ne_of_lt (blk_lt (g := gb263) (o := .cells #[.slice A0_0 l0_0.length c0_0, .slice A0_1 l0_1.length c0_1] 30 (0, 0)) (zK BK263.out)) : gb263 ≠ gb274))
             have NB274_263 := zM ((by rw [hg]; exact Nat.ne_of_gt (blk_lt (g := gb263) (o := .cells #[.slice A0_0 l0_0.length c0_0, .slice A0_1 l0_1.length c0_1] 30 (0, 0)) (zK BK263.out)) : gb274 ≠ gb263))
             replace BK263 := zM (blk_below (g := gb263) (o := .cells #[.slice A0_0 l0_0.length c0_0, .slice A0_1 l0_1.length c0_1] 30 (0, 0)) (zK BK263.out) hb)
             have NB264_274 := zM ((by rw [hg]; exact Nat.ne_of_lt (blk_lt (g := gb264) (o := .cells #[.slice none 0 0, .slice none 0 0] 30 (0, 0)) (zK BK264.out)) : gb264 ≠ gb274))
             have NB274_264 := zM ((by rw [hg]; exact Nat.ne_of_gt (blk_lt (g := gb264) (o := .cells #[.slice none 0 0, .slice none 0 0] 30 (0, 0)) (zK BK264.out)) : gb274 ≠ gb264))
             replace BK264 := zM (blk_below (g := gb264) (o := .cells #[.slice none 0 0, .slice none 0 0] 30 (0, 0)) (zK BK264.out) hb)
             clear hb hbox hg
             refine hK.out _ _ ⟨(blk_cell BK263.out 0).trans rfl, (blk_cell BK263.out 1).trans rfl⟩ (fun hHeld => ?_)
             clear hK K
             refine zn 5 ?_
             exact norm_ (by first | (simp only [putAll, Act.put, List.setIfInBounds_toArray, List.set_cons_zero, List.set_cons_succ]; done) | (simp only [putAll, Act.put, List.setIfInBounds_toArray, List.set_cons_zero, List.set_cons_succ]; rfl)) (hJ0_1_6_7 (.slice Ao18 y265.length co18, .slice Ao17 y268.length co17, v272, gb274) _ ⟨hHeld, (by (with_reducible repeat (first | apply Kd.S_alloc | apply Kd.S_drewN | apply Kd.S_drew)); exact HO267.out), (zR HO270.out), (zR HO273.out), (zK BK263.out), (zK BK264.out), (zK BK274.out), GW274.out, GE274.out, NB263_274.out, NB274_263.out, NB264_274.out, NB274_264.out, zB⟩)
         · skip
           rintro ⟨v266, v269, gb274⟩ w17 ⟨hS_, h0_, h1_, h2_, h3_, h4_, h5_, h6_, h7_, h8_, h9_, h10_, h11_⟩
           have n0_ : Aside0 (Kd.S (Kd.slice 3 (Kd.int .i64)) 27 w17 w.heap.size (fun _ => True) v266 y265) := ⟨h0_⟩
           have n1_ : Aside0 (Kd.R k54 54 w17 w.heap.size (fun _ => True) v269 y268) := ⟨h1_⟩
           have n2_ : Aside0 (w17.heap[gb263]? = some (.cells #[.slice A0_0 l0_0.length c0_0, .slice A0_1 l0_1.length c0_1] 30 (0, 0))) := ⟨h2_⟩
           have n3_ : Aside0 (w17.heap[gb264]? = some (.cells #[.slice none 0 0, .slice none 0 0] 30 (0, 0))) := ⟨h3_⟩
           have n4_ : Aside0 (w17.heap[gb274]? = some (.cells #[v266, v269] 30 (0, 0))) := ⟨h4_⟩
           have n5_ : Aside0 (w.heap.size ≤ gb274) := ⟨h5_⟩
           have n6_ : Aside0 (w.heap.size ≤ gb274) := ⟨h6_⟩
           have n7_ : Aside0 (gb263 ≠ gb274) := ⟨h7_⟩
           have n8_ : Aside0 (gb274 ≠ gb263) := ⟨h8_⟩
           have n9_ : Aside0 (gb264 ≠ gb274) := ⟨h9_⟩
           have n10_ : Aside0 (gb274 ≠ gb264) := ⟨h10_⟩
           have n11_ : Aside0 (Below w.heap.size w w17) := ⟨h11_⟩
           clear BK263
           clear BK264
           clear HB
           clear h0_ h1_ h2_ h3_ h4_ h5_ h6_ h7_ h8_ h9_ h10_ h11_
           have HO267 := n0_
           have HO270 := n1_
           have BK263 := n2_
           have BK264 := n3_
           have BK274 := n4_
           have GW274 := n5_
           have GE274 := n6_
           have NB263_274 := n7_
           have NB274_263 := n8_
           have NB264_274 := n9_
           have NB274_264 := n10_
           have HB := n11_
           clear n0_ n1_ n2_ n3_ n4_ n5_ n6_ n7_ n8_ n9_ n10_ n11_
           have hHeld : w17.cell? ⟨gb263, 0, none⟩ = some (.slice A0_0 l0_0.length c0_0) ∧ w17.cell? ⟨gb263, 1, none⟩ = some (.slice A0_1 l0_1.length c0_1) := hS_
           obtain ⟨Ao18, co18, eo18⟩ := Kd.R_slice HO270.out
           (first | subst eo18 | (injection eo18 with f1_ f2_ f3_; have f4_ := f1_.symm; have f5_ := f3_.symm; clear f1_ f2_ f3_; subst f4_; subst f5_))
           obtain ⟨Ao19, co19, eo19⟩ := Kd.S_slice HO267.out
           (first | subst eo19 | (injection eo19 with f1_ f2_ f3_; have f4_ := f1_.symm; have f5_ := f3_.symm; clear f1_ f2_ f3_; subst f4_; subst f5_))
           refine norm_ (a' := ?_) ?_ ?_
           rotate_left
           · simp only [putAll, Act.put, List.setIfInBounds_toArray, List.set_cons_zero, List.set_cons_succ]
             rfl
           refine one_ (i := 6) (N := some 18) #[true, true, true, true, true, true, true, true, true, false] rfl rfl (one_of HT_.out (by kernel_rfl)) (by decide) (fun K hK => ?_)
           refine Kd.R_make_step (Kd.int .i64) _ 3 (by rfl) (N := 18) rfl 27 _ _ rfl (l0_0.length : Int) rfl rfl Try.underlying27 (.int .i64 0) 8 info3 rfl (by decide) (by omega) 0 (ok := fun _ => True) (okp := fun _ => True) rfl (fun _ hk => hk) trivial (of_decide_eq_true zA) (Nat.le_trans (Nat.mul_le_mul_right _ (of_decide_eq_true zA : (l0_0.length : Int).toNat ≤ 35184372088832)) (by omega)) (Below.refl _ _) (Nat.le_refl _) ?_
           intro v272 w20 ho21 hb hg_ hnew_
           clear hg_ hnew_
           (first | rw [← Ny271.out] at ho21 | (simp only [Int.reduceToNat] at ho21; rw [← Ny271.out] at ho21))
           replace HO267 := zM (Kd.S_elder' (by (with_reducible repeat (first | apply Kd.S_alloc | apply Kd.S_drewN | apply Kd.S_drew)); exact HO267.out) (Kd.R_base ho21) hb)
           replace HO270 := zM (Kd.R_below (zR HO270.out) hb)
           have HO273 := zM (Kd.R_lower ho21 (below_size zB))
           replace BK263 := zM (blk_below (g := gb263) (o := .cells #[.slice A0_0 l0_0.length c0_0, .slice A0_1 l0_1.length c0_1] 30 (0, 0)) (zK BK263.out) hb)
           replace BK264 := zM (blk_below (g := gb264) (o := .cells #[.slice none 0 0, .slice none 0 0] 30 (0, 0)) (zK BK264.out) hb)
           replace BK274 := zM (blk_below (g := gb274) (o := .cells #[.slice Ao19 y265.length co19, .slice Ao18 y268.length co18] 30 (0, 0)) (zK BK274.out) hb)
           replace HB := zM (below_step zB hb)
           clear hb ho21
           refine hK.out _ _ ⟨(blk_cell BK263.out 0).trans rfl, (blk_cell BK263.out 1).trans rfl⟩ (fun hHeld => ?_)
           clear hK K
           refine zn 18 ?_
           exact norm_ (by first | (simp only [putAll, Act.put, List.setIfInBounds_toArray, List.set_cons_zero, List.set_cons_succ]; done) | (simp only [putAll, Act.put, List.setIfInBounds_toArray, List.set_cons_zero, List.set_cons_succ]; rfl)) (hJ0_1_6_7_8 (.slice Ao19 y265.length co19, .slice Ao18 y268.length co18, v272, gb274) _ ⟨hHeld, (by (with_reducible repeat (first | apply Kd.S_alloc | apply Kd.S_drewN | apply Kd.S_drew)); exact Kd.S_mono HO267.out (fun _ hk => hk.2)), (zR HO270.out), (zR HO273.out), (zK BK263.out), (zK BK264.out), (zK BK274.out), GW274.out, GE274.out, NB263_274.out, NB274_263.out, NB264_274.out, NB274_264.out, zB⟩)
       · skip
         rintro ⟨v266, v269, v272, gb274⟩ w17 ⟨hS_, h0_, h1_, h2_, h3_, h4_, h5_, h6_, h7_, h8_, h9_, h10_, h11_, h12_⟩
         have n0_ : Aside0 (Kd.S (Kd.slice 3 (Kd.int .i64)) 27 w17 w.heap.size (fun k_ => some k_ ≠ (v272 : Value).ownBlock) v266 y265) := ⟨h0_⟩
         have n1_ : Aside0 (Kd.R k54 54 w17 w.heap.size (fun _ => True) v269 y268) := ⟨h1_⟩
         have n2_ : Aside0 (Kd.R (Kd.int .i64) 3 w17 w.heap.size (fun _ => True) v272 y271) := ⟨h2_⟩
         have n3_ : Aside0 (w17.heap[gb263]? = some (.cells #[.slice A0_0 l0_0.length c0_0, .slice A0_1 l0_1.length c0_1] 30 (0, 0))) := ⟨h3_⟩
         have n4_ : Aside0 (w17.heap[gb264]? = some (.cells #[.slice none 0 0, .slice none 0 0] 30 (0, 0))) := ⟨h4_⟩
         have n5_ : Aside0 (w17.heap[gb274]? = some (.cells #[.slice none 0 0, .slice none 0 0] 30 (0, 0))) := ⟨h5_⟩
         have n6_ : Aside0 (w.heap.size ≤ gb274) := ⟨h6_⟩
         have n7_ : Aside0 (w.heap.size ≤ gb274) := ⟨h7_⟩
         have n8_ : Aside0 (gb263 ≠ gb274) := ⟨h8_⟩
         have n9_ : Aside0 (gb274 ≠ gb263) := ⟨h9_⟩
         have n10_ : Aside0 (gb264 ≠ gb274) := ⟨h10_⟩
         have n11_ : Aside0 (gb274 ≠ gb264) := ⟨h11_⟩
         have n12_ : Aside0 (Below w.heap.size w w17) := ⟨h12_⟩
         clear BK263
         clear BK264
         clear HB
         clear h0_ h1_ h2_ h3_ h4_ h5_ h6_ h7_ h8_ h9_ h10_ h11_ h12_
         have HO267 := n0_
         have HO270 := n1_
         have HO273 := n2_
         have BK263 := n3_
         have BK264 := n4_
         have BK274 := n5_
         have GW274 := n6_
         have GE274 := n7_
         have NB263_274 := n8_
         have NB274_263 := n9_
         have NB264_274 := n10_
         have NB274_264 := n11_
         have HB := n12_
         clear n0_ n1_ n2_ n3_ n4_ n5_ n6_ n7_ n8_ n9_ n10_ n11_ n12_
         have hHeld : w17.cell? ⟨gb263, 0, none⟩ = some (.slice A0_0 l0_0.length c0_0) ∧ w17.cell? ⟨gb263, 1, none⟩ = some (.slice A0_1 l0_1.length c0_1) := hS_
         obtain ⟨Ao18, co18, eo18⟩ := Kd.R_slice HO270.out
         (first | subst eo18 | (injection eo18 with f1_ f2_ f3_; have f4_ := f1_.symm; have f5_ := f3_.symm; clear f1_ f2_ f3_; subst f4_; subst f5_))
         obtain ⟨Ao19, co19, eo19⟩ := Kd.S_slice HO267.out
         (first | subst eo19 | (injection eo19 with f1_ f2_ f3_; have f4_ := f1_.symm; have f5_ := f3_.symm; clear f1_ f2_ f3_; subst f4_; subst f5_))
         refine norm_ (a' := ?_) ?_ ?_
         rotate_left
         · simp only [putAll, Act.put, List.setIfInBounds_toArray, List.set_cons_zero, List.set_cons_succ]
           rfl
         refine one_ (i := 8) (N := none) #[true, true, true, true, true, true, true, true, true, false] rfl rfl (one_of HT_.out (by kernel_rfl)) (by decide) (fun K hK => ?_)
         have hs20 : w17.cell? ⟨gb274, 0, none⟩ = some (.slice none 0 0) := (blk_cell BK274.out 0).trans rfl
         have hfs20 := blk_frozen BK274.out 0
         have hns20_0 := NB263_274.out
         have hns20_1 := NB264_274.out
         have hms20_0 := NB274_263.out
         have hms20_1 := NB274_264.out
         have hs21 : w17.cell? ⟨gb274, 1, none⟩ = some (.slice none 0 0) := (blk_cell BK274.out 1).trans rfl
         have hfs21 := blk_frozen BK274.out 1
         have hns21_0 := NB263_274.out
         have hns21_1 := NB264_274.out
         have hms21_0 := NB274_263.out
         have hms21_1 := NB274_264.out
         refine skip_ (w1 := ?_) (by rfl) rfl ?_ ?_
         rotate_left
         · go_simp
           rfl
         refine hK.out _ _ ⟨((cell_far (p := ⟨gb274, _, none⟩) NB263_274.out _).trans (((cell_far (p := ⟨gb274, _, none⟩) NB263_274.out _).trans (hHeld.1)))), ((cell_far (p := ⟨gb274, _, none⟩) NB263_274.out _).trans (((cell_far (p := ⟨gb274, _, none⟩) NB263_274.out _).trans (hHeld.2))))⟩ (fun hHeld => ?_)
         clear hK K
         exact norm_ (by first | (simp only [putAll, Act.put, List.setIfInBounds_toArray, List.set_cons_zero, List.set_cons_succ]; done) | (simp only [putAll, Act.put, List.setIfInBounds_toArray, List.set_cons_zero, List.set_cons_succ]; rfl)) (hJ0_1_6_7_8 (.slice Ao19 y265.length co19, .slice Ao18 y268.length co18, v272, gb274) _ ⟨hHeld, (by (with_reducible repeat (first | apply Kd.S_alloc | apply Kd.S_drewN | apply Kd.S_drew)); exact Kd.S_mono (Kd.S_far (p := ⟨gb274, 1, none⟩) (Kd.S_far (p := ⟨gb274, 0, none⟩) (Kd.S_types HO267.out BK274.out (by decide)) (fun _ hk => hk.2) (.slice Ao19 y265.length co19)) (fun _ hk => hk.2) (.slice Ao18 y268.length co18)) (fun _ hk => hk.1)), (by (with_reducible repeat (first | apply Kd.R_alloc | apply Kd.R_drewN | apply Kd.R_drew)); exact Kd.R_mono (Kd.R_far (p := ⟨gb274, 1, none⟩) (Kd.R_far (p := ⟨gb274, 0, none⟩) (Kd.R_types HO270.out BK274.out (by decide)) (fun _ hk => hk.2) (.slice Ao19 y265.length co19)) (fun _ hk => hk.2) (.slice Ao18 y268.length co18)) (fun _ hk => trivial)), (by (with_reducible repeat (first | apply Kd.R_alloc | apply Kd.R_drewN | apply Kd.R_drew)); exact Kd.R_mono (Kd.R_far (p := ⟨gb274, 1, none⟩) (Kd.R_far (p := ⟨gb274, 0, none⟩) (Kd.R_types HO273.out BK274.out (by decide)) (fun _ hk => hk.2) (.slice Ao19 y265.length co19)) (fun _ hk => hk.2) (.slice Ao18 y268.length co18)) (fun _ hk => trivial)), (by (with_reducible repeat (first | refine blk_drewN ?_ _ | refine blk_drew ?_ | refine blk_alloc ?_ _)); refine blk_far ?_ NB263_274.out _; (with_reducible repeat (first | refine blk_drewN ?_ _ | refine blk_drew ?_ | refine blk_alloc ?_ _)); refine blk_far ?_ NB263_274.out _; (with_reducible repeat (first | refine blk_drewN ?_ _ | refine blk_drew ?_ | refine blk_alloc ?_ _)); exact BK263.out), (by (with_reducible repeat (first | refine blk_drewN ?_ _ | refine blk_drew ?_ | refine blk_alloc ?_ _)); refine blk_far ?_ NB264_274.out _; (with_reducible repeat (first | refine blk_drewN ?_ _ | refine blk_drew ?_ | refine blk_alloc ?_ _)); refine blk_far ?_ NB264_274.out _; (with_reducible repeat (first | refine blk_drewN ?_ _ | refine blk_drew ?_ | refine blk_alloc ?_ _)); exact BK264.out), (by (with_reducible repeat (first | refine blk_drewN ?_ _ | refine blk_drew ?_ | refine blk_alloc ?_ _)); refine blk_put (cs := #[.slice Ao19 y265.length co19, .slice none 0 0]) ?_ 1 _ rfl; (with_reducible repeat (first | refine blk_drewN ?_ _ | refine blk_drew ?_ | refine blk_alloc ?_ _)); refine blk_put (cs := #[.slice none 0 0, .slice none 0 0]) ?_ 0 _ rfl; (with_reducible repeat (first | refine blk_drewN ?_ _ | refine blk_drew ?_ | refine blk_alloc ?_ _)); exact BK274.out), GW274.out, GE274.out, NB263_274.out, NB274_263.out, NB264_274.out, NB274_264.out, zB⟩)
     rintro ⟨v266, v269, v272, gb274⟩ w19 ⟨hS_, h0_, h1_, h2_, h3_, h4_, h5_, h6_, h7_, h8_, h9_, h10_, h11_, h12_⟩
     have n0_ : Aside0 (Kd.S (Kd.slice 3 (Kd.int .i64)) 27 w19 w.heap.size (fun k_ => some k_ ≠ (v272 : Value).ownBlock) v266 y265) := ⟨h0_⟩
     have n1_ : Aside0 (Kd.R k54 54 w19 w.heap.size (fun _ => True) v269 y268) := ⟨h1_⟩
     have n2_ : Aside0 (Kd.R (Kd.int .i64) 3 w19 w.heap.size (fun _ => True) v272 y271) := ⟨h2_⟩
     have n3_ : Aside0 (w19.heap[gb263]? = some (.cells #[.slice A0_0 l0_0.length c0_0, .slice A0_1 l0_1.length c0_1] 30 (0, 0))) := ⟨h3_⟩
     have n4_ : Aside0 (w19.heap[gb264]? = some (.cells #[.slice none 0 0, .slice none 0 0] 30 (0, 0))) := ⟨h4_⟩
     have n5_ : Aside0 (w19.heap[gb274]? = some (.cells #[v266, v269] 30 (0, 0))) := ⟨h5_⟩
     have n6_ : Aside0 (w.heap.size ≤ gb274) := ⟨h6_⟩
     have n7_ : Aside0 (w.heap.size ≤ gb274) := ⟨h7_⟩
     have n8_ : Aside0 (gb263 ≠ gb274) := ⟨h8_⟩
     have n9_ : Aside0 (gb274 ≠ gb263) := ⟨h9_⟩
     have n10_ : Aside0 (gb264 ≠ gb274) := ⟨h10_⟩
     have n11_ : Aside0 (gb274 ≠ gb264) := ⟨h11_⟩
     have n12_ : Aside0 (Below w.heap.size w w19) := ⟨h12_⟩
     clear BK263
     clear BK264
     clear HB
     clear h0_ h1_ h2_ h3_ h4_ h5_ h6_ h7_ h8_ h9_ h10_ h11_ h12_
     have HO267 := n0_
     have HO270 := n1_
     have HO273 := n2_
     have BK263 := n3_
     have BK264 := n4_
     have BK274 := n5_
     have GW274 := n6_
     have GE274 := n7_
     have NB263_274 := n8_
     have NB274_263 := n9_
     have NB264_274 := n10_
     have NB274_264 := n11_
     have HB := n12_
     clear n0_ n1_ n2_ n3_ n4_ n5_ n6_ n7_ n8_ n9_ n10_ n11_ n12_
     have hHeld : w19.cell? ⟨gb263, 0, none⟩ = some (.slice A0_0 l0_0.length c0_0) ∧ w19.cell? ⟨gb263, 1, none⟩ = some (.slice A0_1 l0_1.length c0_1) := hS_
     obtain ⟨Ao20, co20, eo20⟩ := Kd.R_slice HO270.out
     (first | subst eo20 | (injection eo20 with f1_ f2_ f3_; have f4_ := f1_.symm; have f5_ := f3_.symm; clear f1_ f2_ f3_; subst f4_; subst f5_))
     obtain ⟨Ao21, co21, eo21⟩ := Kd.S_slice HO267.out
     (first | subst eo21 | (injection eo21 with f1_ f2_ f3_; have f4_ := f1_.symm; have f5_ := f3_.symm; clear f1_ f2_ f3_; subst f4_; subst f5_))
     refine norm_ (a' := ?_) ?_ ?_
     rotate_left
     · simp only [putAll, Act.put, List.setIfInBounds_toArray, List.set_cons_zero, List.set_cons_succ]
       rfl
     refine zp HT_ 9 6 ?_
     refine zo HT_ ?_
     try go_wp2
     go_loopg [7] k (fun kq v7 w' => ∃ (x6_1 : List Int) (x7_1 : Int), v7 = .int .i64 x7_1 ∧ Aside0 (spec_l2Induced.l0 kq l1 x6_1 x7_1 l0_0 l0_1 y265 y268 = some (r1, r2)) ∧ Aside0 (kq ≤ k) ∧ Aside0 (Kd.R (Kd.int .i64) 3 w' w.heap.size (fun _ => True) v272 x6_1) ∧ Aside0 (Kd.S (Kd.slice 3 (Kd.int .i64)) 27 w' w.heap.size (fun k_ => some k_ ≠ (v272 : Value).ownBlock) (.slice Ao21 y265.length co21) y265) ∧ Aside0 (Kd.R k54 54 w' w.heap.size (fun _ => True) (.slice Ao20 y268.length co20) y268) ∧ Aside0 (w'.heap[gb263]? = some (.cells #[(.slice A0_0 l0_0.length c0_0), (.slice A0_1 l0_1.length c0_1)] 30 (0, 0))) ∧ Aside0 (w'.heap[gb264]? = some (.cells #[(.slice none 0 0), (.slice none 0 0)] 30 (0, 0))) ∧ Aside0 (w'.heap[gb274]? = some (.cells #[(.slice Ao21 y265.length co21), (.slice Ao20 y268.length co20)] 30 (0, 0))) ∧ Aside0 (Below w.heap.size w w'))
     case atStart => exact ⟨(y271), (0), (by first | rfl | (simp; done) | (simp [*]; done)), H', ⟨Nat.le_refl _⟩, ⟨zR HO273.out⟩, ⟨by (with_reducible repeat (first | apply Kd.S_alloc | apply Kd.S_drewN | apply Kd.S_drew)); exact HO267.out⟩, ⟨zR HO270.out⟩, ⟨zK BK263.out⟩, ⟨zK BK264.out⟩, ⟨zK BK274.out⟩, ⟨zB⟩⟩
     case round =>
      clear H'
      try clear p2
      obtain ⟨x6_1, x7_1, rfl, HA, HK1, HO_6, HO_275000, HO_275001, BK263, BK264, BK274, HB⟩ := hrel
      cases gk with
      | zero => exact absurd HA.out (by simp [spec_l2Induced.l0])
      | succ k1 =>
       have H := HA.out
       clear HA
       simp only [spec_l2Induced.l0] at H
       by_cases c22 : x7_1 < (x6_1.length : Int)
       · rw [if_pos c22] at H
         have c22b0 := decide_eq_true c22
         clear c22
         by_cases c23 : 0 ≤ x7_1
         · rw [if_pos c23] at H
           have c23b0 := decide_eq_true c23
           clear c23
           obtain ⟨y275, hy275⟩ : ∃ y_ : List Int, y_ = (x6_1.set (x7_1 : Int).toNat (-1)) := ⟨_, rfl⟩
           replace H : (spec_l2Induced.l0 k1 l1 y275 (wrap64 (x7_1 + 1)) l0_0 l0_1 y265 y268) = some (r1, r2) := by first | (rw [hy275]; with_reducible exact H) | (have H2_ := (Option.bind_some _ _).symm.trans H; rw [hy275]; with_reducible exact H2_) | (have H2_ := (Option.bind_some _ _).symm.trans H; with_reducible exact H2_) | with_reducible exact H | (rw [hy275]; exact H) | exact H
           have Ny275 := Aside0.mk hy275
           clear hy275
           have H' := Aside0.mk H
           clear H
           obtain ⟨Ao25, co25, eo25⟩ := Kd.R_slice HO_6.out
           subst eo25
           have p24 : 0 ≤ (x7_1 : Int) := of_decide_eq_true zA
           have q24 : (x7_1 : Int) < ((x6_1.length : Int) : Int) := of_decide_eq_true zA
           obtain ⟨go24, co24, eo24, gb24, gl24, cl24, HG24⟩ := Kd.R_form HO_6.out (by omega)
           (first | cases eo24 | (injection eo24 with ea_ en_ ec_; (first | subst ea_ | (injection ea_ with ea_; subst ea_)); subst ec_; clear en_))
           have GB24 := Aside0.mk gb24
           have GG24 := Aside0.mk HG24
           clear gb24 gl24 HG24
           obtain ⟨hx24_0, hf24_0⟩ := Kd.R_celln 0 HO_6.out (x7_1 : Int) p24 q24
           replace p24 := eq_true p24
           replace q24 := eq_true q24
           have HP26 := Kd.R_putg HO_6.out (x7_1 : Int) (-1)
           go_wp2_with (first | ((with_reducible refine gate_store (t := 3) (p := 27) rfl ?_); refine store_event (t := 3) (p := 27) (v := ?vo_w27) (w1 := (wr.setCell ⟨go24, (x7_1 : Int).toNat, none⟩ (.int .i64 (-1)))) ?hg ?ho ?hn ?hr ?_; (case ho => rfl); (case hg => rfl); (case hn => rfl); (case hr => first | (go_simp; done) | (go_simp; rfl)); intro w27 hw; have hg : wr.grownBy w27 (some go24) := (by rw [hw]; exact HP26.2); have hp_ : Kd.R (Kd.int .i64) 3 w27 w.heap.size (fun _ => True) (.slice (some ⟨go24, 0, none⟩) x6_1.length co25) y275 := (by rw [hw, Ny275.out]; exact HP26.1); clear HP26; replace HO_275000 := zM (Kd.S_after (v := (.slice (some ⟨go24, 0, none⟩) x6_1.length co25)) (v1 := (.slice (some ⟨go24, 0, none⟩) x6_1.length co25)) (ok := (fun _ => True)) (by (with_reducible repeat (first | apply Kd.S_alloc | apply Kd.S_drewN | apply Kd.S_drew)); exact Kd.S_mono HO_275000.out (fun _ hk => ⟨trivial, hk⟩)) hg (.inl rfl)); replace HO_275001 := zM (Kd.R_over' (v := (.slice (some ⟨go24, 0, none⟩) x6_1.length co25)) (zR HO_275001.out) (Kd.R_typed HO_6.out) (by decide) hg); replace BK263 := zM (blk_grown (g := gb263) (o := .cells #[.slice A0_0 l0_0.length c0_0, .slice A0_1 l0_1.length c0_1] 30 (0, 0)) (zK BK263.out) hg (Kd.R_ne HO_6.out BK263.out (by decide))); replace BK264 := zM (blk_grown (g := gb264) (o := .cells #[.slice none 0 0, .slice none 0 0] 30 (0, 0)) (zK BK264.out) hg (Kd.R_ne HO_6.out BK264.out (by decide))); replace BK274 := zM (blk_grown (g := gb274) (o := .cells #[.slice Ao21 y265.length co21, .slice Ao20 y268.length co20] 30 (0, 0)) (zK BK274.out) hg (Kd.R_ne HO_6.out BK274.out (by decide))); replace HO_6 := zM (hp_); replace HB := zM ((by rw [hw]; exact below_set (HB.out) GB24.out : Below w.heap.size w w27)); clear hg hw hp_))
           go_roundg k1
           case measure => have := HK1.out; omega
           case rel => exact ⟨(y275), (wrap64 (x7_1 + 1)), (by first | rfl | (simp; done) | (simp [*]; done)), H', ⟨by have := HK1.out; omega⟩, ⟨zR HO_6.out⟩, ⟨by (with_reducible repeat (first | apply Kd.S_alloc | apply Kd.S_drewN | apply Kd.S_drew)); exact Kd.S_mono HO_275000.out (fun _ hk => hk.2)⟩, ⟨zR HO_275001.out⟩, ⟨zK BK263.out⟩, ⟨zK BK264.out⟩, ⟨zK BK274.out⟩, ⟨zB⟩⟩
         · rw [if_neg c23] at H
           exact absurd H (by simp)
       · rw [if_neg c22] at H
         have c22b0 : decide (x7_1 < (x6_1.length : Int)) = false := decide_eq_false c22
         clear c22
         have H' := Aside0.mk H
         clear H
         obtain ⟨Ao28, co28, eo28⟩ := Kd.R_slice HO_6.out
         subst eo28
         go_wp2
         go_loopg [8] k1 (fun kq v8 w' => ∃ (x6_2 : List Int) (x8_2 : Int) (x275000_2 : List (List Int)) (u275000 : Value), v8 = .int .i64 x8_2 ∧ Aside0 (spec_l2Induced.l1 kq l1 x6_2 x8_2 l0_0 l0_1 x275000_2 y268 = some (r1, r2)) ∧ Aside0 (kq ≤ k1) ∧ Aside0 (Kd.R (Kd.int .i64) 3 w' w.heap.size (fun _ => True) (.slice Ao28 x6_1.length co28) x6_2) ∧ Aside0 (Kd.S (Kd.slice 3 (Kd.int .i64)) 27 w' w.heap.size (fun k_ => some k_ ≠ ((.slice Ao28 x6_1.length co28) : Value).ownBlock) u275000 x275000_2) ∧ Aside0 (Kd.R k54 54 w' w.heap.size (fun _ => True) (.slice Ao20 y268.length co20) y268) ∧ Aside0 (w'.heap[gb263]? = some (.cells #[(.slice A0_0 l0_0.length c0_0), (.slice A0_1 l0_1.length c0_1)] 30 (0, 0))) ∧ Aside0 (w'.heap[gb264]? = some (.cells #[(.slice none 0 0), (.slice none 0 0)] 30 (0, 0))) ∧ Aside0 (w'.heap[gb274]? = some (.cells #[u275000, (.slice Ao20 y268.length co20)] 30 (0, 0))) ∧ Aside0 (Below w.heap.size w w'))
         case atStart => exact ⟨(x6_1), (0), (y265), (.slice Ao21 y265.length co21), (by first | rfl | (simp; done) | (simp [*]; done)), H', ⟨Nat.le_refl _⟩, ⟨zR HO_6.out⟩, ⟨by (with_reducible repeat (first | apply Kd.S_alloc | apply Kd.S_drewN | apply Kd.S_drew)); exact HO_275000.out⟩, ⟨zR HO_275001.out⟩, ⟨zK BK263.out⟩, ⟨zK BK264.out⟩, ⟨zK BK274.out⟩, ⟨zB⟩⟩
         case round =>
          clear H'
          try clear c2
          try clear p2
          try clear q2
          try clear hx2
          try clear hf2
          try clear p6
          try clear c22
          try clear c22b0
          try clear c23
          try clear c23b0
          try clear p24
          try clear q24
          try clear hx24
          try clear hf24
          try clear hx24_0
          try clear p2
          try clear p24
          try clear q24
          obtain ⟨x6_2, x8_2, x275000_2, u275000, rfl, HA, HK2, HO_6, HO_275000, HO_275001, BK263, BK264, BK274, HB⟩ := hrel
          have hl6_2 := (Kd.R_reads' HO_6.out).1
          rw [hl6_2] at HO_6
          (try simp only [hl6_2])
          (try simp only [hl6_2] at BK263)
          (try simp only [hl6_2] at BK264)
          (try simp only [hl6_2] at BK274)
          (try simp only [hl6_2] at HO_275000)
          (try simp only [hl6_2] at HO_275001)
          cases gk with
          | zero => exact absurd HA.out (by simp [spec_l2Induced.l1])
          | succ k2 =>
           have H := HA.out
           clear HA
           simp only [spec_l2Induced.l1] at H
           by_cases c29 : x8_2 < (l1.length : Int)
           · rw [if_pos c29] at H
             have c29b0 := decide_eq_true c29
             clear c29
             by_cases c30 : 0 ≤ x8_2
             · rw [if_pos c30] at H
               have c30b0 := decide_eq_true c30
               clear c30
               by_cases c31 : 0 ≤ (rd l1 x8_2)
               · rw [if_pos c31] at H
                 have c31b0 := decide_eq_true c31
                 clear c31
                 by_cases c32 : (rd l1 x8_2) < (x6_2.length : Int)
                 · rw [if_pos c32] at H
                   have c32b0 := decide_eq_true c32
                   clear c32
                   obtain ⟨y277, hy277⟩ : ∃ y_ : List Int, y_ = (x6_2.set ((rd l1 x8_2) : Int).toNat x8_2) := ⟨_, rfl⟩
                   replace H : (if (rd l1 x8_2) < (l0_0.length : Int) then ((spec_l1Own.f (rd_L1 l0_0 (rd l1 x8_2))).bind fun t280 => (if x275000_2.length < 5864062014805 then (spec_l2Induced.l1 k2 l1 y277 (wrap64 (x8_2 + 1)) l0_0 l0_1 (x275000_2 ++ [t280]) y268) else (none))) else (none)) = some (r1, r2) := by first | (rw [hy277]; with_reducible exact H) | (have H2_ := (Option.bind_some _ _).symm.trans H; rw [hy277]; with_reducible exact H2_) | (have H2_ := (Option.bind_some _ _).symm.trans H; with_reducible exact H2_) | with_reducible exact H | (rw [hy277]; exact H) | exact H
                   have Ny277 := Aside0.mk hy277
                   clear hy277
                   by_cases c34 : (rd l1 x8_2) < (l0_0.length : Int)
                   · rw [if_pos c34] at H
                     have c34b0 := decide_eq_true c34
                     clear c34
                     replace H := Option.bind_eq_some_iff.mp H
                     obtain ⟨t280, A350, H⟩ := H
                     replace H : (if x275000_2.length < 5864062014805 then (spec_l2Induced.l1 k2 l1 y277 (wrap64 (x8_2 + 1)) l0_0 l0_1 (x275000_2 ++ [t280]) y268) else (none)) = some (r1, r2) := H
                     have A35 := Aside0.mk A350
                     clear A350
                     by_cases c36 : x275000_2.length < 5864062014805
                     · rw [if_pos c36] at H
                       have LMc36 := Aside0.mk c36
                       clear c36
                       obtain ⟨y283, hy283⟩ : ∃ y_ : List (List Int), y_ = (x275000_2 ++ [t280]) := ⟨_, rfl⟩
                       replace H : (spec_l2Induced.l1 k2 l1 y277 (wrap64 (x8_2 + 1)) l0_0 l0_1 y283 y268) = some (r1, r2) := by first | (rw [hy283]; with_reducible exact H) | (have H2_ := (Option.bind_some _ _).symm.trans H; rw [hy283]; with_reducible exact H2_) | (have H2_ := (Option.bind_some _ _).symm.trans H; with_reducible exact H2_) | with_reducible exact H | (rw [hy283]; exact H) | exact H
                       have Ny283 := Aside0.mk hy283
                       clear hy283
                       have H' := Aside0.mk H
                       clear H
                       have p276 : 0 ≤ (x8_2 : Int) := of_decide_eq_true zA
                       have q276 : x8_2 < (l1.length : Int) := of_decide_eq_true zA
                       obtain ⟨ad276, e276, hx276_0⟩ := Kd.at_int HR1.out x8_2 p276 q276
                       cases e276
                       (try replace hx276_0 := (HB.out.cell (World.block_lt_of_cell? w _ hx276_0)).trans hx276_0)
                       replace p276 := eq_true p276
                       replace q276 := eq_true q276
                       have p33 : 0 ≤ ((rd l1 x8_2) : Int) := of_decide_eq_true zA
                       have q33 : ((rd l1 x8_2) : Int) < ((x6_2.length : Int) : Int) := of_decide_eq_true zA
                       obtain ⟨go33, co33, eo33, gb33, gl33, cl33, HG33⟩ := Kd.R_form HO_6.out (by omega)
                       (first | cases eo33 | (injection eo33 with ea_ en_ ec_; (first | subst ea_ | (injection ea_ with ea_; subst ea_)); subst ec_; clear en_))
                       have GB33 := Aside0.mk gb33
                       have GG33 := Aside0.mk HG33
                       clear gb33 gl33 HG33
                       obtain ⟨hx33_0, hf33_0⟩ := Kd.R_celln 0 HO_6.out ((rd l1 x8_2) : Int) p33 q33
                       replace p33 := eq_true p33
                       replace q33 := eq_true q33
                       have HP37 := Kd.R_putg HO_6.out ((rd l1 x8_2) : Int) x8_2
                       try go_wp2_with (first | ((with_reducible refine gate_store (t := 3) (p := 40) rfl ?_); refine store_event (t := 3) (p := 40) (v := ?vo_w38) (w1 := (wr.setCell ⟨go33, ((rd l1 x8_2) : Int).toNat, none⟩ (.int .i64 x8_2))) ?hg ?ho ?hn ?hr ?_; (case ho => rfl); (case hg => rfl); (case hn => rfl); (case hr => first | (go_simp; done) | (go_simp; rfl)); intro w38 hw; have hg : wr.grownBy w38 (some go33) := (by rw [hw]; exact HP37.2); have hp_ : Kd.R (Kd.int .i64) 3 w38 w.heap.size (fun _ => True) (.slice (some ⟨go33, 0, none⟩) x6_2.length co28) y277 := (by rw [hw, Ny277.out]; exact HP37.1); clear HP37; replace HO_275000 := zM (Kd.S_after (v := (.slice (some ⟨go33, 0, none⟩) x6_2.length co28)) (v1 := (.slice (some ⟨go33, 0, none⟩) x6_2.length co28)) (ok := (fun _ => True)) (by (with_reducible repeat (first | apply Kd.S_alloc | apply Kd.S_drewN | apply Kd.S_drew)); exact Kd.S_mono HO_275000.out (fun _ hk => ⟨trivial, hk⟩)) hg (.inl rfl)); replace HO_275001 := zM (Kd.R_over' (v := (.slice (some ⟨go33, 0, none⟩) x6_2.length co28)) (zR HO_275001.out) (Kd.R_typed HO_6.out) (by decide) hg); replace BK263 := zM (blk_grown (g := gb263) (o := .cells #[.slice A0_0 l0_0.length c0_0, .slice A0_1 l0_1.length c0_1] 30 (0, 0)) (zK BK263.out) hg (Kd.R_ne HO_6.out BK263.out (by decide))); replace BK264 := zM (blk_grown (g := gb264) (o := .cells #[.slice none 0 0, .slice none 0 0] 30 (0, 0)) (zK BK264.out) hg (Kd.R_ne HO_6.out BK264.out (by decide))); replace BK274 := zM (blk_grown (g := gb274) (o := .cells #[u275000, .slice Ao20 y268.length co20] 30 (0, 0)) (zK BK274.out) hg (Kd.R_ne HO_6.out BK274.out (by decide))); replace HO_6 := zM (hp_); replace HB := zM ((by rw [hw]; exact below_set (HB.out) GB33.out : Below w.heap.size w w38)); clear hg hw hp_))
                       replace HO_6 := zM (Kd.R_drew HO_6.out)
                       replace HO_275000 := zM (Kd.S_drew HO_275000.out)
                       replace HO_275001 := zM (Kd.R_drew HO_275001.out)
                       replace BK263 := zM (blk_drew BK263.out)
                       replace BK264 := zM (blk_drew BK264.out)
                       replace BK274 := zM (blk_drew BK274.out)
                       replace HB := zM (below_drew1 HB.out)
                       have p278 : 0 ≤ (x8_2 : Int) := of_decide_eq_true zA
                       have q278 : x8_2 < (l1.length : Int) := of_decide_eq_true zA
                       obtain ⟨ad278, e278, hx278_0⟩ := Kd.at_int HR1.out x8_2 p278 q278
                       have hw278_0 := hx278_0
                       obtain rfl : ad276 = ad278 := (by injection e278)
                       (try replace hx278_0 := (HB.out.cell (World.block_lt_of_cell? w _ hx278_0)).trans hx278_0)
                       replace p278 := eq_true p278
                       replace q278 := eq_true q278
                       have p279 : 0 ≤ ((rd l1 x8_2) : Int) := of_decide_eq_true zA
                       have q279 : (rd l1 x8_2) < (l0_0.length : Int) := of_decide_eq_true zA
                       obtain ⟨ad279, A279_0, c279_0, e279, hx279_0, hl279_0, hi279_0⟩ := at_L1 HR0_0.out (rd l1 x8_2) p279 q279
                       have hw279_0 := hx279_0
                       cases e279
                       (try replace hx279_0 := (HB.out.cell (World.block_lt_of_cell? w _ hx279_0)).trans hx279_0)
                       have HR279_0 := Aside0.mk hi279_0
                       have HC279_0 := Aside0.mk hl279_0
                       clear hi279_0 hl279_0
                       replace p279 := eq_true p279
                       replace q279 := eq_true q279
                       refine start_ (n := 15) (S := fun w' => w'.cell? ⟨gb274, 0, none⟩ = some (u275000) ∧ w'.cell? ⟨gb274, 1, none⟩ = some (.slice Ao20 y268.length co20) ∧ w'.cell? ⟨gb263, 0, none⟩ = some (.slice (some ad279) l0_0.length c0_0) ∧ w'.cell? ⟨gb263, 1, none⟩ = some (.slice A0_1 l0_1.length c0_1) ∧ w'.cell? (ad276.add (x8_2).toNat) = some (.int .i64 (rd l1 x8_2)) ∧ w'.cell? (ad279.add ((rd l1 x8_2)).toNat) = some (.slice A279_0 (rd_L1 l0_0 (rd l1 x8_2)).length c279_0)) (ds := [14]) #[false, false, false, false, false, false, false, false, false, false, false, false, false, false, false] (by kernel_rfl) rfl rfl ⟨(blk_cell BK274.out 0).trans rfl, (blk_cell BK274.out 1).trans rfl, (blk_cell BK263.out 0).trans rfl, (blk_cell BK263.out 1).trans rfl, ((HB.out.cell (World.block_lt_of_cell? w _ hw278_0)).trans hw278_0), ((HB.out.cell (World.block_lt_of_cell? w _ hw279_0)).trans hw279_0)⟩ (fun hHeld => ?_); refine with_tabW spec_l2Induced.tab10 spec_l2Induced.bits10 (fun HT_ HW_ => ?_)
                       generalize w38.drew = w39 at HO_6 HO_275000 HO_275001 BK263 BK264 BK274 HB HR279_0 hx278_0 hx279_0 hHeld ⊢
                       refine zp HT_ 0 41 ?_
                       refine zp HT_ 2 43 ?_
                       refine zp HT_ 4 45 ?_
                       refine zp HT_ 5 46 ?_
                       refine zp HT_ 6 47 ?_
                       refine zt HT_ HW_ 1 42 hHeld ?_ (hy := by rintro w' ⟨s0, s1, s2, s3, s4, s5⟩; go_simp; with_reducible rfl)
                       refine zt HT_ HW_ 3 44 hHeld ?_ (hy := by rintro w' ⟨s0, s1, s2, s3, s4, s5⟩; go_simp; with_reducible rfl)
                       refine zt HT_ HW_ 7 48 hHeld ?_ (hy := by rintro w' ⟨s0, s1, s2, s3, s4, s5⟩; go_simp; with_reducible rfl)
                       refine zp HT_ 8 49 ?_
                       refine zt HT_ HW_ 9 50 hHeld ?_ (hy := by rintro w' ⟨s0, s1, s2, s3, s4, s5⟩; go_simp; with_reducible rfl)
                       refine zg HT_ 10 51 Try.func17 #[.slice A279_0 (rd_L1 l0_0 (rd l1 x8_2)).length c279_0] (fun K hK => ?_)
                       with_reducible refine (spec_l1Own.calls _ _ (rd_L1 l0_0 (rd l1 x8_2)) t280 _ ?side1 ?side2 A35.out).mono ?_
                       (case side1 => exact zC (Kd.C_below HR279_0.out HB.out))
                       (case side2 => exact HC279_0.out)
                       rintro e w40 ⟨v281, rfl, ho0, hb⟩
                       refine ⟨_, rfl, ?_⟩
                       replace HO_275000 := zM (Kd.S_elder' (by (with_reducible repeat (first | apply Kd.S_alloc | apply Kd.S_drewN | apply Kd.S_drew)); exact HO_275000.out) (Kd.R_base ho0) hb)
                       replace HO_275001 := zM (Kd.R_below (zR HO_275001.out) hb)
                       have HO282 := zM (Kd.R_lower (Kd.R_new' ho0 (Kd.R_lt (zR HO_6.out))) (below_size zB))
                       replace HO_6 := zM (Kd.R_elder' (zR HO_6.out) (Kd.R_base ho0) hb)
                       replace BK263 := zM (blk_below (g := gb263) (o := .cells #[.slice (some ad279) l0_0.length c0_0, .slice A0_1 l0_1.length c0_1] 30 (0, 0)) (zK BK263.out) hb)
                       replace BK264 := zM (blk_below (g := gb264) (o := .cells #[.slice none 0 0, .slice none 0 0] 30 (0, 0)) (zK BK264.out) hb)
                       replace BK274 := zM (blk_below (g := gb274) (o := .cells #[u275000, .slice Ao20 y268.length co20] 30 (0, 0)) (zK BK274.out) hb)
                       replace HB := zM (below_step zB hb)
                       (try clear hb)
                       (try clear hb2)
                       (try clear hk)
                       (try clear hi)
                       (try clear ho0)
                       obtain ⟨Ao42, co42, eo42⟩ := Kd.R_slice HO282.out
                       (first | subst eo42 | (injection eo42 with f1_ f2_ f3_; have f4_ := f1_.symm; have f5_ := f3_.symm; clear f1_ f2_ f3_; subst f4_; subst f5_))
                       refine hK.out _ _ ⟨(blk_cell BK274.out 0).trans rfl, (blk_cell BK274.out 1).trans rfl, (blk_cell BK263.out 0).trans rfl, (blk_cell BK263.out 1).trans rfl, ((HB.out.cell (World.block_lt_of_cell? w _ hw278_0)).trans hw278_0), ((HB.out.cell (World.block_lt_of_cell? w _ hw279_0)).trans hw279_0)⟩ (fun hHeld => ?_)
                       clear hK K
                       refine zn 51 ?_
                       refine one_ (i := 11) (N := some 52) #[true, true, true, true, true, true, true, true, true, true, true, true, false, false, false] rfl rfl (one_of HT_.out (by kernel_rfl)) (by decide) (fun K hK => ?_)
                       refine value_ (w1 := ?_) (v := ?_) (by rfl) rfl ?_ ?_
                       rotate_left 2
                       · go_simp
                         constructor
                         · rfl
                         · rfl
                       refine hK.out _ _ ⟨(blk_cell (blk_alloc BK274.out _) 0).trans rfl, (blk_cell (blk_alloc BK274.out _) 1).trans rfl, (blk_cell (blk_alloc BK263.out _) 0).trans rfl, (blk_cell (blk_alloc BK263.out _) 1).trans rfl, (World.cell?_alloc_lt _ _ _ (World.block_lt_of_cell? _ _ (((HB.out.cell (World.block_lt_of_cell? w _ hw278_0)).trans hw278_0)))).trans (((HB.out.cell (World.block_lt_of_cell? w _ hw278_0)).trans hw278_0)), (World.cell?_alloc_lt _ _ _ (World.block_lt_of_cell? _ _ (((HB.out.cell (World.block_lt_of_cell? w _ hw279_0)).trans hw279_0)))).trans (((HB.out.cell (World.block_lt_of_cell? w _ hw279_0)).trans hw279_0))⟩ (fun hHeld => ?_)
                       clear hK K
                       refine zn 52 ?_
                       refine one_ (i := 12) (N := some 53) #[true, true, true, true, true, true, true, true, true, true, true, true, true, false, false] rfl rfl (one_of HT_.out (by kernel_rfl)) (by decide) (fun K hK => ?_)
                       refine Kd.S_append_step (Kd.slice 3 (Kd.int .i64)) (w0 := w) w.heap.size (by rfl) (.tmp 42) (.tmp 52) 22 27 (.slice none 0 0) 24 rfl Try.underlying22 info27 rfl (by decide) (by omega) u275000 x275000_2 t280 [.slice Ao42 t280.length co42] (fun k_ => some k_ ≠ (.slice (some ⟨go33, 0, none⟩) x6_2.length co28 : Value).ownBlock) (fun k_ => some k_ = (.slice Ao42 t280.length co42 : Value).ownBlock) rfl rfl ?aP (fun k_ hk_ => ((Kd.R_mono (ok' := fun k_ => ((fun k_ => some k_ ≠ (.slice (some ⟨go33, 0, none⟩) x6_2.length co28 : Value).ownBlock)) k_ ∧ some k_ ≠ (u275000 : Value).ownBlock) (Kd.R_apart' (HO282.out) (Kd.S_typed HO_275000.out) (by decide)) (fun k_ hk => ⟨hk.1.2, hk.2⟩))).1 k_ hk_.symm) ?aF ?aO ?aB ?aS ?aL ?_
                       (case aP => exact Kd.M_row (Kd.R_mono (Kd.R_tight rfl (Kd.R_mono (ok' := fun k_ => ((fun k_ => some k_ ≠ (.slice (some ⟨go33, 0, none⟩) x6_2.length co28 : Value).ownBlock)) k_ ∧ some k_ ≠ (u275000 : Value).ownBlock) (Kd.R_apart' (HO282.out) (Kd.S_typed HO_275000.out) (by decide)) (fun k_ hk => ⟨hk.1.2, hk.2⟩))) (fun _ h_ => h_)))
                       (case aB => exact zB)
                       (case aF => exact (fun k_ hk => Kd.fresh' (Kd.R_lt (zR HO_6.out)) k_ hk))
                       (case aO => exact (by (with_reducible repeat (first | apply Kd.S_alloc | apply Kd.S_drewN | apply Kd.S_drew)); exact Kd.S_mono HO_275000.out (fun k_ hk => ⟨hk.1.2, fun e_ => hk.2 e_⟩)))
                       (case aS => exact (below_size zB))
                       (case aL => have := LMc36.out; omega)
                       intro v284 w41 ho hb hg hat
                       rw [← Ny283.out] at ho
                       replace HO_6 := zM (Kd.R_over' (zR HO_6.out) (Kd.S_typed (by (with_reducible repeat (first | apply Kd.S_alloc | apply Kd.S_drewN | apply Kd.S_drew)); exact HO_275000.out)) (by decide) hg)
                       replace HO_275001 := zM (Kd.R_over' (zR HO_275001.out) (Kd.S_typed (by (with_reducible repeat (first | apply Kd.S_alloc | apply Kd.S_drewN | apply Kd.S_drew)); exact HO_275000.out)) (by decide) hg)
                       replace BK263 := zM (blk_grown (g := gb263) (o := .cells #[.slice (some ad279) l0_0.length c0_0, .slice A0_1 l0_1.length c0_1] 30 (0, 0)) (zK BK263.out) hg (Kd.S_ne HO_275000.out BK263.out (by decide)))
                       replace BK264 := zM (blk_grown (g := gb264) (o := .cells #[.slice none 0 0, .slice none 0 0] 30 (0, 0)) (zK BK264.out) hg (Kd.S_ne HO_275000.out BK264.out (by decide)))
                       replace BK274 := zM (blk_grown (g := gb274) (o := .cells #[u275000, .slice Ao20 y268.length co20] 30 (0, 0)) (zK BK274.out) hg (Kd.S_ne HO_275000.out BK274.out (by decide)))
                       replace HB := zM (hb)
                       have HO285 := zM (ho)
                       clear HO_275000 HO282
                       clear ho hb hg hat
                       obtain ⟨Ao43, co43, eo43⟩ := Kd.S_slice HO285.out
                       (first | subst eo43 | (injection eo43 with f1_ f2_ f3_; have f4_ := f1_.symm; have f5_ := f3_.symm; clear f1_ f2_ f3_; subst f4_; subst f5_))
                       refine hK.out _ _ ⟨(blk_cell BK274.out 0).trans rfl, (blk_cell BK274.out 1).trans rfl, (blk_cell BK263.out 0).trans rfl, (blk_cell BK263.out 1).trans rfl, ((HB.out.cell (World.block_lt_of_cell? w _ hw278_0)).trans hw278_0), ((HB.out.cell (World.block_lt_of_cell? w _ hw279_0)).trans hw279_0)⟩ (fun hHeld => ?_)
                       clear hK K
                       refine zn 53 ?_
                       refine zp HT_ 13 54 ?_
                       refine last_ (i := 14) (N := none) #[true, true, true, true, true, true, true, true, true, true, true, true, true, true, true] rfl rfl (one_of HT_.out (by kernel_rfl)) (by decide) (fun K hK => ?_)
                       have hs44 : w41.cell? ⟨gb274, 0, none⟩ = some (u275000) := (blk_cell BK274.out 0).trans rfl
                       have hfs44 := blk_frozen BK274.out 0
                       have hns44_0 := NB263_274.out
                       have hns44_1 := NB264_274.out
                       have hms44_0 := NB274_263.out
                       have hms44_1 := NB274_264.out
                       refine skip_ (w1 := ?_) (by rfl) rfl ?_ ?_
                       rotate_left
                       · go_simp
                         rfl
                       refine hK.out _ _ ?_
                       clear hK K
                       refine zo HT_ ?_
                       try go_wp2
                       (try simp only [← hl6_2])
                       go_roundg k2
                       case measure => have := HK1.out; have := HK2.out; omega
                       case rel => exact ⟨(y277), (wrap64 (x8_2 + 1)), (y283), (.slice Ao43 y283.length co43), (by first | rfl | (simp; done) | (simp [*]; done)), H', ⟨by have := HK1.out; have := HK2.out; omega⟩, ⟨by (try simp only [hl6_2]); (with_reducible repeat (first | apply Kd.R_alloc | apply Kd.R_drewN | apply Kd.R_drew)); exact Kd.R_mono (Kd.R_far (p := ⟨gb274, 0, none⟩) (Kd.R_types HO_6.out BK274.out (by decide)) (fun _ hk => hk.2) (.slice Ao43 y283.length co43)) (fun _ hk => trivial)⟩, ⟨by (try simp only [hl6_2]); (with_reducible repeat (first | apply Kd.S_alloc | apply Kd.S_drewN | apply Kd.S_drew)); exact Kd.S_mono (Kd.S_far (p := ⟨gb274, 0, none⟩) (Kd.S_types HO285.out BK274.out (by decide)) (fun _ hk => hk.2) (.slice Ao43 y283.length co43)) (fun _ hk => hk.1)⟩, ⟨by (try simp only [hl6_2]); (with_reducible repeat (first | apply Kd.R_alloc | apply Kd.R_drewN | apply Kd.R_drew)); exact Kd.R_mono (Kd.R_far (p := ⟨gb274, 0, none⟩) (Kd.R_types HO_275001.out BK274.out (by decide)) (fun _ hk => hk.2) (.slice Ao43 y283.length co43)) (fun _ hk => trivial)⟩, ⟨by (try simp only [hl6_2]); (with_reducible repeat (first | refine blk_drewN ?_ _ | refine blk_drew ?_ | refine blk_alloc ?_ _)); refine blk_far ?_ NB263_274.out _; (with_reducible repeat (first | refine blk_drewN ?_ _ | refine blk_drew ?_ | refine blk_alloc ?_ _)); exact BK263.out⟩, ⟨by (try simp only [hl6_2]); (with_reducible repeat (first | refine blk_drewN ?_ _ | refine blk_drew ?_ | refine blk_alloc ?_ _)); refine blk_far ?_ NB264_274.out _; (with_reducible repeat (first | refine blk_drewN ?_ _ | refine blk_drew ?_ | refine blk_alloc ?_ _)); exact BK264.out⟩, ⟨by (try simp only [hl6_2]); (with_reducible repeat (first | refine blk_drewN ?_ _ | refine blk_drew ?_ | refine blk_alloc ?_ _)); refine blk_put (cs := #[u275000, .slice Ao20 y268.length co20]) ?_ 0 _ rfl; (with_reducible repeat (first | refine blk_drewN ?_ _ | refine blk_drew ?_ | refine blk_alloc ?_ _)); exact BK274.out⟩, ⟨zB⟩⟩
                     · rw [if_neg c36] at H
                       exact absurd H (by simp)
                   · rw [if_neg c34] at H
                     exact absurd H (by simp)
                 · rw [if_neg c32] at H
                   exact absurd H (by simp)
               · rw [if_neg c31] at H
                 exact absurd H (by simp)
             · rw [if_neg c30] at H
               exact absurd H (by simp)
           · rw [if_neg c29] at H
             have c29b0 : decide (x8_2 < (l1.length : Int)) = false := decide_eq_false c29
             clear c29
             have H' := Aside0.mk H
             clear H
             go_wp2
             go_loopg [9] k2 (fun kq v9 w' => ∃ (x9_3 : Int) (x275001_3 : List (S54)) (u275001 : Value), v9 = .int .i64 x9_3 ∧ Aside0 (spec_l2Induced.l2 kq x6_2 x9_3 l0_0 l0_1 x275000_2 x275001_3 = some (r1, r2)) ∧ Aside0 (kq ≤ k2) ∧ Aside0 (Kd.R (Kd.int .i64) 3 w' w.heap.size (fun _ => True) (.slice Ao28 x6_2.length co28) x6_2) ∧ Aside0 (Kd.S (Kd.slice 3 (Kd.int .i64)) 27 w' w.heap.size (fun k_ => some k_ ≠ ((.slice Ao28 x6_2.length co28) : Value).ownBlock) u275000 x275000_2) ∧ Aside0 (Kd.R k54 54 w' w.heap.size (fun _ => True) u275001 x275001_3) ∧ Aside0 (w'.heap[gb263]? = some (.cells #[(.slice A0_0 l0_0.length c0_0), (.slice A0_1 l0_1.length c0_1)] 30 (0, 0))) ∧ Aside0 (w'.heap[gb264]? = some (.cells #[(.slice none 0 0), (.slice none 0 0)] 30 (0, 0))) ∧ Aside0 (w'.heap[gb274]? = some (.cells #[u275000, u275001] 30 (0, 0))) ∧ Aside0 (Below w.heap.size w w'))
             case atStart => exact ⟨(0), (y268), (.slice Ao20 y268.length co20), (by first | rfl | (simp; done) | (simp [*]; done)), H', ⟨Nat.le_refl _⟩, ⟨by (try simp only [hl6_2]); (with_reducible repeat (first | apply Kd.R_alloc | apply Kd.R_drewN | apply Kd.R_drew)); exact HO_6.out⟩, ⟨by (try simp only [hl6_2]); (with_reducible repeat (first | apply Kd.S_alloc | apply Kd.S_drewN | apply Kd.S_drew)); exact HO_275000.out⟩, ⟨by (try simp only [hl6_2]); (with_reducible repeat (first | apply Kd.R_alloc | apply Kd.R_drewN | apply Kd.R_drew)); exact HO_275001.out⟩, ⟨by (try simp only [hl6_2]); (with_reducible repeat (first | refine blk_drewN ?_ _ | refine blk_drew ?_ | refine blk_alloc ?_ _)); exact BK263.out⟩, ⟨by (try simp only [hl6_2]); (with_reducible repeat (first | refine blk_drewN ?_ _ | refine blk_drew ?_ | refine blk_alloc ?_ _)); exact BK264.out⟩, ⟨by (try simp only [hl6_2]); (with_reducible repeat (first | refine blk_drewN ?_ _ | refine blk_drew ?_ | refine blk_alloc ?_ _)); exact BK274.out⟩, ⟨zB⟩⟩
             case round =>
              clear H'
              try clear c1
              try clear c2
              try clear p2
              try clear q2
              try clear hx2
              try clear hf2
              try clear c3
              try clear p3
              try clear q3
              try clear hx3
              try clear hf3
              try clear p6
              try clear c17
              try clear c22
              try clear c22b0
              try clear c23
              try clear c23b0
              try clear p24
              try clear q24
              try clear hx24
              try clear hf24
              try clear c27
              try clear p27
              try clear q27
              try clear hx27
              try clear c29
              try clear c29b0
              try clear c30
              try clear c30b0
              try clear c31
              try clear c31b0
              try clear c32
              try clear c32b0
              try clear p33
              try clear q33
              try clear hx33
              try clear hf33
              try clear c34
              try clear c34b0
              try clear c36
              try clear hx24_0
              try clear hx276_0
              try clear hx278_0
              try clear hx279_0
              try clear hx33_0
              try clear p2
              try clear p24
              try clear p276
              try clear p278
              try clear p279
              try clear p33
              try clear p6
              try clear q2
              try clear q24
              try clear q276
              try clear q278
              try clear q279
              try clear q33
              obtain ⟨x9_3, x275001_3, u275001, rfl, HA, HK3, HO_6, HO_275000, HO_275001, BK263, BK264, BK274, HB⟩ := hrel
              cases gk with
              | zero => exact absurd HA.out (by simp [spec_l2Induced.l2])
              | succ k3 =>
               have H := HA.out
               clear HA
               simp only [spec_l2Induced.l2] at H
               by_cases c45 : x9_3 < (l0_1.length : Int)
               · rw [if_pos c45] at H
                 have c45b0 := decide_eq_true c45
                 clear c45
                 by_cases c46 : 0 ≤ x9_3
                 · rw [if_pos c46] at H
                   have c46b0 := decide_eq_true c46
                   clear c46
                   by_cases c47 : 0 ≤ ((rd_T54 l0_1 x9_3).f0)
                   · rw [if_pos c47] at H
                     have c47b0 := decide_eq_true c47
                     clear c47
                     by_cases c48 : ((rd_T54 l0_1 x9_3).f0) < (x6_2.length : Int)
                     · rw [if_pos c48] at H
                       have c48b0 := decide_eq_true c48
                       clear c48
                       by_cases c49 : 0 ≤ ((rd_T54 l0_1 x9_3).f1)
                       · rw [if_pos c49] at H
                         have c49b0 := decide_eq_true c49
                         clear c49
                         by_cases c50 : ((rd_T54 l0_1 x9_3).f1) < (x6_2.length : Int)
                         · rw [if_pos c50] at H
                           have c50b0 := decide_eq_true c50
                           clear c50
                           by_cases c51 : (rd x6_2 ((rd_T54 l0_1 x9_3).f0)) ≥ 0
                           · rw [if_pos c51] at H
                             have c51b0 : decide (0 ≤ (rd x6_2 ((rd_T54 l0_1 x9_3).f0))) = true := decide_eq_true c51
                             clear c51
                             by_cases c52 : (rd x6_2 ((rd_T54 l0_1 x9_3).f1)) ≥ 0
                             · rw [if_pos c52] at H
                               have c52b0 : decide (0 ≤ (rd x6_2 ((rd_T54 l0_1 x9_3).f1))) = true := decide_eq_true c52
                               clear c52
                               by_cases c53 : x275001_3.length < 8796093022208
                               · rw [if_pos c53] at H
                                 have LMc53 := Aside0.mk c53
                                 clear c53
                                 obtain ⟨y290, hy290⟩ : ∃ y_ : List (S54), y_ = (x275001_3 ++ [(⟨rd x6_2 ((rd_T54 l0_1 x9_3).f0), rd x6_2 ((rd_T54 l0_1 x9_3).f1)⟩ : S54)]) := ⟨_, rfl⟩
                                 replace H : (spec_l2Induced.l2 k3 x6_2 (wrap64 (x9_3 + 1)) l0_0 l0_1 x275000_2 y290) = some (r1, r2) := by first | (rw [hy290]; with_reducible exact H) | (have H2_ := (Option.bind_some _ _).symm.trans H; rw [hy290]; with_reducible exact H2_) | (have H2_ := (Option.bind_some _ _).symm.trans H; with_reducible exact H2_) | with_reducible exact H | (rw [hy290]; exact H) | exact H
                                 have Ny290 := Aside0.mk hy290
                                 clear hy290
                                 have H' := Aside0.mk H
                                 clear H
                                 have hnb54 := NB263_264.out
                                 have hnc54 := NB264_263.out
                                 have hnb55 := NB263_274.out
                                 have hnc55 := NB274_263.out
                                 have hcz56_0 := zy BK263 0
                                 have hcz56_1 := zy BK263 1
                                 have hfz56_0 := blk_frozen BK263.out 0
                                 have hfz56_1 := blk_frozen BK263.out 1
                                 try go_wp2
                                 replace HO_6 := zM (Kd.R_drew HO_6.out)
                                 replace HO_275000 := zM (Kd.S_drew HO_275000.out)
                                 replace HO_275001 := zM (Kd.R_drew HO_275001.out)
                                 replace BK263 := zM (blk_drew BK263.out)
                                 replace BK264 := zM (blk_drew BK264.out)
                                 replace BK274 := zM (blk_drew BK274.out)
                                 replace HB := zM (below_drew1 HB.out)
                                 have p286 : 0 ≤ (x9_3 : Int) := of_decide_eq_true zA
                                 have q286 : x9_3 < (l0_1.length : Int) := of_decide_eq_true zA
                                 obtain ⟨ad286, e286, hx286_0, hx286_1⟩ := at_T54 HR0_1.out x9_3 p286 q286
                                 have hw286_1 := hx286_1
                                 have hw286_0 := hx286_0
                                 cases e286
                                 (try replace hx286_0 := (HB.out.cell (World.block_lt_of_cell? w _ hx286_0)).trans hx286_0)
                                 (try replace hx286_1 := (HB.out.cell (World.block_lt_of_cell? w _ hx286_1)).trans hx286_1)
                                 replace p286 := eq_true p286
                                 replace q286 := eq_true q286
                                 have p287 : 0 ≤ (((rd_T54 l0_1 x9_3).f0) : Int) := of_decide_eq_true zA
                                 have q287 : ((rd_T54 l0_1 x9_3).f0) < (x6_2.length : Int) := of_decide_eq_true zA
                                 obtain ⟨ad287, e287, hx287_0⟩ := Kd.at_int (Kd.R_reads' HO_6.out).2.2 ((rd_T54 l0_1 x9_3).f0) p287 q287
                                 cases e287
                                 replace p287 := eq_true p287
                                 replace q287 := eq_true q287
                                 have p288 : 0 ≤ (x9_3 : Int) := of_decide_eq_true zA
                                 have q288 : x9_3 < (l0_1.length : Int) := of_decide_eq_true zA
                                 obtain ⟨ad288, e288, hx288_0, hx288_1⟩ := at_T54 HR0_1.out x9_3 p288 q288
                                 have hw288_1 := hx288_1
                                 have hw288_0 := hx288_0
                                 obtain rfl : ad286 = ad288 := (by injection e288)
                                 (try replace hx288_0 := (HB.out.cell (World.block_lt_of_cell? w _ hx288_0)).trans hx288_0)
                                 (try replace hx288_1 := (HB.out.cell (World.block_lt_of_cell? w _ hx288_1)).trans hx288_1)
                                 replace p288 := eq_true p288
                                 replace q288 := eq_true q288
                                 have p289 : 0 ≤ (((rd_T54 l0_1 x9_3).f1) : Int) := of_decide_eq_true zA
                                 have q289 : ((rd_T54 l0_1 x9_3).f1) < (x6_2.length : Int) := of_decide_eq_true zA
                                 obtain ⟨ad289, e289, hx289_0⟩ := Kd.at_int (Kd.R_reads' HO_6.out).2.2 ((rd_T54 l0_1 x9_3).f1) p289 q289
                                 obtain rfl : ad287 = ad289 := (by injection e289)
                                 replace p289 := eq_true p289
                                 replace q289 := eq_true q289
                                 refine zs (n := 20) (fun w' => w'.cell? ⟨gb263, 0, none⟩ = some (.slice A0_0 l0_0.length c0_0) ∧ w'.cell? ⟨gb263, 1, none⟩ = some (.slice (some ad286) l0_1.length c0_1) ∧ w'.cell? (ad286.add ((x9_3).toNat * 2)) = some (.int .i64 ((rd_T54 l0_1 x9_3).f0)) ∧ w'.cell? ⟨(ad286.add ((x9_3).toNat * 2)).block, (ad286.add ((x9_3).toNat * 2)).off + 1, none⟩ = some (.int .i64 ((rd_T54 l0_1 x9_3).f1)) ∧ w'.cell? (ad287.add (((rd_T54 l0_1 x9_3).f0)).toNat) = some (.int .i64 (rd x6_2 ((rd_T54 l0_1 x9_3).f0))) ∧ w'.cell? (ad286.add ((x9_3).toNat * 2)) = some (.int .i64 ((rd_T54 l0_1 x9_3).f0)) ∧ w'.cell? ⟨(ad286.add ((x9_3).toNat * 2)).block, (ad286.add ((x9_3).toNat * 2)).off + 1, none⟩ = some (.int .i64 ((rd_T54 l0_1 x9_3).f1)) ∧ w'.cell? (ad287.add (((rd_T54 l0_1 x9_3).f1)).toNat) = some (.int .i64 (rd x6_2 ((rd_T54 l0_1 x9_3).f1)))) ⟨(blk_cell BK263.out 0).trans rfl, (blk_cell BK263.out 1).trans rfl, ((HB.out.cell (World.block_lt_of_cell? w _ hw286_0)).trans hw286_0), ((HB.out.cell (World.block_lt_of_cell? w _ hw286_1)).trans hw286_1), hx287_0, ((HB.out.cell (World.block_lt_of_cell? w _ hw288_0)).trans hw288_0), ((HB.out.cell (World.block_lt_of_cell? w _ hw288_1)).trans hw288_1), hx289_0⟩ (fun hHeld => ?_); refine with_tabW spec_l2Induced.tab14 spec_l2Induced.bits14 (fun HT_ HW_ => ?_)
                                 generalize wr.drew = w57 at HO_6 HO_275000 HO_275001 BK263 BK264 BK274 HB hx286_0 hx286_1 hx287_0 hx288_0 hx288_1 hx289_0 hHeld ⊢
                                 refine zp HT_ 0 62 ?_
                                 refine zp HT_ 1 63 ?_
                                 refine zp HT_ 3 65 ?_
                                 refine zp HT_ 9 71 ?_
                                 refine zp HT_ 10 72 ?_
                                 refine zp HT_ 12 74 ?_
                                 refine zt HT_ HW_ 2 64 hHeld ?_ (hy := by rintro w' ⟨s0, s1, s2, s3, s4, s5, s6, s7⟩; go_simp; with_reducible rfl)
                                 refine zp HT_ 4 66 ?_
                                 refine zp HT_ 5 67 ?_
                                 refine zt HT_ HW_ 6 68 hHeld ?_ (hy := by rintro w' ⟨s0, s1, s2, s3, s4, s5, s6, s7⟩; go_simp; with_reducible rfl)
                                 refine zp HT_ 7 69 ?_
                                 refine zt HT_ HW_ 8 70 hHeld ?_ (hy := by rintro w' ⟨s0, s1, s2, s3, s4, s5, s6, s7⟩; go_simp; with_reducible rfl)
                                 refine zp HT_ 18 10 ?_
                                 refine zt HT_ HW_ 11 73 hHeld ?_ (hy := by rintro w' ⟨s0, s1, s2, s3, s4, s5, s6, s7⟩; go_simp; with_reducible rfl)
                                 refine zp HT_ 13 75 ?_
                                 refine zp HT_ 14 76 ?_
                                 refine zt HT_ HW_ 15 77 hHeld ?_ (hy := by rintro w' ⟨s0, s1, s2, s3, s4, s5, s6, s7⟩; go_simp; with_reducible rfl)
                                 refine zp HT_ 16 78 ?_
                                 refine zt HT_ HW_ 17 79 hHeld ?_ (hy := by rintro w' ⟨s0, s1, s2, s3, s4, s5, s6, s7⟩; go_simp; with_reducible rfl)
                                 refine zp HT_ 19 11 ?_
                                 refine zo HT_ ?_
                                 have hnb58 := NB274_264.out
                                 have hnc58 := NB264_274.out
                                 have hcz59_0 := zy BK274 0
                                 have hcz59_1 := zy BK274 1
                                 have hfz59_0 := blk_frozen BK274.out 0
                                 have hfz59_1 := blk_frozen BK274.out 1
                                 try go_wp2_with (first | ((with_reducible refine gate_builtin (b := .append) (xs := #[.tmp 87, .tmp 91]) rfl ?_); at_builtin; refine Kd.R_append k54 (w0 := w) w.heap.size rfl (.tmp 87) (.tmp 91) 23 54 (.agg #[(.int .i64 0), (.int .i64 0)]) 16 rfl Try.underlying23 info54 rfl (by decide) (by omega) u275001 x275001_3 (⟨rd x6_2 ((rd_T54 l0_1 x9_3).f0), rd x6_2 ((rd_T54 l0_1 x9_3).f1)⟩ : S54) [.int .i64 (rd x6_2 ((rd_T54 l0_1 x9_3).f0)), .int .i64 (rd x6_2 ((rd_T54 l0_1 x9_3).f1))] (fun _ => True) (fun _ => False) rfl rfl ?aP (fun _ hk => hk.elim) ?aF ?aO ?aB ?aS ?aL ?_; (case aP => exact k54_mkM _ _ _ (⟨rd x6_2 ((rd_T54 l0_1 x9_3).f0), rd x6_2 ((rd_T54 l0_1 x9_3).f1)⟩ : S54)); (case aB => exact zB); (case aF => exact (fun _ _ => trivial)); (case aO => exact (zR HO_275001.out)); (case aS => exact (below_size zB)); (case aL => have := LMc53.out; omega); intro v291 w60 ho hb hg hat; rw [← Ny290.out] at ho; replace HO_6 := zM (Kd.R_over' (zR HO_6.out) (Kd.R_typed (zR HO_275001.out)) (by decide) hg); replace HO_275000 := zM (Kd.S_over' (by (with_reducible repeat (first | apply Kd.S_alloc | apply Kd.S_drewN | apply Kd.S_drew)); exact HO_275000.out) (Kd.R_typed (zR HO_275001.out)) (by decide) hg); replace BK263 := zM (blk_grown (g := gb263) (o := .cells #[.slice A0_0 l0_0.length c0_0, .slice (some ad286) l0_1.length c0_1] 30 (0, 0)) (zK BK263.out) hg (Kd.R_ne HO_275001.out BK263.out (by decide))); replace BK264 := zM (blk_grown (g := gb264) (o := .cells #[.slice none 0 0, .slice none 0 0] 30 (0, 0)) (zK BK264.out) hg (Kd.R_ne HO_275001.out BK264.out (by decide))); replace BK274 := zM (blk_grown (g := gb274) (o := .cells #[u275000, u275001] 30 (0, 0)) (zK BK274.out) hg (Kd.R_ne HO_275001.out BK274.out (by decide))); replace HB := zM (hb); have HO292 := zM (ho); clear HO_275001; clear ho hb hg hat; obtain ⟨Ao61, co61, eo61⟩ := Kd.R_slice HO292.out; subst eo61; have hcz62_0 := zy BK274 0; have hcz62_1 := zy BK274 1; have hfz62_0 := blk_frozen BK274.out 0; have hfz62_1 := blk_frozen BK274.out 1))
                                 go_roundg k3
                                 case measure => have := HK1.out; have := HK2.out; have := HK3.out; omega
                                 case rel => exact ⟨(wrap64 (x9_3 + 1)), (y290), (.slice Ao61 y290.length co61), (by first | rfl | (simp; done) | (simp [*]; done)), H', ⟨by have := HK1.out; have := HK2.out; have := HK3.out; omega⟩, ⟨by (try simp only [hl6_2]); (with_reducible repeat (first | apply Kd.R_alloc | apply Kd.R_drewN | apply Kd.R_drew)); exact Kd.R_mono (Kd.R_far (p := ⟨gb274, 1, none⟩) (Kd.R_types HO_6.out BK274.out (by decide)) (fun _ hk => hk.2) (.slice Ao61 y290.length co61)) (fun _ hk => trivial)⟩, ⟨by (try simp only [hl6_2]); (with_reducible repeat (first | apply Kd.S_alloc | apply Kd.S_drewN | apply Kd.S_drew)); exact Kd.S_mono (Kd.S_far (p := ⟨gb274, 1, none⟩) (Kd.S_types HO_275000.out BK274.out (by decide)) (fun _ hk => hk.2) (.slice Ao61 y290.length co61)) (fun _ hk => hk.1)⟩, ⟨by (try simp only [hl6_2]); (with_reducible repeat (first | apply Kd.R_alloc | apply Kd.R_drewN | apply Kd.R_drew)); exact Kd.R_mono (Kd.R_far (p := ⟨gb274, 1, none⟩) (Kd.R_types HO292.out BK274.out (by decide)) (fun _ hk => hk.2) (.slice Ao61 y290.length co61)) (fun _ hk => trivial)⟩, ⟨by (try simp only [hl6_2]); (with_reducible repeat (first | refine blk_drewN ?_ _ | refine blk_drew ?_ | refine blk_alloc ?_ _)); refine blk_far ?_ NB263_274.out _; (with_reducible repeat (first | refine blk_drewN ?_ _ | refine blk_drew ?_ | refine blk_alloc ?_ _)); exact BK263.out⟩, ⟨by (try simp only [hl6_2]); (with_reducible repeat (first | refine blk_drewN ?_ _ | refine blk_drew ?_ | refine blk_alloc ?_ _)); refine blk_far ?_ NB264_274.out _; (with_reducible repeat (first | refine blk_drewN ?_ _ | refine blk_drew ?_ | refine blk_alloc ?_ _)); exact BK264.out⟩, ⟨by (try simp only [hl6_2]); (with_reducible repeat (first | refine blk_drewN ?_ _ | refine blk_drew ?_ | refine blk_alloc ?_ _)); refine blk_put (cs := #[u275000, u275001]) ?_ 1 _ rfl; (with_reducible repeat (first | refine blk_drewN ?_ _ | refine blk_drew ?_ | refine blk_alloc ?_ _)); exact BK274.out⟩, ⟨zB⟩⟩
                               · rw [if_neg c53] at H
                                 exact absurd H (by simp)
                             · rw [if_neg c52] at H
                               have c52b0 : decide (0 ≤ (rd x6_2 ((rd_T54 l0_1 x9_3).f1))) = false := decide_eq_false c52
                               clear c52
                               have H' := Aside0.mk H
                               clear H
                               have hnb63 := NB263_264.out
                               have hnc63 := NB264_263.out
                               have hnb64 := NB263_274.out
                               have hnc64 := NB274_263.out
                               have hcz65_0 := zy BK263 0
                               have hcz65_1 := zy BK263 1
                               have hfz65_0 := blk_frozen BK263.out 0
                               have hfz65_1 := blk_frozen BK263.out 1
                               try go_wp2
                               replace HO_6 := zM (Kd.R_drew HO_6.out)
                               replace HO_275000 := zM (Kd.S_drew HO_275000.out)
                               replace HO_275001 := zM (Kd.R_drew HO_275001.out)
                               replace BK263 := zM (blk_drew BK263.out)
                               replace BK264 := zM (blk_drew BK264.out)
                               replace BK274 := zM (blk_drew BK274.out)
                               replace HB := zM (below_drew1 HB.out)
                               have p286 : 0 ≤ (x9_3 : Int) := of_decide_eq_true zA
                               have q286 : x9_3 < (l0_1.length : Int) := of_decide_eq_true zA
                               obtain ⟨ad286, e286, hx286_0, hx286_1⟩ := at_T54 HR0_1.out x9_3 p286 q286
                               have hw286_1 := hx286_1
                               have hw286_0 := hx286_0
                               cases e286
                               (try replace hx286_0 := (HB.out.cell (World.block_lt_of_cell? w _ hx286_0)).trans hx286_0)
                               (try replace hx286_1 := (HB.out.cell (World.block_lt_of_cell? w _ hx286_1)).trans hx286_1)
                               replace p286 := eq_true p286
                               replace q286 := eq_true q286
                               have p287 : 0 ≤ (((rd_T54 l0_1 x9_3).f0) : Int) := of_decide_eq_true zA
                               have q287 : ((rd_T54 l0_1 x9_3).f0) < (x6_2.length : Int) := of_decide_eq_true zA
                               obtain ⟨ad287, e287, hx287_0⟩ := Kd.at_int (Kd.R_reads' HO_6.out).2.2 ((rd_T54 l0_1 x9_3).f0) p287 q287
                               cases e287
                               replace p287 := eq_true p287
                               replace q287 := eq_true q287
                               have p288 : 0 ≤ (x9_3 : Int) := of_decide_eq_true zA
                               have q288 : x9_3 < (l0_1.length : Int) := of_decide_eq_true zA
                               obtain ⟨ad288, e288, hx288_0, hx288_1⟩ := at_T54 HR0_1.out x9_3 p288 q288
                               have hw288_1 := hx288_1
                               have hw288_0 := hx288_0
                               obtain rfl : ad286 = ad288 := (by injection e288)
                               (try replace hx288_0 := (HB.out.cell (World.block_lt_of_cell? w _ hx288_0)).trans hx288_0)
                               (try replace hx288_1 := (HB.out.cell (World.block_lt_of_cell? w _ hx288_1)).trans hx288_1)
                               replace p288 := eq_true p288
                               replace q288 := eq_true q288
                               have p289 : 0 ≤ (((rd_T54 l0_1 x9_3).f1) : Int) := of_decide_eq_true zA
                               have q289 : ((rd_T54 l0_1 x9_3).f1) < (x6_2.length : Int) := of_decide_eq_true zA
                               obtain ⟨ad289, e289, hx289_0⟩ := Kd.at_int (Kd.R_reads' HO_6.out).2.2 ((rd_T54 l0_1 x9_3).f1) p289 q289
                               obtain rfl : ad287 = ad289 := (by injection e289)
                               replace p289 := eq_true p289
                               replace q289 := eq_true q289
                               refine zs (n := 20) (fun w' => w'.cell? ⟨gb263, 0, none⟩ = some (.slice A0_0 l0_0.length c0_0) ∧ w'.cell? ⟨gb263, 1, none⟩ = some (.slice (some ad286) l0_1.length c0_1) ∧ w'.cell? (ad286.add ((x9_3).toNat * 2)) = some (.int .i64 ((rd_T54 l0_1 x9_3).f0)) ∧ w'.cell? ⟨(ad286.add ((x9_3).toNat * 2)).block, (ad286.add ((x9_3).toNat * 2)).off + 1, none⟩ = some (.int .i64 ((rd_T54 l0_1 x9_3).f1)) ∧ w'.cell? (ad287.add (((rd_T54 l0_1 x9_3).f0)).toNat) = some (.int .i64 (rd x6_2 ((rd_T54 l0_1 x9_3).f0))) ∧ w'.cell? (ad286.add ((x9_3).toNat * 2)) = some (.int .i64 ((rd_T54 l0_1 x9_3).f0)) ∧ w'.cell? ⟨(ad286.add ((x9_3).toNat * 2)).block, (ad286.add ((x9_3).toNat * 2)).off + 1, none⟩ = some (.int .i64 ((rd_T54 l0_1 x9_3).f1)) ∧ w'.cell? (ad287.add (((rd_T54 l0_1 x9_3).f1)).toNat) = some (.int .i64 (rd x6_2 ((rd_T54 l0_1 x9_3).f1)))) ⟨(blk_cell BK263.out 0).trans rfl, (blk_cell BK263.out 1).trans rfl, ((HB.out.cell (World.block_lt_of_cell? w _ hw286_0)).trans hw286_0), ((HB.out.cell (World.block_lt_of_cell? w _ hw286_1)).trans hw286_1), hx287_0, ((HB.out.cell (World.block_lt_of_cell? w _ hw288_0)).trans hw288_0), ((HB.out.cell (World.block_lt_of_cell? w _ hw288_1)).trans hw288_1), hx289_0⟩ (fun hHeld => ?_); refine with_tabW spec_l2Induced.tab14 spec_l2Induced.bits14 (fun HT_ HW_ => ?_)
                               generalize wr.drew = w66 at HO_6 HO_275000 HO_275001 BK263 BK264 BK274 HB hx286_0 hx286_1 hx287_0 hx288_0 hx288_1 hx289_0 hHeld ⊢
                               refine zp HT_ 0 62 ?_
                               refine zp HT_ 1 63 ?_
                               refine zp HT_ 3 65 ?_
                               refine zp HT_ 9 71 ?_
                               refine zp HT_ 10 72 ?_
                               refine zp HT_ 12 74 ?_
                               refine zt HT_ HW_ 2 64 hHeld ?_ (hy := by rintro w' ⟨s0, s1, s2, s3, s4, s5, s6, s7⟩; go_simp; with_reducible rfl)
                               refine zp HT_ 4 66 ?_
                               refine zp HT_ 5 67 ?_
                               refine zt HT_ HW_ 6 68 hHeld ?_ (hy := by rintro w' ⟨s0, s1, s2, s3, s4, s5, s6, s7⟩; go_simp; with_reducible rfl)
                               refine zp HT_ 7 69 ?_
                               refine zt HT_ HW_ 8 70 hHeld ?_ (hy := by rintro w' ⟨s0, s1, s2, s3, s4, s5, s6, s7⟩; go_simp; with_reducible rfl)
                               refine zp HT_ 18 10 ?_
                               refine zt HT_ HW_ 11 73 hHeld ?_ (hy := by rintro w' ⟨s0, s1, s2, s3, s4, s5, s6, s7⟩; go_simp; with_reducible rfl)
                               refine zp HT_ 13 75 ?_
                               refine zp HT_ 14 76 ?_
                               refine zt HT_ HW_ 15 77 hHeld ?_ (hy := by rintro w' ⟨s0, s1, s2, s3, s4, s5, s6, s7⟩; go_simp; with_reducible rfl)
                               refine zp HT_ 16 78 ?_
                               refine zt HT_ HW_ 17 79 hHeld ?_ (hy := by rintro w' ⟨s0, s1, s2, s3, s4, s5, s6, s7⟩; go_simp; with_reducible rfl)
                               refine zp HT_ 19 11 ?_
                               refine zo HT_ ?_
                               try go_wp2
                               go_roundg k3
                               case measure => have := HK1.out; have := HK2.out; have := HK3.out; omega
                               case rel => exact ⟨(wrap64 (x9_3 + 1)), (x275001_3), (u275001), (by first | rfl | (simp; done) | (simp [*]; done)), H', ⟨by have := HK1.out; have := HK2.out; have := HK3.out; omega⟩, ⟨by (try simp only [hl6_2]); (with_reducible repeat (first | apply Kd.R_alloc | apply Kd.R_drewN | apply Kd.R_drew)); exact HO_6.out⟩, ⟨by (try simp only [hl6_2]); (with_reducible repeat (first | apply Kd.S_alloc | apply Kd.S_drewN | apply Kd.S_drew)); exact HO_275000.out⟩, ⟨by (try simp only [hl6_2]); (with_reducible repeat (first | apply Kd.R_alloc | apply Kd.R_drewN | apply Kd.R_drew)); exact HO_275001.out⟩, ⟨by (try simp only [hl6_2]); (with_reducible repeat (first | refine blk_drewN ?_ _ | refine blk_drew ?_ | refine blk_alloc ?_ _)); exact BK263.out⟩, ⟨by (try simp only [hl6_2]); (with_reducible repeat (first | refine blk_drewN ?_ _ | refine blk_drew ?_ | refine blk_alloc ?_ _)); exact BK264.out⟩, ⟨by (try simp only [hl6_2]); (with_reducible repeat (first | refine blk_drewN ?_ _ | refine blk_drew ?_ | refine blk_alloc ?_ _)); exact BK274.out⟩, ⟨zB⟩⟩
                           · rw [if_neg c51] at H
                             have c51b0 : decide (0 ≤ (rd x6_2 ((rd_T54 l0_1 x9_3).f0))) = false := decide_eq_false c51
                             clear c51
                             have H' := Aside0.mk H
                             clear H
                             have hnb67 := NB263_264.out
                             have hnc67 := NB264_263.out
                             have hnb68 := NB263_274.out
                             have hnc68 := NB274_263.out
                             have hcz69_0 := zy BK263 0
                             have hcz69_1 := zy BK263 1
                             have hfz69_0 := blk_frozen BK263.out 0
                             have hfz69_1 := blk_frozen BK263.out 1
                             try go_wp2
                             replace HO_6 := zM (Kd.R_drew HO_6.out)
                             replace HO_275000 := zM (Kd.S_drew HO_275000.out)
                             replace HO_275001 := zM (Kd.R_drew HO_275001.out)
                             replace BK263 := zM (blk_drew BK263.out)
                             replace BK264 := zM (blk_drew BK264.out)
                             replace BK274 := zM (blk_drew BK274.out)
                             replace HB := zM (below_drew1 HB.out)
                             have p286 : 0 ≤ (x9_3 : Int) := of_decide_eq_true zA
                             have q286 : x9_3 < (l0_1.length : Int) := of_decide_eq_true zA
                             obtain ⟨ad286, e286, hx286_0, hx286_1⟩ := at_T54 HR0_1.out x9_3 p286 q286
                             have hw286_1 := hx286_1
                             have hw286_0 := hx286_0
                             cases e286
                             (try replace hx286_0 := (HB.out.cell (World.block_lt_of_cell? w _ hx286_0)).trans hx286_0)
                             (try replace hx286_1 := (HB.out.cell (World.block_lt_of_cell? w _ hx286_1)).trans hx286_1)
                             replace p286 := eq_true p286
                             replace q286 := eq_true q286
                             have p287 : 0 ≤ (((rd_T54 l0_1 x9_3).f0) : Int) := of_decide_eq_true zA
                             have q287 : ((rd_T54 l0_1 x9_3).f0) < (x6_2.length : Int) := of_decide_eq_true zA
                             obtain ⟨ad287, e287, hx287_0⟩ := Kd.at_int (Kd.R_reads' HO_6.out).2.2 ((rd_T54 l0_1 x9_3).f0) p287 q287
                             cases e287
                             replace p287 := eq_true p287
                             replace q287 := eq_true q287
                             have p288 : 0 ≤ (x9_3 : Int) := of_decide_eq_true zA
                             have q288 : x9_3 < (l0_1.length : Int) := of_decide_eq_true zA
                             obtain ⟨ad288, e288, hx288_0, hx288_1⟩ := at_T54 HR0_1.out x9_3 p288 q288
                             have hw288_1 := hx288_1
                             have hw288_0 := hx288_0
                             obtain rfl : ad286 = ad288 := (by injection e288)
                             (try replace hx288_0 := (HB.out.cell (World.block_lt_of_cell? w _ hx288_0)).trans hx288_0)
                             (try replace hx288_1 := (HB.out.cell (World.block_lt_of_cell? w _ hx288_1)).trans hx288_1)
                             replace p288 := eq_true p288
                             replace q288 := eq_true q288
                             have p289 : 0 ≤ (((rd_T54 l0_1 x9_3).f1) : Int) := of_decide_eq_true zA
                             have q289 : ((rd_T54 l0_1 x9_3).f1) < (x6_2.length : Int) := of_decide_eq_true zA
                             obtain ⟨ad289, e289, hx289_0⟩ := Kd.at_int (Kd.R_reads' HO_6.out).2.2 ((rd_T54 l0_1 x9_3).f1) p289 q289
                             obtain rfl : ad287 = ad289 := (by injection e289)
                             replace p289 := eq_true p289
                             replace q289 := eq_true q289
                             refine zs (n := 20) (fun w' => w'.cell? ⟨gb263, 0, none⟩ = some (.slice A0_0 l0_0.length c0_0) ∧ w'.cell? ⟨gb263, 1, none⟩ = some (.slice (some ad286) l0_1.length c0_1) ∧ w'.cell? (ad286.add ((x9_3).toNat * 2)) = some (.int .i64 ((rd_T54 l0_1 x9_3).f0)) ∧ w'.cell? ⟨(ad286.add ((x9_3).toNat * 2)).block, (ad286.add ((x9_3).toNat * 2)).off + 1, none⟩ = some (.int .i64 ((rd_T54 l0_1 x9_3).f1)) ∧ w'.cell? (ad287.add (((rd_T54 l0_1 x9_3).f0)).toNat) = some (.int .i64 (rd x6_2 ((rd_T54 l0_1 x9_3).f0))) ∧ w'.cell? (ad286.add ((x9_3).toNat * 2)) = some (.int .i64 ((rd_T54 l0_1 x9_3).f0)) ∧ w'.cell? ⟨(ad286.add ((x9_3).toNat * 2)).block, (ad286.add ((x9_3).toNat * 2)).off + 1, none⟩ = some (.int .i64 ((rd_T54 l0_1 x9_3).f1)) ∧ w'.cell? (ad287.add (((rd_T54 l0_1 x9_3).f1)).toNat) = some (.int .i64 (rd x6_2 ((rd_T54 l0_1 x9_3).f1)))) ⟨(blk_cell BK263.out 0).trans rfl, (blk_cell BK263.out 1).trans rfl, ((HB.out.cell (World.block_lt_of_cell? w _ hw286_0)).trans hw286_0), ((HB.out.cell (World.block_lt_of_cell? w _ hw286_1)).trans hw286_1), hx287_0, ((HB.out.cell (World.block_lt_of_cell? w _ hw288_0)).trans hw288_0), ((HB.out.cell (World.block_lt_of_cell? w _ hw288_1)).trans hw288_1), hx289_0⟩ (fun hHeld => ?_); refine with_tabW spec_l2Induced.tab14 spec_l2Induced.bits14 (fun HT_ HW_ => ?_)
                             generalize wr.drew = w70 at HO_6 HO_275000 HO_275001 BK263 BK264 BK274 HB hx286_0 hx286_1 hx287_0 hx288_0 hx288_1 hx289_0 hHeld ⊢
                             refine zp HT_ 0 62 ?_
                             refine zp HT_ 1 63 ?_
                             refine zp HT_ 3 65 ?_
                             refine zp HT_ 9 71 ?_
                             refine zp HT_ 10 72 ?_
                             refine zp HT_ 12 74 ?_
                             refine zt HT_ HW_ 2 64 hHeld ?_ (hy := by rintro w' ⟨s0, s1, s2, s3, s4, s5, s6, s7⟩; go_simp; with_reducible rfl)
                             refine zp HT_ 4 66 ?_
                             refine zp HT_ 5 67 ?_
                             refine zt HT_ HW_ 6 68 hHeld ?_ (hy := by rintro w' ⟨s0, s1, s2, s3, s4, s5, s6, s7⟩; go_simp; with_reducible rfl)
                             refine zp HT_ 7 69 ?_
                             refine zt HT_ HW_ 8 70 hHeld ?_ (hy := by rintro w' ⟨s0, s1, s2, s3, s4, s5, s6, s7⟩; go_simp; with_reducible rfl)
                             refine zp HT_ 18 10 ?_
                             refine zt HT_ HW_ 11 73 hHeld ?_ (hy := by rintro w' ⟨s0, s1, s2, s3, s4, s5, s6, s7⟩; go_simp; with_reducible rfl)
                             refine zp HT_ 13 75 ?_
                             refine zp HT_ 14 76 ?_
                             refine zt HT_ HW_ 15 77 hHeld ?_ (hy := by rintro w' ⟨s0, s1, s2, s3, s4, s5, s6, s7⟩; go_simp; with_reducible rfl)
                             refine zp HT_ 16 78 ?_
                             refine zt HT_ HW_ 17 79 hHeld ?_ (hy := by rintro w' ⟨s0, s1, s2, s3, s4, s5, s6, s7⟩; go_simp; with_reducible rfl)
                             refine zp HT_ 19 11 ?_
                             refine zo HT_ ?_
                             try go_wp2
                             go_roundg k3
                             case measure => have := HK1.out; have := HK2.out; have := HK3.out; omega
                             case rel => exact ⟨(wrap64 (x9_3 + 1)), (x275001_3), (u275001), (by first | rfl | (simp; done) | (simp [*]; done)), H', ⟨by have := HK1.out; have := HK2.out; have := HK3.out; omega⟩, ⟨by (try simp only [hl6_2]); (with_reducible repeat (first | apply Kd.R_alloc | apply Kd.R_drewN | apply Kd.R_drew)); exact HO_6.out⟩, ⟨by (try simp only [hl6_2]); (with_reducible repeat (first | apply Kd.S_alloc | apply Kd.S_drewN | apply Kd.S_drew)); exact HO_275000.out⟩, ⟨by (try simp only [hl6_2]); (with_reducible repeat (first | apply Kd.R_alloc | apply Kd.R_drewN | apply Kd.R_drew)); exact HO_275001.out⟩, ⟨by (try simp only [hl6_2]); (with_reducible repeat (first | refine blk_drewN ?_ _ | refine blk_drew ?_ | refine blk_alloc ?_ _)); exact BK263.out⟩, ⟨by (try simp only [hl6_2]); (with_reducible repeat (first | refine blk_drewN ?_ _ | refine blk_drew ?_ | refine blk_alloc ?_ _)); exact BK264.out⟩, ⟨by (try simp only [hl6_2]); (with_reducible repeat (first | refine blk_drewN ?_ _ | refine blk_drew ?_ | refine blk_alloc ?_ _)); exact BK274.out⟩, ⟨zB⟩⟩
                         · rw [if_neg c50] at H
                           exact absurd H (by simp)
                       · rw [if_neg c49] at H
                         exact absurd H (by simp)
                     · rw [if_neg c48] at H
                       exact absurd H (by simp)
                   · rw [if_neg c47] at H
                     exact absurd H (by simp)
                 · rw [if_neg c46] at H
                   exact absurd H (by simp)
               · rw [if_neg c45] at H
                 have c45b0 : decide (x9_3 < (l0_1.length : Int)) = false := decide_eq_false c45
                 clear c45
                 simp only [Option.some.injEq, Prod.mk.injEq] at H
                 obtain ⟨rfl, rfl⟩ := H
                 have hnb71 := NB263_264.out
                 have hnc71 := NB264_263.out
                 have hnb72 := NB263_274.out
                 have hnc72 := NB274_263.out
                 have hcz73_0 := zy BK263 0
                 have hcz73_1 := zy BK263 1
                 have hfz73_0 := blk_frozen BK263.out 0
                 have hfz73_1 := blk_frozen BK263.out 1
                 have hnb74 := NB274_264.out
                 have hnc74 := NB264_274.out
                 have hcz75_0 := zy BK274 0
                 have hcz75_1 := zy BK274 1
                 have hfz75_0 := blk_frozen BK274.out 0
                 have hfz75_1 := blk_frozen BK274.out 1
                 obtain ⟨Ao76, co76, eo76⟩ := Kd.S_slice HO_275000.out
                 subst eo76
                 have hcz77_0 := zy BK264 0
                 have hcz77_1 := zy BK264 1
                 have hfz77_0 := blk_frozen BK264.out 0
                 have hfz77_1 := blk_frozen BK264.out 1
                 obtain ⟨Ao78, co78, eo78⟩ := Kd.R_slice HO_275001.out
                 subst eo78
                 go_wp2
                 refine bodyPost_ret (results_cell_row rfl _ _ gb264 30 #[.slice Ao76 x275000_2.length co76, .slice Ao78 x275001_3.length co78] (0, 0) _ rfl (by (with_reducible repeat (first | refine blk_drewN ?_ _ | refine blk_drew ?_ | refine blk_alloc ?_ _)); refine blk_put (cs := #[.slice Ao76 x275000_2.length co76, .slice none 0 0]) ?_ 1 _ rfl; (with_reducible repeat (first | refine blk_drewN ?_ _ | refine blk_drew ?_ | refine blk_alloc ?_ _)); refine blk_put (cs := #[.slice none 0 0, .slice none 0 0]) ?_ 0 _ rfl; (with_reducible repeat (first | refine blk_drewN ?_ _ | refine blk_drew ?_ | refine blk_alloc ?_ _)); exact BK264.out) Try.underlying30 rfl (by kernel_rfl)) rfl ?_
                 exact ⟨_, _, by first | rfl | (simp [errW_none, errW_some] <;> rfl) | (simp [*, errW_none, errW_some] <;> rfl), by (with_reducible repeat (first | apply Kd.S_alloc | apply Kd.S_drewN | apply Kd.S_drew)); exact Kd.S_mono (Kd.S_far (p := ⟨gb264, 1, none⟩) (Kd.S_far (p := ⟨gb264, 0, none⟩) (Kd.S_types HO_275000.out BK264.out (by decide)) (fun _ hk => hk.2) (.slice Ao76 x275000_2.length co76)) (fun _ hk => hk.2) (.slice Ao78 x275001_3.length co78)) (fun _ hk => trivial), by (with_reducible repeat (first | apply Kd.R_alloc | apply Kd.R_drewN | apply Kd.R_drew)); exact Kd.R_mono (Kd.R_far (p := ⟨gb264, 1, none⟩) (Kd.R_far (p := ⟨gb264, 0, none⟩) (Kd.R_types HO_275001.out BK264.out (by decide)) (fun _ hk => hk.2) (.slice Ao76 x275000_2.length co76)) (fun _ hk => hk.2) (.slice Ao78 x275001_3.length co78)) (fun _ hk => trivial), zB⟩
   · rw [if_neg c4] at H
     exact absurd H (by simp)
 · rw [if_neg c3] at H
   exact absurd H (by simp)

end Go.Proofs.Ytaemfocjokkopaa.P
