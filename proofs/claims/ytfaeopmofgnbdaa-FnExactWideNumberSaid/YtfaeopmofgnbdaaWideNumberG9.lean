-- Written by a program of this session (the kit's print, turned: wip/print/patch.py) out of the translation. Not trusted: Lean checks it.
import Derived.Test.YtfaeopmofgnbdaaWideNumberG5
import Derived.Test.YtfaeopmofgnbdaaWideNumberG8
namespace Go.Proofs.Ytfaeopmofgnbdaa.P
open Go.RowKit Go.Proofs.YtfaeopmofgnbdaaW.PrintWords Go.Proofs.YtfaeopmofgnbdaaW.PrintLast Go.Proofs.YtfaeopmofgnbdaaW.PrintMore
attribute [local go_sem] max2_int min2_int max_two min_two max_three min_three max_four min_four   -- for this text's walks alone
set_option linter.unusedVariables false
set_option linter.unusedSimpArgs false

/-! ### spec_l2Sorted: function 38 -/
mutual
def spec_l2Sorted.l0 : Nat → List (List Int) → List (List Int) → Int → Option ((List (List Int)))
 | 0, _, _, _ => none
 | k + 1, x0, x3, x4 => if x4 < (x0.length : Int) then (spec_l2Sorted.l1 k x0 x3 x4 (x3.length : Int)) else (some x3)
def spec_l2Sorted.j2 : Nat → List (List Int) → List (List Int) → Int → Int → Option ((List (List Int)))
 | 0, _, _, _, _ => none
 | k + 1, x0, x3, x4, x5 => if x5 = 0 then ((some (([] : List (List Int)) : List (List Int))).bind fun y169 => (if 0 ≤ x5 then (if x5 ≤ (x3.length : Int) then ((some (x3.take (x5 : Int).toNat : List (List Int))).bind fun y172 => (if y169.length + y172.length < 5864062014805 then ((some (y169 ++ y172 : List (List Int))).bind fun y177 => (if 0 ≤ x4 then (if x4 < (x0.length : Int) then ((spec_l1Own.f (rd_L2 x0 x4)).bind fun t181 => (if y177.length < 5864062014805 then ((some (y177 ++ [t181] : List (List Int))).bind fun y184 => ((some (x3.drop (x5 : Int).toNat : List (List Int))).bind fun y187 => (if y184.length + y187.length < 5864062014805 then (spec_l2Sorted.l0 k x0 (y184 ++ y187) (wrap64 (x4 + 1))) else (none)))) else (none))) else (none)) else (none))) else (none))) else (none)) else (none))) else (if 0 ≤ (wrap64 (x5 - 1)) then (if (wrap64 (x5 - 1)) < (x3.length : Int) then (if 0 ≤ x4 then (if x4 < (x0.length : Int) then ((spec_l1Same.f k (rd_L2 x3 (wrap64 (x5 - 1))) (rd_L2 x0 x4)).bind fun t197 => (if t197 = true then (spec_l2Sorted.l0 k x0 x3 (wrap64 (x4 + 1))) else ((some (([] : List (List Int)) : List (List Int))).bind fun y198 => (if 0 ≤ x5 then (if x5 ≤ (x3.length : Int) then ((some (x3.take (x5 : Int).toNat : List (List Int))).bind fun y201 => (if y198.length + y201.length < 5864062014805 then ((some (y198 ++ y201 : List (List Int))).bind fun y206 => ((spec_l1Own.f (rd_L2 x0 x4)).bind fun t210 => (if y206.length < 5864062014805 then ((some (y206 ++ [t210] : List (List Int))).bind fun y213 => ((some (x3.drop (x5 : Int).toNat : List (List Int))).bind fun y216 => (if y213.length + y216.length < 5864062014805 then (spec_l2Sorted.l0 k x0 (y213 ++ y216) (wrap64 (x4 + 1))) else (none)))) else (none)))) else (none))) else (none)) else (none))))) else (none)) else (none)) else (none)) else (none))
def spec_l2Sorted.l1 : Nat → List (List Int) → List (List Int) → Int → Int → Option ((List (List Int)))
 | 0, _, _, _, _ => none
 | k + 1, x0, x3, x4, x5 => if x5 > 0 then (if 0 ≤ x4 then (if x4 < (x0.length : Int) then (if 0 ≤ (wrap64 (x5 - 1)) then (if (wrap64 (x5 - 1)) < (x3.length : Int) then ((spec_l2Before.f k (rd_L2 x0 x4) (rd_L2 x3 (wrap64 (x5 - 1)))).bind fun t168 => (if t168 = true then (spec_l2Sorted.l1 k x0 x3 x4 (wrap64 (x5 - 1))) else (spec_l2Sorted.j2 k x0 x3 x4 x5))) else (none)) else (none)) else (none)) else (none)) else (spec_l2Sorted.j2 k x0 x3 x4 x5)
end
def spec_l2Sorted.f (k : Nat) (l0 : List (List Int)) : Option ((List (List Int))) := spec_l2Sorted.l0 k l0 (([] : List (List Int))) 0
def spec_l2Sorted.T6 : Bool × List (List Nat × List Nat) := (true, [([], []), ([0], [0]), ([1], [1]), ([2], [2]), ([2], [2]), ([3, 4, 2], [2, 3, 4]), ([5, 2], [2, 5]), ([2], [2]), ([2], [2]), ([8, 2], [2, 8]), ([7, 9, 2], [2, 7, 9]), ([10, 2], [2, 10]), ([6, 11, 2, 2], [2, 6, 11]), ([2, 12], [2, 12])])
def spec_l2Sorted.B6 : List Nat := [0, 1, 3, 7, 7, 31, 63, 7, 7, 263, 903, 1927, 4095, 8191]
theorem spec_l2Sorted.tab6 : rtab .any (opsOf Try.f38 6) = spec_l2Sorted.T6 := by kernel_rfl
theorem spec_l2Sorted.bits6 : waitsOk spec_l2Sorted.T6.2 spec_l2Sorted.B6 = true := by kernel_rfl
def spec_l2Sorted.T8 : Bool × List (List Nat × List Nat) := (true, [([], []), ([0], [0]), ([1], [1]), ([2], [2]), ([2], [2]), ([4, 2], [2, 4]), ([3, 5, 2], [2, 3, 5]), ([6, 2], [2, 6]), ([2], [2]), ([2], [2]), ([8, 9, 2], [2, 8, 9]), ([10, 2], [2, 10]), ([7, 11, 2, 2], [2, 7, 11]), ([12, 2], [2, 12]), ([2, 13], [2, 13])])
def spec_l2Sorted.B8 : List Nat := [0, 1, 3, 7, 7, 23, 63, 127, 7, 7, 775, 1799, 4095, 8191, 16383]
theorem spec_l2Sorted.tab8 : rtab .any (opsOf Try.f38 8) = spec_l2Sorted.T8 := by kernel_rfl
theorem spec_l2Sorted.bits8 : waitsOk spec_l2Sorted.T8.2 spec_l2Sorted.B8 = true := by kernel_rfl
def spec_l2Sorted.T9 : Bool × List (List Nat × List Nat) := (true, [([], []), ([], []), ([], []), ([1, 2], [1, 2]), ([0, 3], [0, 3]), ([], []), ([], []), ([5, 6], [5, 6]), ([7], [7]), ([8, 4], [8]), ([9], [9]), ([4, 10, 9], [4, 10]), ([], []), ([], []), ([12, 13], [12, 13]), ([11, 14, 11], [11, 14]), ([15, 15, 0, 1, 2, 3, 4, 5, 6, 7, 8, 9, 10, 11, 12, 13, 14, 15], [1, 12, 15])])
def spec_l2Sorted.B9 : List Nat := [0, 0, 0, 6, 15, 0, 0, 96, 224, 511, 1023, 2047, 0, 0, 12288, 32767, 65535]
theorem spec_l2Sorted.tab9 : rtab .any (opsOf Try.f38 9) = spec_l2Sorted.T9 := by kernel_rfl
theorem spec_l2Sorted.bits9 : waitsOk spec_l2Sorted.T9.2 spec_l2Sorted.B9 = true := by kernel_rfl
set_option maxHeartbeats 8000000 in
set_option maxRecDepth 100000 in
theorem spec_l2Sorted.calls (k : Nat) (A0 : Option Addr) (c0 : Nat) (l0 : List (List Int)) (r : List (List Int)) (w : World) (hr0 : Kd.C (Kd.slice 3 (Kd.int .i64)) w A0 l0.length l0) (hc0 : l0.length ≤ c0) (h : spec_l2Sorted.f k l0 = some r) :
 Calls Try.prog 38 #[.slice A0 l0.length c0] w fun e w' => ∃ v0_ : Value, e = .returned (v0_) ∧ Kd.N (Kd.slice 3 (Kd.int .i64)) 37 w' w.heap.size (fun k_ => (w.heap.size ≤ k_)) v0_ r ∧ Below w.heap.size w w' := by
 have HR0 := Aside0.mk hr0
 have HC0 := Aside0.mk hc0
 clear hr0 hc0
 have HB := zM (Below.refl w.heap.size w)
 have H : (spec_l2Sorted.l0 k l0 (([] : List (List Int))) 0) = some r := h
 clear h
 obtain ⟨y163, hy163⟩ : ∃ y_ : List (List Int), y_ = (([] : List (List Int))) := ⟨_, rfl⟩
 replace H : (spec_l2Sorted.l0 k l0 y163 0) = some r := by first | (rw [hy163]; with_reducible exact H) | (have H2_ := (Option.bind_some _ _).symm.trans H; rw [hy163]; with_reducible exact H2_) | (have H2_ := (Option.bind_some _ _).symm.trans H; with_reducible exact H2_) | with_reducible exact H | (rw [hy163]; exact H) | exact H
 have Ny163 := Aside0.mk hy163
 clear hy163
 have H' := Aside0.mk H
 clear H
 go_enter Try.func38, Try.ntmps38
 go_wp2_with (first | ((with_reducible refine gate_dst (N := 6) rfl ?_); refine Kd.N_lit (Kd.slice 3 (Kd.int .i64)) _ 37 ?hg (N' := 6) ?hd (xs := ([] : List (List Int))) (inner := []) (ok := (fun k_ => (w.heap.size ≤ k_))) (okp := (fun k_ => (w.heap.size ≤ k_))) ?hr ?hp (fun _ hk => hk) ((show ∀ k_, w.heap.size ≤ k_ → (fun k_ => (w.heap.size ≤ k_)) k_ from fun k_ hk => (Nat.le_trans (below_size zB) hk)) _ (Nat.le_refl _)) (Below.refl _ _) (Nat.le_refl _) (by simp) ?_; (case hd => rfl); (case hg => rfl); (case hr => first | (go_simp; done) | (go_simp; rfl)); (case hp => exact (Reps.none _ _)); intro v164 w2 ho3 hb hg_ hnew_; clear hg_ hnew_; (first | rw [← Ny163.out] at ho3 | (simp only [Int.reduceToNat] at ho3; rw [← Ny163.out] at ho3)); have HO165 := zM (Kd.N_lower ho3 (below_size zB)); replace HB := zM (below_step zB hb); clear hb ho3))
 go_loopg [3, 4] k (fun kq v3 v4 w' => ∃ (x3_1 : List (List Int)) (x4_1 : Int), v4 = .int .i64 x4_1 ∧ Aside0 (spec_l2Sorted.l0 kq l0 x3_1 x4_1 = some r) ∧ Aside0 (kq ≤ k) ∧ Aside0 (Kd.N (Kd.slice 3 (Kd.int .i64)) 37 w' w.heap.size (fun k_ => (w.heap.size ≤ k_)) v3 x3_1) ∧ Aside0 (Below w.heap.size w w'))
 case atStart => exact ⟨(y163), (0), (by first | rfl | (simp; done) | (simp [*]; done)), H', ⟨Nat.le_refl _⟩, ⟨by (with_reducible repeat (first | apply Kd.N_alloc | apply Kd.N_drewN | apply Kd.N_drew)); exact HO165.out⟩, ⟨zB⟩⟩
 case round =>
  clear H'
  try clear p2
  try clear c3
  obtain ⟨x3_1, x4_1, rfl, HA, HK1, HO_3, HB⟩ := hrel
  cases gk with
  | zero => exact absurd HA.out (by simp [spec_l2Sorted.l0])
  | succ k1 =>
   have H := HA.out
   clear HA
   simp only [spec_l2Sorted.l0] at H
   by_cases c4 : x4_1 < (l0.length : Int)
   · rw [if_pos c4] at H
     have c4b0 := decide_eq_true c4
     clear c4
     have HC5 := Aside0.mk H
     clear H
     obtain ⟨Ao6, co6, eo6⟩ := Kd.N_slice HO_3.out
     subst eo6
     go_upto_block 2 with (fail)
     go_cut [5] (fun v5 wc => ∃ (kq : Nat) (x5_4 : Int), v5 = .int .i64 x5_4 ∧ Aside0 (spec_l2Sorted.j2 kq l0 x3_1 x4_1 x5_4 = some r) ∧ Aside0 (kq ≤ k1) ∧ Aside0 (Kd.N (Kd.slice 3 (Kd.int .i64)) 37 wc w.heap.size (fun k_ => (w.heap.size ≤ k_)) (.slice Ao6 x3_1.length co6) x3_1) ∧ Aside0 (Below w.heap.size w wc))
     case first =>
      have H := HC5.out
      clear HC5
      have H' := Aside0.mk H
      clear H
      go_wp2
      go_loopg [5] k1 (fun kq v5 w' => ∃ (x5_2 : Int), v5 = .int .i64 x5_2 ∧ Aside0 (spec_l2Sorted.l1 kq l0 x3_1 x4_1 x5_2 = some r) ∧ Aside0 (kq ≤ k1) ∧ Aside0 (Kd.N (Kd.slice 3 (Kd.int .i64)) 37 w' w.heap.size (fun k_ => (w.heap.size ≤ k_)) (.slice Ao6 x3_1.length co6) x3_1) ∧ Aside0 (Below w.heap.size w w'))
      case atStart => exact ⟨((x3_1.length : Int)), (by first | rfl | (simp; done) | (simp [*]; done)), H', ⟨Nat.le_refl _⟩, ⟨by (with_reducible repeat (first | apply Kd.N_alloc | apply Kd.N_drewN | apply Kd.N_drew)); exact HO_3.out⟩, ⟨zB⟩⟩
      case round =>
       clear H'
       try clear p2
       try clear c3
       try clear c4
       try clear c4b0
       try clear p2
       obtain ⟨x5_2, rfl, HA, HK2, HO_3, HB⟩ := hrel
       cases gk with
       | zero => exact absurd HA.out (by simp [spec_l2Sorted.l1])
       | succ k2 =>
        have H := HA.out
        clear HA
        simp only [spec_l2Sorted.l1] at H
        by_cases c7 : x5_2 > 0
        · rw [if_pos c7] at H
          have c7b0 : decide (0 < x5_2) = true := decide_eq_true c7
          clear c7
          (first | rw [c7b0] | (simp only [i64_w, i32_w]; rw [c7b0]) | skip)
          by_cases c8 : 0 ≤ x4_1
          · rw [if_pos c8] at H
            have c8b0 := decide_eq_true c8
            clear c8
            by_cases c9 : x4_1 < (l0.length : Int)
            · rw [if_pos c9] at H
              have c9b0 := decide_eq_true c9
              clear c9
              obtain ⟨ji10, hji10⟩ : ∃ j_ : Int, (wrap64 (x5_2 - 1)) = j_ := ⟨_, rfl⟩
              replace H : (if 0 ≤ (ji10) then (if (ji10) < (x3_1.length : Int) then ((spec_l2Before.f k2 (rd_L2 l0 x4_1) (rd_L2 x3_1 (ji10))).bind fun t168 => (if t168 = true then (spec_l2Sorted.l1 k2 l0 x3_1 x4_1 ji10) else (spec_l2Sorted.j2 k2 l0 x3_1 x4_1 x5_2))) else (none)) else (none)) = some r := by first | (rw [hji10] at H; exact H) | (simp only [hji10] at H ⊢; exact H)
              have hji10w : (IntKind.i64.wrap (x5_2 - 1)) = ji10 := (i64_w _).trans hji10
              by_cases c11 : 0 ≤ (ji10)
              · rw [if_pos c11] at H
                have c11b0 := decide_eq_true c11
                clear c11
                by_cases c12 : (ji10) < (x3_1.length : Int)
                · rw [if_pos c12] at H
                  have c12b0 := decide_eq_true c12
                  clear c12
                  replace H := Option.bind_eq_some_iff.mp H
                  obtain ⟨t168, A130, H⟩ := H
                  have A13 := Aside0.mk A130
                  clear A130
                  by_cases c14 : t168 = true
                  · subst c14
                    rw [if_pos rfl] at H
                    have H' := Aside0.mk H
                    clear H
                    try go_wp2
                    replace HO_3 := zM (Kd.N_drew HO_3.out)
                    replace HB := zM (below_drew1 HB.out)
                    have p166 : 0 ≤ (x4_1 : Int) := of_decide_eq_true zA
                    have q166 : x4_1 < (l0.length : Int) := of_decide_eq_true zA
                    obtain ⟨ad166, A166_0, c166_0, e166, hx166_0, hl166_0, hi166_0⟩ := at_L2 HR0.out x4_1 p166 q166
                    have hw166_0 := hx166_0
                    cases e166
                    (try replace hx166_0 := (HB.out.cell (World.block_lt_of_cell? w _ hx166_0)).trans hx166_0)
                    have HR166_0 := Aside0.mk hi166_0
                    have HC166_0 := Aside0.mk hl166_0
                    clear hi166_0 hl166_0
                    replace p166 := eq_true p166
                    replace q166 := eq_true q166
                    have p167 : 0 ≤ ((ji10) : Int) := of_decide_eq_true zA
                    have q167 : (ji10) < (x3_1.length : Int) := of_decide_eq_true zA
                    obtain ⟨ad167, A167_0, c167_0, e167, hx167_0, hl167_0, hi167_0⟩ := at_L2 (Kd.N_reads' HO_3.out).2.2 (ji10) p167 q167
                    cases e167
                    obtain ⟨ce167, hce167, hMe167, hcc167⟩ := Kd.N_get HO_3.out [] (ji10) p167 (by first | exact q167 | exact of_decide_eq_true zA | (have e_ := (Kd.N_reads' HO_3.out).1; omega))
                    obtain ⟨ua167_0, uc167_0, rfl, ul167_0, ge167_0⟩ := Kd.FK_slice_open hMe167
                    have hv167_0 := hcc167 0 _ rfl
                    rw [Nat.add_zero, show ((Kd.slice 3 (Kd.int .i64))).sz = 1 from rfl, Nat.mul_one] at hv167_0
                    replace hv167_0 := Option.some.inj (hv167_0.symm.trans hx167_0)
                    injection hv167_0 with hva_ hvn_ hvc_
                    rw [hva_] at ge167_0
                    rw [hvc_] at ul167_0
                    have HL167_0 := zM (show Kd.V (Kd.int .i64) 3 _ w.heap.size _ _ (rd_L2 x3_1 (ji10)) from Kd.V_mk ul167_0 ge167_0)
                    clear hva_ hvn_ hvc_ ge167_0 ul167_0
                    clear hcc167 hce167
                    have HR167_0 := Aside0.mk hi167_0
                    have HC167_0 := Aside0.mk hl167_0
                    clear hi167_0 hl167_0
                    replace p167 := eq_true p167
                    replace q167 := eq_true q167
                    refine zs (n := 14) (fun w' => w'.cell? (ad166.add (x4_1).toNat) = some (.slice A166_0 (rd_L2 l0 x4_1).length c166_0) ∧ w'.cell? (ad167.add ((ji10)).toNat) = some (.slice A167_0 (rd_L2 x3_1 (ji10)).length c167_0)) ⟨((HB.out.cell (World.block_lt_of_cell? w _ hw166_0)).trans hw166_0), hx167_0⟩ (fun hHeld => ?_); refine with_tabW spec_l2Sorted.tab6 spec_l2Sorted.bits6 (fun HT_ HW_ => ?_)
                    generalize wr.drew = w15 at HO_3 HB HL167_0 HR166_0 HR167_0 hx166_0 hx167_0 hHeld ⊢
                    refine zp HT_ 0 15 ?_
                    refine zp HT_ 1 16 ?_
                    refine zp HT_ 2 17 ?_
                    refine zp HT_ 3 18 ?_
                    refine zp HT_ 4 19 ?_
                    refine zp HT_ 5 20 ?_
                    refine zp HT_ 7 22 ?_
                    refine zp HT_ 8 23 ?_
                    refine zp HT_ 9 24 ?_
                    refine zp HT_ 10 25 ?_
                    refine zt HT_ HW_ 6 21 hHeld ?_ (hy := by rintro w' ⟨s0, s1⟩; go_simp; with_reducible rfl)
                    refine zt HT_ HW_ 11 26 hHeld ?_ (hy := by rintro w' ⟨s0, s1⟩; go_simp; with_reducible rfl)
                    refine one_ (i := 12) (N := some 27) #[true, true, true, true, true, true, true, true, true, true, true, true, true, false] rfl rfl (one_of HT_.out (by kernel_rfl)) (by decide) (fun K hK => ?_)
                    refine goes_ Try.func51 (by kernel_rfl) rfl #[.slice A166_0 (rd_L2 l0 x4_1).length c166_0, .slice A167_0 (rd_L2 x3_1 (ji10)).length c167_0] (by rfl) rfl rfl (by (try simp only [List.map_toArray, List.map_cons, List.map_nil]); first | done | (simp only [hji10]; rfl) | rfl | (simp only [List.length_drop, List.length_take]; rfl)) ?_
                    with_reducible refine (spec_l2Before.calls k2 _ _ (rd_L2 l0 x4_1) _ _ (rd_L2 x3_1 (ji10)) true _ ?side1 ?side2 ?side3 ?side4 A13.out).mono ?_
                    (case side1 => exact zC (Kd.C_below HR166_0.out HB.out))
                    (case side2 => exact HC166_0.out)
                    (case side3 => repeat (first | exact (by repeat (first | (with_reducible exact HR167_0.out) | (with_reducible refine Kd.C_alloc ?_ _) | (with_reducible refine Kd.C_drewN ?_ _) | (with_reducible refine Kd.C_drew ?_) | exact HR167_0.out)) | (with_reducible refine Kd.C_alloc ?_ _) | (with_reducible refine Kd.C_drewN ?_ _) | (with_reducible refine Kd.C_drew ?_)))
                    (case side4 => exact HC167_0.out)
                    rintro e w' ⟨rfl, ⟨nd, rfl⟩⟩
                    refine ⟨_, rfl, ?_⟩
                    refine hK.out _ _ ⟨((HB.out.cell (World.block_lt_of_cell? w _ hw166_0)).trans hw166_0), hHeld.2⟩ (fun hHeld => ?_)
                    clear hK K
                    refine zn 27 ?_
                    refine zp HT_ 13 28 ?_
                    refine zo HT_ ?_
                    try go_wp2
                    go_roundg k2
                    case measure => have := HK1.out; have := HK2.out; omega
                    case rel => exact ⟨(ji10), (by first | rfl | (simp; done) | (simp only [← hji10] <;> (first | rfl | simp)) | (simp [*]; done)), H', ⟨by have := HK1.out; have := HK2.out; omega⟩, ⟨by (with_reducible repeat (first | apply Kd.N_alloc | apply Kd.N_drewN | apply Kd.N_drew)); exact HO_3.out⟩, ⟨zB⟩⟩
                  · replace c14 := Bool.eq_false_iff.mpr c14
                    subst c14
                    have H1 : (spec_l2Sorted.j2 k2 l0 x3_1 x4_1 x5_2) = some r := by rw [if_neg (show ¬ (false = true) by decide)] at H; exact H
                    clear H
                    have H := H1
                    clear H1
                    have H' := Aside0.mk H
                    clear H
                    try go_wp2
                    replace HO_3 := zM (Kd.N_drew HO_3.out)
                    replace HB := zM (below_drew1 HB.out)
                    have p166 : 0 ≤ (x4_1 : Int) := of_decide_eq_true zA
                    have q166 : x4_1 < (l0.length : Int) := of_decide_eq_true zA
                    obtain ⟨ad166, A166_0, c166_0, e166, hx166_0, hl166_0, hi166_0⟩ := at_L2 HR0.out x4_1 p166 q166
                    have hw166_0 := hx166_0
                    cases e166
                    (try replace hx166_0 := (HB.out.cell (World.block_lt_of_cell? w _ hx166_0)).trans hx166_0)
                    have HR166_0 := Aside0.mk hi166_0
                    have HC166_0 := Aside0.mk hl166_0
                    clear hi166_0 hl166_0
                    replace p166 := eq_true p166
                    replace q166 := eq_true q166
                    have p167 : 0 ≤ ((ji10) : Int) := of_decide_eq_true zA
                    have q167 : (ji10) < (x3_1.length : Int) := of_decide_eq_true zA
                    obtain ⟨ad167, A167_0, c167_0, e167, hx167_0, hl167_0, hi167_0⟩ := at_L2 (Kd.N_reads' HO_3.out).2.2 (ji10) p167 q167
                    cases e167
                    obtain ⟨ce167, hce167, hMe167, hcc167⟩ := Kd.N_get HO_3.out [] (ji10) p167 (by first | exact q167 | exact of_decide_eq_true zA | (have e_ := (Kd.N_reads' HO_3.out).1; omega))
                    obtain ⟨ua167_0, uc167_0, rfl, ul167_0, ge167_0⟩ := Kd.FK_slice_open hMe167
                    have hv167_0 := hcc167 0 _ rfl
                    rw [Nat.add_zero, show ((Kd.slice 3 (Kd.int .i64))).sz = 1 from rfl, Nat.mul_one] at hv167_0
                    replace hv167_0 := Option.some.inj (hv167_0.symm.trans hx167_0)
                    injection hv167_0 with hva_ hvn_ hvc_
                    rw [hva_] at ge167_0
                    rw [hvc_] at ul167_0
                    have HL167_0 := zM (show Kd.V (Kd.int .i64) 3 _ w.heap.size _ _ (rd_L2 x3_1 (ji10)) from Kd.V_mk ul167_0 ge167_0)
                    clear hva_ hvn_ hvc_ ge167_0 ul167_0
                    clear hcc167 hce167
                    have HR167_0 := Aside0.mk hi167_0
                    have HC167_0 := Aside0.mk hl167_0
                    clear hi167_0 hl167_0
                    replace p167 := eq_true p167
                    replace q167 := eq_true q167
                    refine zs (n := 14) (fun w' => w'.cell? (ad166.add (x4_1).toNat) = some (.slice A166_0 (rd_L2 l0 x4_1).length c166_0) ∧ w'.cell? (ad167.add ((ji10)).toNat) = some (.slice A167_0 (rd_L2 x3_1 (ji10)).length c167_0)) ⟨((HB.out.cell (World.block_lt_of_cell? w _ hw166_0)).trans hw166_0), hx167_0⟩ (fun hHeld => ?_); refine with_tabW spec_l2Sorted.tab6 spec_l2Sorted.bits6 (fun HT_ HW_ => ?_)
                    generalize wr.drew = w16 at HO_3 HB HL167_0 HR166_0 HR167_0 hx166_0 hx167_0 hHeld ⊢
                    refine zp HT_ 0 15 ?_
                    refine zp HT_ 1 16 ?_
                    refine zp HT_ 2 17 ?_
                    refine zp HT_ 3 18 ?_
                    refine zp HT_ 4 19 ?_
                    refine zp HT_ 5 20 ?_
                    refine zp HT_ 7 22 ?_
                    refine zp HT_ 8 23 ?_
                    refine zp HT_ 9 24 ?_
                    refine zp HT_ 10 25 ?_
                    refine zt HT_ HW_ 6 21 hHeld ?_ (hy := by rintro w' ⟨s0, s1⟩; go_simp; with_reducible rfl)
                    refine zt HT_ HW_ 11 26 hHeld ?_ (hy := by rintro w' ⟨s0, s1⟩; go_simp; with_reducible rfl)
                    refine one_ (i := 12) (N := some 27) #[true, true, true, true, true, true, true, true, true, true, true, true, true, false] rfl rfl (one_of HT_.out (by kernel_rfl)) (by decide) (fun K hK => ?_)
                    refine goes_ Try.func51 (by kernel_rfl) rfl #[.slice A166_0 (rd_L2 l0 x4_1).length c166_0, .slice A167_0 (rd_L2 x3_1 (ji10)).length c167_0] (by rfl) rfl rfl (by (try simp only [List.map_toArray, List.map_cons, List.map_nil]); first | done | (simp only [hji10]; rfl) | rfl | (simp only [List.length_drop, List.length_take]; rfl)) ?_
                    with_reducible refine (spec_l2Before.calls k2 _ _ (rd_L2 l0 x4_1) _ _ (rd_L2 x3_1 (ji10)) false _ ?side1 ?side2 ?side3 ?side4 A13.out).mono ?_
                    (case side1 => exact zC (Kd.C_below HR166_0.out HB.out))
                    (case side2 => exact HC166_0.out)
                    (case side3 => repeat (first | exact (by repeat (first | (with_reducible exact HR167_0.out) | (with_reducible refine Kd.C_alloc ?_ _) | (with_reducible refine Kd.C_drewN ?_ _) | (with_reducible refine Kd.C_drew ?_) | exact HR167_0.out)) | (with_reducible refine Kd.C_alloc ?_ _) | (with_reducible refine Kd.C_drewN ?_ _) | (with_reducible refine Kd.C_drew ?_)))
                    (case side4 => exact HC167_0.out)
                    rintro e w' ⟨rfl, ⟨nd, rfl⟩⟩
                    refine ⟨_, rfl, ?_⟩
                    refine hK.out _ _ ⟨((HB.out.cell (World.block_lt_of_cell? w _ hw166_0)).trans hw166_0), hHeld.2⟩ (fun hHeld => ?_)
                    clear hK K
                    refine zn 27 ?_
                    refine zp HT_ 13 28 ?_
                    refine zo HT_ ?_
                    try go_wp2
                    go_meet
                    case rel => exact ⟨_, (x5_2), (by first | rfl | (simp; done) | (simp [*]; done)), H', ⟨by have := HK1.out; have := HK2.out; first | omega | exact Nat.le_refl _⟩, ⟨by (with_reducible repeat (first | apply Kd.N_alloc | apply Kd.N_drewN | apply Kd.N_drew)); exact HO_3.out⟩, ⟨zB⟩⟩
                · rw [if_neg c12] at H
                  exact absurd H (by simp)
              · rw [if_neg c11] at H
                exact absurd H (by simp)
            · rw [if_neg c9] at H
              exact absurd H (by simp)
          · rw [if_neg c8] at H
            exact absurd H (by simp)
        · rw [if_neg c7] at H
          have c7b0 : decide (0 < x5_2) = false := decide_eq_false c7
          clear c7
          (first | rw [c7b0] | (simp only [i64_w, i32_w]; rw [c7b0]) | skip)
          have H' := Aside0.mk H
          clear H
          try go_wp2
          replace HO_3 := zM (Kd.N_drew HO_3.out)
          replace HB := zM (below_drew1 HB.out)
          refine zs (n := 14) (fun w' => True) trivial (fun hHeld => ?_); refine with_tabW spec_l2Sorted.tab6 spec_l2Sorted.bits6 (fun HT_ HW_ => ?_)
          generalize wr.drew = w17 at HO_3 HB hHeld ⊢
          refine zp HT_ 0 15 ?_
          refine zp HT_ 1 16 ?_
          refine zp HT_ 2 17 ?_
          refine zu HT_ 3 18 ?_
          refine zu HT_ 4 19 ?_
          refine zu HT_ 5 20 ?_
          refine zu HT_ 6 21 ?_
          refine zu HT_ 7 22 ?_
          refine zu HT_ 8 23 ?_
          refine zu HT_ 9 24 ?_
          refine zu HT_ 10 25 ?_
          refine zu HT_ 11 26 ?_
          refine zu HT_ 12 27 ?_
          refine zp HT_ 13 28 ?_
          refine zo HT_ ?_
          try go_wp2
          go_meet
          case rel => exact ⟨_, (x5_2), (by first | rfl | (simp; done) | (simp [*]; done)), H', ⟨by have := HK1.out; have := HK2.out; first | omega | exact Nat.le_refl _⟩, ⟨by (with_reducible repeat (first | apply Kd.N_alloc | apply Kd.N_drewN | apply Kd.N_drew)); exact HO_3.out⟩, ⟨zB⟩⟩
     case rest =>
      clear HC5
      try clear c1
      try clear p1
      try clear q1
      try clear hx1
      try clear p2
      try clear c3
      try clear c4
      try clear c4b0
      try clear c5
      try clear p6
      try clear c7
      try clear c7b0
      try clear c8
      try clear c8b0
      try clear c9
      try clear c9b0
      try clear c11
      try clear c11b0
      try clear c12
      try clear c12b0
      try clear c14
      try clear c16
      try clear p16
      try clear q16
      try clear hx16
      try clear hx166_0
      try clear hx167_0
      try clear p166
      try clear p167
      try clear p2
      try clear q166
      try clear q167
      obtain ⟨kq, x5_4, rfl, HA, HJ4, HO_3, HB⟩ := hcut
      cases kq with
      | zero => exact absurd HA.out (by simp [spec_l2Sorted.j2])
      | succ kj4 =>
       have H := HA.out
       clear HA
       simp only [spec_l2Sorted.j2] at H
       by_cases c18 : x5_4 = 0
       · rw [if_pos c18] at H
         have c18b0 : (x5_4 == 0) = true := beq_iff_eq.mpr c18
         have c18b1 : (x5_4 != 0) = false := bne_eq_false_iff_eq.mpr c18
         clear c18
         obtain ⟨y169, hy169⟩ : ∃ y_ : List (List Int), y_ = (([] : List (List Int))) := ⟨_, rfl⟩
         replace H : (if 0 ≤ x5_4 then (if x5_4 ≤ (x3_1.length : Int) then ((some (x3_1.take (x5_4 : Int).toNat : List (List Int))).bind fun y172 => (if y169.length + y172.length < 5864062014805 then ((some (y169 ++ y172 : List (List Int))).bind fun y177 => (if 0 ≤ x4_1 then (if x4_1 < (l0.length : Int) then ((spec_l1Own.f (rd_L2 l0 x4_1)).bind fun t181 => (if y177.length < 5864062014805 then ((some (y177 ++ [t181] : List (List Int))).bind fun y184 => ((some (x3_1.drop (x5_4 : Int).toNat : List (List Int))).bind fun y187 => (if y184.length + y187.length < 5864062014805 then (spec_l2Sorted.l0 kj4 l0 (y184 ++ y187) (wrap64 (x4_1 + 1))) else (none)))) else (none))) else (none)) else (none))) else (none))) else (none)) else (none)) = some r := by first | (rw [hy169]; with_reducible exact H) | (have H2_ := (Option.bind_some _ _).symm.trans H; rw [hy169]; with_reducible exact H2_) | (have H2_ := (Option.bind_some _ _).symm.trans H; with_reducible exact H2_) | with_reducible exact H | (rw [hy169]; exact H) | exact H
         have Ny169 := Aside0.mk hy169
         clear hy169
         by_cases c19 : 0 ≤ x5_4
         · rw [if_pos c19] at H
           have c19b0 := eq_true c19
           have c19b1 : decide (0 ≤ x5_4) = true := decide_eq_true c19
           clear c19
           by_cases c20 : x5_4 ≤ (x3_1.length : Int)
           · rw [if_pos c20] at H
             have c20b0 := eq_true c20
             have c20b1 : decide (x5_4 ≤ (x3_1.length : Int)) = true := decide_eq_true c20
             clear c20
             obtain ⟨y172, hy172⟩ : ∃ y_ : List (List Int), y_ = (x3_1.take (x5_4 : Int).toNat) := ⟨_, rfl⟩
             replace H : (if y169.length + y172.length < 5864062014805 then ((some (y169 ++ y172 : List (List Int))).bind fun y177 => (if 0 ≤ x4_1 then (if x4_1 < (l0.length : Int) then ((spec_l1Own.f (rd_L2 l0 x4_1)).bind fun t181 => (if y177.length < 5864062014805 then ((some (y177 ++ [t181] : List (List Int))).bind fun y184 => ((some (x3_1.drop (x5_4 : Int).toNat : List (List Int))).bind fun y187 => (if y184.length + y187.length < 5864062014805 then (spec_l2Sorted.l0 kj4 l0 (y184 ++ y187) (wrap64 (x4_1 + 1))) else (none)))) else (none))) else (none)) else (none))) else (none)) = some r := by first | (rw [hy172]; with_reducible exact H) | (have H2_ := (Option.bind_some _ _).symm.trans H; rw [hy172]; with_reducible exact H2_) | (have H2_ := (Option.bind_some _ _).symm.trans H; with_reducible exact H2_) | with_reducible exact H | (rw [hy172]; exact H) | exact H
             have Ny172 := Aside0.mk hy172
             clear hy172
             by_cases c21 : y169.length + y172.length < 5864062014805
             · rw [if_pos c21] at H
               have LMc21 := Aside0.mk c21
               clear c21
               obtain ⟨y177, hy177⟩ : ∃ y_ : List (List Int), y_ = (y169 ++ y172) := ⟨_, rfl⟩
               replace H : (if 0 ≤ x4_1 then (if x4_1 < (l0.length : Int) then ((spec_l1Own.f (rd_L2 l0 x4_1)).bind fun t181 => (if y177.length < 5864062014805 then ((some (y177 ++ [t181] : List (List Int))).bind fun y184 => ((some (x3_1.drop (x5_4 : Int).toNat : List (List Int))).bind fun y187 => (if y184.length + y187.length < 5864062014805 then (spec_l2Sorted.l0 kj4 l0 (y184 ++ y187) (wrap64 (x4_1 + 1))) else (none)))) else (none))) else (none)) else (none)) = some r := by first | (rw [hy177]; with_reducible exact H) | (have H2_ := (Option.bind_some _ _).symm.trans H; rw [hy177]; with_reducible exact H2_) | (have H2_ := (Option.bind_some _ _).symm.trans H; with_reducible exact H2_) | with_reducible exact H | (rw [hy177]; exact H) | exact H
               have Ny177 := Aside0.mk hy177
               clear hy177
               by_cases c22 : 0 ≤ x4_1
               · rw [if_pos c22] at H
                 have c22b0 := decide_eq_true c22
                 clear c22
                 by_cases c23 : x4_1 < (l0.length : Int)
                 · rw [if_pos c23] at H
                   have c23b0 := decide_eq_true c23
                   clear c23
                   replace H := Option.bind_eq_some_iff.mp H
                   obtain ⟨t181, A240, H⟩ := H
                   have A24 := Aside0.mk A240
                   clear A240
                   by_cases c25 : y177.length < 5864062014805
                   · rw [if_pos c25] at H
                     have LMc25 := Aside0.mk c25
                     clear c25
                     obtain ⟨y184, hy184⟩ : ∃ y_ : List (List Int), y_ = (y177 ++ [t181]) := ⟨_, rfl⟩
                     replace H : ((some (x3_1.drop (x5_4 : Int).toNat : List (List Int))).bind fun y187 => (if y184.length + y187.length < 5864062014805 then (spec_l2Sorted.l0 kj4 l0 (y184 ++ y187) (wrap64 (x4_1 + 1))) else (none))) = some r := by first | (rw [hy184]; with_reducible exact H) | (have H2_ := (Option.bind_some _ _).symm.trans H; rw [hy184]; with_reducible exact H2_) | (have H2_ := (Option.bind_some _ _).symm.trans H; with_reducible exact H2_) | with_reducible exact H | (rw [hy184]; exact H) | exact H
                     have Ny184 := Aside0.mk hy184
                     clear hy184
                     have c26b0 := eq_true (of_decide_eq_true zA : 0 ≤ x5_4)
                     have c27b0 := eq_true (of_decide_eq_true zA : x5_4 ≤ (x3_1.length : Int))
                     obtain ⟨y187, hy187⟩ : ∃ y_ : List (List Int), y_ = (x3_1.drop (x5_4 : Int).toNat) := ⟨_, rfl⟩
                     replace H : (if y184.length + y187.length < 5864062014805 then (spec_l2Sorted.l0 kj4 l0 (y184 ++ y187) (wrap64 (x4_1 + 1))) else (none)) = some r := by first | (rw [hy187]; with_reducible exact H) | (have H2_ := (Option.bind_some _ _).symm.trans H; rw [hy187]; with_reducible exact H2_) | (have H2_ := (Option.bind_some _ _).symm.trans H; with_reducible exact H2_) | with_reducible exact H | (rw [hy187]; exact H) | exact H
                     have Ny187 := Aside0.mk hy187
                     clear hy187
                     by_cases c28 : y184.length + y187.length < 5864062014805
                     · rw [if_pos c28] at H
                       have LMc28 := Aside0.mk c28
                       clear c28
                       obtain ⟨y192, hy192⟩ : ∃ y_ : List (List Int), y_ = (y184 ++ y187) := ⟨_, rfl⟩
                       replace H : (spec_l2Sorted.l0 kj4 l0 y192 (wrap64 (x4_1 + 1))) = some r := by first | (rw [hy192]; with_reducible exact H) | (have H2_ := (Option.bind_some _ _).symm.trans H; rw [hy192]; with_reducible exact H2_) | (have H2_ := (Option.bind_some _ _).symm.trans H; with_reducible exact H2_) | with_reducible exact H | (rw [hy192]; exact H) | exact H
                       have Ny192 := Aside0.mk hy192
                       clear hy192
                       have H' := Aside0.mk H
                       clear H
                       try go_wp2
                       replace HO_3 := zM (Kd.N_drew HO_3.out)
                       replace HB := zM (below_drew1 HB.out)
                       refine zs (n := 15) (fun w' => True) trivial (fun hHeld => ?_); refine with_tabW spec_l2Sorted.tab8 spec_l2Sorted.bits8 (fun HT_ HW_ => ?_)
                       generalize wc.drew = w29 at HO_3 HB hHeld ⊢
                       refine zp HT_ 0 31 ?_
                       refine zp HT_ 1 32 ?_
                       refine zp HT_ 2 33 ?_
                       refine zu HT_ 3 34 ?_
                       refine zu HT_ 4 35 ?_
                       refine zu HT_ 5 36 ?_
                       refine zu HT_ 6 37 ?_
                       refine zu HT_ 7 38 ?_
                       refine zu HT_ 8 39 ?_
                       refine zu HT_ 9 40 ?_
                       refine zu HT_ 10 41 ?_
                       refine zu HT_ 11 42 ?_
                       refine zu HT_ 12 43 ?_
                       refine zu HT_ 13 44 ?_
                       refine zp HT_ 14 45 ?_
                       refine zo HT_ ?_
                       try go_wp2
                       replace HO_3 := zM (Kd.N_drew HO_3.out)
                       replace HB := zM (below_drew1 HB.out)
                       have q31 : (x5_4 : Int) ≤ ((x3_1.length : Int) : Int) := of_decide_eq_true zA
                       obtain ⟨i031, hi031, _, hsz31, _⟩ := info_parts info37
                       have hroom31 : x3_1.length ≤ co6 := (Kd.N_reads' HO_3.out).2.1
                       have hC31 : Kd.F (Kd.slice 3 (Kd.int .i64)) _ _ Ao6 x3_1.length x3_1 := (Kd.V_at (base := w.heap.size) (Kd.N_V HO_3.out)).2.2
                       have hcut31 := cut_to (P := Try.prog) 34 37 .i64 Try.underlying34 hi031 Ao6 x3_1.length co6 x5_4 (of_decide_eq_true zA) q31 hroom31
                       have hr31 := Kd.F_take (m := (x5_4 : Int).toNat) hC31 (by omega)
                       have hy31 : y172.length = (x5_4 : Int).toNat := (by rw [Ny172.out, List.length_take]; omega)
                       rw [← Ny172.out] at hr31
                       rw [← hy31] at hcut31
                       have HO176 := zM (show Kd.V (Kd.slice 3 (Kd.int .i64)) 37 _ w.heap.size _ (.slice Ao6 y172.length co6) y172 from Kd.V_mk (by omega) hr31)
                       have HC176 := zM (show y172.length ≤ co6 from by omega)
                       clear hr31 hC31 hroom31 hi031 hsz31
                       have KY31 := Aside0.mk hy31
                       clear hy31
                       replace q31 := eq_true q31
                       have p180 : 0 ≤ (x4_1 : Int) := of_decide_eq_true zA
                       have q180 : x4_1 < (l0.length : Int) := of_decide_eq_true zA
                       obtain ⟨ad180, A180_0, c180_0, e180, hx180_0, hl180_0, hi180_0⟩ := at_L2 HR0.out x4_1 p180 q180
                       have hw180_0 := hx180_0
                       cases e180
                       (try replace hx180_0 := (HB.out.cell (World.block_lt_of_cell? w _ hx180_0)).trans hx180_0)
                       have HR180_0 := Aside0.mk hi180_0
                       have HC180_0 := Aside0.mk hl180_0
                       clear hi180_0 hl180_0
                       replace p180 := eq_true p180
                       replace q180 := eq_true q180
                       have q32 : (x5_4 : Int) ≤ ((x3_1.length : Int) : Int) := of_decide_eq_true zA
                       obtain ⟨i032, hi032, _, hsz32, _⟩ := info_parts info37
                       have hroom32 : x3_1.length ≤ co6 := (Kd.N_reads' HO_3.out).2.1
                       have hC32 : Kd.F (Kd.slice 3 (Kd.int .i64)) _ _ Ao6 x3_1.length x3_1 := (Kd.V_at (base := w.heap.size) (Kd.N_V HO_3.out)).2.2
                       have q032 : (0 : Int) ≤ (x5_4 : Int) := of_decide_eq_true zA
                       have hcut32 := cut_from (P := Try.prog) 34 37 .i64 Try.underlying34 hi032 1 hsz32 Ao6 x3_1.length co6 x5_4 q032 q32
                       have hr32 := Kd.F_cut (m := (x5_4 : Int).toNat) (c := co6) hC32 (by omega) hroom32
                       obtain ⟨A32, hA32⟩ : ∃ A1, A1 = (if co6 = (x5_4 : Int).toNat then Ao6 else (Ao6 : Option Addr).map (·.add ((x5_4 : Int).toNat * 1))) := ⟨_, rfl⟩
                       obtain ⟨c32, hc32⟩ : ∃ c1, c1 = co6 - (x5_4 : Int).toNat := ⟨_, rfl⟩
                       have hy32 : y187.length = x3_1.length - (x5_4 : Int).toNat := (by rw [Ny187.out, List.length_drop] <;> omega)
                       rw [show (x3_1).drop (x5_4 : Int).toNat = y187 from Ny187.out.symm] at hr32
                       replace hr32 : Kd.F (Kd.slice 3 (Kd.int .i64)) _ _ A32 y187.length y187 := (by rw [hA32]; exact hr32)
                       rw [← hy32, ← hA32, ← hc32] at hcut32
                       have HO191 := zM (show Kd.V (Kd.slice 3 (Kd.int .i64)) 37 _ w.heap.size _ (.slice A32 y187.length c32) y187 from Kd.V_mk (by rw [hy32, hc32]; exact Nat.sub_le_sub_right hroom32 _) hr32)
                       have HC191 := zM (show y187.length ≤ c32 from by rw [hy32, hc32]; exact Nat.sub_le_sub_right hroom32 _)
                       clear hr32 hC32 hroom32 hi032 hsz32 hc32
                       have KY32 := Aside0.mk hy32
                       have KA32 := Aside0.mk hA32
                       clear hy32 hA32
                       replace q32 := eq_true q32
                       refine zs (n := 17) (fun w' => w'.cell? (ad180.add (x4_1).toNat) = some (.slice A180_0 (rd_L2 l0 x4_1).length c180_0)) (((HB.out.cell (World.block_lt_of_cell? w _ hw180_0)).trans hw180_0)) (fun hHeld => ?_); refine with_tabW spec_l2Sorted.tab9 spec_l2Sorted.bits9 (fun HT_ HW_ => ?_)
                       generalize w29.drew = w30 at HO_3 HB HO176 HO191 HR180_0 hx180_0 hHeld ⊢
                       refine zp HT_ 1 47 ?_
                       refine zp HT_ 2 48 ?_
                       refine zp HT_ 3 49 ?_
                       refine zp HT_ 5 51 ?_
                       refine zp HT_ 6 52 ?_
                       refine zp HT_ 7 53 ?_
                       refine zp HT_ 12 58 ?_
                       refine zp HT_ 13 59 ?_
                       refine zp HT_ 14 60 ?_
                       refine take_ (i := 8) (N := some 54) (v := ?_) (a' := ?_) #[false, true, true, true, false, true, true, true, true, false, false, false, true, true, true, false, false] rfl rfl (take_ofW HT_.out HW_.out (by kernel_rfl)) (fun _ _ _ h => h) (Or.inl ⟨by rfl, ?_⟩) hHeld ?_ ?_
                       rotate_left
                       · intro w' s0
                         go_simp
                         with_reducible rfl
                       rotate_left
                       · simp only [Act.put, List.setIfInBounds_toArray, List.set_cons_zero, List.set_cons_succ, i64_w, i32_w]
                         rfl
                       refine one_ (i := 0) (N := some 46) #[true, true, true, true, false, true, true, true, true, false, false, false, true, true, true, false, false] rfl rfl (one_of HT_.out (by kernel_rfl)) (by decide) (fun K hK => ?_)
                       refine Kd.N_lit_step (Kd.slice 3 (Kd.int .i64)) _ 37 ?hg (N' := 46) ?hd (xs := ([] : List (List Int))) (inner := []) (ok := (fun k_ => (w.heap.size ≤ k_) ∧ some k_ ≠ (.slice Ao6 x3_1.length co6 : Value).ownBlock)) (okp := (fun k_ => (w.heap.size ≤ k_) ∧ some k_ ≠ (.slice Ao6 x3_1.length co6 : Value).ownBlock)) ?hr ?hp (fun _ hk => hk) ((show ∀ k_, w30.heap.size ≤ k_ → (fun k_ => (w.heap.size ≤ k_) ∧ some k_ ≠ (.slice Ao6 x3_1.length co6 : Value).ownBlock) k_ from fun k_ hk => ⟨(Nat.le_trans (below_size zB) hk), Kd.fresh' (Kd.N_lt (by (with_reducible repeat (first | apply Kd.N_alloc | apply Kd.N_drewN | apply Kd.N_drew)); exact HO_3.out)) k_ hk⟩) _ (Nat.le_refl _)) (Below.refl _ _) (Nat.le_refl _) (by simp) ?_; (case hd => rfl); (case hg => rfl); (case hr => first | (go_simp; done) | (go_simp; rfl)); (case hp => exact (Reps.none _ _))
                       intro v170 w33 ho34 hb hg_ hnew_
                       clear hg_ hnew_
                       (first | rw [← Ny169.out] at ho34 | (simp only [Int.reduceToNat] at ho34; rw [← Ny169.out] at ho34))
                       replace HO_3 := zM (Kd.N_elder' (by (with_reducible repeat (first | apply Kd.N_alloc | apply Kd.N_drewN | apply Kd.N_drew)); exact HO_3.out) (Kd.N_base ho34) hb)
                       replace HO176 := zM (Kd.V_elder' (by (with_reducible repeat (first | apply Kd.V_alloc | apply Kd.V_drewN | apply Kd.V_drew)); exact HO176.out) (Kd.N_base ho34) hb)
                       replace HO191 := zM (Kd.V_elder' (by (with_reducible repeat (first | apply Kd.V_alloc | apply Kd.V_drewN | apply Kd.V_drew)); exact HO191.out) (Kd.N_base ho34) hb)
                       have HO171 := zM (Kd.N_lower ho34 (below_size zB))
                       replace HB := zM (below_step zB hb)
                       clear hb ho34
                       refine hK.out _ _ (((HB.out.cell (World.block_lt_of_cell? w _ hw180_0)).trans hw180_0)) (fun hHeld => ?_)
                       clear hK K
                       refine zn 46 ?_
                       refine one_ (i := 4) (N := some 50) #[true, true, true, true, true, true, true, true, true, false, false, false, true, true, true, false, false] rfl rfl (one_of HT_.out (by kernel_rfl)) (by decide) (fun K hK => ?_)
                       refine Kd.N_append_rows_step (Kd.slice 3 (Kd.int .i64)) (w0 := w) w.heap.size (by rfl) (.tmp 46) (.tmp 49) 34 37 (.slice none 0 0) 24 rfl Try.underlying34 info37 rfl (by decide) (by omega) v170 y169 y172 _ _ _ (fun k_ => (w.heap.size ≤ k_)) (fun k_ => ((fun k_ => (w.heap.size ≤ k_))) k_ ∧ some k_ ≠ (v170 : Value).ownBlock) rfl rfl ?aO ?aR (fun _ hk => hk) ?aF ?aB ?aS ?aL ?_
                       (case aR => exact (by skip; exact Kd.V_F (Kd.V_mono (ok' := (fun k_ => ((fun k_ => (w.heap.size ≤ k_))) k_ ∧ some k_ ≠ (v170 : Value).ownBlock)) (HO176.out) (fun k_ hk => ⟨hk.1, hk.2⟩))))
                       (case aB => exact zB)
                       (case aF => exact (fun k_ hk => (Nat.le_trans (below_size zB) hk)))
                       (case aO => exact (by (with_reducible repeat (first | apply Kd.N_alloc | apply Kd.N_drewN | apply Kd.N_drew)); exact Kd.N_mono HO171.out (fun _ hk => hk.1)))
                       (case aS => exact (below_size zB))
                       (case aL => have := LMc21.out; omega)
                       intro v178 w35 ho hb hg hat
                       rw [← Ny177.out] at ho
                       replace HO_3 := zM (Kd.N_afterv (ok := (fun k_ => (w.heap.size ≤ k_))) (by (with_reducible repeat (first | apply Kd.N_alloc | apply Kd.N_drewN | apply Kd.N_drew)); exact HO_3.out) hg hat)
                       replace HO176 := zM (Kd.V_afterv (ok := (fun k_ => (w.heap.size ≤ k_))) (by (with_reducible repeat (first | apply Kd.V_alloc | apply Kd.V_drewN | apply Kd.V_drew)); exact HO176.out) hg hat)
                       replace HO191 := zM (Kd.V_afterv (ok := (fun k_ => (w.heap.size ≤ k_))) (by (with_reducible repeat (first | apply Kd.V_alloc | apply Kd.V_drewN | apply Kd.V_drew)); exact HO191.out) hg hat)
                       replace HB := zM (hb)
                       have HO179 := zM (ho)
                       clear HO171
                       clear ho hb hg hat
                       refine hK.out _ _ (((HB.out.cell (World.block_lt_of_cell? w _ hw180_0)).trans hw180_0)) (fun hHeld => ?_)
                       clear hK K
                       refine zn 50 ?_
                       refine zg HT_ 9 55 Try.func53 #[.slice A180_0 (rd_L2 l0 x4_1).length c180_0] (fun K hK => ?_)
                       with_reducible refine (spec_l1Own.calls _ _ (rd_L2 l0 x4_1) t181 _ ?side1 ?side2 A24.out).mono ?_
                       (case side1 => exact zC (Kd.C_below HR180_0.out HB.out))
                       (case side2 => exact HC180_0.out)
                       rintro e w36 ⟨v182, rfl, ho0, hb⟩
                       refine ⟨_, rfl, ?_⟩
                       replace HO_3 := zM (Kd.N_elder' (by (with_reducible repeat (first | apply Kd.N_alloc | apply Kd.N_drewN | apply Kd.N_drew)); exact HO_3.out) (Kd.R_base ho0) hb)
                       replace HO176 := zM (Kd.V_elder' (by (with_reducible repeat (first | apply Kd.V_alloc | apply Kd.V_drewN | apply Kd.V_drew)); exact HO176.out) (Kd.R_base ho0) hb)
                       replace HO191 := zM (Kd.V_elder' (by (with_reducible repeat (first | apply Kd.V_alloc | apply Kd.V_drewN | apply Kd.V_drew)); exact HO191.out) (Kd.R_base ho0) hb)
                       replace HO179 := zM (Kd.N_elder' (by (with_reducible repeat (first | apply Kd.N_alloc | apply Kd.N_drewN | apply Kd.N_drew)); exact HO179.out) (Kd.R_base ho0) hb)
                       have HO183 := zM (Kd.R_lower (Kd.R_newM (M := fun k_ => (w.heap.size ≤ k_)) ho0 (below_size zB) (fun k_ h_ => h_)) (below_size zB))
                       replace HB := zM (below_step zB hb)
                       (try clear hb)
                       (try clear hb2)
                       (try clear hk)
                       (try clear hi)
                       (try clear ho0)
                       obtain ⟨Ao38, co38, eo38⟩ := Kd.R_slice HO183.out
                       (first | subst eo38 | (injection eo38 with f1_ f2_ f3_; have f4_ := f1_.symm; have f5_ := f3_.symm; clear f1_ f2_ f3_; subst f4_; subst f5_))
                       refine hK.out _ _ (((HB.out.cell (World.block_lt_of_cell? w _ hw180_0)).trans hw180_0)) (fun hHeld => ?_)
                       clear hK K
                       refine zn 55 ?_
                       refine one_ (i := 10) (N := some 56) #[true, true, true, true, true, true, true, true, true, true, true, false, true, true, true, false, false] rfl rfl (one_of HT_.out (by kernel_rfl)) (by decide) (fun K hK => ?_)
                       refine value_ (w1 := ?_) (v := ?_) (by rfl) rfl ?_ ?_
                       rotate_left 2
                       · go_simp
                         constructor
                         · rfl
                         · rfl
                       refine hK.out _ _ ((World.cell?_alloc_lt _ _ _ (World.block_lt_of_cell? _ _ (((HB.out.cell (World.block_lt_of_cell? w _ hw180_0)).trans hw180_0)))).trans (((HB.out.cell (World.block_lt_of_cell? w _ hw180_0)).trans hw180_0))) (fun hHeld => ?_)
                       clear hK K
                       refine zn 56 ?_
                       refine one_ (i := 11) (N := some 57) #[true, true, true, true, true, true, true, true, true, true, true, true, true, true, true, false, false] rfl rfl (one_of HT_.out (by kernel_rfl)) (by decide) (fun K hK => ?_)
                       refine Kd.N_append_step (Kd.slice 3 (Kd.int .i64)) (w0 := w) w.heap.size (by rfl) (.tmp 50) (.tmp 56) 34 37 (.slice none 0 0) 24 rfl Try.underlying34 info37 rfl (by decide) (by omega) v178 y177 t181 [.slice Ao38 t181.length co38] (fun k_ => (w.heap.size ≤ k_)) (fun k_ => ((fun k_ => (w.heap.size ≤ k_))) k_ ∧ some k_ ≠ (v178 : Value).ownBlock) rfl rfl ?aP (fun _ hk => hk) ?aF ?aO ?aB ?aS ?aL ?_
                       (case aP => exact (Kd.FK_slice_mk (Kd.R_reads' (Kd.R_mono (ok' := (fun k_ => ((fun k_ => (w.heap.size ≤ k_))) k_ ∧ some k_ ≠ (v178 : Value).ownBlock)) (Kd.R_apart' (HO183.out) (Kd.N_typed HO179.out) (by decide)) (fun k_ hk => ⟨hk.1.1, hk.2⟩))).2.1 (Kd.R_F (Kd.R_mono (ok' := (fun k_ => ((fun k_ => (w.heap.size ≤ k_))) k_ ∧ some k_ ≠ (v178 : Value).ownBlock)) (Kd.R_apart' (HO183.out) (Kd.N_typed HO179.out) (by decide)) (fun k_ hk => ⟨hk.1.1, hk.2⟩)))))
                       (case aB => exact zB)
                       (case aF => exact (fun k_ hk => (Nat.le_trans (below_size zB) hk)))
                       (case aO => exact (by (with_reducible repeat (first | apply Kd.N_alloc | apply Kd.N_drewN | apply Kd.N_drew)); exact Kd.N_mono HO179.out (fun _ hk => hk.1)))
                       (case aS => exact (below_size zB))
                       (case aL => have := LMc25.out; omega)
                       intro v185 w37 ho hb hg hat
                       rw [← Ny184.out] at ho
                       replace HO_3 := zM (Kd.N_afterv (ok := (fun k_ => (w.heap.size ≤ k_) ∧ some k_ ≠ (.slice Ao38 t181.length co38 : Value).ownBlock)) (by (with_reducible repeat (first | apply Kd.N_alloc | apply Kd.N_drewN | apply Kd.N_drew)); exact Kd.N_mono HO_3.out (fun _ hk => ⟨⟨hk.1.1, hk.2⟩, hk.1.2⟩)) hg hat)
                       replace HO176 := zM (Kd.V_afterv (ok := (fun k_ => (w.heap.size ≤ k_) ∧ some k_ ≠ (.slice Ao38 t181.length co38 : Value).ownBlock)) (by (with_reducible repeat (first | apply Kd.V_alloc | apply Kd.V_drewN | apply Kd.V_drew)); exact Kd.V_mono HO176.out (fun _ hk => ⟨⟨hk.1.1, hk.2⟩, hk.1.2⟩)) hg hat)
                       replace HO191 := zM (Kd.V_afterv (ok := (fun k_ => (w.heap.size ≤ k_) ∧ some k_ ≠ (.slice Ao38 t181.length co38 : Value).ownBlock)) (by (with_reducible repeat (first | apply Kd.V_alloc | apply Kd.V_drewN | apply Kd.V_drew)); exact Kd.V_mono HO191.out (fun _ hk => ⟨⟨hk.1.1, hk.2⟩, hk.1.2⟩)) hg hat)
                       replace HB := zM (hb)
                       have HO186 := zM (ho)
                       clear HO179 HO183
                       clear ho hb hg hat
                       refine hK.out _ _ (((HB.out.cell (World.block_lt_of_cell? w _ hw180_0)).trans hw180_0)) (fun hHeld => ?_)
                       clear hK K
                       refine zn 57 ?_
                       refine one_ (i := 15) (N := some 61) #[true, true, true, true, true, true, true, true, true, true, true, true, true, true, true, true, false] rfl rfl (one_of HT_.out (by kernel_rfl)) (by decide) (fun K hK => ?_)
                       refine Kd.N_append_rows_step (Kd.slice 3 (Kd.int .i64)) (w0 := w) w.heap.size (by rfl) (.tmp 57) (.tmp 60) 34 37 (.slice none 0 0) 24 rfl Try.underlying34 info37 rfl (by decide) (by omega) v185 y184 y187 _ _ _ (fun k_ => (w.heap.size ≤ k_)) (fun k_ => ((fun k_ => (w.heap.size ≤ k_))) k_ ∧ some k_ ≠ (v185 : Value).ownBlock) rfl rfl ?aO ?aR (fun _ hk => hk) ?aF ?aB ?aS ?aL ?_
                       (case aR => exact (by skip; exact Kd.V_F (Kd.V_mono (ok' := (fun k_ => ((fun k_ => (w.heap.size ≤ k_))) k_ ∧ some k_ ≠ (v185 : Value).ownBlock)) (HO191.out) (fun k_ hk => ⟨hk.1.1, hk.2⟩))))
                       (case aB => exact zB)
                       (case aF => exact (fun k_ hk => (Nat.le_trans (below_size zB) hk)))
                       (case aO => exact (by (with_reducible repeat (first | apply Kd.N_alloc | apply Kd.N_drewN | apply Kd.N_drew)); exact HO186.out))
                       (case aS => exact (below_size zB))
                       (case aL => have := LMc28.out; omega)
                       intro v193 w39 ho hb hg hat
                       rw [← Ny192.out] at ho
                       replace HO_3 := zM (Kd.N_afterv (ok := (fun k_ => (w.heap.size ≤ k_))) (by (with_reducible repeat (first | apply Kd.N_alloc | apply Kd.N_drewN | apply Kd.N_drew)); exact Kd.N_mono HO_3.out (fun _ hk => ⟨hk.1.1, hk.2⟩)) hg hat)
                       replace HO176 := zM (Kd.V_afterv (ok := (fun k_ => (w.heap.size ≤ k_))) (by (with_reducible repeat (first | apply Kd.V_alloc | apply Kd.V_drewN | apply Kd.V_drew)); exact Kd.V_mono HO176.out (fun _ hk => ⟨hk.1.1, hk.2⟩)) hg hat)
                       replace HO191 := zM (Kd.V_afterv (ok := (fun k_ => (w.heap.size ≤ k_))) (by (with_reducible repeat (first | apply Kd.V_alloc | apply Kd.V_drewN | apply Kd.V_drew)); exact Kd.V_mono HO191.out (fun _ hk => ⟨hk.1.1, hk.2⟩)) hg hat)
                       replace HB := zM (hb)
                       have HO194 := zM (ho)
                       clear HO186
                       clear ho hb hg hat
                       refine hK.out _ _ (((HB.out.cell (World.block_lt_of_cell? w _ hw180_0)).trans hw180_0)) (fun hHeld => ?_)
                       clear hK K
                       refine zn 61 ?_
                       refine zp HT_ 16 3 ?_
                       refine zo HT_ ?_
                       try go_wp2
                       go_roundg kj4
                       case measure => have := HK1.out; have := HJ4.out; omega
                       case rel => exact ⟨(y192), (wrap64 (x4_1 + 1)), (by first | rfl | (simp; done) | (simp [*]; done)), H', ⟨by have := HK1.out; have := HJ4.out; omega⟩, ⟨by (with_reducible repeat (first | apply Kd.N_alloc | apply Kd.N_drewN | apply Kd.N_drew)); exact HO194.out⟩, ⟨zB⟩⟩
                     · rw [if_neg c28] at H
                       exact absurd H (by simp)
                   · rw [if_neg c25] at H
                     exact absurd H (by simp)
                 · rw [if_neg c23] at H
                   exact absurd H (by simp)
               · rw [if_neg c22] at H
                 exact absurd H (by simp)
             · rw [if_neg c21] at H
               exact absurd H (by simp)
           · rw [if_neg c20] at H
             exact absurd H (by simp)
         · rw [if_neg c19] at H
           exact absurd H (by simp)
       · rw [if_neg c18] at H
         have c18b0 : (x5_4 == 0) = false := beq_eq_false_iff_ne.mpr c18
         have c18b1 : (x5_4 != 0) = true := bne_iff_ne.mpr c18
         obtain ⟨ji40, hji40⟩ : ∃ j_ : Int, (wrap64 (x5_4 - 1)) = j_ := ⟨_, rfl⟩
         replace H : (if 0 ≤ (ji40) then (if (ji40) < (x3_1.length : Int) then (if 0 ≤ x4_1 then (if x4_1 < (l0.length : Int) then ((spec_l1Same.f kj4 (rd_L2 x3_1 (ji40)) (rd_L2 l0 x4_1)).bind fun t197 => (if t197 = true then (spec_l2Sorted.l0 kj4 l0 x3_1 (wrap64 (x4_1 + 1))) else ((some (([] : List (List Int)) : List (List Int))).bind fun y198 => (if 0 ≤ x5_4 then (if x5_4 ≤ (x3_1.length : Int) then ((some (x3_1.take (x5_4 : Int).toNat : List (List Int))).bind fun y201 => (if y198.length + y201.length < 5864062014805 then ((some (y198 ++ y201 : List (List Int))).bind fun y206 => ((spec_l1Own.f (rd_L2 l0 x4_1)).bind fun t210 => (if y206.length < 5864062014805 then ((some (y206 ++ [t210] : List (List Int))).bind fun y213 => ((some (x3_1.drop (x5_4 : Int).toNat : List (List Int))).bind fun y216 => (if y213.length + y216.length < 5864062014805 then (spec_l2Sorted.l0 kj4 l0 (y213 ++ y216) (wrap64 (x4_1 + 1))) else (none)))) else (none)))) else (none))) else (none)) else (none))))) else (none)) else (none)) else (none)) else (none)) = some r := by first | (rw [hji40] at H; exact H) | (simp only [hji40] at H ⊢; exact H)
         have hji40w : (IntKind.i64.wrap (x5_4 - 1)) = ji40 := (i64_w _).trans hji40
         by_cases c41 : 0 ≤ (ji40)
         · rw [if_pos c41] at H
           have c41b0 := decide_eq_true c41
           clear c41
           by_cases c42 : (ji40) < (x3_1.length : Int)
           · rw [if_pos c42] at H
             have c42b0 := decide_eq_true c42
             clear c42
             by_cases c43 : 0 ≤ x4_1
             · rw [if_pos c43] at H
               have c43b0 := decide_eq_true c43
               clear c43
               by_cases c44 : x4_1 < (l0.length : Int)
               · rw [if_pos c44] at H
                 have c44b0 := decide_eq_true c44
                 clear c44
                 replace H := Option.bind_eq_some_iff.mp H
                 obtain ⟨t197, A450, H⟩ := H
                 have A45 := Aside0.mk A450
                 clear A450
                 by_cases c46 : t197 = true
                 · subst c46
                   rw [if_pos rfl] at H
                   have H' := Aside0.mk H
                   clear H
                   try go_wp2
                   replace HO_3 := zM (Kd.N_drew HO_3.out)
                   replace HB := zM (below_drew1 HB.out)
                   have p195 : 0 ≤ ((ji40) : Int) := of_decide_eq_true zA
                   have q195 : (ji40) < (x3_1.length : Int) := of_decide_eq_true zA
                   obtain ⟨ad195, A195_0, c195_0, e195, hx195_0, hl195_0, hi195_0⟩ := at_L2 (Kd.N_reads' HO_3.out).2.2 (ji40) p195 q195
                   cases e195
                   obtain ⟨ce195, hce195, hMe195, hcc195⟩ := Kd.N_get HO_3.out [] (ji40) p195 (by first | exact q195 | exact of_decide_eq_true zA | (have e_ := (Kd.N_reads' HO_3.out).1; omega))
                   obtain ⟨ua195_0, uc195_0, rfl, ul195_0, ge195_0⟩ := Kd.FK_slice_open hMe195
                   have hv195_0 := hcc195 0 _ rfl
                   rw [Nat.add_zero, show ((Kd.slice 3 (Kd.int .i64))).sz = 1 from rfl, Nat.mul_one] at hv195_0
                   replace hv195_0 := Option.some.inj (hv195_0.symm.trans hx195_0)
                   injection hv195_0 with hva_ hvn_ hvc_
                   rw [hva_] at ge195_0
                   rw [hvc_] at ul195_0
                   have HL195_0 := zM (show Kd.V (Kd.int .i64) 3 _ w.heap.size _ _ (rd_L2 x3_1 (ji40)) from Kd.V_mk ul195_0 ge195_0)
                   clear hva_ hvn_ hvc_ ge195_0 ul195_0
                   clear hcc195 hce195
                   have HR195_0 := Aside0.mk hi195_0
                   have HC195_0 := Aside0.mk hl195_0
                   clear hi195_0 hl195_0
                   replace p195 := eq_true p195
                   replace q195 := eq_true q195
                   have p196 : 0 ≤ (x4_1 : Int) := of_decide_eq_true zA
                   have q196 : x4_1 < (l0.length : Int) := of_decide_eq_true zA
                   obtain ⟨ad196, A196_0, c196_0, e196, hx196_0, hl196_0, hi196_0⟩ := at_L2 HR0.out x4_1 p196 q196
                   have hw196_0 := hx196_0
                   cases e196
                   (try replace hx196_0 := (HB.out.cell (World.block_lt_of_cell? w _ hx196_0)).trans hx196_0)
                   have HR196_0 := Aside0.mk hi196_0
                   have HC196_0 := Aside0.mk hl196_0
                   clear hi196_0 hl196_0
                   replace p196 := eq_true p196
                   replace q196 := eq_true q196
                   refine zs (n := 15) (fun w' => w'.cell? (ad195.add ((ji40)).toNat) = some (.slice A195_0 (rd_L2 x3_1 (ji40)).length c195_0) ∧ w'.cell? (ad196.add (x4_1).toNat) = some (.slice A196_0 (rd_L2 l0 x4_1).length c196_0)) ⟨hx195_0, ((HB.out.cell (World.block_lt_of_cell? w _ hw196_0)).trans hw196_0)⟩ (fun hHeld => ?_); refine with_tabW spec_l2Sorted.tab8 spec_l2Sorted.bits8 (fun HT_ HW_ => ?_)
                   generalize wc.drew = w47 at HO_3 HB HL195_0 HR195_0 HR196_0 hx195_0 hx196_0 hHeld ⊢
                   refine zp HT_ 0 31 ?_
                   refine zp HT_ 1 32 ?_
                   refine zp HT_ 2 33 ?_
                   refine zp HT_ 3 34 ?_
                   refine zp HT_ 4 35 ?_
                   refine zp HT_ 5 36 ?_
                   refine zp HT_ 6 37 ?_
                   refine zp HT_ 8 39 ?_
                   refine zp HT_ 9 40 ?_
                   refine zp HT_ 10 41 ?_
                   refine zt HT_ HW_ 7 38 hHeld ?_ (hy := by rintro w' ⟨s0, s1⟩; go_simp; with_reducible rfl)
                   refine zt HT_ HW_ 11 42 hHeld ?_ (hy := by rintro w' ⟨s0, s1⟩; go_simp; with_reducible rfl)
                   refine one_ (i := 12) (N := some 43) #[true, true, true, true, true, true, true, true, true, true, true, true, true, false, false] rfl rfl (one_of HT_.out (by kernel_rfl)) (by decide) (fun K hK => ?_)
                   refine goes_ Try.func52 (by kernel_rfl) rfl #[.slice A195_0 (rd_L2 x3_1 (ji40)).length c195_0, .slice A196_0 (rd_L2 l0 x4_1).length c196_0] (by rfl) rfl rfl (by (try simp only [List.map_toArray, List.map_cons, List.map_nil]); first | done | (simp only [hji40]; rfl) | rfl | (simp only [List.length_drop, List.length_take]; rfl)) ?_
                   with_reducible refine (spec_l1Same.calls kj4 _ _ (rd_L2 x3_1 (ji40)) _ _ (rd_L2 l0 x4_1) true _ ?side1 ?side2 ?side3 ?side4 A45.out).mono ?_
                   (case side1 => repeat (first | exact (by repeat (first | (with_reducible exact HR195_0.out) | (with_reducible refine Kd.C_alloc ?_ _) | (with_reducible refine Kd.C_drewN ?_ _) | (with_reducible refine Kd.C_drew ?_) | exact HR195_0.out)) | (with_reducible refine Kd.C_alloc ?_ _) | (with_reducible refine Kd.C_drewN ?_ _) | (with_reducible refine Kd.C_drew ?_)))
                   (case side2 => exact HC195_0.out)
                   (case side3 => exact zC (Kd.C_below HR196_0.out HB.out))
                   (case side4 => exact HC196_0.out)
                   rintro e w' ⟨rfl, ⟨nd, rfl⟩⟩
                   refine ⟨_, rfl, ?_⟩
                   refine hK.out _ _ ⟨hHeld.1, ((HB.out.cell (World.block_lt_of_cell? w _ hw196_0)).trans hw196_0)⟩ (fun hHeld => ?_)
                   clear hK K
                   refine zn 43 ?_
                   refine zp HT_ 13 44 ?_
                   refine zp HT_ 14 45 ?_
                   refine zo HT_ ?_
                   try go_wp2
                   go_roundg kj4
                   case measure => have := HK1.out; have := HJ4.out; omega
                   case rel => exact ⟨(x3_1), (wrap64 (x4_1 + 1)), (by first | rfl | (simp; done) | (simp [*]; done)), H', ⟨by have := HK1.out; have := HJ4.out; omega⟩, ⟨by (with_reducible repeat (first | apply Kd.N_alloc | apply Kd.N_drewN | apply Kd.N_drew)); exact HO_3.out⟩, ⟨zB⟩⟩
                 · replace c46 := Bool.eq_false_iff.mpr c46
                   subst c46
                   have H1 : ((some (([] : List (List Int)) : List (List Int))).bind fun y198 => (if 0 ≤ x5_4 then (if x5_4 ≤ (x3_1.length : Int) then ((some (x3_1.take (x5_4 : Int).toNat : List (List Int))).bind fun y201 => (if y198.length + y201.length < 5864062014805 then ((some (y198 ++ y201 : List (List Int))).bind fun y206 => ((spec_l1Own.f (rd_L2 l0 x4_1)).bind fun t210 => (if y206.length < 5864062014805 then ((some (y206 ++ [t210] : List (List Int))).bind fun y213 => ((some (x3_1.drop (x5_4 : Int).toNat : List (List Int))).bind fun y216 => (if y213.length + y216.length < 5864062014805 then (spec_l2Sorted.l0 kj4 l0 (y213 ++ y216) (wrap64 (x4_1 + 1))) else (none)))) else (none)))) else (none))) else (none)) else (none))) = some r := by rw [if_neg (show ¬ (false = true) by decide)] at H; exact H
                   clear H
                   have H := H1
                   clear H1
                   obtain ⟨y198, hy198⟩ : ∃ y_ : List (List Int), y_ = (([] : List (List Int))) := ⟨_, rfl⟩
                   replace H : (if 0 ≤ x5_4 then (if x5_4 ≤ (x3_1.length : Int) then ((some (x3_1.take (x5_4 : Int).toNat : List (List Int))).bind fun y201 => (if y198.length + y201.length < 5864062014805 then ((some (y198 ++ y201 : List (List Int))).bind fun y206 => ((spec_l1Own.f (rd_L2 l0 x4_1)).bind fun t210 => (if y206.length < 5864062014805 then ((some (y206 ++ [t210] : List (List Int))).bind fun y213 => ((some (x3_1.drop (x5_4 : Int).toNat : List (List Int))).bind fun y216 => (if y213.length + y216.length < 5864062014805 then (spec_l2Sorted.l0 kj4 l0 (y213 ++ y216) (wrap64 (x4_1 + 1))) else (none)))) else (none)))) else (none))) else (none)) else (none)) = some r := by first | (rw [hy198]; with_reducible exact H) | (have H2_ := (Option.bind_some _ _).symm.trans H; rw [hy198]; with_reducible exact H2_) | (have H2_ := (Option.bind_some _ _).symm.trans H; with_reducible exact H2_) | with_reducible exact H | (rw [hy198]; exact H) | exact H
                   have Ny198 := Aside0.mk hy198
                   clear hy198
                   by_cases c48 : 0 ≤ x5_4
                   · rw [if_pos c48] at H
                     have c48b0 := eq_true c48
                     have c48b1 : decide (0 ≤ x5_4) = true := decide_eq_true c48
                     clear c48
                     by_cases c49 : x5_4 ≤ (x3_1.length : Int)
                     · rw [if_pos c49] at H
                       have c49b0 := eq_true c49
                       have c49b1 : decide (x5_4 ≤ (x3_1.length : Int)) = true := decide_eq_true c49
                       clear c49
                       obtain ⟨y201, hy201⟩ : ∃ y_ : List (List Int), y_ = (x3_1.take (x5_4 : Int).toNat) := ⟨_, rfl⟩
                       replace H : (if y198.length + y201.length < 5864062014805 then ((some (y198 ++ y201 : List (List Int))).bind fun y206 => ((spec_l1Own.f (rd_L2 l0 x4_1)).bind fun t210 => (if y206.length < 5864062014805 then ((some (y206 ++ [t210] : List (List Int))).bind fun y213 => ((some (x3_1.drop (x5_4 : Int).toNat : List (List Int))).bind fun y216 => (if y213.length + y216.length < 5864062014805 then (spec_l2Sorted.l0 kj4 l0 (y213 ++ y216) (wrap64 (x4_1 + 1))) else (none)))) else (none)))) else (none)) = some r := by first | (rw [hy201]; with_reducible exact H) | (have H2_ := (Option.bind_some _ _).symm.trans H; rw [hy201]; with_reducible exact H2_) | (have H2_ := (Option.bind_some _ _).symm.trans H; with_reducible exact H2_) | with_reducible exact H | (rw [hy201]; exact H) | exact H
                       have Ny201 := Aside0.mk hy201
                       clear hy201
                       by_cases c50 : y198.length + y201.length < 5864062014805
                       · rw [if_pos c50] at H
                         have LMc50 := Aside0.mk c50
                         clear c50
                         obtain ⟨y206, hy206⟩ : ∃ y_ : List (List Int), y_ = (y198 ++ y201) := ⟨_, rfl⟩
                         replace H : ((spec_l1Own.f (rd_L2 l0 x4_1)).bind fun t210 => (if y206.length < 5864062014805 then ((some (y206 ++ [t210] : List (List Int))).bind fun y213 => ((some (x3_1.drop (x5_4 : Int).toNat : List (List Int))).bind fun y216 => (if y213.length + y216.length < 5864062014805 then (spec_l2Sorted.l0 kj4 l0 (y213 ++ y216) (wrap64 (x4_1 + 1))) else (none)))) else (none))) = some r := by first | (rw [hy206]; with_reducible exact H) | (have H2_ := (Option.bind_some _ _).symm.trans H; rw [hy206]; with_reducible exact H2_) | (have H2_ := (Option.bind_some _ _).symm.trans H; with_reducible exact H2_) | with_reducible exact H | (rw [hy206]; exact H) | exact H
                         have Ny206 := Aside0.mk hy206
                         clear hy206
                         replace H := Option.bind_eq_some_iff.mp H
                         obtain ⟨t210, A510, H⟩ := H
                         have A51 := Aside0.mk A510
                         clear A510
                         by_cases c52 : y206.length < 5864062014805
                         · rw [if_pos c52] at H
                           have LMc52 := Aside0.mk c52
                           clear c52
                           obtain ⟨y213, hy213⟩ : ∃ y_ : List (List Int), y_ = (y206 ++ [t210]) := ⟨_, rfl⟩
                           replace H : ((some (x3_1.drop (x5_4 : Int).toNat : List (List Int))).bind fun y216 => (if y213.length + y216.length < 5864062014805 then (spec_l2Sorted.l0 kj4 l0 (y213 ++ y216) (wrap64 (x4_1 + 1))) else (none))) = some r := by first | (rw [hy213]; with_reducible exact H) | (have H2_ := (Option.bind_some _ _).symm.trans H; rw [hy213]; with_reducible exact H2_) | (have H2_ := (Option.bind_some _ _).symm.trans H; with_reducible exact H2_) | with_reducible exact H | (rw [hy213]; exact H) | exact H
                           have Ny213 := Aside0.mk hy213
                           clear hy213
                           have c53b0 := eq_true (of_decide_eq_true zA : 0 ≤ x5_4)
                           have c54b0 := eq_true (of_decide_eq_true zA : x5_4 ≤ (x3_1.length : Int))
                           obtain ⟨y216, hy216⟩ : ∃ y_ : List (List Int), y_ = (x3_1.drop (x5_4 : Int).toNat) := ⟨_, rfl⟩
                           replace H : (if y213.length + y216.length < 5864062014805 then (spec_l2Sorted.l0 kj4 l0 (y213 ++ y216) (wrap64 (x4_1 + 1))) else (none)) = some r := by first | (rw [hy216]; with_reducible exact H) | (have H2_ := (Option.bind_some _ _).symm.trans H; rw [hy216]; with_reducible exact H2_) | (have H2_ := (Option.bind_some _ _).symm.trans H; with_reducible exact H2_) | with_reducible exact H | (rw [hy216]; exact H) | exact H
                           have Ny216 := Aside0.mk hy216
                           clear hy216
                           by_cases c55 : y213.length + y216.length < 5864062014805
                           · rw [if_pos c55] at H
                             have LMc55 := Aside0.mk c55
                             clear c55
                             obtain ⟨y221, hy221⟩ : ∃ y_ : List (List Int), y_ = (y213 ++ y216) := ⟨_, rfl⟩
                             replace H : (spec_l2Sorted.l0 kj4 l0 y221 (wrap64 (x4_1 + 1))) = some r := by first | (rw [hy221]; with_reducible exact H) | (have H2_ := (Option.bind_some _ _).symm.trans H; rw [hy221]; with_reducible exact H2_) | (have H2_ := (Option.bind_some _ _).symm.trans H; with_reducible exact H2_) | with_reducible exact H | (rw [hy221]; exact H) | exact H
                             have Ny221 := Aside0.mk hy221
                             clear hy221
                             have H' := Aside0.mk H
                             clear H
                             try go_wp2
                             replace HO_3 := zM (Kd.N_drew HO_3.out)
                             replace HB := zM (below_drew1 HB.out)
                             have p195 : 0 ≤ ((ji40) : Int) := of_decide_eq_true zA
                             have q195 : (ji40) < (x3_1.length : Int) := of_decide_eq_true zA
                             obtain ⟨ad195, A195_0, c195_0, e195, hx195_0, hl195_0, hi195_0⟩ := at_L2 (Kd.N_reads' HO_3.out).2.2 (ji40) p195 q195
                             cases e195
                             obtain ⟨ce195, hce195, hMe195, hcc195⟩ := Kd.N_get HO_3.out [] (ji40) p195 (by first | exact q195 | exact of_decide_eq_true zA | (have e_ := (Kd.N_reads' HO_3.out).1; omega))
                             obtain ⟨ua195_0, uc195_0, rfl, ul195_0, ge195_0⟩ := Kd.FK_slice_open hMe195
                             have hv195_0 := hcc195 0 _ rfl
                             rw [Nat.add_zero, show ((Kd.slice 3 (Kd.int .i64))).sz = 1 from rfl, Nat.mul_one] at hv195_0
                             replace hv195_0 := Option.some.inj (hv195_0.symm.trans hx195_0)
                             injection hv195_0 with hva_ hvn_ hvc_
                             rw [hva_] at ge195_0
                             rw [hvc_] at ul195_0
                             have HL195_0 := zM (show Kd.V (Kd.int .i64) 3 _ w.heap.size _ _ (rd_L2 x3_1 (ji40)) from Kd.V_mk ul195_0 ge195_0)
                             clear hva_ hvn_ hvc_ ge195_0 ul195_0
                             clear hcc195 hce195
                             have HR195_0 := Aside0.mk hi195_0
                             have HC195_0 := Aside0.mk hl195_0
                             clear hi195_0 hl195_0
                             replace p195 := eq_true p195
                             replace q195 := eq_true q195
                             have p196 : 0 ≤ (x4_1 : Int) := of_decide_eq_true zA
                             have q196 : x4_1 < (l0.length : Int) := of_decide_eq_true zA
                             obtain ⟨ad196, A196_0, c196_0, e196, hx196_0, hl196_0, hi196_0⟩ := at_L2 HR0.out x4_1 p196 q196
                             have hw196_0 := hx196_0
                             cases e196
                             (try replace hx196_0 := (HB.out.cell (World.block_lt_of_cell? w _ hx196_0)).trans hx196_0)
                             have HR196_0 := Aside0.mk hi196_0
                             have HC196_0 := Aside0.mk hl196_0
                             clear hi196_0 hl196_0
                             replace p196 := eq_true p196
                             replace q196 := eq_true q196
                             refine zs (n := 15) (fun w' => w'.cell? (ad195.add ((ji40)).toNat) = some (.slice A195_0 (rd_L2 x3_1 (ji40)).length c195_0) ∧ w'.cell? (ad196.add (x4_1).toNat) = some (.slice A196_0 (rd_L2 l0 x4_1).length c196_0)) ⟨hx195_0, ((HB.out.cell (World.block_lt_of_cell? w _ hw196_0)).trans hw196_0)⟩ (fun hHeld => ?_); refine with_tabW spec_l2Sorted.tab8 spec_l2Sorted.bits8 (fun HT_ HW_ => ?_)
                             generalize wc.drew = w56 at HO_3 HB HL195_0 HR195_0 HR196_0 hx195_0 hx196_0 hHeld ⊢
                             refine zp HT_ 0 31 ?_
                             refine zp HT_ 1 32 ?_
                             refine zp HT_ 2 33 ?_
                             refine zp HT_ 3 34 ?_
                             refine zp HT_ 4 35 ?_
                             refine zp HT_ 5 36 ?_
                             refine zp HT_ 6 37 ?_
                             refine zp HT_ 8 39 ?_
                             refine zp HT_ 9 40 ?_
                             refine zp HT_ 10 41 ?_
                             refine zt HT_ HW_ 7 38 hHeld ?_ (hy := by rintro w' ⟨s0, s1⟩; go_simp; with_reducible rfl)
                             refine zt HT_ HW_ 11 42 hHeld ?_ (hy := by rintro w' ⟨s0, s1⟩; go_simp; with_reducible rfl)
                             refine one_ (i := 12) (N := some 43) #[true, true, true, true, true, true, true, true, true, true, true, true, true, false, false] rfl rfl (one_of HT_.out (by kernel_rfl)) (by decide) (fun K hK => ?_)
                             refine goes_ Try.func52 (by kernel_rfl) rfl #[.slice A195_0 (rd_L2 x3_1 (ji40)).length c195_0, .slice A196_0 (rd_L2 l0 x4_1).length c196_0] (by rfl) rfl rfl (by (try simp only [List.map_toArray, List.map_cons, List.map_nil]); first | done | (simp only [hji40]; rfl) | rfl | (simp only [List.length_drop, List.length_take]; rfl)) ?_
                             with_reducible refine (spec_l1Same.calls kj4 _ _ (rd_L2 x3_1 (ji40)) _ _ (rd_L2 l0 x4_1) false _ ?side1 ?side2 ?side3 ?side4 A45.out).mono ?_
                             (case side1 => repeat (first | exact (by repeat (first | (with_reducible exact HR195_0.out) | (with_reducible refine Kd.C_alloc ?_ _) | (with_reducible refine Kd.C_drewN ?_ _) | (with_reducible refine Kd.C_drew ?_) | exact HR195_0.out)) | (with_reducible refine Kd.C_alloc ?_ _) | (with_reducible refine Kd.C_drewN ?_ _) | (with_reducible refine Kd.C_drew ?_)))
                             (case side2 => exact HC195_0.out)
                             (case side3 => exact zC (Kd.C_below HR196_0.out HB.out))
                             (case side4 => exact HC196_0.out)
                             rintro e w' ⟨rfl, ⟨nd, rfl⟩⟩
                             refine ⟨_, rfl, ?_⟩
                             refine hK.out _ _ ⟨hHeld.1, ((HB.out.cell (World.block_lt_of_cell? w _ hw196_0)).trans hw196_0)⟩ (fun hHeld => ?_)
                             clear hK K
                             refine zn 43 ?_
                             refine zp HT_ 13 44 ?_
                             refine zp HT_ 14 45 ?_
                             refine zo HT_ ?_
                             try go_wp2
                             (try (rw [drewN_self w56]; generalize hq_ : World.drewN w56 _ = w56; have n0_ : Aside0 (Kd.V (Kd.int .i64) 3 w56 w.heap.size (fun k_ => (w.heap.size ≤ k_) ∧ some k_ ≠ (.slice (some ad195) x3_1.length co6 : Value).ownBlock) (.slice A195_0 (rd_L2 x3_1 (ji40)).length c195_0) (rd_L2 x3_1 (ji40))) := ⟨by rw [← hq_]; exact (by (with_reducible repeat (first | apply Kd.V_alloc | apply Kd.V_drewN | apply Kd.V_drew)); exact HL195_0.out)⟩; have n1_ : Aside0 (Kd.N (Kd.slice 3 (Kd.int .i64)) 37 w56 w.heap.size (fun k_ => (w.heap.size ≤ k_)) (.slice (some ad195) x3_1.length co6) x3_1) := ⟨by rw [← hq_]; exact (by (with_reducible repeat (first | apply Kd.N_alloc | apply Kd.N_drewN | apply Kd.N_drew)); exact HO_3.out)⟩; have n2_ : Aside0 (Below w.heap.size w w56) := ⟨by rw [← hq_]; exact zB⟩; have n3_ : Aside0 (Kd.C (Kd.int .i64) w56 A195_0 (rd_L2 x3_1 (ji40)).length (rd_L2 x3_1 (ji40))) := ⟨by rw [← hq_]; exact (by repeat (first | (with_reducible exact HR195_0.out) | (with_reducible refine Kd.C_alloc ?_ _) | (with_reducible refine Kd.C_drewN ?_ _) | (with_reducible refine Kd.C_drew ?_) | exact HR195_0.out))⟩; clear HL195_0 HO_3 HB HR195_0 hq_; have HL195_0 := n0_; have HO_3 := n1_; have HB := n2_; have HR195_0 := n3_; clear n0_ n1_ n2_ n3_))
                             replace HO_3 := zM (Kd.N_drew HO_3.out)
                             replace HL195_0 := zM (Kd.V_drew HL195_0.out)
                             replace HR195_0 := zM (Kd.C_drew HR195_0.out)
                             replace HB := zM (below_drew1 HB.out)
                             have q58 : (x5_4 : Int) ≤ ((x3_1.length : Int) : Int) := of_decide_eq_true zA
                             obtain ⟨i058, hi058, _, hsz58, _⟩ := info_parts info37
                             have hroom58 : x3_1.length ≤ co6 := (Kd.N_reads' HO_3.out).2.1
                             have hC58 : Kd.F (Kd.slice 3 (Kd.int .i64)) _ _ (some ad195) x3_1.length x3_1 := (Kd.V_at (base := w.heap.size) (Kd.N_V HO_3.out)).2.2
                             have hcut58 := cut_to (P := Try.prog) 34 37 .i64 Try.underlying34 hi058 (some ad195) x3_1.length co6 x5_4 (of_decide_eq_true zA) q58 hroom58
                             have hr58 := Kd.F_take (m := (x5_4 : Int).toNat) hC58 (by omega)
                             have hy58 : y201.length = (x5_4 : Int).toNat := (by rw [Ny201.out, List.length_take]; omega)
                             rw [← Ny201.out] at hr58
                             rw [← hy58] at hcut58
                             have HO205 := zM (show Kd.V (Kd.slice 3 (Kd.int .i64)) 37 _ w.heap.size _ (.slice (some ad195) y201.length co6) y201 from Kd.V_mk (by omega) hr58)
                             have HC205 := zM (show y201.length ≤ co6 from by omega)
                             clear hr58 hC58 hroom58 hi058 hsz58
                             have KY58 := Aside0.mk hy58
                             clear hy58
                             replace q58 := eq_true q58
                             have p209 : 0 ≤ (x4_1 : Int) := of_decide_eq_true zA
                             have q209 : x4_1 < (l0.length : Int) := of_decide_eq_true zA
                             obtain ⟨ad209, A209_0, c209_0, e209, hx209_0, hl209_0, hi209_0⟩ := at_L2 HR0.out x4_1 p209 q209
                             have hw209_0 := hx209_0
                             obtain rfl : ad196 = ad209 := (by injection e209)
                             (try replace hx209_0 := (HB.out.cell (World.block_lt_of_cell? w _ hx209_0)).trans hx209_0)
                             have HR209_0 := Aside0.mk hi209_0
                             have HC209_0 := Aside0.mk hl209_0
                             clear hi209_0 hl209_0
                             replace p209 := eq_true p209
                             replace q209 := eq_true q209
                             have q59 : (x5_4 : Int) ≤ ((x3_1.length : Int) : Int) := of_decide_eq_true zA
                             obtain ⟨i059, hi059, _, hsz59, _⟩ := info_parts info37
                             have hroom59 : x3_1.length ≤ co6 := (Kd.N_reads' HO_3.out).2.1
                             have hC59 : Kd.F (Kd.slice 3 (Kd.int .i64)) _ _ (some ad195) x3_1.length x3_1 := (Kd.V_at (base := w.heap.size) (Kd.N_V HO_3.out)).2.2
                             have q059 : (0 : Int) ≤ (x5_4 : Int) := of_decide_eq_true zA
                             have hcut59 := cut_from (P := Try.prog) 34 37 .i64 Try.underlying34 hi059 1 hsz59 (some ad195) x3_1.length co6 x5_4 q059 q59
                             have hr59 := Kd.F_cut (m := (x5_4 : Int).toNat) (c := co6) hC59 (by omega) hroom59
                             obtain ⟨A59, hA59⟩ : ∃ A1, A1 = (if co6 = (x5_4 : Int).toNat then (some ad195) else ((some ad195) : Option Addr).map (·.add ((x5_4 : Int).toNat * 1))) := ⟨_, rfl⟩
                             obtain ⟨c59, hc59⟩ : ∃ c1, c1 = co6 - (x5_4 : Int).toNat := ⟨_, rfl⟩
                             have hy59 : y216.length = x3_1.length - (x5_4 : Int).toNat := (by rw [Ny216.out, List.length_drop] <;> omega)
                             rw [show (x3_1).drop (x5_4 : Int).toNat = y216 from Ny216.out.symm] at hr59
                             replace hr59 : Kd.F (Kd.slice 3 (Kd.int .i64)) _ _ A59 y216.length y216 := (by rw [hA59]; exact hr59)
                             rw [← hy59, ← hA59, ← hc59] at hcut59
                             have HO220 := zM (show Kd.V (Kd.slice 3 (Kd.int .i64)) 37 _ w.heap.size _ (.slice A59 y216.length c59) y216 from Kd.V_mk (by rw [hy59, hc59]; exact Nat.sub_le_sub_right hroom59 _) hr59)
                             have HC220 := zM (show y216.length ≤ c59 from by rw [hy59, hc59]; exact Nat.sub_le_sub_right hroom59 _)
                             clear hr59 hC59 hroom59 hi059 hsz59 hc59
                             have KY59 := Aside0.mk hy59
                             have KA59 := Aside0.mk hA59
                             clear hy59 hA59
                             replace q59 := eq_true q59
                             refine zs (n := 17) (fun w' => w'.cell? (ad196.add (x4_1).toNat) = some (.slice A209_0 (rd_L2 l0 x4_1).length c209_0)) (((HB.out.cell (World.block_lt_of_cell? w _ hw209_0)).trans hw209_0)) (fun hHeld => ?_); refine with_tabW spec_l2Sorted.tab9 spec_l2Sorted.bits9 (fun HT_ HW_ => ?_)
                             generalize w56.drew = w57 at HO_3 HL195_0 HR195_0 HB HO205 HO220 HR209_0 hx209_0 hHeld ⊢
                             refine zp HT_ 1 47 ?_
                             refine zp HT_ 2 48 ?_
                             refine zp HT_ 3 49 ?_
                             refine zp HT_ 5 51 ?_
                             refine zp HT_ 6 52 ?_
                             refine zp HT_ 7 53 ?_
                             refine zp HT_ 12 58 ?_
                             refine zp HT_ 13 59 ?_
                             refine zp HT_ 14 60 ?_
                             refine take_ (i := 8) (N := some 54) (v := ?_) (a' := ?_) #[false, true, true, true, false, true, true, true, true, false, false, false, true, true, true, false, false] rfl rfl (take_ofW HT_.out HW_.out (by kernel_rfl)) (fun _ _ _ h => h) (Or.inl ⟨by rfl, ?_⟩) hHeld ?_ ?_
                             rotate_left
                             · intro w' s0
                               go_simp
                               with_reducible rfl
                             rotate_left
                             · simp only [Act.put, List.setIfInBounds_toArray, List.set_cons_zero, List.set_cons_succ, i64_w, i32_w]
                               rfl
                             refine one_ (i := 0) (N := some 46) #[true, true, true, true, false, true, true, true, true, false, false, false, true, true, true, false, false] rfl rfl (one_of HT_.out (by kernel_rfl)) (by decide) (fun K hK => ?_)
                             refine Kd.N_lit_step (Kd.slice 3 (Kd.int .i64)) _ 37 ?hg (N' := 46) ?hd (xs := ([] : List (List Int))) (inner := []) (ok := (fun k_ => (w.heap.size ≤ k_) ∧ some k_ ≠ (.slice (some ad195) x3_1.length co6 : Value).ownBlock)) (okp := (fun k_ => (w.heap.size ≤ k_) ∧ some k_ ≠ (.slice (some ad195) x3_1.length co6 : Value).ownBlock)) ?hr ?hp (fun _ hk => hk) ((show ∀ k_, w57.heap.size ≤ k_ → (fun k_ => (w.heap.size ≤ k_) ∧ some k_ ≠ (.slice (some ad195) x3_1.length co6 : Value).ownBlock) k_ from fun k_ hk => ⟨(Nat.le_trans (below_size zB) hk), Kd.fresh' (Kd.N_lt (by (with_reducible repeat (first | apply Kd.N_alloc | apply Kd.N_drewN | apply Kd.N_drew)); exact HO_3.out)) k_ hk⟩) _ (Nat.le_refl _)) (Below.refl _ _) (Nat.le_refl _) (by simp) ?_; (case hd => rfl); (case hg => rfl); (case hr => first | (go_simp; done) | (go_simp; rfl)); (case hp => exact (Reps.none _ _))
                             intro v199 w60 ho61 hb hg_ hnew_
                             clear hg_ hnew_
                             (first | rw [← Ny198.out] at ho61 | (simp only [Int.reduceToNat] at ho61; rw [← Ny198.out] at ho61))
                             replace HO_3 := zM (Kd.N_elder' (by (with_reducible repeat (first | apply Kd.N_alloc | apply Kd.N_drewN | apply Kd.N_drew)); exact HO_3.out) (Kd.N_base ho61) hb)
                             replace HL195_0 := zM (Kd.V_elder' (by (with_reducible repeat (first | apply Kd.V_alloc | apply Kd.V_drewN | apply Kd.V_drew)); exact HL195_0.out) (Kd.N_base ho61) hb)
                             replace HO205 := zM (Kd.V_elder' (by (with_reducible repeat (first | apply Kd.V_alloc | apply Kd.V_drewN | apply Kd.V_drew)); exact HO205.out) (Kd.N_base ho61) hb)
                             replace HO220 := zM (Kd.V_elder' (by (with_reducible repeat (first | apply Kd.V_alloc | apply Kd.V_drewN | apply Kd.V_drew)); exact HO220.out) (Kd.N_base ho61) hb)
                             have HO200 := zM (Kd.N_lower ho61 (below_size zB))
                             replace HR195_0 := zM (Kd.C_below (by repeat (first | (with_reducible exact HR195_0.out) | (with_reducible refine Kd.C_alloc ?_ _) | (with_reducible refine Kd.C_drewN ?_ _) | (with_reducible refine Kd.C_drew ?_) | exact HR195_0.out)) hb)
                             replace HB := zM (below_step zB hb)
                             clear hb ho61
                             refine hK.out _ _ (((HB.out.cell (World.block_lt_of_cell? w _ hw209_0)).trans hw209_0)) (fun hHeld => ?_)
                             clear hK K
                             refine zn 46 ?_
                             refine one_ (i := 4) (N := some 50) #[true, true, true, true, true, true, true, true, true, false, false, false, true, true, true, false, false] rfl rfl (one_of HT_.out (by kernel_rfl)) (by decide) (fun K hK => ?_)
                             refine Kd.N_append_rows_step (Kd.slice 3 (Kd.int .i64)) (w0 := w) w.heap.size (by rfl) (.tmp 46) (.tmp 49) 34 37 (.slice none 0 0) 24 rfl Try.underlying34 info37 rfl (by decide) (by omega) v199 y198 y201 _ _ _ (fun k_ => (w.heap.size ≤ k_)) (fun k_ => ((fun k_ => (w.heap.size ≤ k_))) k_ ∧ some k_ ≠ (v199 : Value).ownBlock) rfl rfl ?aO ?aR (fun _ hk => hk) ?aF ?aB ?aS ?aL ?_
                             (case aR => exact (by skip; exact Kd.V_F (Kd.V_mono (ok' := (fun k_ => ((fun k_ => (w.heap.size ≤ k_))) k_ ∧ some k_ ≠ (v199 : Value).ownBlock)) (HO205.out) (fun k_ hk => ⟨hk.1, hk.2⟩))))
                             (case aB => exact zB)
                             (case aF => exact (fun k_ hk => (Nat.le_trans (below_size zB) hk)))
                             (case aO => exact (by (with_reducible repeat (first | apply Kd.N_alloc | apply Kd.N_drewN | apply Kd.N_drew)); exact Kd.N_mono HO200.out (fun _ hk => hk.1)))
                             (case aS => exact (below_size zB))
                             (case aL => have := LMc50.out; omega)
                             intro v207 w62 ho hb hg hat
                             rw [← Ny206.out] at ho
                             replace HO_3 := zM (Kd.N_afterv (ok := (fun k_ => (w.heap.size ≤ k_))) (by (with_reducible repeat (first | apply Kd.N_alloc | apply Kd.N_drewN | apply Kd.N_drew)); exact HO_3.out) hg hat)
                             replace HL195_0 := zM (Kd.V_afterv (ok := (fun k_ => (w.heap.size ≤ k_) ∧ some k_ ≠ (.slice (some ad195) x3_1.length co6 : Value).ownBlock)) (by (with_reducible repeat (first | apply Kd.V_alloc | apply Kd.V_drewN | apply Kd.V_drew)); exact HL195_0.out) hg hat)
                             replace HO205 := zM (Kd.V_afterv (ok := (fun k_ => (w.heap.size ≤ k_))) (by (with_reducible repeat (first | apply Kd.V_alloc | apply Kd.V_drewN | apply Kd.V_drew)); exact HO205.out) hg hat)
                             replace HO220 := zM (Kd.V_afterv (ok := (fun k_ => (w.heap.size ≤ k_))) (by (with_reducible repeat (first | apply Kd.V_alloc | apply Kd.V_drewN | apply Kd.V_drew)); exact HO220.out) hg hat)
                             replace HB := zM (hb)
                             have HO208 := zM (ho)
                             clear HO200
                             clear ho hb hg hat
                             refine hK.out _ _ (((HB.out.cell (World.block_lt_of_cell? w _ hw209_0)).trans hw209_0)) (fun hHeld => ?_)
                             clear hK K
                             refine zn 50 ?_
                             refine zg HT_ 9 55 Try.func53 #[.slice A209_0 (rd_L2 l0 x4_1).length c209_0] (fun K hK => ?_)
                             with_reducible refine (spec_l1Own.calls _ _ (rd_L2 l0 x4_1) t210 _ ?side1 ?side2 A51.out).mono ?_
                             (case side1 => exact zC (Kd.C_below HR209_0.out HB.out))
                             (case side2 => exact HC209_0.out)
                             rintro e w63 ⟨v211, rfl, ho0, hb⟩
                             refine ⟨_, rfl, ?_⟩
                             replace HO_3 := zM (Kd.N_elder' (by (with_reducible repeat (first | apply Kd.N_alloc | apply Kd.N_drewN | apply Kd.N_drew)); exact HO_3.out) (Kd.R_base ho0) hb)
                             replace HL195_0 := zM (Kd.V_elder' (by (with_reducible repeat (first | apply Kd.V_alloc | apply Kd.V_drewN | apply Kd.V_drew)); exact HL195_0.out) (Kd.R_base ho0) hb)
                             replace HO205 := zM (Kd.V_elder' (by (with_reducible repeat (first | apply Kd.V_alloc | apply Kd.V_drewN | apply Kd.V_drew)); exact HO205.out) (Kd.R_base ho0) hb)
                             replace HO220 := zM (Kd.V_elder' (by (with_reducible repeat (first | apply Kd.V_alloc | apply Kd.V_drewN | apply Kd.V_drew)); exact HO220.out) (Kd.R_base ho0) hb)
                             replace HO208 := zM (Kd.N_elder' (by (with_reducible repeat (first | apply Kd.N_alloc | apply Kd.N_drewN | apply Kd.N_drew)); exact HO208.out) (Kd.R_base ho0) hb)
                             have HO212 := zM (Kd.R_lower (Kd.R_newM (M := fun k_ => (w.heap.size ≤ k_)) ho0 (below_size zB) (fun k_ h_ => h_)) (below_size zB))
                             replace HB := zM (below_step zB hb)
                             (try clear hb)
                             (try clear hb2)
                             (try clear hk)
                             (try clear hi)
                             (try clear ho0)
                             obtain ⟨Ao65, co65, eo65⟩ := Kd.R_slice HO212.out
                             (first | subst eo65 | (injection eo65 with f1_ f2_ f3_; have f4_ := f1_.symm; have f5_ := f3_.symm; clear f1_ f2_ f3_; subst f4_; subst f5_))
                             refine hK.out _ _ (((HB.out.cell (World.block_lt_of_cell? w _ hw209_0)).trans hw209_0)) (fun hHeld => ?_)
                             clear hK K
                             refine zn 55 ?_
                             refine one_ (i := 10) (N := some 56) #[true, true, true, true, true, true, true, true, true, true, true, false, true, true, true, false, false] rfl rfl (one_of HT_.out (by kernel_rfl)) (by decide) (fun K hK => ?_)
                             refine value_ (w1 := ?_) (v := ?_) (by rfl) rfl ?_ ?_
                             rotate_left 2
                             · go_simp
                               constructor
                               · rfl
                               · rfl
                             refine hK.out _ _ ((World.cell?_alloc_lt _ _ _ (World.block_lt_of_cell? _ _ (((HB.out.cell (World.block_lt_of_cell? w _ hw209_0)).trans hw209_0)))).trans (((HB.out.cell (World.block_lt_of_cell? w _ hw209_0)).trans hw209_0))) (fun hHeld => ?_)
                             clear hK K
                             refine zn 56 ?_
                             refine one_ (i := 11) (N := some 57) #[true, true, true, true, true, true, true, true, true, true, true, true, true, true, true, false, false] rfl rfl (one_of HT_.out (by kernel_rfl)) (by decide) (fun K hK => ?_)
                             refine Kd.N_append_step (Kd.slice 3 (Kd.int .i64)) (w0 := w) w.heap.size (by rfl) (.tmp 50) (.tmp 56) 34 37 (.slice none 0 0) 24 rfl Try.underlying34 info37 rfl (by decide) (by omega) v207 y206 t210 [.slice Ao65 t210.length co65] (fun k_ => (w.heap.size ≤ k_)) (fun k_ => ((fun k_ => (w.heap.size ≤ k_))) k_ ∧ some k_ ≠ (v207 : Value).ownBlock) rfl rfl ?aP (fun _ hk => hk) ?aF ?aO ?aB ?aS ?aL ?_
                             (case aP => exact (Kd.FK_slice_mk (Kd.R_reads' (Kd.R_mono (ok' := (fun k_ => ((fun k_ => (w.heap.size ≤ k_))) k_ ∧ some k_ ≠ (v207 : Value).ownBlock)) (Kd.R_apart' (HO212.out) (Kd.N_typed HO208.out) (by decide)) (fun k_ hk => ⟨hk.1.1, hk.2⟩))).2.1 (Kd.R_F (Kd.R_mono (ok' := (fun k_ => ((fun k_ => (w.heap.size ≤ k_))) k_ ∧ some k_ ≠ (v207 : Value).ownBlock)) (Kd.R_apart' (HO212.out) (Kd.N_typed HO208.out) (by decide)) (fun k_ hk => ⟨hk.1.1, hk.2⟩)))))
                             (case aB => exact zB)
                             (case aF => exact (fun k_ hk => (Nat.le_trans (below_size zB) hk)))
                             (case aO => exact (by (with_reducible repeat (first | apply Kd.N_alloc | apply Kd.N_drewN | apply Kd.N_drew)); exact Kd.N_mono HO208.out (fun _ hk => hk.1)))
                             (case aS => exact (below_size zB))
                             (case aL => have := LMc52.out; omega)
                             intro v214 w64 ho hb hg hat
                             rw [← Ny213.out] at ho
                             replace HO_3 := zM (Kd.N_afterv (ok := (fun k_ => (w.heap.size ≤ k_) ∧ some k_ ≠ (.slice Ao65 t210.length co65 : Value).ownBlock)) (by (with_reducible repeat (first | apply Kd.N_alloc | apply Kd.N_drewN | apply Kd.N_drew)); exact Kd.N_mono HO_3.out (fun _ hk => ⟨⟨hk.1.1, hk.2⟩, hk.1.2⟩)) hg hat)
                             replace HL195_0 := zM (Kd.V_afterv (ok := (fun k_ => (w.heap.size ≤ k_) ∧ some k_ ≠ (.slice (some ad195) x3_1.length co6 : Value).ownBlock ∧ some k_ ≠ (.slice Ao65 t210.length co65 : Value).ownBlock)) (by (with_reducible repeat (first | apply Kd.V_alloc | apply Kd.V_drewN | apply Kd.V_drew)); exact Kd.V_mono HL195_0.out (fun _ hk => ⟨⟨hk.1.1.1, ⟨hk.1.1.2, hk.2⟩⟩, hk.1.2⟩)) hg hat)
                             replace HO205 := zM (Kd.V_afterv (ok := (fun k_ => (w.heap.size ≤ k_) ∧ some k_ ≠ (.slice Ao65 t210.length co65 : Value).ownBlock)) (by (with_reducible repeat (first | apply Kd.V_alloc | apply Kd.V_drewN | apply Kd.V_drew)); exact Kd.V_mono HO205.out (fun _ hk => ⟨⟨hk.1.1, hk.2⟩, hk.1.2⟩)) hg hat)
                             replace HO220 := zM (Kd.V_afterv (ok := (fun k_ => (w.heap.size ≤ k_) ∧ some k_ ≠ (.slice Ao65 t210.length co65 : Value).ownBlock)) (by (with_reducible repeat (first | apply Kd.V_alloc | apply Kd.V_drewN | apply Kd.V_drew)); exact Kd.V_mono HO220.out (fun _ hk => ⟨⟨hk.1.1, hk.2⟩, hk.1.2⟩)) hg hat)
                             replace HB := zM (hb)
                             have HO215 := zM (ho)
                             clear HO208 HO212
                             clear ho hb hg hat
                             refine hK.out _ _ (((HB.out.cell (World.block_lt_of_cell? w _ hw209_0)).trans hw209_0)) (fun hHeld => ?_)
                             clear hK K
                             refine zn 57 ?_
                             refine one_ (i := 15) (N := some 61) #[true, true, true, true, true, true, true, true, true, true, true, true, true, true, true, true, false] rfl rfl (one_of HT_.out (by kernel_rfl)) (by decide) (fun K hK => ?_)
                             refine Kd.N_append_rows_step (Kd.slice 3 (Kd.int .i64)) (w0 := w) w.heap.size (by rfl) (.tmp 57) (.tmp 60) 34 37 (.slice none 0 0) 24 rfl Try.underlying34 info37 rfl (by decide) (by omega) v214 y213 y216 _ _ _ (fun k_ => (w.heap.size ≤ k_)) (fun k_ => ((fun k_ => (w.heap.size ≤ k_))) k_ ∧ some k_ ≠ (v214 : Value).ownBlock) rfl rfl ?aO ?aR (fun _ hk => hk) ?aF ?aB ?aS ?aL ?_
                             (case aR => exact (by skip; exact Kd.V_F (Kd.V_mono (ok' := (fun k_ => ((fun k_ => (w.heap.size ≤ k_))) k_ ∧ some k_ ≠ (v214 : Value).ownBlock)) (HO220.out) (fun k_ hk => ⟨hk.1.1, hk.2⟩))))
                             (case aB => exact zB)
                             (case aF => exact (fun k_ hk => (Nat.le_trans (below_size zB) hk)))
                             (case aO => exact (by (with_reducible repeat (first | apply Kd.N_alloc | apply Kd.N_drewN | apply Kd.N_drew)); exact HO215.out))
                             (case aS => exact (below_size zB))
                             (case aL => have := LMc55.out; omega)
                             intro v222 w66 ho hb hg hat
                             rw [← Ny221.out] at ho
                             replace HO_3 := zM (Kd.N_afterv (ok := (fun k_ => (w.heap.size ≤ k_))) (by (with_reducible repeat (first | apply Kd.N_alloc | apply Kd.N_drewN | apply Kd.N_drew)); exact Kd.N_mono HO_3.out (fun _ hk => ⟨hk.1.1, hk.2⟩)) hg hat)
                             replace HL195_0 := zM (Kd.V_afterv (ok := (fun k_ => (w.heap.size ≤ k_) ∧ some k_ ≠ (.slice (some ad195) x3_1.length co6 : Value).ownBlock)) (by (with_reducible repeat (first | apply Kd.V_alloc | apply Kd.V_drewN | apply Kd.V_drew)); exact Kd.V_mono HL195_0.out (fun _ hk => ⟨⟨hk.1.1, hk.1.2.1⟩, hk.2⟩)) hg hat)
                             replace HO205 := zM (Kd.V_afterv (ok := (fun k_ => (w.heap.size ≤ k_))) (by (with_reducible repeat (first | apply Kd.V_alloc | apply Kd.V_drewN | apply Kd.V_drew)); exact Kd.V_mono HO205.out (fun _ hk => ⟨hk.1.1, hk.2⟩)) hg hat)
                             replace HO220 := zM (Kd.V_afterv (ok := (fun k_ => (w.heap.size ≤ k_))) (by (with_reducible repeat (first | apply Kd.V_alloc | apply Kd.V_drewN | apply Kd.V_drew)); exact Kd.V_mono HO220.out (fun _ hk => ⟨hk.1.1, hk.2⟩)) hg hat)
                             replace HB := zM (hb)
                             have HO223 := zM (ho)
                             clear HO215
                             clear ho hb hg hat
                             refine hK.out _ _ (((HB.out.cell (World.block_lt_of_cell? w _ hw209_0)).trans hw209_0)) (fun hHeld => ?_)
                             clear hK K
                             refine zn 61 ?_
                             refine zp HT_ 16 3 ?_
                             refine zo HT_ ?_
                             try go_wp2
                             go_roundg kj4
                             case measure => have := HK1.out; have := HJ4.out; omega
                             case rel => exact ⟨(y221), (wrap64 (x4_1 + 1)), (by first | rfl | (simp; done) | (simp [*]; done)), H', ⟨by have := HK1.out; have := HJ4.out; omega⟩, ⟨by (with_reducible repeat (first | apply Kd.N_alloc | apply Kd.N_drewN | apply Kd.N_drew)); exact HO223.out⟩, ⟨zB⟩⟩
                           · rw [if_neg c55] at H
                             exact absurd H (by simp)
                         · rw [if_neg c52] at H
                           exact absurd H (by simp)
                       · rw [if_neg c50] at H
                         exact absurd H (by simp)
                     · rw [if_neg c49] at H
                       exact absurd H (by simp)
                   · rw [if_neg c48] at H
                     exact absurd H (by simp)
               · rw [if_neg c44] at H
                 exact absurd H (by simp)
             · rw [if_neg c43] at H
               exact absurd H (by simp)
           · rw [if_neg c42] at H
             exact absurd H (by simp)
         · rw [if_neg c41] at H
           exact absurd H (by simp)
   · rw [if_neg c4] at H
     have c4b0 : decide (x4_1 < (l0.length : Int)) = false := decide_eq_false c4
     clear c4
     obtain rfl := Option.some.inj H
     go_wp2
     go_ret
     exact ⟨_, by first | rfl | (simp [errW_none, errW_some] <;> rfl) | (simp [*, errW_none, errW_some] <;> rfl), by (with_reducible repeat (first | apply Kd.N_alloc | apply Kd.N_drewN | apply Kd.N_drew)); exact HO_3.out, zB⟩

end Go.Proofs.Ytfaeopmofgnbdaa.P
