-- Written by a program of this session (the kit's print, turned: wip/print/patch.py) out of the translation. Not trusted: Lean checks it.
import Derived.Test.YtadjbmcfgjmhkaaGreatStuckSetsG5
import Derived.Test.YtadjbmcfgjmhkaaGreatStuckSetsG8
namespace Go.Proofs.YtadjbmcfgjmhkaaGreat.P
open Go.RowKit Go.Proofs.YtadjbmcfgjmhkaaGreatW.PrintWords Go.Proofs.YtadjbmcfgjmhkaaGreatW.PrintLast Go.Proofs.YtadjbmcfgjmhkaaGreatW.PrintMore
attribute [local go_sem] max2_int min2_int max_two min_two max_three min_three max_four min_four   -- for this text's walks alone
set_option linter.unusedVariables false
set_option linter.unusedSimpArgs false

/-! ### spec_l2Sorted: function 57 -/
mutual
def spec_l2Sorted.l0 : Nat → List (List Int) → List (List Int) → Int → Option ((List (List Int)))
 | 0, _, _, _ => none
 | k + 1, x0, x3, x4 => if x4 < (x0.length : Int) then (spec_l2Sorted.l1 k x0 x3 x4 (x3.length : Int)) else (some x3)
def spec_l2Sorted.j2 : Nat → List (List Int) → List (List Int) → Int → Int → Option ((List (List Int)))
 | 0, _, _, _, _ => none
 | k + 1, x0, x3, x4, x5 => if x5 = 0 then ((some (([] : List (List Int)) : List (List Int))).bind fun y193 => (if 0 ≤ x5 then (if x5 ≤ (x3.length : Int) then ((some (x3.take (x5 : Int).toNat : List (List Int))).bind fun y196 => (if y193.length + y196.length < 5864062014805 then ((some (y193 ++ y196 : List (List Int))).bind fun y201 => (if 0 ≤ x4 then (if x4 < (x0.length : Int) then ((spec_l1Own.f (rd_L2 x0 x4)).bind fun t205 => (if y201.length < 5864062014805 then ((some (y201 ++ [t205] : List (List Int))).bind fun y208 => ((some (x3.drop (x5 : Int).toNat : List (List Int))).bind fun y211 => (if y208.length + y211.length < 5864062014805 then (spec_l2Sorted.l0 k x0 (y208 ++ y211) (wrap64 (x4 + 1))) else (none)))) else (none))) else (none)) else (none))) else (none))) else (none)) else (none))) else (if 0 ≤ (wrap64 (x5 - 1)) then (if (wrap64 (x5 - 1)) < (x3.length : Int) then (if 0 ≤ x4 then (if x4 < (x0.length : Int) then ((spec_l1Same.f k (rd_L2 x3 (wrap64 (x5 - 1))) (rd_L2 x0 x4)).bind fun t221 => (if t221 = true then (spec_l2Sorted.l0 k x0 x3 (wrap64 (x4 + 1))) else ((some (([] : List (List Int)) : List (List Int))).bind fun y222 => (if 0 ≤ x5 then (if x5 ≤ (x3.length : Int) then ((some (x3.take (x5 : Int).toNat : List (List Int))).bind fun y225 => (if y222.length + y225.length < 5864062014805 then ((some (y222 ++ y225 : List (List Int))).bind fun y230 => ((spec_l1Own.f (rd_L2 x0 x4)).bind fun t234 => (if y230.length < 5864062014805 then ((some (y230 ++ [t234] : List (List Int))).bind fun y237 => ((some (x3.drop (x5 : Int).toNat : List (List Int))).bind fun y240 => (if y237.length + y240.length < 5864062014805 then (spec_l2Sorted.l0 k x0 (y237 ++ y240) (wrap64 (x4 + 1))) else (none)))) else (none)))) else (none))) else (none)) else (none))))) else (none)) else (none)) else (none)) else (none))
def spec_l2Sorted.l1 : Nat → List (List Int) → List (List Int) → Int → Int → Option ((List (List Int)))
 | 0, _, _, _, _ => none
 | k + 1, x0, x3, x4, x5 => if x5 > 0 then (if 0 ≤ x4 then (if x4 < (x0.length : Int) then (if 0 ≤ (wrap64 (x5 - 1)) then (if (wrap64 (x5 - 1)) < (x3.length : Int) then ((spec_l2Before.f k (rd_L2 x0 x4) (rd_L2 x3 (wrap64 (x5 - 1)))).bind fun t192 => (if t192 = true then (spec_l2Sorted.l1 k x0 x3 x4 (wrap64 (x5 - 1))) else (spec_l2Sorted.j2 k x0 x3 x4 x5))) else (none)) else (none)) else (none)) else (none)) else (spec_l2Sorted.j2 k x0 x3 x4 x5)
end
def spec_l2Sorted.f (k : Nat) (l0 : List (List Int)) : Option ((List (List Int))) := spec_l2Sorted.l0 k l0 (([] : List (List Int))) 0
def spec_l2Sorted.T6 : Bool × List (List Nat × List Nat) := (true, [([], []), ([0], [0]), ([1], [1]), ([2], [2]), ([2], [2]), ([3, 4, 2], [2, 3, 4]), ([5, 2], [2, 5]), ([2], [2]), ([2], [2]), ([8, 2], [2, 8]), ([7, 9, 2], [2, 7, 9]), ([10, 2], [2, 10]), ([6, 11, 2, 2], [2, 6, 11]), ([2, 12], [2, 12])])
def spec_l2Sorted.B6 : List Nat := [0, 1, 3, 7, 7, 31, 63, 7, 7, 263, 903, 1927, 4095, 8191]
theorem spec_l2Sorted.tab6 : rtab .any (opsOf Tryz.f57 6) = spec_l2Sorted.T6 := by kernel_rfl
theorem spec_l2Sorted.bits6 : waitsOk spec_l2Sorted.T6.2 spec_l2Sorted.B6 = true := by kernel_rfl
def spec_l2Sorted.T8 : Bool × List (List Nat × List Nat) := (true, [([], []), ([0], [0]), ([1], [1]), ([2], [2]), ([2], [2]), ([4, 2], [2, 4]), ([3, 5, 2], [2, 3, 5]), ([6, 2], [2, 6]), ([2], [2]), ([2], [2]), ([8, 9, 2], [2, 8, 9]), ([10, 2], [2, 10]), ([7, 11, 2, 2], [2, 7, 11]), ([12, 2], [2, 12]), ([2, 13], [2, 13])])
def spec_l2Sorted.B8 : List Nat := [0, 1, 3, 7, 7, 23, 63, 127, 7, 7, 775, 1799, 4095, 8191, 16383]
theorem spec_l2Sorted.tab8 : rtab .any (opsOf Tryz.f57 8) = spec_l2Sorted.T8 := by kernel_rfl
theorem spec_l2Sorted.bits8 : waitsOk spec_l2Sorted.T8.2 spec_l2Sorted.B8 = true := by kernel_rfl
def spec_l2Sorted.T9 : Bool × List (List Nat × List Nat) := (true, [([], []), ([], []), ([], []), ([1, 2], [1, 2]), ([0, 3], [0, 3]), ([], []), ([], []), ([5, 6], [5, 6]), ([7], [7]), ([8, 4], [8]), ([9], [9]), ([4, 10, 9], [4, 10]), ([], []), ([], []), ([12, 13], [12, 13]), ([11, 14, 11], [11, 14]), ([15, 15, 0, 1, 2, 3, 4, 5, 6, 7, 8, 9, 10, 11, 12, 13, 14, 15], [1, 12, 15])])
def spec_l2Sorted.B9 : List Nat := [0, 0, 0, 6, 15, 0, 0, 96, 224, 511, 1023, 2047, 0, 0, 12288, 32767, 65535]
theorem spec_l2Sorted.tab9 : rtab .any (opsOf Tryz.f57 9) = spec_l2Sorted.T9 := by kernel_rfl
theorem spec_l2Sorted.bits9 : waitsOk spec_l2Sorted.T9.2 spec_l2Sorted.B9 = true := by kernel_rfl
set_option maxHeartbeats 8000000 in
set_option maxRecDepth 100000 in
theorem spec_l2Sorted.calls (k : Nat) (A0 : Option Addr) (c0 : Nat) (l0 : List (List Int)) (r : List (List Int)) (w : World) (hr0 : Kd.C (Kd.slice 3 (Kd.int .i64)) w A0 l0.length l0) (hc0 : l0.length ≤ c0) (h : spec_l2Sorted.f k l0 = some r) :
 Calls Tryz.prog 57 #[.slice A0 l0.length c0] w fun e w' => ∃ v0_ : Value, e = .returned (v0_) ∧ Kd.N (Kd.slice 3 (Kd.int .i64)) 25 w' w.heap.size (fun k_ => (w.heap.size ≤ k_)) v0_ r ∧ Below w.heap.size w w' := by
 have HR0 := Aside0.mk hr0
 have HC0 := Aside0.mk hc0
 clear hr0 hc0
 have HB := zM (Below.refl w.heap.size w)
 have H : (spec_l2Sorted.l0 k l0 (([] : List (List Int))) 0) = some r := h
 clear h
 obtain ⟨y187, hy187⟩ : ∃ y_ : List (List Int), y_ = (([] : List (List Int))) := ⟨_, rfl⟩
 replace H : (spec_l2Sorted.l0 k l0 y187 0) = some r := by first | (rw [hy187]; with_reducible exact H) | (have H2_ := (Option.bind_some _ _).symm.trans H; rw [hy187]; with_reducible exact H2_) | (have H2_ := (Option.bind_some _ _).symm.trans H; with_reducible exact H2_) | with_reducible exact H | (rw [hy187]; exact H) | exact H
 have Ny187 := Aside0.mk hy187
 clear hy187
 have H' := Aside0.mk H
 clear H
 go_enter Tryz.func57, Tryz.ntmps57
 go_wp2_with (first | ((with_reducible refine gate_dst (N := 6) rfl ?_); refine Kd.N_lit (Kd.slice 3 (Kd.int .i64)) _ 25 ?hg (N' := 6) ?hd (xs := ([] : List (List Int))) (inner := []) (ok := (fun k_ => (w.heap.size ≤ k_))) (okp := (fun k_ => (w.heap.size ≤ k_))) ?hr ?hp (fun _ hk => hk) ((show ∀ k_, w.heap.size ≤ k_ → (fun k_ => (w.heap.size ≤ k_)) k_ from fun k_ hk => (Nat.le_trans (below_size zB) hk)) _ (Nat.le_refl _)) (Below.refl _ _) (Nat.le_refl _) (by simp) ?_; (case hd => rfl); (case hg => rfl); (case hr => first | (go_simp; done) | (go_simp; rfl)); (case hp => exact (Reps.none _ _)); intro v188 w2 ho3 hb hg_ hnew_; clear hg_ hnew_; (first | rw [← Ny187.out] at ho3 | (simp only [Int.reduceToNat] at ho3; rw [← Ny187.out] at ho3)); have HO189 := zM (Kd.N_lower ho3 (below_size zB)); replace HB := zM (below_step zB hb); clear hb ho3))
 go_loopg [3, 4] k (fun kq v3 v4 w' => ∃ (x3_1 : List (List Int)) (x4_1 : Int), v4 = .int .i64 x4_1 ∧ Aside0 (spec_l2Sorted.l0 kq l0 x3_1 x4_1 = some r) ∧ Aside0 (kq ≤ k) ∧ Aside0 (Kd.N (Kd.slice 3 (Kd.int .i64)) 25 w' w.heap.size (fun k_ => (w.heap.size ≤ k_)) v3 x3_1) ∧ Aside0 (Below w.heap.size w w'))
 case atStart => exact ⟨(y187), (0), (by first | rfl | (simp; done) | (simp [*]; done)), H', ⟨Nat.le_refl _⟩, ⟨by (with_reducible repeat (first | apply Kd.N_alloc | apply Kd.N_drewN | apply Kd.N_drew)); exact HO189.out⟩, ⟨zB⟩⟩
 case round =>
  clear H'
  try clear p2
  obtain ⟨x3_1, x4_1, rfl, HA, HK1, HO_3, HB⟩ := hrel
  cases gk with
  | zero => exact absurd HA.out (by simp [spec_l2Sorted.l0])
  | succ k1 =>
   have H := HA.out
   clear HA
   simp only [spec_l2Sorted.l0] at H
   by_cases c4 : x4_1 < (l0.length : Int)
   · rw [if_pos c4] at H
     have c4b0 := decide_eq_true c4
     clear c4
     have HC5 := Aside0.mk H
     clear H
     obtain ⟨Ao6, co6, eo6⟩ := Kd.N_slice HO_3.out
     subst eo6
     go_upto_block 2 with (fail)
     go_cut [5] (fun v5 wc => ∃ (kq : Nat) (x5_4 : Int), v5 = .int .i64 x5_4 ∧ Aside0 (spec_l2Sorted.j2 kq l0 x3_1 x4_1 x5_4 = some r) ∧ Aside0 (kq ≤ k1) ∧ Aside0 (Kd.N (Kd.slice 3 (Kd.int .i64)) 25 wc w.heap.size (fun k_ => (w.heap.size ≤ k_)) (.slice Ao6 x3_1.length co6) x3_1) ∧ Aside0 (Below w.heap.size w wc))
     case first =>
      have H := HC5.out
      clear HC5
      have H' := Aside0.mk H
      clear H
      go_wp2
      go_loopg [5] k1 (fun kq v5 w' => ∃ (x5_2 : Int), v5 = .int .i64 x5_2 ∧ Aside0 (spec_l2Sorted.l1 kq l0 x3_1 x4_1 x5_2 = some r) ∧ Aside0 (kq ≤ k1) ∧ Aside0 (Kd.N (Kd.slice 3 (Kd.int .i64)) 25 w' w.heap.size (fun k_ => (w.heap.size ≤ k_)) (.slice Ao6 x3_1.length co6) x3_1) ∧ Aside0 (Below w.heap.size w w'))
      case atStart => exact ⟨((x3_1.length : Int)), (by first | rfl | (simp; done) | (simp [*]; done)), H', ⟨Nat.le_refl _⟩, ⟨by (with_reducible repeat (first | apply Kd.N_alloc | apply Kd.N_drewN | apply Kd.N_drew)); exact HO_3.out⟩, ⟨zB⟩⟩
      case round =>
       clear H'
       try clear p2
       try clear c4
       try clear c4b0
       try clear c5
       try clear p2
       obtain ⟨x5_2, rfl, HA, HK2, HO_3, HB⟩ := hrel
       cases gk with
       | zero => exact absurd HA.out (by simp [spec_l2Sorted.l1])
       | succ k2 =>
        have H := HA.out
        clear HA
        simp only [spec_l2Sorted.l1] at H
        by_cases c7 : x5_2 > 0
        · rw [if_pos c7] at H
          have c7b0 : decide (0 < x5_2) = true := decide_eq_true c7
          clear c7
          (first | rw [c7b0] | (simp only [i64_w, i32_w]; rw [c7b0]) | skip)
          by_cases c8 : 0 ≤ x4_1
          · rw [if_pos c8] at H
            have c8b0 := decide_eq_true c8
            clear c8
            by_cases c9 : x4_1 < (l0.length : Int)
            · rw [if_pos c9] at H
              have c9b0 := decide_eq_true c9
              clear c9
              obtain ⟨ji10, hji10⟩ : ∃ j_ : Int, (wrap64 (x5_2 - 1)) = j_ := ⟨_, rfl⟩
              replace H : (if 0 ≤ (ji10) then (if (ji10) < (x3_1.length : Int) then ((spec_l2Before.f k2 (rd_L2 l0 x4_1) (rd_L2 x3_1 (ji10))).bind fun t192 => (if t192 = true then (spec_l2Sorted.l1 k2 l0 x3_1 x4_1 ji10) else (spec_l2Sorted.j2 k2 l0 x3_1 x4_1 x5_2))) else (none)) else (none)) = some r := by first | (rw [hji10] at H; exact H) | (simp only [hji10] at H ⊢; exact H)
              have hji10w : (IntKind.i64.wrap (x5_2 - 1)) = ji10 := (i64_w _).trans hji10
              by_cases c11 : 0 ≤ (ji10)
              · rw [if_pos c11] at H
                have c11b0 := decide_eq_true c11
                clear c11
                by_cases c12 : (ji10) < (x3_1.length : Int)
                · rw [if_pos c12] at H
                  have c12b0 := decide_eq_true c12
                  clear c12
                  replace H := Option.bind_eq_some_iff.mp H
                  obtain ⟨t192, A130, H⟩ := H
                  have A13 := Aside0.mk A130
                  clear A130
                  by_cases c14 : t192 = true
                  · subst c14
                    rw [if_pos rfl] at H
                    have H' := Aside0.mk H
                    clear H
                    try go_wp2
                    replace HO_3 := zM (Kd.N_drew HO_3.out)
                    replace HB := zM (below_drew1 HB.out)
                    have p190 : 0 ≤ (x4_1 : Int) := of_decide_eq_true zA
                    have q190 : x4_1 < (l0.length : Int) := of_decide_eq_true zA
                    obtain ⟨ad190, A190_0, c190_0, e190, hx190_0, hl190_0, hi190_0⟩ := at_L2 HR0.out x4_1 p190 q190
                    have hw190_0 := hx190_0
                    cases e190
                    (try replace hx190_0 := (HB.out.cell (World.block_lt_of_cell? w _ hx190_0)).trans hx190_0)
                    have HR190_0 := Aside0.mk hi190_0
                    have HC190_0 := Aside0.mk hl190_0
                    clear hi190_0 hl190_0
                    replace p190 := eq_true p190
                    replace q190 := eq_true q190
                    have p191 : 0 ≤ ((ji10) : Int) := of_decide_eq_true zA
                    have q191 : (ji10) < (x3_1.length : Int) := of_decide_eq_true zA
                    obtain ⟨ad191, A191_0, c191_0, e191, hx191_0, hl191_0, hi191_0⟩ := at_L2 (Kd.N_reads' HO_3.out).2.2 (ji10) p191 q191
                    cases e191
                    obtain ⟨ce191, hce191, hMe191, hcc191⟩ := Kd.N_get HO_3.out [] (ji10) p191 (by first | exact q191 | exact of_decide_eq_true zA | (have e_ := (Kd.N_reads' HO_3.out).1; omega))
                    obtain ⟨ua191_0, uc191_0, rfl, ul191_0, ge191_0⟩ := Kd.FK_slice_open hMe191
                    have hv191_0 := hcc191 0 _ rfl
                    rw [Nat.add_zero, show ((Kd.slice 3 (Kd.int .i64))).sz = 1 from rfl, Nat.mul_one] at hv191_0
                    replace hv191_0 := Option.some.inj (hv191_0.symm.trans hx191_0)
                    injection hv191_0 with hva_ hvn_ hvc_
                    rw [hva_] at ge191_0
                    rw [hvc_] at ul191_0
                    have HL191_0 := zM (show Kd.V (Kd.int .i64) 3 _ w.heap.size _ _ (rd_L2 x3_1 (ji10)) from Kd.V_mk ul191_0 ge191_0)
                    clear hva_ hvn_ hvc_ ge191_0 ul191_0
                    clear hcc191 hce191
                    have HR191_0 := Aside0.mk hi191_0
                    have HC191_0 := Aside0.mk hl191_0
                    clear hi191_0 hl191_0
                    replace p191 := eq_true p191
                    replace q191 := eq_true q191
                    refine zs (n := 14) (fun w' => w'.cell? (ad190.add (x4_1).toNat) = some (.slice A190_0 (rd_L2 l0 x4_1).length c190_0) ∧ w'.cell? (ad191.add ((ji10)).toNat) = some (.slice A191_0 (rd_L2 x3_1 (ji10)).length c191_0)) ⟨((HB.out.cell (World.block_lt_of_cell? w _ hw190_0)).trans hw190_0), hx191_0⟩ (fun hHeld => ?_); refine with_tabW spec_l2Sorted.tab6 spec_l2Sorted.bits6 (fun HT_ HW_ => ?_)
                    generalize wr.drew = w15 at HO_3 HB HL191_0 HR190_0 HR191_0 hx190_0 hx191_0 hHeld ⊢
                    refine zp HT_ 0 15 ?_
                    refine zp HT_ 1 16 ?_
                    refine zp HT_ 2 17 ?_
                    refine zp HT_ 3 18 ?_
                    refine zp HT_ 4 19 ?_
                    refine zp HT_ 5 20 ?_
                    refine zp HT_ 7 22 ?_
                    refine zp HT_ 8 23 ?_
                    refine zp HT_ 9 24 ?_
                    refine zp HT_ 10 25 ?_
                    refine zt HT_ HW_ 6 21 hHeld ?_ (hy := by rintro w' ⟨s0, s1⟩; go_simp; with_reducible rfl)
                    refine zt HT_ HW_ 11 26 hHeld ?_ (hy := by rintro w' ⟨s0, s1⟩; go_simp; with_reducible rfl)
                    refine one_ (i := 12) (N := some 27) #[true, true, true, true, true, true, true, true, true, true, true, true, true, false] rfl rfl (one_of HT_.out (by kernel_rfl)) (by decide) (fun K hK => ?_)
                    refine goes_ Tryz.func82 (by kernel_rfl) rfl #[.slice A190_0 (rd_L2 l0 x4_1).length c190_0, .slice A191_0 (rd_L2 x3_1 (ji10)).length c191_0] (by rfl) rfl rfl (by (try simp only [List.map_toArray, List.map_cons, List.map_nil]); first | done | (simp only [hji10]; rfl) | rfl | (simp only [List.length_drop, List.length_take]; rfl)) ?_
                    with_reducible refine (spec_l2Before.calls k2 _ _ (rd_L2 l0 x4_1) _ _ (rd_L2 x3_1 (ji10)) true _ ?side1 ?side2 ?side3 ?side4 A13.out).mono ?_
                    (case side1 => exact zC (Kd.C_below HR190_0.out HB.out))
                    (case side2 => exact HC190_0.out)
                    (case side3 => repeat (first | exact (by repeat (first | (with_reducible exact HR191_0.out) | (with_reducible refine Kd.C_alloc ?_ _) | (with_reducible refine Kd.C_drewN ?_ _) | (with_reducible refine Kd.C_drew ?_) | exact HR191_0.out)) | (with_reducible refine Kd.C_alloc ?_ _) | (with_reducible refine Kd.C_drewN ?_ _) | (with_reducible refine Kd.C_drew ?_)))
                    (case side4 => exact HC191_0.out)
                    rintro e w' ⟨rfl, ⟨nd, rfl⟩⟩
                    refine ⟨_, rfl, ?_⟩
                    refine hK.out _ _ ⟨((HB.out.cell (World.block_lt_of_cell? w _ hw190_0)).trans hw190_0), hHeld.2⟩ (fun hHeld => ?_)
                    clear hK K
                    refine zn 27 ?_
                    refine zp HT_ 13 28 ?_
                    refine zo HT_ ?_
                    try go_wp2
                    go_roundg k2
                    case measure => have := HK1.out; have := HK2.out; omega
                    case rel => exact ⟨(ji10), (by first | rfl | (simp; done) | (simp only [← hji10] <;> (first | rfl | simp)) | (simp [*]; done)), H', ⟨by have := HK1.out; have := HK2.out; omega⟩, ⟨by (with_reducible repeat (first | apply Kd.N_alloc | apply Kd.N_drewN | apply Kd.N_drew)); exact HO_3.out⟩, ⟨zB⟩⟩
                  · replace c14 := Bool.eq_false_iff.mpr c14
                    subst c14
                    have H1 : (spec_l2Sorted.j2 k2 l0 x3_1 x4_1 x5_2) = some r := by rw [if_neg (show ¬ (false = true) by decide)] at H; exact H
                    clear H
                    have H := H1
                    clear H1
                    have H' := Aside0.mk H
                    clear H
                    try go_wp2
                    replace HO_3 := zM (Kd.N_drew HO_3.out)
                    replace HB := zM (below_drew1 HB.out)
                    have p190 : 0 ≤ (x4_1 : Int) := of_decide_eq_true zA
                    have q190 : x4_1 < (l0.length : Int) := of_decide_eq_true zA
                    obtain ⟨ad190, A190_0, c190_0, e190, hx190_0, hl190_0, hi190_0⟩ := at_L2 HR0.out x4_1 p190 q190
                    have hw190_0 := hx190_0
                    cases e190
                    (try replace hx190_0 := (HB.out.cell (World.block_lt_of_cell? w _ hx190_0)).trans hx190_0)
                    have HR190_0 := Aside0.mk hi190_0
                    have HC190_0 := Aside0.mk hl190_0
                    clear hi190_0 hl190_0
                    replace p190 := eq_true p190
                    replace q190 := eq_true q190
                    have p191 : 0 ≤ ((ji10) : Int) := of_decide_eq_true zA
                    have q191 : (ji10) < (x3_1.length : Int) := of_decide_eq_true zA
                    obtain ⟨ad191, A191_0, c191_0, e191, hx191_0, hl191_0, hi191_0⟩ := at_L2 (Kd.N_reads' HO_3.out).2.2 (ji10) p191 q191
                    cases e191
                    obtain ⟨ce191, hce191, hMe191, hcc191⟩ := Kd.N_get HO_3.out [] (ji10) p191 (by first | exact q191 | exact of_decide_eq_true zA | (have e_ := (Kd.N_reads' HO_3.out).1; omega))
                    obtain ⟨ua191_0, uc191_0, rfl, ul191_0, ge191_0⟩ := Kd.FK_slice_open hMe191
                    have hv191_0 := hcc191 0 _ rfl
                    rw [Nat.add_zero, show ((Kd.slice 3 (Kd.int .i64))).sz = 1 from rfl, Nat.mul_one] at hv191_0
                    replace hv191_0 := Option.some.inj (hv191_0.symm.trans hx191_0)
                    injection hv191_0 with hva_ hvn_ hvc_
                    rw [hva_] at ge191_0
                    rw [hvc_] at ul191_0
                    have HL191_0 := zM (show Kd.V (Kd.int .i64) 3 _ w.heap.size _ _ (rd_L2 x3_1 (ji10)) from Kd.V_mk ul191_0 ge191_0)
                    clear hva_ hvn_ hvc_ ge191_0 ul191_0
                    clear hcc191 hce191
                    have HR191_0 := Aside0.mk hi191_0
                    have HC191_0 := Aside0.mk hl191_0
                    clear hi191_0 hl191_0
                    replace p191 := eq_true p191
                    replace q191 := eq_true q191
                    refine zs (n := 14) (fun w' => w'.cell? (ad190.add (x4_1).toNat) = some (.slice A190_0 (rd_L2 l0 x4_1).length c190_0) ∧ w'.cell? (ad191.add ((ji10)).toNat) = some (.slice A191_0 (rd_L2 x3_1 (ji10)).length c191_0)) ⟨((HB.out.cell (World.block_lt_of_cell? w _ hw190_0)).trans hw190_0), hx191_0⟩ (fun hHeld => ?_); refine with_tabW spec_l2Sorted.tab6 spec_l2Sorted.bits6 (fun HT_ HW_ => ?_)
                    generalize wr.drew = w16 at HO_3 HB HL191_0 HR190_0 HR191_0 hx190_0 hx191_0 hHeld ⊢
                    refine zp HT_ 0 15 ?_
                    refine zp HT_ 1 16 ?_
                    refine zp HT_ 2 17 ?_
                    refine zp HT_ 3 18 ?_
                    refine zp HT_ 4 19 ?_
                    refine zp HT_ 5 20 ?_
                    refine zp HT_ 7 22 ?_
                    refine zp HT_ 8 23 ?_
                    refine zp HT_ 9 24 ?_
                    refine zp HT_ 10 25 ?_
                    refine zt HT_ HW_ 6 21 hHeld ?_ (hy := by rintro w' ⟨s0, s1⟩; go_simp; with_reducible rfl)
                    refine zt HT_ HW_ 11 26 hHeld ?_ (hy := by rintro w' ⟨s0, s1⟩; go_simp; with_reducible rfl)
                    refine one_ (i := 12) (N := some 27) #[true, true, true, true, true, true, true, true, true, true, true, true, true, false] rfl rfl (one_of HT_.out (by kernel_rfl)) (by decide) (fun K hK => ?_)
                    refine goes_ Tryz.func82 (by kernel_rfl) rfl #[.slice A190_0 (rd_L2 l0 x4_1).length c190_0, .slice A191_0 (rd_L2 x3_1 (ji10)).length c191_0] (by rfl) rfl rfl (by (try simp only [List.map_toArray, List.map_cons, List.map_nil]); first | done | (simp only [hji10]; rfl) | rfl | (simp only [List.length_drop, List.length_take]; rfl)) ?_
                    with_reducible refine (spec_l2Before.calls k2 _ _ (rd_L2 l0 x4_1) _ _ (rd_L2 x3_1 (ji10)) false _ ?side1 ?side2 ?side3 ?side4 A13.out).mono ?_
                    (case side1 => exact zC (Kd.C_below HR190_0.out HB.out))
                    (case side2 => exact HC190_0.out)
                    (case side3 => repeat (first | exact (by repeat (first | (with_reducible exact HR191_0.out) | (with_reducible refine Kd.C_alloc ?_ _) | (with_reducible refine Kd.C_drewN ?_ _) | (with_reducible refine Kd.C_drew ?_) | exact HR191_0.out)) | (with_reducible refine Kd.C_alloc ?_ _) | (with_reducible refine Kd.C_drewN ?_ _) | (with_reducible refine Kd.C_drew ?_)))
                    (case side4 => exact HC191_0.out)
                    rintro e w' ⟨rfl, ⟨nd, rfl⟩⟩
                    refine ⟨_, rfl, ?_⟩
                    refine hK.out _ _ ⟨((HB.out.cell (World.block_lt_of_cell? w _ hw190_0)).trans hw190_0), hHeld.2⟩ (fun hHeld => ?_)
                    clear hK K
                    refine zn 27 ?_
                    refine zp HT_ 13 28 ?_
                    refine zo HT_ ?_
                    try go_wp2
                    go_meet
                    case rel => exact ⟨_, (x5_2), (by first | rfl | (simp; done) | (simp [*]; done)), H', ⟨by have := HK1.out; have := HK2.out; first | omega | exact Nat.le_refl _⟩, ⟨by (with_reducible repeat (first | apply Kd.N_alloc | apply Kd.N_drewN | apply Kd.N_drew)); exact HO_3.out⟩, ⟨zB⟩⟩
                · rw [if_neg c12] at H
                  exact absurd H (by simp)
              · rw [if_neg c11] at H
                exact absurd H (by simp)
            · rw [if_neg c9] at H
              exact absurd H (by simp)
          · rw [if_neg c8] at H
            exact absurd H (by simp)
        · rw [if_neg c7] at H
          have c7b0 : decide (0 < x5_2) = false := decide_eq_false c7
          clear c7
          (first | rw [c7b0] | (simp only [i64_w, i32_w]; rw [c7b0]) | skip)
          have H' := Aside0.mk H
          clear H
          try go_wp2
          replace HO_3 := zM (Kd.N_drew HO_3.out)
          replace HB := zM (below_drew1 HB.out)
          refine zs (n := 14) (fun w' => True) trivial (fun hHeld => ?_); refine with_tabW spec_l2Sorted.tab6 spec_l2Sorted.bits6 (fun HT_ HW_ => ?_)
          generalize wr.drew = w17 at HO_3 HB hHeld ⊢
          refine zp HT_ 0 15 ?_
          refine zp HT_ 1 16 ?_
          refine zp HT_ 2 17 ?_
          refine zu HT_ 3 18 ?_
          refine zu HT_ 4 19 ?_
          refine zu HT_ 5 20 ?_
          refine zu HT_ 6 21 ?_
          refine zu HT_ 7 22 ?_
          refine zu HT_ 8 23 ?_
          refine zu HT_ 9 24 ?_
          refine zu HT_ 10 25 ?_
          refine zu HT_ 11 26 ?_
          refine zu HT_ 12 27 ?_
          refine zp HT_ 13 28 ?_
          refine zo HT_ ?_
          try go_wp2
          go_meet
          case rel => exact ⟨_, (x5_2), (by first | rfl | (simp; done) | (simp [*]; done)), H', ⟨by have := HK1.out; have := HK2.out; first | omega | exact Nat.le_refl _⟩, ⟨by (with_reducible repeat (first | apply Kd.N_alloc | apply Kd.N_drewN | apply Kd.N_drew)); exact HO_3.out⟩, ⟨zB⟩⟩
     case rest =>
      clear HC5
      try clear c1
      try clear p1
      try clear q1
      try clear hx1
      try clear p2
      try clear c4
      try clear c4b0
      try clear c5
      try clear p6
      try clear c7
      try clear c7b0
      try clear c8
      try clear c8b0
      try clear c9
      try clear c9b0
      try clear c11
      try clear c11b0
      try clear c12
      try clear c12b0
      try clear c14
      try clear hx190_0
      try clear hx191_0
      try clear p190
      try clear p191
      try clear p2
      try clear q190
      try clear q191
      obtain ⟨kq, x5_4, rfl, HA, HJ4, HO_3, HB⟩ := hcut
      cases kq with
      | zero => exact absurd HA.out (by simp [spec_l2Sorted.j2])
      | succ kj4 =>
       have H := HA.out
       clear HA
       simp only [spec_l2Sorted.j2] at H
       by_cases c18 : x5_4 = 0
       · rw [if_pos c18] at H
         have c18b0 : (x5_4 == 0) = true := beq_iff_eq.mpr c18
         have c18b1 : (x5_4 != 0) = false := bne_eq_false_iff_eq.mpr c18
         clear c18
         obtain ⟨y193, hy193⟩ : ∃ y_ : List (List Int), y_ = (([] : List (List Int))) := ⟨_, rfl⟩
         replace H : (if 0 ≤ x5_4 then (if x5_4 ≤ (x3_1.length : Int) then ((some (x3_1.take (x5_4 : Int).toNat : List (List Int))).bind fun y196 => (if y193.length + y196.length < 5864062014805 then ((some (y193 ++ y196 : List (List Int))).bind fun y201 => (if 0 ≤ x4_1 then (if x4_1 < (l0.length : Int) then ((spec_l1Own.f (rd_L2 l0 x4_1)).bind fun t205 => (if y201.length < 5864062014805 then ((some (y201 ++ [t205] : List (List Int))).bind fun y208 => ((some (x3_1.drop (x5_4 : Int).toNat : List (List Int))).bind fun y211 => (if y208.length + y211.length < 5864062014805 then (spec_l2Sorted.l0 kj4 l0 (y208 ++ y211) (wrap64 (x4_1 + 1))) else (none)))) else (none))) else (none)) else (none))) else (none))) else (none)) else (none)) = some r := by first | (rw [hy193]; with_reducible exact H) | (have H2_ := (Option.bind_some _ _).symm.trans H; rw [hy193]; with_reducible exact H2_) | (have H2_ := (Option.bind_some _ _).symm.trans H; with_reducible exact H2_) | with_reducible exact H | (rw [hy193]; exact H) | exact H
         have Ny193 := Aside0.mk hy193
         clear hy193
         by_cases c19 : 0 ≤ x5_4
         · rw [if_pos c19] at H
           have c19b0 := eq_true c19
           have c19b1 : decide (0 ≤ x5_4) = true := decide_eq_true c19
           clear c19
           by_cases c20 : x5_4 ≤ (x3_1.length : Int)
           · rw [if_pos c20] at H
             have c20b0 := eq_true c20
             have c20b1 : decide (x5_4 ≤ (x3_1.length : Int)) = true := decide_eq_true c20
             clear c20
             obtain ⟨y196, hy196⟩ : ∃ y_ : List (List Int), y_ = (x3_1.take (x5_4 : Int).toNat) := ⟨_, rfl⟩
             replace H : (if y193.length + y196.length < 5864062014805 then ((some (y193 ++ y196 : List (List Int))).bind fun y201 => (if 0 ≤ x4_1 then (if x4_1 < (l0.length : Int) then ((spec_l1Own.f (rd_L2 l0 x4_1)).bind fun t205 => (if y201.length < 5864062014805 then ((some (y201 ++ [t205] : List (List Int))).bind fun y208 => ((some (x3_1.drop (x5_4 : Int).toNat : List (List Int))).bind fun y211 => (if y208.length + y211.length < 5864062014805 then (spec_l2Sorted.l0 kj4 l0 (y208 ++ y211) (wrap64 (x4_1 + 1))) else (none)))) else (none))) else (none)) else (none))) else (none)) = some r := by first | (rw [hy196]; with_reducible exact H) | (have H2_ := (Option.bind_some _ _).symm.trans H; rw [hy196]; with_reducible exact H2_) | (have H2_ := (Option.bind_some _ _).symm.trans H; with_reducible exact H2_) | with_reducible exact H | (rw [hy196]; exact H) | exact H
             have Ny196 := Aside0.mk hy196
             clear hy196
             by_cases c21 : y193.length + y196.length < 5864062014805
             · rw [if_pos c21] at H
               have LMc21 := Aside0.mk c21
               clear c21
               obtain ⟨y201, hy201⟩ : ∃ y_ : List (List Int), y_ = (y193 ++ y196) := ⟨_, rfl⟩
               replace H : (if 0 ≤ x4_1 then (if x4_1 < (l0.length : Int) then ((spec_l1Own.f (rd_L2 l0 x4_1)).bind fun t205 => (if y201.length < 5864062014805 then ((some (y201 ++ [t205] : List (List Int))).bind fun y208 => ((some (x3_1.drop (x5_4 : Int).toNat : List (List Int))).bind fun y211 => (if y208.length + y211.length < 5864062014805 then (spec_l2Sorted.l0 kj4 l0 (y208 ++ y211) (wrap64 (x4_1 + 1))) else (none)))) else (none))) else (none)) else (none)) = some r := by first | (rw [hy201]; with_reducible exact H) | (have H2_ := (Option.bind_some _ _).symm.trans H; rw [hy201]; with_reducible exact H2_) | (have H2_ := (Option.bind_some _ _).symm.trans H; with_reducible exact H2_) | with_reducible exact H | (rw [hy201]; exact H) | exact H
               have Ny201 := Aside0.mk hy201
               clear hy201
               by_cases c22 : 0 ≤ x4_1
               · rw [if_pos c22] at H
                 have c22b0 := decide_eq_true c22
                 clear c22
                 by_cases c23 : x4_1 < (l0.length : Int)
                 · rw [if_pos c23] at H
                   have c23b0 := decide_eq_true c23
                   clear c23
                   replace H := Option.bind_eq_some_iff.mp H
                   obtain ⟨t205, A240, H⟩ := H
                   have A24 := Aside0.mk A240
                   clear A240
                   by_cases c25 : y201.length < 5864062014805
                   · rw [if_pos c25] at H
                     have LMc25 := Aside0.mk c25
                     clear c25
                     obtain ⟨y208, hy208⟩ : ∃ y_ : List (List Int), y_ = (y201 ++ [t205]) := ⟨_, rfl⟩
                     replace H : ((some (x3_1.drop (x5_4 : Int).toNat : List (List Int))).bind fun y211 => (if y208.length + y211.length < 5864062014805 then (spec_l2Sorted.l0 kj4 l0 (y208 ++ y211) (wrap64 (x4_1 + 1))) else (none))) = some r := by first | (rw [hy208]; with_reducible exact H) | (have H2_ := (Option.bind_some _ _).symm.trans H; rw [hy208]; with_reducible exact H2_) | (have H2_ := (Option.bind_some _ _).symm.trans H; with_reducible exact H2_) | with_reducible exact H | (rw [hy208]; exact H) | exact H
                     have Ny208 := Aside0.mk hy208
                     clear hy208
                     have c26b0 := eq_true (of_decide_eq_true zA : 0 ≤ x5_4)
                     have c27b0 := eq_true (of_decide_eq_true zA : x5_4 ≤ (x3_1.length : Int))
                     obtain ⟨y211, hy211⟩ : ∃ y_ : List (List Int), y_ = (x3_1.drop (x5_4 : Int).toNat) := ⟨_, rfl⟩
                     replace H : (if y208.length + y211.length < 5864062014805 then (spec_l2Sorted.l0 kj4 l0 (y208 ++ y211) (wrap64 (x4_1 + 1))) else (none)) = some r := by first | (rw [hy211]; with_reducible exact H) | (have H2_ := (Option.bind_some _ _).symm.trans H; rw [hy211]; with_reducible exact H2_) | (have H2_ := (Option.bind_some _ _).symm.trans H; with_reducible exact H2_) | with_reducible exact H | (rw [hy211]; exact H) | exact H
                     have Ny211 := Aside0.mk hy211
                     clear hy211
                     by_cases c28 : y208.length + y211.length < 5864062014805
                     · rw [if_pos c28] at H
                       have LMc28 := Aside0.mk c28
                       clear c28
                       obtain ⟨y216, hy216⟩ : ∃ y_ : List (List Int), y_ = (y208 ++ y211) := ⟨_, rfl⟩
                       replace H : (spec_l2Sorted.l0 kj4 l0 y216 (wrap64 (x4_1 + 1))) = some r := by first | (rw [hy216]; with_reducible exact H) | (have H2_ := (Option.bind_some _ _).symm.trans H; rw [hy216]; with_reducible exact H2_) | (have H2_ := (Option.bind_some _ _).symm.trans H; with_reducible exact H2_) | with_reducible exact H | (rw [hy216]; exact H) | exact H
                       have Ny216 := Aside0.mk hy216
                       clear hy216
                       have H' := Aside0.mk H
                       clear H
                       try go_wp2
                       replace HO_3 := zM (Kd.N_drew HO_3.out)
                       replace HB := zM (below_drew1 HB.out)
                       refine zs (n := 15) (fun w' => True) trivial (fun hHeld => ?_); refine with_tabW spec_l2Sorted.tab8 spec_l2Sorted.bits8 (fun HT_ HW_ => ?_)
                       generalize wc.drew = w29 at HO_3 HB hHeld ⊢
                       refine zp HT_ 0 31 ?_
                       refine zp HT_ 1 32 ?_
                       refine zp HT_ 2 33 ?_
                       refine zu HT_ 3 34 ?_
                       refine zu HT_ 4 35 ?_
                       refine zu HT_ 5 36 ?_
                       refine zu HT_ 6 37 ?_
                       refine zu HT_ 7 38 ?_
                       refine zu HT_ 8 39 ?_
                       refine zu HT_ 9 40 ?_
                       refine zu HT_ 10 41 ?_
                       refine zu HT_ 11 42 ?_
                       refine zu HT_ 12 43 ?_
                       refine zu HT_ 13 44 ?_
                       refine zp HT_ 14 45 ?_
                       refine zo HT_ ?_
                       try go_wp2
                       replace HO_3 := zM (Kd.N_drew HO_3.out)
                       replace HB := zM (below_drew1 HB.out)
                       have q31 : (x5_4 : Int) ≤ ((x3_1.length : Int) : Int) := of_decide_eq_true zA
                       obtain ⟨i031, hi031, _, hsz31, _⟩ := info_parts info25
                       have hroom31 : x3_1.length ≤ co6 := (Kd.N_reads' HO_3.out).2.1
                       have hC31 : Kd.F (Kd.slice 3 (Kd.int .i64)) _ _ Ao6 x3_1.length x3_1 := (Kd.V_at (base := w.heap.size) (Kd.N_V HO_3.out)).2.2
                       have hcut31 := cut_to (P := Tryz.prog) 27 25 .i64 Tryz.underlying27 hi031 Ao6 x3_1.length co6 x5_4 (of_decide_eq_true zA) q31 hroom31
                       have hr31 := Kd.F_take (m := (x5_4 : Int).toNat) hC31 (by omega)
                       have hy31 : y196.length = (x5_4 : Int).toNat := (by rw [Ny196.out, List.length_take]; omega)
                       rw [← Ny196.out] at hr31
                       rw [← hy31] at hcut31
                       have HO200 := zM (show Kd.V (Kd.slice 3 (Kd.int .i64)) 25 _ w.heap.size _ (.slice Ao6 y196.length co6) y196 from Kd.V_mk (by omega) hr31)
                       have HC200 := zM (show y196.length ≤ co6 from by omega)
                       clear hr31 hC31 hroom31 hi031 hsz31
                       have KY31 := Aside0.mk hy31
                       clear hy31
                       replace q31 := eq_true q31
                       have p204 : 0 ≤ (x4_1 : Int) := of_decide_eq_true zA
                       have q204 : x4_1 < (l0.length : Int) := of_decide_eq_true zA
                       obtain ⟨ad204, A204_0, c204_0, e204, hx204_0, hl204_0, hi204_0⟩ := at_L2 HR0.out x4_1 p204 q204
                       have hw204_0 := hx204_0
                       cases e204
                       (try replace hx204_0 := (HB.out.cell (World.block_lt_of_cell? w _ hx204_0)).trans hx204_0)
                       have HR204_0 := Aside0.mk hi204_0
                       have HC204_0 := Aside0.mk hl204_0
                       clear hi204_0 hl204_0
                       replace p204 := eq_true p204
                       replace q204 := eq_true q204
                       have q32 : (x5_4 : Int) ≤ ((x3_1.length : Int) : Int) := of_decide_eq_true zA
                       obtain ⟨i032, hi032, _, hsz32, _⟩ := info_parts info25
                       have hroom32 : x3_1.length ≤ co6 := (Kd.N_reads' HO_3.out).2.1
                       have hC32 : Kd.F (Kd.slice 3 (Kd.int .i64)) _ _ Ao6 x3_1.length x3_1 := (Kd.V_at (base := w.heap.size) (Kd.N_V HO_3.out)).2.2
                       have q032 : (0 : Int) ≤ (x5_4 : Int) := of_decide_eq_true zA
                       have hcut32 := cut_from (P := Tryz.prog) 27 25 .i64 Tryz.underlying27 hi032 1 hsz32 Ao6 x3_1.length co6 x5_4 q032 q32
                       have hr32 := Kd.F_cut (m := (x5_4 : Int).toNat) (c := co6) hC32 (by omega) hroom32
                       obtain ⟨A32, hA32⟩ : ∃ A1, A1 = (if co6 = (x5_4 : Int).toNat then Ao6 else (Ao6 : Option Addr).map (·.add ((x5_4 : Int).toNat * 1))) := ⟨_, rfl⟩
                       obtain ⟨c32, hc32⟩ : ∃ c1, c1 = co6 - (x5_4 : Int).toNat := ⟨_, rfl⟩
                       have hy32 : y211.length = x3_1.length - (x5_4 : Int).toNat := (by rw [Ny211.out, List.length_drop] <;> omega)
                       rw [show (x3_1).drop (x5_4 : Int).toNat = y211 from Ny211.out.symm] at hr32
                       replace hr32 : Kd.F (Kd.slice 3 (Kd.int .i64)) _ _ A32 y211.length y211 := (by rw [hA32]; exact hr32)
                       rw [← hy32, ← hA32, ← hc32] at hcut32
                       have HO215 := zM (show Kd.V (Kd.slice 3 (Kd.int .i64)) 25 _ w.heap.size _ (.slice A32 y211.length c32) y211 from Kd.V_mk (by rw [hy32, hc32]; exact Nat.sub_le_sub_right hroom32 _) hr32)
                       have HC215 := zM (show y211.length ≤ c32 from by rw [hy32, hc32]; exact Nat.sub_le_sub_right hroom32 _)
                       clear hr32 hC32 hroom32 hi032 hsz32 hc32
                       have KY32 := Aside0.mk hy32
                       have KA32 := Aside0.mk hA32
                       clear hy32 hA32
                       replace q32 := eq_true q32
                       refine zs (n := 17) (fun w' => w'.cell? (ad204.add (x4_1).toNat) = some (.slice A204_0 (rd_L2 l0 x4_1).length c204_0)) (((HB.out.cell (World.block_lt_of_cell? w _ hw204_0)).trans hw204_0)) (fun hHeld => ?_); refine with_tabW spec_l2Sorted.tab9 spec_l2Sorted.bits9 (fun HT_ HW_ => ?_)
                       generalize w29.drew = w30 at HO_3 HB HO200 HO215 HR204_0 hx204_0 hHeld ⊢
                       refine zp HT_ 1 47 ?_
                       refine zp HT_ 2 48 ?_
                       refine zp HT_ 3 49 ?_
                       refine zp HT_ 5 51 ?_
                       refine zp HT_ 6 52 ?_
                       refine zp HT_ 7 53 ?_
                       refine zp HT_ 12 58 ?_
                       refine zp HT_ 13 59 ?_
                       refine zp HT_ 14 60 ?_
                       refine take_ (i := 8) (N := some 54) (v := ?_) (a' := ?_) #[false, true, true, true, false, true, true, true, true, false, false, false, true, true, true, false, false] rfl rfl (take_ofW HT_.out HW_.out (by kernel_rfl)) (fun _ _ _ h => h) (Or.inl ⟨by rfl, ?_⟩) hHeld ?_ ?_
                       rotate_left
                       · intro w' s0
                         go_simp
                         with_reducible rfl
                       rotate_left
                       · simp only [Act.put, List.setIfInBounds_toArray, List.set_cons_zero, List.set_cons_succ, i64_w, i32_w]
                         rfl
                       refine one_ (i := 0) (N := some 46) #[true, true, true, true, false, true, true, true, true, false, false, false, true, true, true, false, false] rfl rfl (one_of HT_.out (by kernel_rfl)) (by decide) (fun K hK => ?_)
                       refine Kd.N_lit_step (Kd.slice 3 (Kd.int .i64)) _ 25 ?hg (N' := 46) ?hd (xs := ([] : List (List Int))) (inner := []) (ok := (fun k_ => (w.heap.size ≤ k_) ∧ some k_ ≠ (.slice Ao6 x3_1.length co6 : Value).ownBlock)) (okp := (fun k_ => (w.heap.size ≤ k_) ∧ some k_ ≠ (.slice Ao6 x3_1.length co6 : Value).ownBlock)) ?hr ?hp (fun _ hk => hk) ((show ∀ k_, w30.heap.size ≤ k_ → (fun k_ => (w.heap.size ≤ k_) ∧ some k_ ≠ (.slice Ao6 x3_1.length co6 : Value).ownBlock) k_ from fun k_ hk => ⟨(Nat.le_trans (below_size zB) hk), Kd.fresh' (Kd.N_lt (by (with_reducible repeat (first | apply Kd.N_alloc | apply Kd.N_drewN | apply Kd.N_drew)); exact HO_3.out)) k_ hk⟩) _ (Nat.le_refl _)) (Below.refl _ _) (Nat.le_refl _) (by simp) ?_; (case hd => rfl); (case hg => rfl); (case hr => first | (go_simp; done) | (go_simp; rfl)); (case hp => exact (Reps.none _ _))
                       intro v194 w33 ho34 hb hg_ hnew_
                       clear hg_ hnew_
                       (first | rw [← Ny193.out] at ho34 | (simp only [Int.reduceToNat] at ho34; rw [← Ny193.out] at ho34))
                       replace HO_3 := zM (Kd.N_elder' (by (with_reducible repeat (first | apply Kd.N_alloc | apply Kd.N_drewN | apply Kd.N_drew)); exact HO_3.out) (Kd.N_base ho34) hb)
                       replace HO200 := zM (Kd.V_elder' (by (with_reducible repeat (first | apply Kd.V_alloc | apply Kd.V_drewN | apply Kd.V_drew)); exact HO200.out) (Kd.N_base ho34) hb)
                       replace HO215 := zM (Kd.V_elder' (by (with_reducible repeat (first | apply Kd.V_alloc | apply Kd.V_drewN | apply Kd.V_drew)); exact HO215.out) (Kd.N_base ho34) hb)
                       have HO195 := zM (Kd.N_lower ho34 (below_size zB))
                       replace HB := zM (below_step zB hb)
                       clear hb ho34
                       refine hK.out _ _ (((HB.out.cell (World.block_lt_of_cell? w _ hw204_0)).trans hw204_0)) (fun hHeld => ?_)
                       clear hK K
                       refine zn 46 ?_
                       refine one_ (i := 4) (N := some 50) #[true, true, true, true, true, true, true, true, true, false, false, false, true, true, true, false, false] rfl rfl (one_of HT_.out (by kernel_rfl)) (by decide) (fun K hK => ?_)
                       refine Kd.N_append_rows_step (Kd.slice 3 (Kd.int .i64)) (w0 := w) w.heap.size (by rfl) (.tmp 46) (.tmp 49) 27 25 (.slice none 0 0) 24 rfl Tryz.underlying27 info25 rfl (by decide) (by omega) v194 y193 y196 _ _ _ (fun k_ => (w.heap.size ≤ k_)) (fun k_ => ((fun k_ => (w.heap.size ≤ k_))) k_ ∧ some k_ ≠ (v194 : Value).ownBlock) rfl rfl ?aO ?aR (fun _ hk => hk) ?aF ?aB ?aS ?aL ?_
                       (case aR => exact (by skip; exact Kd.V_F (Kd.V_mono (ok' := (fun k_ => ((fun k_ => (w.heap.size ≤ k_))) k_ ∧ some k_ ≠ (v194 : Value).ownBlock)) (HO200.out) (fun k_ hk => ⟨hk.1, hk.2⟩))))
                       (case aB => exact zB)
                       (case aF => exact (fun k_ hk => (Nat.le_trans (below_size zB) hk)))
                       (case aO => exact (by (with_reducible repeat (first | apply Kd.N_alloc | apply Kd.N_drewN | apply Kd.N_drew)); exact Kd.N_mono HO195.out (fun _ hk => hk.1)))
                       (case aS => exact (below_size zB))
                       (case aL => have := LMc21.out; omega)
                       intro v202 w35 ho hb hg hat
                       rw [← Ny201.out] at ho
                       replace HO_3 := zM (Kd.N_afterv (ok := (fun k_ => (w.heap.size ≤ k_))) (by (with_reducible repeat (first | apply Kd.N_alloc | apply Kd.N_drewN | apply Kd.N_drew)); exact HO_3.out) hg hat)
                       replace HO200 := zM (Kd.V_afterv (ok := (fun k_ => (w.heap.size ≤ k_))) (by (with_reducible repeat (first | apply Kd.V_alloc | apply Kd.V_drewN | apply Kd.V_drew)); exact HO200.out) hg hat)
                       replace HO215 := zM (Kd.V_afterv (ok := (fun k_ => (w.heap.size ≤ k_))) (by (with_reducible repeat (first | apply Kd.V_alloc | apply Kd.V_drewN | apply Kd.V_drew)); exact HO215.out) hg hat)
                       replace HB := zM (hb)
                       have HO203 := zM (ho)
                       clear HO195
                       clear ho hb hg hat
                       refine hK.out _ _ (((HB.out.cell (World.block_lt_of_cell? w _ hw204_0)).trans hw204_0)) (fun hHeld => ?_)
                       clear hK K
                       refine zn 50 ?_
                       refine zg HT_ 9 55 Tryz.func48 #[.slice A204_0 (rd_L2 l0 x4_1).length c204_0] (fun K hK => ?_)
                       with_reducible refine (spec_l1Own.calls _ _ (rd_L2 l0 x4_1) t205 _ ?side1 ?side2 A24.out).mono ?_
                       (case side1 => exact zC (Kd.C_below HR204_0.out HB.out))
                       (case side2 => exact HC204_0.out)
                       rintro e w36 ⟨v206, rfl, ho0, hb⟩
                       refine ⟨_, rfl, ?_⟩
                       replace HO_3 := zM (Kd.N_elder' (by (with_reducible repeat (first | apply Kd.N_alloc | apply Kd.N_drewN | apply Kd.N_drew)); exact HO_3.out) (Kd.R_base ho0) hb)
                       replace HO200 := zM (Kd.V_elder' (by (with_reducible repeat (first | apply Kd.V_alloc | apply Kd.V_drewN | apply Kd.V_drew)); exact HO200.out) (Kd.R_base ho0) hb)
                       replace HO215 := zM (Kd.V_elder' (by (with_reducible repeat (first | apply Kd.V_alloc | apply Kd.V_drewN | apply Kd.V_drew)); exact HO215.out) (Kd.R_base ho0) hb)
                       replace HO203 := zM (Kd.N_elder' (by (with_reducible repeat (first | apply Kd.N_alloc | apply Kd.N_drewN | apply Kd.N_drew)); exact HO203.out) (Kd.R_base ho0) hb)
                       have HO207 := zM (Kd.R_lower (Kd.R_newM (M := fun k_ => (w.heap.size ≤ k_)) ho0 (below_size zB) (fun k_ h_ => h_)) (below_size zB))
                       replace HB := zM (below_step zB hb)
                       (try clear hb)
                       (try clear hb2)
                       (try clear hk)
                       (try clear hi)
                       (try clear ho0)
                       obtain ⟨Ao38, co38, eo38⟩ := Kd.R_slice HO207.out
                       (first | subst eo38 | (injection eo38 with f1_ f2_ f3_; have f4_ := f1_.symm; have f5_ := f3_.symm; clear f1_ f2_ f3_; subst f4_; subst f5_))
                       refine hK.out _ _ (((HB.out.cell (World.block_lt_of_cell? w _ hw204_0)).trans hw204_0)) (fun hHeld => ?_)
                       clear hK K
                       refine zn 55 ?_
                       refine one_ (i := 10) (N := some 56) #[true, true, true, true, true, true, true, true, true, true, true, false, true, true, true, false, false] rfl rfl (one_of HT_.out (by kernel_rfl)) (by decide) (fun K hK => ?_)
                       refine value_ (w1 := ?_) (v := ?_) (by rfl) rfl ?_ ?_
                       rotate_left 2
                       · go_simp
                         constructor
                         · rfl
                         · rfl
                       refine hK.out _ _ ((World.cell?_alloc_lt _ _ _ (World.block_lt_of_cell? _ _ (((HB.out.cell (World.block_lt_of_cell? w _ hw204_0)).trans hw204_0)))).trans (((HB.out.cell (World.block_lt_of_cell? w _ hw204_0)).trans hw204_0))) (fun hHeld => ?_)
                       clear hK K
                       refine zn 56 ?_
                       refine one_ (i := 11) (N := some 57) #[true, true, true, true, true, true, true, true, true, true, true, true, true, true, true, false, false] rfl rfl (one_of HT_.out (by kernel_rfl)) (by decide) (fun K hK => ?_)
                       refine Kd.N_append_step (Kd.slice 3 (Kd.int .i64)) (w0 := w) w.heap.size (by rfl) (.tmp 50) (.tmp 56) 27 25 (.slice none 0 0) 24 rfl Tryz.underlying27 info25 rfl (by decide) (by omega) v202 y201 t205 [.slice Ao38 t205.length co38] (fun k_ => (w.heap.size ≤ k_)) (fun k_ => ((fun k_ => (w.heap.size ≤ k_))) k_ ∧ some k_ ≠ (v202 : Value).ownBlock) rfl rfl ?aP (fun _ hk => hk) ?aF ?aO ?aB ?aS ?aL ?_
                       (case aP => exact (Kd.FK_slice_mk (Kd.R_reads' (Kd.R_mono (ok' := (fun k_ => ((fun k_ => (w.heap.size ≤ k_))) k_ ∧ some k_ ≠ (v202 : Value).ownBlock)) (Kd.R_apart' (HO207.out) (Kd.N_typed HO203.out) (by decide)) (fun k_ hk => ⟨hk.1.1, hk.2⟩))).2.1 (Kd.R_F (Kd.R_mono (ok' := (fun k_ => ((fun k_ => (w.heap.size ≤ k_))) k_ ∧ some k_ ≠ (v202 : Value).ownBlock)) (Kd.R_apart' (HO207.out) (Kd.N_typed HO203.out) (by decide)) (fun k_ hk => ⟨hk.1.1, hk.2⟩)))))
                       (case aB => exact zB)
                       (case aF => exact (fun k_ hk => (Nat.le_trans (below_size zB) hk)))
                       (case aO => exact (by (with_reducible repeat (first | apply Kd.N_alloc | apply Kd.N_drewN | apply Kd.N_drew)); exact Kd.N_mono HO203.out (fun _ hk => hk.1)))
                       (case aS => exact (below_size zB))
                       (case aL => have := LMc25.out; omega)
                       intro v209 w37 ho hb hg hat
                       rw [← Ny208.out] at ho
                       replace HO_3 := zM (Kd.N_afterv (ok := (fun k_ => (w.heap.size ≤ k_) ∧ some k_ ≠ (.slice Ao38 t205.length co38 : Value).ownBlock)) (by (with_reducible repeat (first | apply Kd.N_alloc | apply Kd.N_drewN | apply Kd.N_drew)); exact Kd.N_mono HO_3.out (fun _ hk => ⟨⟨hk.1.1, hk.2⟩, hk.1.2⟩)) hg hat)
                       replace HO200 := zM (Kd.V_afterv (ok := (fun k_ => (w.heap.size ≤ k_) ∧ some k_ ≠ (.slice Ao38 t205.length co38 : Value).ownBlock)) (by (with_reducible repeat (first | apply Kd.V_alloc | apply Kd.V_drewN | apply Kd.V_drew)); exact Kd.V_mono HO200.out (fun _ hk => ⟨⟨hk.1.1, hk.2⟩, hk.1.2⟩)) hg hat)
                       replace HO215 := zM (Kd.V_afterv (ok := (fun k_ => (w.heap.size ≤ k_) ∧ some k_ ≠ (.slice Ao38 t205.length co38 : Value).ownBlock)) (by (with_reducible repeat (first | apply Kd.V_alloc | apply Kd.V_drewN | apply Kd.V_drew)); exact Kd.V_mono HO215.out (fun _ hk => ⟨⟨hk.1.1, hk.2⟩, hk.1.2⟩)) hg hat)
                       replace HB := zM (hb)
                       have HO210 := zM (ho)
                       clear HO203 HO207
                       clear ho hb hg hat
                       refine hK.out _ _ (((HB.out.cell (World.block_lt_of_cell? w _ hw204_0)).trans hw204_0)) (fun hHeld => ?_)
                       clear hK K
                       refine zn 57 ?_
                       refine one_ (i := 15) (N := some 61) #[true, true, true, true, true, true, true, true, true, true, true, true, true, true, true, true, false] rfl rfl (one_of HT_.out (by kernel_rfl)) (by decide) (fun K hK => ?_)
                       refine Kd.N_append_rows_step (Kd.slice 3 (Kd.int .i64)) (w0 := w) w.heap.size (by rfl) (.tmp 57) (.tmp 60) 27 25 (.slice none 0 0) 24 rfl Tryz.underlying27 info25 rfl (by decide) (by omega) v209 y208 y211 _ _ _ (fun k_ => (w.heap.size ≤ k_)) (fun k_ => ((fun k_ => (w.heap.size ≤ k_))) k_ ∧ some k_ ≠ (v209 : Value).ownBlock) rfl rfl ?aO ?aR (fun _ hk => hk) ?aF ?aB ?aS ?aL ?_
                       (case aR => exact (by skip; exact Kd.V_F (Kd.V_mono (ok' := (fun k_ => ((fun k_ => (w.heap.size ≤ k_))) k_ ∧ some k_ ≠ (v209 : Value).ownBlock)) (HO215.out) (fun k_ hk => ⟨hk.1.1, hk.2⟩))))
                       (case aB => exact zB)
                       (case aF => exact (fun k_ hk => (Nat.le_trans (below_size zB) hk)))
                       (case aO => exact (by (with_reducible repeat (first | apply Kd.N_alloc | apply Kd.N_drewN | apply Kd.N_drew)); exact HO210.out))
                       (case aS => exact (below_size zB))
                       (case aL => have := LMc28.out; omega)
                       intro v217 w39 ho hb hg hat
                       rw [← Ny216.out] at ho
                       replace HO_3 := zM (Kd.N_afterv (ok := (fun k_ => (w.heap.size ≤ k_))) (by (with_reducible repeat (first | apply Kd.N_alloc | apply Kd.N_drewN | apply Kd.N_drew)); exact Kd.N_mono HO_3.out (fun _ hk => ⟨hk.1.1, hk.2⟩)) hg hat)
                       replace HO200 := zM (Kd.V_afterv (ok := (fun k_ => (w.heap.size ≤ k_))) (by (with_reducible repeat (first | apply Kd.V_alloc | apply Kd.V_drewN | apply Kd.V_drew)); exact Kd.V_mono HO200.out (fun _ hk => ⟨hk.1.1, hk.2⟩)) hg hat)
                       replace HO215 := zM (Kd.V_afterv (ok := (fun k_ => (w.heap.size ≤ k_))) (by (with_reducible repeat (first | apply Kd.V_alloc | apply Kd.V_drewN | apply Kd.V_drew)); exact Kd.V_mono HO215.out (fun _ hk => ⟨hk.1.1, hk.2⟩)) hg hat)
                       replace HB := zM (hb)
                       have HO218 := zM (ho)
                       clear HO210
                       clear ho hb hg hat
                       refine hK.out _ _ (((HB.out.cell (World.block_lt_of_cell? w _ hw204_0)).trans hw204_0)) (fun hHeld => ?_)
                       clear hK K
                       refine zn 61 ?_
                       refine zp HT_ 16 3 ?_
                       refine zo HT_ ?_
                       try go_wp2
                       go_roundg kj4
                       case measure => have := HK1.out; have := HJ4.out; omega
                       case rel => exact ⟨(y216), (wrap64 (x4_1 + 1)), (by first | rfl | (simp; done) | (simp [*]; done)), H', ⟨by have := HK1.out; have := HJ4.out; omega⟩, ⟨by (with_reducible repeat (first | apply Kd.N_alloc | apply Kd.N_drewN | apply Kd.N_drew)); exact HO218.out⟩, ⟨zB⟩⟩
                     · rw [if_neg c28] at H
                       exact absurd H (by simp)
                   · rw [if_neg c25] at H
                     exact absurd H (by simp)
                 · rw [if_neg c23] at H
                   exact absurd H (by simp)
               · rw [if_neg c22] at H
                 exact absurd H (by simp)
             · rw [if_neg c21] at H
               exact absurd H (by simp)
           · rw [if_neg c20] at H
             exact absurd H (by simp)
         · rw [if_neg c19] at H
           exact absurd H (by simp)
       · rw [if_neg c18] at H
         have c18b0 : (x5_4 == 0) = false := beq_eq_false_iff_ne.mpr c18
         have c18b1 : (x5_4 != 0) = true := bne_iff_ne.mpr c18
         obtain ⟨ji40, hji40⟩ : ∃ j_ : Int, (wrap64 (x5_4 - 1)) = j_ := ⟨_, rfl⟩
         replace H : (if 0 ≤ (ji40) then (if (ji40) < (x3_1.length : Int) then (if 0 ≤ x4_1 then (if x4_1 < (l0.length : Int) then ((spec_l1Same.f kj4 (rd_L2 x3_1 (ji40)) (rd_L2 l0 x4_1)).bind fun t221 => (if t221 = true then (spec_l2Sorted.l0 kj4 l0 x3_1 (wrap64 (x4_1 + 1))) else ((some (([] : List (List Int)) : List (List Int))).bind fun y222 => (if 0 ≤ x5_4 then (if x5_4 ≤ (x3_1.length : Int) then ((some (x3_1.take (x5_4 : Int).toNat : List (List Int))).bind fun y225 => (if y222.length + y225.length < 5864062014805 then ((some (y222 ++ y225 : List (List Int))).bind fun y230 => ((spec_l1Own.f (rd_L2 l0 x4_1)).bind fun t234 => (if y230.length < 5864062014805 then ((some (y230 ++ [t234] : List (List Int))).bind fun y237 => ((some (x3_1.drop (x5_4 : Int).toNat : List (List Int))).bind fun y240 => (if y237.length + y240.length < 5864062014805 then (spec_l2Sorted.l0 kj4 l0 (y237 ++ y240) (wrap64 (x4_1 + 1))) else (none)))) else (none)))) else (none))) else (none)) else (none))))) else (none)) else (none)) else (none)) else (none)) = some r := by first | (rw [hji40] at H; exact H) | (simp only [hji40] at H ⊢; exact H)
         have hji40w : (IntKind.i64.wrap (x5_4 - 1)) = ji40 := (i64_w _).trans hji40
         by_cases c41 : 0 ≤ (ji40)
         · rw [if_pos c41] at H
           have c41b0 := decide_eq_true c41
           clear c41
           by_cases c42 : (ji40) < (x3_1.length : Int)
           · rw [if_pos c42] at H
             have c42b0 := decide_eq_true c42
             clear c42
             by_cases c43 : 0 ≤ x4_1
             · rw [if_pos c43] at H
               have c43b0 := decide_eq_true c43
               clear c43
               by_cases c44 : x4_1 < (l0.length : Int)
               · rw [if_pos c44] at H
                 have c44b0 := decide_eq_true c44
                 clear c44
                 replace H := Option.bind_eq_some_iff.mp H
                 obtain ⟨t221, A450, H⟩ := H
                 have A45 := Aside0.mk A450
                 clear A450
                 by_cases c46 : t221 = true
                 · subst c46
                   rw [if_pos rfl] at H
                   have H' := Aside0.mk H
                   clear H
                   try go_wp2
                   replace HO_3 := zM (Kd.N_drew HO_3.out)
                   replace HB := zM (below_drew1 HB.out)
                   have p219 : 0 ≤ ((ji40) : Int) := of_decide_eq_true zA
                   have q219 : (ji40) < (x3_1.length : Int) := of_decide_eq_true zA
                   obtain ⟨ad219, A219_0, c219_0, e219, hx219_0, hl219_0, hi219_0⟩ := at_L2 (Kd.N_reads' HO_3.out).2.2 (ji40) p219 q219
                   cases e219
                   obtain ⟨ce219, hce219, hMe219, hcc219⟩ := Kd.N_get HO_3.out [] (ji40) p219 (by first | exact q219 | exact of_decide_eq_true zA | (have e_ := (Kd.N_reads' HO_3.out).1; omega))
                   obtain ⟨ua219_0, uc219_0, rfl, ul219_0, ge219_0⟩ := Kd.FK_slice_open hMe219
                   have hv219_0 := hcc219 0 _ rfl
                   rw [Nat.add_zero, show ((Kd.slice 3 (Kd.int .i64))).sz = 1 from rfl, Nat.mul_one] at hv219_0
                   replace hv219_0 := Option.some.inj (hv219_0.symm.trans hx219_0)
                   injection hv219_0 with hva_ hvn_ hvc_
                   rw [hva_] at ge219_0
                   rw [hvc_] at ul219_0
                   have HL219_0 := zM (show Kd.V (Kd.int .i64) 3 _ w.heap.size _ _ (rd_L2 x3_1 (ji40)) from Kd.V_mk ul219_0 ge219_0)
                   clear hva_ hvn_ hvc_ ge219_0 ul219_0
                   clear hcc219 hce219
                   have HR219_0 := Aside0.mk hi219_0
                   have HC219_0 := Aside0.mk hl219_0
                   clear hi219_0 hl219_0
                   replace p219 := eq_true p219
                   replace q219 := eq_true q219
                   have p220 : 0 ≤ (x4_1 : Int) := of_decide_eq_true zA
                   have q220 : x4_1 < (l0.length : Int) := of_decide_eq_true zA
                   obtain ⟨ad220, A220_0, c220_0, e220, hx220_0, hl220_0, hi220_0⟩ := at_L2 HR0.out x4_1 p220 q220
                   have hw220_0 := hx220_0
                   cases e220
                   (try replace hx220_0 := (HB.out.cell (World.block_lt_of_cell? w _ hx220_0)).trans hx220_0)
                   have HR220_0 := Aside0.mk hi220_0
                   have HC220_0 := Aside0.mk hl220_0
                   clear hi220_0 hl220_0
                   replace p220 := eq_true p220
                   replace q220 := eq_true q220
                   refine zs (n := 15) (fun w' => w'.cell? (ad219.add ((ji40)).toNat) = some (.slice A219_0 (rd_L2 x3_1 (ji40)).length c219_0) ∧ w'.cell? (ad220.add (x4_1).toNat) = some (.slice A220_0 (rd_L2 l0 x4_1).length c220_0)) ⟨hx219_0, ((HB.out.cell (World.block_lt_of_cell? w _ hw220_0)).trans hw220_0)⟩ (fun hHeld => ?_); refine with_tabW spec_l2Sorted.tab8 spec_l2Sorted.bits8 (fun HT_ HW_ => ?_)
                   generalize wc.drew = w47 at HO_3 HB HL219_0 HR219_0 HR220_0 hx219_0 hx220_0 hHeld ⊢
                   refine zp HT_ 0 31 ?_
                   refine zp HT_ 1 32 ?_
                   refine zp HT_ 2 33 ?_
                   refine zp HT_ 3 34 ?_
                   refine zp HT_ 4 35 ?_
                   refine zp HT_ 5 36 ?_
                   refine zp HT_ 6 37 ?_
                   refine zp HT_ 8 39 ?_
                   refine zp HT_ 9 40 ?_
                   refine zp HT_ 10 41 ?_
                   refine zt HT_ HW_ 7 38 hHeld ?_ (hy := by rintro w' ⟨s0, s1⟩; go_simp; with_reducible rfl)
                   refine zt HT_ HW_ 11 42 hHeld ?_ (hy := by rintro w' ⟨s0, s1⟩; go_simp; with_reducible rfl)
                   refine one_ (i := 12) (N := some 43) #[true, true, true, true, true, true, true, true, true, true, true, true, true, false, false] rfl rfl (one_of HT_.out (by kernel_rfl)) (by decide) (fun K hK => ?_)
                   refine goes_ Tryz.func72 (by kernel_rfl) rfl #[.slice A219_0 (rd_L2 x3_1 (ji40)).length c219_0, .slice A220_0 (rd_L2 l0 x4_1).length c220_0] (by rfl) rfl rfl (by (try simp only [List.map_toArray, List.map_cons, List.map_nil]); first | done | (simp only [hji40]; rfl) | rfl | (simp only [List.length_drop, List.length_take]; rfl)) ?_
                   with_reducible refine (spec_l1Same.calls kj4 _ _ (rd_L2 x3_1 (ji40)) _ _ (rd_L2 l0 x4_1) true _ ?side1 ?side2 ?side3 ?side4 A45.out).mono ?_
                   (case side1 => repeat (first | exact (by repeat (first | (with_reducible exact HR219_0.out) | (with_reducible refine Kd.C_alloc ?_ _) | (with_reducible refine Kd.C_drewN ?_ _) | (with_reducible refine Kd.C_drew ?_) | exact HR219_0.out)) | (with_reducible refine Kd.C_alloc ?_ _) | (with_reducible refine Kd.C_drewN ?_ _) | (with_reducible refine Kd.C_drew ?_)))
                   (case side2 => exact HC219_0.out)
                   (case side3 => exact zC (Kd.C_below HR220_0.out HB.out))
                   (case side4 => exact HC220_0.out)
                   rintro e w' ⟨rfl, ⟨nd, rfl⟩⟩
                   refine ⟨_, rfl, ?_⟩
                   refine hK.out _ _ ⟨hHeld.1, ((HB.out.cell (World.block_lt_of_cell? w _ hw220_0)).trans hw220_0)⟩ (fun hHeld => ?_)
                   clear hK K
                   refine zn 43 ?_
                   refine zp HT_ 13 44 ?_
                   refine zp HT_ 14 45 ?_
                   refine zo HT_ ?_
                   try go_wp2
                   go_roundg kj4
                   case measure => have := HK1.out; have := HJ4.out; omega
                   case rel => exact ⟨(x3_1), (wrap64 (x4_1 + 1)), (by first | rfl | (simp; done) | (simp [*]; done)), H', ⟨by have := HK1.out; have := HJ4.out; omega⟩, ⟨by (with_reducible repeat (first | apply Kd.N_alloc | apply Kd.N_drewN | apply Kd.N_drew)); exact HO_3.out⟩, ⟨zB⟩⟩
                 · replace c46 := Bool.eq_false_iff.mpr c46
                   subst c46
                   have H1 : ((some (([] : List (List Int)) : List (List Int))).bind fun y222 => (if 0 ≤ x5_4 then (if x5_4 ≤ (x3_1.length : Int) then ((some (x3_1.take (x5_4 : Int).toNat : List (List Int))).bind fun y225 => (if y222.length + y225.length < 5864062014805 then ((some (y222 ++ y225 : List (List Int))).bind fun y230 => ((spec_l1Own.f (rd_L2 l0 x4_1)).bind fun t234 => (if y230.length < 5864062014805 then ((some (y230 ++ [t234] : List (List Int))).bind fun y237 => ((some (x3_1.drop (x5_4 : Int).toNat : List (List Int))).bind fun y240 => (if y237.length + y240.length < 5864062014805 then (spec_l2Sorted.l0 kj4 l0 (y237 ++ y240) (wrap64 (x4_1 + 1))) else (none)))) else (none)))) else (none))) else (none)) else (none))) = some r := by rw [if_neg (show ¬ (false = true) by decide)] at H; exact H
                   clear H
                   have H := H1
                   clear H1
                   obtain ⟨y222, hy222⟩ : ∃ y_ : List (List Int), y_ = (([] : List (List Int))) := ⟨_, rfl⟩
                   replace H : (if 0 ≤ x5_4 then (if x5_4 ≤ (x3_1.length : Int) then ((some (x3_1.take (x5_4 : Int).toNat : List (List Int))).bind fun y225 => (if y222.length + y225.length < 5864062014805 then ((some (y222 ++ y225 : List (List Int))).bind fun y230 => ((spec_l1Own.f (rd_L2 l0 x4_1)).bind fun t234 => (if y230.length < 5864062014805 then ((some (y230 ++ [t234] : List (List Int))).bind fun y237 => ((some (x3_1.drop (x5_4 : Int).toNat : List (List Int))).bind fun y240 => (if y237.length + y240.length < 5864062014805 then (spec_l2Sorted.l0 kj4 l0 (y237 ++ y240) (wrap64 (x4_1 + 1))) else (none)))) else (none)))) else (none))) else (none)) else (none)) = some r := by first | (rw [hy222]; with_reducible exact H) | (have H2_ := (Option.bind_some _ _).symm.trans H; rw [hy222]; with_reducible exact H2_) | (have H2_ := (Option.bind_some _ _).symm.trans H; with_reducible exact H2_) | with_reducible exact H | (rw [hy222]; exact H) | exact H
                   have Ny222 := Aside0.mk hy222
                   clear hy222
                   by_cases c48 : 0 ≤ x5_4
                   · rw [if_pos c48] at H
                     have c48b0 := eq_true c48
                     have c48b1 : decide (0 ≤ x5_4) = true := decide_eq_true c48
                     clear c48
                     by_cases c49 : x5_4 ≤ (x3_1.length : Int)
                     · rw [if_pos c49] at H
                       have c49b0 := eq_true c49
                       have c49b1 : decide (x5_4 ≤ (x3_1.length : Int)) = true := decide_eq_true c49
                       clear c49
                       obtain ⟨y225, hy225⟩ : ∃ y_ : List (List Int), y_ = (x3_1.take (x5_4 : Int).toNat) := ⟨_, rfl⟩
                       replace H : (if y222.length + y225.length < 5864062014805 then ((some (y222 ++ y225 : List (List Int))).bind fun y230 => ((spec_l1Own.f (rd_L2 l0 x4_1)).bind fun t234 => (if y230.length < 5864062014805 then ((some (y230 ++ [t234] : List (List Int))).bind fun y237 => ((some (x3_1.drop (x5_4 : Int).toNat : List (List Int))).bind fun y240 => (if y237.length + y240.length < 5864062014805 then (spec_l2Sorted.l0 kj4 l0 (y237 ++ y240) (wrap64 (x4_1 + 1))) else (none)))) else (none)))) else (none)) = some r := by first | (rw [hy225]; with_reducible exact H) | (have H2_ := (Option.bind_some _ _).symm.trans H; rw [hy225]; with_reducible exact H2_) | (have H2_ := (Option.bind_some _ _).symm.trans H; with_reducible exact H2_) | with_reducible exact H | (rw [hy225]; exact H) | exact H
                       have Ny225 := Aside0.mk hy225
                       clear hy225
                       by_cases c50 : y222.length + y225.length < 5864062014805
                       · rw [if_pos c50] at H
                         have LMc50 := Aside0.mk c50
                         clear c50
                         obtain ⟨y230, hy230⟩ : ∃ y_ : List (List Int), y_ = (y222 ++ y225) := ⟨_, rfl⟩
                         replace H : ((spec_l1Own.f (rd_L2 l0 x4_1)).bind fun t234 => (if y230.length < 5864062014805 then ((some (y230 ++ [t234] : List (List Int))).bind fun y237 => ((some (x3_1.drop (x5_4 : Int).toNat : List (List Int))).bind fun y240 => (if y237.length + y240.length < 5864062014805 then (spec_l2Sorted.l0 kj4 l0 (y237 ++ y240) (wrap64 (x4_1 + 1))) else (none)))) else (none))) = some r := by first | (rw [hy230]; with_reducible exact H) | (have H2_ := (Option.bind_some _ _).symm.trans H; rw [hy230]; with_reducible exact H2_) | (have H2_ := (Option.bind_some _ _).symm.trans H; with_reducible exact H2_) | with_reducible exact H | (rw [hy230]; exact H) | exact H
                         have Ny230 := Aside0.mk hy230
                         clear hy230
                         replace H := Option.bind_eq_some_iff.mp H
                         obtain ⟨t234, A510, H⟩ := H
                         have A51 := Aside0.mk A510
                         clear A510
                         by_cases c52 : y230.length < 5864062014805
                         · rw [if_pos c52] at H
                           have LMc52 := Aside0.mk c52
                           clear c52
                           obtain ⟨y237, hy237⟩ : ∃ y_ : List (List Int), y_ = (y230 ++ [t234]) := ⟨_, rfl⟩
                           replace H : ((some (x3_1.drop (x5_4 : Int).toNat : List (List Int))).bind fun y240 => (if y237.length + y240.length < 5864062014805 then (spec_l2Sorted.l0 kj4 l0 (y237 ++ y240) (wrap64 (x4_1 + 1))) else (none))) = some r := by first | (rw [hy237]; with_reducible exact H) | (have H2_ := (Option.bind_some _ _).symm.trans H; rw [hy237]; with_reducible exact H2_) | (have H2_ := (Option.bind_some _ _).symm.trans H; with_reducible exact H2_) | with_reducible exact H | (rw [hy237]; exact H) | exact H
                           have Ny237 := Aside0.mk hy237
                           clear hy237
                           have c53b0 := eq_true (of_decide_eq_true zA : 0 ≤ x5_4)
                           have c54b0 := eq_true (of_decide_eq_true zA : x5_4 ≤ (x3_1.length : Int))
                           obtain ⟨y240, hy240⟩ : ∃ y_ : List (List Int), y_ = (x3_1.drop (x5_4 : Int).toNat) := ⟨_, rfl⟩
                           replace H : (if y237.length + y240.length < 5864062014805 then (spec_l2Sorted.l0 kj4 l0 (y237 ++ y240) (wrap64 (x4_1 + 1))) else (none)) = some r := by first | (rw [hy240]; with_reducible exact H) | (have H2_ := (Option.bind_some _ _).symm.trans H; rw [hy240]; with_reducible exact H2_) | (have H2_ := (Option.bind_some _ _).symm.trans H; with_reducible exact H2_) | with_reducible exact H | (rw [hy240]; exact H) | exact H
                           have Ny240 := Aside0.mk hy240
                           clear hy240
                           by_cases c55 : y237.length + y240.length < 5864062014805
                           · rw [if_pos c55] at H
                             have LMc55 := Aside0.mk c55
                             clear c55
                             obtain ⟨y245, hy245⟩ : ∃ y_ : List (List Int), y_ = (y237 ++ y240) := ⟨_, rfl⟩
                             replace H : (spec_l2Sorted.l0 kj4 l0 y245 (wrap64 (x4_1 + 1))) = some r := by first | (rw [hy245]; with_reducible exact H) | (have H2_ := (Option.bind_some _ _).symm.trans H; rw [hy245]; with_reducible exact H2_) | (have H2_ := (Option.bind_some _ _).symm.trans H; with_reducible exact H2_) | with_reducible exact H | (rw [hy245]; exact H) | exact H
                             have Ny245 := Aside0.mk hy245
                             clear hy245
                             have H' := Aside0.mk H
                             clear H
                             try go_wp2
                             replace HO_3 := zM (Kd.N_drew HO_3.out)
                             replace HB := zM (below_drew1 HB.out)
                             have p219 : 0 ≤ ((ji40) : Int) := of_decide_eq_true zA
                             have q219 : (ji40) < (x3_1.length : Int) := of_decide_eq_true zA
                             obtain ⟨ad219, A219_0, c219_0, e219, hx219_0, hl219_0, hi219_0⟩ := at_L2 (Kd.N_reads' HO_3.out).2.2 (ji40) p219 q219
                             cases e219
                             obtain ⟨ce219, hce219, hMe219, hcc219⟩ := Kd.N_get HO_3.out [] (ji40) p219 (by first | exact q219 | exact of_decide_eq_true zA | (have e_ := (Kd.N_reads' HO_3.out).1; omega))
                             obtain ⟨ua219_0, uc219_0, rfl, ul219_0, ge219_0⟩ := Kd.FK_slice_open hMe219
                             have hv219_0 := hcc219 0 _ rfl
                             rw [Nat.add_zero, show ((Kd.slice 3 (Kd.int .i64))).sz = 1 from rfl, Nat.mul_one] at hv219_0
                             replace hv219_0 := Option.some.inj (hv219_0.symm.trans hx219_0)
                             injection hv219_0 with hva_ hvn_ hvc_
                             rw [hva_] at ge219_0
                             rw [hvc_] at ul219_0
                             have HL219_0 := zM (show Kd.V (Kd.int .i64) 3 _ w.heap.size _ _ (rd_L2 x3_1 (ji40)) from Kd.V_mk ul219_0 ge219_0)
                             clear hva_ hvn_ hvc_ ge219_0 ul219_0
                             clear hcc219 hce219
                             have HR219_0 := Aside0.mk hi219_0
                             have HC219_0 := Aside0.mk hl219_0
                             clear hi219_0 hl219_0
                             replace p219 := eq_true p219
                             replace q219 := eq_true q219
                             have p220 : 0 ≤ (x4_1 : Int) := of_decide_eq_true zA
                             have q220 : x4_1 < (l0.length : Int) := of_decide_eq_true zA
                             obtain ⟨ad220, A220_0, c220_0, e220, hx220_0, hl220_0, hi220_0⟩ := at_L2 HR0.out x4_1 p220 q220
                             have hw220_0 := hx220_0
                             cases e220
                             (try replace hx220_0 := (HB.out.cell (World.block_lt_of_cell? w _ hx220_0)).trans hx220_0)
                             have HR220_0 := Aside0.mk hi220_0
                             have HC220_0 := Aside0.mk hl220_0
                             clear hi220_0 hl220_0
                             replace p220 := eq_true p220
                             replace q220 := eq_true q220
                             refine zs (n := 15) (fun w' => w'.cell? (ad219.add ((ji40)).toNat) = some (.slice A219_0 (rd_L2 x3_1 (ji40)).length c219_0) ∧ w'.cell? (ad220.add (x4_1).toNat) = some (.slice A220_0 (rd_L2 l0 x4_1).length c220_0)) ⟨hx219_0, ((HB.out.cell (World.block_lt_of_cell? w _ hw220_0)).trans hw220_0)⟩ (fun hHeld => ?_); refine with_tabW spec_l2Sorted.tab8 spec_l2Sorted.bits8 (fun HT_ HW_ => ?_)
                             generalize wc.drew = w56 at HO_3 HB HL219_0 HR219_0 HR220_0 hx219_0 hx220_0 hHeld ⊢
                             refine zp HT_ 0 31 ?_
                             refine zp HT_ 1 32 ?_
                             refine zp HT_ 2 33 ?_
                             refine zp HT_ 3 34 ?_
                             refine zp HT_ 4 35 ?_
                             refine zp HT_ 5 36 ?_
                             refine zp HT_ 6 37 ?_
                             refine zp HT_ 8 39 ?_
                             refine zp HT_ 9 40 ?_
                             refine zp HT_ 10 41 ?_
                             refine zt HT_ HW_ 7 38 hHeld ?_ (hy := by rintro w' ⟨s0, s1⟩; go_simp; with_reducible rfl)
                             refine zt HT_ HW_ 11 42 hHeld ?_ (hy := by rintro w' ⟨s0, s1⟩; go_simp; with_reducible rfl)
                             refine one_ (i := 12) (N := some 43) #[true, true, true, true, true, true, true, true, true, true, true, true, true, false, false] rfl rfl (one_of HT_.out (by kernel_rfl)) (by decide) (fun K hK => ?_)
                             refine goes_ Tryz.func72 (by kernel_rfl) rfl #[.slice A219_0 (rd_L2 x3_1 (ji40)).length c219_0, .slice A220_0 (rd_L2 l0 x4_1).length c220_0] (by rfl) rfl rfl (by (try simp only [List.map_toArray, List.map_cons, List.map_nil]); first | done | (simp only [hji40]; rfl) | rfl | (simp only [List.length_drop, List.length_take]; rfl)) ?_
                             with_reducible refine (spec_l1Same.calls kj4 _ _ (rd_L2 x3_1 (ji40)) _ _ (rd_L2 l0 x4_1) false _ ?side1 ?side2 ?side3 ?side4 A45.out).mono ?_
                             (case side1 => repeat (first | exact (by repeat (first | (with_reducible exact HR219_0.out) | (with_reducible refine Kd.C_alloc ?_ _) | (with_reducible refine Kd.C_drewN ?_ _) | (with_reducible refine Kd.C_drew ?_) | exact HR219_0.out)) | (with_reducible refine Kd.C_alloc ?_ _) | (with_reducible refine Kd.C_drewN ?_ _) | (with_reducible refine Kd.C_drew ?_)))
                             (case side2 => exact HC219_0.out)
                             (case side3 => exact zC (Kd.C_below HR220_0.out HB.out))
                             (case side4 => exact HC220_0.out)
                             rintro e w' ⟨rfl, ⟨nd, rfl⟩⟩
                             refine ⟨_, rfl, ?_⟩
                             refine hK.out _ _ ⟨hHeld.1, ((HB.out.cell (World.block_lt_of_cell? w _ hw220_0)).trans hw220_0)⟩ (fun hHeld => ?_)
                             clear hK K
                             refine zn 43 ?_
                             refine zp HT_ 13 44 ?_
                             refine zp HT_ 14 45 ?_
                             refine zo HT_ ?_
                             try go_wp2
                             (try (rw [drewN_self w56]; generalize hq_ : World.drewN w56 _ = w56; have n0_ : Aside0 (Kd.V (Kd.int .i64) 3 w56 w.heap.size (fun k_ => (w.heap.size ≤ k_) ∧ some k_ ≠ (.slice (some ad219) x3_1.length co6 : Value).ownBlock) (.slice A219_0 (rd_L2 x3_1 (ji40)).length c219_0) (rd_L2 x3_1 (ji40))) := ⟨by rw [← hq_]; exact (by (with_reducible repeat (first | apply Kd.V_alloc | apply Kd.V_drewN | apply Kd.V_drew)); exact HL219_0.out)⟩; have n1_ : Aside0 (Kd.N (Kd.slice 3 (Kd.int .i64)) 25 w56 w.heap.size (fun k_ => (w.heap.size ≤ k_)) (.slice (some ad219) x3_1.length co6) x3_1) := ⟨by rw [← hq_]; exact (by (with_reducible repeat (first | apply Kd.N_alloc | apply Kd.N_drewN | apply Kd.N_drew)); exact HO_3.out)⟩; have n2_ : Aside0 (Below w.heap.size w w56) := ⟨by rw [← hq_]; exact zB⟩; have n3_ : Aside0 (Kd.C (Kd.int .i64) w56 A219_0 (rd_L2 x3_1 (ji40)).length (rd_L2 x3_1 (ji40))) := ⟨by rw [← hq_]; exact (by repeat (first | (with_reducible exact HR219_0.out) | (with_reducible refine Kd.C_alloc ?_ _) | (with_reducible refine Kd.C_drewN ?_ _) | (with_reducible refine Kd.C_drew ?_) | exact HR219_0.out))⟩; clear HL219_0 HO_3 HB HR219_0 hq_; have HL219_0 := n0_; have HO_3 := n1_; have HB := n2_; have HR219_0 := n3_; clear n0_ n1_ n2_ n3_))
                             replace HO_3 := zM (Kd.N_drew HO_3.out)
                             replace HL219_0 := zM (Kd.V_drew HL219_0.out)
                             replace HR219_0 := zM (Kd.C_drew HR219_0.out)
                             replace HB := zM (below_drew1 HB.out)
                             have q58 : (x5_4 : Int) ≤ ((x3_1.length : Int) : Int) := of_decide_eq_true zA
                             obtain ⟨i058, hi058, _, hsz58, _⟩ := info_parts info25
                             have hroom58 : x3_1.length ≤ co6 := (Kd.N_reads' HO_3.out).2.1
                             have hC58 : Kd.F (Kd.slice 3 (Kd.int .i64)) _ _ (some ad219) x3_1.length x3_1 := (Kd.V_at (base := w.heap.size) (Kd.N_V HO_3.out)).2.2
                             have hcut58 := cut_to (P := Tryz.prog) 27 25 .i64 Tryz.underlying27 hi058 (some ad219) x3_1.length co6 x5_4 (of_decide_eq_true zA) q58 hroom58
                             have hr58 := Kd.F_take (m := (x5_4 : Int).toNat) hC58 (by omega)
                             have hy58 : y225.length = (x5_4 : Int).toNat := (by rw [Ny225.out, List.length_take]; omega)
                             rw [← Ny225.out] at hr58
                             rw [← hy58] at hcut58
                             have HO229 := zM (show Kd.V (Kd.slice 3 (Kd.int .i64)) 25 _ w.heap.size _ (.slice (some ad219) y225.length co6) y225 from Kd.V_mk (by omega) hr58)
                             have HC229 := zM (show y225.length ≤ co6 from by omega)
                             clear hr58 hC58 hroom58 hi058 hsz58
                             have KY58 := Aside0.mk hy58
                             clear hy58
                             replace q58 := eq_true q58
                             have p233 : 0 ≤ (x4_1 : Int) := of_decide_eq_true zA
                             have q233 : x4_1 < (l0.length : Int) := of_decide_eq_true zA
                             obtain ⟨ad233, A233_0, c233_0, e233, hx233_0, hl233_0, hi233_0⟩ := at_L2 HR0.out x4_1 p233 q233
                             have hw233_0 := hx233_0
                             obtain rfl : ad220 = ad233 := (by injection e233)
                             (try replace hx233_0 := (HB.out.cell (World.block_lt_of_cell? w _ hx233_0)).trans hx233_0)
                             have HR233_0 := Aside0.mk hi233_0
                             have HC233_0 := Aside0.mk hl233_0
                             clear hi233_0 hl233_0
                             replace p233 := eq_true p233
                             replace q233 := eq_true q233
                             have q59 : (x5_4 : Int) ≤ ((x3_1.length : Int) : Int) := of_decide_eq_true zA
                             obtain ⟨i059, hi059, _, hsz59, _⟩ := info_parts info25
                             have hroom59 : x3_1.length ≤ co6 := (Kd.N_reads' HO_3.out).2.1
                             have hC59 : Kd.F (Kd.slice 3 (Kd.int .i64)) _ _ (some ad219) x3_1.length x3_1 := (Kd.V_at (base := w.heap.size) (Kd.N_V HO_3.out)).2.2
                             have q059 : (0 : Int) ≤ (x5_4 : Int) := of_decide_eq_true zA
                             have hcut59 := cut_from (P := Tryz.prog) 27 25 .i64 Tryz.underlying27 hi059 1 hsz59 (some ad219) x3_1.length co6 x5_4 q059 q59
                             have hr59 := Kd.F_cut (m := (x5_4 : Int).toNat) (c := co6) hC59 (by omega) hroom59
                             obtain ⟨A59, hA59⟩ : ∃ A1, A1 = (if co6 = (x5_4 : Int).toNat then (some ad219) else ((some ad219) : Option Addr).map (·.add ((x5_4 : Int).toNat * 1))) := ⟨_, rfl⟩
                             obtain ⟨c59, hc59⟩ : ∃ c1, c1 = co6 - (x5_4 : Int).toNat := ⟨_, rfl⟩
                             have hy59 : y240.length = x3_1.length - (x5_4 : Int).toNat := (by rw [Ny240.out, List.length_drop] <;> omega)
                             rw [show (x3_1).drop (x5_4 : Int).toNat = y240 from Ny240.out.symm] at hr59
                             replace hr59 : Kd.F (Kd.slice 3 (Kd.int .i64)) _ _ A59 y240.length y240 := (by rw [hA59]; exact hr59)
                             rw [← hy59, ← hA59, ← hc59] at hcut59
                             have HO244 := zM (show Kd.V (Kd.slice 3 (Kd.int .i64)) 25 _ w.heap.size _ (.slice A59 y240.length c59) y240 from Kd.V_mk (by rw [hy59, hc59]; exact Nat.sub_le_sub_right hroom59 _) hr59)
                             have HC244 := zM (show y240.length ≤ c59 from by rw [hy59, hc59]; exact Nat.sub_le_sub_right hroom59 _)
                             clear hr59 hC59 hroom59 hi059 hsz59 hc59
                             have KY59 := Aside0.mk hy59
                             have KA59 := Aside0.mk hA59
                             clear hy59 hA59
                             replace q59 := eq_true q59
                             refine zs (n := 17) (fun w' => w'.cell? (ad220.add (x4_1).toNat) = some (.slice A233_0 (rd_L2 l0 x4_1).length c233_0)) (((HB.out.cell (World.block_lt_of_cell? w _ hw233_0)).trans hw233_0)) (fun hHeld => ?_); refine with_tabW spec_l2Sorted.tab9 spec_l2Sorted.bits9 (fun HT_ HW_ => ?_)
                             generalize w56.drew = w57 at HO_3 HL219_0 HR219_0 HB HO229 HO244 HR233_0 hx233_0 hHeld ⊢
                             refine zp HT_ 1 47 ?_
                             refine zp HT_ 2 48 ?_
                             refine zp HT_ 3 49 ?_
                             refine zp HT_ 5 51 ?_
                             refine zp HT_ 6 52 ?_
                             refine zp HT_ 7 53 ?_
                             refine zp HT_ 12 58 ?_
                             refine zp HT_ 13 59 ?_
                             refine zp HT_ 14 60 ?_
                             refine take_ (i := 8) (N := some 54) (v := ?_) (a' := ?_) #[false, true, true, true, false, true, true, true, true, false, false, false, true, true, true, false, false] rfl rfl (take_ofW HT_.out HW_.out (by kernel_rfl)) (fun _ _ _ h => h) (Or.inl ⟨by rfl, ?_⟩) hHeld ?_ ?_
                             rotate_left
                             · intro w' s0
                               go_simp
                               with_reducible rfl
                             rotate_left
                             · simp only [Act.put, List.setIfInBounds_toArray, List.set_cons_zero, List.set_cons_succ, i64_w, i32_w]
                               rfl
                             refine one_ (i := 0) (N := some 46) #[true, true, true, true, false, true, true, true, true, false, false, false, true, true, true, false, false] rfl rfl (one_of HT_.out (by kernel_rfl)) (by decide) (fun K hK => ?_)
                             refine Kd.N_lit_step (Kd.slice 3 (Kd.int .i64)) _ 25 ?hg (N' := 46) ?hd (xs := ([] : List (List Int))) (inner := []) (ok := (fun k_ => (w.heap.size ≤ k_) ∧ some k_ ≠ (.slice (some ad219) x3_1.length co6 : Value).ownBlock)) (okp := (fun k_ => (w.heap.size ≤ k_) ∧ some k_ ≠ (.slice (some ad219) x3_1.length co6 : Value).ownBlock)) ?hr ?hp (fun _ hk => hk) ((show ∀ k_, w57.heap.size ≤ k_ → (fun k_ => (w.heap.size ≤ k_) ∧ some k_ ≠ (.slice (some ad219) x3_1.length co6 : Value).ownBlock) k_ from fun k_ hk => ⟨(Nat.le_trans (below_size zB) hk), Kd.fresh' (Kd.N_lt (by (with_reducible repeat (first | apply Kd.N_alloc | apply Kd.N_drewN | apply Kd.N_drew)); exact HO_3.out)) k_ hk⟩) _ (Nat.le_refl _)) (Below.refl _ _) (Nat.le_refl _) (by simp) ?_; (case hd => rfl); (case hg => rfl); (case hr => first | (go_simp; done) | (go_simp; rfl)); (case hp => exact (Reps.none _ _))
                             intro v223 w60 ho61 hb hg_ hnew_
                             clear hg_ hnew_
                             (first | rw [← Ny222.out] at ho61 | (simp only [Int.reduceToNat] at ho61; rw [← Ny222.out] at ho61))
                             replace HO_3 := zM (Kd.N_elder' (by (with_reducible repeat (first | apply Kd.N_alloc | apply Kd.N_drewN | apply Kd.N_drew)); exact HO_3.out) (Kd.N_base ho61) hb)
                             replace HL219_0 := zM (Kd.V_elder' (by (with_reducible repeat (first | apply Kd.V_alloc | apply Kd.V_drewN | apply Kd.V_drew)); exact HL219_0.out) (Kd.N_base ho61) hb)
                             replace HO229 := zM (Kd.V_elder' (by (with_reducible repeat (first | apply Kd.V_alloc | apply Kd.V_drewN | apply Kd.V_drew)); exact HO229.out) (Kd.N_base ho61) hb)
                             replace HO244 := zM (Kd.V_elder' (by (with_reducible repeat (first | apply Kd.V_alloc | apply Kd.V_drewN | apply Kd.V_drew)); exact HO244.out) (Kd.N_base ho61) hb)
                             have HO224 := zM (Kd.N_lower ho61 (below_size zB))
                             replace HR219_0 := zM (Kd.C_below (by repeat (first | (with_reducible exact HR219_0.out) | (with_reducible refine Kd.C_alloc ?_ _) | (with_reducible refine Kd.C_drewN ?_ _) | (with_reducible refine Kd.C_drew ?_) | exact HR219_0.out)) hb)
                             replace HB := zM (below_step zB hb)
                             clear hb ho61
                             refine hK.out _ _ (((HB.out.cell (World.block_lt_of_cell? w _ hw233_0)).trans hw233_0)) (fun hHeld => ?_)
                             clear hK K
                             refine zn 46 ?_
                             refine one_ (i := 4) (N := some 50) #[true, true, true, true, true, true, true, true, true, false, false, false, true, true, true, false, false] rfl rfl (one_of HT_.out (by kernel_rfl)) (by decide) (fun K hK => ?_)
                             refine Kd.N_append_rows_step (Kd.slice 3 (Kd.int .i64)) (w0 := w) w.heap.size (by rfl) (.tmp 46) (.tmp 49) 27 25 (.slice none 0 0) 24 rfl Tryz.underlying27 info25 rfl (by decide) (by omega) v223 y222 y225 _ _ _ (fun k_ => (w.heap.size ≤ k_)) (fun k_ => ((fun k_ => (w.heap.size ≤ k_))) k_ ∧ some k_ ≠ (v223 : Value).ownBlock) rfl rfl ?aO ?aR (fun _ hk => hk) ?aF ?aB ?aS ?aL ?_
                             (case aR => exact (by skip; exact Kd.V_F (Kd.V_mono (ok' := (fun k_ => ((fun k_ => (w.heap.size ≤ k_))) k_ ∧ some k_ ≠ (v223 : Value).ownBlock)) (HO229.out) (fun k_ hk => ⟨hk.1, hk.2⟩))))
                             (case aB => exact zB)
                             (case aF => exact (fun k_ hk => (Nat.le_trans (below_size zB) hk)))
                             (case aO => exact (by (with_reducible repeat (first | apply Kd.N_alloc | apply Kd.N_drewN | apply Kd.N_drew)); exact Kd.N_mono HO224.out (fun _ hk => hk.1)))
                             (case aS => exact (below_size zB))
                             (case aL => have := LMc50.out; omega)
                             intro v231 w62 ho hb hg hat
                             rw [← Ny230.out] at ho
                             replace HO_3 := zM (Kd.N_afterv (ok := (fun k_ => (w.heap.size ≤ k_))) (by (with_reducible repeat (first | apply Kd.N_alloc | apply Kd.N_drewN | apply Kd.N_drew)); exact HO_3.out) hg hat)
                             replace HL219_0 := zM (Kd.V_afterv (ok := (fun k_ => (w.heap.size ≤ k_) ∧ some k_ ≠ (.slice (some ad219) x3_1.length co6 : Value).ownBlock)) (by (with_reducible repeat (first | apply Kd.V_alloc | apply Kd.V_drewN | apply Kd.V_drew)); exact HL219_0.out) hg hat)
                             replace HO229 := zM (Kd.V_afterv (ok := (fun k_ => (w.heap.size ≤ k_))) (by (with_reducible repeat (first | apply Kd.V_alloc | apply Kd.V_drewN | apply Kd.V_drew)); exact HO229.out) hg hat)
                             replace HO244 := zM (Kd.V_afterv (ok := (fun k_ => (w.heap.size ≤ k_))) (by (with_reducible repeat (first | apply Kd.V_alloc | apply Kd.V_drewN | apply Kd.V_drew)); exact HO244.out) hg hat)
                             replace HB := zM (hb)
                             have HO232 := zM (ho)
                             clear HO224
                             clear ho hb hg hat
                             refine hK.out _ _ (((HB.out.cell (World.block_lt_of_cell? w _ hw233_0)).trans hw233_0)) (fun hHeld => ?_)
                             clear hK K
                             refine zn 50 ?_
                             refine zg HT_ 9 55 Tryz.func48 #[.slice A233_0 (rd_L2 l0 x4_1).length c233_0] (fun K hK => ?_)
                             with_reducible refine (spec_l1Own.calls _ _ (rd_L2 l0 x4_1) t234 _ ?side1 ?side2 A51.out).mono ?_
                             (case side1 => exact zC (Kd.C_below HR233_0.out HB.out))
                             (case side2 => exact HC233_0.out)
                             rintro e w63 ⟨v235, rfl, ho0, hb⟩
                             refine ⟨_, rfl, ?_⟩
                             replace HO_3 := zM (Kd.N_elder' (by (with_reducible repeat (first | apply Kd.N_alloc | apply Kd.N_drewN | apply Kd.N_drew)); exact HO_3.out) (Kd.R_base ho0) hb)
                             replace HL219_0 := zM (Kd.V_elder' (by (with_reducible repeat (first | apply Kd.V_alloc | apply Kd.V_drewN | apply Kd.V_drew)); exact HL219_0.out) (Kd.R_base ho0) hb)
                             replace HO229 := zM (Kd.V_elder' (by (with_reducible repeat (first | apply Kd.V_alloc | apply Kd.V_drewN | apply Kd.V_drew)); exact HO229.out) (Kd.R_base ho0) hb)
                             replace HO244 := zM (Kd.V_elder' (by (with_reducible repeat (first | apply Kd.V_alloc | apply Kd.V_drewN | apply Kd.V_drew)); exact HO244.out) (Kd.R_base ho0) hb)
                             replace HO232 := zM (Kd.N_elder' (by (with_reducible repeat (first | apply Kd.N_alloc | apply Kd.N_drewN | apply Kd.N_drew)); exact HO232.out) (Kd.R_base ho0) hb)
                             have HO236 := zM (Kd.R_lower (Kd.R_newM (M := fun k_ => (w.heap.size ≤ k_)) ho0 (below_size zB) (fun k_ h_ => h_)) (below_size zB))
                             replace HB := zM (below_step zB hb)
                             (try clear hb)
                             (try clear hb2)
                             (try clear hk)
                             (try clear hi)
                             (try clear ho0)
                             obtain ⟨Ao65, co65, eo65⟩ := Kd.R_slice HO236.out
                             (first | subst eo65 | (injection eo65 with f1_ f2_ f3_; have f4_ := f1_.symm; have f5_ := f3_.symm; clear f1_ f2_ f3_; subst f4_; subst f5_))
                             refine hK.out _ _ (((HB.out.cell (World.block_lt_of_cell? w _ hw233_0)).trans hw233_0)) (fun hHeld => ?_)
                             clear hK K
                             refine zn 55 ?_
                             refine one_ (i := 10) (N := some 56) #[true, true, true, true, true, true, true, true, true, true, true, false, true, true, true, false, false] rfl rfl (one_of HT_.out (by kernel_rfl)) (by decide) (fun K hK => ?_)
                             refine value_ (w1 := ?_) (v := ?_) (by rfl) rfl ?_ ?_
                             rotate_left 2
                             · go_simp
                               constructor
                               · rfl
                               · rfl
                             refine hK.out _ _ ((World.cell?_alloc_lt _ _ _ (World.block_lt_of_cell? _ _ (((HB.out.cell (World.block_lt_of_cell? w _ hw233_0)).trans hw233_0)))).trans (((HB.out.cell (World.block_lt_of_cell? w _ hw233_0)).trans hw233_0))) (fun hHeld => ?_)
                             clear hK K
                             refine zn 56 ?_
                             refine one_ (i := 11) (N := some 57) #[true, true, true, true, true, true, true, true, true, true, true, true, true, true, true, false, false] rfl rfl (one_of HT_.out (by kernel_rfl)) (by decide) (fun K hK => ?_)
                             refine Kd.N_append_step (Kd.slice 3 (Kd.int .i64)) (w0 := w) w.heap.size (by rfl) (.tmp 50) (.tmp 56) 27 25 (.slice none 0 0) 24 rfl Tryz.underlying27 info25 rfl (by decide) (by omega) v231 y230 t234 [.slice Ao65 t234.length co65] (fun k_ => (w.heap.size ≤ k_)) (fun k_ => ((fun k_ => (w.heap.size ≤ k_))) k_ ∧ some k_ ≠ (v231 : Value).ownBlock) rfl rfl ?aP (fun _ hk => hk) ?aF ?aO ?aB ?aS ?aL ?_
                             (case aP => exact (Kd.FK_slice_mk (Kd.R_reads' (Kd.R_mono (ok' := (fun k_ => ((fun k_ => (w.heap.size ≤ k_))) k_ ∧ some k_ ≠ (v231 : Value).ownBlock)) (Kd.R_apart' (HO236.out) (Kd.N_typed HO232.out) (by decide)) (fun k_ hk => ⟨hk.1.1, hk.2⟩))).2.1 (Kd.R_F (Kd.R_mono (ok' := (fun k_ => ((fun k_ => (w.heap.size ≤ k_))) k_ ∧ some k_ ≠ (v231 : Value).ownBlock)) (Kd.R_apart' (HO236.out) (Kd.N_typed HO232.out) (by decide)) (fun k_ hk => ⟨hk.1.1, hk.2⟩)))))
                             (case aB => exact zB)
                             (case aF => exact (fun k_ hk => (Nat.le_trans (below_size zB) hk)))
                             (case aO => exact (by (with_reducible repeat (first | apply Kd.N_alloc | apply Kd.N_drewN | apply Kd.N_drew)); exact Kd.N_mono HO232.out (fun _ hk => hk.1)))
                             (case aS => exact (below_size zB))
                             (case aL => have := LMc52.out; omega)
                             intro v238 w64 ho hb hg hat
                             rw [← Ny237.out] at ho
                             replace HO_3 := zM (Kd.N_afterv (ok := (fun k_ => (w.heap.size ≤ k_) ∧ some k_ ≠ (.slice Ao65 t234.length co65 : Value).ownBlock)) (by (with_reducible repeat (first | apply Kd.N_alloc | apply Kd.N_drewN | apply Kd.N_drew)); exact Kd.N_mono HO_3.out (fun _ hk => ⟨⟨hk.1.1, hk.2⟩, hk.1.2⟩)) hg hat)
                             replace HL219_0 := zM (Kd.V_afterv (ok := (fun k_ => (w.heap.size ≤ k_) ∧ some k_ ≠ (.slice (some ad219) x3_1.length co6 : Value).ownBlock ∧ some k_ ≠ (.slice Ao65 t234.length co65 : Value).ownBlock)) (by (with_reducible repeat (first | apply Kd.V_alloc | apply Kd.V_drewN | apply Kd.V_drew)); exact Kd.V_mono HL219_0.out (fun _ hk => ⟨⟨hk.1.1.1, ⟨hk.1.1.2, hk.2⟩⟩, hk.1.2⟩)) hg hat)
                             replace HO229 := zM (Kd.V_afterv (ok := (fun k_ => (w.heap.size ≤ k_) ∧ some k_ ≠ (.slice Ao65 t234.length co65 : Value).ownBlock)) (by (with_reducible repeat (first | apply Kd.V_alloc | apply Kd.V_drewN | apply Kd.V_drew)); exact Kd.V_mono HO229.out (fun _ hk => ⟨⟨hk.1.1, hk.2⟩, hk.1.2⟩)) hg hat)
                             replace HO244 := zM (Kd.V_afterv (ok := (fun k_ => (w.heap.size ≤ k_) ∧ some k_ ≠ (.slice Ao65 t234.length co65 : Value).ownBlock)) (by (with_reducible repeat (first | apply Kd.V_alloc | apply Kd.V_drewN | apply Kd.V_drew)); exact Kd.V_mono HO244.out (fun _ hk => ⟨⟨hk.1.1, hk.2⟩, hk.1.2⟩)) hg hat)
                             replace HB := zM (hb)
                             have HO239 := zM (ho)
                             clear HO232 HO236
                             clear ho hb hg hat
                             refine hK.out _ _ (((HB.out.cell (World.block_lt_of_cell? w _ hw233_0)).trans hw233_0)) (fun hHeld => ?_)
                             clear hK K
                             refine zn 57 ?_
                             refine one_ (i := 15) (N := some 61) #[true, true, true, true, true, true, true, true, true, true, true, true, true, true, true, true, false] rfl rfl (one_of HT_.out (by kernel_rfl)) (by decide) (fun K hK => ?_)
                             refine Kd.N_append_rows_step (Kd.slice 3 (Kd.int .i64)) (w0 := w) w.heap.size (by rfl) (.tmp 57) (.tmp 60) 27 25 (.slice none 0 0) 24 rfl Tryz.underlying27 info25 rfl (by decide) (by omega) v238 y237 y240 _ _ _ (fun k_ => (w.heap.size ≤ k_)) (fun k_ => ((fun k_ => (w.heap.size ≤ k_))) k_ ∧ some k_ ≠ (v238 : Value).ownBlock) rfl rfl ?aO ?aR (fun _ hk => hk) ?aF ?aB ?aS ?aL ?_
                             (case aR => exact (by skip; exact Kd.V_F (Kd.V_mono (ok' := (fun k_ => ((fun k_ => (w.heap.size ≤ k_))) k_ ∧ some k_ ≠ (v238 : Value).ownBlock)) (HO244.out) (fun k_ hk => ⟨hk.1.1, hk.2⟩))))
                             (case aB => exact zB)
                             (case aF => exact (fun k_ hk => (Nat.le_trans (below_size zB) hk)))
                             (case aO => exact (by (with_reducible repeat (first | apply Kd.N_alloc | apply Kd.N_drewN | apply Kd.N_drew)); exact HO239.out))
                             (case aS => exact (below_size zB))
                             (case aL => have := LMc55.out; omega)
                             intro v246 w66 ho hb hg hat
                             rw [← Ny245.out] at ho
                             replace HO_3 := zM (Kd.N_afterv (ok := (fun k_ => (w.heap.size ≤ k_))) (by (with_reducible repeat (first | apply Kd.N_alloc | apply Kd.N_drewN | apply Kd.N_drew)); exact Kd.N_mono HO_3.out (fun _ hk => ⟨hk.1.1, hk.2⟩)) hg hat)
                             replace HL219_0 := zM (Kd.V_afterv (ok := (fun k_ => (w.heap.size ≤ k_) ∧ some k_ ≠ (.slice (some ad219) x3_1.length co6 : Value).ownBlock)) (by (with_reducible repeat (first | apply Kd.V_alloc | apply Kd.V_drewN | apply Kd.V_drew)); exact Kd.V_mono HL219_0.out (fun _ hk => ⟨⟨hk.1.1, hk.1.2.1⟩, hk.2⟩)) hg hat)
                             replace HO229 := zM (Kd.V_afterv (ok := (fun k_ => (w.heap.size ≤ k_))) (by (with_reducible repeat (first | apply Kd.V_alloc | apply Kd.V_drewN | apply Kd.V_drew)); exact Kd.V_mono HO229.out (fun _ hk => ⟨hk.1.1, hk.2⟩)) hg hat)
                             replace HO244 := zM (Kd.V_afterv (ok := (fun k_ => (w.heap.size ≤ k_))) (by (with_reducible repeat (first | apply Kd.V_alloc | apply Kd.V_drewN | apply Kd.V_drew)); exact Kd.V_mono HO244.out (fun _ hk => ⟨hk.1.1, hk.2⟩)) hg hat)
                             replace HB := zM (hb)
                             have HO247 := zM (ho)
                             clear HO239
                             clear ho hb hg hat
                             refine hK.out _ _ (((HB.out.cell (World.block_lt_of_cell? w _ hw233_0)).trans hw233_0)) (fun hHeld => ?_)
                             clear hK K
                             refine zn 61 ?_
                             refine zp HT_ 16 3 ?_
                             refine zo HT_ ?_
                             try go_wp2
                             go_roundg kj4
                             case measure => have := HK1.out; have := HJ4.out; omega
                             case rel => exact ⟨(y245), (wrap64 (x4_1 + 1)), (by first | rfl | (simp; done) | (simp [*]; done)), H', ⟨by have := HK1.out; have := HJ4.out; omega⟩, ⟨by (with_reducible repeat (first | apply Kd.N_alloc | apply Kd.N_drewN | apply Kd.N_drew)); exact HO247.out⟩, ⟨zB⟩⟩
                           · rw [if_neg c55] at H
                             exact absurd H (by simp)
                         · rw [if_neg c52] at H
                           exact absurd H (by simp)
                       · rw [if_neg c50] at H
                         exact absurd H (by simp)
                     · rw [if_neg c49] at H
                       exact absurd H (by simp)
                   · rw [if_neg c48] at H
                     exact absurd H (by simp)
               · rw [if_neg c44] at H
                 exact absurd H (by simp)
             · rw [if_neg c43] at H
               exact absurd H (by simp)
           · rw [if_neg c42] at H
             exact absurd H (by simp)
         · rw [if_neg c41] at H
           exact absurd H (by simp)
   · rw [if_neg c4] at H
     have c4b0 : decide (x4_1 < (l0.length : Int)) = false := decide_eq_false c4
     clear c4
     obtain rfl := Option.some.inj H
     go_wp2
     go_ret
     exact ⟨_, by first | rfl | (simp [errW_none, errW_some] <;> rfl) | (simp [*, errW_none, errW_some] <;> rfl), by (with_reducible repeat (first | apply Kd.N_alloc | apply Kd.N_drewN | apply Kd.N_drew)); exact HO_3.out, zB⟩

end Go.Proofs.YtadjbmcfgjmhkaaGreat.P
