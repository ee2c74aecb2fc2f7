-- Written by a program of this session (the kit's print, turned: wip/print/patch.py) out of the translation. Not trusted: Lean checks it.
import Derived.Test.YthnojbafclglpaaBestOfKindG5
import Derived.Test.YthnojbafclglpaaBestOfKindG7
import Derived.Test.YthnojbafclglpaaBestOfKindG6
namespace Go.Proofs.Ythnojbafclglpaa.P
open Go.RowKit Go.Proofs.YthnojbafclglpaaW.PrintWords Go.Proofs.YthnojbafclglpaaW.PrintLast Go.Proofs.YthnojbafclglpaaW.PrintMore
attribute [local go_sem] max2_int min2_int max_two min_two max_three min_three max_four min_four   -- for this text's walks alone
set_option linter.unusedVariables false
set_option linter.unusedSimpArgs false

/-! ### spec_l2Sorted: function 100 -/
mutual
def spec_l2Sorted.l0 : Nat → List (List Int) → List (List Int) → Int → Option ((List (List Int)))
 | 0, _, _, _ => none
 | k + 1, x0, x3, x4 => if x4 < (x0.length : Int) then (spec_l2Sorted.l1 k x0 x3 x4 (x3.length : Int)) else (some x3)
def spec_l2Sorted.j2 : Nat → List (List Int) → List (List Int) → Int → Int → Option ((List (List Int)))
 | 0, _, _, _, _ => none
 | k + 1, x0, x3, x4, x5 => if x5 = 0 then ((some (([] : List (List Int)) : List (List Int))).bind fun y402 => (if 0 ≤ x5 then (if x5 ≤ (x3.length : Int) then ((some (x3.take (x5 : Int).toNat : List (List Int))).bind fun y405 => (if y402.length + y405.length < 5864062014805 then ((some (y402 ++ y405 : List (List Int))).bind fun y410 => (if 0 ≤ x4 then (if x4 < (x0.length : Int) then ((spec_l1Own.f (rd_L4 x0 x4)).bind fun t414 => (if y410.length < 5864062014805 then ((some (y410 ++ [t414] : List (List Int))).bind fun y417 => ((some (x3.drop (x5 : Int).toNat : List (List Int))).bind fun y420 => (if y417.length + y420.length < 5864062014805 then (spec_l2Sorted.l0 k x0 (y417 ++ y420) (wrap64 (x4 + 1))) else (none)))) else (none))) else (none)) else (none))) else (none))) else (none)) else (none))) else (if 0 ≤ (wrap64 (x5 - 1)) then (if (wrap64 (x5 - 1)) < (x3.length : Int) then (if 0 ≤ x4 then (if x4 < (x0.length : Int) then ((spec_l1Same.f k (rd_L4 x3 (wrap64 (x5 - 1))) (rd_L4 x0 x4)).bind fun t430 => (if t430 = true then (spec_l2Sorted.l0 k x0 x3 (wrap64 (x4 + 1))) else ((some (([] : List (List Int)) : List (List Int))).bind fun y431 => (if 0 ≤ x5 then (if x5 ≤ (x3.length : Int) then ((some (x3.take (x5 : Int).toNat : List (List Int))).bind fun y434 => (if y431.length + y434.length < 5864062014805 then ((some (y431 ++ y434 : List (List Int))).bind fun y439 => ((spec_l1Own.f (rd_L4 x0 x4)).bind fun t443 => (if y439.length < 5864062014805 then ((some (y439 ++ [t443] : List (List Int))).bind fun y446 => ((some (x3.drop (x5 : Int).toNat : List (List Int))).bind fun y449 => (if y446.length + y449.length < 5864062014805 then (spec_l2Sorted.l0 k x0 (y446 ++ y449) (wrap64 (x4 + 1))) else (none)))) else (none)))) else (none))) else (none)) else (none))))) else (none)) else (none)) else (none)) else (none))
def spec_l2Sorted.l1 : Nat → List (List Int) → List (List Int) → Int → Int → Option ((List (List Int)))
 | 0, _, _, _, _ => none
 | k + 1, x0, x3, x4, x5 => if x5 > 0 then (if 0 ≤ x4 then (if x4 < (x0.length : Int) then (if 0 ≤ (wrap64 (x5 - 1)) then (if (wrap64 (x5 - 1)) < (x3.length : Int) then ((spec_l2Before.f k (rd_L4 x0 x4) (rd_L4 x3 (wrap64 (x5 - 1)))).bind fun t401 => (if t401 = true then (spec_l2Sorted.l1 k x0 x3 x4 (wrap64 (x5 - 1))) else (spec_l2Sorted.j2 k x0 x3 x4 x5))) else (none)) else (none)) else (none)) else (none)) else (spec_l2Sorted.j2 k x0 x3 x4 x5)
end
def spec_l2Sorted.f (k : Nat) (l0 : List (List Int)) : Option ((List (List Int))) := spec_l2Sorted.l0 k l0 (([] : List (List Int))) 0
def spec_l2Sorted.T6 : Bool × List (List Nat × List Nat) := (true, [([], []), ([0], [0]), ([1], [1]), ([2], [2]), ([2], [2]), ([3, 4, 2], [2, 3, 4]), ([5, 2], [2, 5]), ([2], [2]), ([2], [2]), ([8, 2], [2, 8]), ([7, 9, 2], [2, 7, 9]), ([10, 2], [2, 10]), ([6, 11, 2, 2], [2, 6, 11]), ([2, 12], [2, 12])])
def spec_l2Sorted.B6 : List Nat := [0, 1, 3, 7, 7, 31, 63, 7, 7, 263, 903, 1927, 4095, 8191]
theorem spec_l2Sorted.tab6 : rtab .any (opsOf Try.f100 6) = spec_l2Sorted.T6 := by kernel_rfl
theorem spec_l2Sorted.bits6 : waitsOk spec_l2Sorted.T6.2 spec_l2Sorted.B6 = true := by kernel_rfl
def spec_l2Sorted.T8 : Bool × List (List Nat × List Nat) := (true, [([], []), ([0], [0]), ([1], [1]), ([2], [2]), ([2], [2]), ([4, 2], [2, 4]), ([3, 5, 2], [2, 3, 5]), ([6, 2], [2, 6]), ([2], [2]), ([2], [2]), ([8, 9, 2], [2, 8, 9]), ([10, 2], [2, 10]), ([7, 11, 2, 2], [2, 7, 11]), ([12, 2], [2, 12]), ([2, 13], [2, 13])])
def spec_l2Sorted.B8 : List Nat := [0, 1, 3, 7, 7, 23, 63, 127, 7, 7, 775, 1799, 4095, 8191, 16383]
theorem spec_l2Sorted.tab8 : rtab .any (opsOf Try.f100 8) = spec_l2Sorted.T8 := by kernel_rfl
theorem spec_l2Sorted.bits8 : waitsOk spec_l2Sorted.T8.2 spec_l2Sorted.B8 = true := by kernel_rfl
def spec_l2Sorted.T9 : Bool × List (List Nat × List Nat) := (true, [([], []), ([], []), ([], []), ([1, 2], [1, 2]), ([0, 3], [0, 3]), ([], []), ([], []), ([5, 6], [5, 6]), ([7], [7]), ([8, 4], [8]), ([9], [9]), ([4, 10, 9], [4, 10]), ([], []), ([], []), ([12, 13], [12, 13]), ([11, 14, 11], [11, 14]), ([15, 15, 0, 1, 2, 3, 4, 5, 6, 7, 8, 9, 10, 11, 12, 13, 14, 15], [1, 12, 15])])
def spec_l2Sorted.B9 : List Nat := [0, 0, 0, 6, 15, 0, 0, 96, 224, 511, 1023, 2047, 0, 0, 12288, 32767, 65535]
theorem spec_l2Sorted.tab9 : rtab .any (opsOf Try.f100 9) = spec_l2Sorted.T9 := by kernel_rfl
theorem spec_l2Sorted.bits9 : waitsOk spec_l2Sorted.T9.2 spec_l2Sorted.B9 = true := by kernel_rfl
set_option maxHeartbeats 8000000 in
set_option maxRecDepth 100000 in
theorem spec_l2Sorted.calls (k : Nat) (A0 : Option Addr) (c0 : Nat) (l0 : List (List Int)) (r : List (List Int)) (w : World) (hr0 : Kd.C (Kd.slice 3 (Kd.int .i64)) w A0 l0.length l0) (hc0 : l0.length ≤ c0) (h : spec_l2Sorted.f k l0 = some r) :
 Calls Try.prog 100 #[.slice A0 l0.length c0] w fun e w' => ∃ v0_ : Value, e = .returned (v0_) ∧ Kd.N (Kd.slice 3 (Kd.int .i64)) 26 w' w.heap.size (fun k_ => (w.heap.size ≤ k_)) v0_ r ∧ Below w.heap.size w w' := by
 have HR0 := Aside0.mk hr0
 have HC0 := Aside0.mk hc0
 clear hr0 hc0
 have HB := zM (Below.refl w.heap.size w)
 have H : (spec_l2Sorted.l0 k l0 (([] : List (List Int))) 0) = some r := h
 clear h
 obtain ⟨y396, hy396⟩ : ∃ y_ : List (List Int), y_ = (([] : List (List Int))) := ⟨_, rfl⟩
 replace H : (spec_l2Sorted.l0 k l0 y396 0) = some r := by first | (rw [hy396]; with_reducible exact H) | (have H2_ := (Option.bind_some _ _).symm.trans H; rw [hy396]; with_reducible exact H2_) | (have H2_ := (Option.bind_some _ _).symm.trans H; with_reducible exact H2_) | with_reducible exact H | (rw [hy396]; exact H) | exact H
 have Ny396 := Aside0.mk hy396
 clear hy396
 have H' := Aside0.mk H
 clear H
 go_enter Try.func100, Try.ntmps100
 go_wp2_with (first | ((with_reducible refine gate_dst (N := 6) rfl ?_); refine Kd.N_lit (Kd.slice 3 (Kd.int .i64)) _ 26 ?hg (N' := 6) ?hd (xs := ([] : List (List Int))) (inner := []) (ok := (fun k_ => (w.heap.size ≤ k_))) (okp := (fun k_ => (w.heap.size ≤ k_))) ?hr ?hp (fun _ hk => hk) ((show ∀ k_, w.heap.size ≤ k_ → (fun k_ => (w.heap.size ≤ k_)) k_ from fun k_ hk => (Nat.le_trans (below_size zB) hk)) _ (Nat.le_refl _)) (Below.refl _ _) (Nat.le_refl _) (by simp) ?_; (case hd => rfl); (case hg => rfl); (case hr => first | (go_simp; done) | (go_simp; rfl)); (case hp => exact (Reps.none _ _)); intro v397 w2 ho3 hb hg_ hnew_; clear hg_ hnew_; (first | rw [← Ny396.out] at ho3 | (simp only [Int.reduceToNat] at ho3; rw [← Ny396.out] at ho3)); have HO398 := zM (Kd.N_lower ho3 (below_size zB)); replace HB := zM (below_step zB hb); clear hb ho3))
 go_loopg [3, 4] k (fun kq v3 v4 w' => ∃ (x3_1 : List (List Int)) (x4_1 : Int), v4 = .int .i64 x4_1 ∧ Aside0 (spec_l2Sorted.l0 kq l0 x3_1 x4_1 = some r) ∧ Aside0 (kq ≤ k) ∧ Aside0 (Kd.N (Kd.slice 3 (Kd.int .i64)) 26 w' w.heap.size (fun k_ => (w.heap.size ≤ k_)) v3 x3_1) ∧ Aside0 (Below w.heap.size w w'))
 case atStart => exact ⟨(y396), (0), (by first | rfl | (simp; done) | (simp [*]; done)), H', ⟨Nat.le_refl _⟩, ⟨by (with_reducible repeat (first | apply Kd.N_alloc | apply Kd.N_drewN | apply Kd.N_drew)); exact HO398.out⟩, ⟨zB⟩⟩
 case round =>
  clear H'
  try clear c1
  try clear p2
  obtain ⟨x3_1, x4_1, rfl, HA, HK1, HO_3, HB⟩ := hrel
  cases gk with
  | zero => exact absurd HA.out (by simp [spec_l2Sorted.l0])
  | succ k1 =>
   have H := HA.out
   clear HA
   simp only [spec_l2Sorted.l0] at H
   by_cases c4 : x4_1 < (l0.length : Int)
   · rw [if_pos c4] at H
     have c4b0 := decide_eq_true c4
     clear c4
     have HC5 := Aside0.mk H
     clear H
     obtain ⟨Ao6, co6, eo6⟩ := Kd.N_slice HO_3.out
     subst eo6
     go_upto_block 2 with (fail)
     go_cut [5] (fun v5 wc => ∃ (kq : Nat) (x5_4 : Int), v5 = .int .i64 x5_4 ∧ Aside0 (spec_l2Sorted.j2 kq l0 x3_1 x4_1 x5_4 = some r) ∧ Aside0 (kq ≤ k1) ∧ Aside0 (Kd.N (Kd.slice 3 (Kd.int .i64)) 26 wc w.heap.size (fun k_ => (w.heap.size ≤ k_)) (.slice Ao6 x3_1.length co6) x3_1) ∧ Aside0 (Below w.heap.size w wc))
     case first =>
      have H := HC5.out
      clear HC5
      have H' := Aside0.mk H
      clear H
      go_wp2
      go_loopg [5] k1 (fun kq v5 w' => ∃ (x5_2 : Int), v5 = .int .i64 x5_2 ∧ Aside0 (spec_l2Sorted.l1 kq l0 x3_1 x4_1 x5_2 = some r) ∧ Aside0 (kq ≤ k1) ∧ Aside0 (Kd.N (Kd.slice 3 (Kd.int .i64)) 26 w' w.heap.size (fun k_ => (w.heap.size ≤ k_)) (.slice Ao6 x3_1.length co6) x3_1) ∧ Aside0 (Below w.heap.size w w'))
      case atStart => exact ⟨((x3_1.length : Int)), (by first | rfl | (simp; done) | (simp [*]; done)), H', ⟨Nat.le_refl _⟩, ⟨by (with_reducible repeat (first | apply Kd.N_alloc | apply Kd.N_drewN | apply Kd.N_drew)); exact HO_3.out⟩, ⟨zB⟩⟩
      case round =>
       clear H'
       try clear c1
       try clear p2
       try clear c4
       try clear c4b0
       try clear p2
       obtain ⟨x5_2, rfl, HA, HK2, HO_3, HB⟩ := hrel
       cases gk with
       | zero => exact absurd HA.out (by simp [spec_l2Sorted.l1])
       | succ k2 =>
        have H := HA.out
        clear HA
        simp only [spec_l2Sorted.l1] at H
        by_cases c7 : x5_2 > 0
        · rw [if_pos c7] at H
          have c7b0 : decide (0 < x5_2) = true := decide_eq_true c7
          clear c7
          (first | rw [c7b0] | (simp only [i64_w, i32_w]; rw [c7b0]) | skip)
          by_cases c8 : 0 ≤ x4_1
          · rw [if_pos c8] at H
            have c8b0 := decide_eq_true c8
            clear c8
            by_cases c9 : x4_1 < (l0.length : Int)
            · rw [if_pos c9] at H
              have c9b0 := decide_eq_true c9
              clear c9
              obtain ⟨ji10, hji10⟩ : ∃ j_ : Int, (wrap64 (x5_2 - 1)) = j_ := ⟨_, rfl⟩
              replace H : (if 0 ≤ (ji10) then (if (ji10) < (x3_1.length : Int) then ((spec_l2Before.f k2 (rd_L4 l0 x4_1) (rd_L4 x3_1 (ji10))).bind fun t401 => (if t401 = true then (spec_l2Sorted.l1 k2 l0 x3_1 x4_1 ji10) else (spec_l2Sorted.j2 k2 l0 x3_1 x4_1 x5_2))) else (none)) else (none)) = some r := by first | (rw [hji10] at H; exact H) | (simp only [hji10] at H ⊢; exact H)
              have hji10w : (IntKind.i64.wrap (x5_2 - 1)) = ji10 := (i64_w _).trans hji10
              by_cases c11 : 0 ≤ (ji10)
              · rw [if_pos c11] at H
                have c11b0 := decide_eq_true c11
                clear c11
                by_cases c12 : (ji10) < (x3_1.length : Int)
                · rw [if_pos c12] at H
                  have c12b0 := decide_eq_true c12
                  clear c12
                  replace H := Option.bind_eq_some_iff.mp H
                  obtain ⟨t401, A130, H⟩ := H
                  have A13 := Aside0.mk A130
                  clear A130
                  by_cases c14 : t401 = true
                  · subst c14
                    rw [if_pos rfl] at H
                    have H' := Aside0.mk H
                    clear H
                    try go_wp2
                    replace HO_3 := zM (Kd.N_drew HO_3.out)
                    replace HB := zM (below_drew1 HB.out)
                    have p399 : 0 ≤ (x4_1 : Int) := of_decide_eq_true zA
                    have q399 : x4_1 < (l0.length : Int) := of_decide_eq_true zA
                    obtain ⟨ad399, A399_0, c399_0, e399, hx399_0, hl399_0, hi399_0⟩ := at_L4 HR0.out x4_1 p399 q399
                    have hw399_0 := hx399_0
                    cases e399
                    (try replace hx399_0 := (HB.out.cell (World.block_lt_of_cell? w _ hx399_0)).trans hx399_0)
                    have HR399_0 := Aside0.mk hi399_0
                    have HC399_0 := Aside0.mk hl399_0
                    clear hi399_0 hl399_0
                    replace p399 := eq_true p399
                    replace q399 := eq_true q399
                    have p400 : 0 ≤ ((ji10) : Int) := of_decide_eq_true zA
                    have q400 : (ji10) < (x3_1.length : Int) := of_decide_eq_true zA
                    obtain ⟨ad400, A400_0, c400_0, e400, hx400_0, hl400_0, hi400_0⟩ := at_L4 (Kd.N_reads' HO_3.out).2.2 (ji10) p400 q400
                    cases e400
                    obtain ⟨ce400, hce400, hMe400, hcc400⟩ := Kd.N_get HO_3.out [] (ji10) p400 (by first | exact q400 | exact of_decide_eq_true zA | (have e_ := (Kd.N_reads' HO_3.out).1; omega))
                    obtain ⟨ua400_0, uc400_0, rfl, ul400_0, ge400_0⟩ := Kd.FK_slice_open hMe400
                    have hv400_0 := hcc400 0 _ rfl
                    rw [Nat.add_zero, show ((Kd.slice 3 (Kd.int .i64))).sz = 1 from rfl, Nat.mul_one] at hv400_0
                    replace hv400_0 := Option.some.inj (hv400_0.symm.trans hx400_0)
                    injection hv400_0 with hva_ hvn_ hvc_
                    rw [hva_] at ge400_0
                    rw [hvc_] at ul400_0
                    have HL400_0 := zM (show Kd.V (Kd.int .i64) 3 _ w.heap.size _ _ (rd_L4 x3_1 (ji10)) from Kd.V_mk ul400_0 ge400_0)
                    clear hva_ hvn_ hvc_ ge400_0 ul400_0
                    clear hcc400 hce400
                    have HR400_0 := Aside0.mk hi400_0
                    have HC400_0 := Aside0.mk hl400_0
                    clear hi400_0 hl400_0
                    replace p400 := eq_true p400
                    replace q400 := eq_true q400
                    refine zs (n := 14) (fun w' => w'.cell? (ad399.add (x4_1).toNat) = some (.slice A399_0 (rd_L4 l0 x4_1).length c399_0) ∧ w'.cell? (ad400.add ((ji10)).toNat) = some (.slice A400_0 (rd_L4 x3_1 (ji10)).length c400_0)) ⟨((HB.out.cell (World.block_lt_of_cell? w _ hw399_0)).trans hw399_0), hx400_0⟩ (fun hHeld => ?_); refine with_tabW spec_l2Sorted.tab6 spec_l2Sorted.bits6 (fun HT_ HW_ => ?_)
                    generalize wr.drew = w15 at HO_3 HB HL400_0 HR399_0 HR400_0 hx399_0 hx400_0 hHeld ⊢
                    refine zp HT_ 0 15 ?_
                    refine zp HT_ 1 16 ?_
                    refine zp HT_ 2 17 ?_
                    refine zp HT_ 3 18 ?_
                    refine zp HT_ 4 19 ?_
                    refine zp HT_ 5 20 ?_
                    refine zp HT_ 7 22 ?_
                    refine zp HT_ 8 23 ?_
                    refine zp HT_ 9 24 ?_
                    refine zp HT_ 10 25 ?_
                    refine zt HT_ HW_ 6 21 hHeld ?_ (hy := by rintro w' ⟨s0, s1⟩; go_simp; with_reducible rfl)
                    refine zt HT_ HW_ 11 26 hHeld ?_ (hy := by rintro w' ⟨s0, s1⟩; go_simp; with_reducible rfl)
                    refine one_ (i := 12) (N := some 27) #[true, true, true, true, true, true, true, true, true, true, true, true, true, false] rfl rfl (one_of HT_.out (by kernel_rfl)) (by decide) (fun K hK => ?_)
                    refine goes_ Try.func134 (by kernel_rfl) rfl #[.slice A399_0 (rd_L4 l0 x4_1).length c399_0, .slice A400_0 (rd_L4 x3_1 (ji10)).length c400_0] (by rfl) rfl rfl (by (try simp only [List.map_toArray, List.map_cons, List.map_nil]); first | done | (simp only [hji10]; rfl) | rfl | (simp only [List.length_drop, List.length_take]; rfl)) ?_
                    with_reducible refine (spec_l2Before.calls k2 _ _ (rd_L4 l0 x4_1) _ _ (rd_L4 x3_1 (ji10)) true _ ?side1 ?side2 ?side3 ?side4 A13.out).mono ?_
                    (case side1 => exact zC (Kd.C_below HR399_0.out HB.out))
                    (case side2 => exact HC399_0.out)
                    (case side3 => repeat (first | exact (by repeat (first | (with_reducible exact HR400_0.out) | (with_reducible refine Kd.C_alloc ?_ _) | (with_reducible refine Kd.C_drewN ?_ _) | (with_reducible refine Kd.C_drew ?_) | exact HR400_0.out)) | (with_reducible refine Kd.C_alloc ?_ _) | (with_reducible refine Kd.C_drewN ?_ _) | (with_reducible refine Kd.C_drew ?_)))
                    (case side4 => exact HC400_0.out)
                    rintro e w' ⟨rfl, ⟨nd, rfl⟩⟩
                    refine ⟨_, rfl, ?_⟩
                    refine hK.out _ _ ⟨((HB.out.cell (World.block_lt_of_cell? w _ hw399_0)).trans hw399_0), hHeld.2⟩ (fun hHeld => ?_)
                    clear hK K
                    refine zn 27 ?_
                    refine zp HT_ 13 28 ?_
                    refine zo HT_ ?_
                    try go_wp2
                    go_roundg k2
                    case measure => have := HK1.out; have := HK2.out; omega
                    case rel => exact ⟨(ji10), (by first | rfl | (simp; done) | (simp only [← hji10] <;> (first | rfl | simp)) | (simp [*]; done)), H', ⟨by have := HK1.out; have := HK2.out; omega⟩, ⟨by (with_reducible repeat (first | apply Kd.N_alloc | apply Kd.N_drewN | apply Kd.N_drew)); exact HO_3.out⟩, ⟨zB⟩⟩
                  · replace c14 := Bool.eq_false_iff.mpr c14
                    subst c14
                    have H1 : (spec_l2Sorted.j2 k2 l0 x3_1 x4_1 x5_2) = some r := by rw [if_neg (show ¬ (false = true) by decide)] at H; exact H
                    clear H
                    have H := H1
                    clear H1
                    have H' := Aside0.mk H
                    clear H
                    try go_wp2
                    replace HO_3 := zM (Kd.N_drew HO_3.out)
                    replace HB := zM (below_drew1 HB.out)
                    have p399 : 0 ≤ (x4_1 : Int) := of_decide_eq_true zA
                    have q399 : x4_1 < (l0.length : Int) := of_decide_eq_true zA
                    obtain ⟨ad399, A399_0, c399_0, e399, hx399_0, hl399_0, hi399_0⟩ := at_L4 HR0.out x4_1 p399 q399
                    have hw399_0 := hx399_0
                    cases e399
                    (try replace hx399_0 := (HB.out.cell (World.block_lt_of_cell? w _ hx399_0)).trans hx399_0)
                    have HR399_0 := Aside0.mk hi399_0
                    have HC399_0 := Aside0.mk hl399_0
                    clear hi399_0 hl399_0
                    replace p399 := eq_true p399
                    replace q399 := eq_true q399
                    have p400 : 0 ≤ ((ji10) : Int) := of_decide_eq_true zA
                    have q400 : (ji10) < (x3_1.length : Int) := of_decide_eq_true zA
                    obtain ⟨ad400, A400_0, c400_0, e400, hx400_0, hl400_0, hi400_0⟩ := at_L4 (Kd.N_reads' HO_3.out).2.2 (ji10) p400 q400
                    cases e400
                    obtain ⟨ce400, hce400, hMe400, hcc400⟩ := Kd.N_get HO_3.out [] (ji10) p400 (by first | exact q400 | exact of_decide_eq_true zA | (have e_ := (Kd.N_reads' HO_3.out).1; omega))
                    obtain ⟨ua400_0, uc400_0, rfl, ul400_0, ge400_0⟩ := Kd.FK_slice_open hMe400
                    have hv400_0 := hcc400 0 _ rfl
                    rw [Nat.add_zero, show ((Kd.slice 3 (Kd.int .i64))).sz = 1 from rfl, Nat.mul_one] at hv400_0
                    replace hv400_0 := Option.some.inj (hv400_0.symm.trans hx400_0)
                    injection hv400_0 with hva_ hvn_ hvc_
                    rw [hva_] at ge400_0
                    rw [hvc_] at ul400_0
                    have HL400_0 := zM (show Kd.V (Kd.int .i64) 3 _ w.heap.size _ _ (rd_L4 x3_1 (ji10)) from Kd.V_mk ul400_0 ge400_0)
                    clear hva_ hvn_ hvc_ ge400_0 ul400_0
                    clear hcc400 hce400
                    have HR400_0 := Aside0.mk hi400_0
                    have HC400_0 := Aside0.mk hl400_0
                    clear hi400_0 hl400_0
                    replace p400 := eq_true p400
                    replace q400 := eq_true q400
                    refine zs (n := 14) (fun w' => w'.cell? (ad399.add (x4_1).toNat) = some (.slice A399_0 (rd_L4 l0 x4_1).length c399_0) ∧ w'.cell? (ad400.add ((ji10)).toNat) = some (.slice A400_0 (rd_L4 x3_1 (ji10)).length c400_0)) ⟨((HB.out.cell (World.block_lt_of_cell? w _ hw399_0)).trans hw399_0), hx400_0⟩ (fun hHeld => ?_); refine with_tabW spec_l2Sorted.tab6 spec_l2Sorted.bits6 (fun HT_ HW_ => ?_)
                    generalize wr.drew = w16 at HO_3 HB HL400_0 HR399_0 HR400_0 hx399_0 hx400_0 hHeld ⊢
                    refine zp HT_ 0 15 ?_
                    refine zp HT_ 1 16 ?_
                    refine zp HT_ 2 17 ?_
                    refine zp HT_ 3 18 ?_
                    refine zp HT_ 4 19 ?_
                    refine zp HT_ 5 20 ?_
                    refine zp HT_ 7 22 ?_
                    refine zp HT_ 8 23 ?_
                    refine zp HT_ 9 24 ?_
                    refine zp HT_ 10 25 ?_
                    refine zt HT_ HW_ 6 21 hHeld ?_ (hy := by rintro w' ⟨s0, s1⟩; go_simp; with_reducible rfl)
                    refine zt HT_ HW_ 11 26 hHeld ?_ (hy := by rintro w' ⟨s0, s1⟩; go_simp; with_reducible rfl)
                    refine one_ (i := 12) (N := some 27) #[true, true, true, true, true, true, true, true, true, true, true, true, true, false] rfl rfl (one_of HT_.out (by kernel_rfl)) (by decide) (fun K hK => ?_)
                    refine goes_ Try.func134 (by kernel_rfl) rfl #[.slice A399_0 (rd_L4 l0 x4_1).length c399_0, .slice A400_0 (rd_L4 x3_1 (ji10)).length c400_0] (by rfl) rfl rfl (by (try simp only [List.map_toArray, List.map_cons, List.map_nil]); first | done | (simp only [hji10]; rfl) | rfl | (simp only [List.length_drop, List.length_take]; rfl)) ?_
                    with_reducible refine (spec_l2Before.calls k2 _ _ (rd_L4 l0 x4_1) _ _ (rd_L4 x3_1 (ji10)) false _ ?side1 ?side2 ?side3 ?side4 A13.out).mono ?_
                    (case side1 => exact zC (Kd.C_below HR399_0.out HB.out))
                    (case side2 => exact HC399_0.out)
                    (case side3 => repeat (first | exact (by repeat (first | (with_reducible exact HR400_0.out) | (with_reducible refine Kd.C_alloc ?_ _) | (with_reducible refine Kd.C_drewN ?_ _) | (with_reducible refine Kd.C_drew ?_) | exact HR400_0.out)) | (with_reducible refine Kd.C_alloc ?_ _) | (with_reducible refine Kd.C_drewN ?_ _) | (with_reducible refine Kd.C_drew ?_)))
                    (case side4 => exact HC400_0.out)
                    rintro e w' ⟨rfl, ⟨nd, rfl⟩⟩
                    refine ⟨_, rfl, ?_⟩
                    refine hK.out _ _ ⟨((HB.out.cell (World.block_lt_of_cell? w _ hw399_0)).trans hw399_0), hHeld.2⟩ (fun hHeld => ?_)
                    clear hK K
                    refine zn 27 ?_
                    refine zp HT_ 13 28 ?_
                    refine zo HT_ ?_
                    try go_wp2
                    go_meet
                    case rel => exact ⟨_, (x5_2), (by first | rfl | (simp; done) | (simp [*]; done)), H', ⟨by have := HK1.out; have := HK2.out; first | omega | exact Nat.le_refl _⟩, ⟨by (with_reducible repeat (first | apply Kd.N_alloc | apply Kd.N_drewN | apply Kd.N_drew)); exact HO_3.out⟩, ⟨zB⟩⟩
                · rw [if_neg c12] at H
                  exact absurd H (by simp)
              · rw [if_neg c11] at H
                exact absurd H (by simp)
            · rw [if_neg c9] at H
              exact absurd H (by simp)
          · rw [if_neg c8] at H
            exact absurd H (by simp)
        · rw [if_neg c7] at H
          have c7b0 : decide (0 < x5_2) = false := decide_eq_false c7
          clear c7
          (first | rw [c7b0] | (simp only [i64_w, i32_w]; rw [c7b0]) | skip)
          have H' := Aside0.mk H
          clear H
          try go_wp2
          replace HO_3 := zM (Kd.N_drew HO_3.out)
          replace HB := zM (below_drew1 HB.out)
          refine zs (n := 14) (fun w' => True) trivial (fun hHeld => ?_); refine with_tabW spec_l2Sorted.tab6 spec_l2Sorted.bits6 (fun HT_ HW_ => ?_)
          generalize wr.drew = w17 at HO_3 HB hHeld ⊢
          refine zp HT_ 0 15 ?_
          refine zp HT_ 1 16 ?_
          refine zp HT_ 2 17 ?_
          refine zu HT_ 3 18 ?_
          refine zu HT_ 4 19 ?_
          refine zu HT_ 5 20 ?_
          refine zu HT_ 6 21 ?_
          refine zu HT_ 7 22 ?_
          refine zu HT_ 8 23 ?_
          refine zu HT_ 9 24 ?_
          refine zu HT_ 10 25 ?_
          refine zu HT_ 11 26 ?_
          refine zu HT_ 12 27 ?_
          refine zp HT_ 13 28 ?_
          refine zo HT_ ?_
          try go_wp2
          go_meet
          case rel => exact ⟨_, (x5_2), (by first | rfl | (simp; done) | (simp [*]; done)), H', ⟨by have := HK1.out; have := HK2.out; first | omega | exact Nat.le_refl _⟩, ⟨by (with_reducible repeat (first | apply Kd.N_alloc | apply Kd.N_drewN | apply Kd.N_drew)); exact HO_3.out⟩, ⟨zB⟩⟩
     case rest =>
      clear HC5
      try clear c1
      try clear p2
      try clear c3
      try clear p3
      try clear q3
      try clear hx3
      try clear c4
      try clear c4b0
      try clear p4
      try clear q4
      try clear hx4
      try clear p6
      try clear c7
      try clear c7b0
      try clear c8
      try clear c8b0
      try clear c9
      try clear c9b0
      try clear c10
      try clear c11
      try clear c11b0
      try clear c12
      try clear c12b0
      try clear c13
      try clear c14
      try clear hx399_0
      try clear hx400_0
      try clear p2
      try clear p399
      try clear p400
      try clear q399
      try clear q400
      obtain ⟨kq, x5_4, rfl, HA, HJ4, HO_3, HB⟩ := hcut
      cases kq with
      | zero => exact absurd HA.out (by simp [spec_l2Sorted.j2])
      | succ kj4 =>
       have H := HA.out
       clear HA
       simp only [spec_l2Sorted.j2] at H
       by_cases c18 : x5_4 = 0
       · rw [if_pos c18] at H
         have c18b0 : (x5_4 == 0) = true := beq_iff_eq.mpr c18
         have c18b1 : (x5_4 != 0) = false := bne_eq_false_iff_eq.mpr c18
         clear c18
         obtain ⟨y402, hy402⟩ : ∃ y_ : List (List Int), y_ = (([] : List (List Int))) := ⟨_, rfl⟩
         replace H : (if 0 ≤ x5_4 then (if x5_4 ≤ (x3_1.length : Int) then ((some (x3_1.take (x5_4 : Int).toNat : List (List Int))).bind fun y405 => (if y402.length + y405.length < 5864062014805 then ((some (y402 ++ y405 : List (List Int))).bind fun y410 => (if 0 ≤ x4_1 then (if x4_1 < (l0.length : Int) then ((spec_l1Own.f (rd_L4 l0 x4_1)).bind fun t414 => (if y410.length < 5864062014805 then ((some (y410 ++ [t414] : List (List Int))).bind fun y417 => ((some (x3_1.drop (x5_4 : Int).toNat : List (List Int))).bind fun y420 => (if y417.length + y420.length < 5864062014805 then (spec_l2Sorted.l0 kj4 l0 (y417 ++ y420) (wrap64 (x4_1 + 1))) else (none)))) else (none))) else (none)) else (none))) else (none))) else (none)) else (none)) = some r := by first | (rw [hy402]; with_reducible exact H) | (have H2_ := (Option.bind_some _ _).symm.trans H; rw [hy402]; with_reducible exact H2_) | (have H2_ := (Option.bind_some _ _).symm.trans H; with_reducible exact H2_) | with_reducible exact H | (rw [hy402]; exact H) | exact H
         have Ny402 := Aside0.mk hy402
         clear hy402
         by_cases c19 : 0 ≤ x5_4
         · rw [if_pos c19] at H
           have c19b0 := eq_true c19
           have c19b1 : decide (0 ≤ x5_4) = true := decide_eq_true c19
           clear c19
           by_cases c20 : x5_4 ≤ (x3_1.length : Int)
           · rw [if_pos c20] at H
             have c20b0 := eq_true c20
             have c20b1 : decide (x5_4 ≤ (x3_1.length : Int)) = true := decide_eq_true c20
             clear c20
             obtain ⟨y405, hy405⟩ : ∃ y_ : List (List Int), y_ = (x3_1.take (x5_4 : Int).toNat) := ⟨_, rfl⟩
             replace H : (if y402.length + y405.length < 5864062014805 then ((some (y402 ++ y405 : List (List Int))).bind fun y410 => (if 0 ≤ x4_1 then (if x4_1 < (l0.length : Int) then ((spec_l1Own.f (rd_L4 l0 x4_1)).bind fun t414 => (if y410.length < 5864062014805 then ((some (y410 ++ [t414] : List (List Int))).bind fun y417 => ((some (x3_1.drop (x5_4 : Int).toNat : List (List Int))).bind fun y420 => (if y417.length + y420.length < 5864062014805 then (spec_l2Sorted.l0 kj4 l0 (y417 ++ y420) (wrap64 (x4_1 + 1))) else (none)))) else (none))) else (none)) else (none))) else (none)) = some r := by first | (rw [hy405]; with_reducible exact H) | (have H2_ := (Option.bind_some _ _).symm.trans H; rw [hy405]; with_reducible exact H2_) | (have H2_ := (Option.bind_some _ _).symm.trans H; with_reducible exact H2_) | with_reducible exact H | (rw [hy405]; exact H) | exact H
             have Ny405 := Aside0.mk hy405
             clear hy405
             by_cases c21 : y402.length + y405.length < 5864062014805
             · rw [if_pos c21] at H
               have LMc21 := Aside0.mk c21
               clear c21
               obtain ⟨y410, hy410⟩ : ∃ y_ : List (List Int), y_ = (y402 ++ y405) := ⟨_, rfl⟩
               replace H : (if 0 ≤ x4_1 then (if x4_1 < (l0.length : Int) then ((spec_l1Own.f (rd_L4 l0 x4_1)).bind fun t414 => (if y410.length < 5864062014805 then ((some (y410 ++ [t414] : List (List Int))).bind fun y417 => ((some (x3_1.drop (x5_4 : Int).toNat : List (List Int))).bind fun y420 => (if y417.length + y420.length < 5864062014805 then (spec_l2Sorted.l0 kj4 l0 (y417 ++ y420) (wrap64 (x4_1 + 1))) else (none)))) else (none))) else (none)) else (none)) = some r := by first | (rw [hy410]; with_reducible exact H) | (have H2_ := (Option.bind_some _ _).symm.trans H; rw [hy410]; with_reducible exact H2_) | (have H2_ := (Option.bind_some _ _).symm.trans H; with_reducible exact H2_) | with_reducible exact H | (rw [hy410]; exact H) | exact H
               have Ny410 := Aside0.mk hy410
               clear hy410
               by_cases c22 : 0 ≤ x4_1
               · rw [if_pos c22] at H
                 have c22b0 := decide_eq_true c22
                 clear c22
                 by_cases c23 : x4_1 < (l0.length : Int)
                 · rw [if_pos c23] at H
                   have c23b0 := decide_eq_true c23
                   clear c23
                   replace H := Option.bind_eq_some_iff.mp H
                   obtain ⟨t414, A240, H⟩ := H
                   have A24 := Aside0.mk A240
                   clear A240
                   by_cases c25 : y410.length < 5864062014805
                   · rw [if_pos c25] at H
                     have LMc25 := Aside0.mk c25
                     clear c25
                     obtain ⟨y417, hy417⟩ : ∃ y_ : List (List Int), y_ = (y410 ++ [t414]) := ⟨_, rfl⟩
                     replace H : ((some (x3_1.drop (x5_4 : Int).toNat : List (List Int))).bind fun y420 => (if y417.length + y420.length < 5864062014805 then (spec_l2Sorted.l0 kj4 l0 (y417 ++ y420) (wrap64 (x4_1 + 1))) else (none))) = some r := by first | (rw [hy417]; with_reducible exact H) | (have H2_ := (Option.bind_some _ _).symm.trans H; rw [hy417]; with_reducible exact H2_) | (have H2_ := (Option.bind_some _ _).symm.trans H; with_reducible exact H2_) | with_reducible exact H | (rw [hy417]; exact H) | exact H
                     have Ny417 := Aside0.mk hy417
                     clear hy417
                     have c26b0 := eq_true (of_decide_eq_true zA : 0 ≤ x5_4)
                     have c27b0 := eq_true (of_decide_eq_true zA : x5_4 ≤ (x3_1.length : Int))
                     obtain ⟨y420, hy420⟩ : ∃ y_ : List (List Int), y_ = (x3_1.drop (x5_4 : Int).toNat) := ⟨_, rfl⟩
                     replace H : (if y417.length + y420.length < 5864062014805 then (spec_l2Sorted.l0 kj4 l0 (y417 ++ y420) (wrap64 (x4_1 + 1))) else (none)) = some r := by first | (rw [hy420]; with_reducible exact H) | (have H2_ := (Option.bind_some _ _).symm.trans H; rw [hy420]; with_reducible exact H2_) | (have H2_ := (Option.bind_some _ _).symm.trans H; with_reducible exact H2_) | with_reducible exact H | (rw [hy420]; exact H) | exact H
                     have Ny420 := Aside0.mk hy420
                     clear hy420
                     by_cases c28 : y417.length + y420.length < 5864062014805
                     · rw [if_pos c28] at H
                       have LMc28 := Aside0.mk c28
                       clear c28
                       obtain ⟨y425, hy425⟩ : ∃ y_ : List (List Int), y_ = (y417 ++ y420) := ⟨_, rfl⟩
                       replace H : (spec_l2Sorted.l0 kj4 l0 y425 (wrap64 (x4_1 + 1))) = some r := by first | (rw [hy425]; with_reducible exact H) | (have H2_ := (Option.bind_some _ _).symm.trans H; rw [hy425]; with_reducible exact H2_) | (have H2_ := (Option.bind_some _ _).symm.trans H; with_reducible exact H2_) | with_reducible exact H | (rw [hy425]; exact H) | exact H
                       have Ny425 := Aside0.mk hy425
                       clear hy425
                       have H' := Aside0.mk H
                       clear H
                       try go_wp2
                       replace HO_3 := zM (Kd.N_drew HO_3.out)
                       replace HB := zM (below_drew1 HB.out)
                       refine zs (n := 15) (fun w' => True) trivial (fun hHeld => ?_); refine with_tabW spec_l2Sorted.tab8 spec_l2Sorted.bits8 (fun HT_ HW_ => ?_)
                       generalize wc.drew = w29 at HO_3 HB hHeld ⊢
                       refine zp HT_ 0 31 ?_
                       refine zp HT_ 1 32 ?_
                       refine zp HT_ 2 33 ?_
                       refine zu HT_ 3 34 ?_
                       refine zu HT_ 4 35 ?_
                       refine zu HT_ 5 36 ?_
                       refine zu HT_ 6 37 ?_
                       refine zu HT_ 7 38 ?_
                       refine zu HT_ 8 39 ?_
                       refine zu HT_ 9 40 ?_
                       refine zu HT_ 10 41 ?_
                       refine zu HT_ 11 42 ?_
                       refine zu HT_ 12 43 ?_
                       refine zu HT_ 13 44 ?_
                       refine zp HT_ 14 45 ?_
                       refine zo HT_ ?_
                       try go_wp2
                       replace HO_3 := zM (Kd.N_drew HO_3.out)
                       replace HB := zM (below_drew1 HB.out)
                       have q31 : (x5_4 : Int) ≤ ((x3_1.length : Int) : Int) := of_decide_eq_true zA
                       obtain ⟨i031, hi031, _, hsz31, _⟩ := info_parts info26
                       have hroom31 : x3_1.length ≤ co6 := (Kd.N_reads' HO_3.out).2.1
                       have hC31 : Kd.F (Kd.slice 3 (Kd.int .i64)) _ _ Ao6 x3_1.length x3_1 := (Kd.V_at (base := w.heap.size) (Kd.N_V HO_3.out)).2.2
                       have hcut31 := cut_to (P := Try.prog) 22 26 .i64 Try.underlying22 hi031 Ao6 x3_1.length co6 x5_4 (of_decide_eq_true zA) q31 hroom31
                       have hr31 := Kd.F_take (m := (x5_4 : Int).toNat) hC31 (by omega)
                       have hy31 : y405.length = (x5_4 : Int).toNat := (by rw [Ny405.out, List.length_take]; omega)
                       rw [← Ny405.out] at hr31
                       rw [← hy31] at hcut31
                       have HO409 := zM (show Kd.V (Kd.slice 3 (Kd.int .i64)) 26 _ w.heap.size _ (.slice Ao6 y405.length co6) y405 from Kd.V_mk (by omega) hr31)
                       have HC409 := zM (show y405.length ≤ co6 from by omega)
                       clear hr31 hC31 hroom31 hi031 hsz31
                       have KY31 := Aside0.mk hy31
                       clear hy31
                       replace q31 := eq_true q31
                       have p413 : 0 ≤ (x4_1 : Int) := of_decide_eq_true zA
                       have q413 : x4_1 < (l0.length : Int) := of_decide_eq_true zA
                       obtain ⟨ad413, A413_0, c413_0, e413, hx413_0, hl413_0, hi413_0⟩ := at_L4 HR0.out x4_1 p413 q413
                       have hw413_0 := hx413_0
                       cases e413
                       (try replace hx413_0 := (HB.out.cell (World.block_lt_of_cell? w _ hx413_0)).trans hx413_0)
                       have HR413_0 := Aside0.mk hi413_0
                       have HC413_0 := Aside0.mk hl413_0
                       clear hi413_0 hl413_0
                       replace p413 := eq_true p413
                       replace q413 := eq_true q413
                       have q32 : (x5_4 : Int) ≤ ((x3_1.length : Int) : Int) := of_decide_eq_true zA
                       obtain ⟨i032, hi032, _, hsz32, _⟩ := info_parts info26
                       have hroom32 : x3_1.length ≤ co6 := (Kd.N_reads' HO_3.out).2.1
                       have hC32 : Kd.F (Kd.slice 3 (Kd.int .i64)) _ _ Ao6 x3_1.length x3_1 := (Kd.V_at (base := w.heap.size) (Kd.N_V HO_3.out)).2.2
                       have q032 : (0 : Int) ≤ (x5_4 : Int) := of_decide_eq_true zA
                       have hcut32 := cut_from (P := Try.prog) 22 26 .i64 Try.underlying22 hi032 1 hsz32 Ao6 x3_1.length co6 x5_4 q032 q32
                       have hr32 := Kd.F_cut (m := (x5_4 : Int).toNat) (c := co6) hC32 (by omega) hroom32
                       obtain ⟨A32, hA32⟩ : ∃ A1, A1 = (if co6 = (x5_4 : Int).toNat then Ao6 else (Ao6 : Option Addr).map (·.add ((x5_4 : Int).toNat * 1))) := ⟨_, rfl⟩
                       obtain ⟨c32, hc32⟩ : ∃ c1, c1 = co6 - (x5_4 : Int).toNat := ⟨_, rfl⟩
                       have hy32 : y420.length = x3_1.length - (x5_4 : Int).toNat := (by rw [Ny420.out, List.length_drop] <;> omega)
                       rw [show (x3_1).drop (x5_4 : Int).toNat = y420 from Ny420.out.symm] at hr32
                       replace hr32 : Kd.F (Kd.slice 3 (Kd.int .i64)) _ _ A32 y420.length y420 := (by rw [hA32]; exact hr32)
                       rw [← hy32, ← hA32, ← hc32] at hcut32
                       have HO424 := zM (show Kd.V (Kd.slice 3 (Kd.int .i64)) 26 _ w.heap.size _ (.slice A32 y420.length c32) y420 from Kd.V_mk (by rw [hy32, hc32]; exact Nat.sub_le_sub_right hroom32 _) hr32)
                       have HC424 := zM (show y420.length ≤ c32 from by rw [hy32, hc32]; exact Nat.sub_le_sub_right hroom32 _)
                       clear hr32 hC32 hroom32 hi032 hsz32 hc32
                       have KY32 := Aside0.mk hy32
                       have KA32 := Aside0.mk hA32
                       clear hy32 hA32
                       replace q32 := eq_true q32
                       refine zs (n := 17) (fun w' => w'.cell? (ad413.add (x4_1).toNat) = some (.slice A413_0 (rd_L4 l0 x4_1).length c413_0)) (((HB.out.cell (World.block_lt_of_cell? w _ hw413_0)).trans hw413_0)) (fun hHeld => ?_); refine with_tabW spec_l2Sorted.tab9 spec_l2Sorted.bits9 (fun HT_ HW_ => ?_)
                       generalize w29.drew = w30 at HO_3 HB HO409 HO424 HR413_0 hx413_0 hHeld ⊢
                       refine zp HT_ 1 47 ?_
                       refine zp HT_ 2 48 ?_
                       refine zp HT_ 3 49 ?_
                       refine zp HT_ 5 51 ?_
                       refine zp HT_ 6 52 ?_
                       refine zp HT_ 7 53 ?_
                       refine zp HT_ 12 58 ?_
                       refine zp HT_ 13 59 ?_
                       refine zp HT_ 14 60 ?_
                       refine take_ (i := 8) (N := some 54) (v := ?_) (a' := ?_) #[false, true, true, true, false, true, true, true, true, false, false, false, true, true, true, false, false] rfl rfl (take_ofW HT_.out HW_.out (by kernel_rfl)) (fun _ _ _ h => h) (Or.inl ⟨by rfl, ?_⟩) hHeld ?_ ?_
                       rotate_left
                       · intro w' s0
                         go_simp
                         with_reducible rfl
                       rotate_left
                       · simp only [Act.put, List.setIfInBounds_toArray, List.set_cons_zero, List.set_cons_succ, i64_w, i32_w]
                         rfl
                       refine one_ (i := 0) (N := some 46) #[true, true, true, true, false, true, true, true, true, false, false, false, true, true, true, false, false] rfl rfl (one_of HT_.out (by kernel_rfl)) (by decide) (fun K hK => ?_)
                       refine Kd.N_lit_step (Kd.slice 3 (Kd.int .i64)) _ 26 ?hg (N' := 46) ?hd (xs := ([] : List (List Int))) (inner := []) (ok := (fun k_ => (w.heap.size ≤ k_) ∧ some k_ ≠ (.slice Ao6 x3_1.length co6 : Value).ownBlock)) (okp := (fun k_ => (w.heap.size ≤ k_) ∧ some k_ ≠ (.slice Ao6 x3_1.length co6 : Value).ownBlock)) ?hr ?hp (fun _ hk => hk) ((show ∀ k_, w30.heap.size ≤ k_ → (fun k_ => (w.heap.size ≤ k_) ∧ some k_ ≠ (.slice Ao6 x3_1.length co6 : Value).ownBlock) k_ from fun k_ hk => ⟨(Nat.le_trans (below_size zB) hk), Kd.fresh' (Kd.N_lt (by (with_reducible repeat (first | apply Kd.N_alloc | apply Kd.N_drewN | apply Kd.N_drew)); exact HO_3.out)) k_ hk⟩) _ (Nat.le_refl _)) (Below.refl _ _) (Nat.le_refl _) (by simp) ?_; (case hd => rfl); (case hg => rfl); (case hr => first | (go_simp; done) | (go_simp; rfl)); (case hp => exact (Reps.none _ _))
                       intro v403 w33 ho34 hb hg_ hnew_
                       clear hg_ hnew_
                       (first | rw [← Ny402.out] at ho34 | (simp only [Int.reduceToNat] at ho34; rw [← Ny402.out] at ho34))
                       replace HO_3 := zM (Kd.N_elder' (by (with_reducible repeat (first | apply Kd.N_alloc | apply Kd.N_drewN | apply Kd.N_drew)); exact HO_3.out) (Kd.N_base ho34) hb)
                       replace HO409 := zM (Kd.V_elder' (by (with_reducible repeat (first | apply Kd.V_alloc | apply Kd.V_drewN | apply Kd.V_drew)); exact HO409.out) (Kd.N_base ho34) hb)
                       replace HO424 := zM (Kd.V_elder' (by (with_reducible repeat (first | apply Kd.V_alloc | apply Kd.V_drewN | apply Kd.V_drew)); exact HO424.out) (Kd.N_base ho34) hb)
                       have HO404 := zM (Kd.N_lower ho34 (below_size zB))
                       replace HB := zM (below_step zB hb)
                       clear hb ho34
                       refine hK.out _ _ (((HB.out.cell (World.block_lt_of_cell? w _ hw413_0)).trans hw413_0)) (fun hHeld => ?_)
                       clear hK K
                       refine zn 46 ?_
                       refine one_ (i := 4) (N := some 50) #[true, true, true, true, true, true, true, true, true, false, false, false, true, true, true, false, false] rfl rfl (one_of HT_.out (by kernel_rfl)) (by decide) (fun K hK => ?_)
                       refine Kd.N_append_rows_step (Kd.slice 3 (Kd.int .i64)) (w0 := w) w.heap.size (by rfl) (.tmp 46) (.tmp 49) 22 26 (.slice none 0 0) 24 rfl Try.underlying22 info26 rfl (by decide) (by omega) v403 y402 y405 _ _ _ (fun k_ => (w.heap.size ≤ k_)) (fun k_ => ((fun k_ => (w.heap.size ≤ k_))) k_ ∧ some k_ ≠ (v403 : Value).ownBlock) rfl rfl ?aO ?aR (fun _ hk => hk) ?aF ?aB ?aS ?aL ?_
                       (case aR => exact (by skip; exact Kd.V_F (Kd.V_mono (ok' := (fun k_ => ((fun k_ => (w.heap.size ≤ k_))) k_ ∧ some k_ ≠ (v403 : Value).ownBlock)) (HO409.out) (fun k_ hk => ⟨hk.1, hk.2⟩))))
                       (case aB => exact zB)
                       (case aF => exact (fun k_ hk => (Nat.le_trans (below_size zB) hk)))
                       (case aO => exact (by (with_reducible repeat (first | apply Kd.N_alloc | apply Kd.N_drewN | apply Kd.N_drew)); exact Kd.N_mono HO404.out (fun _ hk => hk.1)))
                       (case aS => exact (below_size zB))
                       (case aL => have := LMc21.out; omega)
                       intro v411 w35 ho hb hg hat
                       rw [← Ny410.out] at ho
                       replace HO_3 := zM (Kd.N_afterv (ok := (fun k_ => (w.heap.size ≤ k_))) (by (with_reducible repeat (first | apply Kd.N_alloc | apply Kd.N_drewN | apply Kd.N_drew)); exact HO_3.out) hg hat)
                       replace HO409 := zM (Kd.V_afterv (ok := (fun k_ => (w.heap.size ≤ k_))) (by (with_reducible repeat (first | apply Kd.V_alloc | apply Kd.V_drewN | apply Kd.V_drew)); exact HO409.out) hg hat)
                       replace HO424 := zM (Kd.V_afterv (ok := (fun k_ => (w.heap.size ≤ k_))) (by (with_reducible repeat (first | apply Kd.V_alloc | apply Kd.V_drewN | apply Kd.V_drew)); exact HO424.out) hg hat)
                       replace HB := zM (hb)
                       have HO412 := zM (ho)
                       clear HO404
                       clear ho hb hg hat
                       refine hK.out _ _ (((HB.out.cell (World.block_lt_of_cell? w _ hw413_0)).trans hw413_0)) (fun hHeld => ?_)
                       clear hK K
                       refine zn 50 ?_
                       refine zg HT_ 9 55 Try.func86 #[.slice A413_0 (rd_L4 l0 x4_1).length c413_0] (fun K hK => ?_)
                       with_reducible refine (spec_l1Own.calls _ _ (rd_L4 l0 x4_1) t414 _ ?side1 ?side2 A24.out).mono ?_
                       (case side1 => exact zC (Kd.C_below HR413_0.out HB.out))
                       (case side2 => exact HC413_0.out)
                       rintro e w36 ⟨v415, rfl, ho0, hb⟩
                       refine ⟨_, rfl, ?_⟩
                       replace HO_3 := zM (Kd.N_elder' (by (with_reducible repeat (first | apply Kd.N_alloc | apply Kd.N_drewN | apply Kd.N_drew)); exact HO_3.out) (Kd.R_base ho0) hb)
                       replace HO409 := zM (Kd.V_elder' (by (with_reducible repeat (first | apply Kd.V_alloc | apply Kd.V_drewN | apply Kd.V_drew)); exact HO409.out) (Kd.R_base ho0) hb)
                       replace HO424 := zM (Kd.V_elder' (by (with_reducible repeat (first | apply Kd.V_alloc | apply Kd.V_drewN | apply Kd.V_drew)); exact HO424.out) (Kd.R_base ho0) hb)
                       replace HO412 := zM (Kd.N_elder' (by (with_reducible repeat (first | apply Kd.N_alloc | apply Kd.N_drewN | apply Kd.N_drew)); exact HO412.out) (Kd.R_base ho0) hb)
                       have HO416 := zM (Kd.R_lower (Kd.R_newM (M := fun k_ => (w.heap.size ≤ k_)) ho0 (below_size zB) (fun k_ h_ => h_)) (below_size zB))
                       replace HB := zM (below_step zB hb)
                       (try clear hb)
                       (try clear hb2)
                       (try clear hk)
                       (try clear hi)
                       (try clear ho0)
                       obtain ⟨Ao38, co38, eo38⟩ := Kd.R_slice HO416.out
                       (first | subst eo38 | (injection eo38 with f1_ f2_ f3_; have f4_ := f1_.symm; have f5_ := f3_.symm; clear f1_ f2_ f3_; subst f4_; subst f5_))
                       refine hK.out _ _ (((HB.out.cell (World.block_lt_of_cell? w _ hw413_0)).trans hw413_0)) (fun hHeld => ?_)
                       clear hK K
                       refine zn 55 ?_
                       refine one_ (i := 10) (N := some 56) #[true, true, true, true, true, true, true, true, true, true, true, false, true, true, true, false, false] rfl rfl (one_of HT_.out (by kernel_rfl)) (by decide) (fun K hK => ?_)
                       refine value_ (w1 := ?_) (v := ?_) (by rfl) rfl ?_ ?_
                       rotate_left 2
                       · go_simp
                         constructor
                         · rfl
                         · rfl
                       refine hK.out _ _ ((World.cell?_alloc_lt _ _ _ (World.block_lt_of_cell? _ _ (((HB.out.cell (World.block_lt_of_cell? w _ hw413_0)).trans hw413_0)))).trans (((HB.out.cell (World.block_lt_of_cell? w _ hw413_0)).trans hw413_0))) (fun hHeld => ?_)
                       clear hK K
                       refine zn 56 ?_
                       refine one_ (i := 11) (N := some 57) #[true, true, true, true, true, true, true, true, true, true, true, true, true, true, true, false, false] rfl rfl (one_of HT_.out (by kernel_rfl)) (by decide) (fun K hK => ?_)
                       refine Kd.N_append_step (Kd.slice 3 (Kd.int .i64)) (w0 := w) w.heap.size (by rfl) (.tmp 50) (.tmp 56) 22 26 (.slice none 0 0) 24 rfl Try.underlying22 info26 rfl (by decide) (by omega) v411 y410 t414 [.slice Ao38 t414.length co38] (fun k_ => (w.heap.size ≤ k_)) (fun k_ => ((fun k_ => (w.heap.size ≤ k_))) k_ ∧ some k_ ≠ (v411 : Value).ownBlock) rfl rfl ?aP (fun _ hk => hk) ?aF ?aO ?aB ?aS ?aL ?_
                       (case aP => exact (Kd.FK_slice_mk (Kd.R_reads' (Kd.R_mono (ok' := (fun k_ => ((fun k_ => (w.heap.size ≤ k_))) k_ ∧ some k_ ≠ (v411 : Value).ownBlock)) (Kd.R_apart' (HO416.out) (Kd.N_typed HO412.out) (by decide)) (fun k_ hk => ⟨hk.1.1, hk.2⟩))).2.1 (Kd.R_F (Kd.R_mono (ok' := (fun k_ => ((fun k_ => (w.heap.size ≤ k_))) k_ ∧ some k_ ≠ (v411 : Value).ownBlock)) (Kd.R_apart' (HO416.out) (Kd.N_typed HO412.out) (by decide)) (fun k_ hk => ⟨hk.1.1, hk.2⟩)))))
                       (case aB => exact zB)
                       (case aF => exact (fun k_ hk => (Nat.le_trans (below_size zB) hk)))
                       (case aO => exact (by (with_reducible repeat (first | apply Kd.N_alloc | apply Kd.N_drewN | apply Kd.N_drew)); exact Kd.N_mono HO412.out (fun _ hk => hk.1)))
                       (case aS => exact (below_size zB))
                       (case aL => have := LMc25.out; omega)
                       intro v418 w37 ho hb hg hat
                       rw [← Ny417.out] at ho
                       replace HO_3 := zM (Kd.N_afterv (ok := (fun k_ => (w.heap.size ≤ k_) ∧ some k_ ≠ (.slice Ao38 t414.length co38 : Value).ownBlock)) (by (with_reducible repeat (first | apply Kd.N_alloc | apply Kd.N_drewN | apply Kd.N_drew)); exact Kd.N_mono HO_3.out (fun _ hk => ⟨⟨hk.1.1, hk.2⟩, hk.1.2⟩)) hg hat)
                       replace HO409 := zM (Kd.V_afterv (ok := (fun k_ => (w.heap.size ≤ k_) ∧ some k_ ≠ (.slice Ao38 t414.length co38 : Value).ownBlock)) (by (with_reducible repeat (first | apply Kd.V_alloc | apply Kd.V_drewN | apply Kd.V_drew)); exact Kd.V_mono HO409.out (fun _ hk => ⟨⟨hk.1.1, hk.2⟩, hk.1.2⟩)) hg hat)
                       replace HO424 := zM (Kd.V_afterv (ok := (fun k_ => (w.heap.size ≤ k_) ∧ some k_ ≠ (.slice Ao38 t414.length co38 : Value).ownBlock)) (by (with_reducible repeat (first | apply Kd.V_alloc | apply Kd.V_drewN | apply Kd.V_drew)); exact Kd.V_mono HO424.out (fun _ hk => ⟨⟨hk.1.1, hk.2⟩, hk.1.2⟩)) hg hat)
                       replace HB := zM (hb)
                       have HO419 := zM (ho)
                       clear HO412 HO416
                       clear ho hb hg hat
                       refine hK.out _ _ (((HB.out.cell (World.block_lt_of_cell? w _ hw413_0)).trans hw413_0)) (fun hHeld => ?_)
                       clear hK K
                       refine zn 57 ?_
                       refine one_ (i := 15) (N := some 61) #[true, true, true, true, true, true, true, true, true, true, true, true, true, true, true, true, false] rfl rfl (one_of HT_.out (by kernel_rfl)) (by decide) (fun K hK => ?_)
                       refine Kd.N_append_rows_step (Kd.slice 3 (Kd.int .i64)) (w0 := w) w.heap.size (by rfl) (.tmp 57) (.tmp 60) 22 26 (.slice none 0 0) 24 rfl Try.underlying22 info26 rfl (by decide) (by omega) v418 y417 y420 _ _ _ (fun k_ => (w.heap.size ≤ k_)) (fun k_ => ((fun k_ => (w.heap.size ≤ k_))) k_ ∧ some k_ ≠ (v418 : Value).ownBlock) rfl rfl ?aO ?aR (fun _ hk => hk) ?aF ?aB ?aS ?aL ?_
                       (case aR => exact (by skip; exact Kd.V_F (Kd.V_mono (ok' := (fun k_ => ((fun k_ => (w.heap.size ≤ k_))) k_ ∧ some k_ ≠ (v418 : Value).ownBlock)) (HO424.out) (fun k_ hk => ⟨hk.1.1, hk.2⟩))))
                       (case aB => exact zB)
                       (case aF => exact (fun k_ hk => (Nat.le_trans (below_size zB) hk)))
                       (case aO => exact (by (with_reducible repeat (first | apply Kd.N_alloc | apply Kd.N_drewN | apply Kd.N_drew)); exact HO419.out))
                       (case aS => exact (below_size zB))
                       (case aL => have := LMc28.out; omega)
                       intro v426 w39 ho hb hg hat
                       rw [← Ny425.out] at ho
                       replace HO_3 := zM (Kd.N_afterv (ok := (fun k_ => (w.heap.size ≤ k_))) (by (with_reducible repeat (first | apply Kd.N_alloc | apply Kd.N_drewN | apply Kd.N_drew)); exact Kd.N_mono HO_3.out (fun _ hk => ⟨hk.1.1, hk.2⟩)) hg hat)
                       replace HO409 := zM (Kd.V_afterv (ok := (fun k_ => (w.heap.size ≤ k_))) (by (with_reducible repeat (first | apply Kd.V_alloc | apply Kd.V_drewN | apply Kd.V_drew)); exact Kd.V_mono HO409.out (fun _ hk => ⟨hk.1.1, hk.2⟩)) hg hat)
                       replace HO424 := zM (Kd.V_afterv (ok := (fun k_ => (w.heap.size ≤ k_))) (by (with_reducible repeat (first | apply Kd.V_alloc | apply Kd.V_drewN | apply Kd.V_drew)); exact Kd.V_mono HO424.out (fun _ hk => ⟨hk.1.1, hk.2⟩)) hg hat)
                       replace HB := zM (hb)
                       have HO427 := zM (ho)
                       clear HO419
                       clear ho hb hg hat
                       refine hK.out _ _ (((HB.out.cell (World.block_lt_of_cell? w _ hw413_0)).trans hw413_0)) (fun hHeld => ?_)
                       clear hK K
                       refine zn 61 ?_
                       refine zp HT_ 16 3 ?_
                       refine zo HT_ ?_
                       try go_wp2
                       go_roundg kj4
                       case measure => have := HK1.out; have := HJ4.out; omega
                       case rel => exact ⟨(y425), (wrap64 (x4_1 + 1)), (by first | rfl | (simp; done) | (simp [*]; done)), H', ⟨by have := HK1.out; have := HJ4.out; omega⟩, ⟨by (with_reducible repeat (first | apply Kd.N_alloc | apply Kd.N_drewN | apply Kd.N_drew)); exact HO427.out⟩, ⟨zB⟩⟩
                     · rw [if_neg c28] at H
                       exact absurd H (by simp)
                   · rw [if_neg c25] at H
                     exact absurd H (by simp)
                 · rw [if_neg c23] at H
                   exact absurd H (by simp)
               · rw [if_neg c22] at H
                 exact absurd H (by simp)
             · rw [if_neg c21] at H
               exact absurd H (by simp)
           · rw [if_neg c20] at H
             exact absurd H (by simp)
         · rw [if_neg c19] at H
           exact absurd H (by simp)
       · rw [if_neg c18] at H
         have c18b0 : (x5_4 == 0) = false := beq_eq_false_iff_ne.mpr c18
         have c18b1 : (x5_4 != 0) = true := bne_iff_ne.mpr c18
         obtain ⟨ji40, hji40⟩ : ∃ j_ : Int, (wrap64 (x5_4 - 1)) = j_ := ⟨_, rfl⟩
         replace H : (if 0 ≤ (ji40) then (if (ji40) < (x3_1.length : Int) then (if 0 ≤ x4_1 then (if x4_1 < (l0.length : Int) then ((spec_l1Same.f kj4 (rd_L4 x3_1 (ji40)) (rd_L4 l0 x4_1)).bind fun t430 => (if t430 = true then (spec_l2Sorted.l0 kj4 l0 x3_1 (wrap64 (x4_1 + 1))) else ((some (([] : List (List Int)) : List (List Int))).bind fun y431 => (if 0 ≤ x5_4 then (if x5_4 ≤ (x3_1.length : Int) then ((some (x3_1.take (x5_4 : Int).toNat : List (List Int))).bind fun y434 => (if y431.length + y434.length < 5864062014805 then ((some (y431 ++ y434 : List (List Int))).bind fun y439 => ((spec_l1Own.f (rd_L4 l0 x4_1)).bind fun t443 => (if y439.length < 5864062014805 then ((some (y439 ++ [t443] : List (List Int))).bind fun y446 => ((some (x3_1.drop (x5_4 : Int).toNat : List (List Int))).bind fun y449 => (if y446.length + y449.length < 5864062014805 then (spec_l2Sorted.l0 kj4 l0 (y446 ++ y449) (wrap64 (x4_1 + 1))) else (none)))) else (none)))) else (none))) else (none)) else (none))))) else (none)) else (none)) else (none)) else (none)) = some r := by first | (rw [hji40] at H; exact H) | (simp only [hji40] at H ⊢; exact H)
         have hji40w : (IntKind.i64.wrap (x5_4 - 1)) = ji40 := (i64_w _).trans hji40
         by_cases c41 : 0 ≤ (ji40)
         · rw [if_pos c41] at H
           have c41b0 := decide_eq_true c41
           clear c41
           by_cases c42 : (ji40) < (x3_1.length : Int)
           · rw [if_pos c42] at H
             have c42b0 := decide_eq_true c42
             clear c42
             by_cases c43 : 0 ≤ x4_1
             · rw [if_pos c43] at H
               have c43b0 := decide_eq_true c43
               clear c43
               by_cases c44 : x4_1 < (l0.length : Int)
               · rw [if_pos c44] at H
                 have c44b0 := decide_eq_true c44
                 clear c44
                 replace H := Option.bind_eq_some_iff.mp H
                 obtain ⟨t430, A450, H⟩ := H
                 have A45 := Aside0.mk A450
                 clear A450
                 by_cases c46 : t430 = true
                 · subst c46
                   rw [if_pos rfl] at H
                   have H' := Aside0.mk H
                   clear H
                   try go_wp2
                   replace HO_3 := zM (Kd.N_drew HO_3.out)
                   replace HB := zM (below_drew1 HB.out)
                   have p428 : 0 ≤ ((ji40) : Int) := of_decide_eq_true zA
                   have q428 : (ji40) < (x3_1.length : Int) := of_decide_eq_true zA
                   obtain ⟨ad428, A428_0, c428_0, e428, hx428_0, hl428_0, hi428_0⟩ := at_L4 (Kd.N_reads' HO_3.out).2.2 (ji40) p428 q428
                   cases e428
                   obtain ⟨ce428, hce428, hMe428, hcc428⟩ := Kd.N_get HO_3.out [] (ji40) p428 (by first | exact q428 | exact of_decide_eq_true zA | (have e_ := (Kd.N_reads' HO_3.out).1; omega))
                   obtain ⟨ua428_0, uc428_0, rfl, ul428_0, ge428_0⟩ := Kd.FK_slice_open hMe428
                   have hv428_0 := hcc428 0 _ rfl
                   rw [Nat.add_zero, show ((Kd.slice 3 (Kd.int .i64))).sz = 1 from rfl, Nat.mul_one] at hv428_0
                   replace hv428_0 := Option.some.inj (hv428_0.symm.trans hx428_0)
                   injection hv428_0 with hva_ hvn_ hvc_
                   rw [hva_] at ge428_0
                   rw [hvc_] at ul428_0
                   have HL428_0 := zM (show Kd.V (Kd.int .i64) 3 _ w.heap.size _ _ (rd_L4 x3_1 (ji40)) from Kd.V_mk ul428_0 ge428_0)
                   clear hva_ hvn_ hvc_ ge428_0 ul428_0
                   clear hcc428 hce428
                   have HR428_0 := Aside0.mk hi428_0
                   have HC428_0 := Aside0.mk hl428_0
                   clear hi428_0 hl428_0
                   replace p428 := eq_true p428
                   replace q428 := eq_true q428
                   have p429 : 0 ≤ (x4_1 : Int) := of_decide_eq_true zA
                   have q429 : x4_1 < (l0.length : Int) := of_decide_eq_true zA
                   obtain ⟨ad429, A429_0, c429_0, e429, hx429_0, hl429_0, hi429_0⟩ := at_L4 HR0.out x4_1 p429 q429
                   have hw429_0 := hx429_0
                   cases e429
                   (try replace hx429_0 := (HB.out.cell (World.block_lt_of_cell? w _ hx429_0)).trans hx429_0)
                   have HR429_0 := Aside0.mk hi429_0
                   have HC429_0 := Aside0.mk hl429_0
                   clear hi429_0 hl429_0
                   replace p429 := eq_true p429
                   replace q429 := eq_true q429
                   refine zs (n := 15) (fun w' => w'.cell? (ad428.add ((ji40)).toNat) = some (.slice A428_0 (rd_L4 x3_1 (ji40)).length c428_0) ∧ w'.cell? (ad429.add (x4_1).toNat) = some (.slice A429_0 (rd_L4 l0 x4_1).length c429_0)) ⟨hx428_0, ((HB.out.cell (World.block_lt_of_cell? w _ hw429_0)).trans hw429_0)⟩ (fun hHeld => ?_); refine with_tabW spec_l2Sorted.tab8 spec_l2Sorted.bits8 (fun HT_ HW_ => ?_)
                   generalize wc.drew = w47 at HO_3 HB HL428_0 HR428_0 HR429_0 hx428_0 hx429_0 hHeld ⊢
                   refine zp HT_ 0 31 ?_
                   refine zp HT_ 1 32 ?_
                   refine zp HT_ 2 33 ?_
                   refine zp HT_ 3 34 ?_
                   refine zp HT_ 4 35 ?_
                   refine zp HT_ 5 36 ?_
                   refine zp HT_ 6 37 ?_
                   refine zp HT_ 8 39 ?_
                   refine zp HT_ 9 40 ?_
                   refine zp HT_ 10 41 ?_
                   refine zt HT_ HW_ 7 38 hHeld ?_ (hy := by rintro w' ⟨s0, s1⟩; go_simp; with_reducible rfl)
                   refine zt HT_ HW_ 11 42 hHeld ?_ (hy := by rintro w' ⟨s0, s1⟩; go_simp; with_reducible rfl)
                   refine one_ (i := 12) (N := some 43) #[true, true, true, true, true, true, true, true, true, true, true, true, true, false, false] rfl rfl (one_of HT_.out (by kernel_rfl)) (by decide) (fun K hK => ?_)
                   refine goes_ Try.func153 (by kernel_rfl) rfl #[.slice A428_0 (rd_L4 x3_1 (ji40)).length c428_0, .slice A429_0 (rd_L4 l0 x4_1).length c429_0] (by rfl) rfl rfl (by (try simp only [List.map_toArray, List.map_cons, List.map_nil]); first | done | (simp only [hji40]; rfl) | rfl | (simp only [List.length_drop, List.length_take]; rfl)) ?_
                   with_reducible refine (spec_l1Same.calls kj4 _ _ (rd_L4 x3_1 (ji40)) _ _ (rd_L4 l0 x4_1) true _ ?side1 ?side2 ?side3 ?side4 A45.out).mono ?_
                   (case side1 => repeat (first | exact (by repeat (first | (with_reducible exact HR428_0.out) | (with_reducible refine Kd.C_alloc ?_ _) | (with_reducible refine Kd.C_drewN ?_ _) | (with_reducible refine Kd.C_drew ?_) | exact HR428_0.out)) | (with_reducible refine Kd.C_alloc ?_ _) | (with_reducible refine Kd.C_drewN ?_ _) | (with_reducible refine Kd.C_drew ?_)))
                   (case side2 => exact HC428_0.out)
                   (case side3 => exact zC (Kd.C_below HR429_0.out HB.out))
                   (case side4 => exact HC429_0.out)
                   rintro e w' ⟨rfl, ⟨nd, rfl⟩⟩
                   refine ⟨_, rfl, ?_⟩
                   refine hK.out _ _ ⟨hHeld.1, ((HB.out.cell (World.block_lt_of_cell? w _ hw429_0)).trans hw429_0)⟩ (fun hHeld => ?_)
                   clear hK K
                   refine zn 43 ?_
                   refine zp HT_ 13 44 ?_
                   refine zp HT_ 14 45 ?_
                   refine zo HT_ ?_
                   try go_wp2
                   go_roundg kj4
                   case measure => have := HK1.out; have := HJ4.out; omega
                   case rel => exact ⟨(x3_1), (wrap64 (x4_1 + 1)), (by first | rfl | (simp; done) | (simp [*]; done)), H', ⟨by have := HK1.out; have := HJ4.out; omega⟩, ⟨by (with_reducible repeat (first | apply Kd.N_alloc | apply Kd.N_drewN | apply Kd.N_drew)); exact HO_3.out⟩, ⟨zB⟩⟩
                 · replace c46 := Bool.eq_false_iff.mpr c46
                   subst c46
                   have H1 : ((some (([] : List (List Int)) : List (List Int))).bind fun y431 => (if 0 ≤ x5_4 then (if x5_4 ≤ (x3_1.length : Int) then ((some (x3_1.take (x5_4 : Int).toNat : List (List Int))).bind fun y434 => (if y431.length + y434.length < 5864062014805 then ((some (y431 ++ y434 : List (List Int))).bind fun y439 => ((spec_l1Own.f (rd_L4 l0 x4_1)).bind fun t443 => (if y439.length < 5864062014805 then ((some (y439 ++ [t443] : List (List Int))).bind fun y446 => ((some (x3_1.drop (x5_4 : Int).toNat : List (List Int))).bind fun y449 => (if y446.length + y449.length < 5864062014805 then (spec_l2Sorted.l0 kj4 l0 (y446 ++ y449) (wrap64 (x4_1 + 1))) else (none)))) else (none)))) else (none))) else (none)) else (none))) = some r := by rw [if_neg (show ¬ (false = true) by decide)] at H; exact H
                   clear H
                   have H := H1
                   clear H1
                   obtain ⟨y431, hy431⟩ : ∃ y_ : List (List Int), y_ = (([] : List (List Int))) := ⟨_, rfl⟩
                   replace H : (if 0 ≤ x5_4 then (if x5_4 ≤ (x3_1.length : Int) then ((some (x3_1.take (x5_4 : Int).toNat : List (List Int))).bind fun y434 => (if y431.length + y434.length < 5864062014805 then ((some (y431 ++ y434 : List (List Int))).bind fun y439 => ((spec_l1Own.f (rd_L4 l0 x4_1)).bind fun t443 => (if y439.length < 5864062014805 then ((some (y439 ++ [t443] : List (List Int))).bind fun y446 => ((some (x3_1.drop (x5_4 : Int).toNat : List (List Int))).bind fun y449 => (if y446.length + y449.length < 5864062014805 then (spec_l2Sorted.l0 kj4 l0 (y446 ++ y449) (wrap64 (x4_1 + 1))) else (none)))) else (none)))) else (none))) else (none)) else (none)) = some r := by first | (rw [hy431]; with_reducible exact H) | (have H2_ := (Option.bind_some _ _).symm.trans H; rw [hy431]; with_reducible exact H2_) | (have H2_ := (Option.bind_some _ _).symm.trans H; with_reducible exact H2_) | with_reducible exact H | (rw [hy431]; exact H) | exact H
                   have Ny431 := Aside0.mk hy431
                   clear hy431
                   by_cases c48 : 0 ≤ x5_4
                   · rw [if_pos c48] at H
                     have c48b0 := eq_true c48
                     have c48b1 : decide (0 ≤ x5_4) = true := decide_eq_true c48
                     clear c48
                     by_cases c49 : x5_4 ≤ (x3_1.length : Int)
                     · rw [if_pos c49] at H
                       have c49b0 := eq_true c49
                       have c49b1 : decide (x5_4 ≤ (x3_1.length : Int)) = true := decide_eq_true c49
                       clear c49
                       obtain ⟨y434, hy434⟩ : ∃ y_ : List (List Int), y_ = (x3_1.take (x5_4 : Int).toNat) := ⟨_, rfl⟩
                       replace H : (if y431.length + y434.length < 5864062014805 then ((some (y431 ++ y434 : List (List Int))).bind fun y439 => ((spec_l1Own.f (rd_L4 l0 x4_1)).bind fun t443 => (if y439.length < 5864062014805 then ((some (y439 ++ [t443] : List (List Int))).bind fun y446 => ((some (x3_1.drop (x5_4 : Int).toNat : List (List Int))).bind fun y449 => (if y446.length + y449.length < 5864062014805 then (spec_l2Sorted.l0 kj4 l0 (y446 ++ y449) (wrap64 (x4_1 + 1))) else (none)))) else (none)))) else (none)) = some r := by first | (rw [hy434]; with_reducible exact H) | (have H2_ := (Option.bind_some _ _).symm.trans H; rw [hy434]; with_reducible exact H2_) | (have H2_ := (Option.bind_some _ _).symm.trans H; with_reducible exact H2_) | with_reducible exact H | (rw [hy434]; exact H) | exact H
                       have Ny434 := Aside0.mk hy434
                       clear hy434
                       by_cases c50 : y431.length + y434.length < 5864062014805
                       · rw [if_pos c50] at H
                         have LMc50 := Aside0.mk c50
                         clear c50
                         obtain ⟨y439, hy439⟩ : ∃ y_ : List (List Int), y_ = (y431 ++ y434) := ⟨_, rfl⟩
                         replace H : ((spec_l1Own.f (rd_L4 l0 x4_1)).bind fun t443 => (if y439.length < 5864062014805 then ((some (y439 ++ [t443] : List (List Int))).bind fun y446 => ((some (x3_1.drop (x5_4 : Int).toNat : List (List Int))).bind fun y449 => (if y446.length + y449.length < 5864062014805 then (spec_l2Sorted.l0 kj4 l0 (y446 ++ y449) (wrap64 (x4_1 + 1))) else (none)))) else (none))) = some r := by first | (rw [hy439]; with_reducible exact H) | (have H2_ := (Option.bind_some _ _).symm.trans H; rw [hy439]; with_reducible exact H2_) | (have H2_ := (Option.bind_some _ _).symm.trans H; with_reducible exact H2_) | with_reducible exact H | (rw [hy439]; exact H) | exact H
                         have Ny439 := Aside0.mk hy439
                         clear hy439
                         replace H := Option.bind_eq_some_iff.mp H
                         obtain ⟨t443, A510, H⟩ := H
                         have A51 := Aside0.mk A510
                         clear A510
                         by_cases c52 : y439.length < 5864062014805
                         · rw [if_pos c52] at H
                           have LMc52 := Aside0.mk c52
                           clear c52
                           obtain ⟨y446, hy446⟩ : ∃ y_ : List (List Int), y_ = (y439 ++ [t443]) := ⟨_, rfl⟩
                           replace H : ((some (x3_1.drop (x5_4 : Int).toNat : List (List Int))).bind fun y449 => (if y446.length + y449.length < 5864062014805 then (spec_l2Sorted.l0 kj4 l0 (y446 ++ y449) (wrap64 (x4_1 + 1))) else (none))) = some r := by first | (rw [hy446]; with_reducible exact H) | (have H2_ := (Option.bind_some _ _).symm.trans H; rw [hy446]; with_reducible exact H2_) | (have H2_ := (Option.bind_some _ _).symm.trans H; with_reducible exact H2_) | with_reducible exact H | (rw [hy446]; exact H) | exact H
                           have Ny446 := Aside0.mk hy446
                           clear hy446
                           have c53b0 := eq_true (of_decide_eq_true zA : 0 ≤ x5_4)
                           have c54b0 := eq_true (of_decide_eq_true zA : x5_4 ≤ (x3_1.length : Int))
                           obtain ⟨y449, hy449⟩ : ∃ y_ : List (List Int), y_ = (x3_1.drop (x5_4 : Int).toNat) := ⟨_, rfl⟩
                           replace H : (if y446.length + y449.length < 5864062014805 then (spec_l2Sorted.l0 kj4 l0 (y446 ++ y449) (wrap64 (x4_1 + 1))) else (none)) = some r := by first | (rw [hy449]; with_reducible exact H) | (have H2_ := (Option.bind_some _ _).symm.trans H; rw [hy449]; with_reducible exact H2_) | (have H2_ := (Option.bind_some _ _).symm.trans H; with_reducible exact H2_) | with_reducible exact H | (rw [hy449]; exact H) | exact H
                           have Ny449 := Aside0.mk hy449
                           clear hy449
                           by_cases c55 : y446.length + y449.length < 5864062014805
                           · rw [if_pos c55] at H
                             have LMc55 := Aside0.mk c55
                             clear c55
                             obtain ⟨y454, hy454⟩ : ∃ y_ : List (List Int), y_ = (y446 ++ y449) := ⟨_, rfl⟩
                             replace H : (spec_l2Sorted.l0 kj4 l0 y454 (wrap64 (x4_1 + 1))) = some r := by first | (rw [hy454]; with_reducible exact H) | (have H2_ := (Option.bind_some _ _).symm.trans H; rw [hy454]; with_reducible exact H2_) | (have H2_ := (Option.bind_some _ _).symm.trans H; with_reducible exact H2_) | with_reducible exact H | (rw [hy454]; exact H) | exact H
                             have Ny454 := Aside0.mk hy454
                             clear hy454
                             have H' := Aside0.mk H
                             clear H
                             try go_wp2
                             replace HO_3 := zM (Kd.N_drew HO_3.out)
                             replace HB := zM (below_drew1 HB.out)
                             have p428 : 0 ≤ ((ji40) : Int) := of_decide_eq_true zA
                             have q428 : (ji40) < (x3_1.length : Int) := of_decide_eq_true zA
                             obtain ⟨ad428, A428_0, c428_0, e428, hx428_0, hl428_0, hi428_0⟩ := at_L4 (Kd.N_reads' HO_3.out).2.2 (ji40) p428 q428
                             cases e428
                             obtain ⟨ce428, hce428, hMe428, hcc428⟩ := Kd.N_get HO_3.out [] (ji40) p428 (by first | exact q428 | exact of_decide_eq_true zA | (have e_ := (Kd.N_reads' HO_3.out).1; omega))
                             obtain ⟨ua428_0, uc428_0, rfl, ul428_0, ge428_0⟩ := Kd.FK_slice_open hMe428
                             have hv428_0 := hcc428 0 _ rfl
                             rw [Nat.add_zero, show ((Kd.slice 3 (Kd.int .i64))).sz = 1 from rfl, Nat.mul_one] at hv428_0
                             replace hv428_0 := Option.some.inj (hv428_0.symm.trans hx428_0)
                             injection hv428_0 with hva_ hvn_ hvc_
                             rw [hva_] at ge428_0
                             rw [hvc_] at ul428_0
                             have HL428_0 := zM (show Kd.V (Kd.int .i64) 3 _ w.heap.size _ _ (rd_L4 x3_1 (ji40)) from Kd.V_mk ul428_0 ge428_0)
                             clear hva_ hvn_ hvc_ ge428_0 ul428_0
                             clear hcc428 hce428
                             have HR428_0 := Aside0.mk hi428_0
                             have HC428_0 := Aside0.mk hl428_0
                             clear hi428_0 hl428_0
                             replace p428 := eq_true p428
                             replace q428 := eq_true q428
                             have p429 : 0 ≤ (x4_1 : Int) := of_decide_eq_true zA
                             have q429 : x4_1 < (l0.length : Int) := of_decide_eq_true zA
                             obtain ⟨ad429, A429_0, c429_0, e429, hx429_0, hl429_0, hi429_0⟩ := at_L4 HR0.out x4_1 p429 q429
                             have hw429_0 := hx429_0
                             cases e429
                             (try replace hx429_0 := (HB.out.cell (World.block_lt_of_cell? w _ hx429_0)).trans hx429_0)
                             have HR429_0 := Aside0.mk hi429_0
                             have HC429_0 := Aside0.mk hl429_0
                             clear hi429_0 hl429_0
                             replace p429 := eq_true p429
                             replace q429 := eq_true q429
                             refine zs (n := 15) (fun w' => w'.cell? (ad428.add ((ji40)).toNat) = some (.slice A428_0 (rd_L4 x3_1 (ji40)).length c428_0) ∧ w'.cell? (ad429.add (x4_1).toNat) = some (.slice A429_0 (rd_L4 l0 x4_1).length c429_0)) ⟨hx428_0, ((HB.out.cell (World.block_lt_of_cell? w _ hw429_0)).trans hw429_0)⟩ (fun hHeld => ?_); refine with_tabW spec_l2Sorted.tab8 spec_l2Sorted.bits8 (fun HT_ HW_ => ?_)
                             generalize wc.drew = w56 at HO_3 HB HL428_0 HR428_0 HR429_0 hx428_0 hx429_0 hHeld ⊢
                             refine zp HT_ 0 31 ?_
                             refine zp HT_ 1 32 ?_
                             refine zp HT_ 2 33 ?_
                             refine zp HT_ 3 34 ?_
                             refine zp HT_ 4 35 ?_
                             refine zp HT_ 5 36 ?_
                             refine zp HT_ 6 37 ?_
                             refine zp HT_ 8 39 ?_
                             refine zp HT_ 9 40 ?_
                             refine zp HT_ 10 41 ?_
                             refine zt HT_ HW_ 7 38 hHeld ?_ (hy := by rintro w' ⟨s0, s1⟩; go_simp; with_reducible rfl)
                             refine zt HT_ HW_ 11 42 hHeld ?_ (hy := by rintro w' ⟨s0, s1⟩; go_simp; with_reducible rfl)
                             refine one_ (i := 12) (N := some 43) #[true, true, true, true, true, true, true, true, true, true, true, true, true, false, false] rfl rfl (one_of HT_.out (by kernel_rfl)) (by decide) (fun K hK => ?_)
                             refine goes_ Try.func153 (by kernel_rfl) rfl #[.slice A428_0 (rd_L4 x3_1 (ji40)).length c428_0, .slice A429_0 (rd_L4 l0 x4_1).length c429_0] (by rfl) rfl rfl (by (try simp only [List.map_toArray, List.map_cons, List.map_nil]); first | done | (simp only [hji40]; rfl) | rfl | (simp only [List.length_drop, List.length_take]; rfl)) ?_
                             with_reducible refine (spec_l1Same.calls kj4 _ _ (rd_L4 x3_1 (ji40)) _ _ (rd_L4 l0 x4_1) false _ ?side1 ?side2 ?side3 ?side4 A45.out).mono ?_
                             (case side1 => repeat (first | exact (by repeat (first | (with_reducible exact HR428_0.out) | (with_reducible refine Kd.C_alloc ?_ _) | (with_reducible refine Kd.C_drewN ?_ _) | (with_reducible refine Kd.C_drew ?_) | exact HR428_0.out)) | (with_reducible refine Kd.C_alloc ?_ _) | (with_reducible refine Kd.C_drewN ?_ _) | (with_reducible refine Kd.C_drew ?_)))
                             (case side2 => exact HC428_0.out)
                             (case side3 => exact zC (Kd.C_below HR429_0.out HB.out))
                             (case side4 => exact HC429_0.out)
                             rintro e w' ⟨rfl, ⟨nd, rfl⟩⟩
                             refine ⟨_, rfl, ?_⟩
                             refine hK.out _ _ ⟨hHeld.1, ((HB.out.cell (World.block_lt_of_cell? w _ hw429_0)).trans hw429_0)⟩ (fun hHeld => ?_)
                             clear hK K
                             refine zn 43 ?_
                             refine zp HT_ 13 44 ?_
                             refine zp HT_ 14 45 ?_
                             refine zo HT_ ?_
                             try go_wp2
                             (try (rw [drewN_self w56]; generalize hq_ : World.drewN w56 _ = w56; have n0_ : Aside0 (Kd.V (Kd.int .i64) 3 w56 w.heap.size (fun k_ => (w.heap.size ≤ k_) ∧ some k_ ≠ (.slice (some ad428) x3_1.length co6 : Value).ownBlock) (.slice A428_0 (rd_L4 x3_1 (ji40)).length c428_0) (rd_L4 x3_1 (ji40))) := ⟨by rw [← hq_]; exact (by (with_reducible repeat (first | apply Kd.V_alloc | apply Kd.V_drewN | apply Kd.V_drew)); exact HL428_0.out)⟩; have n1_ : Aside0 (Kd.N (Kd.slice 3 (Kd.int .i64)) 26 w56 w.heap.size (fun k_ => (w.heap.size ≤ k_)) (.slice (some ad428) x3_1.length co6) x3_1) := ⟨by rw [← hq_]; exact (by (with_reducible repeat (first | apply Kd.N_alloc | apply Kd.N_drewN | apply Kd.N_drew)); exact HO_3.out)⟩; have n2_ : Aside0 (Below w.heap.size w w56) := ⟨by rw [← hq_]; exact zB⟩; have n3_ : Aside0 (Kd.C (Kd.int .i64) w56 A428_0 (rd_L4 x3_1 (ji40)).length (rd_L4 x3_1 (ji40))) := ⟨by rw [← hq_]; exact (by repeat (first | (with_reducible exact HR428_0.out) | (with_reducible refine Kd.C_alloc ?_ _) | (with_reducible refine Kd.C_drewN ?_ _) | (with_reducible refine Kd.C_drew ?_) | exact HR428_0.out))⟩; clear HL428_0 HO_3 HB HR428_0 hq_; have HL428_0 := n0_; have HO_3 := n1_; have HB := n2_; have HR428_0 := n3_; clear n0_ n1_ n2_ n3_))
                             replace HO_3 := zM (Kd.N_drew HO_3.out)
                             replace HL428_0 := zM (Kd.V_drew HL428_0.out)
                             replace HR428_0 := zM (Kd.C_drew HR428_0.out)
                             replace HB := zM (below_drew1 HB.out)
                             have q58 : (x5_4 : Int) ≤ ((x3_1.length : Int) : Int) := of_decide_eq_true zA
                             obtain ⟨i058, hi058, _, hsz58, _⟩ := info_parts info26
                             have hroom58 : x3_1.length ≤ co6 := (Kd.N_reads' HO_3.out).2.1
                             have hC58 : Kd.F (Kd.slice 3 (Kd.int .i64)) _ _ (some ad428) x3_1.length x3_1 := (Kd.V_at (base := w.heap.size) (Kd.N_V HO_3.out)).2.2
                             have hcut58 := cut_to (P := Try.prog) 22 26 .i64 Try.underlying22 hi058 (some ad428) x3_1.length co6 x5_4 (of_decide_eq_true zA) q58 hroom58
                             have hr58 := Kd.F_take (m := (x5_4 : Int).toNat) hC58 (by omega)
                             have hy58 : y434.length = (x5_4 : Int).toNat := (by rw [Ny434.out, List.length_take]; omega)
                             rw [← Ny434.out] at hr58
                             rw [← hy58] at hcut58
                             have HO438 := zM (show Kd.V (Kd.slice 3 (Kd.int .i64)) 26 _ w.heap.size _ (.slice (some ad428) y434.length co6) y434 from Kd.V_mk (by omega) hr58)
                             have HC438 := zM (show y434.length ≤ co6 from by omega)
                             clear hr58 hC58 hroom58 hi058 hsz58
                             have KY58 := Aside0.mk hy58
                             clear hy58
                             replace q58 := eq_true q58
                             have p442 : 0 ≤ (x4_1 : Int) := of_decide_eq_true zA
                             have q442 : x4_1 < (l0.length : Int) := of_decide_eq_true zA
                             obtain ⟨ad442, A442_0, c442_0, e442, hx442_0, hl442_0, hi442_0⟩ := at_L4 HR0.out x4_1 p442 q442
                             have hw442_0 := hx442_0
                             obtain rfl : ad429 = ad442 := (by injection e442)
                             (try replace hx442_0 := (HB.out.cell (World.block_lt_of_cell? w _ hx442_0)).trans hx442_0)
                             have HR442_0 := Aside0.mk hi442_0
                             have HC442_0 := Aside0.mk hl442_0
                             clear hi442_0 hl442_0
                             replace p442 := eq_true p442
                             replace q442 := eq_true q442
                             have q59 : (x5_4 : Int) ≤ ((x3_1.length : Int) : Int) := of_decide_eq_true zA
                             obtain ⟨i059, hi059, _, hsz59, _⟩ := info_parts info26
                             have hroom59 : x3_1.length ≤ co6 := (Kd.N_reads' HO_3.out).2.1
                             have hC59 : Kd.F (Kd.slice 3 (Kd.int .i64)) _ _ (some ad428) x3_1.length x3_1 := (Kd.V_at (base := w.heap.size) (Kd.N_V HO_3.out)).2.2
                             have q059 : (0 : Int) ≤ (x5_4 : Int) := of_decide_eq_true zA
                             have hcut59 := cut_from (P := Try.prog) 22 26 .i64 Try.underlying22 hi059 1 hsz59 (some ad428) x3_1.length co6 x5_4 q059 q59
                             have hr59 := Kd.F_cut (m := (x5_4 : Int).toNat) (c := co6) hC59 (by omega) hroom59
                             obtain ⟨A59, hA59⟩ : ∃ A1, A1 = (if co6 = (x5_4 : Int).toNat then (some ad428) else ((some ad428) : Option Addr).map (·.add ((x5_4 : Int).toNat * 1))) := ⟨_, rfl⟩
                             obtain ⟨c59, hc59⟩ : ∃ c1, c1 = co6 - (x5_4 : Int).toNat := ⟨_, rfl⟩
                             have hy59 : y449.length = x3_1.length - (x5_4 : Int).toNat := (by rw [Ny449.out, List.length_drop] <;> omega)
                             rw [show (x3_1).drop (x5_4 : Int).toNat = y449 from Ny449.out.symm] at hr59
                             replace hr59 : Kd.F (Kd.slice 3 (Kd.int .i64)) _ _ A59 y449.length y449 := (by rw [hA59]; exact hr59)
                             rw [← hy59, ← hA59, ← hc59] at hcut59
                             have HO453 := zM (show Kd.V (Kd.slice 3 (Kd.int .i64)) 26 _ w.heap.size _ (.slice A59 y449.length c59) y449 from Kd.V_mk (by rw [hy59, hc59]; exact Nat.sub_le_sub_right hroom59 _) hr59)
                             have HC453 := zM (show y449.length ≤ c59 from by rw [hy59, hc59]; exact Nat.sub_le_sub_right hroom59 _)
                             clear hr59 hC59 hroom59 hi059 hsz59 hc59
                             have KY59 := Aside0.mk hy59
                             have KA59 := Aside0.mk hA59
                             clear hy59 hA59
                             replace q59 := eq_true q59
                             refine zs (n := 17) (fun w' => w'.cell? (ad429.add (x4_1).toNat) = some (.slice A442_0 (rd_L4 l0 x4_1).length c442_0)) (((HB.out.cell (World.block_lt_of_cell? w _ hw442_0)).trans hw442_0)) (fun hHeld => ?_); refine with_tabW spec_l2Sorted.tab9 spec_l2Sorted.bits9 (fun HT_ HW_ => ?_)
                             generalize w56.drew = w57 at HO_3 HL428_0 HR428_0 HB HO438 HO453 HR442_0 hx442_0 hHeld ⊢
                             refine zp HT_ 1 47 ?_
                             refine zp HT_ 2 48 ?_
                             refine zp HT_ 3 49 ?_
                             refine zp HT_ 5 51 ?_
                             refine zp HT_ 6 52 ?_
                             refine zp HT_ 7 53 ?_
                             refine zp HT_ 12 58 ?_
                             refine zp HT_ 13 59 ?_
                             refine zp HT_ 14 60 ?_
                             refine take_ (i := 8) (N := some 54) (v := ?_) (a' := ?_) #[false, true, true, true, false, true, true, true, true, false, false, false, true, true, true, false, false] rfl rfl (take_ofW HT_.out HW_.out (by kernel_rfl)) (fun _ _ _ h => h) (Or.inl ⟨by rfl, ?_⟩) hHeld ?_ ?_
                             rotate_left
                             · intro w' s0
                               go_simp
                               with_reducible rfl
                             rotate_left
                             · simp only [Act.put, List.setIfInBounds_toArray, List.set_cons_zero, List.set_cons_succ, i64_w, i32_w]
                               rfl
                             refine one_ (i := 0) (N := some 46) #[true, true, true, true, false, true, true, true, true, false, false, false, true, true, true, false, false] rfl rfl (one_of HT_.out (by kernel_rfl)) (by decide) (fun K hK => ?_)
                             refine Kd.N_lit_step (Kd.slice 3 (Kd.int .i64)) _ 26 ?hg (N' := 46) ?hd (xs := ([] : List (List Int))) (inner := []) (ok := (fun k_ => (w.heap.size ≤ k_) ∧ some k_ ≠ (.slice (some ad428) x3_1.length co6 : Value).ownBlock)) (okp := (fun k_ => (w.heap.size ≤ k_) ∧ some k_ ≠ (.slice (some ad428) x3_1.length co6 : Value).ownBlock)) ?hr ?hp (fun _ hk => hk) ((show ∀ k_, w57.heap.size ≤ k_ → (fun k_ => (w.heap.size ≤ k_) ∧ some k_ ≠ (.slice (some ad428) x3_1.length co6 : Value).ownBlock) k_ from fun k_ hk => ⟨(Nat.le_trans (below_size zB) hk), Kd.fresh' (Kd.N_lt (by (with_reducible repeat (first | apply Kd.N_alloc | apply Kd.N_drewN | apply Kd.N_drew)); exact HO_3.out)) k_ hk⟩) _ (Nat.le_refl _)) (Below.refl _ _) (Nat.le_refl _) (by simp) ?_; (case hd => rfl); (case hg => rfl); (case hr => first | (go_simp; done) | (go_simp; rfl)); (case hp => exact (Reps.none _ _))
                             intro v432 w60 ho61 hb hg_ hnew_
                             clear hg_ hnew_
                             (first | rw [← Ny431.out] at ho61 | (simp only [Int.reduceToNat] at ho61; rw [← Ny431.out] at ho61))
                             replace HO_3 := zM (Kd.N_elder' (by (with_reducible repeat (first | apply Kd.N_alloc | apply Kd.N_drewN | apply Kd.N_drew)); exact HO_3.out) (Kd.N_base ho61) hb)
                             replace HL428_0 := zM (Kd.V_elder' (by (with_reducible repeat (first | apply Kd.V_alloc | apply Kd.V_drewN | apply Kd.V_drew)); exact HL428_0.out) (Kd.N_base ho61) hb)
                             replace HO438 := zM (Kd.V_elder' (by (with_reducible repeat (first | apply Kd.V_alloc | apply Kd.V_drewN | apply Kd.V_drew)); exact HO438.out) (Kd.N_base ho61) hb)
                             replace HO453 := zM (Kd.V_elder' (by (with_reducible repeat (first | apply Kd.V_alloc | apply Kd.V_drewN | apply Kd.V_drew)); exact HO453.out) (Kd.N_base ho61) hb)
                             have HO433 := zM (Kd.N_lower ho61 (below_size zB))
                             replace HR428_0 := zM (Kd.C_below (by repeat (first | (with_reducible exact HR428_0.out) | (with_reducible refine Kd.C_alloc ?_ _) | (with_reducible refine Kd.C_drewN ?_ _) | (with_reducible refine Kd.C_drew ?_) | exact HR428_0.out)) hb)
                             replace HB := zM (below_step zB hb)
                             clear hb ho61
                             refine hK.out _ _ (((HB.out.cell (World.block_lt_of_cell? w _ hw442_0)).trans hw442_0)) (fun hHeld => ?_)
                             clear hK K
                             refine zn 46 ?_
                             refine one_ (i := 4) (N := some 50) #[true, true, true, true, true, true, true, true, true, false, false, false, true, true, true, false, false] rfl rfl (one_of HT_.out (by kernel_rfl)) (by decide) (fun K hK => ?_)
                             refine Kd.N_append_rows_step (Kd.slice 3 (Kd.int .i64)) (w0 := w) w.heap.size (by rfl) (.tmp 46) (.tmp 49) 22 26 (.slice none 0 0) 24 rfl Try.underlying22 info26 rfl (by decide) (by omega) v432 y431 y434 _ _ _ (fun k_ => (w.heap.size ≤ k_)) (fun k_ => ((fun k_ => (w.heap.size ≤ k_))) k_ ∧ some k_ ≠ (v432 : Value).ownBlock) rfl rfl ?aO ?aR (fun _ hk => hk) ?aF ?aB ?aS ?aL ?_
                             (case aR => exact (by skip; exact Kd.V_F (Kd.V_mono (ok' := (fun k_ => ((fun k_ => (w.heap.size ≤ k_))) k_ ∧ some k_ ≠ (v432 : Value).ownBlock)) (HO438.out) (fun k_ hk => ⟨hk.1, hk.2⟩))))
                             (case aB => exact zB)
                             (case aF => exact (fun k_ hk => (Nat.le_trans (below_size zB) hk)))
                             (case aO => exact (by (with_reducible repeat (first | apply Kd.N_alloc | apply Kd.N_drewN | apply Kd.N_drew)); exact Kd.N_mono HO433.out (fun _ hk => hk.1)))
                             (case aS => exact (below_size zB))
                             (case aL => have := LMc50.out; omega)
                             intro v440 w62 ho hb hg hat
                             rw [← Ny439.out] at ho
                             replace HO_3 := zM (Kd.N_afterv (ok := (fun k_ => (w.heap.size ≤ k_))) (by (with_reducible repeat (first | apply Kd.N_alloc | apply Kd.N_drewN | apply Kd.N_drew)); exact HO_3.out) hg hat)
                             replace HL428_0 := zM (Kd.V_afterv (ok := (fun k_ => (w.heap.size ≤ k_) ∧ some k_ ≠ (.slice (some ad428) x3_1.length co6 : Value).ownBlock)) (by (with_reducible repeat (first | apply Kd.V_alloc | apply Kd.V_drewN | apply Kd.V_drew)); exact HL428_0.out) hg hat)
                             replace HO438 := zM (Kd.V_afterv (ok := (fun k_ => (w.heap.size ≤ k_))) (by (with_reducible repeat (first | apply Kd.V_alloc | apply Kd.V_drewN | apply Kd.V_drew)); exact HO438.out) hg hat)
                             replace HO453 := zM (Kd.V_afterv (ok := (fun k_ => (w.heap.size ≤ k_))) (by (with_reducible repeat (first | apply Kd.V_alloc | apply Kd.V_drewN | apply Kd.V_drew)); exact HO453.out) hg hat)
                             replace HB := zM (hb)
                             have HO441 := zM (ho)
                             clear HO433
                             clear ho hb hg hat
                             refine hK.out _ _ (((HB.out.cell (World.block_lt_of_cell? w _ hw442_0)).trans hw442_0)) (fun hHeld => ?_)
                             clear hK K
                             refine zn 50 ?_
                             refine zg HT_ 9 55 Try.func86 #[.slice A442_0 (rd_L4 l0 x4_1).length c442_0] (fun K hK => ?_)
                             with_reducible refine (spec_l1Own.calls _ _ (rd_L4 l0 x4_1) t443 _ ?side1 ?side2 A51.out).mono ?_
                             (case side1 => exact zC (Kd.C_below HR442_0.out HB.out))
                             (case side2 => exact HC442_0.out)
                             rintro e w63 ⟨v444, rfl, ho0, hb⟩
                             refine ⟨_, rfl, ?_⟩
                             replace HO_3 := zM (Kd.N_elder' (by (with_reducible repeat (first | apply Kd.N_alloc | apply Kd.N_drewN | apply Kd.N_drew)); exact HO_3.out) (Kd.R_base ho0) hb)
                             replace HL428_0 := zM (Kd.V_elder' (by (with_reducible repeat (first | apply Kd.V_alloc | apply Kd.V_drewN | apply Kd.V_drew)); exact HL428_0.out) (Kd.R_base ho0) hb)
                             replace HO438 := zM (Kd.V_elder' (by (with_reducible repeat (first | apply Kd.V_alloc | apply Kd.V_drewN | apply Kd.V_drew)); exact HO438.out) (Kd.R_base ho0) hb)
                             replace HO453 := zM (Kd.V_elder' (by (with_reducible repeat (first | apply Kd.V_alloc | apply Kd.V_drewN | apply Kd.V_drew)); exact HO453.out) (Kd.R_base ho0) hb)
                             replace HO441 := zM (Kd.N_elder' (by (with_reducible repeat (first | apply Kd.N_alloc | apply Kd.N_drewN | apply Kd.N_drew)); exact HO441.out) (Kd.R_base ho0) hb)
                             have HO445 := zM (Kd.R_lower (Kd.R_newM (M := fun k_ => (w.heap.size ≤ k_)) ho0 (below_size zB) (fun k_ h_ => h_)) (below_size zB))
                             replace HB := zM (below_step zB hb)
                             (try clear hb)
                             (try clear hb2)
                             (try clear hk)
                             (try clear hi)
                             (try clear ho0)
                             obtain ⟨Ao65, co65, eo65⟩ := Kd.R_slice HO445.out
                             (first | subst eo65 | (injection eo65 with f1_ f2_ f3_; have f4_ := f1_.symm; have f5_ := f3_.symm; clear f1_ f2_ f3_; subst f4_; subst f5_))
                             refine hK.out _ _ (((HB.out.cell (World.block_lt_of_cell? w _ hw442_0)).trans hw442_0)) (fun hHeld => ?_)
                             clear hK K
                             refine zn 55 ?_
                             refine one_ (i := 10) (N := some 56) #[true, true, true, true, true, true, true, true, true, true, true, false, true, true, true, false, false] rfl rfl (one_of HT_.out (by kernel_rfl)) (by decide) (fun K hK => ?_)
                             refine value_ (w1 := ?_) (v := ?_) (by rfl) rfl ?_ ?_
                             rotate_left 2
                             · go_simp
                               constructor
                               · rfl
                               · rfl
                             refine hK.out _ _ ((World.cell?_alloc_lt _ _ _ (World.block_lt_of_cell? _ _ (((HB.out.cell (World.block_lt_of_cell? w _ hw442_0)).trans hw442_0)))).trans (((HB.out.cell (World.block_lt_of_cell? w _ hw442_0)).trans hw442_0))) (fun hHeld => ?_)
                             clear hK K
                             refine zn 56 ?_
                             refine one_ (i := 11) (N := some 57) #[true, true, true, true, true, true, true, true, true, true, true, true, true, true, true, false, false] rfl rfl (one_of HT_.out (by kernel_rfl)) (by decide) (fun K hK => ?_)
                             refine Kd.N_append_step (Kd.slice 3 (Kd.int .i64)) (w0 := w) w.heap.size (by rfl) (.tmp 50) (.tmp 56) 22 26 (.slice none 0 0) 24 rfl Try.underlying22 info26 rfl (by decide) (by omega) v440 y439 t443 [.slice Ao65 t443.length co65] (fun k_ => (w.heap.size ≤ k_)) (fun k_ => ((fun k_ => (w.heap.size ≤ k_))) k_ ∧ some k_ ≠ (v440 : Value).ownBlock) rfl rfl ?aP (fun _ hk => hk) ?aF ?aO ?aB ?aS ?aL ?_
                             (case aP => exact (Kd.FK_slice_mk (Kd.R_reads' (Kd.R_mono (ok' := (fun k_ => ((fun k_ => (w.heap.size ≤ k_))) k_ ∧ some k_ ≠ (v440 : Value).ownBlock)) (Kd.R_apart' (HO445.out) (Kd.N_typed HO441.out) (by decide)) (fun k_ hk => ⟨hk.1.1, hk.2⟩))).2.1 (Kd.R_F (Kd.R_mono (ok' := (fun k_ => ((fun k_ => (w.heap.size ≤ k_))) k_ ∧ some k_ ≠ (v440 : Value).ownBlock)) (Kd.R_apart' (HO445.out) (Kd.N_typed HO441.out) (by decide)) (fun k_ hk => ⟨hk.1.1, hk.2⟩)))))
                             (case aB => exact zB)
                             (case aF => exact (fun k_ hk => (Nat.le_trans (below_size zB) hk)))
                             (case aO => exact (by (with_reducible repeat (first | apply Kd.N_alloc | apply Kd.N_drewN | apply Kd.N_drew)); exact Kd.N_mono HO441.out (fun _ hk => hk.1)))
                             (case aS => exact (below_size zB))
                             (case aL => have := LMc52.out; omega)
                             intro v447 w64 ho hb hg hat
                             rw [← Ny446.out] at ho
                             replace HO_3 := zM (Kd.N_afterv (ok := (fun k_ => (w.heap.size ≤ k_) ∧ some k_ ≠ (.slice Ao65 t443.length co65 : Value).ownBlock)) (by (with_reducible repeat (first | apply Kd.N_alloc | apply Kd.N_drewN | apply Kd.N_drew)); exact Kd.N_mono HO_3.out (fun _ hk => ⟨⟨hk.1.1, hk.2⟩, hk.1.2⟩)) hg hat)
                             replace HL428_0 := zM (Kd.V_afterv (ok := (fun k_ => (w.heap.size ≤ k_) ∧ some k_ ≠ (.slice (some ad428) x3_1.length co6 : Value).ownBlock ∧ some k_ ≠ (.slice Ao65 t443.length co65 : Value).ownBlock)) (by (with_reducible repeat (first | apply Kd.V_alloc | apply Kd.V_drewN | apply Kd.V_drew)); exact Kd.V_mono HL428_0.out (fun _ hk => ⟨⟨hk.1.1.1, ⟨hk.1.1.2, hk.2⟩⟩, hk.1.2⟩)) hg hat)
                             replace HO438 := zM (Kd.V_afterv (ok := (fun k_ => (w.heap.size ≤ k_) ∧ some k_ ≠ (.slice Ao65 t443.length co65 : Value).ownBlock)) (by (with_reducible repeat (first | apply Kd.V_alloc | apply Kd.V_drewN | apply Kd.V_drew)); exact Kd.V_mono HO438.out (fun _ hk => ⟨⟨hk.1.1, hk.2⟩, hk.1.2⟩)) hg hat)
                             replace HO453 := zM (Kd.V_afterv (ok := (fun k_ => (w.heap.size ≤ k_) ∧ some k_ ≠ (.slice Ao65 t443.length co65 : Value).ownBlock)) (by (with_reducible repeat (first | apply Kd.V_alloc | apply Kd.V_drewN | apply Kd.V_drew)); exact Kd.V_mono HO453.out (fun _ hk => ⟨⟨hk.1.1, hk.2⟩, hk.1.2⟩)) hg hat)
                             replace HB := zM (hb)
                             have HO448 := zM (ho)
                             clear HO441 HO445
                             clear ho hb hg hat
                             refine hK.out _ _ (((HB.out.cell (World.block_lt_of_cell? w _ hw442_0)).trans hw442_0)) (fun hHeld => ?_)
                             clear hK K
                             refine zn 57 ?_
                             refine one_ (i := 15) (N := some 61) #[true, true, true, true, true, true, true, true, true, true, true, true, true, true, true, true, false] rfl rfl (one_of HT_.out (by kernel_rfl)) (by decide) (fun K hK => ?_)
                             refine Kd.N_append_rows_step (Kd.slice 3 (Kd.int .i64)) (w0 := w) w.heap.size (by rfl) (.tmp 57) (.tmp 60) 22 26 (.slice none 0 0) 24 rfl Try.underlying22 info26 rfl (by decide) (by omega) v447 y446 y449 _ _ _ (fun k_ => (w.heap.size ≤ k_)) (fun k_ => ((fun k_ => (w.heap.size ≤ k_))) k_ ∧ some k_ ≠ (v447 : Value).ownBlock) rfl rfl ?aO ?aR (fun _ hk => hk) ?aF ?aB ?aS ?aL ?_
                             (case aR => exact (by skip; exact Kd.V_F (Kd.V_mono (ok' := (fun k_ => ((fun k_ => (w.heap.size ≤ k_))) k_ ∧ some k_ ≠ (v447 : Value).ownBlock)) (HO453.out) (fun k_ hk => ⟨hk.1.1, hk.2⟩))))
                             (case aB => exact zB)
                             (case aF => exact (fun k_ hk => (Nat.le_trans (below_size zB) hk)))
                             (case aO => exact (by (with_reducible repeat (first | apply Kd.N_alloc | apply Kd.N_drewN | apply Kd.N_drew)); exact HO448.out))
                             (case aS => exact (below_size zB))
                             (case aL => have := LMc55.out; omega)
                             intro v455 w66 ho hb hg hat
                             rw [← Ny454.out] at ho
                             replace HO_3 := zM (Kd.N_afterv (ok := (fun k_ => (w.heap.size ≤ k_))) (by (with_reducible repeat (first | apply Kd.N_alloc | apply Kd.N_drewN | apply Kd.N_drew)); exact Kd.N_mono HO_3.out (fun _ hk => ⟨hk.1.1, hk.2⟩)) hg hat)
                             replace HL428_0 := zM (Kd.V_afterv (ok := (fun k_ => (w.heap.size ≤ k_) ∧ some k_ ≠ (.slice (some ad428) x3_1.length co6 : Value).ownBlock)) (by (with_reducible repeat (first | apply Kd.V_alloc | apply Kd.V_drewN | apply Kd.V_drew)); exact Kd.V_mono HL428_0.out (fun _ hk => ⟨⟨hk.1.1, hk.1.2.1⟩, hk.2⟩)) hg hat)
                             replace HO438 := zM (Kd.V_afterv (ok := (fun k_ => (w.heap.size ≤ k_))) (by (with_reducible repeat (first | apply Kd.V_alloc | apply Kd.V_drewN | apply Kd.V_drew)); exact Kd.V_mono HO438.out (fun _ hk => ⟨hk.1.1, hk.2⟩)) hg hat)
                             replace HO453 := zM (Kd.V_afterv (ok := (fun k_ => (w.heap.size ≤ k_))) (by (with_reducible repeat (first | apply Kd.V_alloc | apply Kd.V_drewN | apply Kd.V_drew)); exact Kd.V_mono HO453.out (fun _ hk => ⟨hk.1.1, hk.2⟩)) hg hat)
                             replace HB := zM (hb)
                             have HO456 := zM (ho)
                             clear HO448
                             clear ho hb hg hat
                             refine hK.out _ _ (((HB.out.cell (World.block_lt_of_cell? w _ hw442_0)).trans hw442_0)) (fun hHeld => ?_)
                             clear hK K
                             refine zn 61 ?_
                             refine zp HT_ 16 3 ?_
                             refine zo HT_ ?_
                             try go_wp2
                             go_roundg kj4
                             case measure => have := HK1.out; have := HJ4.out; omega
                             case rel => exact ⟨(y454), (wrap64 (x4_1 + 1)), (by first | rfl | (simp; done) | (simp [*]; done)), H', ⟨by have := HK1.out; have := HJ4.out; omega⟩, ⟨by (with_reducible repeat (first | apply Kd.N_alloc | apply Kd.N_drewN | apply Kd.N_drew)); exact HO456.out⟩, ⟨zB⟩⟩
                           · rw [if_neg c55] at H
                             exact absurd H (by simp)
                         · rw [if_neg c52] at H
                           exact absurd H (by simp)
                       · rw [if_neg c50] at H
                         exact absurd H (by simp)
                     · rw [if_neg c49] at H
                       exact absurd H (by simp)
                   · rw [if_neg c48] at H
                     exact absurd H (by simp)
               · rw [if_neg c44] at H
                 exact absurd H (by simp)
             · rw [if_neg c43] at H
               exact absurd H (by simp)
           · rw [if_neg c42] at H
             exact absurd H (by simp)
         · rw [if_neg c41] at H
           exact absurd H (by simp)
   · rw [if_neg c4] at H
     have c4b0 : decide (x4_1 < (l0.length : Int)) = false := decide_eq_false c4
     clear c4
     obtain rfl := Option.some.inj H
     go_wp2
     go_ret
     exact ⟨_, by first | rfl | (simp [errW_none, errW_some] <;> rfl) | (simp [*, errW_none, errW_some] <;> rfl), by (with_reducible repeat (first | apply Kd.N_alloc | apply Kd.N_drewN | apply Kd.N_drew)); exact HO_3.out, zB⟩

end Go.Proofs.Ythnojbafclglpaa.P
