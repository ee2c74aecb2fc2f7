-- Written by a program of this session (the kit's print, turned: wip/print/patch.py) out of the translation. Not trusted: Lean checks it.
import Derived.Test.YtopgbijegnnjbaaCountShortestG5
namespace Go.Proofs.Ytopgbijegnnjbaa.P
open Go.RowKit Go.Proofs.YtopgbijegnnjbaaW.PrintWords Go.Proofs.YtopgbijegnnjbaaW.PrintLast Go.Proofs.YtopgbijegnnjbaaW.PrintMore
attribute [local go_sem] max2_int min2_int max_two min_two max_three min_three max_four min_four   -- for this text's walks alone
set_option linter.unusedVariables false
set_option linter.unusedSimpArgs false

/-! ### spec_l2Spread: function 13 -/
mutual
def spec_l2Spread.l0 : Nat → List (List Int) → Int → List Int → Int → Option (List Int)
 | 0, _, _, _, _ => none
 | k + 1, x0, x1, x5, x6 => if x6 < (x5.length : Int) then (if 0 ≤ x6 then (spec_l2Spread.l0 k x0 x1 (x5.set (x6 : Int).toNat (-1)) (wrap64 (x6 + 1))) else (none)) else (if 0 ≤ x1 then (if x1 < (x5.length : Int) then (spec_l2Spread.l1 k x0 (x5.set (x1 : Int).toNat 0) (([x1] : List Int)) 0) else (none)) else (none))
def spec_l2Spread.l1 : Nat → List (List Int) → List Int → List Int → Int → Option (List Int)
 | 0, _, _, _, _ => none
 | k + 1, x0, x5, x7, x8 => if x8 < (x7.length : Int) then (if 0 ≤ x8 then (if 0 ≤ (rd x7 x8) then (if (rd x7 x8) < (x0.length : Int) then (spec_l2Spread.l2 k x0 x5 x7 x8 (rd_L1 x0 (rd x7 x8)) 0) else (none)) else (none)) else (none)) else (some x5)
def spec_l2Spread.l2 : Nat → List (List Int) → List Int → List Int → Int → List Int → Int → Option (List Int)
 | 0, _, _, _, _, _, _ => none
 | k + 1, x0, x5, x7, x8, x9, x10 => if x10 < (x9.length : Int) then (if 0 ≤ x10 then (if 0 ≤ (rd x9 x10) then (if (rd x9 x10) < (x5.length : Int) then (if (rd x5 (rd x9 x10)) < 0 then (if 0 ≤ x8 then (if x8 < (x7.length : Int) then (if 0 ≤ (rd x7 x8) then (if (rd x7 x8) < (x5.length : Int) then (if x7.length < 17592186044416 then (spec_l2Spread.l2 k x0 (x5.set ((rd x9 x10) : Int).toNat (wrap64 ((rd x5 (rd x7 x8)) + 1))) (x7 ++ [rd x9 x10]) x8 x9 (wrap64 (x10 + 1))) else (none)) else (none)) else (none)) else (none)) else (none)) else (spec_l2Spread.l2 k x0 x5 x7 x8 x9 (wrap64 (x10 + 1)))) else (none)) else (none)) else (none)) else (spec_l2Spread.l1 k x0 x5 x7 (wrap64 (x8 + 1)))
end
def spec_l2Spread.f (k : Nat) (l0 : List (List Int)) (a1 : Int) : Option (List Int) := if 0 ≤ (l0.length : Int) then (if ((l0.length : Int) : Int).toNat ≤ 35184372088832 then (spec_l2Spread.l0 k l0 a1 (List.replicate ((l0.length : Int) : Int).toNat 0) 0) else (none)) else (none)
def spec_l2Spread.T16 : Bool × List (List Nat × List Nat) := (true, [([], []), ([], []), ([], []), ([1, 2], [1, 2]), ([3], [3]), ([], []), ([], []), ([], []), ([6, 7], [6, 7]), ([8], [8]), ([5, 9], [5, 9]), ([10], [10]), ([11], [11]), ([0, 4, 0, 1, 2, 3, 4, 5, 6, 7, 8, 9, 10, 11, 12], [0, 4]), ([13, 12, 0, 1, 2, 3, 4, 5, 6, 7, 8, 9, 10, 11, 12], [12, 13])])
def spec_l2Spread.B16 : List Nat := [0, 0, 0, 6, 14, 0, 0, 0, 192, 448, 992, 2016, 4064, 8191, 16383]
theorem spec_l2Spread.tab16 : rtab .any (opsOf Try.f13 16) = spec_l2Spread.T16 := by kernel_rfl
theorem spec_l2Spread.bits16 : waitsOk spec_l2Spread.T16.2 spec_l2Spread.B16 = true := by kernel_rfl
set_option maxHeartbeats 8000000 in
set_option maxRecDepth 100000 in
theorem spec_l2Spread.calls (k : Nat) (A0 : Option Addr) (c0 : Nat) (l0 : List (List Int)) (a1 : Int) (r : List Int) (w : World) (hr0 : Kd.C (Kd.slice 3 (Kd.int .i64)) w A0 l0.length l0) (hc0 : l0.length ≤ c0) (h : spec_l2Spread.f k l0 a1 = some r) :
 Calls Try.prog 13 #[.slice A0 l0.length c0, .int .i64 a1] w fun e w' => ∃ v0_ : Value, e = .returned (v0_) ∧ Kd.R (Kd.int .i64) 3 w' w.heap.size (fun _ => True) v0_ r ∧ Below w.heap.size w w' := by
 have HR0 := Aside0.mk hr0
 have HC0 := Aside0.mk hc0
 clear hr0 hc0
 have HB := zM (Below.refl w.heap.size w)
 have H : (if 0 ≤ (l0.length : Int) then (if ((l0.length : Int) : Int).toNat ≤ 35184372088832 then (spec_l2Spread.l0 k l0 a1 (List.replicate ((l0.length : Int) : Int).toNat 0) 0) else (none)) else (none)) = some r := h
 clear h
 by_cases c3 : 0 ≤ (l0.length : Int)
 · rw [if_pos c3] at H
   have c3b0 := eq_true c3
   have c3b1 : decide (0 ≤ (l0.length : Int)) = true := decide_eq_true c3
   clear c3
   by_cases c4 : ((l0.length : Int) : Int).toNat ≤ 35184372088832
   · rw [if_pos c4] at H
     have c4b0 := eq_true c4
     have c4b1 : decide (((l0.length : Int) : Int).toNat ≤ 35184372088832) = true := decide_eq_true c4
     clear c4
     obtain ⟨y237, hy237⟩ : ∃ y_ : List Int, y_ = (List.replicate ((l0.length : Int) : Int).toNat 0) := ⟨_, rfl⟩
     replace H : (spec_l2Spread.l0 k l0 a1 y237 0) = some r := by first | (rw [hy237]; with_reducible exact H) | (have H2_ := (Option.bind_some _ _).symm.trans H; rw [hy237]; with_reducible exact H2_) | (have H2_ := (Option.bind_some _ _).symm.trans H; with_reducible exact H2_) | with_reducible exact H | (rw [hy237]; exact H) | exact H
     have Ny237 := Aside0.mk hy237
     clear hy237
     have H' := Aside0.mk H
     clear H
     go_enter Try.func13, Try.ntmps13
     go_wp2_with (first | ((with_reducible refine gate_dst (N := 13) rfl ?_); refine Kd.R_make (Kd.int .i64) _ 3 rfl (N := 13) rfl 37 _ _ rfl (l0.length : Int) rfl rfl Try.underlying37 (.int .i64 0) 8 info3 rfl (by decide) (by omega) 0 (ok := fun _ => True) (okp := fun _ => True) rfl (fun _ hk => hk) trivial (of_decide_eq_true zA) (Nat.le_trans (Nat.mul_le_mul_right _ (of_decide_eq_true zA : (l0.length : Int).toNat ≤ 35184372088832)) (by omega)) (Below.refl _ _) (Nat.le_refl _) ?_; intro v238 w5 ho6 hb hg_ hnew_; clear hg_ hnew_; (first | rw [← Ny237.out] at ho6 | (simp only [Int.reduceToNat] at ho6; rw [← Ny237.out] at ho6)); have HO239 := zM (Kd.R_lower ho6 (below_size zB)); replace HB := zM (below_step zB hb); clear hb ho6))
     go_loopg [6] k (fun kq v6 w' => ∃ (x5_1 : List Int) (x6_1 : Int), v6 = .int .i64 x6_1 ∧ Aside0 (spec_l2Spread.l0 kq l0 a1 x5_1 x6_1 = some r) ∧ Aside0 (kq ≤ k) ∧ Aside0 (Kd.R (Kd.int .i64) 3 w' w.heap.size (fun _ => True) v238 x5_1) ∧ Aside0 (Below w.heap.size w w'))
     case atStart => exact ⟨(y237), (0), (by first | rfl | (simp; done) | (simp [*]; done)), H', ⟨Nat.le_refl _⟩, ⟨zR HO239.out⟩, ⟨zB⟩⟩
     case round =>
      clear H'
      try clear c1
      try clear p2
      try clear c3
      try clear c3b0
      try clear c3b1
      try clear c4
      try clear c4b0
      try clear c4b1
      obtain ⟨x5_1, x6_1, rfl, HA, HK1, HO_5, HB⟩ := hrel
      cases gk with
      | zero => exact absurd HA.out (by simp [spec_l2Spread.l0])
      | succ k1 =>
       have H := HA.out
       clear HA
       simp only [spec_l2Spread.l0] at H
       by_cases c7 : x6_1 < (x5_1.length : Int)
       · rw [if_pos c7] at H
         have c7b0 := decide_eq_true c7
         clear c7
         by_cases c8 : 0 ≤ x6_1
         · rw [if_pos c8] at H
           have c8b0 := decide_eq_true c8
           clear c8
           obtain ⟨y240, hy240⟩ : ∃ y_ : List Int, y_ = (x5_1.set (x6_1 : Int).toNat (-1)) := ⟨_, rfl⟩
           replace H : (spec_l2Spread.l0 k1 l0 a1 y240 (wrap64 (x6_1 + 1))) = some r := by first | (rw [hy240]; with_reducible exact H) | (have H2_ := (Option.bind_some _ _).symm.trans H; rw [hy240]; with_reducible exact H2_) | (have H2_ := (Option.bind_some _ _).symm.trans H; with_reducible exact H2_) | with_reducible exact H | (rw [hy240]; exact H) | exact H
           have Ny240 := Aside0.mk hy240
           clear hy240
           have H' := Aside0.mk H
           clear H
           obtain ⟨Ao10, co10, eo10⟩ := Kd.R_slice HO_5.out
           subst eo10
           have p9 : 0 ≤ (x6_1 : Int) := of_decide_eq_true zA
           have q9 : (x6_1 : Int) < ((x5_1.length : Int) : Int) := of_decide_eq_true zA
           obtain ⟨go9, co9, eo9, gb9, gl9, cl9, HG9⟩ := Kd.R_form HO_5.out (by omega)
           (first | cases eo9 | (injection eo9 with ea_ en_ ec_; (first | subst ea_ | (injection ea_ with ea_; subst ea_)); subst ec_; clear en_))
           have GB9 := Aside0.mk gb9
           have GG9 := Aside0.mk HG9
           clear gb9 gl9 HG9
           obtain ⟨hx9_0, hf9_0⟩ := Kd.R_celln 0 HO_5.out (x6_1 : Int) p9 q9
           replace p9 := eq_true p9
           replace q9 := eq_true q9
           have HP11 := Kd.R_putg HO_5.out (x6_1 : Int) (-1)
           go_wp2_with (first | ((with_reducible refine gate_store (t := 3) (p := 22) rfl ?_); refine store_event (t := 3) (p := 22) (v := ?vo_w12) (w1 := (wr.setCell ⟨go9, (x6_1 : Int).toNat, none⟩ (.int .i64 (-1)))) ?hg ?ho ?hn ?hr ?_; (case ho => rfl); (case hg => rfl); (case hn => rfl); (case hr => first | (go_simp; done) | (go_simp; rfl)); intro w12 hw; have hg : wr.grownBy w12 (some go9) := (by rw [hw]; exact HP11.2); have hp_ : Kd.R (Kd.int .i64) 3 w12 w.heap.size (fun _ => True) (.slice (some ⟨go9, 0, none⟩) x5_1.length co10) y240 := (by rw [hw, Ny240.out]; exact HP11.1); clear HP11; replace HO_5 := zM (hp_); replace HB := zM ((by rw [hw]; exact below_set (HB.out) GB9.out : Below w.heap.size w w12)); clear hg hw hp_))
           go_roundg k1
           case measure => have := HK1.out; omega
           case rel => exact ⟨(y240), (wrap64 (x6_1 + 1)), (by first | rfl | (simp; done) | (simp [*]; done)), H', ⟨by have := HK1.out; omega⟩, ⟨zR HO_5.out⟩, ⟨zB⟩⟩
         · rw [if_neg c8] at H
           exact absurd H (by simp)
       · rw [if_neg c7] at H
         have c7b0 : decide (x6_1 < (x5_1.length : Int)) = false := decide_eq_false c7
         clear c7
         obtain ⟨y241, hy241⟩ : ∃ y_ : List Int, y_ = (([a1] : List Int)) := ⟨_, rfl⟩
         replace H : (if 0 ≤ a1 then (if a1 < (x5_1.length : Int) then (spec_l2Spread.l1 k1 l0 (x5_1.set (a1 : Int).toNat 0) y241 0) else (none)) else (none)) = some r := by first | (rw [hy241]; with_reducible exact H) | (have H2_ := (Option.bind_some _ _).symm.trans H; rw [hy241]; with_reducible exact H2_) | (have H2_ := (Option.bind_some _ _).symm.trans H; with_reducible exact H2_) | with_reducible exact H | (rw [hy241]; exact H) | exact H
         have Ny241 := Aside0.mk hy241
         clear hy241
         by_cases c13 : 0 ≤ a1
         · rw [if_pos c13] at H
           have c13b0 := decide_eq_true c13
           clear c13
           by_cases c14 : a1 < (x5_1.length : Int)
           · rw [if_pos c14] at H
             have c14b0 := decide_eq_true c14
             clear c14
             obtain ⟨y244, hy244⟩ : ∃ y_ : List Int, y_ = (x5_1.set (a1 : Int).toNat 0) := ⟨_, rfl⟩
             replace H : (spec_l2Spread.l1 k1 l0 y244 y241 0) = some r := by first | (rw [hy244]; with_reducible exact H) | (have H2_ := (Option.bind_some _ _).symm.trans H; rw [hy244]; with_reducible exact H2_) | (have H2_ := (Option.bind_some _ _).symm.trans H; with_reducible exact H2_) | with_reducible exact H | (rw [hy244]; exact H) | exact H
             have Ny244 := Aside0.mk hy244
             clear hy244
             have H' := Aside0.mk H
             clear H
             obtain ⟨Ao16, co16, eo16⟩ := Kd.R_slice HO_5.out
             subst eo16
             go_wp2_with (first | ((with_reducible refine gate_dst (N := 24) rfl ?_); refine Kd.R_lit (Kd.int .i64) _ 3 ?hg (N := 24) ?hd (xs := ([a1] : List Int)) (inner := [.int .i64 a1]) (ok := fun _ => True) (okp := fun _ => True) ?hr ?hp (fun _ hk => hk) trivial (Below.refl _ _) (Nat.le_refl _) (by simp) ?_; (case hd => rfl); (case hg => rfl); (case hr => first | (go_simp; done) | (go_simp; rfl)); (case hp => exact (Reps.one (show Kd.M (Kd.int .i64) _ _ _ a1 [.int .i64 a1] from rfl) (Reps.none _ _))); intro v242 w17 ho18 hb hg_ hnew_; clear hg_ hnew_; (first | rw [← Ny241.out] at ho18 | (simp only [Int.reduceToNat] at ho18; rw [← Ny241.out] at ho18)); have HO243 := zM (Kd.R_lower (Kd.R_new' ho18 (Kd.R_lt (zR HO_5.out))) (below_size zB)); replace HO_5 := zM (Kd.R_elder' (zR HO_5.out) (Kd.R_base ho18) hb); replace HB := zM (below_step zB hb); clear hb ho18; have p15 : 0 ≤ (a1 : Int) := of_decide_eq_true zA; have q15 : (a1 : Int) < ((x5_1.length : Int) : Int) := of_decide_eq_true zA; obtain ⟨go15, co15, eo15, gb15, gl15, cl15, HG15⟩ := Kd.R_form HO_5.out (by omega); (first | cases eo15 | (injection eo15 with ea_ en_ ec_; (first | subst ea_ | (injection ea_ with ea_; subst ea_)); subst ec_; clear en_)); have GB15 := Aside0.mk gb15; have GG15 := Aside0.mk HG15; clear gb15 gl15 HG15; obtain ⟨hx15_0, hf15_0⟩ := Kd.R_celln 0 HO_5.out (a1 : Int) p15 q15; replace p15 := eq_true p15; replace q15 := eq_true q15; have n_ := zM (Kd.R_mono (ok' := (fun k_ => some k_ ≠ (v242 : Value).ownBlock)) HO_5.out (fun k_ hk => hk.2)); clear HO_5; have HO_5 := n_; clear n_; obtain ⟨hy19_, hz19_⟩ := Kd.R_celln 0 HO_5.out (a1 : Int) (of_decide_eq_true zA) (of_decide_eq_true zA); have HP19 := Kd.R_putg HO_5.out (a1 : Int) 0) | ((with_reducible refine gate_store (t := 3) (p := 27) rfl ?_); refine store_event (t := 3) (p := 27) (v := ?vo_w20) (w1 := (w17.setCell ⟨go15, (a1 : Int).toNat, none⟩ (.int .i64 0))) ?hg ?ho ?hn ?hr ?_; (case ho => rfl); (case hg => rfl); (case hn => rfl); (case hr => first | (go_simp; done) | (go_simp; rfl)); intro w20 hw; have hg : w17.grownBy w20 (some go15) := (by rw [hw]; exact HP19.2); have hp_ : Kd.R (Kd.int .i64) 3 w20 w.heap.size (fun k_ => some k_ ≠ (v242 : Value).ownBlock) (.slice (some ⟨go15, 0, none⟩) x5_1.length co16) y244 := (by rw [hw, Ny244.out]; exact HP19.1); clear HP19; replace HO_5 := zM (hp_); replace HO243 := zM (Kd.R_after (v := (.slice (some ⟨go15, 0, none⟩) x5_1.length co16)) (v1 := (.slice (some ⟨go15, 0, none⟩) x5_1.length co16)) (ok := (fun _ => True)) (zR HO243.out) hg (.inl rfl)); replace HB := zM ((by rw [hw]; exact below_set (HB.out) GB15.out : Below w.heap.size w w20)); clear hg hw hp_))
             go_loopg [7, 8] k1 (fun kq v7 v8 w' => ∃ (x5_2 : List Int) (x7_2 : List Int) (x8_2 : Int), v8 = .int .i64 x8_2 ∧ Aside0 (spec_l2Spread.l1 kq l0 x5_2 x7_2 x8_2 = some r) ∧ Aside0 (kq ≤ k1) ∧ Aside0 (Kd.R (Kd.int .i64) 3 w' w.heap.size (fun k_ => some k_ ≠ (v7 : Value).ownBlock) (.slice (some ⟨go15, 0, none⟩) x5_1.length co16) x5_2) ∧ Aside0 (Kd.R (Kd.int .i64) 3 w' w.heap.size (fun k_ => some k_ ≠ ((.slice (some ⟨go15, 0, none⟩) x5_1.length co16) : Value).ownBlock) v7 x7_2) ∧ Aside0 (Below w.heap.size w w'))
             case atStart => exact ⟨(y244), (y241), (0), (by first | rfl | (simp; done) | (simp [*]; done)), H', ⟨Nat.le_refl _⟩, ⟨zR HO_5.out⟩, ⟨by (with_reducible repeat (first | apply Kd.R_alloc | apply Kd.R_drewN | apply Kd.R_drew)); exact Kd.R_mono HO243.out (fun _ hk => hk.2)⟩, ⟨zB⟩⟩
             case round =>
              clear H'
              try clear c1
              try clear p1
              try clear q1
              try clear hx1
              try clear p2
              try clear c3
              try clear c3b0
              try clear c3b1
              try clear c4
              try clear c4b0
              try clear c4b1
              try clear p6
              try clear c7
              try clear c7b0
              try clear c8
              try clear c8b0
              try clear p9
              try clear q9
              try clear hx9
              try clear hf9
              try clear c13
              try clear c13b0
              try clear c14
              try clear c14b0
              try clear p15
              try clear q15
              try clear hx15
              try clear hf15
              try clear hx15_0
              try clear hx9_0
              try clear p15
              try clear p2
              try clear p9
              try clear q15
              try clear q9
              obtain ⟨x5_2, x7_2, x8_2, rfl, HA, HK2, HO_5, HO_7, HB⟩ := hrel
              have hl5_2 := (Kd.R_reads' HO_5.out).1
              rw [hl5_2] at HO_5
              (try simp only [hl5_2])
              (try simp only [hl5_2] at HO_7)
              cases gk with
              | zero => exact absurd HA.out (by simp [spec_l2Spread.l1])
              | succ k2 =>
               have H := HA.out
               clear HA
               simp only [spec_l2Spread.l1] at H
               by_cases c21 : x8_2 < (x7_2.length : Int)
               · rw [if_pos c21] at H
                 have c21b0 := decide_eq_true c21
                 clear c21
                 by_cases c22 : 0 ≤ x8_2
                 · rw [if_pos c22] at H
                   have c22b0 := decide_eq_true c22
                   clear c22
                   by_cases c23 : 0 ≤ (rd x7_2 x8_2)
                   · rw [if_pos c23] at H
                     have c23b0 := decide_eq_true c23
                     clear c23
                     by_cases c24 : (rd x7_2 x8_2) < (l0.length : Int)
                     · rw [if_pos c24] at H
                       have c24b0 := decide_eq_true c24
                       clear c24
                       have H' := Aside0.mk H
                       clear H
                       obtain ⟨Ao25, co25, eo25⟩ := Kd.R_slice HO_7.out
                       subst eo25
                       have p245 : 0 ≤ (x8_2 : Int) := of_decide_eq_true zA
                       have q245 : x8_2 < (x7_2.length : Int) := of_decide_eq_true zA
                       obtain ⟨ad245, e245, hx245_0⟩ := Kd.at_int (Kd.R_reads' HO_7.out).2.2 x8_2 p245 q245
                       cases e245
                       replace p245 := eq_true p245
                       replace q245 := eq_true q245
                       have p246 : 0 ≤ ((rd x7_2 x8_2) : Int) := of_decide_eq_true zA
                       have q246 : (rd x7_2 x8_2) < (l0.length : Int) := of_decide_eq_true zA
                       obtain ⟨ad246, A246_0, c246_0, e246, hx246_0, hl246_0, hi246_0⟩ := at_L1 HR0.out (rd x7_2 x8_2) p246 q246
                       cases e246
                       (try replace hx246_0 := (HB.out.cell (World.block_lt_of_cell? w _ hx246_0)).trans hx246_0)
                       have HR246_0 := Aside0.mk hi246_0
                       have HC246_0 := Aside0.mk hl246_0
                       clear hi246_0 hl246_0
                       replace p246 := eq_true p246
                       replace q246 := eq_true q246
                       go_wp2
                       go_loopg [7, 10] k2 (fun kq v7 v10 w' => ∃ (x5_3 : List Int) (x7_3 : List Int) (x10_3 : Int), v10 = .int .i64 x10_3 ∧ Aside0 (spec_l2Spread.l2 kq l0 x5_3 x7_3 x8_2 (rd_L1 l0 (rd x7_2 x8_2)) x10_3 = some r) ∧ Aside0 (kq ≤ k2) ∧ Aside0 (Kd.R (Kd.int .i64) 3 w' w.heap.size (fun k_ => some k_ ≠ (v7 : Value).ownBlock) (.slice (some ⟨go15, 0, none⟩) x5_2.length co16) x5_3) ∧ Aside0 (Kd.R (Kd.int .i64) 3 w' w.heap.size (fun k_ => some k_ ≠ ((.slice (some ⟨go15, 0, none⟩) x5_2.length co16) : Value).ownBlock) v7 x7_3) ∧ Aside0 (Below w.heap.size w w'))
                       case atStart => exact ⟨(x5_2), (x7_2), (0), (by first | rfl | (simp; done) | (simp [*]; done)), H', ⟨Nat.le_refl _⟩, ⟨by (try simp only [hl5_2]); (with_reducible repeat (first | apply Kd.R_alloc | apply Kd.R_drewN | apply Kd.R_drew)); exact HO_5.out⟩, ⟨by (try simp only [hl5_2]); (with_reducible repeat (first | apply Kd.R_alloc | apply Kd.R_drewN | apply Kd.R_drew)); exact HO_7.out⟩, ⟨zB⟩⟩
                       case round =>
                        clear H'
                        try clear c1
                        try clear p1
                        try clear q1
                        try clear hx1
                        try clear c2
                        try clear p2
                        try clear q2
                        try clear hx2
                        try clear c3
                        try clear c3b0
                        try clear c3b1
                        try clear c4
                        try clear c4b0
                        try clear c4b1
                        try clear p6
                        try clear c7
                        try clear c7b0
                        try clear c8
                        try clear c8b0
                        try clear p9
                        try clear q9
                        try clear hx9
                        try clear hf9
                        try clear c13
                        try clear c13b0
                        try clear c14
                        try clear c14b0
                        try clear p15
                        try clear q15
                        try clear hx15
                        try clear hf15
                        try clear c21
                        try clear c21b0
                        try clear c22
                        try clear c22b0
                        try clear c23
                        try clear c23b0
                        try clear c24
                        try clear c24b0
                        try clear p24
                        try clear q24
                        try clear hx24
                        try clear hx15_0
                        try clear hx245_0
                        try clear hx246_0
                        try clear hx9_0
                        try clear p1
                        try clear p15
                        try clear p2
                        try clear p245
                        try clear p246
                        try clear p6
                        try clear p9
                        try clear q1
                        try clear q15
                        try clear q245
                        try clear q246
                        try clear q9
                        obtain ⟨x5_3, x7_3, x10_3, rfl, HA, HK3, HO_5, HO_7, HB⟩ := hrel
                        have hl5_3 := (Kd.R_reads' HO_5.out).1
                        rw [hl5_3] at HO_5
                        (try simp only [hl5_3])
                        (try simp only [hl5_3] at HO_7)
                        cases gk with
                        | zero => exact absurd HA.out (by simp [spec_l2Spread.l2])
                        | succ k3 =>
                         have H := HA.out
                         clear HA
                         simp only [spec_l2Spread.l2] at H
                         by_cases c26 : x10_3 < ((rd_L1 l0 (rd x7_2 x8_2)).length : Int)
                         · rw [if_pos c26] at H
                           have c26b0 := decide_eq_true c26
                           clear c26
                           by_cases c27 : 0 ≤ x10_3
                           · rw [if_pos c27] at H
                             have c27b0 := decide_eq_true c27
                             clear c27
                             by_cases c28 : 0 ≤ (rd (rd_L1 l0 (rd x7_2 x8_2)) x10_3)
                             · rw [if_pos c28] at H
                               have c28b0 := decide_eq_true c28
                               clear c28
                               by_cases c29 : (rd (rd_L1 l0 (rd x7_2 x8_2)) x10_3) < (x5_3.length : Int)
                               · rw [if_pos c29] at H
                                 have c29b0 := decide_eq_true c29
                                 clear c29
                                 by_cases c30 : (rd x5_3 (rd (rd_L1 l0 (rd x7_2 x8_2)) x10_3)) < 0
                                 · rw [if_pos c30] at H
                                   have c30b0 := decide_eq_true c30
                                   clear c30
                                   by_cases c31 : 0 ≤ x8_2
                                   · rw [if_pos c31] at H
                                     have c31b0 := decide_eq_true c31
                                     clear c31
                                     by_cases c32 : x8_2 < (x7_3.length : Int)
                                     · rw [if_pos c32] at H
                                       have c32b0 := decide_eq_true c32
                                       clear c32
                                       by_cases c33 : 0 ≤ (rd x7_3 x8_2)
                                       · rw [if_pos c33] at H
                                         have c33b0 := decide_eq_true c33
                                         clear c33
                                         by_cases c34 : (rd x7_3 x8_2) < (x5_3.length : Int)
                                         · rw [if_pos c34] at H
                                           have c34b0 := decide_eq_true c34
                                           clear c34
                                           obtain ⟨y252, hy252⟩ : ∃ y_ : List Int, y_ = (x5_3.set ((rd (rd_L1 l0 (rd x7_2 x8_2)) x10_3) : Int).toNat (wrap64 ((rd x5_3 (rd x7_3 x8_2)) + 1))) := ⟨_, rfl⟩
                                           replace H : (if x7_3.length < 17592186044416 then (spec_l2Spread.l2 k3 l0 y252 (x7_3 ++ [rd (rd_L1 l0 (rd x7_2 x8_2)) x10_3]) x8_2 (rd_L1 l0 (rd x7_2 x8_2)) (wrap64 (x10_3 + 1))) else (none)) = some r := by first | (rw [hy252]; with_reducible exact H) | (have H2_ := (Option.bind_some _ _).symm.trans H; rw [hy252]; with_reducible exact H2_) | (have H2_ := (Option.bind_some _ _).symm.trans H; with_reducible exact H2_) | with_reducible exact H | (rw [hy252]; exact H) | exact H
                                           have Ny252 := Aside0.mk hy252
                                           clear hy252
                                           by_cases c36 : x7_3.length < 17592186044416
                                           · rw [if_pos c36] at H
                                             have LMc36 := Aside0.mk c36
                                             clear c36
                                             obtain ⟨y254, hy254⟩ : ∃ y_ : List Int, y_ = (x7_3 ++ [rd (rd_L1 l0 (rd x7_2 x8_2)) x10_3]) := ⟨_, rfl⟩
                                             replace H : (spec_l2Spread.l2 k3 l0 y252 y254 x8_2 (rd_L1 l0 (rd x7_2 x8_2)) (wrap64 (x10_3 + 1))) = some r := by first | (rw [hy254]; with_reducible exact H) | (have H2_ := (Option.bind_some _ _).symm.trans H; rw [hy254]; with_reducible exact H2_) | (have H2_ := (Option.bind_some _ _).symm.trans H; with_reducible exact H2_) | with_reducible exact H | (rw [hy254]; exact H) | exact H
                                             have Ny254 := Aside0.mk hy254
                                             clear hy254
                                             have H' := Aside0.mk H
                                             clear H
                                             have p247 : 0 ≤ (x10_3 : Int) := of_decide_eq_true zA
                                             have q247 : x10_3 < ((rd_L1 l0 (rd x7_2 x8_2)).length : Int) := of_decide_eq_true zA
                                             obtain ⟨ad247, e247, hx247_0⟩ := Kd.at_int HR246_0.out x10_3 p247 q247
                                             cases e247
                                             (try replace hx247_0 := (HB.out.cell (World.block_lt_of_cell? w _ hx247_0)).trans hx247_0)
                                             replace p247 := eq_true p247
                                             replace q247 := eq_true q247
                                             have p248 : 0 ≤ ((rd (rd_L1 l0 (rd x7_2 x8_2)) x10_3) : Int) := of_decide_eq_true zA
                                             have q248 : (rd (rd_L1 l0 (rd x7_2 x8_2)) x10_3) < (x5_3.length : Int) := of_decide_eq_true zA
                                             obtain ⟨ad248, e248, hx248_0⟩ := Kd.at_int (Kd.R_reads' HO_5.out).2.2 (rd (rd_L1 l0 (rd x7_2 x8_2)) x10_3) p248 q248
                                             obtain rfl : (⟨go15, 0, none⟩ : Addr) = ad248 := (by injection e248)
                                             (first | simp only [add_plain] at hx248_0 | simp only [add_at] at hx248_0 | simp only [Addr.add, Nat.zero_add] at hx248_0 | skip)
                                             replace p248 := eq_true p248
                                             replace q248 := eq_true q248
                                             try go_wp2
                                             replace HO_5 := zM (Kd.R_drew HO_5.out)
                                             replace HO_7 := zM (Kd.R_drew HO_7.out)
                                             replace HB := zM (below_drew1 HB.out)
                                             have p249 : 0 ≤ (x10_3 : Int) := of_decide_eq_true zA
                                             have q249 : x10_3 < ((rd_L1 l0 (rd x7_2 x8_2)).length : Int) := of_decide_eq_true zA
                                             obtain ⟨ad249, e249, hx249_0⟩ := Kd.at_int HR246_0.out x10_3 p249 q249
                                             have hw249_0 := hx249_0
                                             obtain rfl : ad247 = ad249 := (by injection e249)
                                             (try replace hx249_0 := (HB.out.cell (World.block_lt_of_cell? w _ hx249_0)).trans hx249_0)
                                             replace p249 := eq_true p249
                                             replace q249 := eq_true q249
                                             obtain ⟨Ao38, co38, eo38⟩ := Kd.R_slice HO_7.out
                                             (first | subst eo38 | (injection eo38 with f1_ f2_ f3_; have f4_ := f1_.symm; have f5_ := f3_.symm; clear f1_ f2_ f3_; subst f4_; subst f5_))
                                             have p250 : 0 ≤ (x8_2 : Int) := of_decide_eq_true zA
                                             have q250 : x8_2 < (x7_3.length : Int) := of_decide_eq_true zA
                                             obtain ⟨ad250, e250, hx250_0⟩ := Kd.at_int (Kd.R_reads' HO_7.out).2.2 x8_2 p250 q250
                                             cases e250
                                             replace p250 := eq_true p250
                                             replace q250 := eq_true q250
                                             have p251 : 0 ≤ ((rd x7_3 x8_2) : Int) := of_decide_eq_true zA
                                             have q251 : (rd x7_3 x8_2) < (x5_3.length : Int) := of_decide_eq_true zA
                                             obtain ⟨ad251, e251, hx251_0⟩ := Kd.at_int (Kd.R_reads' HO_5.out).2.2 (rd x7_3 x8_2) p251 q251
                                             obtain rfl : (⟨go15, 0, none⟩ : Addr) = ad251 := (by injection e251)
                                             (first | simp only [add_plain] at hx251_0 | simp only [add_at] at hx251_0 | simp only [Addr.add, Nat.zero_add] at hx251_0 | skip)
                                             replace p251 := eq_true p251
                                             replace q251 := eq_true q251
                                             have p35 : 0 ≤ ((rd (rd_L1 l0 (rd x7_2 x8_2)) x10_3) : Int) := of_decide_eq_true zA
                                             have q35 : ((rd (rd_L1 l0 (rd x7_2 x8_2)) x10_3) : Int) < ((x5_3.length : Int) : Int) := of_decide_eq_true zA
                                             obtain ⟨hx35_0, hf35_0⟩ := Kd.R_celln 0 HO_5.out ((rd (rd_L1 l0 (rd x7_2 x8_2)) x10_3) : Int) p35 q35
                                             replace p35 := eq_true p35
                                             replace q35 := eq_true q35
                                             have HP39 := Kd.R_putn HO_5.out ((rd (rd_L1 l0 (rd x7_2 x8_2)) x10_3) : Int) (wrap64 ((rd x5_3 (rd x7_3 x8_2)) + 1))
                                             rw [← Ny252.out] at HP39
                                             have HQ39 := Aside0.mk HP39
                                             clear HP39
                                             refine start_ (n := 15) (S := fun w' => w'.cell? (ad247.add (x10_3).toNat) = some (.int .i64 (rd (rd_L1 l0 (rd x7_2 x8_2)) x10_3)) ∧ w'.cell? (ad250.add (x8_2).toNat) = some (.int .i64 (rd x7_3 x8_2)) ∧ w'.cell? ⟨go15, ((rd x7_3 x8_2)).toNat, none⟩ = some (.int .i64 (rd x5_3 (rd x7_3 x8_2)))) (ds := [14]) #[false, false, false, false, false, false, false, false, false, false, false, false, false, false, false] (by kernel_rfl) rfl rfl ⟨((HB.out.cell (World.block_lt_of_cell? w _ hw249_0)).trans hw249_0), hx250_0, hx251_0⟩ (fun hHeld => ?_); refine with_tabW spec_l2Spread.tab16 spec_l2Spread.bits16 (fun HT_ HW_ => ?_)
                                             generalize wr.drew = w37 at HO_5 HO_7 HB HQ39 hf35_0 hx249_0 hx250_0 hx251_0 hx35_0 hHeld ⊢
                                             refine zp HT_ 0 55 ?_
                                             refine zp HT_ 1 56 ?_
                                             refine zp HT_ 2 57 ?_
                                             refine zp HT_ 3 58 ?_
                                             refine zp HT_ 5 60 ?_
                                             refine zp HT_ 6 61 ?_
                                             refine zp HT_ 7 62 ?_
                                             refine zp HT_ 8 63 ?_
                                             refine zt HT_ HW_ 4 59 hHeld ?_ (hy := by rintro w' ⟨s0, s1, s2⟩; go_simp; with_reducible rfl)
                                             refine zt HT_ HW_ 9 64 hHeld ?_ (hy := by rintro w' ⟨s0, s1, s2⟩; go_simp; with_reducible rfl)
                                             refine zp HT_ 10 65 ?_
                                             refine zt HT_ HW_ 11 66 hHeld ?_ (hy := by rintro w' ⟨s0, s1, s2⟩; go_simp; with_reducible rfl)
                                             refine zp HT_ 12 67 ?_
                                             refine zp HT_ 13 68 ?_
                                             refine last_ (i := 14) (N := none) #[true, true, true, true, true, true, true, true, true, true, true, true, true, true, true] rfl rfl (one_of HT_.out (by kernel_rfl)) (by decide) (fun K hK => ?_)
                                             refine skip_ (w1 := ?_) (by rfl) rfl ?_ ?_
                                             rotate_left
                                             · go_simp
                                               rfl
                                             refine hK.out _ _ ?_
                                             clear hK K
                                             refine zo HT_ ?_
                                             have p253 : 0 ≤ (x10_3 : Int) := of_decide_eq_true zA
                                             have q253 : x10_3 < ((rd_L1 l0 (rd x7_2 x8_2)).length : Int) := of_decide_eq_true zA
                                             obtain ⟨ad253, e253, hx253_0⟩ := Kd.at_int HR246_0.out x10_3 p253 q253
                                             obtain rfl : ad247 = ad253 := (by injection e253)
                                             have hn253_0 : ad247.block ≠ go15 := Nat.ne_of_lt (Nat.lt_of_lt_of_le (by have := World.block_lt_of_cell? _ _ hx253_0; first | rwa [add_block] at this | exact this) GB15.out)
                                             (try replace hx253_0 := (HB.out.cell (World.block_lt_of_cell? w _ hx253_0)).trans hx253_0)
                                             replace hx253_0 := (cell_far (p := ⟨go15, ((rd (rd_L1 l0 (rd x7_2 x8_2)) x10_3) : Int).toNat, none⟩) (by first | (rw [add_block]; exact hn253_0) | (show (Addr.add _ _).block ≠ _; rw [add_block]; exact hn253_0) | exact hn253_0) (.int .i64 (wrap64 ((rd x5_3 (rd x7_3 x8_2)) + 1)))).trans hx253_0
                                             clear hn253_0
                                             replace p253 := eq_true p253
                                             replace q253 := eq_true q253
                                             try go_wp2_with (first | ((with_reducible refine gate_builtin (b := .append) (xs := #[.tmp 69, .tmp 74]) rfl ?_); at_builtin; refine Kd.R_append (Kd.int .i64) (w0 := w) w.heap.size rfl (.tmp 69) (.tmp 74) 37 3 (.int .i64 0) 8 rfl Try.underlying37 info3 rfl (by decide) (by omega) (.slice (some ad250) x7_3.length co38) x7_3 (rd (rd_L1 l0 (rd x7_2 x8_2)) x10_3) [.int .i64 (rd (rd_L1 l0 (rd x7_2 x8_2)) x10_3)] (fun k_ => some k_ ≠ (.slice (some ⟨go15, 0, none⟩) x5_3.length co16 : Value).ownBlock) (fun _ => False) rfl (by first | (go_simp; done) | (go_simp; rfl)) ?aP (fun _ hk => hk.elim) ?aF ?aO ?aB ?aS ?aL ?_; (case aP => exact rfl); (case aB => exact zB); (case aF => exact (fun k_ hk => Kd.fresh' (Kd.R_lt (zR HQ39.out)) k_ hk)); (case aO => exact (by (with_reducible repeat (first | apply Kd.R_alloc | apply Kd.R_drewN | apply Kd.R_drew)); exact Kd.R_mono (Kd.R_far (p := ⟨go15, ((rd (rd_L1 l0 (rd x7_2 x8_2)) x10_3) : Int).toNat, none⟩) (Kd.R_mono HO_7.out (fun k_ hk => (⟨hk, fun e_ => hk (by rw [e_]; rfl)⟩ : _ ∧ k_ ≠ go15))) (fun _ hk => hk.2) (.int .i64 (wrap64 ((rd x5_3 (rd x7_3 x8_2)) + 1)))) (fun _ hk => hk.1))); (case aS => exact (below_size zB)); (case aL => have := LMc36.out; omega); intro v255 w40 ho hb hg hat; rw [← Ny254.out] at ho; replace HO_5 := zM (Kd.R_after (ok := (fun _ => True)) (by (with_reducible repeat (first | apply Kd.R_alloc | apply Kd.R_drewN | apply Kd.R_drew)); exact Kd.R_mono HQ39.out (fun _ hk => ⟨trivial, hk⟩)) hg hat); replace HB := zM (hb); have HO256 := zM (ho); clear HO_7; clear ho hb hg hat))
                                             (try simp only [← hl5_3])
                                             go_roundg k3
                                             case measure => have := HK1.out; have := HK2.out; have := HK3.out; omega
                                             case rel => exact ⟨(y252), (y254), (wrap64 (x10_3 + 1)), (by first | rfl | (simp; done) | (simp [*]; done)), H', ⟨by have := HK1.out; have := HK2.out; have := HK3.out; omega⟩, ⟨by (try simp only [hl5_2]); (try simp only [hl5_3]); (with_reducible repeat (first | apply Kd.R_alloc | apply Kd.R_drewN | apply Kd.R_drew)); exact Kd.R_mono HO_5.out (fun _ hk => hk.2)⟩, ⟨by (try simp only [hl5_2]); (try simp only [hl5_3]); (with_reducible repeat (first | apply Kd.R_alloc | apply Kd.R_drewN | apply Kd.R_drew)); exact HO256.out⟩, ⟨zB⟩⟩
                                           · rw [if_neg c36] at H
                                             exact absurd H (by simp)
                                         · rw [if_neg c34] at H
                                           exact absurd H (by simp)
                                       · rw [if_neg c33] at H
                                         exact absurd H (by simp)
                                     · rw [if_neg c32] at H
                                       exact absurd H (by simp)
                                   · rw [if_neg c31] at H
                                     exact absurd H (by simp)
                                 · rw [if_neg c30] at H
                                   have c30b0 : decide ((rd x5_3 (rd (rd_L1 l0 (rd x7_2 x8_2)) x10_3)) < 0) = false := decide_eq_false c30
                                   clear c30
                                   have H' := Aside0.mk H
                                   clear H
                                   have p247 : 0 ≤ (x10_3 : Int) := of_decide_eq_true zA
                                   have q247 : x10_3 < ((rd_L1 l0 (rd x7_2 x8_2)).length : Int) := of_decide_eq_true zA
                                   obtain ⟨ad247, e247, hx247_0⟩ := Kd.at_int HR246_0.out x10_3 p247 q247
                                   cases e247
                                   (try replace hx247_0 := (HB.out.cell (World.block_lt_of_cell? w _ hx247_0)).trans hx247_0)
                                   replace p247 := eq_true p247
                                   replace q247 := eq_true q247
                                   have p248 : 0 ≤ ((rd (rd_L1 l0 (rd x7_2 x8_2)) x10_3) : Int) := of_decide_eq_true zA
                                   have q248 : (rd (rd_L1 l0 (rd x7_2 x8_2)) x10_3) < (x5_3.length : Int) := of_decide_eq_true zA
                                   obtain ⟨ad248, e248, hx248_0⟩ := Kd.at_int (Kd.R_reads' HO_5.out).2.2 (rd (rd_L1 l0 (rd x7_2 x8_2)) x10_3) p248 q248
                                   obtain rfl : (⟨go15, 0, none⟩ : Addr) = ad248 := (by injection e248)
                                   (first | simp only [add_plain] at hx248_0 | simp only [add_at] at hx248_0 | simp only [Addr.add, Nat.zero_add] at hx248_0 | skip)
                                   replace p248 := eq_true p248
                                   replace q248 := eq_true q248
                                   go_wp2
                                   (try simp only [← hl5_3])
                                   go_roundg k3
                                   case measure => have := HK1.out; have := HK2.out; have := HK3.out; omega
                                   case rel => exact ⟨(x5_3), (x7_3), (wrap64 (x10_3 + 1)), (by first | rfl | (simp; done) | (simp [*]; done)), H', ⟨by have := HK1.out; have := HK2.out; have := HK3.out; omega⟩, ⟨by (try simp only [hl5_2]); (try simp only [hl5_3]); (with_reducible repeat (first | apply Kd.R_alloc | apply Kd.R_drewN | apply Kd.R_drew)); exact HO_5.out⟩, ⟨by (try simp only [hl5_2]); (try simp only [hl5_3]); (with_reducible repeat (first | apply Kd.R_alloc | apply Kd.R_drewN | apply Kd.R_drew)); exact HO_7.out⟩, ⟨zB⟩⟩
                               · rw [if_neg c29] at H
                                 exact absurd H (by simp)
                             · rw [if_neg c28] at H
                               exact absurd H (by simp)
                           · rw [if_neg c27] at H
                             exact absurd H (by simp)
                         · rw [if_neg c26] at H
                           have c26b0 : decide (x10_3 < ((rd_L1 l0 (rd x7_2 x8_2)).length : Int)) = false := decide_eq_false c26
                           clear c26
                           have H' := Aside0.mk H
                           clear H
                           go_wp2
                           (try simp only [← hl5_2, ← hl5_3])
                           go_roundg k3
                           case measure => have := HK1.out; have := HK2.out; have := HK3.out; omega
                           case rel => exact ⟨(x5_3), (x7_3), (wrap64 (x8_2 + 1)), (by first | rfl | (simp; done) | (simp [*]; done)), H', ⟨by have := HK1.out; have := HK2.out; have := HK3.out; omega⟩, ⟨by (try simp only [hl5_2]); (try simp only [hl5_3]); (with_reducible repeat (first | apply Kd.R_alloc | apply Kd.R_drewN | apply Kd.R_drew)); exact HO_5.out⟩, ⟨by (try simp only [hl5_2]); (try simp only [hl5_3]); (with_reducible repeat (first | apply Kd.R_alloc | apply Kd.R_drewN | apply Kd.R_drew)); exact HO_7.out⟩, ⟨zB⟩⟩
                     · rw [if_neg c24] at H
                       exact absurd H (by simp)
                   · rw [if_neg c23] at H
                     exact absurd H (by simp)
                 · rw [if_neg c22] at H
                   exact absurd H (by simp)
               · rw [if_neg c21] at H
                 have c21b0 : decide (x8_2 < (x7_2.length : Int)) = false := decide_eq_false c21
                 clear c21
                 obtain rfl := Option.some.inj H
                 obtain ⟨Ao41, co41, eo41⟩ := Kd.R_slice HO_7.out
                 subst eo41
                 go_wp2
                 go_ret
                 exact ⟨_, by first | rfl | (simp [errW_none, errW_some] <;> rfl) | (simp [*, errW_none, errW_some] <;> rfl), by (with_reducible repeat (first | apply Kd.R_alloc | apply Kd.R_drewN | apply Kd.R_drew)); exact Kd.R_mono HO_5.out (fun _ hk => trivial), zB⟩
           · rw [if_neg c14] at H
             exact absurd H (by simp)
         · rw [if_neg c13] at H
           exact absurd H (by simp)
   · rw [if_neg c4] at H
     exact absurd H (by simp)
 · rw [if_neg c3] at H
   exact absurd H (by simp)

/-! ### spec_l1Least: function 14 -/
def spec_l1Least.f (a0 : Int) (a1 : Int) : Option (Int) := if a0 < a1 then (some a0) else (some a1)
set_option maxHeartbeats 8000000 in
set_option maxRecDepth 100000 in
theorem spec_l1Least.calls (a0 : Int) (a1 : Int) (r : Int) (w : World) (h : spec_l1Least.f a0 a1 = some r) :
 Calls Try.prog 14 #[.int .i64 a0, .int .i64 a1] w fun e w' => e = .returned (.int .i64 r) ∧ Drawn0 w w' := by
 have H : (if a0 < a1 then (some a0) else (some a1)) = some r := h
 clear h
 by_cases c3 : a0 < a1
 · rw [if_pos c3] at H
   have c3b0 := decide_eq_true c3
   clear c3
   obtain rfl := Option.some.inj H
   go_enter Try.func14, Try.ntmps14
   go_wp2
   go_ret
   exact ⟨by first | rfl | (simp; done) | (simp [*]; done), by repeat (first | exact Drawn0.refl _ | apply Drawn0.step)⟩
 · rw [if_neg c3] at H
   have c3b0 : decide (a0 < a1) = false := decide_eq_false c3
   clear c3
   obtain rfl := Option.some.inj H
   go_enter Try.func14, Try.ntmps14
   go_wp2
   go_ret
   exact ⟨by first | rfl | (simp; done) | (simp [*]; done), by repeat (first | exact Drawn0.refl _ | apply Drawn0.step)⟩

end Go.Proofs.Ytopgbijegnnjbaa.P
