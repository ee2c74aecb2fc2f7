-- Written by a program of this session (the kit's print, turned: wip/print/patch.py) out of the translation. Not trusted: Lean checks it.
import Derived.Test.YtnjadmgnnbamhaaTokenBoundG5
import Derived.Test.YtnjadmgnnbamhaaTokenBoundG9
namespace Go.Proofs.Ytnjadmgnnbamhaa.P
open Go.RowKit Go.Proofs.YtnjadmgnnbamhaaW.PrintWords Go.Proofs.YtnjadmgnnbamhaaW.PrintLast Go.Proofs.YtnjadmgnnbamhaaW.PrintMore
attribute [local go_sem] max2_int min2_int max_two min_two max_three min_three max_four min_four   -- for this text's walks alone
set_option linter.unusedVariables false
set_option linter.unusedSimpArgs false

/-! ### spec_l2Spread: function 26 -/
mutual
def spec_l2Spread.l0 : Nat → List (List Int) → Int → List Int → Int → Option (List Int)
 | 0, _, _, _, _ => none
 | k + 1, x0, x1, x5, x6 => if x6 < (x5.length : Int) then (if 0 ≤ x6 then (spec_l2Spread.l0 k x0 x1 (x5.set (x6 : Int).toNat (-1)) (wrap64 (x6 + 1))) else (none)) else (if 0 ≤ x1 then (if x1 < (x5.length : Int) then (spec_l2Spread.l1 k x0 (x5.set (x1 : Int).toNat 0) (([x1] : List Int)) 0) else (none)) else (none))
def spec_l2Spread.l1 : Nat → List (List Int) → List Int → List Int → Int → Option (List Int)
 | 0, _, _, _, _ => none
 | k + 1, x0, x5, x7, x8 => if x8 < (x7.length : Int) then (if 0 ≤ x8 then (if 0 ≤ (rd x7 x8) then (if (rd x7 x8) < (x0.length : Int) then (spec_l2Spread.l2 k x0 x5 x7 x8 (rd_L4 x0 (rd x7 x8)) 0) else (none)) else (none)) else (none)) else (some x5)
def spec_l2Spread.l2 : Nat → List (List Int) → List Int → List Int → Int → List Int → Int → Option (List Int)
 | 0, _, _, _, _, _, _ => none
 | k + 1, x0, x5, x7, x8, x9, x10 => if x10 < (x9.length : Int) then (if 0 ≤ x10 then (if 0 ≤ (rd x9 x10) then (if (rd x9 x10) < (x5.length : Int) then (if (rd x5 (rd x9 x10)) < 0 then (if 0 ≤ x8 then (if x8 < (x7.length : Int) then (if 0 ≤ (rd x7 x8) then (if (rd x7 x8) < (x5.length : Int) then (if x7.length < 17592186044416 then (spec_l2Spread.l2 k x0 (x5.set ((rd x9 x10) : Int).toNat (wrap64 ((rd x5 (rd x7 x8)) + 1))) (x7 ++ [rd x9 x10]) x8 x9 (wrap64 (x10 + 1))) else (none)) else (none)) else (none)) else (none)) else (none)) else (spec_l2Spread.l2 k x0 x5 x7 x8 x9 (wrap64 (x10 + 1)))) else (none)) else (none)) else (none)) else (spec_l2Spread.l1 k x0 x5 x7 (wrap64 (x8 + 1)))
end
def spec_l2Spread.f (k : Nat) (l0 : List (List Int)) (a1 : Int) : Option (List Int) := if 0 ≤ (l0.length : Int) then (if ((l0.length : Int) : Int).toNat ≤ 35184372088832 then (spec_l2Spread.l0 k l0 a1 (List.replicate ((l0.length : Int) : Int).toNat 0) 0) else (none)) else (none)
def spec_l2Spread.T16 : Bool × List (List Nat × List Nat) := (true, [([], []), ([], []), ([], []), ([1, 2], [1, 2]), ([3], [3]), ([], []), ([], []), ([], []), ([6, 7], [6, 7]), ([8], [8]), ([5, 9], [5, 9]), ([10], [10]), ([11], [11]), ([0, 4, 0, 1, 2, 3, 4, 5, 6, 7, 8, 9, 10, 11, 12], [0, 4]), ([13, 12, 0, 1, 2, 3, 4, 5, 6, 7, 8, 9, 10, 11, 12], [12, 13])])
def spec_l2Spread.B16 : List Nat := [0, 0, 0, 6, 14, 0, 0, 0, 192, 448, 992, 2016, 4064, 8191, 16383]
theorem spec_l2Spread.tab16 : rtab .any (opsOf Try.f26 16) = spec_l2Spread.T16 := by kernel_rfl
theorem spec_l2Spread.bits16 : waitsOk spec_l2Spread.T16.2 spec_l2Spread.B16 = true := by kernel_rfl
set_option maxHeartbeats 8000000 in
set_option maxRecDepth 100000 in
theorem spec_l2Spread.calls (k : Nat) (A0 : Option Addr) (c0 : Nat) (l0 : List (List Int)) (a1 : Int) (r : List Int) (w : World) (hr0 : Kd.C (Kd.slice 3 (Kd.int .i64)) w A0 l0.length l0) (hc0 : l0.length ≤ c0) (h : spec_l2Spread.f k l0 a1 = some r) :
 Calls Try.prog 26 #[.slice A0 l0.length c0, .int .i64 a1] w fun e w' => ∃ v0_ : Value, e = .returned (v0_) ∧ Kd.R (Kd.int .i64) 3 w' w.heap.size (fun _ => True) v0_ r ∧ Below w.heap.size w w' := by
 have HR0 := Aside0.mk hr0
 have HC0 := Aside0.mk hc0
 clear hr0 hc0
 have HB := zM (Below.refl w.heap.size w)
 have H : (if 0 ≤ (l0.length : Int) then (if ((l0.length : Int) : Int).toNat ≤ 35184372088832 then (spec_l2Spread.l0 k l0 a1 (List.replicate ((l0.length : Int) : Int).toNat 0) 0) else (none)) else (none)) = some r := h
 clear h
 by_cases c3 : 0 ≤ (l0.length : Int)
 · rw [if_pos c3] at H
   have c3b0 := eq_true c3
   have c3b1 : decide (0 ≤ (l0.length : Int)) = true := decide_eq_true c3
   clear c3
   by_cases c4 : ((l0.length : Int) : Int).toNat ≤ 35184372088832
   · rw [if_pos c4] at H
     have c4b0 := eq_true c4
     have c4b1 : decide (((l0.length : Int) : Int).toNat ≤ 35184372088832) = true := decide_eq_true c4
     clear c4
     obtain ⟨y253, hy253⟩ : ∃ y_ : List Int, y_ = (List.replicate ((l0.length : Int) : Int).toNat 0) := ⟨_, rfl⟩
     replace H : (spec_l2Spread.l0 k l0 a1 y253 0) = some r := by first | (rw [hy253]; with_reducible exact H) | (have H2_ := (Option.bind_some _ _).symm.trans H; rw [hy253]; with_reducible exact H2_) | (have H2_ := (Option.bind_some _ _).symm.trans H; with_reducible exact H2_) | with_reducible exact H | (rw [hy253]; exact H) | exact H
     have Ny253 := Aside0.mk hy253
     clear hy253
     have H' := Aside0.mk H
     clear H
     go_enter Try.func26, Try.ntmps26
     go_wp2_with (first | ((with_reducible refine gate_dst (N := 13) rfl ?_); refine Kd.R_make (Kd.int .i64) _ 3 rfl (N := 13) rfl 25 _ _ rfl (l0.length : Int) rfl rfl Try.underlying25 (.int .i64 0) 8 info3 rfl (by decide) (by omega) 0 (ok := fun _ => True) (okp := fun _ => True) rfl (fun _ hk => hk) trivial (of_decide_eq_true zA) (Nat.le_trans (Nat.mul_le_mul_right _ (of_decide_eq_true zA : (l0.length : Int).toNat ≤ 35184372088832)) (by omega)) (Below.refl _ _) (Nat.le_refl _) ?_; intro v254 w5 ho6 hb hg_ hnew_; clear hg_ hnew_; (first | rw [← Ny253.out] at ho6 | (simp only [Int.reduceToNat] at ho6; rw [← Ny253.out] at ho6)); have HO255 := zM (Kd.R_lower ho6 (below_size zB)); replace HB := zM (below_step zB hb); clear hb ho6))
     go_loopg [6] k (fun kq v6 w' => ∃ (x5_1 : List Int) (x6_1 : Int), v6 = .int .i64 x6_1 ∧ Aside0 (spec_l2Spread.l0 kq l0 a1 x5_1 x6_1 = some r) ∧ Aside0 (kq ≤ k) ∧ Aside0 (Kd.R (Kd.int .i64) 3 w' w.heap.size (fun _ => True) v254 x5_1) ∧ Aside0 (Below w.heap.size w w'))
     case atStart => exact ⟨(y253), (0), (by first | rfl | (simp; done) | (simp [*]; done)), H', ⟨Nat.le_refl _⟩, ⟨zR HO255.out⟩, ⟨zB⟩⟩
     case round =>
      clear H'
      try clear c2
      try clear p2
      try clear c3
      try clear c3b0
      try clear c3b1
      try clear c4
      try clear c4b0
      try clear c4b1
      obtain ⟨x5_1, x6_1, rfl, HA, HK1, HO_5, HB⟩ := hrel
      cases gk with
      | zero => exact absurd HA.out (by simp [spec_l2Spread.l0])
      | succ k1 =>
       have H := HA.out
       clear HA
       simp only [spec_l2Spread.l0] at H
       by_cases c7 : x6_1 < (x5_1.length : Int)
       · rw [if_pos c7] at H
         have c7b0 := decide_eq_true c7
         clear c7
         by_cases c8 : 0 ≤ x6_1
         · rw [if_pos c8] at H
           have c8b0 := decide_eq_true c8
           clear c8
           obtain ⟨y256, hy256⟩ : ∃ y_ : List Int, y_ = (x5_1.set (x6_1 : Int).toNat (-1)) := ⟨_, rfl⟩
           replace H : (spec_l2Spread.l0 k1 l0 a1 y256 (wrap64 (x6_1 + 1))) = some r := by first | (rw [hy256]; with_reducible exact H) | (have H2_ := (Option.bind_some _ _).symm.trans H; rw [hy256]; with_reducible exact H2_) | (have H2_ := (Option.bind_some _ _).symm.trans H; with_reducible exact H2_) | with_reducible exact H | (rw [hy256]; exact H) | exact H
           have Ny256 := Aside0.mk hy256
           clear hy256
           have H' := Aside0.mk H
           clear H
           obtain ⟨Ao10, co10, eo10⟩ := Kd.R_slice HO_5.out
           subst eo10
           have p9 : 0 ≤ (x6_1 : Int) := of_decide_eq_true zA
           have q9 : (x6_1 : Int) < ((x5_1.length : Int) : Int) := of_decide_eq_true zA
           obtain ⟨go9, co9, eo9, gb9, gl9, cl9, HG9⟩ := Kd.R_form HO_5.out (by omega)
           (first | cases eo9 | (injection eo9 with ea_ en_ ec_; (first | subst ea_ | (injection ea_ with ea_; subst ea_)); subst ec_; clear en_))
           have GB9 := Aside0.mk gb9
           have GG9 := Aside0.mk HG9
           clear gb9 gl9 HG9
           obtain ⟨hx9_0, hf9_0⟩ := Kd.R_celln 0 HO_5.out (x6_1 : Int) p9 q9
           replace p9 := eq_true p9
           replace q9 := eq_true q9
           have HP11 := Kd.R_putg HO_5.out (x6_1 : Int) (-1)
           go_wp2_with (first | ((with_reducible refine gate_store (t := 3) (p := 22) rfl ?_); refine store_event (t := 3) (p := 22) (v := ?vo_w12) (w1 := (wr.setCell ⟨go9, (x6_1 : Int).toNat, none⟩ (.int .i64 (-1)))) ?hg ?ho ?hn ?hr ?_; (case ho => rfl); (case hg => rfl); (case hn => rfl); (case hr => first | (go_simp; done) | (go_simp; rfl)); intro w12 hw; have hg : wr.grownBy w12 (some go9) := (by rw [hw]; exact HP11.2); have hp_ : Kd.R (Kd.int .i64) 3 w12 w.heap.size (fun _ => True) (.slice (some ⟨go9, 0, none⟩) x5_1.length co10) y256 := (by rw [hw, Ny256.out]; exact HP11.1); clear HP11; replace HO_5 := zM (hp_); replace HB := zM ((by rw [hw]; exact below_set (HB.out) GB9.out : Below w.heap.size w w12)); clear hg hw hp_))
           go_roundg k1
           case measure => have := HK1.out; omega
           case rel => exact ⟨(y256), (wrap64 (x6_1 + 1)), (by first | rfl | (simp; done) | (simp [*]; done)), H', ⟨by have := HK1.out; omega⟩, ⟨zR HO_5.out⟩, ⟨zB⟩⟩
         · rw [if_neg c8] at H
           exact absurd H (by simp)
       · rw [if_neg c7] at H
         have c7b0 : decide (x6_1 < (x5_1.length : Int)) = false := decide_eq_false c7
         clear c7
         obtain ⟨y257, hy257⟩ : ∃ y_ : List Int, y_ = (([a1] : List Int)) := ⟨_, rfl⟩
         replace H : (if 0 ≤ a1 then (if a1 < (x5_1.length : Int) then (spec_l2Spread.l1 k1 l0 (x5_1.set (a1 : Int).toNat 0) y257 0) else (none)) else (none)) = some r := by first | (rw [hy257]; with_reducible exact H) | (have H2_ := (Option.bind_some _ _).symm.trans H; rw [hy257]; with_reducible exact H2_) | (have H2_ := (Option.bind_some _ _).symm.trans H; with_reducible exact H2_) | with_reducible exact H | (rw [hy257]; exact H) | exact H
         have Ny257 := Aside0.mk hy257
         clear hy257
         by_cases c13 : 0 ≤ a1
         · rw [if_pos c13] at H
           have c13b0 := decide_eq_true c13
           clear c13
           by_cases c14 : a1 < (x5_1.length : Int)
           · rw [if_pos c14] at H
             have c14b0 := decide_eq_true c14
             clear c14
             obtain ⟨y260, hy260⟩ : ∃ y_ : List Int, y_ = (x5_1.set (a1 : Int).toNat 0) := ⟨_, rfl⟩
             replace H : (spec_l2Spread.l1 k1 l0 y260 y257 0) = some r := by first | (rw [hy260]; with_reducible exact H) | (have H2_ := (Option.bind_some _ _).symm.trans H; rw [hy260]; with_reducible exact H2_) | (have H2_ := (Option.bind_some _ _).symm.trans H; with_reducible exact H2_) | with_reducible exact H | (rw [hy260]; exact H) | exact H
             have Ny260 := Aside0.mk hy260
             clear hy260
             have H' := Aside0.mk H
             clear H
             obtain ⟨Ao16, co16, eo16⟩ := Kd.R_slice HO_5.out
             subst eo16
             go_wp2_with (first | ((with_reducible refine gate_dst (N := 24) rfl ?_); refine Kd.R_lit (Kd.int .i64) _ 3 ?hg (N := 24) ?hd (xs := ([a1] : List Int)) (inner := [.int .i64 a1]) (ok := fun _ => True) (okp := fun _ => True) ?hr ?hp (fun _ hk => hk) trivial (Below.refl _ _) (Nat.le_refl _) (by simp) ?_; (case hd => rfl); (case hg => rfl); (case hr => first | (go_simp; done) | (go_simp; rfl)); (case hp => exact (Reps.one (show Kd.M (Kd.int .i64) _ _ _ a1 [.int .i64 a1] from rfl) (Reps.none _ _))); intro v258 w17 ho18 hb hg_ hnew_; clear hg_ hnew_; (first | rw [← Ny257.out] at ho18 | (simp only [Int.reduceToNat] at ho18; rw [← Ny257.out] at ho18)); have HO259 := zM (Kd.R_lower (Kd.R_new' ho18 (Kd.R_lt (zR HO_5.out))) (below_size zB)); replace HO_5 := zM (Kd.R_elder' (zR HO_5.out) (Kd.R_base ho18) hb); replace HB := zM (below_step zB hb); clear hb ho18; have p15 : 0 ≤ (a1 : Int) := of_decide_eq_true zA; have q15 : (a1 : Int) < ((x5_1.length : Int) : Int) := of_decide_eq_true zA; obtain ⟨go15, co15, eo15, gb15, gl15, cl15, HG15⟩ := Kd.R_form HO_5.out (by omega); (first | cases eo15 | (injection eo15 with ea_ en_ ec_; (first | subst ea_ | (injection ea_ with ea_; subst ea_)); subst ec_; clear en_)); have GB15 := Aside0.mk gb15; have GG15 := Aside0.mk HG15; clear gb15 gl15 HG15; obtain ⟨hx15_0, hf15_0⟩ := Kd.R_celln 0 HO_5.out (a1 : Int) p15 q15; replace p15 := eq_true p15; replace q15 := eq_true q15; have n_ := zM (Kd.R_mono (ok' := (fun k_ => some k_ ≠ (v258 : Value).ownBlock)) HO_5.out (fun k_ hk => hk.2)); clear HO_5; have HO_5 := n_; clear n_; obtain ⟨hy19_, hz19_⟩ := Kd.R_celln 0 HO_5.out (a1 : Int) (of_decide_eq_true zA) (of_decide_eq_true zA); have HP19 := Kd.R_putg HO_5.out (a1 : Int) 0) | ((with_reducible refine gate_store (t := 3) (p := 27) rfl ?_); refine store_event (t := 3) (p := 27) (v := ?vo_w20) (w1 := (w17.setCell ⟨go15, (a1 : Int).toNat, none⟩ (.int .i64 0))) ?hg ?ho ?hn ?hr ?_; (case ho => rfl); (case hg => rfl); (case hn => rfl); (case hr => first | (go_simp; done) | (go_simp; rfl)); intro w20 hw; have hg : w17.grownBy w20 (some go15) := (by rw [hw]; exact HP19.2); have hp_ : Kd.R (Kd.int .i64) 3 w20 w.heap.size (fun k_ => some k_ ≠ (v258 : Value).ownBlock) (.slice (some ⟨go15, 0, none⟩) x5_1.length co16) y260 := (by rw [hw, Ny260.out]; exact HP19.1); clear HP19; replace HO_5 := zM (hp_); replace HO259 := zM (Kd.R_after (v := (.slice (some ⟨go15, 0, none⟩) x5_1.length co16)) (v1 := (.slice (some ⟨go15, 0, none⟩) x5_1.length co16)) (ok := (fun _ => True)) (zR HO259.out) hg (.inl rfl)); replace HB := zM ((by rw [hw]; exact below_set (HB.out) GB15.out : Below w.heap.size w w20)); clear hg hw hp_))
             go_loopg [7, 8] k1 (fun kq v7 v8 w' => ∃ (x5_2 : List Int) (x7_2 : List Int) (x8_2 : Int), v8 = .int .i64 x8_2 ∧ Aside0 (spec_l2Spread.l1 kq l0 x5_2 x7_2 x8_2 = some r) ∧ Aside0 (kq ≤ k1) ∧ Aside0 (Kd.R (Kd.int .i64) 3 w' w.heap.size (fun k_ => some k_ ≠ (v7 : Value).ownBlock) (.slice (some ⟨go15, 0, none⟩) x5_1.length co16) x5_2) ∧ Aside0 (Kd.R (Kd.int .i64) 3 w' w.heap.size (fun k_ => some k_ ≠ ((.slice (some ⟨go15, 0, none⟩) x5_1.length co16) : Value).ownBlock) v7 x7_2) ∧ Aside0 (Below w.heap.size w w'))
             case atStart => exact ⟨(y260), (y257), (0), (by first | rfl | (simp; done) | (simp [*]; done)), H', ⟨Nat.le_refl _⟩, ⟨zR HO_5.out⟩, ⟨by (with_reducible repeat (first | apply Kd.R_alloc | apply Kd.R_drewN | apply Kd.R_drew)); exact Kd.R_mono HO259.out (fun _ hk => hk.2)⟩, ⟨zB⟩⟩
             case round =>
              clear H'
              try clear c1
              try clear p1
              try clear q1
              try clear hx1
              try clear c2
              try clear p2
              try clear c3
              try clear c3b0
              try clear c3b1
              try clear c4
              try clear c4b0
              try clear c4b1
              try clear p6
              try clear c7
              try clear c7b0
              try clear c8
              try clear c8b0
              try clear p9
              try clear q9
              try clear hx9
              try clear hf9
              try clear c13
              try clear c13b0
              try clear c14
              try clear c14b0
              try clear p15
              try clear q15
              try clear hx15
              try clear hf15
              try clear hx15_0
              try clear hx9_0
              try clear p15
              try clear p2
              try clear p9
              try clear q15
              try clear q9
              obtain ⟨x5_2, x7_2, x8_2, rfl, HA, HK2, HO_5, HO_7, HB⟩ := hrel
              have hl5_2 := (Kd.R_reads' HO_5.out).1
              rw [hl5_2] at HO_5
              (try simp only [hl5_2])
              (try simp only [hl5_2] at HO_7)
              cases gk with
              | zero => exact absurd HA.out (by simp [spec_l2Spread.l1])
              | succ k2 =>
               have H := HA.out
               clear HA
               simp only [spec_l2Spread.l1] at H
               by_cases c21 : x8_2 < (x7_2.length : Int)
               · rw [if_pos c21] at H
                 have c21b0 := decide_eq_true c21
                 clear c21
                 by_cases c22 : 0 ≤ x8_2
                 · rw [if_pos c22] at H
                   have c22b0 := decide_eq_true c22
                   clear c22
                   by_cases c23 : 0 ≤ (rd x7_2 x8_2)
                   · rw [if_pos c23] at H
                     have c23b0 := decide_eq_true c23
                     clear c23
                     by_cases c24 : (rd x7_2 x8_2) < (l0.length : Int)
                     · rw [if_pos c24] at H
                       have c24b0 := decide_eq_true c24
                       clear c24
                       have H' := Aside0.mk H
                       clear H
                       obtain ⟨Ao25, co25, eo25⟩ := Kd.R_slice HO_7.out
                       subst eo25
                       have p261 : 0 ≤ (x8_2 : Int) := of_decide_eq_true zA
                       have q261 : x8_2 < (x7_2.length : Int) := of_decide_eq_true zA
                       obtain ⟨ad261, e261, hx261_0⟩ := Kd.at_int (Kd.R_reads' HO_7.out).2.2 x8_2 p261 q261
                       cases e261
                       replace p261 := eq_true p261
                       replace q261 := eq_true q261
                       have p262 : 0 ≤ ((rd x7_2 x8_2) : Int) := of_decide_eq_true zA
                       have q262 : (rd x7_2 x8_2) < (l0.length : Int) := of_decide_eq_true zA
                       obtain ⟨ad262, A262_0, c262_0, e262, hx262_0, hl262_0, hi262_0⟩ := at_L4 HR0.out (rd x7_2 x8_2) p262 q262
                       cases e262
                       (try replace hx262_0 := (HB.out.cell (World.block_lt_of_cell? w _ hx262_0)).trans hx262_0)
                       have HR262_0 := Aside0.mk hi262_0
                       have HC262_0 := Aside0.mk hl262_0
                       clear hi262_0 hl262_0
                       replace p262 := eq_true p262
                       replace q262 := eq_true q262
                       go_wp2
                       go_loopg [7, 10] k2 (fun kq v7 v10 w' => ∃ (x5_3 : List Int) (x7_3 : List Int) (x10_3 : Int), v10 = .int .i64 x10_3 ∧ Aside0 (spec_l2Spread.l2 kq l0 x5_3 x7_3 x8_2 (rd_L4 l0 (rd x7_2 x8_2)) x10_3 = some r) ∧ Aside0 (kq ≤ k2) ∧ Aside0 (Kd.R (Kd.int .i64) 3 w' w.heap.size (fun k_ => some k_ ≠ (v7 : Value).ownBlock) (.slice (some ⟨go15, 0, none⟩) x5_2.length co16) x5_3) ∧ Aside0 (Kd.R (Kd.int .i64) 3 w' w.heap.size (fun k_ => some k_ ≠ ((.slice (some ⟨go15, 0, none⟩) x5_2.length co16) : Value).ownBlock) v7 x7_3) ∧ Aside0 (Below w.heap.size w w'))
                       case atStart => exact ⟨(x5_2), (x7_2), (0), (by first | rfl | (simp; done) | (simp [*]; done)), H', ⟨Nat.le_refl _⟩, ⟨by (try simp only [hl5_2]); (with_reducible repeat (first | apply Kd.R_alloc | apply Kd.R_drewN | apply Kd.R_drew)); exact HO_5.out⟩, ⟨by (try simp only [hl5_2]); (with_reducible repeat (first | apply Kd.R_alloc | apply Kd.R_drewN | apply Kd.R_drew)); exact HO_7.out⟩, ⟨zB⟩⟩
                       case round =>
                        clear H'
                        try clear c1
                        try clear p1
                        try clear q1
                        try clear hx1
                        try clear c2
                        try clear p2
                        try clear q2
                        try clear hx2
                        try clear c3
                        try clear c3b0
                        try clear c3b1
                        try clear c4
                        try clear c4b0
                        try clear c4b1
                        try clear p6
                        try clear c7
                        try clear c7b0
                        try clear c8
                        try clear c8b0
                        try clear p9
                        try clear q9
                        try clear hx9
                        try clear hf9
                        try clear c13
                        try clear c13b0
                        try clear c14
                        try clear c14b0
                        try clear p15
                        try clear q15
                        try clear hx15
                        try clear hf15
                        try clear c21
                        try clear c21b0
                        try clear c22
                        try clear c22b0
                        try clear c23
                        try clear c23b0
                        try clear c24
                        try clear c24b0
                        try clear hx15_0
                        try clear hx261_0
                        try clear hx262_0
                        try clear hx9_0
                        try clear p1
                        try clear p15
                        try clear p2
                        try clear p261
                        try clear p262
                        try clear p6
                        try clear p9
                        try clear q1
                        try clear q15
                        try clear q261
                        try clear q262
                        try clear q9
                        obtain ⟨x5_3, x7_3, x10_3, rfl, HA, HK3, HO_5, HO_7, HB⟩ := hrel
                        have hl5_3 := (Kd.R_reads' HO_5.out).1
                        rw [hl5_3] at HO_5
                        (try simp only [hl5_3])
                        (try simp only [hl5_3] at HO_7)
                        cases gk with
                        | zero => exact absurd HA.out (by simp [spec_l2Spread.l2])
                        | succ k3 =>
                         have H := HA.out
                         clear HA
                         simp only [spec_l2Spread.l2] at H
                         by_cases c26 : x10_3 < ((rd_L4 l0 (rd x7_2 x8_2)).length : Int)
                         · rw [if_pos c26] at H
                           have c26b0 := decide_eq_true c26
                           clear c26
                           by_cases c27 : 0 ≤ x10_3
                           · rw [if_pos c27] at H
                             have c27b0 := decide_eq_true c27
                             clear c27
                             by_cases c28 : 0 ≤ (rd (rd_L4 l0 (rd x7_2 x8_2)) x10_3)
                             · rw [if_pos c28] at H
                               have c28b0 := decide_eq_true c28
                               clear c28
                               by_cases c29 : (rd (rd_L4 l0 (rd x7_2 x8_2)) x10_3) < (x5_3.length : Int)
                               · rw [if_pos c29] at H
                                 have c29b0 := decide_eq_true c29
                                 clear c29
                                 by_cases c30 : (rd x5_3 (rd (rd_L4 l0 (rd x7_2 x8_2)) x10_3)) < 0
                                 · rw [if_pos c30] at H
                                   have c30b0 := decide_eq_true c30
                                   clear c30
                                   by_cases c31 : 0 ≤ x8_2
                                   · rw [if_pos c31] at H
                                     have c31b0 := decide_eq_true c31
                                     clear c31
                                     by_cases c32 : x8_2 < (x7_3.length : Int)
                                     · rw [if_pos c32] at H
                                       have c32b0 := decide_eq_true c32
                                       clear c32
                                       by_cases c33 : 0 ≤ (rd x7_3 x8_2)
                                       · rw [if_pos c33] at H
                                         have c33b0 := decide_eq_true c33
                                         clear c33
                                         by_cases c34 : (rd x7_3 x8_2) < (x5_3.length : Int)
                                         · rw [if_pos c34] at H
                                           have c34b0 := decide_eq_true c34
                                           clear c34
                                           obtain ⟨y268, hy268⟩ : ∃ y_ : List Int, y_ = (x5_3.set ((rd (rd_L4 l0 (rd x7_2 x8_2)) x10_3) : Int).toNat (wrap64 ((rd x5_3 (rd x7_3 x8_2)) + 1))) := ⟨_, rfl⟩
                                           replace H : (if x7_3.length < 17592186044416 then (spec_l2Spread.l2 k3 l0 y268 (x7_3 ++ [rd (rd_L4 l0 (rd x7_2 x8_2)) x10_3]) x8_2 (rd_L4 l0 (rd x7_2 x8_2)) (wrap64 (x10_3 + 1))) else (none)) = some r := by first | (rw [hy268]; with_reducible exact H) | (have H2_ := (Option.bind_some _ _).symm.trans H; rw [hy268]; with_reducible exact H2_) | (have H2_ := (Option.bind_some _ _).symm.trans H; with_reducible exact H2_) | with_reducible exact H | (rw [hy268]; exact H) | exact H
                                           have Ny268 := Aside0.mk hy268
                                           clear hy268
                                           by_cases c36 : x7_3.length < 17592186044416
                                           · rw [if_pos c36] at H
                                             have LMc36 := Aside0.mk c36
                                             clear c36
                                             obtain ⟨y270, hy270⟩ : ∃ y_ : List Int, y_ = (x7_3 ++ [rd (rd_L4 l0 (rd x7_2 x8_2)) x10_3]) := ⟨_, rfl⟩
                                             replace H : (spec_l2Spread.l2 k3 l0 y268 y270 x8_2 (rd_L4 l0 (rd x7_2 x8_2)) (wrap64 (x10_3 + 1))) = some r := by first | (rw [hy270]; with_reducible exact H) | (have H2_ := (Option.bind_some _ _).symm.trans H; rw [hy270]; with_reducible exact H2_) | (have H2_ := (Option.bind_some _ _).symm.trans H; with_reducible exact H2_) | with_reducible exact H | (rw [hy270]; exact H) | exact H
                                             have Ny270 := Aside0.mk hy270
                                             clear hy270
                                             have H' := Aside0.mk H
                                             clear H
                                             have p263 : 0 ≤ (x10_3 : Int) := of_decide_eq_true zA
                                             have q263 : x10_3 < ((rd_L4 l0 (rd x7_2 x8_2)).length : Int) := of_decide_eq_true zA
                                             obtain ⟨ad263, e263, hx263_0⟩ := Kd.at_int HR262_0.out x10_3 p263 q263
                                             cases e263
                                             (try replace hx263_0 := (HB.out.cell (World.block_lt_of_cell? w _ hx263_0)).trans hx263_0)
                                             replace p263 := eq_true p263
                                             replace q263 := eq_true q263
                                             have p264 : 0 ≤ ((rd (rd_L4 l0 (rd x7_2 x8_2)) x10_3) : Int) := of_decide_eq_true zA
                                             have q264 : (rd (rd_L4 l0 (rd x7_2 x8_2)) x10_3) < (x5_3.length : Int) := of_decide_eq_true zA
                                             obtain ⟨ad264, e264, hx264_0⟩ := Kd.at_int (Kd.R_reads' HO_5.out).2.2 (rd (rd_L4 l0 (rd x7_2 x8_2)) x10_3) p264 q264
                                             obtain rfl : (⟨go15, 0, none⟩ : Addr) = ad264 := (by injection e264)
                                             (first | simp only [add_plain] at hx264_0 | simp only [add_at] at hx264_0 | simp only [Addr.add, Nat.zero_add] at hx264_0 | skip)
                                             replace p264 := eq_true p264
                                             replace q264 := eq_true q264
                                             try go_wp2
                                             replace HO_5 := zM (Kd.R_drew HO_5.out)
                                             replace HO_7 := zM (Kd.R_drew HO_7.out)
                                             replace HB := zM (below_drew1 HB.out)
                                             have p265 : 0 ≤ (x10_3 : Int) := of_decide_eq_true zA
                                             have q265 : x10_3 < ((rd_L4 l0 (rd x7_2 x8_2)).length : Int) := of_decide_eq_true zA
                                             obtain ⟨ad265, e265, hx265_0⟩ := Kd.at_int HR262_0.out x10_3 p265 q265
                                             have hw265_0 := hx265_0
                                             obtain rfl : ad263 = ad265 := (by injection e265)
                                             (try replace hx265_0 := (HB.out.cell (World.block_lt_of_cell? w _ hx265_0)).trans hx265_0)
                                             replace p265 := eq_true p265
                                             replace q265 := eq_true q265
                                             obtain ⟨Ao38, co38, eo38⟩ := Kd.R_slice HO_7.out
                                             (first | subst eo38 | (injection eo38 with f1_ f2_ f3_; have f4_ := f1_.symm; have f5_ := f3_.symm; clear f1_ f2_ f3_; subst f4_; subst f5_))
                                             have p266 : 0 ≤ (x8_2 : Int) := of_decide_eq_true zA
                                             have q266 : x8_2 < (x7_3.length : Int) := of_decide_eq_true zA
                                             obtain ⟨ad266, e266, hx266_0⟩ := Kd.at_int (Kd.R_reads' HO_7.out).2.2 x8_2 p266 q266
                                             cases e266
                                             replace p266 := eq_true p266
                                             replace q266 := eq_true q266
                                             have p267 : 0 ≤ ((rd x7_3 x8_2) : Int) := of_decide_eq_true zA
                                             have q267 : (rd x7_3 x8_2) < (x5_3.length : Int) := of_decide_eq_true zA
                                             obtain ⟨ad267, e267, hx267_0⟩ := Kd.at_int (Kd.R_reads' HO_5.out).2.2 (rd x7_3 x8_2) p267 q267
                                             obtain rfl : (⟨go15, 0, none⟩ : Addr) = ad267 := (by injection e267)
                                             (first | simp only [add_plain] at hx267_0 | simp only [add_at] at hx267_0 | simp only [Addr.add, Nat.zero_add] at hx267_0 | skip)
                                             replace p267 := eq_true p267
                                             replace q267 := eq_true q267
                                             have p35 : 0 ≤ ((rd (rd_L4 l0 (rd x7_2 x8_2)) x10_3) : Int) := of_decide_eq_true zA
                                             have q35 : ((rd (rd_L4 l0 (rd x7_2 x8_2)) x10_3) : Int) < ((x5_3.length : Int) : Int) := of_decide_eq_true zA
                                             obtain ⟨hx35_0, hf35_0⟩ := Kd.R_celln 0 HO_5.out ((rd (rd_L4 l0 (rd x7_2 x8_2)) x10_3) : Int) p35 q35
                                             replace p35 := eq_true p35
                                             replace q35 := eq_true q35
                                             have HP39 := Kd.R_putn HO_5.out ((rd (rd_L4 l0 (rd x7_2 x8_2)) x10_3) : Int) (wrap64 ((rd x5_3 (rd x7_3 x8_2)) + 1))
                                             rw [← Ny268.out] at HP39
                                             have HQ39 := Aside0.mk HP39
                                             clear HP39
                                             refine start_ (n := 15) (S := fun w' => w'.cell? (ad263.add (x10_3).toNat) = some (.int .i64 (rd (rd_L4 l0 (rd x7_2 x8_2)) x10_3)) ∧ w'.cell? (ad266.add (x8_2).toNat) = some (.int .i64 (rd x7_3 x8_2)) ∧ w'.cell? ⟨go15, ((rd x7_3 x8_2)).toNat, none⟩ = some (.int .i64 (rd x5_3 (rd x7_3 x8_2)))) (ds := [14]) #[false, false, false, false, false, false, false, false, false, false, false, false, false, false, false] (by kernel_rfl) rfl rfl ⟨((HB.out.cell (World.block_lt_of_cell? w _ hw265_0)).trans hw265_0), hx266_0, hx267_0⟩ (fun hHeld => ?_); refine with_tabW spec_l2Spread.tab16 spec_l2Spread.bits16 (fun HT_ HW_ => ?_)
                                             generalize wr.drew = w37 at HO_5 HO_7 HB HQ39 hf35_0 hx265_0 hx266_0 hx267_0 hx35_0 hHeld ⊢
                                             refine zp HT_ 0 55 ?_
                                             refine zp HT_ 1 56 ?_
                                             refine zp HT_ 2 57 ?_
                                             refine zp HT_ 3 58 ?_
                                             refine zp HT_ 5 60 ?_
                                             refine zp HT_ 6 61 ?_
                                             refine zp HT_ 7 62 ?_
                                             refine zp HT_ 8 63 ?_
                                             refine zt HT_ HW_ 4 59 hHeld ?_ (hy := by rintro w' ⟨s0, s1, s2⟩; go_simp; with_reducible rfl)
                                             refine zt HT_ HW_ 9 64 hHeld ?_ (hy := by rintro w' ⟨s0, s1, s2⟩; go_simp; with_reducible rfl)
                                             refine zp HT_ 10 65 ?_
                                             refine zt HT_ HW_ 11 66 hHeld ?_ (hy := by rintro w' ⟨s0, s1, s2⟩; go_simp; with_reducible rfl)
                                             refine zp HT_ 12 67 ?_
                                             refine zp HT_ 13 68 ?_
                                             refine last_ (i := 14) (N := none) #[true, true, true, true, true, true, true, true, true, true, true, true, true, true, true] rfl rfl (one_of HT_.out (by kernel_rfl)) (by decide) (fun K hK => ?_)
                                             refine skip_ (w1 := ?_) (by rfl) rfl ?_ ?_
                                             rotate_left
                                             · go_simp
                                               rfl
                                             refine hK.out _ _ ?_
                                             clear hK K
                                             refine zo HT_ ?_
                                             have p269 : 0 ≤ (x10_3 : Int) := of_decide_eq_true zA
                                             have q269 : x10_3 < ((rd_L4 l0 (rd x7_2 x8_2)).length : Int) := of_decide_eq_true zA
                                             obtain ⟨ad269, e269, hx269_0⟩ := Kd.at_int HR262_0.out x10_3 p269 q269
                                             obtain rfl : ad263 = ad269 := (by injection e269)
                                             have hn269_0 : ad263.block ≠ go15 := Nat.ne_of_lt (Nat.lt_of_lt_of_le (by have := World.block_lt_of_cell? _ _ hx269_0; first | rwa [add_block] at this | exact this) GB15.out)
                                             (try replace hx269_0 := (HB.out.cell (World.block_lt_of_cell? w _ hx269_0)).trans hx269_0)
                                             replace hx269_0 := (cell_far (p := ⟨go15, ((rd (rd_L4 l0 (rd x7_2 x8_2)) x10_3) : Int).toNat, none⟩) (by first | (rw [add_block]; exact hn269_0) | (show (Addr.add _ _).block ≠ _; rw [add_block]; exact hn269_0) | exact hn269_0) (.int .i64 (wrap64 ((rd x5_3 (rd x7_3 x8_2)) + 1)))).trans hx269_0
                                             clear hn269_0
                                             replace p269 := eq_true p269
                                             replace q269 := eq_true q269
                                             try go_wp2_with (first | ((with_reducible refine gate_builtin (b := .append) (xs := #[.tmp 69, .tmp 74]) rfl ?_); at_builtin; refine Kd.R_append (Kd.int .i64) (w0 := w) w.heap.size rfl (.tmp 69) (.tmp 74) 25 3 (.int .i64 0) 8 rfl Try.underlying25 info3 rfl (by decide) (by omega) (.slice (some ad266) x7_3.length co38) x7_3 (rd (rd_L4 l0 (rd x7_2 x8_2)) x10_3) [.int .i64 (rd (rd_L4 l0 (rd x7_2 x8_2)) x10_3)] (fun k_ => some k_ ≠ (.slice (some ⟨go15, 0, none⟩) x5_3.length co16 : Value).ownBlock) (fun _ => False) rfl (by first | (go_simp; done) | (go_simp; rfl)) ?aP (fun _ hk => hk.elim) ?aF ?aO ?aB ?aS ?aL ?_; (case aP => exact rfl); (case aB => exact zB); (case aF => exact (fun k_ hk => Kd.fresh' (Kd.R_lt (zR HQ39.out)) k_ hk)); (case aO => exact (by (with_reducible repeat (first | apply Kd.R_alloc | apply Kd.R_drewN | apply Kd.R_drew)); exact Kd.R_mono (Kd.R_far (p := ⟨go15, ((rd (rd_L4 l0 (rd x7_2 x8_2)) x10_3) : Int).toNat, none⟩) (Kd.R_mono HO_7.out (fun k_ hk => (⟨hk, fun e_ => hk (by rw [e_]; rfl)⟩ : _ ∧ k_ ≠ go15))) (fun _ hk => hk.2) (.int .i64 (wrap64 ((rd x5_3 (rd x7_3 x8_2)) + 1)))) (fun _ hk => hk.1))); (case aS => exact (below_size zB)); (case aL => have := LMc36.out; omega); intro v271 w40 ho hb hg hat; rw [← Ny270.out] at ho; replace HO_5 := zM (Kd.R_after (ok := (fun _ => True)) (by (with_reducible repeat (first | apply Kd.R_alloc | apply Kd.R_drewN | apply Kd.R_drew)); exact Kd.R_mono HQ39.out (fun _ hk => ⟨trivial, hk⟩)) hg hat); replace HB := zM (hb); have HO272 := zM (ho); clear HO_7; clear ho hb hg hat))
                                             (try simp only [← hl5_3])
                                             go_roundg k3
                                             case measure => have := HK1.out; have := HK2.out; have := HK3.out; omega
                                             case rel => exact ⟨(y268), (y270), (wrap64 (x10_3 + 1)), (by first | rfl | (simp; done) | (simp [*]; done)), H', ⟨by have := HK1.out; have := HK2.out; have := HK3.out; omega⟩, ⟨by (try simp only [hl5_2]); (try simp only [hl5_3]); (with_reducible repeat (first | apply Kd.R_alloc | apply Kd.R_drewN | apply Kd.R_drew)); exact Kd.R_mono HO_5.out (fun _ hk => hk.2)⟩, ⟨by (try simp only [hl5_2]); (try simp only [hl5_3]); (with_reducible repeat (first | apply Kd.R_alloc | apply Kd.R_drewN | apply Kd.R_drew)); exact HO272.out⟩, ⟨zB⟩⟩
                                           · rw [if_neg c36] at H
                                             exact absurd H (by simp)
                                         · rw [if_neg c34] at H
                                           exact absurd H (by simp)
                                       · rw [if_neg c33] at H
                                         exact absurd H (by simp)
                                     · rw [if_neg c32] at H
                                       exact absurd H (by simp)
                                   · rw [if_neg c31] at H
                                     exact absurd H (by simp)
                                 · rw [if_neg c30] at H
                                   have c30b0 : decide ((rd x5_3 (rd (rd_L4 l0 (rd x7_2 x8_2)) x10_3)) < 0) = false := decide_eq_false c30
                                   clear c30
                                   have H' := Aside0.mk H
                                   clear H
                                   have p263 : 0 ≤ (x10_3 : Int) := of_decide_eq_true zA
                                   have q263 : x10_3 < ((rd_L4 l0 (rd x7_2 x8_2)).length : Int) := of_decide_eq_true zA
                                   obtain ⟨ad263, e263, hx263_0⟩ := Kd.at_int HR262_0.out x10_3 p263 q263
                                   cases e263
                                   (try replace hx263_0 := (HB.out.cell (World.block_lt_of_cell? w _ hx263_0)).trans hx263_0)
                                   replace p263 := eq_true p263
                                   replace q263 := eq_true q263
                                   have p264 : 0 ≤ ((rd (rd_L4 l0 (rd x7_2 x8_2)) x10_3) : Int) := of_decide_eq_true zA
                                   have q264 : (rd (rd_L4 l0 (rd x7_2 x8_2)) x10_3) < (x5_3.length : Int) := of_decide_eq_true zA
                                   obtain ⟨ad264, e264, hx264_0⟩ := Kd.at_int (Kd.R_reads' HO_5.out).2.2 (rd (rd_L4 l0 (rd x7_2 x8_2)) x10_3) p264 q264
                                   obtain rfl : (⟨go15, 0, none⟩ : Addr) = ad264 := (by injection e264)
                                   (first | simp only [add_plain] at hx264_0 | simp only [add_at] at hx264_0 | simp only [Addr.add, Nat.zero_add] at hx264_0 | skip)
                                   replace p264 := eq_true p264
                                   replace q264 := eq_true q264
                                   go_wp2
                                   (try simp only [← hl5_3])
                                   go_roundg k3
                                   case measure => have := HK1.out; have := HK2.out; have := HK3.out; omega
                                   case rel => exact ⟨(x5_3), (x7_3), (wrap64 (x10_3 + 1)), (by first | rfl | (simp; done) | (simp [*]; done)), H', ⟨by have := HK1.out; have := HK2.out; have := HK3.out; omega⟩, ⟨by (try simp only [hl5_2]); (try simp only [hl5_3]); (with_reducible repeat (first | apply Kd.R_alloc | apply Kd.R_drewN | apply Kd.R_drew)); exact HO_5.out⟩, ⟨by (try simp only [hl5_2]); (try simp only [hl5_3]); (with_reducible repeat (first | apply Kd.R_alloc | apply Kd.R_drewN | apply Kd.R_drew)); exact HO_7.out⟩, ⟨zB⟩⟩
                               · rw [if_neg c29] at H
                                 exact absurd H (by simp)
                             · rw [if_neg c28] at H
                               exact absurd H (by simp)
                           · rw [if_neg c27] at H
                             exact absurd H (by simp)
                         · rw [if_neg c26] at H
                           have c26b0 : decide (x10_3 < ((rd_L4 l0 (rd x7_2 x8_2)).length : Int)) = false := decide_eq_false c26
                           clear c26
                           have H' := Aside0.mk H
                           clear H
                           go_wp2
                           (try simp only [← hl5_2, ← hl5_3])
                           go_roundg k3
                           case measure => have := HK1.out; have := HK2.out; have := HK3.out; omega
                           case rel => exact ⟨(x5_3), (x7_3), (wrap64 (x8_2 + 1)), (by first | rfl | (simp; done) | (simp [*]; done)), H', ⟨by have := HK1.out; have := HK2.out; have := HK3.out; omega⟩, ⟨by (try simp only [hl5_2]); (try simp only [hl5_3]); (with_reducible repeat (first | apply Kd.R_alloc | apply Kd.R_drewN | apply Kd.R_drew)); exact HO_5.out⟩, ⟨by (try simp only [hl5_2]); (try simp only [hl5_3]); (with_reducible repeat (first | apply Kd.R_alloc | apply Kd.R_drewN | apply Kd.R_drew)); exact HO_7.out⟩, ⟨zB⟩⟩
                     · rw [if_neg c24] at H
                       exact absurd H (by simp)
                   · rw [if_neg c23] at H
                     exact absurd H (by simp)
                 · rw [if_neg c22] at H
                   exact absurd H (by simp)
               · rw [if_neg c21] at H
                 have c21b0 : decide (x8_2 < (x7_2.length : Int)) = false := decide_eq_false c21
                 clear c21
                 obtain rfl := Option.some.inj H
                 obtain ⟨Ao41, co41, eo41⟩ := Kd.R_slice HO_7.out
                 subst eo41
                 go_wp2
                 go_ret
                 exact ⟨_, by first | rfl | (simp [errW_none, errW_some] <;> rfl) | (simp [*, errW_none, errW_some] <;> rfl), by (with_reducible repeat (first | apply Kd.R_alloc | apply Kd.R_drewN | apply Kd.R_drew)); exact Kd.R_mono HO_5.out (fun _ hk => trivial), zB⟩
           · rw [if_neg c14] at H
             exact absurd H (by simp)
         · rw [if_neg c13] at H
           exact absurd H (by simp)
   · rw [if_neg c4] at H
     exact absurd H (by simp)
 · rw [if_neg c3] at H
   exact absurd H (by simp)

/-! ### spec_l3Far: function 13 -/
def spec_l3Far.l0 : Nat → Int → List (List Int) → Int → Int → List (S50) → Option (List Int)
 | 0, _, _, _, _, _ => none
 | k + 1, x1, x5, x6, x274000, x274001 => if x6 < x274000 then ((spec_l2Neighbors.f k x274000 x274001 x6).bind fun t277 => (if 0 ≤ x6 then (if x6 < (x5.length : Int) then (spec_l3Far.l0 k x1 (x5.set (x6 : Int).toNat t277) (wrap64 (x6 + 1)) x274000 x274001) else (none)) else (none))) else ((spec_l2Spread.f k x5 x1).bind fun t281 => (some t281))
def spec_l3Far.f (k : Nat) (a0_0 : Int) (l0_1 : List (S50)) (a1 : Int) : Option (List Int) := if 0 ≤ a0_0 then (if (a0_0 : Int).toNat ≤ 11728124029610 then (spec_l3Far.l0 k a1 (List.replicate (a0_0 : Int).toNat []) 0 a0_0 l0_1) else (none)) else (none)
set_option maxHeartbeats 8000000 in
set_option maxRecDepth 100000 in
theorem spec_l3Far.calls (k : Nat) (a0_0 : Int) (A0_1 : Option Addr) (c0_1 : Nat) (l0_1 : List (S50)) (a1 : Int) (r : List Int) (w : World) (hr0_1 : Kd.C k50 w A0_1 l0_1.length l0_1) (hc0_1 : l0_1.length ≤ c0_1) (h : spec_l3Far.f k a0_0 l0_1 a1 = some r) :
 Calls Try.prog 13 #[.agg #[.int .i64 a0_0, .slice A0_1 l0_1.length c0_1], .int .i64 a1] w fun e w' => ∃ v0_ : Value, e = .returned (v0_) ∧ Kd.R (Kd.int .i64) 3 w' w.heap.size (fun _ => True) v0_ r ∧ Below w.heap.size w w' := by
 have hu29 := Try.underlying29
 have HR0_1 := Aside0.mk hr0_1
 have HC0_1 := Aside0.mk hc0_1
 clear hr0_1 hc0_1
 have HB := zM (Below.refl w.heap.size w)
 have H : (if 0 ≤ a0_0 then (if (a0_0 : Int).toNat ≤ 11728124029610 then (spec_l3Far.l0 k a1 (List.replicate (a0_0 : Int).toNat []) 0 a0_0 l0_1) else (none)) else (none)) = some r := h
 clear h
 by_cases c3 : 0 ≤ a0_0
 · rw [if_pos c3] at H
   have c3b0 := eq_true c3
   have c3b1 : decide (0 ≤ a0_0) = true := decide_eq_true c3
   clear c3
   by_cases c4 : (a0_0 : Int).toNat ≤ 11728124029610
   · rw [if_pos c4] at H
     have c4b0 := eq_true c4
     have c4b1 : decide ((a0_0 : Int).toNat ≤ 11728124029610) = true := decide_eq_true c4
     clear c4
     obtain ⟨y274, hy274⟩ : ∃ y_ : List (List Int), y_ = (List.replicate (a0_0 : Int).toNat []) := ⟨_, rfl⟩
     replace H : (spec_l3Far.l0 k a1 y274 0 a0_0 l0_1) = some r := by first | (rw [hy274]; with_reducible exact H) | (have H2_ := (Option.bind_some _ _).symm.trans H; rw [hy274]; with_reducible exact H2_) | (have H2_ := (Option.bind_some _ _).symm.trans H; with_reducible exact H2_) | with_reducible exact H | (rw [hy274]; exact H) | exact H
     have Ny274 := Aside0.mk hy274
     clear hy274
     have H' := Aside0.mk H
     clear H
     go_enter Try.func13, Try.ntmps13
     go_wp2_with (first | ((with_reducible refine gate_dst (N := 2) rfl ?_); refine zb (w := w) 2 #[.int .i64 a0_0, .slice A0_1 l0_1.length c0_1] 29 zB ?_; clear HB; intro gb273 w5 HB BK273 GW273; have GE273 := GW273; have hcz6_0 := zy BK273 0; have hcz6_1 := zy BK273 1; have hfz6_0 := blk_frozen BK273.out 0; have hfz6_1 := blk_frozen BK273.out 1) | ((with_reducible refine gate_dst (N := 9) rfl ?_); refine Kd.S_make (Kd.slice 3 (Kd.int .i64)) _ 25 rfl (N := 9) rfl 37 _ _ rfl a0_0 rfl rfl Try.underlying37 (.slice none 0 0) 24 info25 rfl (by decide) (by omega) [] (ok := fun _ => True) (okp := fun _ => True) ⟨_, rfl, Kd.R_nil _ _ _ _ _⟩ (fun _ hk => hk) trivial (of_decide_eq_true zA) (Nat.le_trans (Nat.mul_le_mul_right _ (of_decide_eq_true zA : a0_0.toNat ≤ 11728124029610)) (by omega)) (Below.refl _ _) (Nat.le_refl _) ?_; intro v275 w7 ho8 hb hg_ hnew_; clear hg_ hnew_; (first | rw [← Ny274.out] at ho8 | (simp only [Int.reduceToNat] at ho8; rw [← Ny274.out] at ho8)); have HO276 := zM (Kd.S_lower ho8 (below_size zB)); replace BK273 := zM (blk_below (g := gb273) (o := .cells #[.int .i64 a0_0, .slice A0_1 l0_1.length c0_1] 29 (0, 0)) (zK BK273.out) hb); replace HB := zM (below_step zB hb); clear hb ho8))
     go_loopg [6] k (fun kq v6 w' => ∃ (x5_1 : List (List Int)) (x6_1 : Int), v6 = .int .i64 x6_1 ∧ Aside0 (spec_l3Far.l0 kq a1 x5_1 x6_1 a0_0 l0_1 = some r) ∧ Aside0 (kq ≤ k) ∧ Aside0 (Kd.S (Kd.slice 3 (Kd.int .i64)) 25 w' w.heap.size (fun _ => True) v275 x5_1) ∧ Aside0 (w'.heap[gb273]? = some (.cells #[.int .i64 a0_0, (.slice A0_1 l0_1.length c0_1)] 29 (0, 0))) ∧ Aside0 (Below w.heap.size w w'))
     case atStart => exact ⟨(y274), (0), (by first | rfl | (simp; done) | (simp [*]; done)), H', ⟨Nat.le_refl _⟩, ⟨by (with_reducible repeat (first | apply Kd.S_alloc | apply Kd.S_drewN | apply Kd.S_drew)); exact HO276.out⟩, ⟨zK BK273.out⟩, ⟨zB⟩⟩
     case round =>
      clear H'
      try clear c1
      try clear p2
      try clear c3
      try clear c3b0
      try clear c3b1
      try clear c4
      try clear c4b0
      try clear c4b1
      try clear hcz6_0
      try clear hcz6_1
      try clear hfz6_0
      try clear hfz6_1
      obtain ⟨x5_1, x6_1, rfl, HA, HK1, HO_5, BK273, HB⟩ := hrel
      cases gk with
      | zero => exact absurd HA.out (by simp [spec_l3Far.l0])
      | succ k1 =>
       have H := HA.out
       clear HA
       simp only [spec_l3Far.l0] at H
       by_cases c9 : x6_1 < a0_0
       · rw [if_pos c9] at H
         have c9b0 := decide_eq_true c9
         clear c9
         replace H := Option.bind_eq_some_iff.mp H
         obtain ⟨t277, A100, H⟩ := H
         have A10 := Aside0.mk A100
         clear A100
         by_cases c11 : 0 ≤ x6_1
         · rw [if_pos c11] at H
           have c11b0 := decide_eq_true c11
           clear c11
           by_cases c12 : x6_1 < (x5_1.length : Int)
           · rw [if_pos c12] at H
             have c12b0 := decide_eq_true c12
             clear c12
             obtain ⟨y280, hy280⟩ : ∃ y_ : List (List Int), y_ = (x5_1.set (x6_1 : Int).toNat t277) := ⟨_, rfl⟩
             replace H : (spec_l3Far.l0 k1 a1 y280 (wrap64 (x6_1 + 1)) a0_0 l0_1) = some r := by first | (rw [hy280]; with_reducible exact H) | (have H2_ := (Option.bind_some _ _).symm.trans H; rw [hy280]; with_reducible exact H2_) | (have H2_ := (Option.bind_some _ _).symm.trans H; with_reducible exact H2_) | with_reducible exact H | (rw [hy280]; exact H) | exact H
             have Ny280 := Aside0.mk hy280
             clear hy280
             have H' := Aside0.mk H
             clear H
             have hcz14_0 := zy BK273 0
             have hcz14_1 := zy BK273 1
             have hfz14_0 := blk_frozen BK273.out 0
             have hfz14_1 := blk_frozen BK273.out 1
             go_wp2_with (first | ((with_reducible refine gate_callee (f := 25) rfl ?_); refine zc 20 Try.func25 #[.agg #[.int .i64 a0_0, .slice A0_1 l0_1.length c0_1], .int .i64 x6_1] ?_; (with_reducible refine (spec_l2Neighbors.calls k1 a0_0 _ _ l0_1 x6_1 t277 _ ?side1 ?side2 A10.out).mono ?_); (case side1 => exact zC (Kd.C_below HR0_1.out HB.out)); (case side2 => exact HC0_1.out); rintro e w15 ⟨v278, rfl, ho0, hb⟩; refine ⟨_, rfl, ?_⟩; replace HO_5 := zM (Kd.S_elder' (by (with_reducible repeat (first | apply Kd.S_alloc | apply Kd.S_drewN | apply Kd.S_drew)); exact HO_5.out) (Kd.R_base ho0) hb); have HO279 := zM (Kd.R_lower ho0 (below_size zB)); replace BK273 := zM (blk_below (g := gb273) (o := .cells #[.int .i64 a0_0, .slice A0_1 l0_1.length c0_1] 29 (0, 0)) (zK BK273.out) hb); replace HB := zM (below_step zB hb); (try clear hb); (try clear hb2); (try clear hk); (try clear hi); (try clear ho0); have p13 : 0 ≤ (x6_1 : Int) := of_decide_eq_true zA; have q13 : (x6_1 : Int) < ((x5_1.length : Int) : Int) := of_decide_eq_true zA; obtain ⟨go13, co13, eo13, gb13, gl13, cl13, HG13⟩ := Kd.S_form HO_5.out (by omega); (first | cases eo13 | (injection eo13 with ea_ en_ ec_; (first | subst ea_ | (injection ea_ with ea_; subst ea_)); subst ec_; clear en_)); have GB13 := Aside0.mk gb13; have GG13 := Aside0.mk HG13; clear gb13 gl13 HG13; obtain ⟨_, ce13, hcl13, hM13, hcc13, hfr13, _, _⟩ := Kd.S_elem HO_5.out [] (x6_1 : Int) p13 q13; obtain ⟨ve13_0, rfl, ge13_0⟩ := hM13; have hx13_0 := hcc13 0 _ rfl; have hf13_0 := hfr13 0; (try simp only [show ((Kd.slice 3 (Kd.int .i64))).sz = 1 from rfl, Nat.mul_one, Nat.add_zero] at hx13_0); (try simp only [show ((Kd.slice 3 (Kd.int .i64))).sz = 1 from rfl, Nat.mul_one, Nat.add_zero] at hf13_0); clear hcl13 hcc13 hfr13; (try clear hM13); replace p13 := eq_true p13; replace q13 := eq_true q13; have n_ := zM (Kd.S_mono (ok' := (fun k_ => some k_ ≠ (v278 : Value).ownBlock)) HO_5.out (fun k_ hk => hk.2)); clear HO_5; have HO_5 := n_; clear n_; have HX16 := zM (show Kd.S (Kd.slice 3 (Kd.int .i64)) 25 w15 w.heap.size (fun k_ => ((fun _ => True)) k_ ∧ ¬ ((fun k_ => some k_ = (v278 : Value).ownBlock)) k_) (.slice (some ⟨go13, 0, none⟩) x5_1.length co13) x5_1 from (by (with_reducible repeat (first | apply Kd.S_alloc | apply Kd.S_drewN | apply Kd.S_drew)); exact Kd.S_mono HO_5.out (fun k_ hk => ⟨trivial, fun e_ => hk e_⟩))); obtain ⟨oki16, ce16, hcl16, hM16, hcc16, hfr16, hoki16, hH16⟩ := Kd.S_elem HX16.out [] (x6_1 : Int) (of_decide_eq_true zA) (by have h_ : (x6_1 : Int) < ((x5_1.length : Int) : Int) := of_decide_eq_true zA; first | exact h_ | (have e_ := (Kd.S_reads' HO_5.out).1; omega) | simpa using h_); obtain ⟨ve16_0, rfl, ge16_0⟩ := hM16; have HP16 := Kd.S_seg hH16 (of_decide_eq_true zA) (by have h_ : (x6_1 : Int) < ((x5_1.length : Int) : Int) := of_decide_eq_true zA; first | exact h_ | (have e_ := (Kd.S_reads' HO_5.out).1; omega) | simpa using h_) (seg := [v278]) (j := 0) (show 1 ≤ 1 from by decide) (x' := t277) (Kd.M_row (Kd.R_mono (Kd.R_tight rfl (Kd.R_mono (ok' := fun k_ => ((fun _ => True)) k_ ∧ k_ ≠ go13) (Kd.R_apart' (HO279.out) (Kd.S_typed HO_5.out) (by decide)) (fun k_ hk => ⟨trivial, fun e_ => (hk.2) (by rw [e_]; rfl)⟩))) (fun _ h_ => Or.inr (h_)))) (fun _ hk => hk) (fun k_ hk_ => ((Kd.R_mono (ok' := fun k_ => ((fun _ => True)) k_ ∧ k_ ≠ go13) (Kd.R_apart' (HO279.out) (Kd.S_typed HO_5.out) (by decide)) (fun k_ hk => ⟨trivial, fun e_ => (hk.2) (by rw [e_]; rfl)⟩))).1 k_ hk_.symm); have hx16_0 := hcc16 0 _ rfl; (try simp only [show ((Kd.slice 3 (Kd.int .i64))).sz = 1 from rfl, Nat.mul_one, Nat.add_zero] at hx16_0); have hf16_0 := hfr16 0; (try simp only [show ((Kd.slice 3 (Kd.int .i64))).sz = 1 from rfl, Nat.mul_one, Nat.add_zero] at hf16_0); clear hcl16 hcc16 hfr16; (try clear hM16); clear hoki16 hH16; (try simp only [show ((Kd.slice 3 (Kd.int .i64))).sz = 1 from rfl, Nat.mul_one, Nat.add_zero] at HP16)) | ((with_reducible refine gate_store (t := 25) (p := 21) rfl ?_); refine store_event (t := 25) (p := 21) (v := ?vo_w17) (w1 := (w15.setCell ⟨go13, (x6_1 : Int).toNat, none⟩ (v278))) ?hg ?ho ?hn ?hr ?_; (case ho => rfl); (case hg => rfl); (case hn => rfl); (case hr => first | (go_simp; done) | (go_simp; rfl) | (obtain ⟨_, _, e_⟩ := Kd.R_slice HO279.out; rw [e_]; go_simp; done)); intro w17 hw; have hg : w15.grownBy w17 (some go13) := (by rw [hw]; exact HP16.2); have hp_ : Kd.S (Kd.slice 3 (Kd.int .i64)) 25 w17 w.heap.size (fun _ => True) (.slice (some ⟨go13, 0, none⟩) x5_1.length co13) y280 := (by rw [hw, Ny280.out]; exact HP16.1); clear HP16; replace BK273 := zM (blk_grown (g := gb273) (o := .cells #[.int .i64 a0_0, .slice A0_1 l0_1.length c0_1] 29 (0, 0)) (zK BK273.out) hg (Kd.S_ne HO_5.out BK273.out (by decide))); replace HO_5 := zM (hp_); replace HB := zM ((by rw [hw]; exact below_set (HB.out) GB13.out : Below w.heap.size w w17)); clear HO279; clear hg hw hp_))
             go_roundg k1
             case measure => have := HK1.out; omega
             case rel => exact ⟨(y280), (wrap64 (x6_1 + 1)), (by first | rfl | (simp; done) | (simp [*]; done)), H', ⟨by have := HK1.out; omega⟩, ⟨by (with_reducible repeat (first | apply Kd.S_alloc | apply Kd.S_drewN | apply Kd.S_drew)); exact HO_5.out⟩, ⟨zK BK273.out⟩, ⟨zB⟩⟩
           · rw [if_neg c12] at H
             exact absurd H (by simp)
         · rw [if_neg c11] at H
           exact absurd H (by simp)
       · rw [if_neg c9] at H
         have c9b0 : decide (x6_1 < a0_0) = false := decide_eq_false c9
         clear c9
         replace H := Option.bind_eq_some_iff.mp H
         obtain ⟨t281, A180, H⟩ := H
         have A18 := Aside0.mk A180
         clear A180
         obtain rfl := Option.some.inj H
         have hcz19_0 := zy BK273 0
         have hcz19_1 := zy BK273 1
         have hfz19_0 := blk_frozen BK273.out 0
         have hfz19_1 := blk_frozen BK273.out 1
         obtain ⟨Ao20, co20, eo20⟩ := Kd.S_slice HO_5.out
         subst eo20
         go_wp2_with (first | ((with_reducible refine gate_callee (f := 26) rfl ?_); refine zc 24 Try.func26 #[.slice Ao20 x5_1.length co20, .int .i64 a1] ?_; (with_reducible refine (spec_l2Spread.calls k1 _ _ x5_1 a1 t281 _ ?side1 ?side2 A18.out).mono ?_); (case side1 => exact zC (Kd.S_reads' HO_5.out).2.2); (case side2 => exact (Kd.S_reads' HO_5.out).2.1); rintro e w21 ⟨v282, rfl, ho0, hb⟩; refine ⟨_, rfl, ?_⟩; replace HO_5 := zM (Kd.S_elder' (by (with_reducible repeat (first | apply Kd.S_alloc | apply Kd.S_drewN | apply Kd.S_drew)); exact HO_5.out) (Kd.R_base ho0) hb); have HO283 := zM (Kd.R_lower ho0 (below_size zB)); replace BK273 := zM (blk_below (g := gb273) (o := .cells #[.int .i64 a0_0, .slice A0_1 l0_1.length c0_1] 29 (0, 0)) (zK BK273.out) hb); replace HB := zM (below_step zB hb); (try clear hb); (try clear hb2); (try clear hk); (try clear hi); (try clear ho0)))
         go_ret
         exact ⟨_, by first | rfl | (simp [errW_none, errW_some] <;> rfl) | (simp [*, errW_none, errW_some] <;> rfl), by (with_reducible repeat (first | apply Kd.R_alloc | apply Kd.R_drewN | apply Kd.R_drew)); exact HO283.out, zB⟩
   · rw [if_neg c4] at H
     exact absurd H (by simp)
 · rw [if_neg c3] at H
   exact absurd H (by simp)

/-! ### spec_l1Own: function 27 -/
def spec_l1Own.f (l0 : List Int) : Option (List Int) := (some (([] : List Int) : List Int)).bind fun y284 => (if y284.length + l0.length < 17592186044416 then (some (y284 ++ l0)) else (none))
set_option maxHeartbeats 8000000 in
set_option maxRecDepth 100000 in
theorem spec_l1Own.calls (A0 : Option Addr) (c0 : Nat) (l0 : List Int) (r : List Int) (w : World) (hr0 : Kd.C (Kd.int .i64) w A0 l0.length l0) (hc0 : l0.length ≤ c0) (h : spec_l1Own.f l0 = some r) :
 Calls Try.prog 27 #[.slice A0 l0.length c0] w fun e w' => ∃ v0_ : Value, e = .returned (v0_) ∧ Kd.R (Kd.int .i64) 3 w' w.heap.size (fun _ => True) v0_ r ∧ Below w.heap.size w w' := by
 have HR0 := Aside0.mk hr0
 have HC0 := Aside0.mk hc0
 clear hr0 hc0
 have HB := zM (Below.refl w.heap.size w)
 have H : ((some (([] : List Int) : List Int)).bind fun y284 => (if y284.length + l0.length < 17592186044416 then (some (y284 ++ l0)) else (none))) = some r := h
 clear h
 obtain ⟨y284, hy284⟩ : ∃ y_ : List Int, y_ = (([] : List Int)) := ⟨_, rfl⟩
 replace H : (if y284.length + l0.length < 17592186044416 then (some (y284 ++ l0)) else (none)) = some r := by first | (rw [hy284]; with_reducible exact H) | (have H2_ := (Option.bind_some _ _).symm.trans H; rw [hy284]; with_reducible exact H2_) | (have H2_ := (Option.bind_some _ _).symm.trans H; with_reducible exact H2_) | with_reducible exact H | (rw [hy284]; exact H) | exact H
 have Ny284 := Aside0.mk hy284
 clear hy284
 by_cases c2 : y284.length + l0.length < 17592186044416
 · rw [if_pos c2] at H
   have LMc2 := Aside0.mk c2
   clear c2
   obtain ⟨y287, hy287⟩ : ∃ y_ : List Int, y_ = (y284 ++ l0) := ⟨_, rfl⟩
   replace H : (some y287) = some r := by first | (rw [hy287]; with_reducible exact H) | (have H2_ := (Option.bind_some _ _).symm.trans H; rw [hy287]; with_reducible exact H2_) | (have H2_ := (Option.bind_some _ _).symm.trans H; with_reducible exact H2_) | with_reducible exact H | (rw [hy287]; exact H) | exact H
   have Ny287 := Aside0.mk hy287
   clear hy287
   obtain rfl := Option.some.inj H
   go_enter Try.func27, Try.ntmps27
   go_wp2_with (first | ((with_reducible refine gate_dst (N := 3) rfl ?_); refine Kd.R_lit (Kd.int .i64) _ 3 ?hg (N := 3) ?hd (xs := ([] : List Int)) (inner := []) (ok := fun _ => True) (okp := fun _ => True) ?hr ?hp (fun _ hk => hk) trivial (Below.refl _ _) (Nat.le_refl _) (by simp) ?_; (case hd => rfl); (case hg => rfl); (case hr => first | (go_simp; done) | (go_simp; rfl)); (case hp => exact (Reps.none _ _)); intro v285 w3 ho4 hb hg_ hnew_; clear hg_ hnew_; (first | rw [← Ny284.out] at ho4 | (simp only [Int.reduceToNat] at ho4; rw [← Ny284.out] at ho4)); have HO286 := zM (Kd.R_lower ho4 (below_size zB)); replace HB := zM (below_step zB hb); clear hb ho4) | ((with_reducible refine gate_builtin (b := .append) (xs := #[.tmp 3, .tmp 4]) rfl ?_); at_builtin; refine Kd.R_append_rows (Kd.int .i64) (w0 := w) w.heap.size rfl (.tmp 3) (.tmp 4) 25 3 (.int .i64 0) 8 rfl Try.underlying25 info3 rfl (by decide) (by omega) v285 y284 l0 _ _ _ (fun _ => True) (fun _ => False) rfl rfl ?aO ?aR (fun _ _ h => h) (fun _ h => h.elim) ?aF ?aB ?aS ?aL ?_; (case aR => exact zC (Kd.C_below HR0.out HB.out)); (case aB => exact zB); (case aF => exact (fun _ _ => trivial)); (case aO => exact (zR HO286.out)); (case aS => exact (below_size zB)); (case aL => have := LMc2.out; omega); intro v288 w5 ho hb hg hat; rw [← Ny287.out] at ho; replace HB := zM (hb); have HO289 := zM (ho); clear HO286; clear ho hb hg hat))
   go_ret
   exact ⟨_, by first | rfl | (simp [errW_none, errW_some] <;> rfl) | (simp [*, errW_none, errW_some] <;> rfl), by (with_reducible repeat (first | apply Kd.R_alloc | apply Kd.R_drewN | apply Kd.R_drew)); exact HO289.out, zB⟩
 · rw [if_neg c2] at H
   exact absurd H (by simp)

end Go.Proofs.Ytnjadmgnnbamhaa.P
