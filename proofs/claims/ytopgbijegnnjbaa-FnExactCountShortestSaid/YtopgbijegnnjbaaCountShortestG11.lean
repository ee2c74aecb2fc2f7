-- Written by a program of this session (the kit's print, turned: wip/print/patch.py) out of the translation. Not trusted: Lean checks it.
import Derived.Test.YtopgbijegnnjbaaCountShortestG5
import Derived.Test.YtopgbijegnnjbaaCountShortestG8
import Derived.Test.YtopgbijegnnjbaaCountShortestG10
namespace Go.Proofs.Ytopgbijegnnjbaa.P
open Go.RowKit Go.Proofs.YtopgbijegnnjbaaW.PrintWords Go.Proofs.YtopgbijegnnjbaaW.PrintLast Go.Proofs.YtopgbijegnnjbaaW.PrintMore
attribute [local go_sem] max2_int min2_int max_two min_two max_three min_three max_four min_four   -- for this text's walks alone
set_option linter.unusedVariables false
set_option linter.unusedSimpArgs false

/-! ### impl_Space_isPlace: function 18 -/
def impl_Space_isPlace.f (l0_0 : List (List Int)) (l0_1 : List (S50)) (a1 : Int) : Option (Bool) := (impl_between.f a1 0 (wrap64 ((l0_0.length : Int) - 1))).bind fun t193 => (some t193)
set_option maxHeartbeats 8000000 in
set_option maxRecDepth 100000 in
theorem impl_Space_isPlace.calls (A0_0 : Option Addr) (c0_0 : Nat) (l0_0 : List (List Int)) (A0_1 : Option Addr) (c0_1 : Nat) (l0_1 : List (S50)) (a1 : Int) (r : Bool) (w : World) (hr0_0 : Kd.C (Kd.slice 3 (Kd.int .i64)) w A0_0 l0_0.length l0_0) (hc0_0 : l0_0.length ≤ c0_0) (hr0_1 : Kd.C k50 w A0_1 l0_1.length l0_1) (hc0_1 : l0_1.length ≤ c0_1) (h : impl_Space_isPlace.f l0_0 l0_1 a1 = some r) :
 Calls Try.prog 18 #[.agg #[.slice A0_0 l0_0.length c0_0, .slice A0_1 l0_1.length c0_1], .int .i64 a1] w fun e w' => e = .returned (.bool r) ∧ Below w.heap.size w w' := by
 have hu29 := Try.underlying29
 have HR0_0 := Aside0.mk hr0_0
 have HC0_0 := Aside0.mk hc0_0
 clear hr0_0 hc0_0
 have HR0_1 := Aside0.mk hr0_1
 have HC0_1 := Aside0.mk hc0_1
 clear hr0_1 hc0_1
 have HB := zM (Below.refl w.heap.size w)
 have H : ((impl_between.f a1 0 (wrap64 ((l0_0.length : Int) - 1))).bind fun t193 => (some t193)) = some r := h
 clear h
 replace H := Option.bind_eq_some_iff.mp H
 obtain ⟨t193, A30, H⟩ := H
 have A3 := Aside0.mk A30
 clear A30
 obtain rfl := Option.some.inj H
 go_enter Try.func18, Try.ntmps18
 go_wp2_with (first | ((with_reducible refine gate_dst (N := 2) rfl ?_); refine zb (w := w) 2 #[.slice A0_0 l0_0.length c0_0, .slice A0_1 l0_1.length c0_1] 29 zB ?_; clear HB; intro gb192 w4 HB BK192 GW192; have GE192 := GW192; have hcz5_0 := zy BK192 0; have hcz5_1 := zy BK192 1; have hfz5_0 := blk_frozen BK192.out 0; have hfz5_1 := blk_frozen BK192.out 1) | ((with_reducible refine gate_callee (f := 34) rfl ?_); refine zc 10 Try.func34 #[.int .i64 a1, .int .i64 0, .int .i64 (wrap64 ((l0_0.length : Int) - 1))] ?_; (with_reducible refine (impl_between.calls a1 0 (wrap64 ((l0_0.length : Int) - 1)) t193 _ A3.out).mono ?_); rintro e w' ⟨rfl, ⟨nd, rfl⟩⟩; refine ⟨_, rfl, ?_⟩))
 go_ret
 exact ⟨by first | rfl | (simp [errW_none, errW_some] <;> rfl) | (simp [*, errW_none, errW_some] <;> rfl), zB⟩

/-! ### impl_spread: function 20 -/
mutual
def impl_spread.l0 : Nat → List (List Int) → List Int → List Int → Option (List Int)
 | 0, _, _, _ => none
 | k + 1, x0, x5, x6 => if (x6.length : Int) > 0 then (if 0 < (x6.length : Int) then (if 1 ≤ (x6.length : Int) then (if 0 ≤ (rd x6 0) then (if (rd x6 0) < (x0.length : Int) then (impl_spread.l1 k x0 x5 (x6.drop (1 : Int).toNat) (rd x6 0) (rd_L1 x0 (rd x6 0)) ((rd_L1 x0 (rd x6 0)).length : Int) 0) else (none)) else (none)) else (none)) else (none)) else (some x5)
def impl_spread.l1 : Nat → List (List Int) → List Int → List Int → Int → List Int → Int → Int → Option (List Int)
 | 0, _, _, _, _, _, _, _ => none
 | k + 1, x0, x5, x6, x7, x30, x31, x32 => if x32 < x31 then (if 0 ≤ x32 then (if x32 < (x30.length : Int) then (if 0 ≤ (rd x30 x32) then (if (rd x30 x32) < (x5.length : Int) then (if (rd x5 (rd x30 x32)) < 0 then (if 0 ≤ x7 then (if x7 < (x5.length : Int) then (if x6.length < 17592186044416 then (impl_spread.l1 k x0 (x5.set ((rd x30 x32) : Int).toNat (wrap64 ((rd x5 x7) + 1))) (x6 ++ [rd x30 x32]) x7 x30 x31 (wrap64 (x32 + 1))) else (none)) else (none)) else (none)) else (impl_spread.l1 k x0 x5 x6 x7 x30 x31 (wrap64 (x32 + 1)))) else (none)) else (none)) else (none)) else (none)) else (impl_spread.l0 k x0 x5 x6)
end
def impl_spread.f (k : Nat) (l0 : List (List Int)) (a1 : Int) : Option (List Int) := (slices_Repeat_int_int.f (([(-1)] : List Int)) (l0.length : Int)).bind fun t197 => (if 0 ≤ a1 then (if a1 < (t197.length : Int) then (impl_spread.l0 k l0 (t197.set (a1 : Int).toNat 0) (([a1] : List Int))) else (none)) else (none))
set_option maxHeartbeats 8000000 in
set_option maxRecDepth 100000 in
theorem impl_spread.calls (k : Nat) (A0 : Option Addr) (c0 : Nat) (l0 : List (List Int)) (a1 : Int) (r : List Int) (w : World) (hr0 : Kd.C (Kd.slice 3 (Kd.int .i64)) w A0 l0.length l0) (hc0 : l0.length ≤ c0) (h : impl_spread.f k l0 a1 = some r) :
 Calls Try.prog 20 #[.slice A0 l0.length c0, .int .i64 a1] w fun e w' => ∃ v0_ : Value, e = .returned (v0_) ∧ Kd.R (Kd.int .i64) 3 w' w.heap.size (fun _ => True) v0_ r ∧ Below w.heap.size w w' := by
 have HR0 := Aside0.mk hr0
 have HC0 := Aside0.mk hc0
 clear hr0 hc0
 have HB := zM (Below.refl w.heap.size w)
 have H : ((slices_Repeat_int_int.f (([(-1)] : List Int)) (l0.length : Int)).bind fun t197 => (if 0 ≤ a1 then (if a1 < (t197.length : Int) then (impl_spread.l0 k l0 (t197.set (a1 : Int).toNat 0) (([a1] : List Int))) else (none)) else (none))) = some r := h
 clear h
 obtain ⟨y194, hy194⟩ : ∃ y_ : List Int, y_ = (([(-1)] : List Int)) := ⟨_, rfl⟩
 replace H : ((slices_Repeat_int_int.f y194 (l0.length : Int)).bind fun t197 => (if 0 ≤ a1 then (if a1 < (t197.length : Int) then (impl_spread.l0 k l0 (t197.set (a1 : Int).toNat 0) (([a1] : List Int))) else (none)) else (none))) = some r := by first | (rw [hy194]; with_reducible exact H) | (have H2_ := (Option.bind_some _ _).symm.trans H; rw [hy194]; with_reducible exact H2_) | (have H2_ := (Option.bind_some _ _).symm.trans H; with_reducible exact H2_) | with_reducible exact H | (rw [hy194]; exact H) | exact H
 have Ny194 := Aside0.mk hy194
 clear hy194
 replace H := Option.bind_eq_some_iff.mp H
 obtain ⟨t197, A30, H⟩ := H
 have A3 := Aside0.mk A30
 clear A30
 by_cases c4 : 0 ≤ a1
 · rw [if_pos c4] at H
   have c4b0 := decide_eq_true c4
   clear c4
   by_cases c5 : a1 < (t197.length : Int)
   · rw [if_pos c5] at H
     have c5b0 := decide_eq_true c5
     clear c5
     obtain ⟨y200, hy200⟩ : ∃ y_ : List Int, y_ = (t197.set (a1 : Int).toNat 0) := ⟨_, rfl⟩
     replace H : (impl_spread.l0 k l0 y200 (([a1] : List Int))) = some r := by first | (rw [hy200]; with_reducible exact H) | (have H2_ := (Option.bind_some _ _).symm.trans H; rw [hy200]; with_reducible exact H2_) | (have H2_ := (Option.bind_some _ _).symm.trans H; with_reducible exact H2_) | with_reducible exact H | (rw [hy200]; exact H) | exact H
     have Ny200 := Aside0.mk hy200
     clear hy200
     obtain ⟨y201, hy201⟩ : ∃ y_ : List Int, y_ = (([a1] : List Int)) := ⟨_, rfl⟩
     replace H : (impl_spread.l0 k l0 y200 y201) = some r := by first | (rw [hy201]; with_reducible exact H) | (have H2_ := (Option.bind_some _ _).symm.trans H; rw [hy201]; with_reducible exact H2_) | (have H2_ := (Option.bind_some _ _).symm.trans H; with_reducible exact H2_) | with_reducible exact H | (rw [hy201]; exact H) | exact H
     have Ny201 := Aside0.mk hy201
     clear hy201
     have H' := Aside0.mk H
     clear H
     go_enter Try.func20, Try.ntmps20
     go_wp2_with (first | ((with_reducible refine gate_dst (N := 10) rfl ?_); refine Kd.R_lit (Kd.int .i64) _ 3 ?hg (N := 10) ?hd (xs := ([(-1)] : List Int)) (inner := [.int .i64 (-1)]) (ok := fun _ => True) (okp := fun _ => True) ?hr ?hp (fun _ hk => hk) trivial (Below.refl _ _) (Nat.le_refl _) (by simp) ?_; (case hd => rfl); (case hg => rfl); (case hr => first | (go_simp; done) | (go_simp; rfl)); (case hp => exact (Reps.one (show Kd.M (Kd.int .i64) _ _ _ (-1) [.int .i64 (-1)] from rfl) (Reps.none _ _))); intro v195 w7 ho8 hb hg_ hnew_; clear hg_ hnew_; (first | rw [← Ny194.out] at ho8 | (simp only [Int.reduceToNat] at ho8; rw [← Ny194.out] at ho8)); have HO196 := zM (Kd.R_lower ho8 (below_size zB)); replace HB := zM (below_step zB hb); clear hb ho8; obtain ⟨Ao9, co9, eo9⟩ := Kd.R_slice HO196.out; subst eo9) | ((with_reducible refine gate_callee (f := 36) rfl ?_); refine zc 13 Try.func36 #[.slice Ao9 y194.length co9, .int .i64 (l0.length : Int)] ?_; (with_reducible refine (slices_Repeat_int_int.calls _ _ y194 (l0.length : Int) t197 _ ?side1 ?side2 A3.out).mono ?_); (case side1 => exact zC (Kd.R_reads' HO196.out).2.2); (case side2 => exact (Kd.R_reads' HO196.out).2.1); rintro e w10 ⟨v198, rfl, ho0, hb⟩; refine ⟨_, rfl, ?_⟩; have HO199 := zM (Kd.R_lower (Kd.R_new' ho0 (Kd.R_lt (zR HO196.out))) (below_size zB)); replace HO196 := zM (Kd.R_elder' (zR HO196.out) (Kd.R_base ho0) hb); replace HB := zM (below_step zB hb); (try clear hb); (try clear hb2); (try clear hk); (try clear hi); (try clear ho0); have p6 : 0 ≤ (a1 : Int) := of_decide_eq_true zA; have q6 : (a1 : Int) < ((t197.length : Int) : Int) := of_decide_eq_true zA; obtain ⟨go6, co6, eo6, gb6, gl6, cl6, HG6⟩ := Kd.R_form HO199.out (by omega); (first | cases eo6 | (injection eo6 with ea_ en_ ec_; (first | subst ea_ | (injection ea_ with ea_; subst ea_)); subst ec_; clear en_)); have GB6 := Aside0.mk gb6; have GG6 := Aside0.mk HG6; clear gb6 gl6 HG6; obtain ⟨hx6_0, hf6_0⟩ := Kd.R_celln 0 HO199.out (a1 : Int) p6 q6; replace p6 := eq_true p6; replace q6 := eq_true q6; have n_ := zM (Kd.R_mono (ok' := (fun k_ => some k_ ≠ (.slice Ao9 y194.length co9 : Value).ownBlock)) HO199.out (fun k_ hk => hk.2)); clear HO199; have HO199 := n_; clear n_; obtain ⟨hy11_, hz11_⟩ := Kd.R_celln 0 HO199.out (a1 : Int) (of_decide_eq_true zA) (of_decide_eq_true zA); have HP11 := Kd.R_putg HO199.out (a1 : Int) 0) | ((with_reducible refine gate_store (t := 3) (p := 16) rfl ?_); refine store_event (t := 3) (p := 16) (v := ?vo_w12) (w1 := (w10.setCell ⟨go6, (a1 : Int).toNat, none⟩ (.int .i64 0))) ?hg ?ho ?hn ?hr ?_; (case ho => rfl); (case hg => rfl); (case hn => rfl); (case hr => first | (go_simp; done) | (go_simp; rfl)); intro w12 hw; have hg : w10.grownBy w12 (some go6) := (by rw [hw]; exact HP11.2); have hp_ : Kd.R (Kd.int .i64) 3 w12 w.heap.size (fun k_ => some k_ ≠ (.slice Ao9 y194.length co9 : Value).ownBlock) (.slice (some ⟨go6, 0, none⟩) t197.length co6) y200 := (by rw [hw, Ny200.out]; exact HP11.1); clear HP11; replace HO196 := zM (Kd.R_after (v := (.slice (some ⟨go6, 0, none⟩) t197.length co6)) (v1 := (.slice (some ⟨go6, 0, none⟩) t197.length co6)) (ok := (fun _ => True)) (zR HO196.out) hg (.inl rfl)); replace HO199 := zM (hp_); replace HB := zM ((by rw [hw]; exact below_set (HB.out) GB6.out : Below w.heap.size w w12)); clear hg hw hp_) | ((with_reducible refine gate_dst (N := 18) rfl ?_); refine Kd.R_lit (Kd.int .i64) _ 3 ?hg (N := 18) ?hd (xs := ([a1] : List Int)) (inner := [.int .i64 a1]) (ok := fun _ => True) (okp := fun _ => True) ?hr ?hp (fun _ hk => hk) trivial (Below.refl _ _) (Nat.le_refl _) (by simp) ?_; (case hd => rfl); (case hg => rfl); (case hr => first | (go_simp; done) | (go_simp; rfl)); (case hp => exact (Reps.one (show Kd.M (Kd.int .i64) _ _ _ a1 [.int .i64 a1] from rfl) (Reps.none _ _))); intro v202 w13 ho14 hb hg_ hnew_; clear hg_ hnew_; (first | rw [← Ny201.out] at ho14 | (simp only [Int.reduceToNat] at ho14; rw [← Ny201.out] at ho14)); have HO203 := zM (Kd.R_lower (Kd.R_new' (Kd.R_new' ho14 (Kd.R_lt (zR HO196.out))) (Kd.R_lt (zR HO199.out))) (below_size zB)); replace HO196 := zM (Kd.R_elder' (zR HO196.out) (Kd.R_base ho14) hb); replace HO199 := zM (Kd.R_elder' (zR HO199.out) (Kd.R_base ho14) hb); replace HB := zM (below_step zB hb); clear hb ho14))
     go_loopg [6] k (fun kq v6 w' => ∃ (x5_1 : List Int) (x6_1 : List Int), Aside0 (impl_spread.l0 kq l0 x5_1 x6_1 = some r) ∧ Aside0 (kq ≤ k) ∧ Aside0 (Kd.R (Kd.int .i64) 3 w' w.heap.size (fun k_ => some k_ ≠ (v6 : Value).ownBlock) (.slice (some ⟨go6, 0, none⟩) t197.length co6) x5_1) ∧ Aside0 (Kd.Q (Kd.int .i64) 3 w' w.heap.size (fun k_ => some k_ ≠ ((.slice (some ⟨go6, 0, none⟩) t197.length co6) : Value).ownBlock) v6 x6_1) ∧ Aside0 (Below w.heap.size w w'))
     case atStart => exact ⟨(y200), (y201), H', ⟨Nat.le_refl _⟩, ⟨by (with_reducible repeat (first | apply Kd.R_alloc | apply Kd.R_drewN | apply Kd.R_drew)); exact Kd.R_mono HO199.out (fun _ hk => hk.2)⟩, ⟨Kd.Q_of_R (by (with_reducible repeat (first | apply Kd.R_alloc | apply Kd.R_drewN | apply Kd.R_drew)); exact Kd.R_mono HO203.out (fun _ hk => hk.2))⟩, ⟨zB⟩⟩
     case round =>
      clear H'
      try clear c2
      try clear p2
      try clear c3
      try clear c4
      try clear c4b0
      try clear c5
      try clear c5b0
      try clear p6
      try clear q6
      try clear hx6
      try clear hf6
      try clear hx6_0
      try clear p6
      try clear q6
      obtain ⟨x5_1, x6_1, HA, HK1, HO_5, HO_6, HB⟩ := hrel
      have hl5_1 := (Kd.R_reads' HO_5.out).1
      rw [hl5_1] at HO_5
      (try simp only [hl5_1])
      (try simp only [hl5_1] at HO_6)
      cases gk with
      | zero => exact absurd HA.out (by simp [impl_spread.l0])
      | succ k1 =>
       have H := HA.out
       clear HA
       simp only [impl_spread.l0] at H
       by_cases c15 : (x6_1.length : Int) > 0
       · rw [if_pos c15] at H
         have c15b0 : decide (0 < (x6_1.length : Int)) = true := decide_eq_true c15
         have c15b1 : decide (0 < x6_1.length) = true := decide_eq_true (by omega)
         clear c15
         by_cases c16 : 0 < (x6_1.length : Int)
         · rw [if_pos c16] at H
           have c16b0 := decide_eq_true c16
           have c16b1 : decide (0 < x6_1.length) = true := decide_eq_true (by omega)
           clear c16
           by_cases c17 : 1 ≤ (x6_1.length : Int)
           · rw [if_pos c17] at H
             have c17b0 := eq_true c17
             have c17b1 : decide (1 ≤ (x6_1.length : Int)) = true := decide_eq_true c17
             clear c17
             obtain ⟨y205, hy205⟩ : ∃ y_ : List Int, y_ = (x6_1.drop (1 : Int).toNat) := ⟨_, rfl⟩
             replace H : (if 0 ≤ (rd x6_1 0) then (if (rd x6_1 0) < (l0.length : Int) then (impl_spread.l1 k1 l0 x5_1 y205 (rd x6_1 0) (rd_L1 l0 (rd x6_1 0)) ((rd_L1 l0 (rd x6_1 0)).length : Int) 0) else (none)) else (none)) = some r := by first | (rw [hy205]; with_reducible exact H) | (have H2_ := (Option.bind_some _ _).symm.trans H; rw [hy205]; with_reducible exact H2_) | (have H2_ := (Option.bind_some _ _).symm.trans H; with_reducible exact H2_) | with_reducible exact H | (rw [hy205]; exact H) | exact H
             have Ny205 := Aside0.mk hy205
             clear hy205
             by_cases c18 : 0 ≤ (rd x6_1 0)
             · rw [if_pos c18] at H
               have c18b0 := decide_eq_true c18
               clear c18
               by_cases c19 : (rd x6_1 0) < (l0.length : Int)
               · rw [if_pos c19] at H
                 have c19b0 := decide_eq_true c19
                 clear c19
                 have H' := Aside0.mk H
                 clear H
                 obtain ⟨Ao20, co20, eo20, _⟩ := Kd.Q_slice HO_6.out
                 subst eo20
                 have p204 : 0 ≤ (0 : Int) := (by omega)
                 have q204 : 0 < (x6_1.length : Int) := of_decide_eq_true zA
                 obtain ⟨ad204, e204, hx204_0⟩ := Kd.at_int (Kd.Q_reads' HO_6.out).2.2 0 p204 q204
                 cases e204
                 have qi204 : (0 < x6_1.length) = True := eq_true (by omega)
                 (try rw [show ((0 : Int)).toNat = 0 from rfl] at hx204_0)
                 (try rw [Addr.add_zero'] at hx204_0)
                 replace p204 := eq_true p204
                 replace q204 := eq_true q204
                 have q21 : (1 : Int) ≤ ((x6_1.length : Int) : Int) := of_decide_eq_true zA
                 obtain ⟨i021, hi021, _, hsz21, _⟩ := info_parts info3
                 have hcut21 := cut_from (P := Try.prog) 37 3 .i64 Try.underlying37 hi021 1 hsz21 (some ad204) x6_1.length co20 1 (by omega) q21
                 have hr21 := Kd.Q_drop (k := (1 : Int).toNat) HO_6.out (by omega)
                 obtain ⟨A21, hA21⟩ : ∃ A1, A1 = (if co20 = (1 : Int).toNat then (some ad204) else ((some ad204) : Option Addr).map (·.add ((1 : Int).toNat * 1))) := ⟨_, rfl⟩
                 obtain ⟨c21, hc21⟩ : ∃ c1, c1 = co20 - (1 : Int).toNat := ⟨_, rfl⟩
                 have hy21 : y205.length = x6_1.length - (1 : Int).toNat := (by rw [Ny205.out, List.length_drop])
                 rw [← Ny205.out] at hr21
                 rw [← hy21, ← hA21, ← hc21] at hcut21
                 replace hr21 : Kd.Q (Kd.int .i64) 3 wr w.heap.size (fun k_ => some k_ ≠ (.slice (some ⟨go6, 0, none⟩) x5_1.length co6 : Value).ownBlock) (.slice A21 y205.length c21) y205 := (by rw [hA21, hc21, hy21]; exact hr21)
                 have HE21 : Aside0 ((Value.slice A21 y205.length c21).ownBlock = (.slice (some ad204) x6_1.length co20 : Value).ownBlock) := ⟨by rw [hA21]; split <;> (cases ((some ad204) : Option Addr) <;> rfl)⟩
                 clear hy21 hi021 hsz21 HO_6 hA21 hc21
                 have HO207 := Aside0.mk hr21
                 clear hr21
                 replace q21 := eq_true q21
                 have n_ := zM (Kd.R_mono (ok' := fun k_ => some k_ ≠ (.slice A21 y205.length c21 : Value).ownBlock) HO_5.out (fun k_ hk => (by rw [HE21.out]; exact hk)))
                 clear HO_5
                 have HO_5 := n_
                 clear n_
                 have p208 : 0 ≤ ((rd x6_1 0) : Int) := of_decide_eq_true zA
                 have q208 : (rd x6_1 0) < (l0.length : Int) := of_decide_eq_true zA
                 obtain ⟨ad208, A208_0, c208_0, e208, hx208_0, hl208_0, hi208_0⟩ := at_L1 HR0.out (rd x6_1 0) p208 q208
                 cases e208
                 (try replace hx208_0 := (HB.out.cell (World.block_lt_of_cell? w _ hx208_0)).trans hx208_0)
                 have HR208_0 := Aside0.mk hi208_0
                 have HC208_0 := Aside0.mk hl208_0
                 clear hi208_0 hl208_0
                 replace p208 := eq_true p208
                 replace q208 := eq_true q208
                 go_wp2
                 go_loopg [6, 32] k1 (fun kq v6 v32 w' => ∃ (x5_2 : List Int) (x6_2 : List Int) (x32_2 : Int), v32 = .int .i64 x32_2 ∧ Aside0 (impl_spread.l1 kq l0 x5_2 x6_2 (rd x6_1 0) (rd_L1 l0 (rd x6_1 0)) ((rd_L1 l0 (rd x6_1 0)).length : Int) x32_2 = some r) ∧ Aside0 (kq ≤ k1) ∧ Aside0 (Kd.R (Kd.int .i64) 3 w' w.heap.size (fun k_ => some k_ ≠ (v6 : Value).ownBlock) (.slice (some ⟨go6, 0, none⟩) x5_1.length co6) x5_2) ∧ Aside0 (Kd.Q (Kd.int .i64) 3 w' w.heap.size (fun k_ => some k_ ≠ ((.slice (some ⟨go6, 0, none⟩) x5_1.length co6) : Value).ownBlock) v6 x6_2) ∧ Aside0 (Below w.heap.size w w'))
                 case atStart => exact ⟨(x5_1), (y205), (0), (by first | rfl | (simp; done) | (simp [*]; done)), H', ⟨Nat.le_refl _⟩, ⟨by (try simp only [hl5_1]); (with_reducible repeat (first | apply Kd.R_alloc | apply Kd.R_drewN | apply Kd.R_drew)); exact HO_5.out⟩, ⟨by (try simp only [hl5_1]); (with_reducible repeat (first | apply Kd.Q_alloc | apply Kd.Q_drewN | apply Kd.Q_drew)); exact HO207.out⟩, ⟨zB⟩⟩
                 case round =>
                  clear H'
                  try clear c1
                  try clear c2
                  try clear p2
                  try clear q2
                  try clear hx2
                  try clear qi2
                  try clear c3
                  try clear c4
                  try clear c4b0
                  try clear c5
                  try clear c5b0
                  try clear p6
                  try clear q6
                  try clear hx6
                  try clear hf6
                  try clear c15
                  try clear c15b0
                  try clear c15b1
                  try clear c16
                  try clear c16b0
                  try clear c16b1
                  try clear c17
                  try clear c17b0
                  try clear c17b1
                  try clear c18
                  try clear c18b0
                  try clear c19
                  try clear c19b0
                  try clear c20
                  try clear p20
                  try clear q20
                  try clear hx20
                  try clear qi20
                  try clear c21
                  try clear q21
                  try clear hx204_0
                  try clear hx208_0
                  try clear hx6_0
                  try clear p2
                  try clear p204
                  try clear p208
                  try clear p6
                  try clear q204
                  try clear q208
                  try clear q21
                  try clear q6
                  obtain ⟨x5_2, x6_2, x32_2, rfl, HA, HK2, HO_5, HO_6, HB⟩ := hrel
                  have hl5_2 := (Kd.R_reads' HO_5.out).1
                  rw [hl5_2] at HO_5
                  (try simp only [hl5_2])
                  (try simp only [hl5_2] at HO_6)
                  cases gk with
                  | zero => exact absurd HA.out (by simp [impl_spread.l1])
                  | succ k2 =>
                   have H := HA.out
                   clear HA
                   simp only [impl_spread.l1] at H
                   by_cases c22 : x32_2 < ((rd_L1 l0 (rd x6_1 0)).length : Int)
                   · rw [if_pos c22] at H
                     have c22b0 := decide_eq_true c22
                     clear c22
                     by_cases c23 : 0 ≤ x32_2
                     · rw [if_pos c23] at H
                       have c23b0 := decide_eq_true c23
                       clear c23
                       by_cases c24 : x32_2 < ((rd_L1 l0 (rd x6_1 0)).length : Int)
                       · rw [if_pos c24] at H
                         have c24b0 := decide_eq_true c24
                         clear c24
                         by_cases c25 : 0 ≤ (rd (rd_L1 l0 (rd x6_1 0)) x32_2)
                         · rw [if_pos c25] at H
                           have c25b0 := decide_eq_true c25
                           clear c25
                           by_cases c26 : (rd (rd_L1 l0 (rd x6_1 0)) x32_2) < (x5_2.length : Int)
                           · rw [if_pos c26] at H
                             have c26b0 := decide_eq_true c26
                             clear c26
                             by_cases c27 : (rd x5_2 (rd (rd_L1 l0 (rd x6_1 0)) x32_2)) < 0
                             · rw [if_pos c27] at H
                               have c27b0 := decide_eq_true c27
                               clear c27
                               by_cases c28 : 0 ≤ (rd x6_1 0)
                               · rw [if_pos c28] at H
                                 have c28b0 := decide_eq_true c28
                                 clear c28
                                 by_cases c29 : (rd x6_1 0) < (x5_2.length : Int)
                                 · rw [if_pos c29] at H
                                   have c29b0 := decide_eq_true c29
                                   clear c29
                                   obtain ⟨y212, hy212⟩ : ∃ y_ : List Int, y_ = (x5_2.set ((rd (rd_L1 l0 (rd x6_1 0)) x32_2) : Int).toNat (wrap64 ((rd x5_2 (rd x6_1 0)) + 1))) := ⟨_, rfl⟩
                                   replace H : (if x6_2.length < 17592186044416 then (impl_spread.l1 k2 l0 y212 (x6_2 ++ [rd (rd_L1 l0 (rd x6_1 0)) x32_2]) (rd x6_1 0) (rd_L1 l0 (rd x6_1 0)) ((rd_L1 l0 (rd x6_1 0)).length : Int) (wrap64 (x32_2 + 1))) else (none)) = some r := by first | (rw [hy212]; with_reducible exact H) | (have H2_ := (Option.bind_some _ _).symm.trans H; rw [hy212]; with_reducible exact H2_) | (have H2_ := (Option.bind_some _ _).symm.trans H; with_reducible exact H2_) | with_reducible exact H | (rw [hy212]; exact H) | exact H
                                   have Ny212 := Aside0.mk hy212
                                   clear hy212
                                   by_cases c31 : x6_2.length < 17592186044416
                                   · rw [if_pos c31] at H
                                     have LMc31 := Aside0.mk c31
                                     clear c31
                                     obtain ⟨y213, hy213⟩ : ∃ y_ : List Int, y_ = (x6_2 ++ [rd (rd_L1 l0 (rd x6_1 0)) x32_2]) := ⟨_, rfl⟩
                                     replace H : (impl_spread.l1 k2 l0 y212 y213 (rd x6_1 0) (rd_L1 l0 (rd x6_1 0)) ((rd_L1 l0 (rd x6_1 0)).length : Int) (wrap64 (x32_2 + 1))) = some r := by first | (rw [hy213]; with_reducible exact H) | (have H2_ := (Option.bind_some _ _).symm.trans H; rw [hy213]; with_reducible exact H2_) | (have H2_ := (Option.bind_some _ _).symm.trans H; with_reducible exact H2_) | with_reducible exact H | (rw [hy213]; exact H) | exact H
                                     have Ny213 := Aside0.mk hy213
                                     clear hy213
                                     have H' := Aside0.mk H
                                     clear H
                                     have p209 : 0 ≤ (x32_2 : Int) := of_decide_eq_true zA
                                     have q209 : x32_2 < ((rd_L1 l0 (rd x6_1 0)).length : Int) := of_decide_eq_true zA
                                     obtain ⟨ad209, e209, hx209_0⟩ := Kd.at_int HR208_0.out x32_2 p209 q209
                                     cases e209
                                     (try replace hx209_0 := (HB.out.cell (World.block_lt_of_cell? w _ hx209_0)).trans hx209_0)
                                     replace p209 := eq_true p209
                                     replace q209 := eq_true q209
                                     have p210 : 0 ≤ ((rd (rd_L1 l0 (rd x6_1 0)) x32_2) : Int) := of_decide_eq_true zA
                                     have q210 : (rd (rd_L1 l0 (rd x6_1 0)) x32_2) < (x5_2.length : Int) := of_decide_eq_true zA
                                     obtain ⟨ad210, e210, hx210_0⟩ := Kd.at_int (Kd.R_reads' HO_5.out).2.2 (rd (rd_L1 l0 (rd x6_1 0)) x32_2) p210 q210
                                     obtain rfl : (⟨go6, 0, none⟩ : Addr) = ad210 := (by injection e210)
                                     (first | simp only [add_plain] at hx210_0 | simp only [add_at] at hx210_0 | simp only [Addr.add, Nat.zero_add] at hx210_0 | skip)
                                     replace p210 := eq_true p210
                                     replace q210 := eq_true q210
                                     have p211 : 0 ≤ ((rd x6_1 0) : Int) := of_decide_eq_true zA
                                     have q211 : (rd x6_1 0) < (x5_2.length : Int) := of_decide_eq_true zA
                                     obtain ⟨ad211, e211, hx211_0⟩ := Kd.at_int (Kd.R_reads' HO_5.out).2.2 (rd x6_1 0) p211 q211
                                     obtain rfl : (⟨go6, 0, none⟩ : Addr) = ad211 := (by injection e211)
                                     (first | simp only [add_plain] at hx211_0 | simp only [add_at] at hx211_0 | simp only [Addr.add, Nat.zero_add] at hx211_0 | skip)
                                     replace p211 := eq_true p211
                                     replace q211 := eq_true q211
                                     have p30 : 0 ≤ ((rd (rd_L1 l0 (rd x6_1 0)) x32_2) : Int) := of_decide_eq_true zA
                                     have q30 : ((rd (rd_L1 l0 (rd x6_1 0)) x32_2) : Int) < ((x5_2.length : Int) : Int) := of_decide_eq_true zA
                                     obtain ⟨hx30_0, hf30_0⟩ := Kd.R_celln 0 HO_5.out ((rd (rd_L1 l0 (rd x6_1 0)) x32_2) : Int) p30 q30
                                     replace p30 := eq_true p30
                                     replace q30 := eq_true q30
                                     have HP32 := Kd.R_putg HO_5.out ((rd (rd_L1 l0 (rd x6_1 0)) x32_2) : Int) (wrap64 ((rd x5_2 (rd x6_1 0)) + 1))
                                     go_wp2_with (first | ((with_reducible refine gate_store (t := 3) (p := 48) rfl ?_); refine store_event (t := 3) (p := 48) (v := ?vo_w33) (w1 := (wr.setCell ⟨go6, ((rd (rd_L1 l0 (rd x6_1 0)) x32_2) : Int).toNat, none⟩ (.int .i64 (wrap64 ((rd x5_2 (rd x6_1 0)) + 1))))) ?hg ?ho ?hn ?hr ?_; (case ho => rfl); (case hg => rfl); (case hn => rfl); (case hr => first | (go_simp; done) | (go_simp; rfl)); intro w33 hw; have hg : wr.grownBy w33 (some go6) := (by rw [hw]; exact HP32.2); have hp_ : Kd.R (Kd.int .i64) 3 w33 w.heap.size (fun k_ => some k_ ≠ (u6 : Value).ownBlock) (.slice (some ⟨go6, 0, none⟩) x5_2.length co6) y212 := (by rw [hw, Ny212.out]; exact HP32.1); clear HP32; replace HO_5 := zM (hp_); replace HO_6 := zM (Kd.Q_after (v := (.slice (some ⟨go6, 0, none⟩) x5_2.length co6)) (v1 := (.slice (some ⟨go6, 0, none⟩) x5_2.length co6)) (ok := (fun _ => True)) (by (with_reducible repeat (first | apply Kd.Q_alloc | apply Kd.Q_drewN | apply Kd.Q_drew)); exact Kd.Q_mono HO_6.out (fun _ hk => ⟨trivial, hk⟩)) hg (.inl rfl)); replace HB := zM ((by rw [hw]; exact below_set (HB.out) GB6.out : Below w.heap.size w w33)); clear hg hw hp_) | ((with_reducible refine gate_builtin (b := .append) (xs := #[.tmp 49, .tmp 51]) rfl ?_); at_builtin; refine Kd.Q_append (Kd.int .i64) (w0 := w) w.heap.size rfl (.tmp 49) (.tmp 51) 37 3 (.int .i64 0) 8 rfl Try.underlying37 info3 rfl (by decide) (by omega) u6 x6_2 (rd (rd_L1 l0 (rd x6_1 0)) x32_2) [.int .i64 (rd (rd_L1 l0 (rd x6_1 0)) x32_2)] (fun k_ => some k_ ≠ (.slice (some ⟨go6, 0, none⟩) x5_2.length co6 : Value).ownBlock) (fun _ => False) rfl rfl ?aP (fun _ hk => hk.elim) ?aF ?aO ?aB ?aS ?aL ?_; (case aP => exact rfl); (case aB => exact zB); (case aF => exact (fun k_ hk => Kd.fresh' (Kd.R_lt (zR HO_5.out)) k_ hk)); (case aO => exact (by (with_reducible repeat (first | apply Kd.Q_alloc | apply Kd.Q_drewN | apply Kd.Q_drew)); exact Kd.Q_mono HO_6.out (fun _ hk => hk.2))); (case aS => exact (below_size zB)); (case aL => have := LMc31.out; omega); intro v214 w34 ho hb hg hat; rw [← Ny213.out] at ho; replace HO_5 := zM (Kd.R_after (ok := (fun _ => True)) (by (with_reducible repeat (first | apply Kd.R_alloc | apply Kd.R_drewN | apply Kd.R_drew)); exact Kd.R_mono HO_5.out (fun _ hk => ⟨trivial, hk⟩)) hg hat); replace HB := zM (hb); have HO215 := zM (ho); clear HO_6; clear ho hb hg hat))
                                     (try simp only [← hl5_2])
                                     go_roundg k2
                                     case measure => have := HK1.out; have := HK2.out; omega
                                     case rel => exact ⟨(y212), (y213), (wrap64 (x32_2 + 1)), (by first | rfl | (simp; done) | (simp [*]; done)), H', ⟨by have := HK1.out; have := HK2.out; omega⟩, ⟨by (try simp only [hl5_1]); (try simp only [hl5_2]); (with_reducible repeat (first | apply Kd.R_alloc | apply Kd.R_drewN | apply Kd.R_drew)); exact Kd.R_mono HO_5.out (fun _ hk => hk.2)⟩, ⟨by (try simp only [hl5_1]); (try simp only [hl5_2]); (with_reducible repeat (first | apply Kd.Q_alloc | apply Kd.Q_drewN | apply Kd.Q_drew)); exact HO215.out⟩, ⟨zB⟩⟩
                                   · rw [if_neg c31] at H
                                     exact absurd H (by simp)
                                 · rw [if_neg c29] at H
                                   exact absurd H (by simp)
                               · rw [if_neg c28] at H
                                 exact absurd H (by simp)
                             · rw [if_neg c27] at H
                               have c27b0 : decide ((rd x5_2 (rd (rd_L1 l0 (rd x6_1 0)) x32_2)) < 0) = false := decide_eq_false c27
                               clear c27
                               have H' := Aside0.mk H
                               clear H
                               have p209 : 0 ≤ (x32_2 : Int) := of_decide_eq_true zA
                               have q209 : x32_2 < ((rd_L1 l0 (rd x6_1 0)).length : Int) := of_decide_eq_true zA
                               obtain ⟨ad209, e209, hx209_0⟩ := Kd.at_int HR208_0.out x32_2 p209 q209
                               cases e209
                               (try replace hx209_0 := (HB.out.cell (World.block_lt_of_cell? w _ hx209_0)).trans hx209_0)
                               replace p209 := eq_true p209
                               replace q209 := eq_true q209
                               have p210 : 0 ≤ ((rd (rd_L1 l0 (rd x6_1 0)) x32_2) : Int) := of_decide_eq_true zA
                               have q210 : (rd (rd_L1 l0 (rd x6_1 0)) x32_2) < (x5_2.length : Int) := of_decide_eq_true zA
                               obtain ⟨ad210, e210, hx210_0⟩ := Kd.at_int (Kd.R_reads' HO_5.out).2.2 (rd (rd_L1 l0 (rd x6_1 0)) x32_2) p210 q210
                               obtain rfl : (⟨go6, 0, none⟩ : Addr) = ad210 := (by injection e210)
                               (first | simp only [add_plain] at hx210_0 | simp only [add_at] at hx210_0 | simp only [Addr.add, Nat.zero_add] at hx210_0 | skip)
                               replace p210 := eq_true p210
                               replace q210 := eq_true q210
                               go_wp2
                               (try simp only [← hl5_2])
                               go_roundg k2
                               case measure => have := HK1.out; have := HK2.out; omega
                               case rel => exact ⟨(x5_2), (x6_2), (wrap64 (x32_2 + 1)), (by first | rfl | (simp; done) | (simp [*]; done)), H', ⟨by have := HK1.out; have := HK2.out; omega⟩, ⟨by (try simp only [hl5_1]); (try simp only [hl5_2]); (with_reducible repeat (first | apply Kd.R_alloc | apply Kd.R_drewN | apply Kd.R_drew)); exact HO_5.out⟩, ⟨by (try simp only [hl5_1]); (try simp only [hl5_2]); (with_reducible repeat (first | apply Kd.Q_alloc | apply Kd.Q_drewN | apply Kd.Q_drew)); exact HO_6.out⟩, ⟨zB⟩⟩
                           · rw [if_neg c26] at H
                             exact absurd H (by simp)
                         · rw [if_neg c25] at H
                           exact absurd H (by simp)
                       · rw [if_neg c24] at H
                         exact absurd H (by simp)
                     · rw [if_neg c23] at H
                       exact absurd H (by simp)
                   · rw [if_neg c22] at H
                     have c22b0 : decide (x32_2 < ((rd_L1 l0 (rd x6_1 0)).length : Int)) = false := decide_eq_false c22
                     clear c22
                     have H' := Aside0.mk H
                     clear H
                     go_wp2
                     (try simp only [← hl5_1, ← hl5_2])
                     go_roundg k2
                     case measure => have := HK1.out; have := HK2.out; omega
                     case rel => exact ⟨(x5_2), (x6_2), H', ⟨by have := HK1.out; have := HK2.out; omega⟩, ⟨by (try simp only [hl5_1]); (try simp only [hl5_2]); (with_reducible repeat (first | apply Kd.R_alloc | apply Kd.R_drewN | apply Kd.R_drew)); exact HO_5.out⟩, ⟨by (try simp only [hl5_1]); (try simp only [hl5_2]); (with_reducible repeat (first | apply Kd.Q_alloc | apply Kd.Q_drewN | apply Kd.Q_drew)); exact HO_6.out⟩, ⟨zB⟩⟩
               · rw [if_neg c19] at H
                 exact absurd H (by simp)
             · rw [if_neg c18] at H
               exact absurd H (by simp)
           · rw [if_neg c17] at H
             exact absurd H (by simp)
         · rw [if_neg c16] at H
           exact absurd H (by simp)
       · rw [if_neg c15] at H
         have c15b0 : decide (0 < (x6_1.length : Int)) = false := decide_eq_false c15
         have c15b1 : decide (0 < x6_1.length) = false := decide_eq_false (by omega)
         clear c15
         obtain rfl := Option.some.inj H
         obtain ⟨Ao35, co35, eo35, _⟩ := Kd.Q_slice HO_6.out
         subst eo35
         go_wp2
         go_ret
         exact ⟨_, by first | rfl | (simp [errW_none, errW_some] <;> rfl) | (simp [*, errW_none, errW_some] <;> rfl), by (with_reducible repeat (first | apply Kd.R_alloc | apply Kd.R_drewN | apply Kd.R_drew)); exact Kd.R_mono HO_5.out (fun _ hk => trivial), zB⟩
   · rw [if_neg c5] at H
     exact absurd H (by simp)
 · rw [if_neg c4] at H
   exact absurd H (by simp)

/-! ### spec_l2Place: function 11 -/
def spec_l2Place.f (k : Nat) (l0_0 : List (List Int)) (l0_1 : List (S50)) (a1 : Int) : Option (Bool) := (spec_l2Space.f k l0_0 l0_1).bind fun t217 => (if t217 = true then ((spec_l1In.f a1 0 (wrap64 ((l0_0.length : Int) - 1))).bind fun t218 => (some t218)) else (some false))
set_option maxHeartbeats 8000000 in
set_option maxRecDepth 100000 in
theorem spec_l2Place.calls (k : Nat) (A0_0 : Option Addr) (c0_0 : Nat) (l0_0 : List (List Int)) (A0_1 : Option Addr) (c0_1 : Nat) (l0_1 : List (S50)) (a1 : Int) (r : Bool) (w : World) (hr0_0 : Kd.C (Kd.slice 3 (Kd.int .i64)) w A0_0 l0_0.length l0_0) (hc0_0 : l0_0.length ≤ c0_0) (hr0_1 : Kd.C k50 w A0_1 l0_1.length l0_1) (hc0_1 : l0_1.length ≤ c0_1) (h : spec_l2Place.f k l0_0 l0_1 a1 = some r) :
 Calls Try.prog 11 #[.agg #[.slice A0_0 l0_0.length c0_0, .slice A0_1 l0_1.length c0_1], .int .i64 a1] w fun e w' => e = .returned (.bool r) ∧ Below w.heap.size w w' := by
 have hu29 := Try.underlying29
 have HR0_0 := Aside0.mk hr0_0
 have HC0_0 := Aside0.mk hc0_0
 clear hr0_0 hc0_0
 have HR0_1 := Aside0.mk hr0_1
 have HC0_1 := Aside0.mk hc0_1
 clear hr0_1 hc0_1
 have HB := zM (Below.refl w.heap.size w)
 have H : ((spec_l2Space.f k l0_0 l0_1).bind fun t217 => (if t217 = true then ((spec_l1In.f a1 0 (wrap64 ((l0_0.length : Int) - 1))).bind fun t218 => (some t218)) else (some false))) = some r := h
 clear h
 replace H := Option.bind_eq_some_iff.mp H
 obtain ⟨t217, A30, H⟩ := H
 have A3 := Aside0.mk A30
 clear A30
 by_cases c4 : t217 = true
 · subst c4
   rw [if_pos rfl] at H
   replace H := Option.bind_eq_some_iff.mp H
   obtain ⟨t218, A50, H⟩ := H
   have A5 := Aside0.mk A50
   clear A50
   obtain rfl := Option.some.inj H
   go_enter Try.func11, Try.ntmps11
   go_wp2_with (first | ((with_reducible refine gate_dst (N := 2) rfl ?_); (try (refine gate_guard (by rfl) ?_; dsimp only)); refine zb (w := w) 2 #[.slice A0_0 l0_0.length c0_0, .slice A0_1 l0_1.length c0_1] 29 zB ?_; clear HB; intro gb216 w6 HB BK216 GW216; have GE216 := GW216; have hcz7_0 := zy BK216 0; have hcz7_1 := zy BK216 1; have hfz7_0 := blk_frozen BK216.out 0; have hfz7_1 := blk_frozen BK216.out 1) | ((with_reducible refine gate_callee (f := 27) rfl ?_); refine zc 6 Try.func27 #[.agg #[.slice A0_0 l0_0.length c0_0, .slice A0_1 l0_1.length c0_1]] ?_; (with_reducible refine (spec_l2Space.calls k _ _ l0_0 _ _ l0_1 true _ ?side1 ?side2 ?side3 ?side4 A3.out).mono ?_); (case side1 => exact zC (Kd.C_below HR0_0.out HB.out)); (case side2 => exact HC0_0.out); (case side3 => exact zC (Kd.C_below HR0_1.out HB.out)); (case side4 => exact HC0_1.out); rintro e w8 ⟨rfl, hb⟩; refine ⟨_, rfl, ?_⟩; replace BK216 := zM (blk_below (g := gb216) (o := .cells #[.slice A0_0 l0_0.length c0_0, .slice A0_1 l0_1.length c0_1] 29 (0, 0)) (zK BK216.out) hb); replace HB := zM (below_step zB hb); (try clear hb); (try clear hb2); (try clear hk); (try clear hi); have hcz9_0 := zy BK216 0; have hcz9_1 := zy BK216 1; have hfz9_0 := blk_frozen BK216.out 0; have hfz9_1 := blk_frozen BK216.out 1) | (go_at_call 28; (with_reducible refine (spec_l1In.calls a1 0 (wrap64 ((l0_0.length : Int) - 1)) t218 _ A5.out).mono ?_); rintro e w' ⟨rfl, ⟨nd, rfl⟩⟩))
   go_ret
   exact ⟨by first | rfl | (simp [errW_none, errW_some] <;> rfl) | (simp [*, errW_none, errW_some] <;> rfl), zB⟩
 · replace c4 := Bool.eq_false_iff.mpr c4
   subst c4
   have H1 : (some false) = some r := by rw [if_neg (show ¬ (false = true) by decide)] at H; exact H
   clear H
   have H := H1
   clear H1
   obtain rfl := Option.some.inj H
   go_enter Try.func11, Try.ntmps11
   go_wp2_with (first | ((with_reducible refine gate_dst (N := 2) rfl ?_); (try (refine gate_guard (by rfl) ?_; dsimp only)); refine zb (w := w) 2 #[.slice A0_0 l0_0.length c0_0, .slice A0_1 l0_1.length c0_1] 29 zB ?_; clear HB; intro gb216 w10 HB BK216 GW216; have GE216 := GW216; have hcz11_0 := zy BK216 0; have hcz11_1 := zy BK216 1; have hfz11_0 := blk_frozen BK216.out 0; have hfz11_1 := blk_frozen BK216.out 1) | ((with_reducible refine gate_callee (f := 27) rfl ?_); refine zc 6 Try.func27 #[.agg #[.slice A0_0 l0_0.length c0_0, .slice A0_1 l0_1.length c0_1]] ?_; (with_reducible refine (spec_l2Space.calls k _ _ l0_0 _ _ l0_1 false _ ?side1 ?side2 ?side3 ?side4 A3.out).mono ?_); (case side1 => exact zC (Kd.C_below HR0_0.out HB.out)); (case side2 => exact HC0_0.out); (case side3 => exact zC (Kd.C_below HR0_1.out HB.out)); (case side4 => exact HC0_1.out); rintro e w12 ⟨rfl, hb⟩; refine ⟨_, rfl, ?_⟩; replace BK216 := zM (blk_below (g := gb216) (o := .cells #[.slice A0_0 l0_0.length c0_0, .slice A0_1 l0_1.length c0_1] 29 (0, 0)) (zK BK216.out) hb); replace HB := zM (below_step zB hb); (try clear hb); (try clear hb2); (try clear hk); (try clear hi)))
   go_ret
   exact ⟨by first | rfl | (simp [errW_none, errW_some] <;> rfl) | (simp [*, errW_none, errW_some] <;> rfl), zB⟩

end Go.Proofs.Ytopgbijegnnjbaa.P
