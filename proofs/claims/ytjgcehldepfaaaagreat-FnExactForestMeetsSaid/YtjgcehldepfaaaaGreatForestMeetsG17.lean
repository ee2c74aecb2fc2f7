import Derived.Test.YtjgcehldepfaaaaGreatForestMeetsG16
import Derived.Sort.OwnSortedInts
namespace Go.Proofs.YtjgcehldepfaaaaGreat.P
open Go.RowKit YtjgcehldepfaaaaGreatW.PrintWords YtjgcehldepfaaaaGreatW.PrintLast YtjgcehldepfaaaaGreatW.PrintMore
attribute [local go_sem] bl bh bi bd bj bf bk bg
set_option maxRecDepth 100000
set_option maxHeartbeats 8000000
set_option linter.unusedVariables false
set_option linter.unusedSimpArgs false
mutual
def db : Nat → List (List Int) → List Int → List Int → Option (List Int)
 | 0, _, _, _ => none
 | k + 1, x0, x5, x6 => if (x6.length : Int) > 0 then (if 0 < (x6.length : Int) then (if 1 ≤ (x6.length : Int) then (if 0 ≤ (rd x6 0) then (if (rd x6 0) < (x0.length : Int) then (da k x0 x5 (x6.drop (1 : Int).toNat) (rd x6 0) (ai x0 (rd x6 0)) ((ai x0 (rd x6 0)).length : Int) 0) else (none)) else (none)) else (none)) else (none)) else (some x5)
def da : Nat → List (List Int) → List Int → List Int → Int → List Int → Int → Int → Option (List Int)
 | 0, _, _, _, _, _, _, _ => none
 | k + 1, x0, x5, x6, x7, x30, x31, x32 => if x32 < x31 then (if 0 ≤ x32 then (if x32 < (x30.length : Int) then (if 0 ≤ (rd x30 x32) then (if (rd x30 x32) < (x5.length : Int) then (if (rd x5 (rd x30 x32)) < 0 then (if 0 ≤ x7 then (if x7 < (x5.length : Int) then (if x6.length < 17592186044416 then (da k x0 (x5.set ((rd x30 x32) : Int).toNat (wrap64 ((rd x5 x7) + 1))) (x6 ++ [rd x30 x32]) x7 x30 x31 (wrap64 (x32 + 1))) else (none)) else (none)) else (none)) else (da k x0 x5 x6 x7 x30 x31 (wrap64 (x32 + 1)))) else (none)) else (none)) else (none)) else (none)) else (db k x0 x5 x6)
end
def iw (k : Nat) (l0 : List (List Int)) (a1 : Int) : Option (List Int) := (ib (([(-1)] : List Int)) (l0.length : Int)).bind fun t244 => (if 0 ≤ a1 then (if a1 < (t244.length : Int) then (db k l0 (t244.set (a1 : Int).toNat 0) (([a1] : List Int))) else (none)) else (none))
theorem rE (k : Nat) (A0 : Option Addr) (c0 : Nat) (l0 : List (List Int)) (a1 : Int) (r : List Int) (w : World) (hr0 : Kd.C (Kd.slice 3 (Kd.int .i64)) w A0 l0.length l0) (hc0 : l0.length ≤ c0) (h : iw k l0 a1 = some r) :
 Calls Tryz.prog 50 #[.slice A0 l0.length c0, .int .i64 a1] w fun e w' => ∃ v0_ : Value, e = .returned (v0_) ∧ Kd.R (Kd.int .i64) 3 w' w.heap.size (fun _ => True) v0_ r ∧ Below w.heap.size w w' := by
 have HR0 := Aside0.mk hr0
 have HC0 := Aside0.mk hc0
 clear hr0 hc0
 have HB := zM (Below.refl w.heap.size w)
 have H := h
 unfold iw at H
 clear h
 obtain ⟨y241, hy241⟩ : ∃ y_ : List Int, y_ = (([(-1)] : List Int)) := ⟨_, rfl⟩
 replace H : ((ib y241 (l0.length : Int)).bind fun t244 => (if 0 ≤ a1 then (if a1 < (t244.length : Int) then (db k l0 (t244.set (a1 : Int).toNat 0) (([a1] : List Int))) else (none)) else (none))) = some r := by first | (rw [hy241]; with_reducible exact H) | (have H2_ := (Option.bind_some _ _).symm.trans H; rw [hy241]; with_reducible exact H2_) | (have H2_ := (Option.bind_some _ _).symm.trans H; with_reducible exact H2_) | with_reducible exact H | (rw [hy241]; exact H) | exact H
 have Ny241 := Aside0.mk hy241
 clear hy241
 replace H := av H
 obtain ⟨t244, A30, H⟩ := H
 have A3 := Aside0.mk A30
 clear A30
 by_cases c4 : 0 ≤ a1
 case neg => rw [if_neg c4] at H; simp at H
 rw [if_pos c4] at H
 have c4b0 := af c4
 clear c4
 by_cases c5 : a1 < (t244.length : Int)
 case neg => rw [if_neg c5] at H; simp at H
 rw [if_pos c5] at H
 have c5b0 := af c5
 clear c5
 obtain ⟨y247, hy247⟩ : ∃ y_ : List Int, y_ = (t244.set (a1 : Int).toNat 0) := ⟨_, rfl⟩
 replace H : (db k l0 y247 (([a1] : List Int))) = some r := by first | (rw [hy247]; with_reducible exact H) | (have H2_ := (Option.bind_some _ _).symm.trans H; rw [hy247]; with_reducible exact H2_) | (have H2_ := (Option.bind_some _ _).symm.trans H; with_reducible exact H2_) | with_reducible exact H | (rw [hy247]; exact H) | exact H
 have Ny247 := Aside0.mk hy247
 clear hy247
 obtain ⟨y248, hy248⟩ : ∃ y_ : List Int, y_ = (([a1] : List Int)) := ⟨_, rfl⟩
 replace H : (db k l0 y247 y248) = some r := by first | (rw [hy248]; with_reducible exact H) | (have H2_ := (Option.bind_some _ _).symm.trans H; rw [hy248]; with_reducible exact H2_) | (have H2_ := (Option.bind_some _ _).symm.trans H; with_reducible exact H2_) | with_reducible exact H | (rw [hy248]; exact H) | exact H
 have Ny248 := Aside0.mk hy248
 clear hy248
 have H' := Aside0.mk H
 clear H
 go_enter Tryz.func50, Tryz.ntmps50
 go_wp2_with (first | ((with_reducible refine au (N := 10) rfl ?_); refine Kd.R_lit (Kd.int .i64) _ 3 ?hg (N := 10) ?hd (xs := ([(-1)] : List Int)) (inner := [.int .i64 (-1)]) (ok := fun _ => True) (okp := fun _ => True) ?hr ?hp (fun _ hk => hk) trivial (Below.refl _ _) (ar _) (by simp) ?_; (case hd => rfl); (case hg => rfl); (case hr => first | (go_simp; done) | (go_simp; rfl)); (case hp => exact (Reps.one (show Kd.M (Kd.int .i64) _ _ _ (-1) [.int .i64 (-1)] from rfl) (Reps.none _ _))); intro v242 w7 ho8 hb hg_ hnew_; clear hg_ hnew_; (first | rw [← Ny241.out] at ho8 | (simp only [Int.reduceToNat] at ho8; rw [← Ny241.out] at ho8)); have HO243 := zM (Kd.R_lower ho8 (am zB)); replace HB := zM (ag zB hb); clear hb ho8; obtain ⟨Ao9, co9, eo9⟩ := Kd.R_slice HO243.out; subst eo9) | ((with_reducible refine ax (f := 75) rfl ?_); refine zc 13 Tryz.func75 #[.slice Ao9 y241.length co9, .int .i64 (l0.length : Int)] ?_; (with_reducible refine (pk _ _ y241 (l0.length : Int) t244 _ ?side1 ?side2 A3.out).mono ?_); (case side1 => exact zC (Kd.R_reads' HO243.out).2.2); (case side2 => exact (Kd.R_reads' HO243.out).2.1); rintro e w10 ⟨v245, rfl, ho0, hb⟩; refine ⟨_, rfl, ?_⟩; have HO246 := zM (Kd.R_lower (Kd.R_new' ho0 (Kd.R_lt (zR HO243.out))) (am zB)); replace HO243 := zM (Kd.R_elder' (zR HO243.out) (Kd.R_base ho0) hb); replace HB := zM (ag zB hb); (try clear hb); (try clear ho0); have p6 : 0 ≤ (a1 : Int) := ac zA; have q6 : (a1 : Int) < ((t244.length : Int) : Int) := ac zA; obtain ⟨go6, co6, eo6, gb6, gl6, cl6, HG6⟩ := Kd.R_form HO246.out (by omega); (first | cases eo6 | (injection eo6 with ea_ en_ ec_; (first | subst ea_ | (injection ea_ with ea_; subst ea_)); subst ec_; clear en_)); have GB6 := Aside0.mk gb6; have GG6 := Aside0.mk HG6; clear gb6 gl6 HG6; obtain ⟨hx6_0, hf6_0⟩ := Kd.R_celln 0 HO246.out (a1 : Int) p6 q6; replace p6 := eq_true p6; replace q6 := eq_true q6; have n_ := zM (Kd.R_mono (ok' := (fun k_ => some k_ ≠ (.slice Ao9 y241.length co9 : Value).ownBlock)) HO246.out (fun k_ hk => hk.2)); clear HO246; have HO246 := n_; clear n_; obtain ⟨hy11_, hz11_⟩ := Kd.R_celln 0 HO246.out (a1 : Int) (ac zA) (ac zA); have HP11 := Kd.R_putg HO246.out (a1 : Int) 0) | ((with_reducible refine fR (t := 3) (p := 16) rfl ?_); refine fz (t := 3) (p := 16) (v := ?vo_w12) (w1 := (w10.setCell ⟨go6, (a1 : Int).toNat, none⟩ (.int .i64 0))) ?hg ?ho ?hn ?hr ?_; (case ho => rfl); (case hg => rfl); (case hn => rfl); (case hr => first | (go_simp; done) | (go_simp; rfl)); intro w12 hw; have hg : w10.grownBy w12 (some go6) := (by rw [hw]; exact HP11.2); have hp_ : Kd.R (Kd.int .i64) 3 w12 w.heap.size (fun k_ => some k_ ≠ (.slice Ao9 y241.length co9 : Value).ownBlock) (.slice (some ⟨go6, 0, none⟩) t244.length co6) y247 := (by rw [hw, Ny247.out]; exact HP11.1); clear HP11; replace HO243 := zM (Kd.R_after (v := (.slice (some ⟨go6, 0, none⟩) t244.length co6)) (v1 := (.slice (some ⟨go6, 0, none⟩) t244.length co6)) (ok := (fun _ => True)) (zR HO243.out) hg (.inl rfl)); replace HO246 := zM (hp_); replace HB := zM ((by rw [hw]; exact bJ (HB.out) GB6.out : Below w.heap.size w w12)); clear hg hw hp_) | ((with_reducible refine au (N := 18) rfl ?_); refine Kd.R_lit (Kd.int .i64) _ 3 ?hg (N := 18) ?hd (xs := ([a1] : List Int)) (inner := [.int .i64 a1]) (ok := fun _ => True) (okp := fun _ => True) ?hr ?hp (fun _ hk => hk) trivial (Below.refl _ _) (ar _) (by simp) ?_; (case hd => rfl); (case hg => rfl); (case hr => first | (go_simp; done) | (go_simp; rfl)); (case hp => exact (Reps.one (show Kd.M (Kd.int .i64) _ _ _ a1 [.int .i64 a1] from rfl) (Reps.none _ _))); intro v249 w13 ho14 hb hg_ hnew_; clear hg_ hnew_; (first | rw [← Ny248.out] at ho14 | (simp only [Int.reduceToNat] at ho14; rw [← Ny248.out] at ho14)); have HO250 := zM (Kd.R_lower (Kd.R_new' (Kd.R_new' ho14 (Kd.R_lt (zR HO243.out))) (Kd.R_lt (zR HO246.out))) (am zB)); replace HO243 := zM (Kd.R_elder' (zR HO243.out) (Kd.R_base ho14) hb); replace HO246 := zM (Kd.R_elder' (zR HO246.out) (Kd.R_base ho14) hb); replace HB := zM (ag zB hb); clear hb ho14))
 go_loopg [6] k (fun kq v6 w' => ∃ (x5_1 : List Int) (x6_1 : List Int), Aside0 (db kq l0 x5_1 x6_1 = some r) ∧ Aside0 (kq ≤ k) ∧ Aside0 (Kd.R (Kd.int .i64) 3 w' w.heap.size (fun k_ => some k_ ≠ (v6 : Value).ownBlock) (.slice (some ⟨go6, 0, none⟩) t244.length co6) x5_1) ∧ Aside0 (Kd.Q (Kd.int .i64) 3 w' w.heap.size (fun k_ => some k_ ≠ ((.slice (some ⟨go6, 0, none⟩) t244.length co6) : Value).ownBlock) v6 x6_1) ∧ Aside0 (Below w.heap.size w w'))
 case atStart => exact ⟨(y247), (y248), H', ⟨ar _⟩, ⟨by (with_reducible repeat (first | apply Kd.R_alloc | apply Kd.R_drewN | apply Kd.R_drew)); exact Kd.R_mono HO246.out (fun _ hk => hk.2)⟩, ⟨Kd.Q_of_R (by (with_reducible repeat (first | apply Kd.R_alloc | apply Kd.R_drewN | apply Kd.R_drew)); exact Kd.R_mono HO250.out (fun _ hk => hk.2))⟩, ⟨zB⟩⟩
 case round =>
  clear H'
  try clear p2
  try clear c4
  try clear c4b0
  try clear c5
  try clear c5b0
  try clear p6
  try clear q6
  try clear hx6
  try clear hf6
  try clear c7
  try clear hx6_0
  try clear p6
  try clear q6
  obtain ⟨x5_1, x6_1, HA, HK1, HO_5, HO_6, HB⟩ := hrel
  have hl5_1 := (Kd.R_reads' HO_5.out).1
  rw [hl5_1] at HO_5
  (try simp only [hl5_1])
  (try simp only [hl5_1] at HO_6)
  cases gk with
  | zero => exact absurd HA.out (by simp [db])
  | succ k1 =>
   have H := HA.out
   clear HA
   simp only [db] at H
   by_cases c15 : (x6_1.length : Int) > 0
   · rw [if_pos c15] at H
     have c15b0 : decide (0 < (x6_1.length : Int)) = true := af c15
     have c15b1 : decide (0 < x6_1.length) = true := af (by omega)
     clear c15
     by_cases c16 : 0 < (x6_1.length : Int)
     case neg => rw [if_neg c16] at H; simp at H
     rw [if_pos c16] at H
     have c16b0 := af c16
     have c16b1 : decide (0 < x6_1.length) = true := af (by omega)
     clear c16
     by_cases c17 : 1 ≤ (x6_1.length : Int)
     case neg => rw [if_neg c17] at H; simp at H
     rw [if_pos c17] at H
     have c17b0 := eq_true c17
     have c17b1 : decide (1 ≤ (x6_1.length : Int)) = true := af c17
     clear c17
     obtain ⟨y252, hy252⟩ : ∃ y_ : List Int, y_ = (x6_1.drop (1 : Int).toNat) := ⟨_, rfl⟩
     replace H : (if 0 ≤ (rd x6_1 0) then (if (rd x6_1 0) < (l0.length : Int) then (da k1 l0 x5_1 y252 (rd x6_1 0) (ai l0 (rd x6_1 0)) ((ai l0 (rd x6_1 0)).length : Int) 0) else (none)) else (none)) = some r := by first | (rw [hy252]; with_reducible exact H) | (have H2_ := (Option.bind_some _ _).symm.trans H; rw [hy252]; with_reducible exact H2_) | (have H2_ := (Option.bind_some _ _).symm.trans H; with_reducible exact H2_) | with_reducible exact H | (rw [hy252]; exact H) | exact H
     have Ny252 := Aside0.mk hy252
     clear hy252
     by_cases c18 : 0 ≤ (rd x6_1 0)
     case neg => rw [if_neg c18] at H; simp at H
     rw [if_pos c18] at H
     have c18b0 := af c18
     clear c18
     by_cases c19 : (rd x6_1 0) < (l0.length : Int)
     case neg => rw [if_neg c19] at H; simp at H
     rw [if_pos c19] at H
     have c19b0 := af c19
     clear c19
     have H' := Aside0.mk H
     clear H
     obtain ⟨Ao20, co20, eo20, _⟩ := Kd.Q_slice HO_6.out
     subst eo20
     have p251 : 0 ≤ (0 : Int) := (by omega)
     have q251 : 0 < (x6_1.length : Int) := ac zA
     obtain ⟨ad251, e251, hx251_0⟩ := Kd.at_int (Kd.Q_reads' HO_6.out).2.2 0 p251 q251
     cases e251
     have qi251 : (0 < x6_1.length) = True := eq_true (by omega)
     (try rw [show ((0 : Int)).toNat = 0 from rfl] at hx251_0)
     (try rw [Addr.add_zero'] at hx251_0)
     replace p251 := eq_true p251
     replace q251 := eq_true q251
     have q21 : (1 : Int) ≤ ((x6_1.length : Int) : Int) := ac zA
     obtain ⟨i021, hi021, _, hsz21, _⟩ := info_parts bv
     have hcut21 := tF (P := Tryz.prog) 25 3 .i64 Tryz.underlying25 hi021 1 hsz21 (some ad251) x6_1.length co20 1 (by omega) q21
     have hr21 := Kd.Q_drop (k := (1 : Int).toNat) HO_6.out (by omega)
     obtain ⟨A21, hA21⟩ : ∃ A1, A1 = (if co20 = (1 : Int).toNat then (some ad251) else ((some ad251) : Option Addr).map (·.add ((1 : Int).toNat * 1))) := ⟨_, rfl⟩
     obtain ⟨c21, hc21⟩ : ∃ c1, c1 = co20 - (1 : Int).toNat := ⟨_, rfl⟩
     have hy21 : y252.length = x6_1.length - (1 : Int).toNat := (by rw [Ny252.out, List.length_drop])
     rw [← Ny252.out] at hr21
     rw [← hy21, ← hA21, ← hc21] at hcut21
     replace hr21 : Kd.Q (Kd.int .i64) 3 wr w.heap.size (fun k_ => some k_ ≠ (.slice (some ⟨go6, 0, none⟩) x5_1.length co6 : Value).ownBlock) (.slice A21 y252.length c21) y252 := (by rw [hA21, hc21, hy21]; exact hr21)
     have HE21 : Aside0 ((Value.slice A21 y252.length c21).ownBlock = (.slice (some ad251) x6_1.length co20 : Value).ownBlock) := ⟨by rw [hA21]; split <;> (cases ((some ad251) : Option Addr) <;> rfl)⟩
     clear hy21 hi021 hsz21 HO_6 hA21 hc21
     have HO254 := Aside0.mk hr21
     clear hr21
     replace q21 := eq_true q21
     have n_ := zM (Kd.R_mono (ok' := fun k_ => some k_ ≠ (.slice A21 y252.length c21 : Value).ownBlock) HO_5.out (fun k_ hk => (by rw [HE21.out]; exact hk)))
     clear HO_5
     have HO_5 := n_
     clear n_
     have p255 : 0 ≤ ((rd x6_1 0) : Int) := ac zA
     have q255 : (rd x6_1 0) < (l0.length : Int) := ac zA
     obtain ⟨ad255, A255_0, c255_0, e255, hx255_0, hl255_0, hi255_0⟩ := ee HR0.out (rd x6_1 0) p255 q255
     cases e255
     (try replace hx255_0 := (HB.out.cell (aj w _ hx255_0)).trans hx255_0)
     have HR255_0 := Aside0.mk hi255_0
     have HC255_0 := Aside0.mk hl255_0
     clear hi255_0 hl255_0
     replace p255 := eq_true p255
     replace q255 := eq_true q255
     go_wp2
     go_loopg [6, 32] k1 (fun kq v6 v32 w' => ∃ (x5_2 : List Int) (x6_2 : List Int) (x32_2 : Int), v32 = .int .i64 x32_2 ∧ Aside0 (da kq l0 x5_2 x6_2 (rd x6_1 0) (ai l0 (rd x6_1 0)) ((ai l0 (rd x6_1 0)).length : Int) x32_2 = some r) ∧ Aside0 (kq ≤ k1) ∧ Aside0 (Kd.R (Kd.int .i64) 3 w' w.heap.size (fun k_ => some k_ ≠ (v6 : Value).ownBlock) (.slice (some ⟨go6, 0, none⟩) x5_1.length co6) x5_2) ∧ Aside0 (Kd.Q (Kd.int .i64) 3 w' w.heap.size (fun k_ => some k_ ≠ ((.slice (some ⟨go6, 0, none⟩) x5_1.length co6) : Value).ownBlock) v6 x6_2) ∧ Aside0 (Below w.heap.size w w'))
     case atStart => exact ⟨(x5_1), (y252), (0), (by first | rfl | (simp; done) | (simp [*]; done)), H', ⟨ar _⟩, ⟨by (try simp only [hl5_1]); (with_reducible repeat (first | apply Kd.R_alloc | apply Kd.R_drewN | apply Kd.R_drew)); exact HO_5.out⟩, ⟨by (try simp only [hl5_1]); (with_reducible repeat (first | apply Kd.Q_alloc | apply Kd.Q_drewN | apply Kd.Q_drew)); exact HO254.out⟩, ⟨zB⟩⟩
     case round =>
      clear H'
      try clear c1
      try clear c2
      try clear p2
      try clear q2
      try clear hx2
      try clear qi2
      try clear c4
      try clear c4b0
      try clear c5
      try clear c5b0
      try clear p6
      try clear q6
      try clear hx6
      try clear hf6
      try clear c7
      try clear c15
      try clear c15b0
      try clear c15b1
      try clear c16
      try clear c16b0
      try clear c16b1
      try clear c17
      try clear c17b0
      try clear c17b1
      try clear c18
      try clear c18b0
      try clear c19
      try clear c19b0
      try clear c21
      try clear q21
      try clear hx251_0
      try clear hx255_0
      try clear hx6_0
      try clear p2
      try clear p251
      try clear p255
      try clear p6
      try clear q21
      try clear q251
      try clear q255
      try clear q6
      obtain ⟨x5_2, x6_2, x32_2, rfl, HA, HK2, HO_5, HO_6, HB⟩ := hrel
      have hl5_2 := (Kd.R_reads' HO_5.out).1
      rw [hl5_2] at HO_5
      (try simp only [hl5_2])
      (try simp only [hl5_2] at HO_6)
      cases gk with
      | zero => exact absurd HA.out (by simp [da])
      | succ k2 =>
       have H := HA.out
       clear HA
       simp only [da] at H
       by_cases c22 : x32_2 < ((ai l0 (rd x6_1 0)).length : Int)
       · rw [if_pos c22] at H
         have c22b0 := af c22
         clear c22
         by_cases c23 : 0 ≤ x32_2
         case neg => rw [if_neg c23] at H; simp at H
         rw [if_pos c23] at H
         have c23b0 := af c23
         clear c23
         by_cases c24 : x32_2 < ((ai l0 (rd x6_1 0)).length : Int)
         case neg => rw [if_neg c24] at H; simp at H
         rw [if_pos c24] at H
         have c24b0 := af c24
         clear c24
         by_cases c25 : 0 ≤ (rd (ai l0 (rd x6_1 0)) x32_2)
         case neg => rw [if_neg c25] at H; simp at H
         rw [if_pos c25] at H
         have c25b0 := af c25
         clear c25
         by_cases c26 : (rd (ai l0 (rd x6_1 0)) x32_2) < (x5_2.length : Int)
         case neg => rw [if_neg c26] at H; simp at H
         rw [if_pos c26] at H
         have c26b0 := af c26
         clear c26
         by_cases c27 : (rd x5_2 (rd (ai l0 (rd x6_1 0)) x32_2)) < 0
         · rw [if_pos c27] at H
           have c27b0 := af c27
           clear c27
           by_cases c28 : 0 ≤ (rd x6_1 0)
           case neg => rw [if_neg c28] at H; simp at H
           rw [if_pos c28] at H
           have c28b0 := af c28
           clear c28
           by_cases c29 : (rd x6_1 0) < (x5_2.length : Int)
           case neg => rw [if_neg c29] at H; simp at H
           rw [if_pos c29] at H
           have c29b0 := af c29
           clear c29
           obtain ⟨y259, hy259⟩ : ∃ y_ : List Int, y_ = (x5_2.set ((rd (ai l0 (rd x6_1 0)) x32_2) : Int).toNat (wrap64 ((rd x5_2 (rd x6_1 0)) + 1))) := ⟨_, rfl⟩
           replace H : (if x6_2.length < 17592186044416 then (da k2 l0 y259 (x6_2 ++ [rd (ai l0 (rd x6_1 0)) x32_2]) (rd x6_1 0) (ai l0 (rd x6_1 0)) ((ai l0 (rd x6_1 0)).length : Int) (wrap64 (x32_2 + 1))) else (none)) = some r := by first | (rw [hy259]; with_reducible exact H) | (have H2_ := (Option.bind_some _ _).symm.trans H; rw [hy259]; with_reducible exact H2_) | (have H2_ := (Option.bind_some _ _).symm.trans H; with_reducible exact H2_) | with_reducible exact H | (rw [hy259]; exact H) | exact H
           have Ny259 := Aside0.mk hy259
           clear hy259
           by_cases c31 : x6_2.length < 17592186044416
           case neg => rw [if_neg c31] at H; simp at H
           rw [if_pos c31] at H
           have LMc31 := Aside0.mk c31
           clear c31
           obtain ⟨y260, hy260⟩ : ∃ y_ : List Int, y_ = (x6_2 ++ [rd (ai l0 (rd x6_1 0)) x32_2]) := ⟨_, rfl⟩
           replace H : (da k2 l0 y259 y260 (rd x6_1 0) (ai l0 (rd x6_1 0)) ((ai l0 (rd x6_1 0)).length : Int) (wrap64 (x32_2 + 1))) = some r := by first | (rw [hy260]; with_reducible exact H) | (have H2_ := (Option.bind_some _ _).symm.trans H; rw [hy260]; with_reducible exact H2_) | (have H2_ := (Option.bind_some _ _).symm.trans H; with_reducible exact H2_) | with_reducible exact H | (rw [hy260]; exact H) | exact H
           have Ny260 := Aside0.mk hy260
           clear hy260
           have H' := Aside0.mk H
           clear H
           have p256 : 0 ≤ (x32_2 : Int) := ac zA
           have q256 : x32_2 < ((ai l0 (rd x6_1 0)).length : Int) := ac zA
           obtain ⟨ad256, e256, hx256_0⟩ := Kd.at_int HR255_0.out x32_2 p256 q256
           cases e256
           (try replace hx256_0 := (HB.out.cell (aj w _ hx256_0)).trans hx256_0)
           replace p256 := eq_true p256
           replace q256 := eq_true q256
           have p257 : 0 ≤ ((rd (ai l0 (rd x6_1 0)) x32_2) : Int) := ac zA
           have q257 : (rd (ai l0 (rd x6_1 0)) x32_2) < (x5_2.length : Int) := ac zA
           obtain ⟨ad257, e257, hx257_0⟩ := Kd.at_int (Kd.R_reads' HO_5.out).2.2 (rd (ai l0 (rd x6_1 0)) x32_2) p257 q257
           obtain rfl : (⟨go6, 0, none⟩ : Addr) = ad257 := (by injection e257)
           (first | simp only [ca] at hx257_0 | simp only [dI] at hx257_0 | simp only [Addr.add, Nat.zero_add] at hx257_0 | skip)
           replace p257 := eq_true p257
           replace q257 := eq_true q257
           have p258 : 0 ≤ ((rd x6_1 0) : Int) := ac zA
           have q258 : (rd x6_1 0) < (x5_2.length : Int) := ac zA
           obtain ⟨ad258, e258, hx258_0⟩ := Kd.at_int (Kd.R_reads' HO_5.out).2.2 (rd x6_1 0) p258 q258
           obtain rfl : (⟨go6, 0, none⟩ : Addr) = ad258 := (by injection e258)
           (first | simp only [ca] at hx258_0 | simp only [dI] at hx258_0 | simp only [Addr.add, Nat.zero_add] at hx258_0 | skip)
           replace p258 := eq_true p258
           replace q258 := eq_true q258
           have p30 : 0 ≤ ((rd (ai l0 (rd x6_1 0)) x32_2) : Int) := ac zA
           have q30 : ((rd (ai l0 (rd x6_1 0)) x32_2) : Int) < ((x5_2.length : Int) : Int) := ac zA
           obtain ⟨hx30_0, hf30_0⟩ := Kd.R_celln 0 HO_5.out ((rd (ai l0 (rd x6_1 0)) x32_2) : Int) p30 q30
           replace p30 := eq_true p30
           replace q30 := eq_true q30
           have HP32 := Kd.R_putg HO_5.out ((rd (ai l0 (rd x6_1 0)) x32_2) : Int) (wrap64 ((rd x5_2 (rd x6_1 0)) + 1))
           go_wp2_with (first | ((with_reducible refine fR (t := 3) (p := 48) rfl ?_); refine fz (t := 3) (p := 48) (v := ?vo_w33) (w1 := (wr.setCell ⟨go6, ((rd (ai l0 (rd x6_1 0)) x32_2) : Int).toNat, none⟩ (.int .i64 (wrap64 ((rd x5_2 (rd x6_1 0)) + 1))))) ?hg ?ho ?hn ?hr ?_; (case ho => rfl); (case hg => rfl); (case hn => rfl); (case hr => first | (go_simp; done) | (go_simp; rfl)); intro w33 hw; have hg : wr.grownBy w33 (some go6) := (by rw [hw]; exact HP32.2); have hp_ : Kd.R (Kd.int .i64) 3 w33 w.heap.size (fun k_ => some k_ ≠ (u6 : Value).ownBlock) (.slice (some ⟨go6, 0, none⟩) x5_2.length co6) y259 := (by rw [hw, Ny259.out]; exact HP32.1); clear HP32; replace HO_5 := zM (hp_); replace HO_6 := zM (Kd.Q_after (v := (.slice (some ⟨go6, 0, none⟩) x5_2.length co6)) (v1 := (.slice (some ⟨go6, 0, none⟩) x5_2.length co6)) (ok := (fun _ => True)) (by (with_reducible repeat (first | apply Kd.Q_alloc | apply Kd.Q_drewN | apply Kd.Q_drew)); exact Kd.Q_mono HO_6.out (fun _ hk => ⟨trivial, hk⟩)) hg (.inl rfl)); replace HB := zM ((by rw [hw]; exact bJ (HB.out) GB6.out : Below w.heap.size w w33)); clear hg hw hp_) | ((with_reducible refine cJ (b := .append) (xs := #[.tmp 49, .tmp 51]) rfl ?_); at_builtin; refine Kd.Q_append (Kd.int .i64) (w0 := w) w.heap.size rfl (.tmp 49) (.tmp 51) 25 3 (.int .i64 0) 8 rfl Tryz.underlying25 bv rfl (by decide) (by omega) u6 x6_2 (rd (ai l0 (rd x6_1 0)) x32_2) [.int .i64 (rd (ai l0 (rd x6_1 0)) x32_2)] (fun k_ => some k_ ≠ (.slice (some ⟨go6, 0, none⟩) x5_2.length co6 : Value).ownBlock) (fun _ => False) rfl rfl ?aP (fun _ hk => hk.elim) ?aF ?aO ?aB ?aS ?aL ?_; (case aP => exact rfl); (case aB => exact zB); (case aF => exact (fun k_ hk => Kd.fresh' (Kd.R_lt (zR HO_5.out)) k_ hk)); (case aO => exact (by (with_reducible repeat (first | apply Kd.Q_alloc | apply Kd.Q_drewN | apply Kd.Q_drew)); exact Kd.Q_mono HO_6.out (fun _ hk => hk.2))); (case aS => exact (am zB)); (case aL => have := LMc31.out; omega); intro v261 w34 ho hb hg hat; rw [← Ny260.out] at ho; replace HO_5 := zM (Kd.R_after (ok := (fun _ => True)) (by (with_reducible repeat (first | apply Kd.R_alloc | apply Kd.R_drewN | apply Kd.R_drew)); exact Kd.R_mono HO_5.out (fun _ hk => ⟨trivial, hk⟩)) hg hat); replace HB := zM (hb); have HO262 := zM (ho); clear HO_6; clear ho hb hg hat))
           (try simp only [← hl5_2])
           go_roundg k2
           case measure => have := HK1.out; have := HK2.out; omega
           case rel => exact ⟨(y259), (y260), (wrap64 (x32_2 + 1)), (by first | rfl | (simp; done) | (simp [*]; done)), H', ⟨by have := HK1.out; have := HK2.out; omega⟩, ⟨by (try simp only [hl5_1]); (try simp only [hl5_2]); (with_reducible repeat (first | apply Kd.R_alloc | apply Kd.R_drewN | apply Kd.R_drew)); exact Kd.R_mono HO_5.out (fun _ hk => hk.2)⟩, ⟨by (try simp only [hl5_1]); (try simp only [hl5_2]); (with_reducible repeat (first | apply Kd.Q_alloc | apply Kd.Q_drewN | apply Kd.Q_drew)); exact HO262.out⟩, ⟨zB⟩⟩
         · rw [if_neg c27] at H
           have c27b0 : decide ((rd x5_2 (rd (ai l0 (rd x6_1 0)) x32_2)) < 0) = false := ao c27
           clear c27
           have H' := Aside0.mk H
           clear H
           have p256 : 0 ≤ (x32_2 : Int) := ac zA
           have q256 : x32_2 < ((ai l0 (rd x6_1 0)).length : Int) := ac zA
           obtain ⟨ad256, e256, hx256_0⟩ := Kd.at_int HR255_0.out x32_2 p256 q256
           cases e256
           (try replace hx256_0 := (HB.out.cell (aj w _ hx256_0)).trans hx256_0)
           replace p256 := eq_true p256
           replace q256 := eq_true q256
           have p257 : 0 ≤ ((rd (ai l0 (rd x6_1 0)) x32_2) : Int) := ac zA
           have q257 : (rd (ai l0 (rd x6_1 0)) x32_2) < (x5_2.length : Int) := ac zA
           obtain ⟨ad257, e257, hx257_0⟩ := Kd.at_int (Kd.R_reads' HO_5.out).2.2 (rd (ai l0 (rd x6_1 0)) x32_2) p257 q257
           obtain rfl : (⟨go6, 0, none⟩ : Addr) = ad257 := (by injection e257)
           (first | simp only [ca] at hx257_0 | simp only [dI] at hx257_0 | simp only [Addr.add, Nat.zero_add] at hx257_0 | skip)
           replace p257 := eq_true p257
           replace q257 := eq_true q257
           go_wp2
           (try simp only [← hl5_2])
           go_roundg k2
           case measure => have := HK1.out; have := HK2.out; omega
           case rel => exact ⟨(x5_2), (x6_2), (wrap64 (x32_2 + 1)), (by first | rfl | (simp; done) | (simp [*]; done)), H', ⟨by have := HK1.out; have := HK2.out; omega⟩, ⟨by (try simp only [hl5_1]); (try simp only [hl5_2]); (with_reducible repeat (first | apply Kd.R_alloc | apply Kd.R_drewN | apply Kd.R_drew)); exact HO_5.out⟩, ⟨by (try simp only [hl5_1]); (try simp only [hl5_2]); (with_reducible repeat (first | apply Kd.Q_alloc | apply Kd.Q_drewN | apply Kd.Q_drew)); exact HO_6.out⟩, ⟨zB⟩⟩
       · rw [if_neg c22] at H
         have c22b0 : decide (x32_2 < ((ai l0 (rd x6_1 0)).length : Int)) = false := ao c22
         clear c22
         have H' := Aside0.mk H
         clear H
         go_wp2
         (try simp only [← hl5_1, ← hl5_2])
         go_roundg k2
         case measure => have := HK1.out; have := HK2.out; omega
         case rel => exact ⟨(x5_2), (x6_2), H', ⟨by have := HK1.out; have := HK2.out; omega⟩, ⟨by (try simp only [hl5_1]); (try simp only [hl5_2]); (with_reducible repeat (first | apply Kd.R_alloc | apply Kd.R_drewN | apply Kd.R_drew)); exact HO_5.out⟩, ⟨by (try simp only [hl5_1]); (try simp only [hl5_2]); (with_reducible repeat (first | apply Kd.Q_alloc | apply Kd.Q_drewN | apply Kd.Q_drew)); exact HO_6.out⟩, ⟨zB⟩⟩
   · rw [if_neg c15] at H
     have c15b0 : decide (0 < (x6_1.length : Int)) = false := ao c15
     have c15b1 : decide (0 < x6_1.length) = false := ao (by omega)
     clear c15
     obtain rfl := ap H
     obtain ⟨Ao35, co35, eo35, _⟩ := Kd.Q_slice HO_6.out
     subst eo35
     go_wp2
     go_ret
     exact ⟨_, by first | rfl | (simp [al, ak] <;> rfl) | (simp [*, al, ak] <;> rfl), by (with_reducible repeat (first | apply Kd.R_alloc | apply Kd.R_drewN | apply Kd.R_drew)); exact Kd.R_mono HO_5.out (fun _ hk => trivial), zB⟩
def gQ (k : Nat) (a0_0 : Int) (l0_1 : List (S63)) (l1 : List Int) : Option (Bool) := (jp k l1 a0_0).bind fun t264 => (if t264 = true then ((bV k l1).bind fun t265 => ((fo a0_0 l0_1 t265).bind fun t266 => (some t266))) else (some false))
def impl_Graph_isIndependent.T1 : Bool × List (List Nat × List Nat) := (true, [([], []), ([], []), ([1], [1]), ([0, 2], [0, 2]), ([3, 3], [3]), ([4], [4]), ([4], [4]), ([6, 4, 4], [4, 6]), ([5, 7, 7, 4], [4, 5, 7]), ([4, 8], [4, 8]), ([9, 8, 0, 1, 2, 3, 4, 5, 6, 7, 8, 9], [9])])
def sa : List Nat := [0, 0, 2, 7, 15, 31, 31, 95, 255, 511, 1023]
theorem ng : aQ .any (ct Tryz.f47 1) = impl_Graph_isIndependent.T1 := by kernel_rfl
theorem nh : bK impl_Graph_isIndependent.T1.2 sa = true := by kernel_rfl
theorem ku (k : Nat) (a0_0 : Int) (A0_1 : Option Addr) (c0_1 : Nat) (l0_1 : List (S63)) (A1 : Option Addr) (c1 : Nat) (l1 : List Int) (r : Bool) (w : World) (hr0_1 : Kd.C k63 w A0_1 l0_1.length l0_1) (hc0_1 : l0_1.length ≤ c0_1) (hr1 : Kd.C (Kd.int .i64) w A1 l1.length l1) (hc1 : l1.length ≤ c1) (h : gQ k a0_0 l0_1 l1 = some r) :
 Calls Tryz.prog 47 #[.agg #[.int .i64 a0_0, .slice A0_1 l0_1.length c0_1], .slice A1 l1.length c1] w fun e w' => e = .returned (.bool r) ∧ Below w.heap.size w w' := by
 have hu29 := Tryz.underlying29
 have HR0_1 := Aside0.mk hr0_1
 have HC0_1 := Aside0.mk hc0_1
 clear hr0_1 hc0_1
 have HR1 := Aside0.mk hr1
 have HC1 := Aside0.mk hc1
 clear hr1 hc1
 have HB := zM (Below.refl w.heap.size w)
 have H := h
 unfold gQ at H
 clear h
 replace H := av H
 obtain ⟨t264, A30, H⟩ := H
 have A3 := Aside0.mk A30
 clear A30
 by_cases c4 : t264 = true
 · subst c4
   rw [if_pos rfl] at H
   replace H := av H
   obtain ⟨t265, A50, H⟩ := H
   have A5 := Aside0.mk A50
   clear A50
   replace H := av H
   obtain ⟨t266, A60, H⟩ := H
   have A6 := Aside0.mk A60
   clear A60
   obtain rfl := ap H
   go_enter Tryz.func47, Tryz.ntmps47
   try go_wp2_with (first | ((with_reducible refine au (N := 2) rfl ?_); refine zb (w := w) 2 #[.int .i64 a0_0, .slice A0_1 l0_1.length c0_1] 29 zB ?_; clear HB; intro gb263 w7 HB BK263 GW263; have GE263 := GW263))
   replace BK263 := zM (aq BK263.out)
   replace HB := zM (aD HB.out)
   refine zs (n := 11) (fun w' => w'.cell? ⟨gb263, 0, none⟩ = some (.int .i64 a0_0) ∧ w'.cell? ⟨gb263, 1, none⟩ = some (.slice A0_1 l0_1.length c0_1)) ⟨(ah BK263.out 0).trans rfl, (ah BK263.out 1).trans rfl⟩ (fun hHeld => ?_); refine aX ng nh (fun HT_ HW_ => ?_)
   generalize w7.drew = w8 at BK263 HB hHeld ⊢
   refine zp HT_ 0 5 ?_
   refine zp HT_ 1 6 ?_
   refine zt HT_ HW_ 2 7 hHeld ?_ (hy := by rintro w' ⟨s0, s1⟩; go_simp; with_reducible rfl)
   refine zg HT_ 3 8 Tryz.func68 #[.slice A1 l1.length c1, .int .i64 a0_0] (fun K hK => ?_)
   with_reducible refine (m8 k _ _ l1 a0_0 true _ ?side1 ?side2 A3.out).mono ?_
   (case side1 => exact zC (Kd.C_below HR1.out HB.out))
   (case side2 => exact HC1.out)
   rintro e w' ⟨rfl, ⟨nd, rfl⟩⟩
   refine ⟨_, rfl, ?_⟩
   refine hK.out _ _ ⟨(ah BK263.out 0).trans rfl, (ah BK263.out 1).trans rfl⟩ (fun hHeld => ?_)
   clear hK K
   refine zn 8 ?_
   refine zp HT_ 4 9 ?_
   refine zp HT_ 6 11 ?_
   refine zt HT_ HW_ 5 10 hHeld ?_ (hy := by rintro w' ⟨s0, s1⟩; go_simp; with_reducible rfl)
   refine zg HT_ 7 12 Tryz.func32 #[.slice A1 l1.length c1] (fun K hK => ?_)
   with_reducible refine (cI k _ _ l1 t265 _ ?side1 ?side2 A5.out).mono ?_
   (case side1 => exact zC (Kd.C_below HR1.out zB))
   (case side2 => exact HC1.out)
   rintro e w' ⟨rfl, ⟨nd, rfl⟩⟩
   refine ⟨_, rfl, ?_⟩
   refine hK.out _ _ ⟨(ah BK263.out 0).trans rfl, (ah BK263.out 1).trans rfl⟩ (fun hHeld => ?_)
   clear hK K
   refine zn 12 ?_
   refine zg HT_ 8 13 Tryz.func69 #[.agg #[.int .i64 a0_0, .slice A0_1 l0_1.length c0_1], .int .u64 t265] (fun K hK => ?_)
   with_reducible refine (ni a0_0 _ _ l0_1 t265 t266 _ ?side1 ?side2 A6.out).mono ?_
   (case side1 => exact zC (Kd.C_below HR0_1.out zB))
   (case side2 => exact HC0_1.out)
   rintro e w9 ⟨rfl, hb⟩
   refine ⟨_, rfl, ?_⟩
   replace BK263 := zJ BK263 hb
   replace HB := zM (ag zB hb)
   (try clear hb)
   refine hK.out _ _ ⟨(ah BK263.out 0).trans rfl, (ah BK263.out 1).trans rfl⟩ (fun hHeld => ?_)
   clear hK K
   refine zn 13 ?_
   refine zp HT_ 9 14 ?_
   refine zp HT_ 10 4 ?_
   refine zo HT_ ?_
   try go_wp2
   go_ret
   exact ⟨by first | rfl | (simp [al, ak] <;> rfl) | (simp [*, al, ak] <;> rfl), zB⟩
 · replace c4 := Bool.eq_false_iff.mpr c4
   subst c4
   rw [if_neg (show ¬ (false = true) by decide)] at H
   obtain rfl := ap H
   go_enter Tryz.func47, Tryz.ntmps47
   try go_wp2_with (first | ((with_reducible refine au (N := 2) rfl ?_); refine zb (w := w) 2 #[.int .i64 a0_0, .slice A0_1 l0_1.length c0_1] 29 zB ?_; clear HB; intro gb263 w10 HB BK263 GW263; have GE263 := GW263))
   replace BK263 := zM (aq BK263.out)
   replace HB := zM (aD HB.out)
   refine zs (n := 11) (fun w' => w'.cell? ⟨gb263, 0, none⟩ = some (.int .i64 a0_0) ∧ w'.cell? ⟨gb263, 1, none⟩ = some (.slice A0_1 l0_1.length c0_1)) ⟨(ah BK263.out 0).trans rfl, (ah BK263.out 1).trans rfl⟩ (fun hHeld => ?_); refine aX ng nh (fun HT_ HW_ => ?_)
   generalize w10.drew = w11 at BK263 HB hHeld ⊢
   refine zp HT_ 0 5 ?_
   refine zp HT_ 1 6 ?_
   refine zt HT_ HW_ 2 7 hHeld ?_ (hy := by rintro w' ⟨s0, s1⟩; go_simp; with_reducible rfl)
   refine zg HT_ 3 8 Tryz.func68 #[.slice A1 l1.length c1, .int .i64 a0_0] (fun K hK => ?_)
   with_reducible refine (m8 k _ _ l1 a0_0 false _ ?side1 ?side2 A3.out).mono ?_
   (case side1 => exact zC (Kd.C_below HR1.out HB.out))
   (case side2 => exact HC1.out)
   rintro e w' ⟨rfl, ⟨nd, rfl⟩⟩
   refine ⟨_, rfl, ?_⟩
   refine hK.out _ _ ⟨(ah BK263.out 0).trans rfl, (ah BK263.out 1).trans rfl⟩ (fun hHeld => ?_)
   clear hK K
   refine zn 8 ?_
   refine zp HT_ 4 9 ?_
   refine zu HT_ 5 10 ?_
   refine zu HT_ 6 11 ?_
   refine zu HT_ 7 12 ?_
   refine zu HT_ 8 13 ?_
   refine zp HT_ 9 14 ?_
   refine zp HT_ 10 4 ?_
   refine zo HT_ ?_
   try go_wp2
   go_ret
   exact ⟨by first | rfl | (simp [al, ak] <;> rfl) | (simp [*, al, ak] <;> rfl), zB⟩
def dX (k : Nat) (a0_0 : Int) (l0_1 : List (S63)) (l1 : List Int) (l2 : List Int) : Option (Bool) := (gM k a0_0 l0_1).bind fun t268 => (if t268 = true then ((gQ k a0_0 l0_1 l1).bind fun t269 => (if t269 = true then ((gQ k a0_0 l0_1 l2).bind fun t270 => (some t270)) else (some false))) else (some false))
theorem iv (k : Nat) (a0_0 : Int) (A0_1 : Option Addr) (c0_1 : Nat) (l0_1 : List (S63)) (A1 : Option Addr) (c1 : Nat) (l1 : List Int) (A2 : Option Addr) (c2 : Nat) (l2 : List Int) (r : Bool) (w : World) (hr0_1 : Kd.C k63 w A0_1 l0_1.length l0_1) (hc0_1 : l0_1.length ≤ c0_1) (hr1 : Kd.C (Kd.int .i64) w A1 l1.length l1) (hc1 : l1.length ≤ c1) (hr2 : Kd.C (Kd.int .i64) w A2 l2.length l2) (hc2 : l2.length ≤ c2) (h : dX k a0_0 l0_1 l1 l2 = some r) :
 Calls Tryz.prog 22 #[.agg #[.int .i64 a0_0, .slice A0_1 l0_1.length c0_1], .slice A1 l1.length c1, .slice A2 l2.length c2] w fun e w' => e = .returned (.bool r) ∧ Below w.heap.size w w' := by
 have hu29 := Tryz.underlying29
 have HR0_1 := Aside0.mk hr0_1
 have HC0_1 := Aside0.mk hc0_1
 clear hr0_1 hc0_1
 have HR1 := Aside0.mk hr1
 have HC1 := Aside0.mk hc1
 clear hr1 hc1
 have HR2 := Aside0.mk hr2
 have HC2 := Aside0.mk hc2
 clear hr2 hc2
 have HB := zM (Below.refl w.heap.size w)
 have H := h
 unfold dX at H
 clear h
 replace H := av H
 obtain ⟨t268, A40, H⟩ := H
 have A4 := Aside0.mk A40
 clear A40
 by_cases c5 : t268 = true
 · subst c5
   rw [if_pos rfl] at H
   replace H := av H
   obtain ⟨t269, A60, H⟩ := H
   have A6 := Aside0.mk A60
   clear A60
   by_cases c7 : t269 = true
   · subst c7
     rw [if_pos rfl] at H
     replace H := av H
     obtain ⟨t270, A80, H⟩ := H
     have A8 := Aside0.mk A80
     clear A80
     obtain rfl := ap H
     go_enter Tryz.func22, Tryz.ntmps22
     go_wp2_with (first | ((with_reducible refine au (N := 3) rfl ?_); refine zb (w := w) 3 #[.int .i64 a0_0, .slice A0_1 l0_1.length c0_1] 29 zB ?_; clear HB; intro gb267 w9 HB BK267 GW267; have GE267 := GW267; have hcz10_0 := zy BK267 0; have hcz10_1 := zy BK267 1; have hfz10_0 := ae BK267.out 0; have hfz10_1 := ae BK267.out 1) | ((with_reducible refine ax (f := 46) rfl ?_); refine zc 8 Tryz.func46 #[.agg #[.int .i64 a0_0, .slice A0_1 l0_1.length c0_1]] ?_; (with_reducible refine (gN k a0_0 _ _ l0_1 true _ ?side1 ?side2 A4.out).mono ?_); (case side1 => exact zC (Kd.C_below HR0_1.out HB.out)); (case side2 => exact HC0_1.out); rintro e w11 ⟨rfl, hb⟩; refine ⟨_, rfl, ?_⟩; replace BK267 := zJ BK267 hb; replace HB := zM (ag zB hb); (try clear hb); have hcz12_0 := zy BK267 0; have hcz12_1 := zy BK267 1; have hfz12_0 := ae BK267.out 0; have hfz12_1 := ae BK267.out 1) | (go_at_call 47; (with_reducible refine (ku k a0_0 _ _ l0_1 _ _ l1 true _ ?side1 ?side2 ?side3 ?side4 A6.out).mono ?_); (case side1 => exact zC (Kd.C_below HR0_1.out HB.out)); (case side2 => exact HC0_1.out); (case side3 => exact zC (Kd.C_below HR1.out HB.out)); (case side4 => exact HC1.out); rintro e w13 ⟨rfl, hb⟩; replace BK267 := zJ BK267 hb; replace HB := zM (ag zB hb); (try clear hb); have hcz14_0 := zy BK267 0; have hcz14_1 := zy BK267 1; have hfz14_0 := ae BK267.out 0; have hfz14_1 := ae BK267.out 1) | (go_at_call 47; (with_reducible refine (ku k a0_0 _ _ l0_1 _ _ l2 t270 _ ?side1 ?side2 ?side3 ?side4 A8.out).mono ?_); (case side1 => exact zC (Kd.C_below HR0_1.out HB.out)); (case side2 => exact HC0_1.out); (case side3 => exact zC (Kd.C_below HR2.out HB.out)); (case side4 => exact HC2.out); rintro e w15 ⟨rfl, hb⟩; replace BK267 := zJ BK267 hb; replace HB := zM (ag zB hb); (try clear hb); (try clear hi)))
     go_ret
     exact ⟨by first | rfl | (simp [al, ak] <;> rfl) | (simp [*, al, ak] <;> rfl), zB⟩
   · replace c7 := Bool.eq_false_iff.mpr c7
     subst c7
     rw [if_neg (show ¬ (false = true) by decide)] at H
     obtain rfl := ap H
     go_enter Tryz.func22, Tryz.ntmps22
     go_wp2_with (first | ((with_reducible refine au (N := 3) rfl ?_); refine zb (w := w) 3 #[.int .i64 a0_0, .slice A0_1 l0_1.length c0_1] 29 zB ?_; clear HB; intro gb267 w16 HB BK267 GW267; have GE267 := GW267; have hcz17_0 := zy BK267 0; have hcz17_1 := zy BK267 1; have hfz17_0 := ae BK267.out 0; have hfz17_1 := ae BK267.out 1) | ((with_reducible refine ax (f := 46) rfl ?_); refine zc 8 Tryz.func46 #[.agg #[.int .i64 a0_0, .slice A0_1 l0_1.length c0_1]] ?_; (with_reducible refine (gN k a0_0 _ _ l0_1 true _ ?side1 ?side2 A4.out).mono ?_); (case side1 => exact zC (Kd.C_below HR0_1.out HB.out)); (case side2 => exact HC0_1.out); rintro e w18 ⟨rfl, hb⟩; refine ⟨_, rfl, ?_⟩; replace BK267 := zJ BK267 hb; replace HB := zM (ag zB hb); (try clear hb); have hcz19_0 := zy BK267 0; have hcz19_1 := zy BK267 1; have hfz19_0 := ae BK267.out 0; have hfz19_1 := ae BK267.out 1) | (go_at_call 47; (with_reducible refine (ku k a0_0 _ _ l0_1 _ _ l1 false _ ?side1 ?side2 ?side3 ?side4 A6.out).mono ?_); (case side1 => exact zC (Kd.C_below HR0_1.out HB.out)); (case side2 => exact HC0_1.out); (case side3 => exact zC (Kd.C_below HR1.out HB.out)); (case side4 => exact HC1.out); rintro e w20 ⟨rfl, hb⟩; replace BK267 := zJ BK267 hb; replace HB := zM (ag zB hb); (try clear hb); (try clear hi)))
     go_ret
     exact ⟨by first | rfl | (simp [al, ak] <;> rfl) | (simp [*, al, ak] <;> rfl), zB⟩
 · replace c5 := Bool.eq_false_iff.mpr c5
   subst c5
   rw [if_neg (show ¬ (false = true) by decide)] at H
   obtain rfl := ap H
   go_enter Tryz.func22, Tryz.ntmps22
   go_wp2_with (first | ((with_reducible refine au (N := 3) rfl ?_); refine zb (w := w) 3 #[.int .i64 a0_0, .slice A0_1 l0_1.length c0_1] 29 zB ?_; clear HB; intro gb267 w21 HB BK267 GW267; have GE267 := GW267; have hcz22_0 := zy BK267 0; have hcz22_1 := zy BK267 1; have hfz22_0 := ae BK267.out 0; have hfz22_1 := ae BK267.out 1) | ((with_reducible refine ax (f := 46) rfl ?_); refine zc 8 Tryz.func46 #[.agg #[.int .i64 a0_0, .slice A0_1 l0_1.length c0_1]] ?_; (with_reducible refine (gN k a0_0 _ _ l0_1 false _ ?side1 ?side2 A4.out).mono ?_); (case side1 => exact zC (Kd.C_below HR0_1.out HB.out)); (case side2 => exact HC0_1.out); rintro e w23 ⟨rfl, hb⟩; refine ⟨_, rfl, ?_⟩; replace BK267 := zJ BK267 hb; replace HB := zM (ag zB hb); (try clear hb); (try clear hi)))
   go_ret
   exact ⟨by first | rfl | (simp [al, ak] <;> rfl) | (simp [*, al, ak] <;> rfl), zB⟩
def d6 : Nat → List (List Int) → Int → Int → Int → List (S63) → Option ((List (List Int)))
 | 0, _, _, _, _, _ => none
 | k + 1, x3, x7, x8, x272000, x272001 => if x8 < x7 then ((gP k x272000 x272001 x8).bind fun t275 => (if x3.length < 5864062014805 then (d6 k (x3 ++ [t275]) x7 (wrap64 (x8 + 1)) x272000 x272001) else (none))) else (some x3)
def gO (k : Nat) (a0_0 : Int) (l0_1 : List (S63)) : Option ((List (List Int))) := d6 k (([] : List (List Int))) a0_0 0 a0_0 l0_1
theorem nc (k : Nat) (a0_0 : Int) (A0_1 : Option Addr) (c0_1 : Nat) (l0_1 : List (S63)) (r : List (List Int)) (w : World) (hr0_1 : Kd.C k63 w A0_1 l0_1.length l0_1) (hc0_1 : l0_1.length ≤ c0_1) (h : gO k a0_0 l0_1 = some r) :
 Calls Tryz.prog 35 #[.agg #[.int .i64 a0_0, .slice A0_1 l0_1.length c0_1]] w fun e w' => ∃ v0_ : Value, e = .returned (v0_) ∧ Kd.S (Kd.slice 3 (Kd.int .i64)) 25 w' w.heap.size (fun _ => True) v0_ r ∧ Below w.heap.size w w' := by
 have hu29 := Tryz.underlying29
 have HR0_1 := Aside0.mk hr0_1
 have HC0_1 := Aside0.mk hc0_1
 clear hr0_1 hc0_1
 have HB := zM (Below.refl w.heap.size w)
 have H := h
 unfold gO at H
 clear h
 obtain ⟨y272, hy272⟩ : ∃ y_ : List (List Int), y_ = (([] : List (List Int))) := ⟨_, rfl⟩
 replace H : (d6 k y272 a0_0 0 a0_0 l0_1) = some r := by first | (rw [hy272]; with_reducible exact H) | (have H2_ := (Option.bind_some _ _).symm.trans H; rw [hy272]; with_reducible exact H2_) | (have H2_ := (Option.bind_some _ _).symm.trans H; with_reducible exact H2_) | with_reducible exact H | (rw [hy272]; exact H) | exact H
 have Ny272 := Aside0.mk hy272
 clear hy272
 have H' := Aside0.mk H
 clear H
 go_enter Tryz.func35, Tryz.ntmps35
 go_wp2_with (first | ((with_reducible refine au (N := 1) rfl ?_); refine zb (w := w) 1 #[.int .i64 a0_0, .slice A0_1 l0_1.length c0_1] 29 zB ?_; clear HB; intro gb271 w2 HB BK271 GW271; have GE271 := GW271) | ((with_reducible refine au (N := 5) rfl ?_); refine Kd.S_lit (Kd.slice 3 (Kd.int .i64)) _ 25 ?hg (N := 5) ?hd (xs := ([] : List (List Int))) (inner := []) (ok := fun _ => True) (okp := fun _ => True) ?hr ?hp (fun _ hk => hk) trivial (Below.refl _ _) (ar _) (by simp) ?_; (case hd => rfl); (case hg => rfl); (case hr => first | (go_simp; done) | (go_simp; rfl)); (case hp => exact (Reps.none _ _)); intro v273 w3 ho4 hb hg_ hnew_; clear hg_ hnew_; (first | rw [← Ny272.out] at ho4 | (simp only [Int.reduceToNat] at ho4; rw [← Ny272.out] at ho4)); have HO274 := zM (Kd.S_lower ho4 (am zB)); replace BK271 := zJ BK271 hb; replace HB := zM (ag zB hb); clear hb ho4; have hcz5_0 := zy BK271 0; have hcz5_1 := zy BK271 1; have hfz5_0 := ae BK271.out 0; have hfz5_1 := ae BK271.out 1))
 go_loopg [3, 8] k (fun kq v3 v8 w' => ∃ (x3_1 : List (List Int)) (x8_1 : Int), v8 = .int .i64 x8_1 ∧ Aside0 (d6 kq x3_1 a0_0 x8_1 a0_0 l0_1 = some r) ∧ Aside0 (kq ≤ k) ∧ Aside0 (Kd.S (Kd.slice 3 (Kd.int .i64)) 25 w' w.heap.size (fun _ => True) v3 x3_1) ∧ Aside0 (w'.heap[gb271]? = some (.cells #[.int .i64 a0_0, (.slice A0_1 l0_1.length c0_1)] 29 (0, 0))) ∧ Aside0 (Below w.heap.size w w'))
 case atStart => exact ⟨(y272), (0), (by first | rfl | (simp; done) | (simp [*]; done)), H', ⟨ar _⟩, ⟨by (with_reducible repeat (first | apply Kd.S_alloc | apply Kd.S_drewN | apply Kd.S_drew)); exact HO274.out⟩, ⟨zK BK271.out⟩, ⟨zB⟩⟩
 case round =>
  clear H'
  try clear p2
  try clear c3
  try clear hcz5_0
  try clear hcz5_1
  try clear hfz5_0
  try clear hfz5_1
  obtain ⟨x3_1, x8_1, rfl, HA, HK1, HO_3, BK271, HB⟩ := hrel
  cases gk with
  | zero => exact absurd HA.out (by simp [d6])
  | succ k1 =>
   have H := HA.out
   clear HA
   simp only [d6] at H
   by_cases c6 : x8_1 < a0_0
   · rw [if_pos c6] at H
     have c6b0 := af c6
     clear c6
     replace H := av H
     obtain ⟨t275, A70, H⟩ := H
     have A7 := Aside0.mk A70
     clear A70
     by_cases c8 : x3_1.length < 5864062014805
     case neg => rw [if_neg c8] at H; simp at H
     rw [if_pos c8] at H
     have LMc8 := Aside0.mk c8
     clear c8
     obtain ⟨y278, hy278⟩ : ∃ y_ : List (List Int), y_ = (x3_1 ++ [t275]) := ⟨_, rfl⟩
     replace H : (d6 k1 y278 a0_0 (wrap64 (x8_1 + 1)) a0_0 l0_1) = some r := by first | (rw [hy278]; with_reducible exact H) | (have H2_ := (Option.bind_some _ _).symm.trans H; rw [hy278]; with_reducible exact H2_) | (have H2_ := (Option.bind_some _ _).symm.trans H; with_reducible exact H2_) | with_reducible exact H | (rw [hy278]; exact H) | exact H
     have Ny278 := Aside0.mk hy278
     clear hy278
     have H' := Aside0.mk H
     clear H
     have hcz9_0 := zy BK271 0
     have hcz9_1 := zy BK271 1
     have hfz9_0 := ae BK271.out 0
     have hfz9_1 := ae BK271.out 1
     go_wp2_with (first | ((with_reducible refine ax (f := 34) rfl ?_); refine zc 14 Tryz.func34 #[.agg #[.int .i64 a0_0, .slice A0_1 l0_1.length c0_1], .int .i64 x8_1] ?_; (with_reducible refine (nf k1 a0_0 _ _ l0_1 x8_1 t275 _ ?side1 ?side2 A7.out).mono ?_); (case side1 => exact zC (Kd.C_below HR0_1.out HB.out)); (case side2 => exact HC0_1.out); rintro e w10 ⟨v276, rfl, ho0, hb⟩; refine ⟨_, rfl, ?_⟩; replace HO_3 := zM (Kd.S_elder' (by (with_reducible repeat (first | apply Kd.S_alloc | apply Kd.S_drewN | apply Kd.S_drew)); exact HO_3.out) (Kd.R_base ho0) hb); have HO277 := zM (Kd.R_lower ho0 (am zB)); replace BK271 := zJ BK271 hb; replace HB := zM (ag zB hb); (try clear hb); (try clear ho0); obtain ⟨Ao12, co12, eo12⟩ := Kd.R_slice HO277.out; subst eo12) | ((with_reducible refine cJ (b := .append) (xs := #[.tmp 11, .tmp 15]) rfl ?_); at_builtin; refine Kd.S_append (Kd.slice 3 (Kd.int .i64)) (w0 := w) w.heap.size rfl (.tmp 11) (.tmp 15) 48 25 (.slice none 0 0) 24 rfl Tryz.underlying48 iu rfl (by decide) (by omega) u3 x3_1 t275 [.slice Ao12 t275.length co12] (fun _ => True) (fun k_ => some k_ = (.slice Ao12 t275.length co12 : Value).ownBlock) rfl rfl ?aP (fun k_ hk_ => ((Kd.R_mono (ok' := fun k_ => ((fun _ => True)) k_ ∧ some k_ ≠ (u3 : Value).ownBlock) (Kd.R_apart' (HO277.out) (Kd.S_typed HO_3.out) (by decide)) (fun k_ hk => ⟨trivial, hk.2⟩))).1 k_ hk_.symm) ?aF ?aO ?aB ?aS ?aL ?_; (case aP => exact Kd.M_row (Kd.R_mono (Kd.R_tight rfl (Kd.R_mono (ok' := fun k_ => ((fun _ => True)) k_ ∧ some k_ ≠ (u3 : Value).ownBlock) (Kd.R_apart' (HO277.out) (Kd.S_typed HO_3.out) (by decide)) (fun k_ hk => ⟨trivial, hk.2⟩))) (fun _ h_ => h_))); (case aB => exact zB); (case aF => exact (fun _ _ => trivial)); (case aO => exact (by (with_reducible repeat (first | apply Kd.S_alloc | apply Kd.S_drewN | apply Kd.S_drew)); exact Kd.S_mono HO_3.out (fun k_ hk => ⟨trivial, fun e_ => hk.2 e_⟩))); (case aS => exact (am zB)); (case aL => have := LMc8.out; omega); intro v279 w11 ho hb hg hat; rw [← Ny278.out] at ho; replace BK271 := zM (cU (g := gb271) (o := .cells #[.int .i64 a0_0, .slice A0_1 l0_1.length c0_1] 29 (0, 0)) (zK BK271.out) hg (Kd.S_ne HO_3.out BK271.out (by decide))); replace HB := zM (hb); have HO280 := zM (ho); clear HO_3 HO277; clear ho hb hg hat))
     go_roundg k1
     case measure => have := HK1.out; omega
     case rel => exact ⟨(y278), (wrap64 (x8_1 + 1)), (by first | rfl | (simp; done) | (simp [*]; done)), H', ⟨by have := HK1.out; omega⟩, ⟨by (with_reducible repeat (first | apply Kd.S_alloc | apply Kd.S_drewN | apply Kd.S_drew)); exact HO280.out⟩, ⟨zK BK271.out⟩, ⟨zB⟩⟩
   · rw [if_neg c6] at H
     have c6b0 : decide (x8_1 < a0_0) = false := ao c6
     clear c6
     obtain rfl := ap H
     go_wp2
     go_ret
     exact ⟨_, by first | rfl | (simp [al, ak] <;> rfl) | (simp [*, al, ak] <;> rfl), by (with_reducible repeat (first | apply Kd.S_alloc | apply Kd.S_drewN | apply Kd.S_drew)); exact HO_3.out, zB⟩
def cN (l : List Int) : List Int := l.mergeSort fun x y => decide (x ≤ y)
def eB (l : List Int) : Option (List Int) := if l.length < 4611686018427387904 then some (cN l) else none
theorem lE (l : List Int) : (cN l).length = l.length := List.length_mergeSort l
theorem lH (P0_ : Nat → Prop) (u9000_ : Value) (l0 r : List Int) (w0 w : World) (hB : Below w0.heap.size w0 w) (ho0 : Kd.R (Kd.int .i64) 3 w w0.heap.size P0_ u9000_ l0) (h : eB l0 = some r) :
   Calls Tryz.prog 60 #[u9000_] w fun e w' => e = .returned (.tuple #[]) ∧ Kd.R (Kd.int .i64) 3 w' w0.heap.size (fun k_ => (P0_ k_ ∨ w.heap.size ≤ k_)) u9000_ r ∧ Below w0.heap.size w0 w' ∧ Kept w w' (fun k_ => P0_ k_) := by
 unfold eB at h
 by_cases hl : l0.length < 4611686018427387904
 · rw [if_pos hl] at h
   obtain rfl := ap h
   have hown := Kd.own_of_R (enc := Value.int .i64) ho0
   rcases hown.2 with ⟨hnil, hz⟩ | ⟨g, cap, cur, rfl, hbase, hb, h1, h2, h3, h4⟩
   · have h0 : l0 = [] := by
      cases l0 with
      | nil => rfl
      | cons x t => simp at hz
     subst h0
     subst hnil
     refine (Tryz.slices_Sort_int_none none 0 w).mono ?_
     rintro e w' ⟨rfl, rfl⟩
     refine ⟨rfl, ?_, hB, Kept.refl _ _⟩
     rw [show cN [] = [] from by simp [cN]]
     exact Kd.R_mono ho0 (fun k hk => .inl hk)
   · have hgl : g < w.heap.size := (Array.getElem?_eq_some_iff.1 hb).1
     refine (Tryz.slices_Sort_int g 0 cap l0 w (holds_of_blockI hb (by simpa [aU] using h4)) hgl hl).mono ?_
     rintro e w' ⟨rfl, nn, os, rfl⟩
     have hgr := grownBy_sortedI (w := w) (g := g) (n := nn) (os := os) (cN l0).toArray
     refine ⟨rfl, ?_, hB.grown hgr hB.size (fun k hk => by injection hk with hk; omega), Kept.of_grown hgr (Kept.refl w _) (fun k hk => .inl (ho0.1 k hk))⟩
     refine Kd.R_of_own (enc := Value.int .i64) ?_ (fun k hk => .inl (ho0.1 k hk))
     rw [lE]
     exact ownsRow_sortedI (lE l0) hbase hb h1 h2 h3
 · rw [if_neg hl] at h
   cases h
end Go.Proofs.YtjgcehldepfaaaaGreat.P
