import Derived.Test.YtjgcehldepfaaaaGreatForestMeetsG17
namespace Go.Proofs.YtjgcehldepfaaaaGreat.P
open Go.RowKit YtjgcehldepfaaaaGreatW.PrintWords YtjgcehldepfaaaaGreatW.PrintLast YtjgcehldepfaaaaGreatW.PrintMore
attribute [local go_sem] bl bh bi bd bj bf bk bg
set_option maxRecDepth 100000
set_option maxHeartbeats 8000000
set_option linter.unusedVariables false
set_option linter.unusedSimpArgs false
mutual
def dG : Nat → List (List Int) → List (List Int) → List Bool → Option ((List (List Int)))
 | 0, _, _, _ => none
 | k + 1, x0, x5, x6 => de k x0 x5 x6 (x0.length : Int) 0
def de : Nat → List (List Int) → List (List Int) → List Bool → Int → Int → Option ((List (List Int)))
 | 0, _, _, _, _, _ => none
 | k + 1, x0, x5, x6, x22, x23 => if x23 < x22 then (if 0 ≤ x23 then (if x23 < (x6.length : Int) then (if aV false x6 x23 = true then (de k x0 x5 x6 x22 (wrap64 (x23 + 1))) else (dd k x0 x5 (x6.set (x23 : Int).toNat true) (([x23] : List Int)) 0 x22 x23)) else (none)) else (none)) else (some x5)
def dd : Nat → List (List Int) → List (List Int) → List Bool → List Int → Int → Int → Int → Option ((List (List Int)))
 | 0, _, _, _, _, _, _, _ => none
 | k + 1, x0, x5, x6, x8, x9, x22, x23 => if x9 < (x8.length : Int) then (if 0 ≤ x9 then (if 0 ≤ (rd x8 x9) then (if (rd x8 x9) < (x0.length : Int) then (cR k x0 x5 x6 x8 x9 x22 x23 (ai x0 (rd x8 x9)) ((ai x0 (rd x8 x9)).length : Int) 0) else (none)) else (none)) else (none)) else ((eB x8).bind fun t417 => (if x5.length < 5864062014805 then (de k x0 (x5 ++ [t417]) x6 x22 (wrap64 (x23 + 1))) else (none)))
def cR : Nat → List (List Int) → List (List Int) → List Bool → List Int → Int → Int → Int → List Int → Int → Int → Option ((List (List Int)))
 | 0, _, _, _, _, _, _, _, _, _, _ => none
 | k + 1, x0, x5, x6, x8, x9, x22, x23, x47, x48, x49 => if x49 < x48 then (if 0 ≤ x49 then (if x49 < (x47.length : Int) then (if 0 ≤ (rd x47 x49) then (if (rd x47 x49) < (x6.length : Int) then (if (aV false x6 (rd x47 x49) = true) then (cR k x0 x5 x6 x8 x9 x22 x23 x47 x48 (wrap64 (x49 + 1))) else (if x8.length < 17592186044416 then (cR k x0 x5 (x6.set ((rd x47 x49) : Int).toNat true) (x8 ++ [rd x47 x49]) x9 x22 x23 x47 x48 (wrap64 (x49 + 1))) else (none))) else (none)) else (none)) else (none)) else (none)) else (dd k x0 x5 x6 x8 (wrap64 (x9 + 1)) x22 x23)
end
def fN (k : Nat) (l0 : List (List Int)) (a1 : Int) : Option ((List (List Int))) := (some (([] : List (List Int)) : List (List Int))).bind fun y405 => (if 0 ≤ (l0.length : Int) then (if ((l0.length : Int) : Int).toNat ≤ 281474976710656 then ((some (List.replicate ((l0.length : Int) : Int).toNat false : List Bool)).bind fun y408 => (if a1 ≥ 0 then (if 0 ≤ a1 then (if a1 < (y408.length : Int) then (dG k l0 y405 (y408.set (a1 : Int).toNat true)) else (none)) else (none)) else (dG k l0 y405 y408))) else (none)) else (none))
theorem m7 (k : Nat) (A0 : Option Addr) (c0 : Nat) (l0 : List (List Int)) (a1 : Int) (r : List (List Int)) (w : World) (hr0 : Kd.C (Kd.slice 3 (Kd.int .i64)) w A0 l0.length l0) (hc0 : l0.length ≤ c0) (h : fN k l0 a1 = some r) :
 Calls Tryz.prog 39 #[.slice A0 l0.length c0, .int .i64 a1] w fun e w' => ∃ v0_ : Value, e = .returned (v0_) ∧ Kd.S (Kd.slice 3 (Kd.int .i64)) 25 w' w.heap.size (fun _ => True) v0_ r ∧ Below w.heap.size w w' := by
 have HR0 := Aside0.mk hr0
 have HC0 := Aside0.mk hc0
 clear hr0 hc0
 have HB := zM (Below.refl w.heap.size w)
 have H := h
 unfold fN at H
 clear h
 obtain ⟨y405, hy405⟩ : ∃ y_ : List (List Int), y_ = (([] : List (List Int))) := ⟨_, rfl⟩
 replace H : (if 0 ≤ (l0.length : Int) then (if ((l0.length : Int) : Int).toNat ≤ 281474976710656 then ((some (List.replicate ((l0.length : Int) : Int).toNat false : List Bool)).bind fun y408 => (if a1 ≥ 0 then (if 0 ≤ a1 then (if a1 < (y408.length : Int) then (dG k l0 y405 (y408.set (a1 : Int).toNat true)) else (none)) else (none)) else (dG k l0 y405 y408))) else (none)) else (none)) = some r := by first | (rw [hy405]; with_reducible exact H) | (have H2_ := (Option.bind_some _ _).symm.trans H; rw [hy405]; with_reducible exact H2_) | (have H2_ := (Option.bind_some _ _).symm.trans H; with_reducible exact H2_) | with_reducible exact H | (rw [hy405]; exact H) | exact H
 have Ny405 := Aside0.mk hy405
 clear hy405
 by_cases c3 : 0 ≤ (l0.length : Int)
 case neg => rw [if_neg c3] at H; simp at H
 rw [if_pos c3] at H
 have c3b0 := eq_true c3
 have c3b1 : decide (0 ≤ (l0.length : Int)) = true := af c3
 clear c3
 by_cases c4 : ((l0.length : Int) : Int).toNat ≤ 281474976710656
 case neg => rw [if_neg c4] at H; simp at H
 rw [if_pos c4] at H
 have c4b0 := eq_true c4
 have c4b1 : decide (((l0.length : Int) : Int).toNat ≤ 281474976710656) = true := af c4
 clear c4
 obtain ⟨y408, hy408⟩ : ∃ y_ : List Bool, y_ = (List.replicate ((l0.length : Int) : Int).toNat false) := ⟨_, rfl⟩
 replace H : (if a1 ≥ 0 then (if 0 ≤ a1 then (if a1 < (y408.length : Int) then (dG k l0 y405 (y408.set (a1 : Int).toNat true)) else (none)) else (none)) else (dG k l0 y405 y408)) = some r := by first | (rw [hy408]; with_reducible exact H) | (have H2_ := (Option.bind_some _ _).symm.trans H; rw [hy408]; with_reducible exact H2_) | (have H2_ := (Option.bind_some _ _).symm.trans H; with_reducible exact H2_) | with_reducible exact H | (rw [hy408]; exact H) | exact H
 have Ny408 := Aside0.mk hy408
 clear hy408
 have HC5 := Aside0.mk H
 clear H
 go_enter Tryz.func39, Tryz.ntmps39
 try go_wp2
 replace HB := zM (aD HB.out)
 refine zs (n := 6) (fun w' => True) trivial (fun hHeld => ?_)
 generalize w.drew = w6 at HB hHeld ⊢
 refine zq 1 13 ?_
 refine zq 2 14 ?_
 refine km (σ := Value × Value) 1 #[true, true, true, true, true, false] (fun s_ => [(12, s_.1), (15, s_.2), (5, s_.1)]) (fun s_ w' => (Kd.S (Kd.slice 3 (Kd.int .i64)) 25 w' w.heap.size (fun _ => True) s_.1 y405) ∧ (Kd.R Kd.bool 4 w' w.heap.size (fun _ => True) s_.2 y408) ∧ (Below w.heap.size w w')) ?_ ?_
 rotate_left
 · intro hCont
   refine g7 (i := 0) (j := 3) (Ni := some 12) (Nj := some 15) #[true, true, true, false, false, false] #[false, true, true, true, false, false] rfl rfl rfl rfl (by kernel_rfl) (by decide) (by decide) (fun K hK => ?_) (fun K hK => ?_)
   · skip
     refine Kd.S_lit_step (Kd.slice 3 (Kd.int .i64)) _ 25 ?hg (N := 12) ?hd (xs := ([] : List (List Int))) (inner := []) (ok := fun _ => True) (okp := fun _ => True) ?hr ?hp (fun _ hk => hk) trivial (Below.refl _ _) (ar _) (by simp) ?_; (case hd => rfl); (case hg => rfl); (case hr => first | (go_simp; done) | (go_simp; rfl)); (case hp => exact (Reps.none _ _))
     intro v406 w7 ho8 hb hg_ hnew_
     clear hg_ hnew_
     (first | rw [← Ny405.out] at ho8 | (simp only [Int.reduceToNat] at ho8; rw [← Ny405.out] at ho8))
     have HO407 := zM (Kd.S_lower ho8 (am zB))
     replace HB := zM (ag zB hb)
     clear hb ho8
     refine hK.out _ _ trivial (fun hHeld => ?_)
     clear hK K
     refine zn 12 ?_
     refine zq 4 5 ?_
     refine bz (i := 3) (N := some 15) #[true, true, true, true, true, false] rfl rfl (by kernel_rfl) (by decide) (fun K hK => ?_)
     refine Kd.R_make_step Kd.bool _ 4 (by rfl) (N := 15) rfl 80 _ _ rfl (l0.length : Int) rfl rfl Tryz.underlying80 (.bool false) 1 m4 rfl (by decide) (by omega) false (ok := fun _ => True) (okp := fun _ => True) rfl (fun _ hk => hk) trivial (ac zA) (Nat.le_trans (Nat.mul_le_mul_right _ (ac zA : (l0.length : Int).toNat ≤ 281474976710656)) (by omega)) (Below.refl _ _) (ar _) ?_
     intro v409 w9 ho10 hb hg_ hnew_
     clear hg_ hnew_
     (first | rw [← Ny408.out] at ho10 | (simp only [Int.reduceToNat] at ho10; rw [← Ny408.out] at ho10))
     replace HO407 := zM (Kd.S_below (by (with_reducible repeat (first | apply Kd.S_alloc | apply Kd.S_drewN | apply Kd.S_drew)); exact HO407.out) hb)
     have HO410 := zM (Kd.R_lower ho10 (am zB))
     replace HB := zM (ag zB hb)
     clear hb ho10
     refine hK.out _ _ trivial (fun hHeld => ?_)
     clear hK K
     refine zn 15 ?_
     exact dq (by simp only [cP, Act.put, List.setIfInBounds_toArray, List.set_cons_zero, List.set_cons_succ]) (hCont (v406, v409) _ ⟨(by (with_reducible repeat (first | apply Kd.S_alloc | apply Kd.S_drewN | apply Kd.S_drew)); exact HO407.out), (zR HO410.out), zB⟩)
   · skip
     refine Kd.R_make_step Kd.bool _ 4 (by rfl) (N := 15) rfl 80 _ _ rfl (l0.length : Int) rfl rfl Tryz.underlying80 (.bool false) 1 m4 rfl (by decide) (by omega) false (ok := fun _ => True) (okp := fun _ => True) rfl (fun _ hk => hk) trivial (ac zA) (Nat.le_trans (Nat.mul_le_mul_right _ (ac zA : (l0.length : Int).toNat ≤ 281474976710656)) (by omega)) (Below.refl _ _) (ar _) ?_
     intro v409 w7 ho8 hb hg_ hnew_
     clear hg_ hnew_
     (first | rw [← Ny408.out] at ho8 | (simp only [Int.reduceToNat] at ho8; rw [← Ny408.out] at ho8))
     have HO410 := zM (Kd.R_lower ho8 (am zB))
     replace HB := zM (ag zB hb)
     clear hb ho8
     refine hK.out _ _ trivial (fun hHeld => ?_)
     clear hK K
     refine zn 15 ?_
     refine bz (i := 0) (N := some 12) #[true, true, true, true, false, false] rfl rfl (by kernel_rfl) (by decide) (fun K hK => ?_)
     refine Kd.S_lit_step (Kd.slice 3 (Kd.int .i64)) _ 25 ?hg (N := 12) ?hd (xs := ([] : List (List Int))) (inner := []) (ok := fun _ => True) (okp := fun _ => True) ?hr ?hp (fun _ hk => hk) trivial (Below.refl _ _) (ar _) (by simp) ?_; (case hd => rfl); (case hg => rfl); (case hr => first | (go_simp; done) | (go_simp; rfl)); (case hp => exact (Reps.none _ _))
     intro v406 w9 ho10 hb hg_ hnew_
     clear hg_ hnew_
     (first | rw [← Ny405.out] at ho10 | (simp only [Int.reduceToNat] at ho10; rw [← Ny405.out] at ho10))
     replace HO410 := zM (Kd.R_below (zR HO410.out) hb)
     have HO407 := zM (Kd.S_lower ho10 (am zB))
     replace HB := zM (ag zB hb)
     clear hb ho10
     refine hK.out _ _ trivial (fun hHeld => ?_)
     clear hK K
     refine zn 12 ?_
     refine zq 4 5 ?_
     exact dq (by simp only [cP, Act.put, List.setIfInBounds_toArray, List.set_cons_zero, List.set_cons_succ]) (hCont (v406, v409) _ ⟨(by (with_reducible repeat (first | apply Kd.S_alloc | apply Kd.S_drewN | apply Kd.S_drew)); exact HO407.out), (zR HO410.out), zB⟩)
 rintro ⟨v406, v409⟩ w11 ⟨h0_, h1_, h2_⟩
 have n0_ : Aside0 (Kd.S (Kd.slice 3 (Kd.int .i64)) 25 w11 w.heap.size (fun _ => True) v406 y405) := ⟨h0_⟩
 have n1_ : Aside0 (Kd.R Kd.bool 4 w11 w.heap.size (fun _ => True) v409 y408) := ⟨h1_⟩
 have n2_ : Aside0 (Below w.heap.size w w11) := ⟨h2_⟩
 clear HB
 clear h0_ h1_ h2_
 have HO407 := n0_
 have HO410 := n1_
 have HB := n2_
 clear n0_ n1_ n2_
 have hHeld := trivial
 refine dq (a' := ?_) ?_ ?_
 rotate_left
 · simp only [cP, Act.put, List.setIfInBounds_toArray, List.set_cons_zero, List.set_cons_succ]
   rfl
 refine zq 5 6 ?_
 refine zx ?_
 go_upto_if 17 with (fail)
 go_cut [] (fun wc => ∃ (kq : Nat) (x6_4 : List Bool), Aside0 (dG kq l0 y405 x6_4 = some r) ∧ Aside0 (kq ≤ k) ∧ Aside0 (Kd.S (Kd.slice 3 (Kd.int .i64)) 25 wc w.heap.size (fun _ => True) v406 y405) ∧ Aside0 (Kd.R Kd.bool 4 wc w.heap.size (fun _ => True) v409 x6_4) ∧ Aside0 (Below w.heap.size w wc))
 case first =>
  have H := HC5.out
  clear HC5
  by_cases c12 : a1 ≥ 0
  · rw [if_pos c12] at H
    have c12b0 : decide (0 ≤ a1) = true := af c12
    clear c12
    (first | rw [c12b0] | (simp only [bW, dt]; rw [c12b0]) | skip)
    by_cases c13 : 0 ≤ a1
    case neg => rw [if_neg c13] at H; simp at H
    rw [if_pos c13] at H
    have c13b0 := af c13
    clear c13
    by_cases c14 : a1 < (y408.length : Int)
    case neg => rw [if_neg c14] at H; simp at H
    rw [if_pos c14] at H
    have c14b0 := af c14
    clear c14
    obtain ⟨y411, hy411⟩ : ∃ y_ : List Bool, y_ = (y408.set (a1 : Int).toNat true) := ⟨_, rfl⟩
    replace H : (dG k l0 y405 y411) = some r := by first | (rw [hy411]; with_reducible exact H) | (have H2_ := (Option.bind_some _ _).symm.trans H; rw [hy411]; with_reducible exact H2_) | (have H2_ := (Option.bind_some _ _).symm.trans H; with_reducible exact H2_) | with_reducible exact H | (rw [hy411]; exact H) | exact H
    have Ny411 := Aside0.mk hy411
    clear hy411
    have H' := Aside0.mk H
    clear H
    have p15 : 0 ≤ (a1 : Int) := ac zA
    have q15 : (a1 : Int) < ((y408.length : Int) : Int) := ac zA
    obtain ⟨go15, co15, eo15, gb15, gl15, cl15, HG15⟩ := Kd.R_form HO410.out (by omega)
    (first | cases eo15 | (injection eo15 with ea_ en_ ec_; (first | subst ea_ | (injection ea_ with ea_; subst ea_)); subst ec_; clear en_))
    have GB15 := Aside0.mk gb15
    have GG15 := Aside0.mk HG15
    clear gb15 gl15 HG15
    obtain ⟨hx15_0, hf15_0⟩ := Kd.R_celln false HO410.out (a1 : Int) p15 q15
    replace p15 := eq_true p15
    replace q15 := eq_true q15
    have HP16 := Kd.R_putg HO410.out (a1 : Int) true
    go_wp2_with (first | ((with_reducible refine fR (t := 4) (p := 20) rfl ?_); refine fz (t := 4) (p := 20) (v := ?vo_w17) (w1 := (w11.setCell ⟨go15, (a1 : Int).toNat, none⟩ (.bool true))) ?hg ?ho ?hn ?hr ?_; (case ho => rfl); (case hg => rfl); (case hn => rfl); (case hr => first | (go_simp; done) | (go_simp; rfl)); intro w17 hw; have hg : w11.grownBy w17 (some go15) := (by rw [hw]; exact HP16.2); have hp_ : Kd.R Kd.bool 4 w17 w.heap.size (fun _ => True) (.slice (some ⟨go15, 0, none⟩) y408.length co15) y411 := (by rw [hw, Ny411.out]; exact HP16.1); clear HP16; replace HO407 := zM (Kd.S_over' (v := (.slice (some ⟨go15, 0, none⟩) y408.length co15)) (by (with_reducible repeat (first | apply Kd.S_alloc | apply Kd.S_drewN | apply Kd.S_drew)); exact HO407.out) (Kd.R_typed HO410.out) (by decide) hg); replace HO410 := zM (hp_); replace HB := zM ((by rw [hw]; exact bJ (HB.out) GB15.out : Below w.heap.size w w17)); clear hg hw hp_))
    go_meet
    case rel => exact ⟨_, (y411), H', ⟨by first | omega | exact ar _⟩, ⟨by (with_reducible repeat (first | apply Kd.S_alloc | apply Kd.S_drewN | apply Kd.S_drew)); exact HO407.out⟩, ⟨zR HO410.out⟩, ⟨zB⟩⟩
  · rw [if_neg c12] at H
    have c12b0 : decide (0 ≤ a1) = false := ao c12
    clear c12
    (first | rw [c12b0] | (simp only [bW, dt]; rw [c12b0]) | skip)
    have H' := Aside0.mk H
    clear H
    go_wp2
    go_meet
    case rel => exact ⟨_, (y408), H', ⟨by first | omega | exact ar _⟩, ⟨by (with_reducible repeat (first | apply Kd.S_alloc | apply Kd.S_drewN | apply Kd.S_drew)); exact HO407.out⟩, ⟨zR HO410.out⟩, ⟨zB⟩⟩
 case rest =>
  clear HC5
  try clear c1
  try clear p1
  try clear q1
  try clear hx1
  try clear p2
  try clear c3
  try clear c3b0
  try clear c3b1
  try clear c4
  try clear c4b0
  try clear c4b1
  try clear c12
  try clear c12b0
  try clear c13
  try clear c13b0
  try clear c14
  try clear c14b0
  try clear p15
  try clear q15
  try clear hx15
  try clear hf15
  try clear hx15_0
  try clear p15
  try clear q15
  obtain ⟨kq, x6_4, HA, HJ4, HO_5, HO_6, HB⟩ := hcut
  cases kq with
  | zero => exact absurd HA.out (by simp [dG])
  | succ kj4 =>
   have H := HA.out
   clear HA
   simp only [dG] at H
   have H' := Aside0.mk H
   clear H
   go_wp2
   go_loopg [5, 23] kj4 (fun kq v5 v23 w' => ∃ (x5_2 : List (List Int)) (x6_2 : List Bool) (x23_2 : Int), v23 = .int .i64 x23_2 ∧ Aside0 (de kq l0 x5_2 x6_2 (l0.length : Int) x23_2 = some r) ∧ Aside0 (kq ≤ kj4) ∧ Aside0 (Kd.S (Kd.slice 3 (Kd.int .i64)) 25 w' w.heap.size (fun _ => True) v5 x5_2) ∧ Aside0 (Kd.R Kd.bool 4 w' w.heap.size (fun _ => True) v409 x6_2) ∧ Aside0 (Below w.heap.size w w'))
   case atStart => exact ⟨(y405), (x6_4), (0), (by first | rfl | (simp; done) | (simp [*]; done)), H', ⟨ar _⟩, ⟨by (with_reducible repeat (first | apply Kd.S_alloc | apply Kd.S_drewN | apply Kd.S_drew)); exact HO_5.out⟩, ⟨zR HO_6.out⟩, ⟨zB⟩⟩
   case round =>
    clear H'
    try clear c1
    try clear p1
    try clear q1
    try clear hx1
    try clear p2
    try clear c3
    try clear c3b0
    try clear c3b1
    try clear c4
    try clear c4b0
    try clear c4b1
    try clear c12
    try clear c12b0
    try clear c13
    try clear c13b0
    try clear c14
    try clear c14b0
    try clear p15
    try clear q15
    try clear hx15
    try clear hf15
    try clear hx15_0
    try clear p1
    try clear p15
    try clear p2
    try clear q1
    try clear q15
    obtain ⟨x5_2, x6_2, x23_2, rfl, HA, HK2, HO_5, HO_6, HB⟩ := hrel
    cases gk with
    | zero => exact absurd HA.out (by simp [de])
    | succ k2 =>
     have H := HA.out
     clear HA
     simp only [de] at H
     by_cases c18 : x23_2 < (l0.length : Int)
     · rw [if_pos c18] at H
       have c18b0 := af c18
       clear c18
       by_cases c19 : 0 ≤ x23_2
       case neg => rw [if_neg c19] at H; simp at H
       rw [if_pos c19] at H
       have c19b0 := af c19
       clear c19
       by_cases c20 : x23_2 < (x6_2.length : Int)
       case neg => rw [if_neg c20] at H; simp at H
       rw [if_pos c20] at H
       have c20b0 := af c20
       clear c20
       obtain ⟨bq21, hbq21⟩ : ∃ b_ : Bool, b_ = (aV false x6_2 x23_2) := ⟨_, rfl⟩
       replace H : (if bq21 = true then (de k2 l0 x5_2 x6_2 (l0.length : Int) (wrap64 (x23_2 + 1))) else (dd k2 l0 x5_2 (x6_2.set (x23_2 : Int).toNat true) (([x23_2] : List Int)) 0 (l0.length : Int) x23_2)) = some r := by rw [← hbq21] at H; exact H
       have Nbq21 := Aside0.mk hbq21
       clear hbq21
       by_cases c22 : bq21 = true
       · subst c22
         rw [if_pos rfl] at H
         have H' := Aside0.mk H
         clear H
         obtain ⟨Ao23, co23, eo23⟩ := Kd.R_slice HO_6.out
         subst eo23
         have p412 : 0 ≤ (x23_2 : Int) := ac zA
         have q412 : x23_2 < (x6_2.length : Int) := ac zA
         obtain ⟨ad412, e412, hx412_0⟩ := Kd.at_bool (Kd.R_reads' HO_6.out).2.2 x23_2 p412 q412
         (try rw [← Nbq21.out] at hx412_0)
         cases e412
         replace p412 := eq_true p412
         replace q412 := eq_true q412
         go_wp2
         go_roundg k2
         case measure => have := HJ4.out; have := HK2.out; omega
         case rel => exact ⟨(x5_2), (x6_2), (wrap64 (x23_2 + 1)), (by first | rfl | (simp; done) | (simp [*]; done)), H', ⟨by have := HJ4.out; have := HK2.out; omega⟩, ⟨by (with_reducible repeat (first | apply Kd.S_alloc | apply Kd.S_drewN | apply Kd.S_drew)); exact HO_5.out⟩, ⟨zR HO_6.out⟩, ⟨zB⟩⟩
       · replace c22 := Bool.eq_false_iff.mpr c22
         subst c22
         rw [if_neg (show ¬ (false = true) by decide)] at H
         obtain ⟨y413, hy413⟩ : ∃ y_ : List Bool, y_ = (x6_2.set (x23_2 : Int).toNat true) := ⟨_, rfl⟩
         replace H : (dd k2 l0 x5_2 y413 (([x23_2] : List Int)) 0 (l0.length : Int) x23_2) = some r := by first | (rw [hy413]; with_reducible exact H) | (have H2_ := (Option.bind_some _ _).symm.trans H; rw [hy413]; with_reducible exact H2_) | (have H2_ := (Option.bind_some _ _).symm.trans H; with_reducible exact H2_) | with_reducible exact H | (rw [hy413]; exact H) | exact H
         have Ny413 := Aside0.mk hy413
         clear hy413
         obtain ⟨y414, hy414⟩ : ∃ y_ : List Int, y_ = (([x23_2] : List Int)) := ⟨_, rfl⟩
         replace H : (dd k2 l0 x5_2 y413 y414 0 (l0.length : Int) x23_2) = some r := by first | (rw [hy414]; with_reducible exact H) | (have H2_ := (Option.bind_some _ _).symm.trans H; rw [hy414]; with_reducible exact H2_) | (have H2_ := (Option.bind_some _ _).symm.trans H; with_reducible exact H2_) | with_reducible exact H | (rw [hy414]; exact H) | exact H
         have Ny414 := Aside0.mk hy414
         clear hy414
         have H' := Aside0.mk H
         clear H
         obtain ⟨Ao25, co25, eo25⟩ := Kd.R_slice HO_6.out
         subst eo25
         have p412 : 0 ≤ (x23_2 : Int) := ac zA
         have q412 : x23_2 < (x6_2.length : Int) := ac zA
         obtain ⟨ad412, e412, hx412_0⟩ := Kd.at_bool (Kd.R_reads' HO_6.out).2.2 x23_2 p412 q412
         (try rw [← Nbq21.out] at hx412_0)
         cases e412
         replace p412 := eq_true p412
         replace q412 := eq_true q412
         have p24 : 0 ≤ (x23_2 : Int) := ac zA
         have q24 : (x23_2 : Int) < ((x6_2.length : Int) : Int) := ac zA
         obtain ⟨go24, co24, eo24, gb24, gl24, cl24, HG24⟩ := Kd.R_form HO_6.out (by omega)
         (first | cases eo24 | (injection eo24 with ea_ en_ ec_; (first | subst ea_ | (injection ea_ with ea_; subst ea_)); subst ec_; clear en_))
         have GB24 := Aside0.mk gb24
         have GG24 := Aside0.mk HG24
         clear gb24 gl24 HG24
         (first | simp only [ca] at hx412_0 | skip)
         obtain ⟨hx24_0, hf24_0⟩ := Kd.R_celln false HO_6.out (x23_2 : Int) p24 q24
         replace p24 := eq_true p24
         replace q24 := eq_true q24
         have HP26 := Kd.R_putg HO_6.out (x23_2 : Int) true
         go_wp2_with (first | ((with_reducible refine fR (t := 4) (p := 32) rfl ?_); refine fz (t := 4) (p := 32) (v := ?vo_w27) (w1 := (wr.setCell ⟨go24, (x23_2 : Int).toNat, none⟩ (.bool true))) ?hg ?ho ?hn ?hr ?_; (case ho => rfl); (case hg => rfl); (case hn => rfl); (case hr => first | (go_simp; done) | (go_simp; rfl)); intro w27 hw; have hg : wr.grownBy w27 (some go24) := (by rw [hw]; exact HP26.2); have hp_ : Kd.R Kd.bool 4 w27 w.heap.size (fun _ => True) (.slice (some ⟨go24, 0, none⟩) x6_2.length co25) y413 := (by rw [hw, Ny413.out]; exact HP26.1); clear HP26; replace HO_5 := zM (Kd.S_over' (v := (.slice (some ⟨go24, 0, none⟩) x6_2.length co25)) (by (with_reducible repeat (first | apply Kd.S_alloc | apply Kd.S_drewN | apply Kd.S_drew)); exact HO_5.out) (Kd.R_typed HO_6.out) (by decide) hg); replace HO_6 := zM (hp_); replace HB := zM ((by rw [hw]; exact bJ (HB.out) GB24.out : Below w.heap.size w w27)); clear hg hw hp_) | ((with_reducible refine au (N := 34) rfl ?_); refine Kd.R_lit (Kd.int .i64) _ 3 ?hg (N := 34) ?hd (xs := ([x23_2] : List Int)) (inner := [.int .i64 x23_2]) (ok := fun _ => True) (okp := fun _ => True) ?hr ?hp (fun _ hk => hk) trivial (Below.refl _ _) (ar _) (by simp) ?_; (case hd => rfl); (case hg => rfl); (case hr => first | (go_simp; done) | (go_simp; rfl)); (case hp => exact (Reps.one (show Kd.M (Kd.int .i64) _ _ _ x23_2 [.int .i64 x23_2] from rfl) (Reps.none _ _))); intro v415 w28 ho29 hb hg_ hnew_; clear hg_ hnew_; (first | rw [← Ny414.out] at ho29 | (simp only [Int.reduceToNat] at ho29; rw [← Ny414.out] at ho29)); replace HO_5 := zM (Kd.S_elder' (by (with_reducible repeat (first | apply Kd.S_alloc | apply Kd.S_drewN | apply Kd.S_drew)); exact HO_5.out) (Kd.R_base ho29) hb); replace HO_6 := zM (Kd.R_below (zR HO_6.out) hb); have HO416 := zM (Kd.R_lower ho29 (am zB)); replace HB := zM (ag zB hb); clear hb ho29))
         go_loopg [8, 9] k2 (fun kq v8 v9 w' => ∃ (x6_3 : List Bool) (x8_3 : List Int) (x9_3 : Int), v9 = .int .i64 x9_3 ∧ Aside0 (dd kq l0 x5_2 x6_3 x8_3 x9_3 (l0.length : Int) x23_2 = some r) ∧ Aside0 (kq ≤ k2) ∧ Aside0 (Kd.S (Kd.slice 3 (Kd.int .i64)) 25 w' w.heap.size (fun k_ => some k_ ≠ (v8 : Value).ownBlock) u5 x5_2) ∧ Aside0 (Kd.R Kd.bool 4 w' w.heap.size (fun _ => True) (.slice (some ⟨go24, 0, none⟩) x6_2.length co25) x6_3) ∧ Aside0 (Kd.R (Kd.int .i64) 3 w' w.heap.size (fun _ => True) v8 x8_3) ∧ Aside0 (Below w.heap.size w w'))
         case atStart => exact ⟨(y413), (y414), (0), (by first | rfl | (simp; done) | (simp [*]; done)), H', ⟨ar _⟩, ⟨by (with_reducible repeat (first | apply Kd.S_alloc | apply Kd.S_drewN | apply Kd.S_drew)); exact Kd.S_mono HO_5.out (fun _ hk => hk.2)⟩, ⟨zR HO_6.out⟩, ⟨zR HO416.out⟩, ⟨zB⟩⟩
         case round =>
          clear H'
          try clear c1
          try clear p1
          try clear q1
          try clear hx1
          try clear c2
          try clear p2
          try clear q2
          try clear hx2
          try clear hf2
          try clear c3
          try clear c3b0
          try clear c3b1
          try clear c4
          try clear c4b0
          try clear c4b1
          try clear p4
          try clear q4
          try clear hx4
          try clear p6
          try clear c12
          try clear c12b0
          try clear c13
          try clear c13b0
          try clear c14
          try clear c14b0
          try clear p15
          try clear q15
          try clear hx15
          try clear hf15
          try clear c18
          try clear c18b0
          try clear c19
          try clear c19b0
          try clear c20
          try clear c20b0
          try clear q21
          try clear c22
          try clear p24
          try clear q24
          try clear hx24
          try clear hf24
          try clear hx15_0
          try clear hx24_0
          try clear hx412_0
          try clear p1
          try clear p15
          try clear p2
          try clear p24
          try clear p412
          try clear q1
          try clear q15
          try clear q24
          try clear q412
          obtain ⟨x6_3, x8_3, x9_3, rfl, HA, HK3, HO_5, HO_6, HO_8, HB⟩ := hrel
          have hl6_3 := (Kd.R_reads' HO_6.out).1
          rw [hl6_3] at HO_6
          (try simp only [hl6_3])
          (try simp only [hl6_3] at HO_5)
          (try simp only [hl6_3] at HO_8)
          cases gk with
          | zero => exact absurd HA.out (by simp [dd])
          | succ k3 =>
           have H := HA.out
           clear HA
           simp only [dd] at H
           by_cases c30 : x9_3 < (x8_3.length : Int)
           · rw [if_pos c30] at H
             have c30b0 := af c30
             clear c30
             by_cases c31 : 0 ≤ x9_3
             case neg => rw [if_neg c31] at H; simp at H
             rw [if_pos c31] at H
             have c31b0 := af c31
             clear c31
             by_cases c32 : 0 ≤ (rd x8_3 x9_3)
             case neg => rw [if_neg c32] at H; simp at H
             rw [if_pos c32] at H
             have c32b0 := af c32
             clear c32
             by_cases c33 : (rd x8_3 x9_3) < (l0.length : Int)
             case neg => rw [if_neg c33] at H; simp at H
             rw [if_pos c33] at H
             have c33b0 := af c33
             clear c33
             have H' := Aside0.mk H
             clear H
             obtain ⟨Ao34, co34, eo34⟩ := Kd.R_slice HO_8.out
             subst eo34
             have p421 : 0 ≤ (x9_3 : Int) := ac zA
             have q421 : x9_3 < (x8_3.length : Int) := ac zA
             obtain ⟨ad421, e421, hx421_0⟩ := Kd.at_int (Kd.R_reads' HO_8.out).2.2 x9_3 p421 q421
             cases e421
             replace p421 := eq_true p421
             replace q421 := eq_true q421
             have p422 : 0 ≤ ((rd x8_3 x9_3) : Int) := ac zA
             have q422 : (rd x8_3 x9_3) < (l0.length : Int) := ac zA
             obtain ⟨ad422, A422_0, c422_0, e422, hx422_0, hl422_0, hi422_0⟩ := ee HR0.out (rd x8_3 x9_3) p422 q422
             cases e422
             (try replace hx422_0 := (HB.out.cell (aj w _ hx422_0)).trans hx422_0)
             have HR422_0 := Aside0.mk hi422_0
             have HC422_0 := Aside0.mk hl422_0
             clear hi422_0 hl422_0
             replace p422 := eq_true p422
             replace q422 := eq_true q422
             go_wp2
             go_loopg [8, 49] k3 (fun kq v8 v49 w' => ∃ (x6_4 : List Bool) (x8_4 : List Int) (x49_4 : Int), v49 = .int .i64 x49_4 ∧ Aside0 (cR kq l0 x5_2 x6_4 x8_4 x9_3 (l0.length : Int) x23_2 (ai l0 (rd x8_3 x9_3)) ((ai l0 (rd x8_3 x9_3)).length : Int) x49_4 = some r) ∧ Aside0 (kq ≤ k3) ∧ Aside0 (Kd.S (Kd.slice 3 (Kd.int .i64)) 25 w' w.heap.size (fun k_ => some k_ ≠ (v8 : Value).ownBlock) u5 x5_2) ∧ Aside0 (Kd.R Kd.bool 4 w' w.heap.size (fun _ => True) (.slice (some ⟨go24, 0, none⟩) x6_3.length co25) x6_4) ∧ Aside0 (Kd.R (Kd.int .i64) 3 w' w.heap.size (fun _ => True) v8 x8_4) ∧ Aside0 (Below w.heap.size w w'))
             case atStart => exact ⟨(x6_3), (x8_3), (0), (by first | rfl | (simp; done) | (simp [*]; done)), H', ⟨ar _⟩, ⟨by (try simp only [hl6_3]); (with_reducible repeat (first | apply Kd.S_alloc | apply Kd.S_drewN | apply Kd.S_drew)); exact HO_5.out⟩, ⟨by (try simp only [hl6_3]); (with_reducible repeat (first | apply Kd.R_alloc | apply Kd.R_drewN | apply Kd.R_drew)); exact HO_6.out⟩, ⟨by (try simp only [hl6_3]); (with_reducible repeat (first | apply Kd.R_alloc | apply Kd.R_drewN | apply Kd.R_drew)); exact HO_8.out⟩, ⟨zB⟩⟩
             case round =>
              clear H'
              try clear c1
              try clear p1
              try clear q1
              try clear hx1
              try clear c2
              try clear p2
              try clear q2
              try clear hx2
              try clear hf2
              try clear c3
              try clear c3b0
              try clear c3b1
              try clear c4
              try clear c4b0
              try clear c4b1
              try clear p4
              try clear q4
              try clear hx4
              try clear p6
              try clear c12
              try clear c12b0
              try clear c13
              try clear c13b0
              try clear c14
              try clear c14b0
              try clear p15
              try clear q15
              try clear hx15
              try clear hf15
              try clear c18
              try clear c18b0
              try clear c19
              try clear c19b0
              try clear c20
              try clear c20b0
              try clear q21
              try clear c22
              try clear p24
              try clear q24
              try clear hx24
              try clear hf24
              try clear c30
              try clear c30b0
              try clear c31
              try clear c31b0
              try clear c32
              try clear c32b0
              try clear c33
              try clear c33b0
              try clear hx15_0
              try clear hx24_0
              try clear hx412_0
              try clear hx421_0
              try clear hx422_0
              try clear p1
              try clear p15
              try clear p2
              try clear p24
              try clear p4
              try clear p412
              try clear p421
              try clear p422
              try clear p6
              try clear q1
              try clear q15
              try clear q2
              try clear q21
              try clear q24
              try clear q4
              try clear q412
              try clear q421
              try clear q422
              obtain ⟨x6_4, x8_4, x49_4, rfl, HA, HK4, HO_5, HO_6, HO_8, HB⟩ := hrel
              have hl6_4 := (Kd.R_reads' HO_6.out).1
              rw [hl6_4] at HO_6
              (try simp only [hl6_4])
              (try simp only [hl6_4] at HO_5)
              (try simp only [hl6_4] at HO_8)
              cases gk with
              | zero => exact absurd HA.out (by simp [cR])
              | succ k4 =>
               have H := HA.out
               clear HA
               simp only [cR] at H
               by_cases c35 : x49_4 < ((ai l0 (rd x8_3 x9_3)).length : Int)
               · rw [if_pos c35] at H
                 have c35b0 := af c35
                 clear c35
                 by_cases c36 : 0 ≤ x49_4
                 case neg => rw [if_neg c36] at H; simp at H
                 rw [if_pos c36] at H
                 have c36b0 := af c36
                 clear c36
                 by_cases c37 : x49_4 < ((ai l0 (rd x8_3 x9_3)).length : Int)
                 case neg => rw [if_neg c37] at H; simp at H
                 rw [if_pos c37] at H
                 have c37b0 := af c37
                 clear c37
                 by_cases c38 : 0 ≤ (rd (ai l0 (rd x8_3 x9_3)) x49_4)
                 case neg => rw [if_neg c38] at H; simp at H
                 rw [if_pos c38] at H
                 have c38b0 := af c38
                 clear c38
                 by_cases c39 : (rd (ai l0 (rd x8_3 x9_3)) x49_4) < (x6_4.length : Int)
                 case neg => rw [if_neg c39] at H; simp at H
                 rw [if_pos c39] at H
                 have c39b0 := af c39
                 clear c39
                 obtain ⟨bq40, hbq40⟩ : ∃ b_ : Bool, b_ = (aV false x6_4 (rd (ai l0 (rd x8_3 x9_3)) x49_4)) := ⟨_, rfl⟩
                 replace H : (if (bq40 = true) then (cR k4 l0 x5_2 x6_4 x8_4 x9_3 (l0.length : Int) x23_2 (ai l0 (rd x8_3 x9_3)) ((ai l0 (rd x8_3 x9_3)).length : Int) (wrap64 (x49_4 + 1))) else (if x8_4.length < 17592186044416 then (cR k4 l0 x5_2 (x6_4.set ((rd (ai l0 (rd x8_3 x9_3)) x49_4) : Int).toNat true) (x8_4 ++ [rd (ai l0 (rd x8_3 x9_3)) x49_4]) x9_3 (l0.length : Int) x23_2 (ai l0 (rd x8_3 x9_3)) ((ai l0 (rd x8_3 x9_3)).length : Int) (wrap64 (x49_4 + 1))) else (none))) = some r := by rw [← hbq40] at H; exact H
                 have Nbq40 := Aside0.mk hbq40
                 clear hbq40
                 by_cases c41 : (bq40 = true)
                 · subst c41
                   rw [if_pos rfl] at H
                   have H' := Aside0.mk H
                   clear H
                   have p423 : 0 ≤ (x49_4 : Int) := ac zA
                   have q423 : x49_4 < ((ai l0 (rd x8_3 x9_3)).length : Int) := ac zA
                   obtain ⟨ad423, e423, hx423_0⟩ := Kd.at_int HR422_0.out x49_4 p423 q423
                   cases e423
                   (try replace hx423_0 := (HB.out.cell (aj w _ hx423_0)).trans hx423_0)
                   replace p423 := eq_true p423
                   replace q423 := eq_true q423
                   have p424 : 0 ≤ ((rd (ai l0 (rd x8_3 x9_3)) x49_4) : Int) := ac zA
                   have q424 : (rd (ai l0 (rd x8_3 x9_3)) x49_4) < (x6_4.length : Int) := ac zA
                   obtain ⟨ad424, e424, hx424_0⟩ := Kd.at_bool (Kd.R_reads' HO_6.out).2.2 (rd (ai l0 (rd x8_3 x9_3)) x49_4) p424 q424
                   (try rw [← Nbq21.out] at hx424_0)
                   (try rw [← Nbq40.out] at hx424_0)
                   obtain rfl : (⟨go24, 0, none⟩ : Addr) = ad424 := (by injection e424)
                   (first | simp only [ca] at hx424_0 | simp only [dI] at hx424_0 | simp only [Addr.add, Nat.zero_add] at hx424_0 | skip)
                   replace p424 := eq_true p424
                   replace q424 := eq_true q424
                   go_wp2
                   (try simp only [← hl6_4])
                   go_roundg k4
                   case measure => have := HJ4.out; have := HK2.out; have := HK3.out; have := HK4.out; omega
                   case rel => exact ⟨(x6_4), (x8_4), (wrap64 (x49_4 + 1)), (by first | rfl | (simp; done) | (simp [*]; done)), H', ⟨by have := HJ4.out; have := HK2.out; have := HK3.out; have := HK4.out; omega⟩, ⟨by (try simp only [hl6_3]); (try simp only [hl6_4]); (with_reducible repeat (first | apply Kd.S_alloc | apply Kd.S_drewN | apply Kd.S_drew)); exact HO_5.out⟩, ⟨by (try simp only [hl6_3]); (try simp only [hl6_4]); (with_reducible repeat (first | apply Kd.R_alloc | apply Kd.R_drewN | apply Kd.R_drew)); exact HO_6.out⟩, ⟨by (try simp only [hl6_3]); (try simp only [hl6_4]); (with_reducible repeat (first | apply Kd.R_alloc | apply Kd.R_drewN | apply Kd.R_drew)); exact HO_8.out⟩, ⟨zB⟩⟩
                 · replace c41 := Bool.eq_false_iff.mpr c41
                   subst c41
                   rw [if_neg (show ¬ (false = true) by decide)] at H
                   obtain ⟨y425, hy425⟩ : ∃ y_ : List Bool, y_ = (x6_4.set ((rd (ai l0 (rd x8_3 x9_3)) x49_4) : Int).toNat true) := ⟨_, rfl⟩
                   replace H : (if x8_4.length < 17592186044416 then (cR k4 l0 x5_2 y425 (x8_4 ++ [rd (ai l0 (rd x8_3 x9_3)) x49_4]) x9_3 (l0.length : Int) x23_2 (ai l0 (rd x8_3 x9_3)) ((ai l0 (rd x8_3 x9_3)).length : Int) (wrap64 (x49_4 + 1))) else (none)) = some r := by first | (rw [hy425]; with_reducible exact H) | (have H2_ := (Option.bind_some _ _).symm.trans H; rw [hy425]; with_reducible exact H2_) | (have H2_ := (Option.bind_some _ _).symm.trans H; with_reducible exact H2_) | with_reducible exact H | (rw [hy425]; exact H) | exact H
                   have Ny425 := Aside0.mk hy425
                   clear hy425
                   by_cases c43 : x8_4.length < 17592186044416
                   case neg => rw [if_neg c43] at H; simp at H
                   rw [if_pos c43] at H
                   have LMc43 := Aside0.mk c43
                   clear c43
                   obtain ⟨y426, hy426⟩ : ∃ y_ : List Int, y_ = (x8_4 ++ [rd (ai l0 (rd x8_3 x9_3)) x49_4]) := ⟨_, rfl⟩
                   replace H : (cR k4 l0 x5_2 y425 y426 x9_3 (l0.length : Int) x23_2 (ai l0 (rd x8_3 x9_3)) ((ai l0 (rd x8_3 x9_3)).length : Int) (wrap64 (x49_4 + 1))) = some r := by first | (rw [hy426]; with_reducible exact H) | (have H2_ := (Option.bind_some _ _).symm.trans H; rw [hy426]; with_reducible exact H2_) | (have H2_ := (Option.bind_some _ _).symm.trans H; with_reducible exact H2_) | with_reducible exact H | (rw [hy426]; exact H) | exact H
                   have Ny426 := Aside0.mk hy426
                   clear hy426
                   have H' := Aside0.mk H
                   clear H
                   have p423 : 0 ≤ (x49_4 : Int) := ac zA
                   have q423 : x49_4 < ((ai l0 (rd x8_3 x9_3)).length : Int) := ac zA
                   obtain ⟨ad423, e423, hx423_0⟩ := Kd.at_int HR422_0.out x49_4 p423 q423
                   cases e423
                   (try replace hx423_0 := (HB.out.cell (aj w _ hx423_0)).trans hx423_0)
                   replace p423 := eq_true p423
                   replace q423 := eq_true q423
                   have p424 : 0 ≤ ((rd (ai l0 (rd x8_3 x9_3)) x49_4) : Int) := ac zA
                   have q424 : (rd (ai l0 (rd x8_3 x9_3)) x49_4) < (x6_4.length : Int) := ac zA
                   obtain ⟨ad424, e424, hx424_0⟩ := Kd.at_bool (Kd.R_reads' HO_6.out).2.2 (rd (ai l0 (rd x8_3 x9_3)) x49_4) p424 q424
                   (try rw [← Nbq21.out] at hx424_0)
                   (try rw [← Nbq40.out] at hx424_0)
                   obtain rfl : (⟨go24, 0, none⟩ : Addr) = ad424 := (by injection e424)
                   (first | simp only [ca] at hx424_0 | simp only [dI] at hx424_0 | simp only [Addr.add, Nat.zero_add] at hx424_0 | skip)
                   replace p424 := eq_true p424
                   replace q424 := eq_true q424
                   have p42 : 0 ≤ ((rd (ai l0 (rd x8_3 x9_3)) x49_4) : Int) := ac zA
                   have q42 : ((rd (ai l0 (rd x8_3 x9_3)) x49_4) : Int) < ((x6_4.length : Int) : Int) := ac zA
                   obtain ⟨hx42_0, hf42_0⟩ := Kd.R_celln false HO_6.out ((rd (ai l0 (rd x8_3 x9_3)) x49_4) : Int) p42 q42
                   replace p42 := eq_true p42
                   replace q42 := eq_true q42
                   have HP44 := Kd.R_putg HO_6.out ((rd (ai l0 (rd x8_3 x9_3)) x49_4) : Int) true
                   go_wp2_with (first | ((with_reducible refine fR (t := 4) (p := 60) rfl ?_); refine fz (t := 4) (p := 60) (v := ?vo_w45) (w1 := (wr.setCell ⟨go24, ((rd (ai l0 (rd x8_3 x9_3)) x49_4) : Int).toNat, none⟩ (.bool true))) ?hg ?ho ?hn ?hr ?_; (case ho => rfl); (case hg => rfl); (case hn => rfl); (case hr => first | (go_simp; done) | (go_simp; rfl)); intro w45 hw; have hg : wr.grownBy w45 (some go24) := (by rw [hw]; exact HP44.2); have hp_ : Kd.R Kd.bool 4 w45 w.heap.size (fun _ => True) (.slice (some ⟨go24, 0, none⟩) x6_4.length co25) y425 := (by rw [hw, Ny425.out]; exact HP44.1); clear HP44; replace HO_5 := zM (Kd.S_over' (v := (.slice (some ⟨go24, 0, none⟩) x6_4.length co25)) (by (with_reducible repeat (first | apply Kd.S_alloc | apply Kd.S_drewN | apply Kd.S_drew)); exact HO_5.out) (Kd.R_typed HO_6.out) (by decide) hg); replace HO_8 := zM (Kd.R_over' (v := (.slice (some ⟨go24, 0, none⟩) x6_4.length co25)) (zR HO_8.out) (Kd.R_typed HO_6.out) (by decide) hg); replace HO_6 := zM (hp_); replace HB := zM ((by rw [hw]; exact bJ (HB.out) GB24.out : Below w.heap.size w w45)); clear hg hw hp_) | ((with_reducible refine cJ (b := .append) (xs := #[.tmp 61, .tmp 63]) rfl ?_); at_builtin; refine Kd.R_append (Kd.int .i64) (w0 := w) w.heap.size rfl (.tmp 61) (.tmp 63) 25 3 (.int .i64 0) 8 rfl Tryz.underlying25 bv rfl (by decide) (by omega) u8 x8_4 (rd (ai l0 (rd x8_3 x9_3)) x49_4) [.int .i64 (rd (ai l0 (rd x8_3 x9_3)) x49_4)] (fun _ => True) (fun _ => False) rfl rfl ?aP (fun _ hk => hk.elim) ?aF ?aO ?aB ?aS ?aL ?_; (case aP => exact rfl); (case aB => exact zB); (case aF => exact (fun _ _ => trivial)); (case aO => exact (zR HO_8.out)); (case aS => exact (am zB)); (case aL => have := LMc43.out; omega); intro v427 w46 ho hb hg hat; rw [← Ny426.out] at ho; replace HO_5 := zM (Kd.S_after (ok := (fun _ => True)) (by (with_reducible repeat (first | apply Kd.S_alloc | apply Kd.S_drewN | apply Kd.S_drew)); exact Kd.S_mono HO_5.out (fun _ hk => ⟨trivial, hk⟩)) hg hat); replace HO_6 := zM (Kd.R_over' (zR HO_6.out) (Kd.R_typed (zR HO_8.out)) (by decide) hg); replace HB := zM (hb); have HO428 := zM (ho); clear HO_8; clear ho hb hg hat))
                   (try simp only [← hl6_4])
                   go_roundg k4
                   case measure => have := HJ4.out; have := HK2.out; have := HK3.out; have := HK4.out; omega
                   case rel => exact ⟨(y425), (y426), (wrap64 (x49_4 + 1)), (by first | rfl | (simp; done) | (simp [*]; done)), H', ⟨by have := HJ4.out; have := HK2.out; have := HK3.out; have := HK4.out; omega⟩, ⟨by (try simp only [hl6_3]); (try simp only [hl6_4]); (with_reducible repeat (first | apply Kd.S_alloc | apply Kd.S_drewN | apply Kd.S_drew)); exact Kd.S_mono HO_5.out (fun _ hk => hk.2)⟩, ⟨by (try simp only [hl6_3]); (try simp only [hl6_4]); (with_reducible repeat (first | apply Kd.R_alloc | apply Kd.R_drewN | apply Kd.R_drew)); exact HO_6.out⟩, ⟨by (try simp only [hl6_3]); (try simp only [hl6_4]); (with_reducible repeat (first | apply Kd.R_alloc | apply Kd.R_drewN | apply Kd.R_drew)); exact HO428.out⟩, ⟨zB⟩⟩
               · rw [if_neg c35] at H
                 have c35b0 : decide (x49_4 < ((ai l0 (rd x8_3 x9_3)).length : Int)) = false := ao c35
                 clear c35
                 have H' := Aside0.mk H
                 clear H
                 go_wp2
                 (try simp only [← hl6_3, ← hl6_4])
                 go_roundg k4
                 case measure => have := HJ4.out; have := HK2.out; have := HK3.out; have := HK4.out; omega
                 case rel => exact ⟨(x6_4), (x8_4), (wrap64 (x9_3 + 1)), (by first | rfl | (simp; done) | (simp [*]; done)), H', ⟨by have := HJ4.out; have := HK2.out; have := HK3.out; have := HK4.out; omega⟩, ⟨by (try simp only [hl6_3]); (try simp only [hl6_4]); (with_reducible repeat (first | apply Kd.S_alloc | apply Kd.S_drewN | apply Kd.S_drew)); exact HO_5.out⟩, ⟨by (try simp only [hl6_3]); (try simp only [hl6_4]); (with_reducible repeat (first | apply Kd.R_alloc | apply Kd.R_drewN | apply Kd.R_drew)); exact HO_6.out⟩, ⟨by (try simp only [hl6_3]); (try simp only [hl6_4]); (with_reducible repeat (first | apply Kd.R_alloc | apply Kd.R_drewN | apply Kd.R_drew)); exact HO_8.out⟩, ⟨zB⟩⟩
           · rw [if_neg c30] at H
             have c30b0 : decide (x9_3 < (x8_3.length : Int)) = false := ao c30
             clear c30
             replace H := av H
             obtain ⟨t417, A470, H⟩ := H
             have A47 := Aside0.mk A470
             clear A470
             by_cases c48 : x5_2.length < 5864062014805
             case neg => rw [if_neg c48] at H; simp at H
             rw [if_pos c48] at H
             have LMc48 := Aside0.mk c48
             clear c48
             obtain ⟨y418, hy418⟩ : ∃ y_ : List (List Int), y_ = (x5_2 ++ [t417]) := ⟨_, rfl⟩
             replace H : (de k3 l0 y418 x6_3 (l0.length : Int) (wrap64 (x23_2 + 1))) = some r := by first | (rw [hy418]; with_reducible exact H) | (have H2_ := (Option.bind_some _ _).symm.trans H; rw [hy418]; with_reducible exact H2_) | (have H2_ := (Option.bind_some _ _).symm.trans H; with_reducible exact H2_) | with_reducible exact H | (rw [hy418]; exact H) | exact H
             have Ny418 := Aside0.mk hy418
             clear hy418
             have H' := Aside0.mk H
             clear H
             obtain ⟨Ao49, co49, eo49⟩ := Kd.R_slice HO_8.out
             subst eo49
             go_wp2_with (first | ((with_reducible refine ax (f := 60) rfl ?_); refine zc 67 Tryz.func60 #[.slice Ao49 x8_3.length co49] ?_; (with_reducible refine (lH (fun k_ => some k_ = (.slice Ao49 x8_3.length co49 : Value).ownBlock) (.slice Ao49 x8_3.length co49) x8_3 t417 w _ ?side1 ?side2 A47.out).mono ?_); (case side1 => repeat (first | (with_reducible first | exact HB.out | apply bC | apply cE | apply aD) | exact HB.out)); (case side2 => exact Kd.R_tight rfl HO_8.out); rintro e w50 ⟨rfl, hy0, hb, hkp⟩; refine ⟨_, rfl, ?_⟩; replace HO_5 := zM (Kd.S_mono (ok' := fun k_ => some k_ ≠ (.slice Ao49 x8_3.length co49 : Value).ownBlock) (Kd.S_keptB (HO_5.out) hkp (fun k_ hk_ hs_ => (hk_) hs_)) (fun k_ hk_ => hk_.1)); replace HO_6 := zM (Kd.R_mono (ok' := fun k_ => True) (Kd.R_keptB ((Kd.R_apart' HO_6.out (Kd.R_typed HO_8.out) (by decide))) hkp (fun k_ hk_ hs_ => (hk_.2) hs_)) (fun k_ hk_ => trivial)); replace HO_8 := zM (Kd.R_reok rfl hy0 (fun k_ e_ => HO_8.out.1 k_ e_)); replace HB := zM (hb); (try clear hb); (try clear hkp); (try clear hy0)) | ((with_reducible refine cJ (b := .append) (xs := #[.tmp 68, .tmp 70]) rfl ?_); at_builtin; refine Kd.S_append (Kd.slice 3 (Kd.int .i64)) (w0 := w) w.heap.size rfl (.tmp 68) (.tmp 70) 48 25 (.slice none 0 0) 24 rfl Tryz.underlying48 iu rfl (by decide) (by omega) u5 x5_2 t417 [.slice Ao49 x8_3.length co49] (fun _ => True) (fun k_ => some k_ = (.slice Ao49 x8_3.length co49 : Value).ownBlock) rfl rfl ?aP (fun k_ hk_ => ((Kd.R_mono (ok' := fun k_ => ((fun _ => True)) k_ ∧ some k_ ≠ (u5 : Value).ownBlock) (Kd.R_apart' (HO_8.out) (Kd.S_typed HO_5.out) (by decide)) (fun k_ hk => ⟨trivial, hk.2⟩))).1 k_ hk_.symm) ?aF ?aO ?aB ?aS ?aL ?_; (case aP => exact Kd.M_row (Kd.R_mono (Kd.R_tight rfl (Kd.R_mono (ok' := fun k_ => ((fun _ => True)) k_ ∧ some k_ ≠ (u5 : Value).ownBlock) (Kd.R_apart' (HO_8.out) (Kd.S_typed HO_5.out) (by decide)) (fun k_ hk => ⟨trivial, hk.2⟩))) (fun _ h_ => h_))); (case aB => exact zB); (case aF => exact (fun _ _ => trivial)); (case aO => exact (by (with_reducible repeat (first | apply Kd.S_alloc | apply Kd.S_drewN | apply Kd.S_drew)); exact Kd.S_mono HO_5.out (fun k_ hk => ⟨trivial, fun e_ => hk e_⟩))); (case aS => exact (am zB)); (case aL => have := LMc48.out; omega); intro v419 w51 ho hb hg hat; rw [← Ny418.out] at ho; replace HO_6 := zM (Kd.R_over' (zR HO_6.out) (Kd.S_typed (by (with_reducible repeat (first | apply Kd.S_alloc | apply Kd.S_drewN | apply Kd.S_drew)); exact HO_5.out)) (by decide) hg); replace HB := zM (hb); have HO420 := zM (ho); clear HO_5 HO_8; clear ho hb hg hat))
             (try simp only [← hl6_3])
             go_roundg k3
             case measure => have := HJ4.out; have := HK2.out; have := HK3.out; omega
             case rel => exact ⟨(y418), (x6_3), (wrap64 (x23_2 + 1)), (by first | rfl | (simp; done) | (simp [*]; done)), H', ⟨by have := HJ4.out; have := HK2.out; have := HK3.out; omega⟩, ⟨by (try simp only [hl6_3]); (with_reducible repeat (first | apply Kd.S_alloc | apply Kd.S_drewN | apply Kd.S_drew)); exact HO420.out⟩, ⟨by (try simp only [hl6_3]); (with_reducible repeat (first | apply Kd.R_alloc | apply Kd.R_drewN | apply Kd.R_drew)); exact HO_6.out⟩, ⟨zB⟩⟩
     · rw [if_neg c18] at H
       have c18b0 : decide (x23_2 < (l0.length : Int)) = false := ao c18
       clear c18
       obtain rfl := ap H
       go_wp2
       go_ret
       exact ⟨_, by first | rfl | (simp [al, ak] <;> rfl) | (simp [*, al, ak] <;> rfl), by (with_reducible repeat (first | apply Kd.S_alloc | apply Kd.S_drewN | apply Kd.S_drew)); exact HO_5.out, zB⟩
attribute [local go_sem] bl bh bi bd bj bf bk bg
set_option linter.unusedVariables false
set_option linter.unusedSimpArgs false
def eJ (k : Nat) (a0_0 : Int) (l0_1 : List (S63)) : Option (Bool) := (gO k a0_0 l0_1).bind fun t430 => ((fN k t430 (-1)).bind fun t433 => (some ((wrap64 ((l0_1.length : Int) + (t433.length : Int))) == a0_0)))
def impl_Graph_isForest.T1 : Bool × List (List Nat × List Nat) := (true, [([], []), ([0], [0]), ([1], [1]), ([], []), ([3], [3]), ([4, 4], [4]), ([5], [5]), ([2, 6], [2, 6]), ([], []), ([8], [8]), ([7, 9], [7, 9]), ([10, 5, 0, 1, 2, 3, 4, 5, 6, 7, 8, 9, 10], [10])])
def sd : List Nat := [0, 1, 3, 0, 8, 24, 56, 127, 0, 256, 1023, 2047]
theorem sb : aQ .any (ct Tryz.f23 1) = impl_Graph_isForest.T1 := by kernel_rfl
theorem sc : bK impl_Graph_isForest.T1.2 sd = true := by kernel_rfl
theorem jv (k : Nat) (a0_0 : Int) (A0_1 : Option Addr) (c0_1 : Nat) (l0_1 : List (S63)) (r : Bool) (w : World) (hr0_1 : Kd.C k63 w A0_1 l0_1.length l0_1) (hc0_1 : l0_1.length ≤ c0_1) (h : eJ k a0_0 l0_1 = some r) :
 Calls Tryz.prog 23 #[.agg #[.int .i64 a0_0, .slice A0_1 l0_1.length c0_1]] w fun e w' => e = .returned (.bool r) ∧ Below w.heap.size w w' := by
 have hu29 := Tryz.underlying29
 have HR0_1 := Aside0.mk hr0_1
 have HC0_1 := Aside0.mk hc0_1
 clear hr0_1 hc0_1
 have HB := zM (Below.refl w.heap.size w)
 have H := h
 unfold eJ at H
 clear h
 replace H := av H
 obtain ⟨t430, A20, H⟩ := H
 have A2 := Aside0.mk A20
 clear A20
 replace H := av H
 obtain ⟨t433, A30, H⟩ := H
 have A3 := Aside0.mk A30
 clear A30
 obtain rfl := ap H
 go_enter Tryz.func23, Tryz.ntmps23
 try go_wp2_with (first | ((with_reducible refine au (N := 1) rfl ?_); refine zb (w := w) 1 #[.int .i64 a0_0, .slice A0_1 l0_1.length c0_1] 29 zB ?_; clear HB; intro gb429 w4 HB BK429 GW429; have GE429 := GW429))
 replace BK429 := zM (aq BK429.out)
 replace HB := zM (aD HB.out)
 refine zs (n := 12) (fun w' => w'.cell? ⟨gb429, 0, none⟩ = some (.int .i64 a0_0) ∧ w'.cell? ⟨gb429, 1, none⟩ = some (.slice A0_1 l0_1.length c0_1)) ⟨(ah BK429.out 0).trans rfl, (ah BK429.out 1).trans rfl⟩ (fun hHeld => ?_); refine aX sb sc (fun HT_ HW_ => ?_)
 generalize w4.drew = w5 at BK429 HB hHeld ⊢
 refine zp HT_ 0 3 ?_
 refine zp HT_ 8 11 ?_
 refine zt HT_ HW_ 1 4 hHeld ?_ (hy := by rintro w' ⟨s0, s1⟩; go_simp; with_reducible rfl)
 refine zp HT_ 2 5 ?_
 refine zt HT_ HW_ 3 6 hHeld ?_ (hy := by rintro w' ⟨s0, s1⟩; go_simp; with_reducible rfl)
 refine zt HT_ HW_ 9 12 hHeld ?_ (hy := by rintro w' ⟨s0, s1⟩; go_simp; with_reducible rfl)
 refine zg HT_ 4 7 Tryz.func35 #[.agg #[.int .i64 a0_0, .slice A0_1 l0_1.length c0_1]] (fun K hK => ?_)
 with_reducible refine (nc k a0_0 _ _ l0_1 t430 _ ?side1 ?side2 A2.out).mono ?_
 (case side1 => exact zC (Kd.C_below HR0_1.out HB.out))
 (case side2 => exact HC0_1.out)
 rintro e w6 ⟨v431, rfl, ho0, hb⟩
 refine ⟨_, rfl, ?_⟩
 have HO432 := zM (Kd.S_lower ho0 (am zB))
 replace BK429 := zJ BK429 hb
 replace HB := zM (ag zB hb)
 (try clear hb)
 (try clear ho0)
 obtain ⟨Ao7, co7, eo7⟩ := Kd.S_slice HO432.out
 (first | subst eo7 | (injection eo7 with f1_ f2_ f3_; have f4_ := f1_.symm; have f5_ := f3_.symm; clear f1_ f2_ f3_; subst f4_; subst f5_))
 refine hK.out _ _ ⟨(ah BK429.out 0).trans rfl, (ah BK429.out 1).trans rfl⟩ (fun hHeld => ?_)
 clear hK K
 refine zn 7 ?_
 refine zg HT_ 5 8 Tryz.func39 #[.slice Ao7 t430.length co7, .int .i64 (-1)] (fun K hK => ?_)
 with_reducible refine (m7 k _ _ t430 (-1) t433 _ ?side1 ?side2 A3.out).mono ?_
 (case side1 => exact zC (Kd.S_reads' HO432.out).2.2)
 (case side2 => exact (Kd.S_reads' HO432.out).2.1)
 rintro e w8 ⟨v434, rfl, ho0, hb⟩
 refine ⟨_, rfl, ?_⟩
 have HO435 := zM (Kd.S_lower (Kd.S_new' ho0 (Kd.S_lt (by (with_reducible repeat (first | apply Kd.S_alloc | apply Kd.S_drewN | apply Kd.S_drew)); exact HO432.out))) (am zB))
 replace HO432 := zM (Kd.S_elder' (by (with_reducible repeat (first | apply Kd.S_alloc | apply Kd.S_drewN | apply Kd.S_drew)); exact HO432.out) (Kd.S_base ho0) hb)
 replace BK429 := zJ BK429 hb
 replace HB := zM (ag zB hb)
 (try clear hb)
 (try clear ho0)
 obtain ⟨Ao9, co9, eo9⟩ := Kd.S_slice HO435.out
 (first | subst eo9 | (injection eo9 with f1_ f2_ f3_; have f4_ := f1_.symm; have f5_ := f3_.symm; clear f1_ f2_ f3_; subst f4_; subst f5_))
 refine hK.out _ _ ⟨(ah BK429.out 0).trans rfl, (ah BK429.out 1).trans rfl⟩ (fun hHeld => ?_)
 clear hK K
 refine zn 8 ?_
 refine zp HT_ 6 9 ?_
 refine zp HT_ 7 10 ?_
 refine zp HT_ 10 13 ?_
 refine zp HT_ 11 2 ?_
 refine zo HT_ ?_
 try go_wp2
 go_ret
 exact ⟨by first | rfl | (simp [al, ak] <;> rfl) | (simp [*, al, ak] <;> rfl), zB⟩
end Go.Proofs.YtjgcehldepfaaaaGreat.P
