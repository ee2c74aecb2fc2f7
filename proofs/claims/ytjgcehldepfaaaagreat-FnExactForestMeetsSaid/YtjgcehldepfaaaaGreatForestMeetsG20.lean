/- The contract of (impl.Space).roads: out of the printed walk of all but its last loop, and a walk of that loop by hand. -/
import Derived.Test.YtjgcehldepfaaaaGreatForestMeetsG17
namespace Go.Proofs.YtjgcehldepfaaaaGreat.P
open Go.RowKit YtjgcehldepfaaaaGreatW.PrintWords Go.Proofs.YtjgcehldepfaaaaGreatW.PrintLast Go.Proofs.YtjgcehldepfaaaaGreatW.PrintMore
attribute [local go_sem] bl bh bi bd bj bf bk bg
set_option linter.unusedVariables false
set_option linter.unusedSimpArgs false
def dl : List (List Int) → Option (List (List Int))
 | [] => some []
 | l :: t => (eB l).bind fun a => (dl t).bind fun b => some (a :: b)
theorem pc {l : List Int} {t z : List (List Int)} (h : dl (l :: t) = some z) : ∃ a b, eB l = some a ∧ dl t = some b ∧ z = a :: b := by
 rw [dl] at h
 obtain ⟨a, ha, h⟩ := av h
 obtain ⟨b, hb, h⟩ := av h
 exact ⟨a, b, ha, hb, (ap h).symm⟩
theorem lM {α : Type} (done : List α) (l : List α) (m : Nat) (hd : done.length = m) (hm : m < l.length) (x : α) : (done ++ l.drop m).set m x = (done ++ [x]) ++ l.drop (m + 1) := by
 subst hd
 rw [List.drop_eq_getElem_cons hm, List.set_append_right _ _ (ar _), Nat.sub_self, List.set_cons_zero, List.append_assoc, List.singleton_append]
def cy : Nat → List (List Int) → List (S63) → Int → Int → Option ((List (List Int)))
 | 0, _, _, _, _ => none
 | k + 1, x3, x13, x14, x15 => if x15 < x14 then (if 0 ≤ x15 then (if x15 < (x13.length : Int) then (if 0 ≤ ((aa x13 x15).f0) then (if ((aa x13 x15).f0) < (x3.length : Int) then (if (ai x3 ((aa x13 x15).f0)).length < 17592186044416 then ((some (x3.set (((aa x13 x15).f0) : Int).toNat ((ai x3 ((aa x13 x15).f0)) ++ [(aa x13 x15).f1]) : List (List Int))).bind fun y403 => (if 0 ≤ ((aa x13 x15).f1) then (if ((aa x13 x15).f1) < (x3.length : Int) then (if (ai y403 ((aa x13 x15).f1)).length < 17592186044416 then (cy k (y403.set (((aa x13 x15).f1) : Int).toNat ((ai y403 ((aa x13 x15).f1)) ++ [(aa x13 x15).f0])) x13 x14 (wrap64 (x15 + 1))) else (none)) else (none)) else (none))) else (none)) else (none)) else (none)) else (none)) else (none)) else (some x3)
def kr (k : Nat) (l0_0 : List (List Int)) (l0_1 : List (S63)) : Option ((List (List Int))) := if 0 ≤ (l0_0.length : Int) then (if ((l0_0.length : Int) : Int).toNat ≤ 11728124029610 then (cy k (List.replicate ((l0_0.length : Int) : Int).toNat []) l0_1 (l0_1.length : Int) 0) else (none)) else (none)
def impl_Space_roads.T5 : Bool × List (List Nat × List Nat) := (true, [([], []), ([], []), ([1], [1]), ([], []), ([], []), ([4], [4]), ([3, 5], [3, 5]), ([6], [6]), ([], []), ([8], [8]), ([9], [9]), ([7, 10], [7, 10]), ([0, 2, 0, 1, 2, 3, 4, 5, 6, 7, 8, 9, 10, 11], [0, 2]), ([12, 11, 11, 0, 1, 2, 3, 4, 5, 6, 7, 8, 9, 10, 11], [11, 12])])
def rU : List Nat := [0, 0, 2, 0, 0, 16, 56, 120, 0, 256, 768, 2040, 4095, 8191]
theorem rO : aQ .any (ct Tryz.f51 5) = impl_Space_roads.T5 := by kernel_rfl
theorem rS : bK impl_Space_roads.T5.2 rU = true := by kernel_rfl
def impl_Space_roads.T6 : Bool × List (List Nat × List Nat) := (true, [([], []), ([], []), ([1], [1]), ([], []), ([], []), ([4], [4]), ([3, 5], [3, 5]), ([6], [6]), ([], []), ([8], [8]), ([9], [9]), ([7, 10], [7, 10]), ([0, 2, 0, 1, 2, 3, 4, 5, 6, 7, 8, 9, 10, 11], [0, 2]), ([12, 11, 11, 0, 1, 2, 3, 4, 5, 6, 7, 8, 9, 10, 11], [11, 12])])
def rT : List Nat := [0, 0, 2, 0, 0, 16, 56, 120, 0, 256, 768, 2040, 4095, 8191]
theorem rN : aQ .any (ct Tryz.f51 6) = impl_Space_roads.T6 := by kernel_rfl
theorem rR : bK impl_Space_roads.T6.2 rT = true := by kernel_rfl
set_option maxHeartbeats 8000000 in
set_option maxRecDepth 100000 in
theorem rP (k : Nat) (A0_0 : Option Addr) (c0_0 : Nat) (l0_0 : List (List Int)) (A0_1 : Option Addr) (c0_1 : Nat) (l0_1 : List (S63)) (r0 r : List (List Int)) (w : World) (hr0_0 : Kd.C (Kd.slice 3 (Kd.int .i64)) w A0_0 l0_0.length l0_0) (hc0_0 : l0_0.length ≤ c0_0) (hr0_1 : Kd.C k63 w A0_1 l0_1.length l0_1) (hc0_1 : l0_1.length ≤ c0_1) (h : kr k l0_0 l0_1 = some r0) (hsort : dl r0 = some r) :
 Calls Tryz.prog 51 #[.agg #[.slice A0_0 l0_0.length c0_0, .slice A0_1 l0_1.length c0_1]] w fun e w' => ∃ v0_ : Value, e = .returned (v0_) ∧ Kd.S (Kd.slice 3 (Kd.int .i64)) 25 w' w.heap.size (fun _ => True) v0_ r ∧ Below w.heap.size w w' := by
 have hu67 := Tryz.underlying67
 have hu63 := Tryz.underlying63
 have HR0_0 := Aside0.mk hr0_0
 have HC0_0 := Aside0.mk hc0_0
 clear hr0_0 hc0_0
 have HR0_1 := Aside0.mk hr0_1
 have HC0_1 := Aside0.mk hc0_1
 clear hr0_1 hc0_1
 have HSORT := zM hsort
 clear hsort
 have HB := zM (Below.refl w.heap.size w)
 have H : (if 0 ≤ (l0_0.length : Int) then (if ((l0_0.length : Int) : Int).toNat ≤ 11728124029610 then (cy k (List.replicate ((l0_0.length : Int) : Int).toNat []) l0_1 (l0_1.length : Int) 0) else (none)) else (none)) = some r0 := h
 clear h
 by_cases c2 : 0 ≤ (l0_0.length : Int)
 case neg => rw [if_neg c2] at H; simp at H
 rw [if_pos c2] at H
 have c2b0 := eq_true c2
 have c2b1 : decide (0 ≤ (l0_0.length : Int)) = true := af c2
 clear c2
 by_cases c3 : ((l0_0.length : Int) : Int).toNat ≤ 11728124029610
 case neg => rw [if_neg c3] at H; simp at H
 rw [if_pos c3] at H
 have c3b0 := eq_true c3
 have c3b1 : decide (((l0_0.length : Int) : Int).toNat ≤ 11728124029610) = true := af c3
 clear c3
 obtain ⟨y394, hy394⟩ : ∃ y_ : List (List Int), y_ = (List.replicate ((l0_0.length : Int) : Int).toNat []) := ⟨_, rfl⟩
 replace H : (cy k y394 l0_1 (l0_1.length : Int) 0) = some r0 := by first | (rw [hy394]; with_reducible exact H) | (have H2_ := (Option.bind_some _ _).symm.trans H; rw [hy394]; with_reducible exact H2_) | (have H2_ := (Option.bind_some _ _).symm.trans H; with_reducible exact H2_) | with_reducible exact H | (rw [hy394]; exact H) | exact H
 have Ny394 := Aside0.mk hy394
 clear hy394
 have H' := Aside0.mk H
 clear H
 go_enter Tryz.func51, Tryz.ntmps51
 go_wp2_with (first | ((with_reducible refine au (N := 1) rfl ?_); refine zb (w := w) 1 #[.slice A0_0 l0_0.length c0_0, .slice A0_1 l0_1.length c0_1] 67 zB ?_; clear HB; intro gb393 w4 HB BK393 GW393; have GE393 := GW393; have hcz5_0 := zy BK393 0; have hcz5_1 := zy BK393 1; have hfz5_0 := ae BK393.out 0; have hfz5_1 := ae BK393.out 1) | ((with_reducible refine au (N := 11) rfl ?_); refine Kd.S_make (Kd.slice 3 (Kd.int .i64)) _ 25 rfl (N := 11) rfl 48 _ _ rfl (l0_0.length : Int) rfl rfl Tryz.underlying48 (.slice none 0 0) 24 iu rfl (by decide) (by omega) [] (ok := fun _ => True) (okp := fun _ => True) ⟨_, rfl, Kd.R_nil _ _ _ _ _⟩ (fun _ hk => hk) trivial (ac zA) (Nat.le_trans (Nat.mul_le_mul_right _ (ac zA : (l0_0.length : Int).toNat ≤ 11728124029610)) (by omega)) (Below.refl _ _) (ar _) ?_; intro v395 w6 ho7 hb hg_ hnew_; clear hg_ hnew_; (first | rw [← Ny394.out] at ho7 | (simp only [Int.reduceToNat] at ho7; rw [← Ny394.out] at ho7)); have HO396 := zM (Kd.S_lower ho7 (am zB)); replace BK393 := zJ BK393 hb; replace HB := zM (ag zB hb); clear hb ho7; have hcz8_0 := zy BK393 0; have hcz8_1 := zy BK393 1; have hfz8_0 := ae BK393.out 0; have hfz8_1 := ae BK393.out 1))
 go_loopg [15] k (fun kq v15 w' => ∃ (x3_1 : List (List Int)) (x15_1 : Int), v15 = .int .i64 x15_1 ∧ Aside0 (cy kq x3_1 l0_1 (l0_1.length : Int) x15_1 = some r0) ∧ Aside0 (kq ≤ k) ∧ Aside0 (Kd.S (Kd.slice 3 (Kd.int .i64)) 25 w' w.heap.size (fun _ => True) v395 x3_1) ∧ Aside0 (w'.heap[gb393]? = some (.cells #[(.slice A0_0 l0_0.length c0_0), (.slice A0_1 l0_1.length c0_1)] 67 (0, 0))) ∧ Aside0 (Below w.heap.size w w'))
 case atStart => exact ⟨(y394), (0), (by first | rfl | (simp; done) | (simp [*]; done)), H', ⟨ar _⟩, ⟨by (with_reducible repeat (first | apply Kd.S_alloc | apply Kd.S_drewN | apply Kd.S_drew)); exact HO396.out⟩, ⟨zK BK393.out⟩, ⟨zB⟩⟩
 case round =>
  clear H'
  try clear c2
  try clear c2b0
  try clear c2b1
  try clear p2
  try clear c3
  try clear c3b0
  try clear c3b1
  try clear c5
  try clear hcz5_0
  try clear hcz5_1
  try clear hcz8_0
  try clear hcz8_1
  try clear hfz5_0
  try clear hfz5_1
  try clear hfz8_0
  try clear hfz8_1
  obtain ⟨x3_1, x15_1, rfl, HA, HK1, HO_3, BK393, HB⟩ := hrel
  cases gk with
  | zero => exact absurd HA.out (by simp [cy])
  | succ k1 =>
   have H := HA.out
   clear HA
   simp only [cy] at H
   by_cases c9 : x15_1 < (l0_1.length : Int)
   · rw [if_pos c9] at H
     have c9b0 := af c9
     clear c9
     by_cases c10 : 0 ≤ x15_1
     case neg => rw [if_neg c10] at H; simp at H
     rw [if_pos c10] at H
     have c10b0 := af c10
     clear c10
     by_cases c11 : x15_1 < (l0_1.length : Int)
     case neg => rw [if_neg c11] at H; simp at H
     rw [if_pos c11] at H
     have c11b0 := af c11
     clear c11
     by_cases c12 : 0 ≤ ((aa l0_1 x15_1).f0)
     case neg => rw [if_neg c12] at H; simp at H
     rw [if_pos c12] at H
     have c12b0 := af c12
     clear c12
     by_cases c13 : ((aa l0_1 x15_1).f0) < (x3_1.length : Int)
     case neg => rw [if_neg c13] at H; simp at H
     rw [if_pos c13] at H
     have c13b0 := af c13
     clear c13
     by_cases c14 : (ai x3_1 ((aa l0_1 x15_1).f0)).length < 17592186044416
     case neg => rw [if_neg c14] at H; simp at H
     rw [if_pos c14] at H
     have LMc14 := Aside0.mk c14
     clear c14
     obtain ⟨y400, hy400⟩ : ∃ y_ : List Int, y_ = ((ai x3_1 ((aa l0_1 x15_1).f0)) ++ [(aa l0_1 x15_1).f1]) := ⟨_, rfl⟩
     replace H : ((some (x3_1.set (((aa l0_1 x15_1).f0) : Int).toNat y400 : List (List Int))).bind fun y403 => (if 0 ≤ ((aa l0_1 x15_1).f1) then (if ((aa l0_1 x15_1).f1) < (x3_1.length : Int) then (if (ai y403 ((aa l0_1 x15_1).f1)).length < 17592186044416 then (cy k1 (y403.set (((aa l0_1 x15_1).f1) : Int).toNat ((ai y403 ((aa l0_1 x15_1).f1)) ++ [(aa l0_1 x15_1).f0])) l0_1 (l0_1.length : Int) (wrap64 (x15_1 + 1))) else (none)) else (none)) else (none))) = some r0 := by first | (rw [hy400]; with_reducible exact H) | (have H2_ := (Option.bind_some _ _).symm.trans H; rw [hy400]; with_reducible exact H2_) | (have H2_ := (Option.bind_some _ _).symm.trans H; with_reducible exact H2_) | with_reducible exact H | (rw [hy400]; exact H) | exact H
     have Ny400 := Aside0.mk hy400
     clear hy400
     obtain ⟨y403, hy403⟩ : ∃ y_ : List (List Int), y_ = (x3_1.set (((aa l0_1 x15_1).f0) : Int).toNat y400) := ⟨_, rfl⟩
     replace H : (if 0 ≤ ((aa l0_1 x15_1).f1) then (if ((aa l0_1 x15_1).f1) < (x3_1.length : Int) then (if (ai y403 ((aa l0_1 x15_1).f1)).length < 17592186044416 then (cy k1 (y403.set (((aa l0_1 x15_1).f1) : Int).toNat ((ai y403 ((aa l0_1 x15_1).f1)) ++ [(aa l0_1 x15_1).f0])) l0_1 (l0_1.length : Int) (wrap64 (x15_1 + 1))) else (none)) else (none)) else (none)) = some r0 := by first | (rw [hy403]; with_reducible exact H) | (have H2_ := (Option.bind_some _ _).symm.trans H; rw [hy403]; with_reducible exact H2_) | (have H2_ := (Option.bind_some _ _).symm.trans H; with_reducible exact H2_) | with_reducible exact H | (rw [hy403]; exact H) | exact H
     have Ny403 := Aside0.mk hy403
     clear hy403
     by_cases c16 : 0 ≤ ((aa l0_1 x15_1).f1)
     case neg => rw [if_neg c16] at H; simp at H
     rw [if_pos c16] at H
     have c16b0 := af c16
     clear c16
     by_cases c17 : ((aa l0_1 x15_1).f1) < (x3_1.length : Int)
     case neg => rw [if_neg c17] at H; simp at H
     rw [if_pos c17] at H
     have c17b0 := af c17
     clear c17
     by_cases c18 : (ai y403 ((aa l0_1 x15_1).f1)).length < 17592186044416
     case neg => rw [if_neg c18] at H; simp at H
     rw [if_pos c18] at H
     have LMc18 := Aside0.mk c18
     clear c18
     obtain ⟨y405, hy405⟩ : ∃ y_ : List Int, y_ = ((ai y403 ((aa l0_1 x15_1).f1)) ++ [(aa l0_1 x15_1).f0]) := ⟨_, rfl⟩
     replace H : (cy k1 (y403.set (((aa l0_1 x15_1).f1) : Int).toNat y405) l0_1 (l0_1.length : Int) (wrap64 (x15_1 + 1))) = some r0 := by first | (rw [hy405]; with_reducible exact H) | (have H2_ := (Option.bind_some _ _).symm.trans H; rw [hy405]; with_reducible exact H2_) | (have H2_ := (Option.bind_some _ _).symm.trans H; with_reducible exact H2_) | with_reducible exact H | (rw [hy405]; exact H) | exact H
     have Ny405 := Aside0.mk hy405
     clear hy405
     obtain ⟨y408, hy408⟩ : ∃ y_ : List (List Int), y_ = (y403.set (((aa l0_1 x15_1).f1) : Int).toNat y405) := ⟨_, rfl⟩
     replace H : (cy k1 y408 l0_1 (l0_1.length : Int) (wrap64 (x15_1 + 1))) = some r0 := by first | (rw [hy408]; with_reducible exact H) | (have H2_ := (Option.bind_some _ _).symm.trans H; rw [hy408]; with_reducible exact H2_) | (have H2_ := (Option.bind_some _ _).symm.trans H; with_reducible exact H2_) | with_reducible exact H | (rw [hy408]; exact H) | exact H
     have Ny408 := Aside0.mk hy408
     clear hy408
     have H' := Aside0.mk H
     clear H
     have p397 : 0 ≤ (x15_1 : Int) := ac zA
     have q397 : x15_1 < (l0_1.length : Int) := ac zA
     obtain ⟨ad397, e397, hx397_0, hx397_1⟩ := bp HR0_1.out x15_1 p397 q397
     cases e397
     (try replace hx397_0 := (HB.out.cell (aj w _ hx397_0)).trans hx397_0)
     (try replace hx397_1 := (HB.out.cell (aj w _ hx397_1)).trans hx397_1)
     replace p397 := eq_true p397
     replace q397 := eq_true q397
     try go_wp2_with (first | ((with_reducible refine au (N := 5) rfl ?_); refine ze 5 #[.int .i64 0, .int .i64 0] 63 ?_; intro gb398 hg w20 hbox hb; replace HO_3 := zM (Kd.S_below (by (with_reducible repeat (first | apply Kd.S_alloc | apply Kd.S_drewN | apply Kd.S_drew)); exact HO_3.out) hb); have BK398 := zM (hbox); have GW398 := zM ((by rw [hg]; exact (am zB) : w.heap.size ≤ gb398)); have GE398 := zM ((by rw [hg]; exact (am zB) : w.heap.size ≤ gb398)); replace HB := zM (ag zB hb); have NB393_398 := zM ((by rw [hg]; exact Nat.ne_of_lt (aH (g := gb393) (o := .cells #[.slice A0_0 l0_0.length c0_0, .slice (some ad397) l0_1.length c0_1] 67 (0, 0)) (zK BK393.out)) : gb393 ≠ gb398)); have NB398_393 := zM ((by rw [hg]; exact Nat.ne_of_gt (aH (g := gb393) (o := .cells #[.slice A0_0 l0_0.length c0_0, .slice (some ad397) l0_1.length c0_1] 67 (0, 0)) (zK BK393.out)) : gb398 ≠ gb393)); replace BK393 := zJ BK393 hb; clear hb hbox hg; have hnb21 := NB398_393.out; have hnc21 := NB393_398.out; have hcz22_0 := zy BK398 0; have hcz22_1 := zy BK398 1; have hfz22_0 := ae BK398.out 0; have hfz22_1 := ae BK398.out 1))
     have n0_ : Aside0 (Kd.S (Kd.slice 3 (Kd.int .i64)) 25 ((w20.setCell ⟨gb398, 0, none⟩ (.int .i64 ((aa l0_1 x15_1).f0))).setCell ⟨gb398, 1, none⟩ (.int .i64 ((aa l0_1 x15_1).f1))) w.heap.size (fun _ => True) v395 x3_1) := ⟨by (with_reducible repeat (first | apply Kd.S_alloc | apply Kd.S_drewN | apply Kd.S_drew)); exact Kd.S_mono (Kd.S_far (p := ⟨gb398, 1, none⟩) (Kd.S_far (p := ⟨gb398, 0, none⟩) (Kd.S_types HO_3.out BK398.out (by decide)) (fun _ hk => hk.2) (.int .i64 ((aa l0_1 x15_1).f0))) (fun _ hk => hk.2) (.int .i64 ((aa l0_1 x15_1).f1))) (fun _ hk => trivial)⟩
     have n1_ : Aside0 (((w20.setCell ⟨gb398, 0, none⟩ (.int .i64 ((aa l0_1 x15_1).f0))).setCell ⟨gb398, 1, none⟩ (.int .i64 ((aa l0_1 x15_1).f1))).heap[gb393]? = some (.cells #[.slice A0_0 l0_0.length c0_0, .slice (some ad397) l0_1.length c0_1] 67 (0, 0))) := ⟨by (with_reducible repeat (first | refine ay ?_ _ | refine aq ?_ | refine aw ?_ _)); refine bG ?_ NB393_398.out _; (with_reducible repeat (first | refine ay ?_ _ | refine aq ?_ | refine aw ?_ _)); refine bG ?_ NB393_398.out _; (with_reducible repeat (first | refine ay ?_ _ | refine aq ?_ | refine aw ?_ _)); exact BK393.out⟩
     have n2_ : Aside0 (((w20.setCell ⟨gb398, 0, none⟩ (.int .i64 ((aa l0_1 x15_1).f0))).setCell ⟨gb398, 1, none⟩ (.int .i64 ((aa l0_1 x15_1).f1))).heap[gb398]? = some (.cells #[.int .i64 ((aa l0_1 x15_1).f0), .int .i64 ((aa l0_1 x15_1).f1)] 63 (0, 0))) := ⟨by (with_reducible repeat (first | refine ay ?_ _ | refine aq ?_ | refine aw ?_ _)); refine aK (cs := #[.int .i64 ((aa l0_1 x15_1).f0), .int .i64 0]) ?_ 1 _ rfl; (with_reducible repeat (first | refine ay ?_ _ | refine aq ?_ | refine aw ?_ _)); refine aK (cs := #[.int .i64 0, .int .i64 0]) ?_ 0 _ rfl; (with_reducible repeat (first | refine ay ?_ _ | refine aq ?_ | refine aw ?_ _)); exact BK398.out⟩
     have n3_ : Aside0 (Below w.heap.size w ((w20.setCell ⟨gb398, 0, none⟩ (.int .i64 ((aa l0_1 x15_1).f0))).setCell ⟨gb398, 1, none⟩ (.int .i64 ((aa l0_1 x15_1).f1)))) := ⟨zB⟩
     (try clear HO_3)
     (try clear BK393)
     (try clear BK398)
     (try clear HB)
     generalize ((w20.setCell ⟨gb398, 0, none⟩ (.int .i64 ((aa l0_1 x15_1).f0))).setCell ⟨gb398, 1, none⟩ (.int .i64 ((aa l0_1 x15_1).f1))) = w23 at n0_ n1_ n2_ n3_ ⊢
     have HO_3 := n0_
     have BK393 := n1_
     have BK398 := n2_
     have HB := n3_
     clear n0_ n1_ n2_ n3_
     replace HO_3 := zM (Kd.S_drew HO_3.out)
     replace BK393 := zM (aq BK393.out)
     replace BK398 := zM (aq BK398.out)
     replace HB := zM (aD HB.out)
     obtain ⟨Ao25, co25, eo25⟩ := Kd.S_slice HO_3.out
     (first | subst eo25 | (injection eo25 with f1_ f2_ f3_; have f4_ := f1_.symm; have f5_ := f3_.symm; clear f1_ f2_ f3_; subst f4_; subst f5_))
     have p399 : 0 ≤ (((aa l0_1 x15_1).f0) : Int) := ac zA
     have q399 : ((aa l0_1 x15_1).f0) < (x3_1.length : Int) := ac zA
     obtain ⟨ad399, A399_0, c399_0, e399, hx399_0, hl399_0, hi399_0⟩ := ee (Kd.S_reads' HO_3.out).2.2 ((aa l0_1 x15_1).f0) p399 q399
     cases e399
     obtain ⟨ce399, hce399, hMe399, hcc399⟩ := Kd.S_get HO_3.out [] ((aa l0_1 x15_1).f0) p399 (by first | exact q399 | exact ac zA | (have e_ := (Kd.S_reads' HO_3.out).1; omega))
     obtain ⟨ve399_0, rfl, ge399_0⟩ := hMe399
     have hv399_0 := hcc399 0 _ rfl
     rw [Nat.add_zero, show ((Kd.slice 3 (Kd.int .i64))).sz = 1 from rfl, Nat.mul_one] at hv399_0
     replace hv399_0 := ap (hv399_0.symm.trans hx399_0)
     rw [hv399_0] at ge399_0
     have HL399_0 := zM (show Kd.R (Kd.int .i64) 3 _ _ _ _ (ai x3_1 ((aa l0_1 x15_1).f0)) from ge399_0)
     clear hv399_0 ge399_0
     have HX399_0 := Aside0.mk hx399_0
     clear hcc399 hce399
     have HR399_0 := Aside0.mk hi399_0
     have HC399_0 := Aside0.mk hl399_0
     clear hi399_0 hl399_0
     replace p399 := eq_true p399
     replace q399 := eq_true q399
     obtain ⟨go26, co26, eo26, gb26, gl26, cl26, HG26⟩ := Kd.S_form HO_3.out (by have h_ : (((aa l0_1 x15_1).f0) : Int) < ((x3_1.length : Int) : Int) := ac zA; have h2_ : 0 ≤ (((aa l0_1 x15_1).f0) : Int) := (ac zA); omega)
     (first | cases eo26 | (injection eo26 with ea_ en_ ec_; (first | subst ea_ | (injection ea_ with ea_; subst ea_)); subst ec_; clear en_))
     have GB26 := Aside0.mk gb26
     have GG26 := Aside0.mk HG26
     clear gb26 gl26 HG26
     (first | simp only [ca] at hx399_0 | skip)
     obtain ⟨oki26, ce26, hcl26, hM26, hcc26, _, _, hH26⟩ := Kd.S_elem HO_3.out [] (((aa l0_1 x15_1).f0) : Int) (ac zA) (by have h_ : (((aa l0_1 x15_1).f0) : Int) < ((x3_1.length : Int) : Int) := ac zA; first | exact h_ | (have e_ := (Kd.S_reads' HO_3.out).1; omega) | simpa using h_)
     obtain ⟨ve26_0, rfl, ge26_0⟩ := hM26
     have hv26 := hcc26 0 _ rfl
     have hX26 := HX399_0.out
     (try simp only [ca] at hX26)
     (try simp only [Nat.add_zero] at hv26)
     (try rw [show ((Kd.slice 3 (Kd.int .i64))).sz = 1 from rfl, Nat.mul_one] at hv26)
     replace hv26 := ap (hv26.symm.trans hX26)
     subst hv26
     clear hX26 hcc26 hcl26
     have UU26 := zM (show Kd.R (Kd.int .i64) 3 _ w.heap.size oki26 (.slice A399_0 (ai x3_1 ((aa l0_1 x15_1).f0)).length c399_0) (ai x3_1 ((aa l0_1 x15_1).f0)) from ge26_0)
     have HH26 := Aside0.mk hH26
     have HN26 := zM (Kd.S_reads' HO_3.out).1
     clear hH26 ge26_0
     refine g8 (n := 14) (S := fun w' => w'.cell? ⟨gb398, 0, none⟩ = some (.int .i64 ((aa l0_1 x15_1).f0)) ∧ w'.cell? ⟨gb398, 1, none⟩ = some (.int .i64 ((aa l0_1 x15_1).f1)) ∧ w'.cell? ⟨go26, (((aa l0_1 x15_1).f0)).toNat, none⟩ = some (.slice A399_0 (ai x3_1 ((aa l0_1 x15_1).f0)).length c399_0)) (ds := [13]) #[false, false, false, false, false, false, false, false, false, false, false, false, false, false] (by kernel_rfl) rfl rfl ⟨(ah BK398.out 0).trans rfl, (ah BK398.out 1).trans rfl, hx399_0⟩ (fun hHeld => ?_); refine aX rO rS (fun HT_ HW_ => ?_)
     generalize w23.drew = w24 at HO_3 BK393 BK398 HB GG26 HH26 HL399_0 HR399_0 HX399_0 UU26 hx399_0 hHeld ⊢
     refine zp HT_ 0 19 ?_
     refine zp HT_ 1 20 ?_
     refine zp HT_ 3 22 ?_
     refine zp HT_ 4 23 ?_
     refine zp HT_ 8 27 ?_
     refine zt HT_ HW_ 2 21 hHeld ?_ (hy := by rintro w' ⟨s0, s1, s2⟩; go_simp; with_reducible rfl)
     refine zt HT_ HW_ 5 24 hHeld ?_ (hy := by rintro w' ⟨s0, s1, s2⟩; go_simp; with_reducible rfl)
     refine zp HT_ 6 25 ?_
     refine zt HT_ HW_ 7 26 hHeld ?_ (hy := by rintro w' ⟨s0, s1, s2⟩; go_simp; with_reducible rfl)
     refine zt HT_ HW_ 9 28 hHeld ?_ (hy := by rintro w' ⟨s0, s1, s2⟩; go_simp; with_reducible rfl)
     refine bz (i := 10) (N := some 29) #[true, true, true, true, true, true, true, true, true, true, true, false, false, false] rfl rfl (bu HT_.out (by kernel_rfl)) (by decide) (fun K hK => ?_)
     refine jK (w1 := ?_) (v := ?_) (by rfl) rfl ?_ ?_
     rotate_left 2
     · go_simp
       constructor
       · rfl
       · rfl
     refine hK.out _ _ ⟨(ah (aw BK398.out _) 0).trans rfl, (ah (aw BK398.out _) 1).trans rfl, (World.cell?_alloc_lt _ _ _ (aj _ _ (hHeld.2.2))).trans (hHeld.2.2)⟩ (fun hHeld => ?_)
     clear hK K
     refine zn 29 ?_
     refine bz (i := 11) (N := some 30) #[true, true, true, true, true, true, true, true, true, true, true, true, false, false] rfl rfl (bu HT_.out (by kernel_rfl)) (by decide) (fun K hK => ?_)
     refine Kd.R_append_step (Kd.int .i64) (w0 := w) w.heap.size (by rfl) (.tmp 26) (.tmp 29) 25 3 (.int .i64 0) 8 rfl Tryz.underlying25 bv rfl (by decide) (by omega) (.slice A399_0 (ai x3_1 ((aa l0_1 x15_1).f0)).length c399_0) (ai x3_1 ((aa l0_1 x15_1).f0)) ((aa l0_1 x15_1).f1) [.int .i64 ((aa l0_1 x15_1).f1)] (fun k_ => oki26 k_ ∨ ((fun _ => True)) k_ ∧ w24.heap.size ≤ k_) (fun _ => False) rfl rfl ?aP (fun _ hk => hk.elim) ?aF ?aO ?aB ?aS ?aL ?_
     (case aP => exact rfl)
     (case aB => exact zB)
     (case aF => exact (fun k_ hk => .inr ⟨trivial, hk⟩))
     (case aO => exact (by (with_reducible repeat (first | apply Kd.R_alloc | apply Kd.R_drewN | apply Kd.R_drew)); exact Kd.R_mono UU26.out (fun _ hk => .inl hk)))
     (case aS => exact (am zB))
     (case aL => have := LMc14.out; omega)
     intro v401 w27 ho hb hg hat
     (first | have HS2_ := Go.Proofs.YtjgcehldepfaaaaGreatW.PrintWords.cell_grown hg (hHeld.2.2) (by first | (rw [cV]; exact (fun e_ => ((HL399_0.out.1 _ e_.symm).2) rfl)) | (show some (Addr.add _ _).block ≠ _; rw [cV]; exact (fun e_ => ((HL399_0.out.1 _ e_.symm).2) rfl)) | exact (fun e_ => ((HL399_0.out.1 _ e_.symm).2) rfl)) | have HS2_ := Go.Proofs.YtjgcehldepfaaaaGreatW.PrintWords.cell_grown hg (nJ (hHeld.2.2) (by first | (rw [cV]; exact Kd.S_lt HO_3.out _ rfl) | (show (Addr.add _ _).block < _; rw [cV]; exact Kd.S_lt HO_3.out _ rfl) | exact Kd.S_lt HO_3.out _ rfl)) (by first | (rw [cV]; exact (fun e_ => ((HL399_0.out.1 _ e_.symm).2) rfl)) | (show some (Addr.add _ _).block ≠ _; rw [cV]; exact (fun e_ => ((HL399_0.out.1 _ e_.symm).2) rfl)) | exact (fun e_ => ((HL399_0.out.1 _ e_.symm).2) rfl)))
     rw [← Ny400.out] at ho
     replace BK393 := zM (cU (g := gb393) (o := .cells #[.slice A0_0 l0_0.length c0_0, .slice (some ad397) l0_1.length c0_1] 67 (0, 0)) (zK BK393.out) hg (Kd.R_ne HL399_0.out BK393.out (by decide)))
     replace BK398 := zM (cU (g := gb398) (o := .cells #[.int .i64 ((aa l0_1 x15_1).f0), .int .i64 ((aa l0_1 x15_1).f1)] 63 (0, 0)) (zK BK398.out) hg (Kd.R_ne HL399_0.out BK398.out (by decide)))
     replace HB := zM (hb)
     replace HH26 := zM (Kd.H_grown (Kd.H_widen (by repeat (first | exact HH26.out | refine Kd.H_alloc ?_ _ | refine Kd.H_drewN ?_ _ | refine Kd.H_drew ?_))) hg (fun k_ e_ => .inl (UU26.out.1 k_ e_)))
     have HO402 := zM (ho)
     clear HO_3 UU26 HL399_0
     clear ho hb hg hat
     have p15 : 0 ≤ (((aa l0_1 x15_1).f0) : Int) := ac zA
     have q15 : (((aa l0_1 x15_1).f0) : Int) < ((x3_1.length : Int) : Int) := ac zA
     replace p15 := eq_true p15
     replace q15 := eq_true q15
     obtain ⟨Ao30, co30, eo30⟩ := Kd.R_slice HO402.out
     (first | subst eo30 | (injection eo30 with f1_ f2_ f3_; have f4_ := f1_.symm; have f5_ := f3_.symm; clear f1_ f2_ f3_; subst f4_; subst f5_))
     obtain ⟨_, _, hraw28, _, _, hcc28, _⟩ := Kd.H_raw HH26.out (ac zA) (by have h_ : (((aa l0_1 x15_1).f0) : Int) < ((x3_1.length : Int) : Int) := ac zA; first | exact h_ | (have e_ := (HN26.out); omega) | simpa using h_)
     obtain ⟨_, hfr28⟩ := Kd.H_at HH26.out (ac zA) (by have h_ : (((aa l0_1 x15_1).f0) : Int) < ((x3_1.length : Int) : Int) := ac zA; first | exact h_ | (have e_ := (HN26.out); omega) | simpa using h_)
     have hx28_0 := hcc28 0 _ rfl
     have hf28_0 := hfr28 0
     (try simp only [Nat.add_zero] at hx28_0 hf28_0)
     (try rw [show ((Kd.slice 3 (Kd.int .i64))).sz = 1 from rfl, Nat.mul_one] at hx28_0)
     (try rw [show ((Kd.slice 3 (Kd.int .i64))).sz = 1 from rfl, Nat.mul_one] at hf28_0)
     have HP28 := Kd.S_seg0 HH26.out (ac zA) (by have h_ : (((aa l0_1 x15_1).f0) : Int) < ((x3_1.length : Int) : Int) := ac zA; first | exact h_ | (have e_ := (HN26.out); omega) | simpa using h_) (seg := [.slice Ao30 y400.length co30]) (j := 0) (show 1 ≤ 1 from by decide) (x' := y400) (Kd.M_row HO402.out) (fun _ hk => hk)
     (try simp only [show ((Kd.slice 3 (Kd.int .i64))).sz = 1 from rfl, Nat.mul_one, Nat.add_zero] at HP28)
     clear hcc28 hfr28
     have HNB393_go26 := zM (show gb393 ≠ go26 from by have h_ := Kd.R_ne hraw28 BK393.out (by decide); intro e_; exact h_ (by rw [e_]; rfl))
     have HNB398_go26 := zM (show gb398 ≠ go26 from by have h_ := Kd.R_ne hraw28 BK398.out (by decide); intro e_; exact h_ (by rw [e_]; rfl))
     have HS28 := HP28.1
     rw [← Ny403.out] at HS28
     have HQ28 := Aside0.mk HS28
     obtain ⟨_, hgg28⟩ := Kd.R_typed hraw28 go26 rfl
     have GG28_ := Aside0.mk hgg28
     clear HP28 HS28 hgg28
     refine hK.out _ _ ⟨(ah BK398.out 0).trans rfl, (ah BK398.out 1).trans rfl, HS2_⟩ (fun hHeld => ?_)
     clear hK K
     refine zn 30 ?_
     refine zp HT_ 12 31 ?_
     refine jj (i := 13) (N := none) #[true, true, true, true, true, true, true, true, true, true, true, true, true, true] rfl rfl (bu HT_.out (by kernel_rfl)) (by decide) (fun K hK => ?_)
     refine i4 (w1 := ?_) (by rfl) rfl ?_ ?_
     rotate_left
     · go_simp
       rfl
     refine hK.out _ _ ?_
     clear hK K
     refine zo HT_ ?_
     try go_wp2
     have n0_ : Aside0 (Kd.S (Kd.slice 3 (Kd.int .i64)) 25 (w27.setCell ⟨go26, (((aa l0_1 x15_1).f0) : Int).toNat, none⟩ (.slice Ao30 y400.length co30)) w.heap.size (fun _ => True) (.slice (some ⟨go26, 0, none⟩) x3_1.length co25) y403) := ⟨by (with_reducible repeat (first | apply Kd.S_alloc | apply Kd.S_drewN | apply Kd.S_drew)); exact HQ28.out⟩
     have n1_ : Aside0 ((w27.setCell ⟨go26, (((aa l0_1 x15_1).f0) : Int).toNat, none⟩ (.slice Ao30 y400.length co30)).heap[gb393]? = some (.cells #[.slice A0_0 l0_0.length c0_0, .slice (some ad397) l0_1.length c0_1] 67 (0, 0))) := ⟨by (with_reducible repeat (first | refine ay ?_ _ | refine aq ?_ | refine aw ?_ _)); refine bG ?_ HNB393_go26.out _; (with_reducible repeat (first | refine ay ?_ _ | refine aq ?_ | refine aw ?_ _)); exact BK393.out⟩
     have n2_ : Aside0 ((w27.setCell ⟨go26, (((aa l0_1 x15_1).f0) : Int).toNat, none⟩ (.slice Ao30 y400.length co30)).heap[gb398]? = some (.cells #[.int .i64 ((aa l0_1 x15_1).f0), .int .i64 ((aa l0_1 x15_1).f1)] 63 (0, 0))) := ⟨by (with_reducible repeat (first | refine ay ?_ _ | refine aq ?_ | refine aw ?_ _)); refine bG ?_ HNB398_go26.out _; (with_reducible repeat (first | refine ay ?_ _ | refine aq ?_ | refine aw ?_ _)); exact BK398.out⟩
     have n3_ : Aside0 (Below w.heap.size w (w27.setCell ⟨go26, (((aa l0_1 x15_1).f0) : Int).toNat, none⟩ (.slice Ao30 y400.length co30))) := ⟨zB⟩
     (try clear HO_3)
     (try clear BK393)
     (try clear BK398)
     (try clear HB)
     generalize (w27.setCell ⟨go26, (((aa l0_1 x15_1).f0) : Int).toNat, none⟩ (.slice Ao30 y400.length co30)) = w31 at n0_ n1_ n2_ n3_ ⊢
     have HO_3 := n0_
     have BK393 := n1_
     have BK398 := n2_
     have HB := n3_
     clear n0_ n1_ n2_ n3_
     replace HO_3 := zM (Kd.S_drew HO_3.out)
     replace BK393 := zM (aq BK393.out)
     replace BK398 := zM (aq BK398.out)
     replace HB := zM (aD HB.out)
     have p404 : 0 ≤ (((aa l0_1 x15_1).f1) : Int) := ac zA
     have q404 : ((aa l0_1 x15_1).f1) < (y403.length : Int) := (by have h_ : (((aa l0_1 x15_1).f1) : Int) < ((x3_1.length : Int) : Int) := ac zA; first | (have e_ := (Kd.S_reads' HO_3.out).1; omega) | simpa only [Ny403.out, List.length_set] using h_)
     have ql404 : ((((aa l0_1 x15_1).f1) : Int) < ((x3_1.length : Int) : Int)) = True := eq_true (ac zA)
     obtain ⟨ad404, A404_0, c404_0, e404, hx404_0, hl404_0, hi404_0⟩ := ee (Kd.S_reads' HO_3.out).2.2 ((aa l0_1 x15_1).f1) p404 q404
     obtain rfl : (⟨go26, 0, none⟩ : Addr) = ad404 := (by injection e404)
     obtain ⟨ce404, hce404, hMe404, hcc404⟩ := Kd.S_get HO_3.out [] ((aa l0_1 x15_1).f1) p404 (by first | exact q404 | exact ac zA | (have e_ := (Kd.S_reads' HO_3.out).1; omega))
     obtain ⟨ve404_0, rfl, ge404_0⟩ := hMe404
     have hv404_0 := hcc404 0 _ rfl
     rw [Nat.add_zero, show ((Kd.slice 3 (Kd.int .i64))).sz = 1 from rfl, Nat.mul_one] at hv404_0
     replace hv404_0 := ap (hv404_0.symm.trans hx404_0)
     rw [hv404_0] at ge404_0
     have HL404_0 := zM (show Kd.R (Kd.int .i64) 3 _ _ _ _ (ai y403 ((aa l0_1 x15_1).f1)) from ge404_0)
     clear hv404_0 ge404_0
     have HX404_0 := Aside0.mk hx404_0
     clear hcc404 hce404
     (first | simp only [ca] at hx404_0 | simp only [dI] at hx404_0 | simp only [Addr.add, Nat.zero_add] at hx404_0 | skip)
     have HR404_0 := Aside0.mk hi404_0
     have HC404_0 := Aside0.mk hl404_0
     clear hi404_0 hl404_0
     replace p404 := eq_true p404
     replace q404 := eq_true q404
     obtain ⟨oki33, ce33, hcl33, hM33, hcc33, _, _, hH33⟩ := Kd.S_elem HO_3.out [] (((aa l0_1 x15_1).f1) : Int) (ac zA) (by have h_ : (((aa l0_1 x15_1).f1) : Int) < ((x3_1.length : Int) : Int) := ac zA; first | exact h_ | (have e_ := (Kd.S_reads' HO_3.out).1; omega) | simpa using h_)
     obtain ⟨ve33_0, rfl, ge33_0⟩ := hM33
     have hv33 := hcc33 0 _ rfl
     have hX33 := HX404_0.out
     (try simp only [ca] at hX33)
     (try simp only [Nat.add_zero] at hv33)
     (try rw [show ((Kd.slice 3 (Kd.int .i64))).sz = 1 from rfl, Nat.mul_one] at hv33)
     replace hv33 := ap (hv33.symm.trans hX33)
     subst hv33
     clear hX33 hcc33 hcl33
     have UU33 := zM (show Kd.R (Kd.int .i64) 3 _ w.heap.size oki33 (.slice A404_0 (ai y403 ((aa l0_1 x15_1).f1)).length c404_0) (ai y403 ((aa l0_1 x15_1).f1)) from ge33_0)
     have HH33 := Aside0.mk hH33
     have HN33 := zM (Kd.S_reads' HO_3.out).1
     clear hH33 ge33_0
     refine g8 (n := 14) (S := fun w' => w'.cell? ⟨gb398, 0, none⟩ = some (.int .i64 ((aa l0_1 x15_1).f0)) ∧ w'.cell? ⟨gb398, 1, none⟩ = some (.int .i64 ((aa l0_1 x15_1).f1)) ∧ w'.cell? ⟨go26, (((aa l0_1 x15_1).f1)).toNat, none⟩ = some (.slice A404_0 (ai y403 ((aa l0_1 x15_1).f1)).length c404_0)) (ds := [13]) #[false, false, false, false, false, false, false, false, false, false, false, false, false, false] (by kernel_rfl) rfl rfl ⟨(ah BK398.out 0).trans rfl, (ah BK398.out 1).trans rfl, hx404_0⟩ (fun hHeld => ?_); refine aX rN rR (fun HT_ HW_ => ?_)
     generalize w31.drew = w32 at HO_3 BK393 BK398 HB HH33 HL404_0 HQ28 HR404_0 HX404_0 UU33 hx404_0 hHeld ⊢
     refine zp HT_ 0 32 ?_
     refine zp HT_ 1 33 ?_
     refine zp HT_ 3 35 ?_
     refine zp HT_ 4 36 ?_
     refine zp HT_ 8 40 ?_
     refine zt HT_ HW_ 2 34 hHeld ?_ (hy := by rintro w' ⟨s0, s1, s2⟩; go_simp; with_reducible rfl)
     refine zt HT_ HW_ 5 37 hHeld ?_ (hy := by rintro w' ⟨s0, s1, s2⟩; go_simp; with_reducible rfl)
     refine zp HT_ 6 38 ?_
     refine zt HT_ HW_ 7 39 hHeld ?_ (hy := by rintro w' ⟨s0, s1, s2⟩; go_simp; with_reducible rfl)
     refine zt HT_ HW_ 9 41 hHeld ?_ (hy := by rintro w' ⟨s0, s1, s2⟩; go_simp; with_reducible rfl)
     refine bz (i := 10) (N := some 42) #[true, true, true, true, true, true, true, true, true, true, true, false, false, false] rfl rfl (bu HT_.out (by kernel_rfl)) (by decide) (fun K hK => ?_)
     refine jK (w1 := ?_) (v := ?_) (by rfl) rfl ?_ ?_
     rotate_left 2
     · go_simp
       constructor
       · rfl
       · rfl
     refine hK.out _ _ ⟨(ah (aw BK398.out _) 0).trans rfl, (ah (aw BK398.out _) 1).trans rfl, (World.cell?_alloc_lt _ _ _ (aj _ _ (hHeld.2.2))).trans (hHeld.2.2)⟩ (fun hHeld => ?_)
     clear hK K
     refine zn 42 ?_
     refine bz (i := 11) (N := some 43) #[true, true, true, true, true, true, true, true, true, true, true, true, false, false] rfl rfl (bu HT_.out (by kernel_rfl)) (by decide) (fun K hK => ?_)
     refine Kd.R_append_step (Kd.int .i64) (w0 := w) w.heap.size (by rfl) (.tmp 39) (.tmp 42) 25 3 (.int .i64 0) 8 rfl Tryz.underlying25 bv rfl (by decide) (by omega) (.slice A404_0 (ai y403 ((aa l0_1 x15_1).f1)).length c404_0) (ai y403 ((aa l0_1 x15_1).f1)) ((aa l0_1 x15_1).f0) [.int .i64 ((aa l0_1 x15_1).f0)] (fun k_ => oki33 k_ ∨ ((fun _ => True)) k_ ∧ w32.heap.size ≤ k_) (fun _ => False) rfl rfl ?aP (fun _ hk => hk.elim) ?aF ?aO ?aB ?aS ?aL ?_
     (case aP => exact rfl)
     (case aB => exact zB)
     (case aF => exact (fun k_ hk => .inr ⟨trivial, hk⟩))
     (case aO => exact (by (with_reducible repeat (first | apply Kd.R_alloc | apply Kd.R_drewN | apply Kd.R_drew)); exact Kd.R_mono UU33.out (fun _ hk => .inl hk)))
     (case aS => exact (am zB))
     (case aL => have := LMc18.out; omega)
     intro v406 w34 ho hb hg hat
     (first | have HS2_ := Go.Proofs.YtjgcehldepfaaaaGreatW.PrintWords.cell_grown hg (hHeld.2.2) (by first | (rw [cV]; exact (fun e_ => ((HL404_0.out.1 _ e_.symm).2) rfl)) | (show some (Addr.add _ _).block ≠ _; rw [cV]; exact (fun e_ => ((HL404_0.out.1 _ e_.symm).2) rfl)) | exact (fun e_ => ((HL404_0.out.1 _ e_.symm).2) rfl)) | have HS2_ := Go.Proofs.YtjgcehldepfaaaaGreatW.PrintWords.cell_grown hg (nJ (hHeld.2.2) (by first | (rw [cV]; exact Kd.S_lt HO_3.out _ rfl) | (show (Addr.add _ _).block < _; rw [cV]; exact Kd.S_lt HO_3.out _ rfl) | exact Kd.S_lt HO_3.out _ rfl)) (by first | (rw [cV]; exact (fun e_ => ((HL404_0.out.1 _ e_.symm).2) rfl)) | (show some (Addr.add _ _).block ≠ _; rw [cV]; exact (fun e_ => ((HL404_0.out.1 _ e_.symm).2) rfl)) | exact (fun e_ => ((HL404_0.out.1 _ e_.symm).2) rfl)))
     rw [← Ny405.out] at ho
     replace BK393 := zM (cU (g := gb393) (o := .cells #[.slice A0_0 l0_0.length c0_0, .slice (some ad397) l0_1.length c0_1] 67 (0, 0)) (zK BK393.out) hg (Kd.R_ne HL404_0.out BK393.out (by decide)))
     replace BK398 := zM (cU (g := gb398) (o := .cells #[.int .i64 ((aa l0_1 x15_1).f0), .int .i64 ((aa l0_1 x15_1).f1)] 63 (0, 0)) (zK BK398.out) hg (Kd.R_ne HL404_0.out BK398.out (by decide)))
     replace HB := zM (hb)
     replace HH33 := zM (Kd.H_grown (Kd.H_widen (by repeat (first | exact HH33.out | refine Kd.H_alloc ?_ _ | refine Kd.H_drewN ?_ _ | refine Kd.H_drew ?_))) hg (fun k_ e_ => .inl (UU33.out.1 k_ e_)))
     have HO407 := zM (ho)
     clear HO_3 UU33 HL404_0
     clear ho hb hg hat
     have p19 : 0 ≤ (((aa l0_1 x15_1).f1) : Int) := ac zA
     have q19 : (((aa l0_1 x15_1).f1) : Int) < ((x3_1.length : Int) : Int) := ac zA
     replace p19 := eq_true p19
     replace q19 := eq_true q19
     obtain ⟨Ao37, co37, eo37⟩ := Kd.R_slice HO407.out
     (first | subst eo37 | (injection eo37 with f1_ f2_ f3_; have f4_ := f1_.symm; have f5_ := f3_.symm; clear f1_ f2_ f3_; subst f4_; subst f5_))
     obtain ⟨_, _, hraw35, _, _, hcc35, _⟩ := Kd.H_raw HH33.out (ac zA) (by have h_ : (((aa l0_1 x15_1).f1) : Int) < ((x3_1.length : Int) : Int) := ac zA; first | exact h_ | (have e_ := (HN33.out); omega) | simpa using h_)
     obtain ⟨_, hfr35⟩ := Kd.H_at HH33.out (ac zA) (by have h_ : (((aa l0_1 x15_1).f1) : Int) < ((x3_1.length : Int) : Int) := ac zA; first | exact h_ | (have e_ := (HN33.out); omega) | simpa using h_)
     have hx35_0 := hcc35 0 _ rfl
     have hf35_0 := hfr35 0
     (try simp only [Nat.add_zero] at hx35_0 hf35_0)
     (try rw [show ((Kd.slice 3 (Kd.int .i64))).sz = 1 from rfl, Nat.mul_one] at hx35_0)
     (try rw [show ((Kd.slice 3 (Kd.int .i64))).sz = 1 from rfl, Nat.mul_one] at hf35_0)
     have HP35 := Kd.S_seg0 HH33.out (ac zA) (by have h_ : (((aa l0_1 x15_1).f1) : Int) < ((x3_1.length : Int) : Int) := ac zA; first | exact h_ | (have e_ := (HN33.out); omega) | simpa using h_) (seg := [.slice Ao37 y405.length co37]) (j := 0) (show 1 ≤ 1 from by decide) (x' := y405) (Kd.M_row HO407.out) (fun _ hk => hk)
     (try simp only [show ((Kd.slice 3 (Kd.int .i64))).sz = 1 from rfl, Nat.mul_one, Nat.add_zero] at HP35)
     clear hcc35 hfr35
     have HNB393_go26 := zM (show gb393 ≠ go26 from by have h_ := Kd.R_ne hraw35 BK393.out (by decide); intro e_; exact h_ (by rw [e_]; rfl))
     have HNB398_go26 := zM (show gb398 ≠ go26 from by have h_ := Kd.R_ne hraw35 BK398.out (by decide); intro e_; exact h_ (by rw [e_]; rfl))
     have HS35 := HP35.1
     rw [← Ny408.out] at HS35
     have HQ35 := Aside0.mk HS35
     obtain ⟨_, hgg35⟩ := Kd.R_typed hraw35 go26 rfl
     have GG35_ := Aside0.mk hgg35
     clear HP35 HS35 hgg35
     refine hK.out _ _ ⟨(ah BK398.out 0).trans rfl, (ah BK398.out 1).trans rfl, HS2_⟩ (fun hHeld => ?_)
     clear hK K
     refine zn 43 ?_
     refine zp HT_ 12 44 ?_
     refine jj (i := 13) (N := none) #[true, true, true, true, true, true, true, true, true, true, true, true, true, true] rfl rfl (bu HT_.out (by kernel_rfl)) (by decide) (fun K hK => ?_)
     refine i4 (w1 := ?_) (by rfl) rfl ?_ ?_
     rotate_left
     · go_simp
       rfl
     refine hK.out _ _ ?_
     clear hK K
     refine zo HT_ ?_
     try go_wp2
     go_roundg k1
     case measure => have := HK1.out; omega
     case rel => exact ⟨(y408), (wrap64 (x15_1 + 1)), (by first | rfl | (simp; done) | (simp [*]; done)), H', ⟨by have := HK1.out; omega⟩, ⟨by (with_reducible repeat (first | apply Kd.S_alloc | apply Kd.S_drewN | apply Kd.S_drew)); exact HQ35.out⟩, ⟨by (with_reducible repeat (first | refine ay ?_ _ | refine aq ?_ | refine aw ?_ _)); refine bG ?_ HNB393_go26.out _; (with_reducible repeat (first | refine ay ?_ _ | refine aq ?_ | refine aw ?_ _)); exact BK393.out⟩, ⟨zB⟩⟩
   · rw [if_neg c9] at H
     have c9b0 : decide (x15_1 < (l0_1.length : Int)) = false := ao c9
     clear c9
     have e_ := ap H
     clear H
     have HO := HO_3.out
     rw [e_] at HO
     clear HO_3 e_
     have HQ := HB
     clear HB HK1
     (try clear BK393)
     obtain ⟨Ar, cr, er⟩ := Kd.S_slice HO
     subst er
     have HO0 := Aside0.mk HO
     clear HO
     have HL := Aside0.mk (show r0.length ≤ 9223372036854775807 by
       obtain ⟨A', c', _, _, hc⟩ := Kd.S_reads HO0.out
       exact hc.2.1)
     go_wp2
     go_loopg [48] (r0.length + 1) (fun kq v48 w' => ∃ (m : Nat) (done : List (List Int)), v48 = .int .i64 m ∧ Aside0 (m ≤ r0.length) ∧ Aside0 (kq = r0.length - m + 1) ∧ Aside0 (done.length = m) ∧ Aside0 (∃ t, dl (r0.drop m) = some t ∧ done ++ t = r) ∧ Aside0 (Kd.S (Kd.slice 3 (Kd.int .i64)) 25 w' w.heap.size (fun _ => True) (.slice Ar r0.length cr) (done ++ r0.drop m)) ∧ Aside0 (Below w.heap.size w w'))
     case atStart => exact ⟨0, [], rfl, ⟨Nat.zero_le _⟩, ⟨by omega⟩, ⟨rfl⟩, ⟨by rw [List.drop_zero]; exact ⟨r, HSORT.out, rfl⟩⟩, ⟨by rw [List.drop_zero]; exact HO0.out⟩, HQ⟩
     case round =>
       clear HO0 HQ HSORT
       obtain ⟨m, done, rfl, HM, HK1, HD, HA, HO, HB⟩ := hrel
       have HN := Aside0.mk (show (done ++ r0.drop m).length = r0.length by rw [List.length_append, List.length_drop, HD.out]; have := HM.out; omega)
       by_cases c1 : m < r0.length
       · have q1 : (m : Int) < (r0.length : Int) := by omega
         obtain ⟨g, cap, eg, gb, gl, HG⟩ := Kd.S_form HO.out (by rw [HN.out]; omega)
         rw [HN.out] at eg
         injection eg with eA _ ec
         subst eA; subst ec
         obtain ⟨oki, cs, hcl, hM, hcc, hoki, HH⟩ := Kd.S_lend HO.out ([] : List Int) (m : Int) (by omega) q1
         obtain ⟨v, rfl, hR⟩ := hM
         have hrow : (done ++ r0.drop m).getD (m : Int).toNat [] = r0[m] := by
           rw [Int.toNat_natCast, List.getD_eq_getElem?_getD, List.getElem?_append_right (by rw [HD.out]; exact ar _), HD.out, Nat.sub_self, List.getElem?_drop, Nat.add_zero, List.getElem?_eq_getElem c1, Option.getD_some]
         rw [hrow] at hR
         have hx0 := hcc 0 _ rfl
         rw [Int.toNat_natCast, show (Kd.slice 3 (Kd.int .i64)).sz = 1 from rfl, Nat.mul_one, Nat.add_zero] at hx0
         obtain ⟨t0, ht0, hdt⟩ := HA.out
         rw [List.drop_eq_getElem_cons c1] at ht0
         obtain ⟨a0, t1, hf, ht1, rfl⟩ := pc ht0
         have HF := Aside0.mk hf
         have HRo := Aside0.mk hR
         have HHo := Aside0.mk HH
         have HOk := Aside0.mk hoki
         have HE := Aside0.mk (lM done r0 m HD.out c1 a0)
         have H2 : Aside0 (∃ t, dl (r0.drop (m + 1)) = some t ∧ (done ++ [a0]) ++ t = r) := ⟨t1, ht1, by rw [List.append_assoc, List.singleton_append]; exact hdt⟩
         obtain ⟨Av, cv, ev⟩ := Kd.R_slice hR
         subst ev
         generalize r0[m] = row at HF HRo hx0 HHo
         clear HA hcc hcl gl HG gb hR HH hoki hf hrow ht0 ht1 hdt
         have c1b : decide ((m : Int) < (r0.length : Int)) = true := af q1
         have c1c : decide (m < r0.length) = true := af c1
         have p1 : (0 : Int) ≤ (m : Int) := by omega
         have hw1 : (m : Int) + 1 ≤ 9223372036854775807 := by have := HL.out; omega
         replace p1 := eq_true p1
         replace q1 := eq_true q1
         clear c1
         go_wp2_with (go_at_call 60; refine (lH oki _ row a0 w wr HB.out HRo.out HF.out).mono ?_; rintro e w2 ⟨rfl, hy, hb, hkp⟩; have HS := Aside0.mk (Kd.H_back (Kd.H_kept HHo.out hkp (fun _ _ hn => hn)) (x' := a0) ⟨_, rfl, Kd.R_reok rfl hy (fun k_ e_ => HRo.out.1 k_ e_)⟩ (fun _ hk => hk)); have HB2 := Aside0.mk hb; clear hy hb hkp)
         go_roundg (r0.length - m)
         case measure => have := HK1.out; have := HM.out; omega
         case rel => exact ⟨m + 1, done ++ [a0], by first | rfl | (simp; done) | go_num, ⟨by have := of_eq_true q1; omega⟩, ⟨by have := of_eq_true q1; omega⟩, ⟨by rw [List.length_append, HD.out]; rfl⟩, H2, ⟨by rw [← HE.out]; rw [← Int.toNat_natCast m]; exact HS.out⟩, HB2⟩
       · have q1 : ¬ (m : Int) < (r0.length : Int) := by omega
         have c1b : decide ((m : Int) < (r0.length : Int)) = false := ao q1
         have c1c : decide (m < r0.length) = false := ao c1
         have H3 : Aside0 (done ++ r0.drop m = r) := ⟨by
           obtain ⟨t, ht, hd⟩ := HA.out
           rw [List.drop_eq_nil_of_le (show r0.length ≤ m by omega)] at ht ⊢
           rw [← hd, ap (show some [] = some t from ht)]⟩
         clear HA c1 q1
         go_wp2
         go_ret
         exact ⟨_, rfl, by rw [← H3.out]; exact HO.out, HB.out⟩
def js (k : Nat) (l0_0 : List (List Int)) (l0_1 : List (S63)) : Option (List (List Int)) := (kr k l0_0 l0_1).bind dl
theorem rQ (k : Nat) (A0_0 : Option Addr) (c0_0 : Nat) (l0_0 : List (List Int)) (A0_1 : Option Addr) (c0_1 : Nat) (l0_1 : List (S63)) (r : List (List Int)) (w : World) (hr0_0 : Kd.C (Kd.slice 3 (Kd.int .i64)) w A0_0 l0_0.length l0_0) (hc0_0 : l0_0.length ≤ c0_0) (hr0_1 : Kd.C k63 w A0_1 l0_1.length l0_1) (hc0_1 : l0_1.length ≤ c0_1) (h : js k l0_0 l0_1 = some r) :
 Calls Tryz.prog 51 #[.agg #[.slice A0_0 l0_0.length c0_0, .slice A0_1 l0_1.length c0_1]] w fun e w' => ∃ v0_ : Value, e = .returned (v0_) ∧ Kd.S (Kd.slice 3 (Kd.int .i64)) 25 w' w.heap.size (fun _ => True) v0_ r ∧ Below w.heap.size w w' := by
  obtain ⟨r0, h1, h2⟩ := av h
  exact rP k A0_0 c0_0 l0_0 A0_1 c0_1 l0_1 r0 r w hr0_0 hc0_0 hr0_1 hc0_1 h1 h2
open Go.Sort (SWO Holds PermIn SortedIn putRow putCells mapBlock onCells sorted_unique_holds)
theorem uA {α : Type} {d : Kd α} {e : Nat} {w : World} {base : Nat} {ok : Nat → Prop} {v : Value} {f : Nat → Nat} {zs : List (α × Nat)} (h : (Kd.tag f d).R e w base ok v zs) (hn : (zs.map Prod.snd).Nodup) : Kd.S d e w base ok v (zs.map Prod.fst) := by
 obtain ⟨h0, inner, ho, hr⟩ := h
 refine ⟨fun b => (zs.map Prod.snd).idxOf (f b), h0, inner, by rw [List.length_zipIdx, List.length_map]; exact ho, by rw [List.length_zipIdx, List.length_map]; exact hr.1, fun j p hj => ?_⟩
 rw [List.getElem?_zipIdx, Nat.zero_add] at hj
 obtain ⟨x, hx, rfl⟩ := Option.map_eq_some_iff.1 hj
 rw [List.getElem?_map] at hx
 obtain ⟨z, hz, rfl⟩ := Option.map_eq_some_iff.1 hx
 refine d.M_mono (fun b hb => ⟨hb.1, ?_⟩) (hr.2 j z hz)
 have h2 : f b = z.2 := hb.2
 show (zs.map Prod.snd).idxOf (f b) = j
 obtain ⟨hlt, he⟩ := List.getElem?_eq_some_iff.1 hz
 have e2 : (zs.map Prod.snd)[j]'(by rw [List.length_map]; exact hlt) = z.2 := by rw [List.getElem_map, he]
 rw [h2, ← e2]
 exact hn.idxOf_getElem j _
section
variable {α : Type} [Inhabited α] (enc : α → Value)
theorem sk {w : World} {g n : Nat} {os : Array Obj} {cur : Array Value} {e : TypeId} {fr : Nat × Nat} (d : Array α) (hb : w.heap[g]? = some (.cells cur e fr)) :
  (Sort.grow (putRow enc (Sort.ahead w n) g 0 d) os).heap[g]? = some (.cells (putCells enc 0 d cur) e fr) := by
 have hg : g < w.heap.size := (Array.getElem?_eq_some_iff.1 hb).1
 rw [Sort.heap_grow_old _ _ (by simpa using hg)]
 simp [putRow, mapBlock, Sort.ahead, Array.getElem?_modify, hb, onCells]
theorem nq {w : World} {g n : Nat} {os : Array Obj} (d : Array α) : w.grownBy (Sort.grow (putRow enc (Sort.ahead w n) g 0 d) os) (some g) := by
 refine ⟨rfl, rfl, rfl, by simp, fun k hk hne => ?_⟩
 rw [Sort.heap_grow_old _ _ (by simpa using hk)]
 have : g ≠ k := fun e => hne (by rw [e])
 simp [putRow, mapBlock, Sort.ahead, Array.getElem?_modify, this]
theorem ow (cur : Array Value) (ts : List α) (h : ts.length ≤ cur.size) : (putCells enc 0 ts.toArray cur).toList.take ts.length = ts.map enc := by
 apply List.ext_getElem?
 intro j
 by_cases hj : j < ts.length
 · rw [List.getElem?_take_of_lt hj, Array.getElem?_toList]
   simp [putCells, hj, show j < cur.size by omega]
 · rw [List.getElem?_take_eq_none (by omega), List.getElem?_eq_none (by simp; omega)]
theorem qn {w : World} {base g cap n m : Nat} {e : TypeId} {os : Array Obj} {cur : Array Value} {ts : List α} (hl : ts.length = m) (hbase : base ≤ g) (hb : w.heap[g]? = some (.cells cur e (0, 0)))
  (h1 : m ≤ cap) (h2 : cap ≤ maxLen) (h3 : cur.size = cap * 1) :
  (Sort.grow (putRow enc (Sort.ahead w n) g 0 ts.toArray) os).ownsRow base e 1 (.slice (some ⟨g, 0, none⟩) m cap) m (ts.map enc) :=
 ⟨by simp [hl], .inr ⟨g, cap, _, rfl, hbase, sk enc _ hb, h1, h2, by simp [putCells, h3], by rw [Nat.mul_one, ← hl]; exact ow enc cur ts (by omega)⟩⟩
end
theorem tj {n : Nat} (hn : 0 < n) [Inhabited (Fin n)] (j : Nat) (hj : j < n) : ((List.finRange n).toArray)[j]! = ⟨j, hj⟩ := by
 rw [getElem!_pos _ j (by simpa using hj)]
 simp
def n3 (g : Nat) (cf : List Int → List Int → Int) : Prop :=
 ∀ (W : World) (x y : List Int) (A B : Option Addr) (c c' : Nat), Kd.C (Kd.int .i64) W A x.length x → x.length ≤ c → Kd.C (Kd.int .i64) W B y.length y → y.length ≤ c' →
  Calls Tryz.prog g #[.slice A x.length c, .slice B y.length c'] W fun e w' => e = .returned (.int .i64 (cf x y)) ∧ ∃ q os, w' = Sort.grow (W.drewN q) os
set_option maxHeartbeats 2000000 in
theorem pg {ρ ρ' : Shelf.Ren} (L : SlLaysF.n6 Tryz.prog ρ) (L0 : SlLaysF0.n6 Tryz.prog ρ') (F : Nat) (e1 : ρ.f 6 = F) (e2 : ρ'.f 6 = F) (cf : List Int → List Int → Int) (hO : SWO (ltOf cf)) (hT : ∀ x y, ltOf cf x y = false → ltOf cf y x = false → x = y) (g : Nat)
   (eg : ∀ (args : Array Value) (w : World), (callFunc g args).run Tryz.prog w = .ok (.enter g args) w) (hcmp : n3 g cf)
   (P0_ : Nat → Prop) (u9000_ : Value) (l0 : List (List Int)) (w0 w : World) (hB : Below w0.heap.size w0 w) (ho0 : Kd.S (Kd.slice 3 (Kd.int .i64)) 25 w w0.heap.size P0_ u9000_ l0) (hlen : l0.length < 4611686018427387904) :
   Calls Tryz.prog F #[u9000_, .func (.func g) #[] #[]] w fun e w' => e = .returned (.tuple #[]) ∧ Kd.S (Kd.slice 3 (Kd.int .i64)) 25 w' w0.heap.size (fun k_ => (P0_ k_ ∨ w.heap.size ≤ k_)) u9000_ (l0.mergeSort fun x y => !ltOf cf y x) ∧ Below w0.heap.size w0 w' ∧ Kept w w' (fun k_ => P0_ k_) := by
 obtain ⟨f, h0, inner, hown, hr⟩ := ho0
 rw [List.length_zipIdx] at hown
 replace hown : w.ownsRow w0.heap.size 25 1 u9000_ l0.length inner := hown
 have hS : Kd.S (Kd.slice 3 (Kd.int .i64)) 25 w w0.heap.size P0_ u9000_ l0 := ⟨f, h0, inner, by rw [List.length_zipIdx]; exact hown, hr⟩
 by_cases hn : 0 < l0.length
 case neg =>
   have hnil : l0 = [] := List.eq_nil_of_length_eq_zero (by omega)
   subst hnil
   obtain ⟨A, c, rfl⟩ := Kd.S_slice hS
   rw [← e2]
   refine (AnyF.slices_SortFunc_none L0 A c _ w).mono ?_
   rintro e w' ⟨rfl, rfl⟩
   have e0 : ([] : List (List Int)).mergeSort (fun x y => !ltOf cf y x) = [] := by simp
   rw [e0]
   exact ⟨rfl, Kd.S_mono hS (fun k hk => .inl hk), hB, Kept.refl _ _⟩
 rcases hown.2 with ⟨hnil, hz⟩ | ⟨gb, cap, cur, rfl, hbase, hb, h1, h2, h3, h4⟩
 · exact absurd hz (by omega)
 haveI : Inhabited (Fin l0.length) := ⟨⟨0, hn⟩⟩
 have hin : inner.length = l0.length := by have h9 : inner.length = l0.zipIdx.length * 1 := hr.1; rw [List.length_zipIdx] at h9; omega
 have hgl : gb < w.heap.size := (Array.getElem?_eq_some_iff.1 hb).1
 obtain ⟨enc, henc⟩ : ∃ enc : Fin l0.length → Value, ∀ i, enc i = inner[i.val]'(by rw [hin]; exact i.isLt) := ⟨_, fun _ => rfl⟩
 have hrow : ∀ i : Fin l0.length, ∃ v, enc i = v ∧ Kd.R (Kd.int .i64) 3 w w0.heap.size (fun k => (P0_ k ∧ some k ≠ (Value.slice (some ⟨gb, 0, none⟩) l0.length cap).ownBlock) ∧ f k = i.val) v l0[i.val] := by
   intro i
   have h5 := hr.2 i.val (l0[i.val], i.val) (Kd.zip_at (List.getElem?_eq_getElem i.isLt))
   obtain ⟨v, hv, hR⟩ := h5
   refine ⟨v, ?_, hR⟩
   rw [henc i]
   have hl' : i.val < inner.length := by rw [hin]; exact i.isLt
   have h6 : (inner.drop (i.val * 1)).take 1 = [v] := hv
   rw [Nat.mul_one, List.drop_eq_getElem_cons hl', List.take_succ_cons] at h6
   injection h6
 have hone : OneCell enc := fun i => by
   obtain ⟨v, hv, hR⟩ := hrow i
   rw [hv]
   exact (Kd.R_val hR).2
 have hH : Holds enc w gb 0 (List.finRange l0.length).toArray := by
   intro j hj
   have hj' : j < l0.length := by simpa using hj
   refine ⟨?_, by simp [World.frozen?, hb]⟩
   rw [tj hn j hj', henc]
   have h5 : (cur.toList.take (l0.length * 1))[j]? = inner[j]? := by rw [h4]
   rw [Nat.mul_one, List.getElem?_take_of_lt hj', Array.getElem?_toList, List.getElem?_eq_getElem (by rw [hin]; exact hj')] at h5
   simp [World.cell?, hb, h5]
 have hcl : CmpLays1 Tryz.prog g #[] enc (fun i j => cf l0[i.val] l0[j.val]) gb 0 (List.finRange l0.length).toArray.size w := by
   intro m os dk _ x y
   obtain ⟨v, hv, hR⟩ := hrow x
   obtain ⟨u, hu, hQ⟩ := hrow y
   have hgr := nq enc (w := w) (g := gb) (n := m) (os := os) dk
   have hR2 := Kd.R_grown hR hgr (fun k hk => by have := hk.1.2; simpa [Value.ownBlock] using this)
   have hQ2 := Kd.R_grown hQ hgr (fun k hk => by have := hk.1.2; simpa [Value.ownBlock] using this)
   obtain ⟨A, c, rfl, hc, hC⟩ := Kd.R_reads hR2
   obtain ⟨B, c', rfl, hc', hC'⟩ := Kd.R_reads hQ2
   rw [hv, hu]
   exact hcmp _ _ _ A B c c' hC hc hC' hc'
 have hO' : SWO (ltOf (fun i j : Fin l0.length => cf l0[i.val] l0[j.val])) := ⟨fun x => hO.irrefl _, fun x y z => hO.trans _ _ _, fun x y z => hO.ntrans _ _ _⟩
 have hd : (List.finRange l0.length).toArray.size = l0.length := by simp
 have hcon := Any.slices_SortFunc L enc hone _ hO' g #[] gb 0 cap _ w eg hcl hH hgl (by rw [hd]; exact hlen)
 rw [hd, e1] at hcon
 refine hcon.mono ?_
 rintro e w' ⟨rfl, d', nn, os, hp, hs, rfl⟩
 have hgr := nq enc (w := w) (g := gb) (n := nn) (os := os) d'
 have hdl : d'.toList.length = l0.length := by rw [Array.length_toList, hp.1, hd]
 have hds : d'.size = l0.length := by rw [← Array.length_toList]; exact hdl
 have hperm : d'.toList.Perm (List.finRange l0.length) := by
   have h5 := hp.2.2
   rw [Array.extract_eq_self_of_le (by rw [← Array.length_toList, hdl]; exact ar _), Array.extract_eq_self_of_le (by rw [hd]; exact ar _)] at h5
   simpa using h5
 have hown2 : (sortWorld enc w gb 0 nn d' os).ownsRow w0.heap.size 25 1 (.slice (some ⟨gb, 0, none⟩) l0.length cap) l0.length (d'.toList.map enc) := by
   have := qn enc (w := w) (n := nn) (os := os) (ts := d'.toList) hdl hbase hb h1 h2 h3
   exact this
 have hmap : (d'.toList.map fun i => (l0[i.val], i.val)).map Prod.fst = d'.toList.map fun i => l0[i.val] := by rw [List.map_map]; rfl
 have hsorted : (d'.toList.map fun i => l0[i.val]) = l0.mergeSort fun x y => !ltOf cf y x := by
   have h6 := sorted_unique_holds hO hT l0.toArray (d'.toList.map fun i => l0[i.val]).toArray ?_ ?_
   · simpa using h6
   · refine ⟨by simpa using hdl, fun i hi => ?_, ?_⟩
     · rw [getElem!_neg _ i (by simp only [List.size_toArray, List.length_map]; simp only [List.size_toArray] at hi; omega), getElem!_neg _ i (by simp only [List.size_toArray] at hi ⊢; omega)]
     · rw [Array.extract_eq_self_of_le (by simp [hdl]), Array.extract_eq_self_of_le (ar _)]
       refine (hperm.map _).trans ?_
       have : (List.finRange l0.length).map (fun i => l0[i.val]) = l0 := by
        apply List.ext_getElem (by simp)
        intro j h1 h2
        simp
       rw [this]
   · intro i j _ hij hj
     have hj' : j < l0.length := by simpa using hj
     have h7 := hs i j (Nat.zero_le _) hij hj'
     rw [getElem!_pos (d'.toList.map fun i => l0[i.val]).toArray j (by rw [List.size_toArray, List.length_map, hdl]; exact hj'), getElem!_pos (d'.toList.map fun i => l0[i.val]).toArray i (by rw [List.size_toArray, List.length_map, hdl]; omega)]
     rw [getElem!_pos d' j (by rw [hds]; exact hj'), getElem!_pos d' i (by rw [hds]; omega)] at h7
     simp only [List.getElem_toArray, List.getElem_map, Array.getElem_toList]
     exact h7
 refine ⟨rfl, ?_, hB.grown hgr hB.size (fun k hk => by injection hk with hk; omega), Kept.of_grown hgr (Kept.refl w _) (fun k hk => .inl (h0 k hk))⟩
 rw [← hsorted, ← hmap]
 refine uA (f := f) ?_ ?_
 · refine ⟨fun k hk => .inl (h0 k hk), d'.toList.map enc, ?_, ?_, ?_⟩
   · rw [List.length_map, hdl]
     exact hown2
   · rw [List.length_map, List.length_map]
     show _ = _ * 1
     rw [Nat.mul_one]
   · intro j p hj
     rw [List.getElem?_map] at hj
     obtain ⟨i, hi, rfl⟩ := Option.map_eq_some_iff.1 hj
     obtain ⟨v, hv, hR⟩ := hrow i
     refine ⟨v, ?_, ?_⟩
     · have hj' : j < (d'.toList.map enc).length := by rw [List.length_map]; exact (List.getElem?_eq_some_iff.1 hi).1
       show ((d'.toList.map enc).drop (j * 1)).take 1 = [v]
       rw [Nat.mul_one, List.drop_eq_getElem_cons hj', List.take_succ_cons, List.getElem_map, (List.getElem?_eq_some_iff.1 hi).2, hv]
       rfl
     · exact Kd.R_mono (Kd.R_grown hR hgr (fun k hk => by have := hk.1.2; simpa [Value.ownBlock] using this)) (fun k hk => ⟨⟨.inl hk.1.1, hk.1.2⟩, hk.2⟩)
 · rw [List.map_map]
   refine (hperm.map _).nodup_iff.2 ?_
   have : ((List.finRange l0.length).map (Prod.snd ∘ fun i => (l0[i.val], i.val))) = List.range l0.length := by
     apply List.ext_getElem (by simp)
     intro j h1 h2
     simp
   rw [this]
   exact List.nodup_range
end Go.Proofs.YtjgcehldepfaaaaGreat.P
