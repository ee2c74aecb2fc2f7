-- Written by a program of this session (the kit's print, turned: wip/print/patch.py) out of the translation. Not trusted: Lean checks it.
import Derived.Test.YtadjbmcfgjmhkaaSlideSpaceG5
import Derived.Test.YtadjbmcfgjmhkaaSlideSpaceG11
import Derived.Test.YtadjbmcfgjmhkaaSlideSpaceG14
namespace Go.Proofs.Ytadjbmcfgjmhkaa.P
open Go.RowKit Go.Proofs.YtadjbmcfgjmhkaaW.PrintWords Go.Proofs.YtadjbmcfgjmhkaaW.PrintLast Go.Proofs.YtadjbmcfgjmhkaaW.PrintMore
attribute [local go_sem] max2_int min2_int max_two min_two max_three min_three max_four min_four   -- for this text's walks alone
set_option linter.unusedVariables false
set_option linter.unusedSimpArgs false

/-! ### spec_l3Space: function 55 -/
mutual
def spec_l3Space.l0 : Nat → Int → List (List Int) → Int → Int → List (S70) → List (List Int) → List (S70) → Option ((List (List Int)) × (List (S70)))
 | 0, _, _, _, _, _, _, _ => none
 | k + 1, x1, x2, x8, x502000, x502001, x507000, x507001 => if x8 < (x2.length : Int) then (spec_l3Space.l1 k x1 x2 x8 (wrap64 (x8 + 1)) x502000 x502001 x507000 x507001) else (some (x507000, x507001))
def spec_l3Space.l1 : Nat → Int → List (List Int) → Int → Int → Int → List (S70) → List (List Int) → List (S70) → Option ((List (List Int)) × (List (S70)))
 | 0, _, _, _, _, _, _, _, _ => none
 | k + 1, x1, x2, x8, x9, x502000, x502001, x507000, x507001 => if x9 < (x2.length : Int) then (if 0 ≤ x8 then (if x8 < (x2.length : Int) then (if 0 ≤ x9 then ((spec_l3Step.f k x502000 x502001 x1 (rd_L2 x2 x8) (rd_L2 x2 x9)).bind fun t509 => (if t509 = true then (if x507001.length < 8796093022208 then (spec_l3Space.l1 k x1 x2 x8 (wrap64 (x9 + 1)) x502000 x502001 x507000 (x507001 ++ [(⟨x8, x9⟩ : S70)])) else (none)) else (spec_l3Space.l1 k x1 x2 x8 (wrap64 (x9 + 1)) x502000 x502001 x507000 x507001))) else (none)) else (none)) else (none)) else (spec_l3Space.l0 k x1 x2 (wrap64 (x8 + 1)) x502000 x502001 x507000 x507001)
end
def spec_l3Space.f (k : Nat) (a0_0 : Int) (l0_1 : List (S70)) (a1 : Int) (l2 : List (List Int)) : Option ((List (List Int)) × (List (S70))) := spec_l3Space.l0 k a1 l2 0 a0_0 l0_1 l2 (([] : List (S70)))
def spec_l3Space.T8 : Bool × List (List Nat × List Nat) := (true, [([], []), ([], []), ([], []), ([], []), ([2, 3], [2, 3]), ([4], [4]), ([], []), ([], []), ([6, 7], [6, 7]), ([8], [8]), ([0, 1, 5, 9], [0, 1, 5, 9])])
def spec_l3Space.B8 : List Nat := [0, 0, 0, 0, 12, 28, 0, 0, 192, 448, 1023]
theorem spec_l3Space.tab8 : rtab .any (opsOf Try.f55 8) = spec_l3Space.T8 := by kernel_rfl
theorem spec_l3Space.bits8 : waitsOk spec_l3Space.T8.2 spec_l3Space.B8 = true := by kernel_rfl
set_option maxHeartbeats 8000000 in
set_option maxRecDepth 100000 in
theorem spec_l3Space.calls (k : Nat) (a0_0 : Int) (A0_1 : Option Addr) (c0_1 : Nat) (l0_1 : List (S70)) (a1 : Int) (P2_ : Nat → Prop) (A2 : Option Addr) (c2 : Nat) (l2 : List (List Int)) (r1 : List (List Int)) (r2 : List (S70)) (w : World) (hr0_1 : Kd.C k70 w A0_1 l0_1.length l0_1) (hc0_1 : l0_1.length ≤ c0_1) (hs2 : Kd.V (Kd.slice 3 (Kd.int .i64)) 39 w w.heap.size (fun k_ => P2_ k_) (.slice A2 l2.length c2) l2) (h : spec_l3Space.f k a0_0 l0_1 a1 l2 = some (r1, r2)) :
 Calls Try.prog 55 #[.agg #[.int .i64 a0_0, .slice A0_1 l0_1.length c0_1], .int .i64 a1, .slice A2 l2.length c2] w fun e w' => ∃ v0_ v1_ : Value, e = .returned (.agg #[v0_, v1_]) ∧ Kd.V (Kd.slice 3 (Kd.int .i64)) 39 w' w.heap.size (fun k_ => (P2_ k_ ∨ w.heap.size ≤ k_) ∧ some k_ ≠ (v1_ : Value).ownBlock) v0_ r1 ∧ Kd.R k70 70 w' w.heap.size (fun k_ => (w.heap.size ≤ k_)) v1_ r2 ∧ Below w.heap.size w w' := by
 have hu28 := Try.underlying28
 have hu46 := Try.underlying46
 have hu70 := Try.underlying70
 have HR0_1 := Aside0.mk hr0_1
 have HC0_1 := Aside0.mk hc0_1
 clear hr0_1 hc0_1
 have HO2 := zM (show Kd.V (Kd.slice 3 (Kd.int .i64)) 39 w w.heap.size (fun k_ => (P2_ k_ ∨ w.heap.size ≤ k_)) (.slice A2 l2.length c2) l2 from Kd.V_mono hs2 (fun k_ hk => .inl hk))
 have HB := zM (Below.refl w.heap.size w)
 have H : (spec_l3Space.l0 k a1 l2 0 a0_0 l0_1 l2 (([] : List (S70)))) = some (r1, r2) := h
 clear h
 obtain ⟨y503, hy503⟩ : ∃ y_ : List (S70), y_ = (([] : List (S70))) := ⟨_, rfl⟩
 replace H : (spec_l3Space.l0 k a1 l2 0 a0_0 l0_1 l2 y503) = some (r1, r2) := by first | (rw [hy503]; with_reducible exact H) | (have H2_ := (Option.bind_some _ _).symm.trans H; rw [hy503]; with_reducible exact H2_) | (have H2_ := (Option.bind_some _ _).symm.trans H; with_reducible exact H2_) | with_reducible exact H | (rw [hy503]; exact H) | exact H
 have Ny503 := Aside0.mk hy503
 clear hy503
 have H' := Aside0.mk H
 clear H
 go_enter Try.func55, Try.ntmps55
 go_wp2_with (first | ((with_reducible refine gate_dst (N := 3) rfl ?_); refine ze 3 #[.int .i64 a0_0, .slice A0_1 l0_1.length c0_1] 28 ?_; intro gb501 hg w4 hbox hb; replace HO2 := zM (Kd.V_below (Kd.V_elderB (by (with_reducible repeat (first | apply Kd.V_alloc | apply Kd.V_drewN | apply Kd.V_drew)); exact HO2.out) gb501 (Nat.le_of_eq hg.symm)) hb); have BK501 := zM (hbox); have GW501 := zM ((by rw [hg]; exact (below_size zB) : w.heap.size ≤ gb501)); have GE501 := zM ((by rw [hg]; exact (below_size zB) : w.heap.size ≤ gb501)); replace HB := zM (below_step zB hb); clear hb hbox hg) | ((with_reducible refine gate_dst (N := 6) rfl ?_); refine ze 6 #[.slice none 0 0, .slice none 0 0] 46 ?_; intro gb502 hg w5 hbox hb; replace HO2 := zM (Kd.V_below (Kd.V_elderB (by (with_reducible repeat (first | apply Kd.V_alloc | apply Kd.V_drewN | apply Kd.V_drew)); exact HO2.out) gb502 (Nat.le_of_eq hg.symm)) hb); have BK502 := zM (hbox); have GW502 := zM ((by rw [hg]; exact (below_size zB) : w.heap.size ≤ gb502)); have GE502 := zM ((by rw [hg]; exact (below_size zB) : w.heap.size ≤ gb502)); replace HB := zM (below_step zB hb); have NB501_502 := zM ((by rw [hg]; exact Nat.ne_of_lt (blk_lt (g := gb501) (o := .cells #[.int .i64 a0_0, .slice A0_1 l0_1.length c0_1] 28 (0, 0)) (zK BK501.out)) : gb501 ≠ gb502)); have NB502_501 := zM ((by rw [hg]; exact Nat.ne_of_gt (blk_lt (g := gb501) (o := .cells #[.int .i64 a0_0, .slice A0_1 l0_1.length c0_1] 28 (0, 0)) (zK BK501.out)) : gb502 ≠ gb501)); replace BK501 := zM (blk_below (g := gb501) (o := .cells #[.int .i64 a0_0, .slice A0_1 l0_1.length c0_1] 28 (0, 0)) (zK BK501.out) hb); clear hb hbox hg) | ((with_reducible refine gate_dst (N := 11) rfl ?_); refine Kd.R_lit k70 _ 70 ?hg (N := 11) ?hd (xs := ([] : List (S70))) (inner := []) (ok := fun _ => True) (okp := fun _ => True) ?hr ?hp (fun _ hk => hk) trivial (Below.refl _ _) (Nat.le_refl _) (by simp) ?_; (case hd => rfl); (case hg => rfl); (case hr => first | (go_simp; done) | (go_simp; rfl)); (case hp => exact (Reps.none _ _)); intro v504 w6 ho7 hb hg_ hnew_; clear hg_ hnew_; (first | rw [← Ny503.out] at ho7 | (simp only [Int.reduceToNat] at ho7; rw [← Ny503.out] at ho7)); replace HO2 := zM (Kd.V_elder' (by (with_reducible repeat (first | apply Kd.V_alloc | apply Kd.V_drewN | apply Kd.V_drew)); exact HO2.out) (Kd.R_base ho7) hb); have HO505 := zM (Kd.R_lower (Kd.R_newM (M := fun k_ => (w.heap.size ≤ k_)) ho7 (below_size zB) (fun k_ h_ => h_)) (below_size zB)); replace BK501 := zM (blk_below (g := gb501) (o := .cells #[.int .i64 a0_0, .slice A0_1 l0_1.length c0_1] 28 (0, 0)) (zK BK501.out) hb); replace BK502 := zM (blk_below (g := gb502) (o := .cells #[.slice none 0 0, .slice none 0 0] 46 (0, 0)) (zK BK502.out) hb); replace HB := zM (below_step zB hb); clear hb ho7; obtain ⟨Ao8, co8, eo8⟩ := Kd.R_slice HO505.out; subst eo8) | ((with_reducible refine gate_dst (N := 7) rfl ?_); refine ze 7 #[.slice none 0 0, .slice none 0 0] 46 ?_; intro gb506 hg w9 hbox hb; replace HO2 := zM (Kd.V_below (Kd.V_elderB (by (with_reducible repeat (first | apply Kd.V_alloc | apply Kd.V_drewN | apply Kd.V_drew)); exact HO2.out) gb506 (Nat.le_of_eq hg.symm)) hb); replace HO505 := zM (Kd.R_below (zR HO505.out) hb); have BK506 := zM (hbox); have GW506 := zM ((by rw [hg]; exact (below_size zB) : w.heap.size ≤ gb506)); have GE506 := zM ((by rw [hg]; exact (below_size zB) : w.heap.size ≤ gb506)); replace HB := zM (below_step zB hb); have NB501_506 := zM ((by rw [hg]; exact Nat.ne_of_lt (blk_lt (g := gb501) (o := .cells #[.int .i64 a0_0, .slice A0_1 l0_1.length c0_1] 28 (0, 0)) (zK BK501.out)) : gb501 ≠ gb506)); have NB506_501 := zM ((by rw [hg]; exact Nat.ne_of_gt (blk_lt (g := gb501) (o := .cells #[.int .i64 a0_0, .slice A0_1 l0_1.length c0_1] 28 (0, 0)) (zK BK501.out)) : gb506 ≠ gb501)); replace BK501 := zM (blk_below (g := gb501) (o := .cells #[.int .i64 a0_0, .slice A0_1 l0_1.length c0_1] 28 (0, 0)) (zK BK501.out) hb); have NB502_506 := zM ((by rw [hg]; exact Nat.ne_of_lt (blk_lt (g := gb502) (o := .cells #[.slice none 0 0, .slice none 0 0] 46 (0, 0)) (zK BK502.out)) : gb502 ≠ gb506)); have NB506_502 := zM ((by rw [hg]; exact Nat.ne_of_gt (blk_lt (g := gb502) (o := .cells #[.slice none 0 0, .slice none 0 0] 46 (0, 0)) (zK BK502.out)) : gb506 ≠ gb502)); replace BK502 := zM (blk_below (g := gb502) (o := .cells #[.slice none 0 0, .slice none 0 0] 46 (0, 0)) (zK BK502.out) hb); clear hb hbox hg; have hnb10 := NB506_501.out; have hnc10 := NB501_506.out; have hnb11 := NB506_502.out; have hnc11 := NB502_506.out; have hcz12_0 := zy BK506 0; have hcz12_1 := zy BK506 1; have hfz12_0 := blk_frozen BK506.out 0; have hfz12_1 := blk_frozen BK506.out 1))
 go_loopg [8] k (fun kq v8 w' => ∃ (x8_1 : Int) (x507001_1 : List (S70)) (u507001 : Value), v8 = .int .i64 x8_1 ∧ Aside0 (spec_l3Space.l0 kq a1 l2 x8_1 a0_0 l0_1 l2 x507001_1 = some (r1, r2)) ∧ Aside0 (kq ≤ k) ∧ Aside0 (Kd.V (Kd.slice 3 (Kd.int .i64)) 39 w' w.heap.size (fun k_ => (P2_ k_ ∨ w.heap.size ≤ k_) ∧ some k_ ≠ (u507001 : Value).ownBlock ∧ k_ ≠ gb501 ∧ k_ ≠ gb502 ∧ k_ ≠ gb506) (.slice A2 l2.length c2) l2) ∧ Aside0 (Kd.V (Kd.slice 3 (Kd.int .i64)) 39 w' w.heap.size (fun k_ => (P2_ k_ ∨ w.heap.size ≤ k_) ∧ some k_ ≠ (u507001 : Value).ownBlock ∧ k_ ≠ gb501 ∧ k_ ≠ gb502 ∧ k_ ≠ gb506) (.slice A2 l2.length c2) l2) ∧ Aside0 (Kd.R k70 70 w' w.heap.size (fun k_ => (w.heap.size ≤ k_)) u507001 x507001_1) ∧ Aside0 (w'.heap[gb501]? = some (.cells #[.int .i64 a0_0, (.slice A0_1 l0_1.length c0_1)] 28 (0, 0))) ∧ Aside0 (w'.heap[gb502]? = some (.cells #[(.slice none 0 0), (.slice none 0 0)] 46 (0, 0))) ∧ Aside0 (w'.heap[gb506]? = some (.cells #[(.slice A2 l2.length c2), u507001] 46 (0, 0))) ∧ Aside0 (Below w.heap.size w w'))
 case atStart => exact ⟨(0), (y503), (.slice Ao8 y503.length co8), (by first | rfl | (simp; done) | (simp [*]; done)), H', ⟨Nat.le_refl _⟩, ⟨by (with_reducible repeat (first | apply Kd.V_alloc | apply Kd.V_drewN | apply Kd.V_drew)); exact Kd.V_mono (Kd.V_far (p := ⟨gb506, 1, none⟩) (Kd.V_far (p := ⟨gb506, 0, none⟩) (Kd.V_mono HO2.out (fun k_ hk => (⟨hk, hk.2⟩ : _ ∧ k_ ≠ gb506))) (fun _ hk => hk.2) (.slice A2 l2.length c2)) (fun _ hk => hk.2) (.slice Ao8 y503.length co8)) (fun _ hk => ⟨hk.1.1.1.1.1, ⟨hk.1.1.2, ⟨hk.1.1.1.1.2, ⟨hk.1.1.1.2, hk.1.2⟩⟩⟩⟩)⟩, ⟨by (with_reducible repeat (first | apply Kd.V_alloc | apply Kd.V_drewN | apply Kd.V_drew)); exact Kd.V_mono (Kd.V_far (p := ⟨gb506, 1, none⟩) (Kd.V_far (p := ⟨gb506, 0, none⟩) (Kd.V_mono HO2.out (fun k_ hk => (⟨hk, hk.2⟩ : _ ∧ k_ ≠ gb506))) (fun _ hk => hk.2) (.slice A2 l2.length c2)) (fun _ hk => hk.2) (.slice Ao8 y503.length co8)) (fun _ hk => ⟨hk.1.1.1.1.1, ⟨hk.1.1.2, ⟨hk.1.1.1.1.2, ⟨hk.1.1.1.2, hk.1.2⟩⟩⟩⟩)⟩, ⟨by (with_reducible repeat (first | apply Kd.R_alloc | apply Kd.R_drewN | apply Kd.R_drew)); exact Kd.R_mono (Kd.R_far (p := ⟨gb506, 1, none⟩) (Kd.R_far (p := ⟨gb506, 0, none⟩) (Kd.R_types HO505.out BK506.out (by decide)) (fun _ hk => hk.2) (.slice A2 l2.length c2)) (fun _ hk => hk.2) (.slice Ao8 y503.length co8)) (fun _ hk => hk.1.1)⟩, ⟨by (with_reducible repeat (first | refine blk_drewN ?_ _ | refine blk_drew ?_ | refine blk_alloc ?_ _)); refine blk_far ?_ NB501_506.out _; (with_reducible repeat (first | refine blk_drewN ?_ _ | refine blk_drew ?_ | refine blk_alloc ?_ _)); refine blk_far ?_ NB501_506.out _; (with_reducible repeat (first | refine blk_drewN ?_ _ | refine blk_drew ?_ | refine blk_alloc ?_ _)); exact BK501.out⟩, ⟨by (with_reducible repeat (first | refine blk_drewN ?_ _ | refine blk_drew ?_ | refine blk_alloc ?_ _)); refine blk_far ?_ NB502_506.out _; (with_reducible repeat (first | refine blk_drewN ?_ _ | refine blk_drew ?_ | refine blk_alloc ?_ _)); refine blk_far ?_ NB502_506.out _; (with_reducible repeat (first | refine blk_drewN ?_ _ | refine blk_drew ?_ | refine blk_alloc ?_ _)); exact BK502.out⟩, ⟨by (with_reducible repeat (first | refine blk_drewN ?_ _ | refine blk_drew ?_ | refine blk_alloc ?_ _)); refine blk_put (cs := #[.slice A2 l2.length c2, .slice none 0 0]) ?_ 1 _ rfl; (with_reducible repeat (first | refine blk_drewN ?_ _ | refine blk_drew ?_ | refine blk_alloc ?_ _)); refine blk_put (cs := #[.slice none 0 0, .slice none 0 0]) ?_ 0 _ rfl; (with_reducible repeat (first | refine blk_drewN ?_ _ | refine blk_drew ?_ | refine blk_alloc ?_ _)); exact BK506.out⟩, ⟨zB⟩⟩
 case round =>
  clear H'
  try clear c1
  try clear c2
  try clear p2
  try clear c5
  try clear c10
  try clear c11
  try clear hcz12_0
  try clear hcz12_1
  try clear hfz12_0
  try clear hfz12_1
  obtain ⟨x8_1, x507001_1, u507001, rfl, HA, HK1, HO_2, HO_507000, HO_507001, BK501, BK502, BK506, HB⟩ := hrel
  cases gk with
  | zero => exact absurd HA.out (by simp [spec_l3Space.l0])
  | succ k1 =>
   have H := HA.out
   clear HA
   simp only [spec_l3Space.l0] at H
   by_cases c13 : x8_1 < (l2.length : Int)
   · rw [if_pos c13] at H
     have c13b0 := decide_eq_true c13
     clear c13
     have H' := Aside0.mk H
     clear H
     go_wp2
     go_loopg [9] k1 (fun kq v9 w' => ∃ (x9_2 : Int) (x507001_2 : List (S70)) (u507001 : Value), v9 = .int .i64 x9_2 ∧ Aside0 (spec_l3Space.l1 kq a1 l2 x8_1 x9_2 a0_0 l0_1 l2 x507001_2 = some (r1, r2)) ∧ Aside0 (kq ≤ k1) ∧ Aside0 (Kd.V (Kd.slice 3 (Kd.int .i64)) 39 w' w.heap.size (fun k_ => (P2_ k_ ∨ w.heap.size ≤ k_) ∧ some k_ ≠ (u507001 : Value).ownBlock ∧ k_ ≠ gb501 ∧ k_ ≠ gb502 ∧ k_ ≠ gb506) (.slice A2 l2.length c2) l2) ∧ Aside0 (Kd.V (Kd.slice 3 (Kd.int .i64)) 39 w' w.heap.size (fun k_ => (P2_ k_ ∨ w.heap.size ≤ k_) ∧ some k_ ≠ (u507001 : Value).ownBlock ∧ k_ ≠ gb501 ∧ k_ ≠ gb502 ∧ k_ ≠ gb506) (.slice A2 l2.length c2) l2) ∧ Aside0 (Kd.R k70 70 w' w.heap.size (fun k_ => (w.heap.size ≤ k_)) u507001 x507001_2) ∧ Aside0 (w'.heap[gb501]? = some (.cells #[.int .i64 a0_0, (.slice A0_1 l0_1.length c0_1)] 28 (0, 0))) ∧ Aside0 (w'.heap[gb502]? = some (.cells #[(.slice none 0 0), (.slice none 0 0)] 46 (0, 0))) ∧ Aside0 (w'.heap[gb506]? = some (.cells #[(.slice A2 l2.length c2), u507001] 46 (0, 0))) ∧ Aside0 (Below w.heap.size w w'))
     case atStart => exact ⟨(wrap64 (x8_1 + 1)), (x507001_1), (u507001), (by first | rfl | (simp; done) | (simp [*]; done)), H', ⟨Nat.le_refl _⟩, ⟨by (with_reducible repeat (first | apply Kd.V_alloc | apply Kd.V_drewN | apply Kd.V_drew)); exact HO_2.out⟩, ⟨by (with_reducible repeat (first | apply Kd.V_alloc | apply Kd.V_drewN | apply Kd.V_drew)); exact HO_507000.out⟩, ⟨zR HO_507001.out⟩, ⟨zK BK501.out⟩, ⟨zK BK502.out⟩, ⟨zK BK506.out⟩, ⟨zB⟩⟩
     case round =>
      clear H'
      try clear c1
      try clear c2
      try clear p2
      try clear c5
      try clear p6
      try clear c10
      try clear c11
      try clear c13
      try clear c13b0
      try clear hcz12_0
      try clear hcz12_1
      try clear hfz12_0
      try clear hfz12_1
      try clear p2
      obtain ⟨x9_2, x507001_2, u507001, rfl, HA, HK2, HO_2, HO_507000, HO_507001, BK501, BK502, BK506, HB⟩ := hrel
      cases gk with
      | zero => exact absurd HA.out (by simp [spec_l3Space.l1])
      | succ k2 =>
       have H := HA.out
       clear HA
       simp only [spec_l3Space.l1] at H
       by_cases c14 : x9_2 < (l2.length : Int)
       · rw [if_pos c14] at H
         have c14b0 := decide_eq_true c14
         clear c14
         by_cases c15 : 0 ≤ x8_1
         · rw [if_pos c15] at H
           have c15b0 := decide_eq_true c15
           clear c15
           by_cases c16 : x8_1 < (l2.length : Int)
           · rw [if_pos c16] at H
             have c16b0 := decide_eq_true c16
             clear c16
             by_cases c17 : 0 ≤ x9_2
             · rw [if_pos c17] at H
               have c17b0 := decide_eq_true c17
               clear c17
               replace H := Option.bind_eq_some_iff.mp H
               obtain ⟨t509, A180, H⟩ := H
               replace H : (if t509 = true then (if x507001_2.length < 8796093022208 then (spec_l3Space.l1 k2 a1 l2 x8_1 (wrap64 (x9_2 + 1)) a0_0 l0_1 l2 (x507001_2 ++ [(⟨x8_1, x9_2⟩ : S70)])) else (none)) else (spec_l3Space.l1 k2 a1 l2 x8_1 (wrap64 (x9_2 + 1)) a0_0 l0_1 l2 x507001_2)) = some (r1, r2) := H
               have A18 := Aside0.mk A180
               clear A180
               by_cases c19 : t509 = true
               · subst c19
                 have H1 : (if x507001_2.length < 8796093022208 then (spec_l3Space.l1 k2 a1 l2 x8_1 (wrap64 (x9_2 + 1)) a0_0 l0_1 l2 (x507001_2 ++ [(⟨x8_1, x9_2⟩ : S70)])) else (none)) = some (r1, r2) := by rw [if_pos rfl] at H; exact H
                 clear H
                 have H := H1
                 clear H1
                 by_cases c20 : x507001_2.length < 8796093022208
                 · rw [if_pos c20] at H
                   have LMc20 := Aside0.mk c20
                   clear c20
                   obtain ⟨y510, hy510⟩ : ∃ y_ : List (S70), y_ = (x507001_2 ++ [(⟨x8_1, x9_2⟩ : S70)]) := ⟨_, rfl⟩
                   replace H : (spec_l3Space.l1 k2 a1 l2 x8_1 (wrap64 (x9_2 + 1)) a0_0 l0_1 l2 y510) = some (r1, r2) := by first | (rw [hy510]; with_reducible exact H) | (have H2_ := (Option.bind_some _ _).symm.trans H; rw [hy510]; with_reducible exact H2_) | (have H2_ := (Option.bind_some _ _).symm.trans H; with_reducible exact H2_) | with_reducible exact H | (rw [hy510]; exact H) | exact H
                   have Ny510 := Aside0.mk hy510
                   clear hy510
                   have H' := Aside0.mk H
                   clear H
                   try go_wp2
                   replace HO_2 := zM (Kd.V_drew HO_2.out)
                   replace HO_507000 := zM (Kd.V_drew HO_507000.out)
                   replace HO_507001 := zM (Kd.R_drew HO_507001.out)
                   replace BK501 := zM (blk_drew BK501.out)
                   replace BK502 := zM (blk_drew BK502.out)
                   replace BK506 := zM (blk_drew BK506.out)
                   replace HB := zM (below_drew1 HB.out)
                   have p507 : 0 ≤ (x8_1 : Int) := of_decide_eq_true zA
                   have q507 : x8_1 < (l2.length : Int) := of_decide_eq_true zA
                   obtain ⟨ad507, A507_0, c507_0, e507, hx507_0, hl507_0, hi507_0⟩ := at_L2 (Kd.V_reads' HO_2.out).2.2 x8_1 p507 q507
                   cases e507
                   obtain ⟨ce507, hce507, hMe507, hcc507⟩ := Kd.V_get HO_2.out [] x8_1 p507 (by first | exact q507 | exact of_decide_eq_true zA | (have e_ := (Kd.V_reads' HO_2.out).1; omega))
                   obtain ⟨ua507_0, uc507_0, rfl, ul507_0, ge507_0⟩ := Kd.FK_slice_open hMe507
                   have hv507_0 := hcc507 0 _ rfl
                   rw [Nat.add_zero, show ((Kd.slice 3 (Kd.int .i64))).sz = 1 from rfl, Nat.mul_one] at hv507_0
                   replace hv507_0 := Option.some.inj (hv507_0.symm.trans hx507_0)
                   injection hv507_0 with hva_ hvn_ hvc_
                   rw [hva_] at ge507_0
                   rw [hvc_] at ul507_0
                   have HL507_0 := zM (show Kd.V (Kd.int .i64) 3 _ w.heap.size _ _ (rd_L2 l2 x8_1) from Kd.V_mk ul507_0 ge507_0)
                   clear hva_ hvn_ hvc_ ge507_0 ul507_0
                   clear hcc507 hce507
                   have HR507_0 := Aside0.mk hi507_0
                   have HC507_0 := Aside0.mk hl507_0
                   clear hi507_0 hl507_0
                   replace p507 := eq_true p507
                   replace q507 := eq_true q507
                   have p508 : 0 ≤ (x9_2 : Int) := of_decide_eq_true zA
                   have q508 : x9_2 < (l2.length : Int) := of_decide_eq_true zA
                   obtain ⟨ad508, A508_0, c508_0, e508, hx508_0, hl508_0, hi508_0⟩ := at_L2 (Kd.V_reads' HO_2.out).2.2 x9_2 p508 q508
                   obtain rfl : ad507 = ad508 := (by injection e508)
                   obtain ⟨ce508, hce508, hMe508, hcc508⟩ := Kd.V_get HO_2.out [] x9_2 p508 (by first | exact q508 | exact of_decide_eq_true zA | (have e_ := (Kd.V_reads' HO_2.out).1; omega))
                   obtain ⟨ua508_0, uc508_0, rfl, ul508_0, ge508_0⟩ := Kd.FK_slice_open hMe508
                   have hv508_0 := hcc508 0 _ rfl
                   rw [Nat.add_zero, show ((Kd.slice 3 (Kd.int .i64))).sz = 1 from rfl, Nat.mul_one] at hv508_0
                   replace hv508_0 := Option.some.inj (hv508_0.symm.trans hx508_0)
                   injection hv508_0 with hva_ hvn_ hvc_
                   rw [hva_] at ge508_0
                   rw [hvc_] at ul508_0
                   have HL508_0 := zM (show Kd.V (Kd.int .i64) 3 _ w.heap.size _ _ (rd_L2 l2 x9_2) from Kd.V_mk ul508_0 ge508_0)
                   clear hva_ hvn_ hvc_ ge508_0 ul508_0
                   clear hcc508 hce508
                   have HR508_0 := Aside0.mk hi508_0
                   have HC508_0 := Aside0.mk hl508_0
                   clear hi508_0 hl508_0
                   replace p508 := eq_true p508
                   replace q508 := eq_true q508
                   refine zs (n := 11) (fun w' => w'.cell? ⟨gb501, 0, none⟩ = some (.int .i64 a0_0) ∧ w'.cell? ⟨gb501, 1, none⟩ = some (.slice A0_1 l0_1.length c0_1) ∧ w'.cell? (ad507.add (x8_1).toNat) = some (.slice A507_0 (rd_L2 l2 x8_1).length c507_0) ∧ w'.cell? (ad507.add (x9_2).toNat) = some (.slice A508_0 (rd_L2 l2 x9_2).length c508_0)) ⟨(blk_cell BK501.out 0).trans rfl, (blk_cell BK501.out 1).trans rfl, hx507_0, hx508_0⟩ (fun hHeld => ?_); refine with_tabW spec_l3Space.tab8 spec_l3Space.bits8 (fun HT_ HW_ => ?_)
                   generalize wr.drew = w21 at HO_2 HO_507000 HO_507001 BK501 BK502 BK506 HB HL507_0 HL508_0 HR507_0 HR508_0 hx507_0 hx508_0 hHeld ⊢
                   refine zp HT_ 1 28 ?_
                   refine zp HT_ 2 29 ?_
                   refine zp HT_ 3 30 ?_
                   refine zp HT_ 4 31 ?_
                   refine zp HT_ 6 33 ?_
                   refine zp HT_ 7 34 ?_
                   refine zp HT_ 8 35 ?_
                   refine zt HT_ HW_ 0 27 hHeld ?_ (hy := by rintro w' ⟨s0, s1, s2, s3⟩; go_simp; with_reducible rfl)
                   refine zt HT_ HW_ 5 32 hHeld ?_ (hy := by rintro w' ⟨s0, s1, s2, s3⟩; go_simp; with_reducible rfl)
                   refine zt HT_ HW_ 9 36 hHeld ?_ (hy := by rintro w' ⟨s0, s1, s2, s3⟩; go_simp; with_reducible rfl)
                   refine zg HT_ 10 37 Try.func81 #[.agg #[.int .i64 a0_0, .slice A0_1 l0_1.length c0_1], .int .i64 a1, .slice A507_0 (rd_L2 l2 x8_1).length c507_0, .slice A508_0 (rd_L2 l2 x9_2).length c508_0] (fun K hK => ?_)
                   with_reducible refine (spec_l3Step.calls k2 a0_0 _ _ l0_1 a1 _ _ (rd_L2 l2 x8_1) _ _ (rd_L2 l2 x9_2) true _ ?side1 ?side2 ?side3 ?side4 ?side5 ?side6 A18.out).mono ?_
                   (case side1 => exact zC (Kd.C_below HR0_1.out HB.out))
                   (case side2 => exact HC0_1.out)
                   (case side3 => repeat (first | exact (by repeat (first | (with_reducible exact HR507_0.out) | (with_reducible refine Kd.C_alloc ?_ _) | (with_reducible refine Kd.C_drewN ?_ _) | (with_reducible refine Kd.C_drew ?_) | exact HR507_0.out)) | (with_reducible refine Kd.C_alloc ?_ _) | (with_reducible refine Kd.C_drewN ?_ _) | (with_reducible refine Kd.C_drew ?_)))
                   (case side4 => exact HC507_0.out)
                   (case side5 => repeat (first | exact (by repeat (first | (with_reducible exact HR508_0.out) | (with_reducible refine Kd.C_alloc ?_ _) | (with_reducible refine Kd.C_drewN ?_ _) | (with_reducible refine Kd.C_drew ?_) | exact HR508_0.out)) | (with_reducible refine Kd.C_alloc ?_ _) | (with_reducible refine Kd.C_drewN ?_ _) | (with_reducible refine Kd.C_drew ?_)))
                   (case side6 => exact HC508_0.out)
                   rintro e w22 ⟨rfl, hb⟩
                   have HS2_ := (hb.cell (World.block_lt_of_cell? _ _ (hHeld.2.2.1))).trans (hHeld.2.2.1)
                   have HS3_ := (hb.cell (World.block_lt_of_cell? _ _ (hHeld.2.2.2))).trans (hHeld.2.2.2)
                   refine ⟨_, rfl, ?_⟩
                   replace HO_2 := zM (Kd.V_below (by (with_reducible repeat (first | apply Kd.V_alloc | apply Kd.V_drewN | apply Kd.V_drew)); exact HO_2.out) hb)
                   replace HO_507000 := zM (Kd.V_below (by (with_reducible repeat (first | apply Kd.V_alloc | apply Kd.V_drewN | apply Kd.V_drew)); exact HO_507000.out) hb)
                   replace HO_507001 := zM (Kd.R_below (zR HO_507001.out) hb)
                   replace HL507_0 := zM (Kd.V_below (by (with_reducible repeat (first | apply Kd.V_alloc | apply Kd.V_drewN | apply Kd.V_drew)); exact HL507_0.out) hb)
                   replace HL508_0 := zM (Kd.V_below (by (with_reducible repeat (first | apply Kd.V_alloc | apply Kd.V_drewN | apply Kd.V_drew)); exact HL508_0.out) hb)
                   replace BK501 := zM (blk_below (g := gb501) (o := .cells #[.int .i64 a0_0, .slice A0_1 l0_1.length c0_1] 28 (0, 0)) (zK BK501.out) hb)
                   replace BK502 := zM (blk_below (g := gb502) (o := .cells #[.slice none 0 0, .slice none 0 0] 46 (0, 0)) (zK BK502.out) hb)
                   replace BK506 := zM (blk_below (g := gb506) (o := .cells #[.slice (some ad507) l2.length c2, u507001] 46 (0, 0)) (zK BK506.out) hb)
                   replace HR507_0 := zM (Kd.C_below (by repeat (first | (with_reducible exact HR507_0.out) | (with_reducible refine Kd.C_alloc ?_ _) | (with_reducible refine Kd.C_drewN ?_ _) | (with_reducible refine Kd.C_drew ?_) | exact HR507_0.out)) hb)
                   replace HR508_0 := zM (Kd.C_below (by repeat (first | (with_reducible exact HR508_0.out) | (with_reducible refine Kd.C_alloc ?_ _) | (with_reducible refine Kd.C_drewN ?_ _) | (with_reducible refine Kd.C_drew ?_) | exact HR508_0.out)) hb)
                   replace HB := zM (below_step zB hb)
                   (try clear hb)
                   (try clear hb2)
                   (try clear hk)
                   (try clear hi)
                   refine hK.out _ _ ⟨(blk_cell BK501.out 0).trans rfl, (blk_cell BK501.out 1).trans rfl, HS2_, HS3_⟩ (fun hHeld => ?_)
                   clear hK K
                   refine zn 37 ?_
                   refine zo HT_ ?_
                   have hnb23 := NB506_501.out
                   have hnc23 := NB501_506.out
                   have hnb24 := NB506_502.out
                   have hnc24 := NB502_506.out
                   have hcz25_0 := zy BK506 0
                   have hcz25_1 := zy BK506 1
                   have hfz25_0 := blk_frozen BK506.out 0
                   have hfz25_1 := blk_frozen BK506.out 1
                   try go_wp2_with (first | ((with_reducible refine gate_builtin (b := .append) (xs := #[.tmp 39, .tmp 43]) rfl ?_); at_builtin; refine Kd.R_append k70 (w0 := w) w.heap.size rfl (.tmp 39) (.tmp 43) 22 70 (.agg #[(.int .i64 0), (.int .i64 0)]) 16 rfl Try.underlying22 info70 rfl (by decide) (by omega) u507001 x507001_2 (⟨x8_1, x9_2⟩ : S70) [.int .i64 x8_1, .int .i64 x9_2] (fun k_ => (w.heap.size ≤ k_)) (fun _ => False) rfl rfl ?aP (fun _ hk => hk.elim) ?aF ?aO ?aB ?aS ?aL ?_; (case aP => exact k70_mkM _ _ _ (⟨x8_1, x9_2⟩ : S70)); (case aB => exact zB); (case aF => exact (fun k_ hk => (Nat.le_trans (below_size zB) hk))); (case aO => exact (zR HO_507001.out)); (case aS => exact (below_size zB)); (case aL => have := LMc20.out; omega); intro v511 w26 ho hb hg hat; rw [← Ny510.out] at ho; replace HO_2 := zM (Kd.V_afterv (ok := (fun k_ => (P2_ k_ ∨ w.heap.size ≤ k_) ∧ k_ ≠ gb501 ∧ k_ ≠ gb502 ∧ k_ ≠ gb506)) (by (with_reducible repeat (first | apply Kd.V_alloc | apply Kd.V_drewN | apply Kd.V_drew)); exact Kd.V_mono HO_2.out (fun _ hk => ⟨⟨hk.1, ⟨hk.2.2.1, ⟨hk.2.2.2.1, hk.2.2.2.2⟩⟩⟩, hk.2.1⟩)) hg hat); replace HO_507000 := zM (Kd.V_afterv (ok := (fun k_ => (P2_ k_ ∨ w.heap.size ≤ k_) ∧ k_ ≠ gb501 ∧ k_ ≠ gb502 ∧ k_ ≠ gb506)) (by (with_reducible repeat (first | apply Kd.V_alloc | apply Kd.V_drewN | apply Kd.V_drew)); exact Kd.V_mono HO_507000.out (fun _ hk => ⟨⟨hk.1, ⟨hk.2.2.1, ⟨hk.2.2.2.1, hk.2.2.2.2⟩⟩⟩, hk.2.1⟩)) hg hat); replace BK501 := zM (blk_grown (g := gb501) (o := .cells #[.int .i64 a0_0, .slice A0_1 l0_1.length c0_1] 28 (0, 0)) (zK BK501.out) hg (Kd.R_ne HO_507001.out BK501.out (by decide))); replace BK502 := zM (blk_grown (g := gb502) (o := .cells #[.slice none 0 0, .slice none 0 0] 46 (0, 0)) (zK BK502.out) hg (Kd.R_ne HO_507001.out BK502.out (by decide))); replace BK506 := zM (blk_grown (g := gb506) (o := .cells #[.slice (some ad507) l2.length c2, u507001] 46 (0, 0)) (zK BK506.out) hg (Kd.R_ne HO_507001.out BK506.out (by decide))); replace HL507_0 := zM (Kd.V_afterv (ok := (fun k_ => (P2_ k_ ∨ w.heap.size ≤ k_) ∧ k_ ≠ gb501 ∧ k_ ≠ gb502 ∧ k_ ≠ gb506)) (by (with_reducible repeat (first | apply Kd.V_alloc | apply Kd.V_drewN | apply Kd.V_drew)); exact Kd.V_mono HL507_0.out (fun _ hk => ⟨⟨hk.1, ⟨hk.2.2.1, ⟨hk.2.2.2.1, hk.2.2.2.2⟩⟩⟩, hk.2.1⟩)) hg hat); replace HL508_0 := zM (Kd.V_afterv (ok := (fun k_ => (P2_ k_ ∨ w.heap.size ≤ k_) ∧ k_ ≠ gb501 ∧ k_ ≠ gb502 ∧ k_ ≠ gb506)) (by (with_reducible repeat (first | apply Kd.V_alloc | apply Kd.V_drewN | apply Kd.V_drew)); exact Kd.V_mono HL508_0.out (fun _ hk => ⟨⟨hk.1, ⟨hk.2.2.1, ⟨hk.2.2.2.1, hk.2.2.2.2⟩⟩⟩, hk.2.1⟩)) hg hat); replace HB := zM (hb); have HO512 := zM (ho); clear HO_507001; clear ho hb hg hat; obtain ⟨Ao27, co27, eo27⟩ := Kd.R_slice HO512.out; subst eo27; have hcz28_0 := zy BK506 0; have hcz28_1 := zy BK506 1; have hfz28_0 := blk_frozen BK506.out 0; have hfz28_1 := blk_frozen BK506.out 1))
                   go_roundg k2
                   case measure => have := HK1.out; have := HK2.out; omega
                   case rel => exact ⟨(wrap64 (x9_2 + 1)), (y510), (.slice Ao27 y510.length co27), (by first | rfl | (simp; done) | (simp [*]; done)), H', ⟨by have := HK1.out; have := HK2.out; omega⟩, ⟨by (with_reducible repeat (first | apply Kd.V_alloc | apply Kd.V_drewN | apply Kd.V_drew)); exact Kd.V_mono (Kd.V_far (p := ⟨gb506, 1, none⟩) (Kd.V_mono HO_2.out (fun k_ hk => (⟨hk, hk.1.2.2.2⟩ : _ ∧ k_ ≠ gb506))) (fun _ hk => hk.2) (.slice Ao27 y510.length co27)) (fun _ hk => ⟨hk.1.1.1, ⟨hk.1.2, ⟨hk.1.1.2.1, ⟨hk.1.1.2.2.1, hk.1.1.2.2.2⟩⟩⟩⟩)⟩, ⟨by (with_reducible repeat (first | apply Kd.V_alloc | apply Kd.V_drewN | apply Kd.V_drew)); exact Kd.V_mono (Kd.V_far (p := ⟨gb506, 1, none⟩) (Kd.V_mono HO_507000.out (fun k_ hk => (⟨hk, hk.1.2.2.2⟩ : _ ∧ k_ ≠ gb506))) (fun _ hk => hk.2) (.slice Ao27 y510.length co27)) (fun _ hk => ⟨hk.1.1.1, ⟨hk.1.2, ⟨hk.1.1.2.1, ⟨hk.1.1.2.2.1, hk.1.1.2.2.2⟩⟩⟩⟩)⟩, ⟨by (with_reducible repeat (first | apply Kd.R_alloc | apply Kd.R_drewN | apply Kd.R_drew)); exact Kd.R_mono (Kd.R_far (p := ⟨gb506, 1, none⟩) (Kd.R_types HO512.out BK506.out (by decide)) (fun _ hk => hk.2) (.slice Ao27 y510.length co27)) (fun _ hk => hk.1)⟩, ⟨by (with_reducible repeat (first | refine blk_drewN ?_ _ | refine blk_drew ?_ | refine blk_alloc ?_ _)); refine blk_far ?_ NB501_506.out _; (with_reducible repeat (first | refine blk_drewN ?_ _ | refine blk_drew ?_ | refine blk_alloc ?_ _)); exact BK501.out⟩, ⟨by (with_reducible repeat (first | refine blk_drewN ?_ _ | refine blk_drew ?_ | refine blk_alloc ?_ _)); refine blk_far ?_ NB502_506.out _; (with_reducible repeat (first | refine blk_drewN ?_ _ | refine blk_drew ?_ | refine blk_alloc ?_ _)); exact BK502.out⟩, ⟨by (with_reducible repeat (first | refine blk_drewN ?_ _ | refine blk_drew ?_ | refine blk_alloc ?_ _)); refine blk_put (cs := #[.slice (some ad507) l2.length c2, u507001]) ?_ 1 _ rfl; (with_reducible repeat (first | refine blk_drewN ?_ _ | refine blk_drew ?_ | refine blk_alloc ?_ _)); exact BK506.out⟩, ⟨zB⟩⟩
                 · rw [if_neg c20] at H
                   exact absurd H (by simp)
               · replace c19 := Bool.eq_false_iff.mpr c19
                 subst c19
                 have H1 : (spec_l3Space.l1 k2 a1 l2 x8_1 (wrap64 (x9_2 + 1)) a0_0 l0_1 l2 x507001_2) = some (r1, r2) := by rw [if_neg (show ¬ (false = true) by decide)] at H; exact H
                 clear H
                 have H := H1
                 clear H1
                 have H' := Aside0.mk H
                 clear H
                 try go_wp2
                 replace HO_2 := zM (Kd.V_drew HO_2.out)
                 replace HO_507000 := zM (Kd.V_drew HO_507000.out)
                 replace HO_507001 := zM (Kd.R_drew HO_507001.out)
                 replace BK501 := zM (blk_drew BK501.out)
                 replace BK502 := zM (blk_drew BK502.out)
                 replace BK506 := zM (blk_drew BK506.out)
                 replace HB := zM (below_drew1 HB.out)
                 have p507 : 0 ≤ (x8_1 : Int) := of_decide_eq_true zA
                 have q507 : x8_1 < (l2.length : Int) := of_decide_eq_true zA
                 obtain ⟨ad507, A507_0, c507_0, e507, hx507_0, hl507_0, hi507_0⟩ := at_L2 (Kd.V_reads' HO_2.out).2.2 x8_1 p507 q507
                 cases e507
                 obtain ⟨ce507, hce507, hMe507, hcc507⟩ := Kd.V_get HO_2.out [] x8_1 p507 (by first | exact q507 | exact of_decide_eq_true zA | (have e_ := (Kd.V_reads' HO_2.out).1; omega))
                 obtain ⟨ua507_0, uc507_0, rfl, ul507_0, ge507_0⟩ := Kd.FK_slice_open hMe507
                 have hv507_0 := hcc507 0 _ rfl
                 rw [Nat.add_zero, show ((Kd.slice 3 (Kd.int .i64))).sz = 1 from rfl, Nat.mul_one] at hv507_0
                 replace hv507_0 := Option.some.inj (hv507_0.symm.trans hx507_0)
                 injection hv507_0 with hva_ hvn_ hvc_
                 rw [hva_] at ge507_0
                 rw [hvc_] at ul507_0
                 have HL507_0 := zM (show Kd.V (Kd.int .i64) 3 _ w.heap.size _ _ (rd_L2 l2 x8_1) from Kd.V_mk ul507_0 ge507_0)
                 clear hva_ hvn_ hvc_ ge507_0 ul507_0
                 clear hcc507 hce507
                 have HR507_0 := Aside0.mk hi507_0
                 have HC507_0 := Aside0.mk hl507_0
                 clear hi507_0 hl507_0
                 replace p507 := eq_true p507
                 replace q507 := eq_true q507
                 have p508 : 0 ≤ (x9_2 : Int) := of_decide_eq_true zA
                 have q508 : x9_2 < (l2.length : Int) := of_decide_eq_true zA
                 obtain ⟨ad508, A508_0, c508_0, e508, hx508_0, hl508_0, hi508_0⟩ := at_L2 (Kd.V_reads' HO_2.out).2.2 x9_2 p508 q508
                 obtain rfl : ad507 = ad508 := (by injection e508)
                 obtain ⟨ce508, hce508, hMe508, hcc508⟩ := Kd.V_get HO_2.out [] x9_2 p508 (by first | exact q508 | exact of_decide_eq_true zA | (have e_ := (Kd.V_reads' HO_2.out).1; omega))
                 obtain ⟨ua508_0, uc508_0, rfl, ul508_0, ge508_0⟩ := Kd.FK_slice_open hMe508
                 have hv508_0 := hcc508 0 _ rfl
                 rw [Nat.add_zero, show ((Kd.slice 3 (Kd.int .i64))).sz = 1 from rfl, Nat.mul_one] at hv508_0
                 replace hv508_0 := Option.some.inj (hv508_0.symm.trans hx508_0)
                 injection hv508_0 with hva_ hvn_ hvc_
                 rw [hva_] at ge508_0
                 rw [hvc_] at ul508_0
                 have HL508_0 := zM (show Kd.V (Kd.int .i64) 3 _ w.heap.size _ _ (rd_L2 l2 x9_2) from Kd.V_mk ul508_0 ge508_0)
                 clear hva_ hvn_ hvc_ ge508_0 ul508_0
                 clear hcc508 hce508
                 have HR508_0 := Aside0.mk hi508_0
                 have HC508_0 := Aside0.mk hl508_0
                 clear hi508_0 hl508_0
                 replace p508 := eq_true p508
                 replace q508 := eq_true q508
                 refine zs (n := 11) (fun w' => w'.cell? ⟨gb501, 0, none⟩ = some (.int .i64 a0_0) ∧ w'.cell? ⟨gb501, 1, none⟩ = some (.slice A0_1 l0_1.length c0_1) ∧ w'.cell? (ad507.add (x8_1).toNat) = some (.slice A507_0 (rd_L2 l2 x8_1).length c507_0) ∧ w'.cell? (ad507.add (x9_2).toNat) = some (.slice A508_0 (rd_L2 l2 x9_2).length c508_0)) ⟨(blk_cell BK501.out 0).trans rfl, (blk_cell BK501.out 1).trans rfl, hx507_0, hx508_0⟩ (fun hHeld => ?_); refine with_tabW spec_l3Space.tab8 spec_l3Space.bits8 (fun HT_ HW_ => ?_)
                 generalize wr.drew = w29 at HO_2 HO_507000 HO_507001 BK501 BK502 BK506 HB HL507_0 HL508_0 HR507_0 HR508_0 hx507_0 hx508_0 hHeld ⊢
                 refine zp HT_ 1 28 ?_
                 refine zp HT_ 2 29 ?_
                 refine zp HT_ 3 30 ?_
                 refine zp HT_ 4 31 ?_
                 refine zp HT_ 6 33 ?_
                 refine zp HT_ 7 34 ?_
                 refine zp HT_ 8 35 ?_
                 refine zt HT_ HW_ 0 27 hHeld ?_ (hy := by rintro w' ⟨s0, s1, s2, s3⟩; go_simp; with_reducible rfl)
                 refine zt HT_ HW_ 5 32 hHeld ?_ (hy := by rintro w' ⟨s0, s1, s2, s3⟩; go_simp; with_reducible rfl)
                 refine zt HT_ HW_ 9 36 hHeld ?_ (hy := by rintro w' ⟨s0, s1, s2, s3⟩; go_simp; with_reducible rfl)
                 refine zg HT_ 10 37 Try.func81 #[.agg #[.int .i64 a0_0, .slice A0_1 l0_1.length c0_1], .int .i64 a1, .slice A507_0 (rd_L2 l2 x8_1).length c507_0, .slice A508_0 (rd_L2 l2 x9_2).length c508_0] (fun K hK => ?_)
                 with_reducible refine (spec_l3Step.calls k2 a0_0 _ _ l0_1 a1 _ _ (rd_L2 l2 x8_1) _ _ (rd_L2 l2 x9_2) false _ ?side1 ?side2 ?side3 ?side4 ?side5 ?side6 A18.out).mono ?_
                 (case side1 => exact zC (Kd.C_below HR0_1.out HB.out))
                 (case side2 => exact HC0_1.out)
                 (case side3 => repeat (first | exact (by repeat (first | (with_reducible exact HR507_0.out) | (with_reducible refine Kd.C_alloc ?_ _) | (with_reducible refine Kd.C_drewN ?_ _) | (with_reducible refine Kd.C_drew ?_) | exact HR507_0.out)) | (with_reducible refine Kd.C_alloc ?_ _) | (with_reducible refine Kd.C_drewN ?_ _) | (with_reducible refine Kd.C_drew ?_)))
                 (case side4 => exact HC507_0.out)
                 (case side5 => repeat (first | exact (by repeat (first | (with_reducible exact HR508_0.out) | (with_reducible refine Kd.C_alloc ?_ _) | (with_reducible refine Kd.C_drewN ?_ _) | (with_reducible refine Kd.C_drew ?_) | exact HR508_0.out)) | (with_reducible refine Kd.C_alloc ?_ _) | (with_reducible refine Kd.C_drewN ?_ _) | (with_reducible refine Kd.C_drew ?_)))
                 (case side6 => exact HC508_0.out)
                 rintro e w30 ⟨rfl, hb⟩
                 have HS2_ := (hb.cell (World.block_lt_of_cell? _ _ (hHeld.2.2.1))).trans (hHeld.2.2.1)
                 have HS3_ := (hb.cell (World.block_lt_of_cell? _ _ (hHeld.2.2.2))).trans (hHeld.2.2.2)
                 refine ⟨_, rfl, ?_⟩
                 replace HO_2 := zM (Kd.V_below (by (with_reducible repeat (first | apply Kd.V_alloc | apply Kd.V_drewN | apply Kd.V_drew)); exact HO_2.out) hb)
                 replace HO_507000 := zM (Kd.V_below (by (with_reducible repeat (first | apply Kd.V_alloc | apply Kd.V_drewN | apply Kd.V_drew)); exact HO_507000.out) hb)
                 replace HO_507001 := zM (Kd.R_below (zR HO_507001.out) hb)
                 replace HL507_0 := zM (Kd.V_below (by (with_reducible repeat (first | apply Kd.V_alloc | apply Kd.V_drewN | apply Kd.V_drew)); exact HL507_0.out) hb)
                 replace HL508_0 := zM (Kd.V_below (by (with_reducible repeat (first | apply Kd.V_alloc | apply Kd.V_drewN | apply Kd.V_drew)); exact HL508_0.out) hb)
                 replace BK501 := zM (blk_below (g := gb501) (o := .cells #[.int .i64 a0_0, .slice A0_1 l0_1.length c0_1] 28 (0, 0)) (zK BK501.out) hb)
                 replace BK502 := zM (blk_below (g := gb502) (o := .cells #[.slice none 0 0, .slice none 0 0] 46 (0, 0)) (zK BK502.out) hb)
                 replace BK506 := zM (blk_below (g := gb506) (o := .cells #[.slice (some ad507) l2.length c2, u507001] 46 (0, 0)) (zK BK506.out) hb)
                 replace HR507_0 := zM (Kd.C_below (by repeat (first | (with_reducible exact HR507_0.out) | (with_reducible refine Kd.C_alloc ?_ _) | (with_reducible refine Kd.C_drewN ?_ _) | (with_reducible refine Kd.C_drew ?_) | exact HR507_0.out)) hb)
                 replace HR508_0 := zM (Kd.C_below (by repeat (first | (with_reducible exact HR508_0.out) | (with_reducible refine Kd.C_alloc ?_ _) | (with_reducible refine Kd.C_drewN ?_ _) | (with_reducible refine Kd.C_drew ?_) | exact HR508_0.out)) hb)
                 replace HB := zM (below_step zB hb)
                 (try clear hb)
                 (try clear hb2)
                 (try clear hk)
                 (try clear hi)
                 refine hK.out _ _ ⟨(blk_cell BK501.out 0).trans rfl, (blk_cell BK501.out 1).trans rfl, HS2_, HS3_⟩ (fun hHeld => ?_)
                 clear hK K
                 refine zn 37 ?_
                 refine zo HT_ ?_
                 try go_wp2
                 go_roundg k2
                 case measure => have := HK1.out; have := HK2.out; omega
                 case rel => exact ⟨(wrap64 (x9_2 + 1)), (x507001_2), (u507001), (by first | rfl | (simp; done) | (simp [*]; done)), H', ⟨by have := HK1.out; have := HK2.out; omega⟩, ⟨by (with_reducible repeat (first | apply Kd.V_alloc | apply Kd.V_drewN | apply Kd.V_drew)); exact HO_2.out⟩, ⟨by (with_reducible repeat (first | apply Kd.V_alloc | apply Kd.V_drewN | apply Kd.V_drew)); exact HO_507000.out⟩, ⟨zR HO_507001.out⟩, ⟨zK BK501.out⟩, ⟨zK BK502.out⟩, ⟨zK BK506.out⟩, ⟨zB⟩⟩
             · rw [if_neg c17] at H
               exact absurd H (by simp)
           · rw [if_neg c16] at H
             exact absurd H (by simp)
         · rw [if_neg c15] at H
           exact absurd H (by simp)
       · rw [if_neg c14] at H
         have c14b0 : decide (x9_2 < (l2.length : Int)) = false := decide_eq_false c14
         clear c14
         have H' := Aside0.mk H
         clear H
         go_wp2
         go_roundg k2
         case measure => have := HK1.out; have := HK2.out; omega
         case rel => exact ⟨(wrap64 (x8_1 + 1)), (x507001_2), (u507001), (by first | rfl | (simp; done) | (simp [*]; done)), H', ⟨by have := HK1.out; have := HK2.out; omega⟩, ⟨by (with_reducible repeat (first | apply Kd.V_alloc | apply Kd.V_drewN | apply Kd.V_drew)); exact HO_2.out⟩, ⟨by (with_reducible repeat (first | apply Kd.V_alloc | apply Kd.V_drewN | apply Kd.V_drew)); exact HO_507000.out⟩, ⟨zR HO_507001.out⟩, ⟨zK BK501.out⟩, ⟨zK BK502.out⟩, ⟨zK BK506.out⟩, ⟨zB⟩⟩
   · rw [if_neg c13] at H
     have c13b0 : decide (x8_1 < (l2.length : Int)) = false := decide_eq_false c13
     clear c13
     simp only [Option.some.injEq, Prod.mk.injEq] at H
     obtain ⟨rfl, rfl⟩ := H
     have hnb31 := NB506_501.out
     have hnc31 := NB501_506.out
     have hnb32 := NB506_502.out
     have hnc32 := NB502_506.out
     have hcz33_0 := zy BK506 0
     have hcz33_1 := zy BK506 1
     have hfz33_0 := blk_frozen BK506.out 0
     have hfz33_1 := blk_frozen BK506.out 1
     have hnb34 := NB502_501.out
     have hnc34 := NB501_502.out
     have hcz35_0 := zy BK502 0
     have hcz35_1 := zy BK502 1
     have hfz35_0 := blk_frozen BK502.out 0
     have hfz35_1 := blk_frozen BK502.out 1
     obtain ⟨Ao36, co36, eo36⟩ := Kd.R_slice HO_507001.out
     subst eo36
     go_wp2
     refine bodyPost_ret (results_cell_row rfl _ _ gb502 46 #[.slice A2 l2.length c2, .slice Ao36 x507001_1.length co36] (0, 0) _ rfl (by (with_reducible repeat (first | refine blk_drewN ?_ _ | refine blk_drew ?_ | refine blk_alloc ?_ _)); refine blk_put (cs := #[.slice A2 l2.length c2, .slice none 0 0]) ?_ 1 _ rfl; (with_reducible repeat (first | refine blk_drewN ?_ _ | refine blk_drew ?_ | refine blk_alloc ?_ _)); refine blk_put (cs := #[.slice none 0 0, .slice none 0 0]) ?_ 0 _ rfl; (with_reducible repeat (first | refine blk_drewN ?_ _ | refine blk_drew ?_ | refine blk_alloc ?_ _)); exact BK502.out) Try.underlying46 rfl (by kernel_rfl)) rfl ?_
     exact ⟨_, _, by first | rfl | (simp [errW_none, errW_some] <;> rfl) | (simp [*, errW_none, errW_some] <;> rfl), by (with_reducible repeat (first | apply Kd.V_alloc | apply Kd.V_drewN | apply Kd.V_drew)); exact Kd.V_mono (Kd.V_far (p := ⟨gb502, 1, none⟩) (Kd.V_far (p := ⟨gb502, 0, none⟩) (Kd.V_mono HO_507000.out (fun k_ hk => (⟨hk, hk.2.2.2.1⟩ : _ ∧ k_ ≠ gb502))) (fun _ hk => hk.2) (.slice A2 l2.length c2)) (fun _ hk => hk.2) (.slice Ao36 x507001_1.length co36)) (fun _ hk => ⟨hk.1.1, hk.1.2.1⟩), by (with_reducible repeat (first | apply Kd.R_alloc | apply Kd.R_drewN | apply Kd.R_drew)); exact Kd.R_mono (Kd.R_far (p := ⟨gb502, 1, none⟩) (Kd.R_far (p := ⟨gb502, 0, none⟩) (Kd.R_types HO_507001.out BK502.out (by decide)) (fun _ hk => hk.2) (.slice A2 l2.length c2)) (fun _ hk => hk.2) (.slice Ao36 x507001_1.length co36)) (fun _ hk => hk.1), zB⟩

end Go.Proofs.Ytadjbmcfgjmhkaa.P
namespace Go.Proofs.Ytadjbmcfgjmhkaa.P
open Go.RowKit Go.Proofs.YtadjbmcfgjmhkaaW.PrintWords Go.Proofs.YtadjbmcfgjmhkaaW.PrintLast Go.Proofs.YtadjbmcfgjmhkaaW.PrintMore
attribute [local go_sem] max2_int min2_int max_two min_two max_three min_three max_four min_four   -- for this text's walks alone
set_option linter.unusedVariables false
set_option linter.unusedSimpArgs false

/-! ### spec_SlideSpace: function 35 -/
def spec_SlideSpace.f (k : Nat) (a0_0 : Int) (l0_1 : List (S70)) (a1 : Int) : Option ((List (List Int)) × (List (S70)) × Bool) := (spec_l3Ask.f k a0_0 l0_1 a1).bind fun t612 => (if t612 = true then ((spec_l3Sets.f k a0_0 l0_1 a1 a1).bind fun t613 => ((spec_l3Space.f k a0_0 l0_1 0 t613).bind fun bt616 => (some (bt616.1, bt616.2, true)))) else (some (([] : List (List Int)), ([] : List (S70)), false)))
def spec_SlideSpace.T3 : Bool × List (List Nat × List Nat) := (true, [([], []), ([], []), ([], []), ([], []), ([1, 2, 3], [1, 2, 3]), ([0, 4, 4], [0, 4]), ([5, 5, 0, 1, 2, 3, 4, 5], [5]), ([6, 0, 1, 2, 3, 4, 5, 6], [])])
def spec_SlideSpace.B3 : List Nat := [0, 0, 0, 0, 14, 31, 63, 127]
theorem spec_SlideSpace.tab3 : rtab .any (opsOf Try.f35 3) = spec_SlideSpace.T3 := by kernel_rfl
theorem spec_SlideSpace.bits3 : waitsOk spec_SlideSpace.T3.2 spec_SlideSpace.B3 = true := by kernel_rfl
set_option maxHeartbeats 8000000 in
set_option maxRecDepth 100000 in
theorem spec_SlideSpace.calls (k : Nat) (a0_0 : Int) (A0_1 : Option Addr) (c0_1 : Nat) (l0_1 : List (S70)) (a1 : Int) (r1 : List (List Int)) (r2 : List (S70)) (r3 : Bool) (w : World) (hr0_1 : Kd.C k70 w A0_1 l0_1.length l0_1) (hc0_1 : l0_1.length ≤ c0_1) (h : spec_SlideSpace.f k a0_0 l0_1 a1 = some (r1, r2, r3)) :
 Calls Try.prog 35 #[.agg #[.int .i64 a0_0, .slice A0_1 l0_1.length c0_1], .int .i64 a1] w fun e w' => ∃ v0_ v1_ : Value, e = .returned (.tuple #[.agg #[v0_, v1_], .bool r3]) ∧ Kd.V (Kd.slice 3 (Kd.int .i64)) 39 w' w.heap.size (fun k_ => (w.heap.size ≤ k_) ∧ some k_ ≠ (v1_ : Value).ownBlock) v0_ r1 ∧ Kd.R k70 70 w' w.heap.size (fun k_ => (w.heap.size ≤ k_)) v1_ r2 ∧ Below w.heap.size w w' := by
 have hu28 := Try.underlying28
 have hu46 := Try.underlying46
 have HR0_1 := Aside0.mk hr0_1
 have HC0_1 := Aside0.mk hc0_1
 clear hr0_1 hc0_1
 have HB := zM (Below.refl w.heap.size w)
 have H : ((spec_l3Ask.f k a0_0 l0_1 a1).bind fun t612 => (if t612 = true then ((spec_l3Sets.f k a0_0 l0_1 a1 a1).bind fun t613 => ((spec_l3Space.f k a0_0 l0_1 0 t613).bind fun bt616 => (some (bt616.1, bt616.2, true)))) else (some (([] : List (List Int)), ([] : List (S70)), false)))) = some (r1, r2, r3) := h
 clear h
 replace H := Option.bind_eq_some_iff.mp H
 obtain ⟨t612, A30, H⟩ := H
 replace H : (if t612 = true then ((spec_l3Sets.f k a0_0 l0_1 a1 a1).bind fun t613 => ((spec_l3Space.f k a0_0 l0_1 0 t613).bind fun bt616 => (some (bt616.1, bt616.2, true)))) else (some (([] : List (List Int)), ([] : List (S70)), false))) = some (r1, r2, r3) := H
 have A3 := Aside0.mk A30
 clear A30
 by_cases c4 : t612 = true
 · subst c4
   have H1 : ((spec_l3Sets.f k a0_0 l0_1 a1 a1).bind fun t613 => ((spec_l3Space.f k a0_0 l0_1 0 t613).bind fun bt616 => (some (bt616.1, bt616.2, true)))) = some (r1, r2, r3) := by rw [if_pos rfl] at H; exact H
   clear H
   have H := H1
   clear H1
   replace H := Option.bind_eq_some_iff.mp H
   obtain ⟨t613, A50, H⟩ := H
   replace H : ((spec_l3Space.f k a0_0 l0_1 0 t613).bind fun bt616 => (some (bt616.1, bt616.2, true))) = some (r1, r2, r3) := H
   have A5 := Aside0.mk A50
   clear A50
   replace H := Option.bind_eq_some_iff.mp H
   obtain ⟨⟨t616, t619⟩, A60, H⟩ := H
   replace H : (some (t616, t619, true)) = some (r1, r2, r3) := H
   have A6 := Aside0.mk A60
   clear A60
   simp only [Option.some.injEq, Prod.mk.injEq] at H
   obtain ⟨rfl, rfl, rfl⟩ := H
   go_enter Try.func35, Try.ntmps35
   try go_wp2_with (first | ((with_reducible refine gate_dst (N := 2) rfl ?_); refine zb (w := w) 2 #[.int .i64 a0_0, .slice A0_1 l0_1.length c0_1] 28 zB ?_; clear HB; intro gb610 w7 HB BK610 GW610; have GE610 := GW610) | ((with_reducible refine gate_dst (N := 4) rfl ?_); refine ze 4 #[.slice none 0 0, .slice none 0 0] 46 ?_; intro gb611 hg w8 hbox hb; have BK611 := zM (hbox); have GW611 := zM ((by rw [hg]; exact (below_size zB) : w.heap.size ≤ gb611)); have GE611 := zM ((by rw [hg]; exact (below_size zB) : w.heap.size ≤ gb611)); replace HB := zM (below_step zB hb); have NB610_611 := zM ((by rw [hg]; exact Nat.ne_of_lt (blk_lt (g := gb610) (o := .cells #[.int .i64 a0_0, .slice A0_1 l0_1.length c0_1] 28 (0, 0)) (zK BK610.out)) : gb610 ≠ gb611)); have NB611_610 := zM ((by rw [hg]; exact Nat.ne_of_gt (blk_lt (g := gb610) (o := .cells #[.int .i64 a0_0, .slice A0_1 l0_1.length c0_1] 28 (0, 0)) (zK BK610.out)) : gb611 ≠ gb610)); replace BK610 := zM (blk_below (g := gb610) (o := .cells #[.int .i64 a0_0, .slice A0_1 l0_1.length c0_1] 28 (0, 0)) (zK BK610.out) hb); clear hb hbox hg; have hnb9 := NB610_611.out; have hnc9 := NB611_610.out; have hcz10_0 := zy BK610 0; have hcz10_1 := zy BK610 1; have hfz10_0 := blk_frozen BK610.out 0; have hfz10_1 := blk_frozen BK610.out 1) | ((with_reducible refine gate_callee (f := 45) rfl ?_); refine zc 8 Try.func45 #[.agg #[.int .i64 a0_0, .slice A0_1 l0_1.length c0_1], .int .i64 a1] ?_; (with_reducible refine (spec_l3Ask.calls k a0_0 _ _ l0_1 a1 true _ ?side1 ?side2 A3.out).mono ?_); (case side1 => exact zC (Kd.C_below HR0_1.out HB.out)); (case side2 => exact HC0_1.out); rintro e w11 ⟨rfl, hb⟩; refine ⟨_, rfl, ?_⟩; replace BK610 := zM (blk_below (g := gb610) (o := .cells #[.int .i64 a0_0, .slice A0_1 l0_1.length c0_1] 28 (0, 0)) (zK BK610.out) hb); replace BK611 := zM (blk_below (g := gb611) (o := .cells #[.slice none 0 0, .slice none 0 0] 46 (0, 0)) (zK BK611.out) hb); replace HB := zM (below_step zB hb); (try clear hb); (try clear hb2); (try clear hk); (try clear hi)))
   replace BK610 := zM (blk_drew BK610.out)
   replace BK611 := zM (blk_drew BK611.out)
   replace HB := zM (below_drew1 HB.out)
   refine zs (n := 8) (fun w' => w'.cell? ⟨gb610, 0, none⟩ = some (.int .i64 a0_0) ∧ w'.cell? ⟨gb610, 1, none⟩ = some (.slice A0_1 l0_1.length c0_1)) ⟨(blk_cell BK610.out 0).trans rfl, (blk_cell BK610.out 1).trans rfl⟩ (fun hHeld => ?_); refine with_tabW spec_SlideSpace.tab3 spec_SlideSpace.bits3 (fun HT_ HW_ => ?_)
   generalize w11.drew = w12 at BK610 BK611 HB hHeld ⊢
   refine zp HT_ 2 13 ?_
   refine zp HT_ 3 14 ?_
   refine zt HT_ HW_ 0 11 hHeld ?_ (hy := by rintro w' ⟨s0, s1⟩; go_simp; with_reducible rfl)
   refine zt HT_ HW_ 1 12 hHeld ?_ (hy := by rintro w' ⟨s0, s1⟩; go_simp; with_reducible rfl)
   refine zg HT_ 4 15 Try.func39 #[.agg #[.int .i64 a0_0, .slice A0_1 l0_1.length c0_1], .int .i64 a1, .int .i64 a1] (fun K hK => ?_)
   with_reducible refine (spec_l3Sets.calls k a0_0 _ _ l0_1 a1 a1 t613 _ ?side1 ?side2 A5.out).mono ?_
   (case side1 => exact zC (Kd.C_below HR0_1.out HB.out))
   (case side2 => exact HC0_1.out)
   rintro e w13 ⟨v614, rfl, ho0, hb⟩
   refine ⟨_, rfl, ?_⟩
   have HO615 := zM (Kd.N_lower (Kd.N_mono (ok' := fun k_ => (w.heap.size ≤ k_) ∧ k_ ≠ gb610 ∧ k_ ≠ gb611) ho0 (fun k_ hk_ => ⟨(Nat.le_trans (below_size zB) hk_), (Kd.freshB (g := gb610) (o := .cells #[.int .i64 a0_0, .slice A0_1 l0_1.length c0_1] 28 (0, 0)) (zK BK610.out) k_ hk_), (Kd.freshB (g := gb611) (o := .cells #[.slice none 0 0, .slice none 0 0] 46 (0, 0)) (zK BK611.out) k_ hk_)⟩)) (below_size zB))
   replace BK610 := zM (blk_below (g := gb610) (o := .cells #[.int .i64 a0_0, .slice A0_1 l0_1.length c0_1] 28 (0, 0)) (zK BK610.out) hb)
   replace BK611 := zM (blk_below (g := gb611) (o := .cells #[.slice none 0 0, .slice none 0 0] 46 (0, 0)) (zK BK611.out) hb)
   replace HB := zM (below_step zB hb)
   (try clear hb)
   (try clear hb2)
   (try clear hk)
   (try clear hi)
   (try clear ho0)
   obtain ⟨Ao14, co14, eo14⟩ := Kd.N_slice HO615.out
   (first | subst eo14 | (injection eo14 with f1_ f2_ f3_; have f4_ := f1_.symm; have f5_ := f3_.symm; clear f1_ f2_ f3_; subst f4_; subst f5_))
   refine hK.out _ _ ⟨(blk_cell BK610.out 0).trans rfl, (blk_cell BK610.out 1).trans rfl⟩ (fun hHeld => ?_)
   clear hK K
   refine zn 15 ?_
   refine zg HT_ 5 16 Try.func55 #[.agg #[.int .i64 a0_0, .slice A0_1 l0_1.length c0_1], .int .i64 0, .slice Ao14 t613.length co14] (fun K hK => ?_)
   with_reducible refine (spec_l3Space.calls k a0_0 _ _ l0_1 0 (fun k_ => ((w.heap.size ≤ k_) ∧ (k_ ≠ gb610 ∧ k_ ≠ gb611))) _ _ t613 t616 t619 _ ?side1 ?side2 ?side3 A6.out).mono ?_
   (case side1 => exact zC (Kd.C_below HR0_1.out HB.out))
   (case side2 => exact HC0_1.out)
   (case side3 => exact Kd.N_V (HO615.out))
   rintro e w15 ⟨v617, v620, rfl, ho0, ho1, hb⟩
   refine ⟨_, rfl, ?_⟩
   replace HO615 := zM (Kd.N_elder' (by (with_reducible repeat (first | apply Kd.N_alloc | apply Kd.N_drewN | apply Kd.N_drew)); exact HO615.out) (Kd.R_base ho1) hb)
   have HO618 := zM (Kd.V_lower (Kd.V_mono (ok' := fun k_ => (w.heap.size ≤ k_) ∧ some k_ ≠ (v620 : Value).ownBlock ∧ k_ ≠ gb610 ∧ k_ ≠ gb611) ho0 (fun k_ hk_ => ⟨Or.elim hk_.1 (fun hs_ => hs_.1) (fun hn_ => (Nat.le_trans (below_size zB) hn_)), hk_.2, Or.elim hk_.1 (fun hs_ => hs_.2.1) (fun hn_ => (Kd.freshB (g := gb610) (o := .cells #[.int .i64 a0_0, .slice A0_1 l0_1.length c0_1] 28 (0, 0)) (zK BK610.out) k_ hn_)), Or.elim hk_.1 (fun hs_ => hs_.2.2) (fun hn_ => (Kd.freshB (g := gb611) (o := .cells #[.slice none 0 0, .slice none 0 0] 46 (0, 0)) (zK BK611.out) k_ hn_))⟩)) (below_size zB))
   have HO621 := zM (Kd.R_lower (Kd.R_newM (M := fun k_ => (w.heap.size ≤ k_)) (Kd.R_mono (ok' := fun k_ => True) ho1 (fun _ hk_ => trivial)) (below_size zB) (fun k_ h_ => h_)) (below_size zB))
   replace BK610 := zM (blk_below (g := gb610) (o := .cells #[.int .i64 a0_0, .slice A0_1 l0_1.length c0_1] 28 (0, 0)) (zK BK610.out) hb)
   replace BK611 := zM (blk_below (g := gb611) (o := .cells #[.slice none 0 0, .slice none 0 0] 46 (0, 0)) (zK BK611.out) hb)
   replace HB := zM (below_step zB hb)
   (try clear hb)
   (try clear hb2)
   (try clear hk)
   (try clear hi)
   (try clear ho0)
   (try clear ho1)
   obtain ⟨Ao16, co16, eo16⟩ := Kd.V_slice HO618.out
   (first | subst eo16 | (injection eo16 with f1_ f2_ f3_; have f4_ := f1_.symm; have f5_ := f3_.symm; clear f1_ f2_ f3_; subst f4_; subst f5_))
   obtain ⟨Ao18, co18, eo18⟩ := Kd.R_slice HO621.out
   (first | subst eo18 | (injection eo18 with f1_ f2_ f3_; have f4_ := f1_.symm; have f5_ := f3_.symm; clear f1_ f2_ f3_; subst f4_; subst f5_))
   refine hK.out _ _ ⟨(blk_cell BK610.out 0).trans rfl, (blk_cell BK610.out 1).trans rfl⟩ (fun hHeld => ?_)
   clear hK K
   refine zn 16 ?_
   refine one_ (i := 6) (N := none) #[true, true, true, true, true, true, true, false] rfl rfl (one_of HT_.out (by kernel_rfl)) (by decide) (fun K hK => ?_)
   have hs17 : w15.cell? ⟨gb611, 0, none⟩ = some (.slice none 0 0) := (blk_cell BK611.out 0).trans rfl
   have hfs17 := blk_frozen BK611.out 0
   have hns17_0 := NB610_611.out
   have hms17_0 := NB611_610.out
   have hs19 : w15.cell? ⟨gb611, 1, none⟩ = some (.slice none 0 0) := (blk_cell BK611.out 1).trans rfl
   have hfs19 := blk_frozen BK611.out 1
   have hns19_0 := NB610_611.out
   have hms19_0 := NB611_610.out
   refine skip_ (w1 := ?_) (by rfl) rfl ?_ ?_
   rotate_left
   · go_simp
     rfl
   refine hK.out _ _ ⟨((cell_far (p := ⟨gb611, _, none⟩) NB610_611.out _).trans (((cell_far (p := ⟨gb611, _, none⟩) NB610_611.out _).trans (hHeld.1)))), ((cell_far (p := ⟨gb611, _, none⟩) NB610_611.out _).trans (((cell_far (p := ⟨gb611, _, none⟩) NB610_611.out _).trans (hHeld.2))))⟩ (fun hHeld => ?_)
   clear hK K
   refine zp HT_ 7 5 ?_
   refine zo HT_ ?_
   try go_wp2
   refine bodyPost_ret (results_ct rfl _ _ gb611 46 #[.slice Ao16 t616.length co16, .slice Ao18 t619.length co18] (0, 0) _ rfl (by (with_reducible repeat (first | refine blk_drewN ?_ _ | refine blk_drew ?_ | refine blk_alloc ?_ _)); refine blk_put (cs := #[.slice Ao16 t616.length co16, .slice none 0 0]) ?_ 1 _ rfl; (with_reducible repeat (first | refine blk_drewN ?_ _ | refine blk_drew ?_ | refine blk_alloc ?_ _)); refine blk_put (cs := #[.slice none 0 0, .slice none 0 0]) ?_ 0 _ rfl; (with_reducible repeat (first | refine blk_drewN ?_ _ | refine blk_drew ?_ | refine blk_alloc ?_ _)); exact BK611.out) Try.underlying46 rfl (by kernel_rfl)) rfl ?_
   exact ⟨_, _, by first | rfl | (simp [errW_none, errW_some] <;> rfl) | (simp [*, errW_none, errW_some] <;> rfl), by (with_reducible repeat (first | apply Kd.V_alloc | apply Kd.V_drewN | apply Kd.V_drew)); exact Kd.V_mono (Kd.V_far (p := ⟨gb611, 1, none⟩) (Kd.V_far (p := ⟨gb611, 0, none⟩) (Kd.V_mono HO618.out (fun k_ hk => (⟨hk, hk.2.2.2⟩ : _ ∧ k_ ≠ gb611))) (fun _ hk => hk.2) (.slice Ao16 t616.length co16)) (fun _ hk => hk.2) (.slice Ao18 t619.length co18)) (fun _ hk => ⟨hk.1.1, hk.1.2.1⟩), by (with_reducible repeat (first | apply Kd.R_alloc | apply Kd.R_drewN | apply Kd.R_drew)); exact Kd.R_mono (Kd.R_far (p := ⟨gb611, 1, none⟩) (Kd.R_far (p := ⟨gb611, 0, none⟩) (Kd.R_types HO621.out BK611.out (by decide)) (fun _ hk => hk.2) (.slice Ao16 t616.length co16)) (fun _ hk => hk.2) (.slice Ao18 t619.length co18)) (fun _ hk => hk.1.1), zB⟩
 · replace c4 := Bool.eq_false_iff.mpr c4
   subst c4
   have H1 : (some (([] : List (List Int)), ([] : List (S70)), false)) = some (r1, r2, r3) := by rw [if_neg (show ¬ (false = true) by decide)] at H; exact H
   clear H
   have H := H1
   clear H1
   simp only [Option.some.injEq, Prod.mk.injEq] at H
   obtain ⟨rfl, rfl, rfl⟩ := H
   go_enter Try.func35, Try.ntmps35
   go_wp2_with (first | ((with_reducible refine gate_dst (N := 2) rfl ?_); refine zb (w := w) 2 #[.int .i64 a0_0, .slice A0_1 l0_1.length c0_1] 28 zB ?_; clear HB; intro gb610 w20 HB BK610 GW610; have GE610 := GW610) | ((with_reducible refine gate_dst (N := 4) rfl ?_); refine ze 4 #[.slice none 0 0, .slice none 0 0] 46 ?_; intro gb611 hg w21 hbox hb; have BK611 := zM (hbox); have GW611 := zM ((by rw [hg]; exact (below_size zB) : w.heap.size ≤ gb611)); have GE611 := zM ((by rw [hg]; exact (below_size zB) : w.heap.size ≤ gb611)); replace HB := zM (below_step zB hb); have NB610_611 := zM ((by rw [hg]; exact Nat.ne_of_lt (blk_lt (g := gb610) (o := .cells #[.int .i64 a0_0, .slice A0_1 l0_1.length c0_1] 28 (0, 0)) (zK BK610.out)) : gb610 ≠ gb611)); have NB611_610 := zM ((by rw [hg]; exact Nat.ne_of_gt (blk_lt (g := gb610) (o := .cells #[.int .i64 a0_0, .slice A0_1 l0_1.length c0_1] 28 (0, 0)) (zK BK610.out)) : gb611 ≠ gb610)); replace BK610 := zM (blk_below (g := gb610) (o := .cells #[.int .i64 a0_0, .slice A0_1 l0_1.length c0_1] 28 (0, 0)) (zK BK610.out) hb); clear hb hbox hg; have hnb22 := NB610_611.out; have hnc22 := NB611_610.out; have hcz23_0 := zy BK610 0; have hcz23_1 := zy BK610 1; have hfz23_0 := blk_frozen BK610.out 0; have hfz23_1 := blk_frozen BK610.out 1) | ((with_reducible refine gate_callee (f := 45) rfl ?_); refine zc 8 Try.func45 #[.agg #[.int .i64 a0_0, .slice A0_1 l0_1.length c0_1], .int .i64 a1] ?_; (with_reducible refine (spec_l3Ask.calls k a0_0 _ _ l0_1 a1 false _ ?side1 ?side2 A3.out).mono ?_); (case side1 => exact zC (Kd.C_below HR0_1.out HB.out)); (case side2 => exact HC0_1.out); rintro e w24 ⟨rfl, hb⟩; refine ⟨_, rfl, ?_⟩; replace BK610 := zM (blk_below (g := gb610) (o := .cells #[.int .i64 a0_0, .slice A0_1 l0_1.length c0_1] 28 (0, 0)) (zK BK610.out) hb); replace BK611 := zM (blk_below (g := gb611) (o := .cells #[.slice none 0 0, .slice none 0 0] 46 (0, 0)) (zK BK611.out) hb); replace HB := zM (below_step zB hb); (try clear hb); (try clear hb2); (try clear hk); (try clear hi); have hcz25_0 := zy BK611 0; have hcz25_1 := zy BK611 1; have hfz25_0 := blk_frozen BK611.out 0; have hfz25_1 := blk_frozen BK611.out 1))
   refine bodyPost_ret (results_ct rfl _ _ gb611 46 #[.slice none 0 0, .slice none 0 0] (0, 0) _ rfl (by (with_reducible repeat (first | refine blk_drewN ?_ _ | refine blk_drew ?_ | refine blk_alloc ?_ _)); refine blk_put (cs := #[.slice none 0 0, .slice none 0 0]) ?_ 1 _ rfl; (with_reducible repeat (first | refine blk_drewN ?_ _ | refine blk_drew ?_ | refine blk_alloc ?_ _)); refine blk_put (cs := #[.slice none 0 0, .slice none 0 0]) ?_ 0 _ rfl; (with_reducible repeat (first | refine blk_drewN ?_ _ | refine blk_drew ?_ | refine blk_alloc ?_ _)); exact BK611.out) Try.underlying46 rfl (by kernel_rfl)) rfl ?_
   exact ⟨_, _, by first | rfl | (simp [errW_none, errW_some] <;> rfl) | (simp [*, errW_none, errW_some] <;> rfl), Kd.V_nil _ _ _ _ _, by first | exact Kd.R_nil _ _ _ _ _ | exact Kd.N_nil _ _ _ _ _ | exact Kd.V_nil _ _ _ _ _ | exact Kd.Q_nil _ _ _ _ _ | exact Kd.S_nil _ _ _ _ _, zB⟩

-- NOT PRINTED: function 9 (laws_FnExactSlideSpace)

end Go.Proofs.Ytadjbmcfgjmhkaa.P
namespace Go.Proofs.Ytadjbmcfgjmhkaa.P
open Go.RowKit Go.Proofs.YtadjbmcfgjmhkaaW.PrintWords Go.Proofs.YtadjbmcfgjmhkaaW.PrintLast Go.Proofs.YtadjbmcfgjmhkaaW.PrintMore
set_option linter.unusedVariables false
section
variable {α : Type} {d : Kd α} {e base : Nat} {ok S : Nat → Prop} {w W W1 : World} {v : Value} {xs : List α} {g : Nat} {o : Obj}
theorem uR (hB : Below w.heap.size w W) (h : d.R e W1 W.heap.size (fun _ => True) v xs) : Aside0 (d.R e W1 w.heap.size (fun k => W.heap.size ≤ k ∧ k < W1.heap.size) v xs) :=
  ⟨Kd.R_mono (Kd.R_lower (Kd.R_bound h) (below_size hB)) (fun k hk => ⟨hk.2.1, hk.2.2.1⟩)⟩
theorem uS (hB : Below w.heap.size w W) (h : Kd.S d e W1 W.heap.size (fun _ => True) v xs) : Aside0 (Kd.S d e W1 w.heap.size (fun k => W.heap.size ≤ k ∧ k < W1.heap.size) v xs) :=
  ⟨Kd.S_mono (Kd.S_lower (Kd.S_bound h) (below_size hB)) (fun k hk => ⟨hk.2.1, hk.2.2.1⟩)⟩
theorem uV (hB : Below w.heap.size w W) (h : Kd.V d e W1 W.heap.size (fun k_ => W.heap.size ≤ k_) v xs) : Aside0 (Kd.V d e W1 w.heap.size (fun k => W.heap.size ≤ k ∧ k < W1.heap.size) v xs) :=
  ⟨Kd.V_mono (Kd.V_lower (Kd.V_bound h) (below_size hB)) (fun k hk => ⟨hk.1, hk.2⟩)⟩
theorem uVb (h : Aside0 (Kd.V d e W base ok v xs)) (hb : Below W.heap.size W W1) : Aside0 (Kd.V d e W1 base ok v xs) := ⟨Kd.V_below h.out hb⟩
theorem uVk (h : Aside0 (Kd.V d e W base ok v xs)) (hk : Kept W W1 S) (hne : ∀ k, ok k → ¬ S k) : Aside0 (Kd.V d e W1 base ok v xs) := ⟨Kd.V_kept h.out hk hne⟩
theorem uRb (h : Aside0 (d.R e W base ok v xs)) (hb : Below W.heap.size W W1) : Aside0 (d.R e W1 base ok v xs) := ⟨Kd.R_below h.out hb⟩
theorem uSb (h : Aside0 (Kd.S d e W base ok v xs)) (hb : Below W.heap.size W W1) : Aside0 (Kd.S d e W1 base ok v xs) := ⟨Kd.S_below h.out hb⟩
theorem uKb (h : Aside0 (W.heap[g]? = some o)) (hb : Below W.heap.size W W1) : Aside0 (W1.heap[g]? = some o) := ⟨blk_below h.out hb⟩
theorem uRk (h : Aside0 (d.R e W base ok v xs)) (hk : Kept W W1 S) (hne : ∀ k, ok k → ¬ S k) : Aside0 (d.R e W1 base ok v xs) := ⟨Kd.R_kept h.out hk hne⟩
theorem uSk (h : Aside0 (Kd.S d e W base ok v xs)) (hk : Kept W W1 S) (hne : ∀ k, ok k → ¬ S k) : Aside0 (Kd.S d e W1 base ok v xs) := ⟨Kd.S_kept h.out hk hne⟩
theorem uKk (h : Aside0 (W.heap[g]? = some o)) (hk : Kept W W1 S) (hne : ¬ S g) : Aside0 (W1.heap[g]? = some o) := ⟨blk_kept h.out hk hne⟩
/-- A struct of two cells is stored into the call's own block. -/
theorem uBox {P : Program} {f : FuncId} {args : Array Value} {Q : Ending → World → Prop} {t : TypeId} {x y a b : Value} (hb : Aside0 (W.heap[g]? = some (.cells #[x, y] t (0, 0)))) (hB : Aside0 (Below w.heap.size w W)) (hg : w.heap.size ≤ g)
    (h : ∀ W', Aside0 (W'.heap[g]? = some (.cells #[a, b] t (0, 0))) → Kept W W' (fun k => k = g) → Aside0 (Below w.heap.size w W') → Calls P f args W' Q) : Calls P f args ((W.setCell ⟨g, 0, none⟩ a).setCell ⟨g, 1, none⟩ b) Q :=
  h _ ⟨blk_put (cs := #[a, y]) (blk_put (cs := #[x, y]) hb.out 0 a rfl) 1 b rfl⟩ (Kept.setCell (Kept.setCell (Kept.refl W (fun k => k = g)) (p := ⟨g, 0, none⟩) (.inl rfl) a) (p := ⟨g, 1, none⟩) (.inl rfl) b) ⟨below_set (below_set hB.out hg) hg⟩
theorem uArgs {P : Program} {f : FuncId} {args args' : Array Value} {Q : Ending → World → Prop} (h : args = args') (k : Calls P f args' W Q) : Calls P f args W Q := h ▸ k
end
end Go.Proofs.Ytadjbmcfgjmhkaa.P
