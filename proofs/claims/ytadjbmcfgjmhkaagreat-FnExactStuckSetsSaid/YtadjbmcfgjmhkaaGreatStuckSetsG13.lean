-- Written by a program of this session (the kit's print, turned: wip/print/patch.py) out of the translation. Not trusted: Lean checks it.
import Derived.Test.YtadjbmcfgjmhkaaGreatStuckSetsG5
import Derived.Test.YtadjbmcfgjmhkaaGreatStuckSetsG6
import Derived.Test.YtadjbmcfgjmhkaaGreatStuckSetsG11
import Derived.Test.YtadjbmcfgjmhkaaGreatStuckSetsG9
import Derived.Test.YtadjbmcfgjmhkaaGreatStuckSetsG12
import Derived.Test.YtadjbmcfgjmhkaaGreatStuckSetsG8
namespace Go.Proofs.YtadjbmcfgjmhkaaGreat.P
open Go.RowKit Go.Proofs.YtadjbmcfgjmhkaaGreatW.PrintWords Go.Proofs.YtadjbmcfgjmhkaaGreatW.PrintLast Go.Proofs.YtadjbmcfgjmhkaaGreatW.PrintMore
attribute [local go_sem] max2_int min2_int max_two min_two max_three min_three max_four min_four   -- for this text's walks alone
set_option linter.unusedVariables false
set_option linter.unusedSimpArgs false

/-! ### spec_l3Space: function 33 -/
mutual
def spec_l3Space.l0 : Nat → Int → List (List Int) → Int → Int → List (S69) → List (List Int) → List (S69) → Option ((List (List Int)) × (List (S69)))
 | 0, _, _, _, _, _, _, _ => none
 | k + 1, x1, x2, x8, x424000, x424001, x429000, x429001 => if x8 < (x2.length : Int) then (spec_l3Space.l1 k x1 x2 x8 (wrap64 (x8 + 1)) x424000 x424001 x429000 x429001) else (some (x429000, x429001))
def spec_l3Space.l1 : Nat → Int → List (List Int) → Int → Int → Int → List (S69) → List (List Int) → List (S69) → Option ((List (List Int)) × (List (S69)))
 | 0, _, _, _, _, _, _, _, _ => none
 | k + 1, x1, x2, x8, x9, x424000, x424001, x429000, x429001 => if x9 < (x2.length : Int) then (if 0 ≤ x8 then (if x8 < (x2.length : Int) then (if 0 ≤ x9 then ((spec_l3Step.f k x424000 x424001 x1 (rd_L2 x2 x8) (rd_L2 x2 x9)).bind fun t431 => (if t431 = true then (if x429001.length < 8796093022208 then (spec_l3Space.l1 k x1 x2 x8 (wrap64 (x9 + 1)) x424000 x424001 x429000 (x429001 ++ [(⟨x8, x9⟩ : S69)])) else (none)) else (spec_l3Space.l1 k x1 x2 x8 (wrap64 (x9 + 1)) x424000 x424001 x429000 x429001))) else (none)) else (none)) else (none)) else (spec_l3Space.l0 k x1 x2 (wrap64 (x8 + 1)) x424000 x424001 x429000 x429001)
end
def spec_l3Space.f (k : Nat) (a0_0 : Int) (l0_1 : List (S69)) (a1 : Int) (l2 : List (List Int)) : Option ((List (List Int)) × (List (S69))) := spec_l3Space.l0 k a1 l2 0 a0_0 l0_1 l2 (([] : List (S69)))
def spec_l3Space.T8 : Bool × List (List Nat × List Nat) := (true, [([], []), ([], []), ([], []), ([], []), ([2, 3], [2, 3]), ([4], [4]), ([], []), ([], []), ([6, 7], [6, 7]), ([8], [8]), ([0, 1, 5, 9], [0, 1, 5, 9])])
def spec_l3Space.B8 : List Nat := [0, 0, 0, 0, 12, 28, 0, 0, 192, 448, 1023]
theorem spec_l3Space.tab8 : rtab .any (opsOf Tryz.f33 8) = spec_l3Space.T8 := by kernel_rfl
theorem spec_l3Space.bits8 : waitsOk spec_l3Space.T8.2 spec_l3Space.B8 = true := by kernel_rfl
set_option maxHeartbeats 8000000 in
set_option maxRecDepth 100000 in
theorem spec_l3Space.calls (k : Nat) (a0_0 : Int) (A0_1 : Option Addr) (c0_1 : Nat) (l0_1 : List (S69)) (a1 : Int) (P2_ : Nat → Prop) (A2 : Option Addr) (c2 : Nat) (l2 : List (List Int)) (r1 : List (List Int)) (r2 : List (S69)) (w : World) (hr0_1 : Kd.C k69 w A0_1 l0_1.length l0_1) (hc0_1 : l0_1.length ≤ c0_1) (hs2 : Kd.V (Kd.slice 3 (Kd.int .i64)) 25 w w.heap.size (fun k_ => P2_ k_) (.slice A2 l2.length c2) l2) (h : spec_l3Space.f k a0_0 l0_1 a1 l2 = some (r1, r2)) :
 Calls Tryz.prog 33 #[.agg #[.int .i64 a0_0, .slice A0_1 l0_1.length c0_1], .int .i64 a1, .slice A2 l2.length c2] w fun e w' => ∃ v0_ v1_ : Value, e = .returned (.agg #[v0_, v1_]) ∧ Kd.V (Kd.slice 3 (Kd.int .i64)) 25 w' w.heap.size (fun k_ => (P2_ k_ ∨ w.heap.size ≤ k_) ∧ some k_ ≠ (v1_ : Value).ownBlock) v0_ r1 ∧ Kd.R k69 69 w' w.heap.size (fun k_ => (w.heap.size ≤ k_)) v1_ r2 ∧ Below w.heap.size w w' := by
 have hu30 := Tryz.underlying30
 have hu52 := Tryz.underlying52
 have hu69 := Tryz.underlying69
 have HR0_1 := Aside0.mk hr0_1
 have HC0_1 := Aside0.mk hc0_1
 clear hr0_1 hc0_1
 have HO2 := zM (show Kd.V (Kd.slice 3 (Kd.int .i64)) 25 w w.heap.size (fun k_ => (P2_ k_ ∨ w.heap.size ≤ k_)) (.slice A2 l2.length c2) l2 from Kd.V_mono hs2 (fun k_ hk => .inl hk))
 have HB := zM (Below.refl w.heap.size w)
 have H : (spec_l3Space.l0 k a1 l2 0 a0_0 l0_1 l2 (([] : List (S69)))) = some (r1, r2) := h
 clear h
 obtain ⟨y425, hy425⟩ : ∃ y_ : List (S69), y_ = (([] : List (S69))) := ⟨_, rfl⟩
 replace H : (spec_l3Space.l0 k a1 l2 0 a0_0 l0_1 l2 y425) = some (r1, r2) := by first | (rw [hy425]; with_reducible exact H) | (have H2_ := (Option.bind_some _ _).symm.trans H; rw [hy425]; with_reducible exact H2_) | (have H2_ := (Option.bind_some _ _).symm.trans H; with_reducible exact H2_) | with_reducible exact H | (rw [hy425]; exact H) | exact H
 have Ny425 := Aside0.mk hy425
 clear hy425
 have H' := Aside0.mk H
 clear H
 go_enter Tryz.func33, Tryz.ntmps33
 go_wp2_with (first | ((with_reducible refine gate_dst (N := 3) rfl ?_); refine ze 3 #[.int .i64 a0_0, .slice A0_1 l0_1.length c0_1] 30 ?_; intro gb423 hg w4 hbox hb; replace HO2 := zM (Kd.V_below (Kd.V_elderB (by (with_reducible repeat (first | apply Kd.V_alloc | apply Kd.V_drewN | apply Kd.V_drew)); exact HO2.out) gb423 (Nat.le_of_eq hg.symm)) hb); have BK423 := zM (hbox); have GW423 := zM ((by rw [hg]; exact (below_size zB) : w.heap.size ≤ gb423)); have GE423 := zM ((by rw [hg]; exact (below_size zB) : w.heap.size ≤ gb423)); replace HB := zM (below_step zB hb); clear hb hbox hg) | ((with_reducible refine gate_dst (N := 6) rfl ?_); refine ze 6 #[.slice none 0 0, .slice none 0 0] 52 ?_; intro gb424 hg w5 hbox hb; replace HO2 := zM (Kd.V_below (Kd.V_elderB (by (with_reducible repeat (first | apply Kd.V_alloc | apply Kd.V_drewN | apply Kd.V_drew)); exact HO2.out) gb424 (Nat.le_of_eq hg.symm)) hb); have BK424 := zM (hbox); have GW424 := zM ((by rw [hg]; exact (below_size zB) : w.heap.size ≤ gb424)); have GE424 := zM ((by rw [hg]; exact (below_size zB) : w.heap.size ≤ gb424)); replace HB := zM (below_step zB hb); have NB423_424 := zM ((by rw [hg]; exact Nat.ne_of_lt (blk_lt (g := gb423) (o := .cells #[.int .i64 a0_0, .slice A0_1 l0_1.length c0_1] 30 (0, 0)) (zK BK423.out)) : gb423 ≠ gb424)); have NB424_423 := zM ((by rw [hg]; exact Nat.ne_of_gt (blk_lt (g := gb423) (o := .cells #[.int .i64 a0_0, .slice A0_1 l0_1.length c0_1] 30 (0, 0)) (zK BK423.out)) : gb424 ≠ gb423)); replace BK423 := zM (blk_below (g := gb423) (o := .cells #[.int .i64 a0_0, .slice A0_1 l0_1.length c0_1] 30 (0, 0)) (zK BK423.out) hb); clear hb hbox hg) | ((with_reducible refine gate_dst (N := 11) rfl ?_); refine Kd.R_lit k69 _ 69 ?hg (N := 11) ?hd (xs := ([] : List (S69))) (inner := []) (ok := fun _ => True) (okp := fun _ => True) ?hr ?hp (fun _ hk => hk) trivial (Below.refl _ _) (Nat.le_refl _) (by simp) ?_; (case hd => rfl); (case hg => rfl); (case hr => first | (go_simp; done) | (go_simp; rfl)); (case hp => exact (Reps.none _ _)); intro v426 w6 ho7 hb hg_ hnew_; clear hg_ hnew_; (first | rw [← Ny425.out] at ho7 | (simp only [Int.reduceToNat] at ho7; rw [← Ny425.out] at ho7)); replace HO2 := zM (Kd.V_elder' (by (with_reducible repeat (first | apply Kd.V_alloc | apply Kd.V_drewN | apply Kd.V_drew)); exact HO2.out) (Kd.R_base ho7) hb); have HO427 := zM (Kd.R_lower (Kd.R_newM (M := fun k_ => (w.heap.size ≤ k_)) ho7 (below_size zB) (fun k_ h_ => h_)) (below_size zB)); replace BK423 := zM (blk_below (g := gb423) (o := .cells #[.int .i64 a0_0, .slice A0_1 l0_1.length c0_1] 30 (0, 0)) (zK BK423.out) hb); replace BK424 := zM (blk_below (g := gb424) (o := .cells #[.slice none 0 0, .slice none 0 0] 52 (0, 0)) (zK BK424.out) hb); replace HB := zM (below_step zB hb); clear hb ho7; obtain ⟨Ao8, co8, eo8⟩ := Kd.R_slice HO427.out; subst eo8) | ((with_reducible refine gate_dst (N := 7) rfl ?_); refine ze 7 #[.slice none 0 0, .slice none 0 0] 52 ?_; intro gb428 hg w9 hbox hb; replace HO2 := zM (Kd.V_below (Kd.V_elderB (by (with_reducible repeat (first | apply Kd.V_alloc | apply Kd.V_drewN | apply Kd.V_drew)); exact HO2.out) gb428 (Nat.le_of_eq hg.symm)) hb); replace HO427 := zM (Kd.R_below (zR HO427.out) hb); have BK428 := zM (hbox); have GW428 := zM ((by rw [hg]; exact (below_size zB) : w.heap.size ≤ gb428)); have GE428 := zM ((by rw [hg]; exact (below_size zB) : w.heap.size ≤ gb428)); replace HB := zM (below_step zB hb); have NB423_428 := zM ((by rw [hg]; exact Nat.ne_of_lt (blk_lt (g := gb423) (o := .cells #[.int .i64 a0_0, .slice A0_1 l0_1.length c0_1] 30 (0, 0)) (zK BK423.out)) : gb423 ≠ gb428)); have NB428_423 := zM ((by rw [hg]; exact Nat.ne_of_gt (blk_lt (g := gb423) (o := .cells #[.int .i64 a0_0, .slice A0_1 l0_1.length c0_1] 30 (0, 0)) (zK BK423.out)) : gb428 ≠ gb423)); replace BK423 := zM (blk_below (g := gb423) (o := .cells #[.int .i64 a0_0, .slice A0_1 l0_1.length c0_1] 30 (0, 0)) (zK BK423.out) hb); have NB424_428 := zM ((by rw [hg]; exact Nat.ne_of_lt (blk_lt (g := gb424) (o := .cells #[.slice none 0 0, .slice none 0 0] 52 (0, 0)) (zK BK424.out)) : gb424 ≠ gb428)); have NB428_424 := zM ((by rw [hg]; exact Nat.ne_of_gt (blk_lt (g := gb424) (o := .cells #[.slice none 0 0, .slice none 0 0] 52 (0, 0)) (zK BK424.out)) : gb428 ≠ gb424)); replace BK424 := zM (blk_below (g := gb424) (o := .cells #[.slice none 0 0, .slice none 0 0] 52 (0, 0)) (zK BK424.out) hb); clear hb hbox hg; have hnb10 := NB428_423.out; have hnc10 := NB423_428.out; have hnb11 := NB428_424.out; have hnc11 := NB424_428.out; have hcz12_0 := zy BK428 0; have hcz12_1 := zy BK428 1; have hfz12_0 := blk_frozen BK428.out 0; have hfz12_1 := blk_frozen BK428.out 1))
 go_loopg [8] k (fun kq v8 w' => ∃ (x8_1 : Int) (x429001_1 : List (S69)) (u429001 : Value), v8 = .int .i64 x8_1 ∧ Aside0 (spec_l3Space.l0 kq a1 l2 x8_1 a0_0 l0_1 l2 x429001_1 = some (r1, r2)) ∧ Aside0 (kq ≤ k) ∧ Aside0 (Kd.V (Kd.slice 3 (Kd.int .i64)) 25 w' w.heap.size (fun k_ => (P2_ k_ ∨ w.heap.size ≤ k_) ∧ some k_ ≠ (u429001 : Value).ownBlock ∧ k_ ≠ gb423 ∧ k_ ≠ gb424 ∧ k_ ≠ gb428) (.slice A2 l2.length c2) l2) ∧ Aside0 (Kd.V (Kd.slice 3 (Kd.int .i64)) 25 w' w.heap.size (fun k_ => (P2_ k_ ∨ w.heap.size ≤ k_) ∧ some k_ ≠ (u429001 : Value).ownBlock ∧ k_ ≠ gb423 ∧ k_ ≠ gb424 ∧ k_ ≠ gb428) (.slice A2 l2.length c2) l2) ∧ Aside0 (Kd.R k69 69 w' w.heap.size (fun k_ => (w.heap.size ≤ k_)) u429001 x429001_1) ∧ Aside0 (w'.heap[gb423]? = some (.cells #[.int .i64 a0_0, (.slice A0_1 l0_1.length c0_1)] 30 (0, 0))) ∧ Aside0 (w'.heap[gb424]? = some (.cells #[(.slice none 0 0), (.slice none 0 0)] 52 (0, 0))) ∧ Aside0 (w'.heap[gb428]? = some (.cells #[(.slice A2 l2.length c2), u429001] 52 (0, 0))) ∧ Aside0 (Below w.heap.size w w'))
 case atStart => exact ⟨(0), (y425), (.slice Ao8 y425.length co8), (by first | rfl | (simp; done) | (simp [*]; done)), H', ⟨Nat.le_refl _⟩, ⟨by (with_reducible repeat (first | apply Kd.V_alloc | apply Kd.V_drewN | apply Kd.V_drew)); exact Kd.V_mono (Kd.V_far (p := ⟨gb428, 1, none⟩) (Kd.V_far (p := ⟨gb428, 0, none⟩) (Kd.V_mono HO2.out (fun k_ hk => (⟨hk, hk.2⟩ : _ ∧ k_ ≠ gb428))) (fun _ hk => hk.2) (.slice A2 l2.length c2)) (fun _ hk => hk.2) (.slice Ao8 y425.length co8)) (fun _ hk => ⟨hk.1.1.1.1.1, ⟨hk.1.1.2, ⟨hk.1.1.1.1.2, ⟨hk.1.1.1.2, hk.1.2⟩⟩⟩⟩)⟩, ⟨by (with_reducible repeat (first | apply Kd.V_alloc | apply Kd.V_drewN | apply Kd.V_drew)); exact Kd.V_mono (Kd.V_far (p := ⟨gb428, 1, none⟩) (Kd.V_far (p := ⟨gb428, 0, none⟩) (Kd.V_mono HO2.out (fun k_ hk => (⟨hk, hk.2⟩ : _ ∧ k_ ≠ gb428))) (fun _ hk => hk.2) (.slice A2 l2.length c2)) (fun _ hk => hk.2) (.slice Ao8 y425.length co8)) (fun _ hk => ⟨hk.1.1.1.1.1, ⟨hk.1.1.2, ⟨hk.1.1.1.1.2, ⟨hk.1.1.1.2, hk.1.2⟩⟩⟩⟩)⟩, ⟨by (with_reducible repeat (first | apply Kd.R_alloc | apply Kd.R_drewN | apply Kd.R_drew)); exact Kd.R_mono (Kd.R_far (p := ⟨gb428, 1, none⟩) (Kd.R_far (p := ⟨gb428, 0, none⟩) (Kd.R_types HO427.out BK428.out (by decide)) (fun _ hk => hk.2) (.slice A2 l2.length c2)) (fun _ hk => hk.2) (.slice Ao8 y425.length co8)) (fun _ hk => hk.1.1)⟩, ⟨by (with_reducible repeat (first | refine blk_drewN ?_ _ | refine blk_drew ?_ | refine blk_alloc ?_ _)); refine blk_far ?_ NB423_428.out _; (with_reducible repeat (first | refine blk_drewN ?_ _ | refine blk_drew ?_ | refine blk_alloc ?_ _)); refine blk_far ?_ NB423_428.out _; (with_reducible repeat (first | refine blk_drewN ?_ _ | refine blk_drew ?_ | refine blk_alloc ?_ _)); exact BK423.out⟩, ⟨by (with_reducible repeat (first | refine blk_drewN ?_ _ | refine blk_drew ?_ | refine blk_alloc ?_ _)); refine blk_far ?_ NB424_428.out _; (with_reducible repeat (first | refine blk_drewN ?_ _ | refine blk_drew ?_ | refine blk_alloc ?_ _)); refine blk_far ?_ NB424_428.out _; (with_reducible repeat (first | refine blk_drewN ?_ _ | refine blk_drew ?_ | refine blk_alloc ?_ _)); exact BK424.out⟩, ⟨by (with_reducible repeat (first | refine blk_drewN ?_ _ | refine blk_drew ?_ | refine blk_alloc ?_ _)); refine blk_put (cs := #[.slice A2 l2.length c2, .slice none 0 0]) ?_ 1 _ rfl; (with_reducible repeat (first | refine blk_drewN ?_ _ | refine blk_drew ?_ | refine blk_alloc ?_ _)); refine blk_put (cs := #[.slice none 0 0, .slice none 0 0]) ?_ 0 _ rfl; (with_reducible repeat (first | refine blk_drewN ?_ _ | refine blk_drew ?_ | refine blk_alloc ?_ _)); exact BK428.out⟩, ⟨zB⟩⟩
 case round =>
  clear H'
  try clear c1
  try clear c2
  try clear p2
  try clear c3
  try clear c10
  try clear c11
  try clear hcz12_0
  try clear hcz12_1
  try clear hfz12_0
  try clear hfz12_1
  obtain ⟨x8_1, x429001_1, u429001, rfl, HA, HK1, HO_2, HO_429000, HO_429001, BK423, BK424, BK428, HB⟩ := hrel
  cases gk with
  | zero => exact absurd HA.out (by simp [spec_l3Space.l0])
  | succ k1 =>
   have H := HA.out
   clear HA
   simp only [spec_l3Space.l0] at H
   by_cases c13 : x8_1 < (l2.length : Int)
   · rw [if_pos c13] at H
     have c13b0 := decide_eq_true c13
     clear c13
     have H' := Aside0.mk H
     clear H
     go_wp2
     go_loopg [9] k1 (fun kq v9 w' => ∃ (x9_2 : Int) (x429001_2 : List (S69)) (u429001 : Value), v9 = .int .i64 x9_2 ∧ Aside0 (spec_l3Space.l1 kq a1 l2 x8_1 x9_2 a0_0 l0_1 l2 x429001_2 = some (r1, r2)) ∧ Aside0 (kq ≤ k1) ∧ Aside0 (Kd.V (Kd.slice 3 (Kd.int .i64)) 25 w' w.heap.size (fun k_ => (P2_ k_ ∨ w.heap.size ≤ k_) ∧ some k_ ≠ (u429001 : Value).ownBlock ∧ k_ ≠ gb423 ∧ k_ ≠ gb424 ∧ k_ ≠ gb428) (.slice A2 l2.length c2) l2) ∧ Aside0 (Kd.V (Kd.slice 3 (Kd.int .i64)) 25 w' w.heap.size (fun k_ => (P2_ k_ ∨ w.heap.size ≤ k_) ∧ some k_ ≠ (u429001 : Value).ownBlock ∧ k_ ≠ gb423 ∧ k_ ≠ gb424 ∧ k_ ≠ gb428) (.slice A2 l2.length c2) l2) ∧ Aside0 (Kd.R k69 69 w' w.heap.size (fun k_ => (w.heap.size ≤ k_)) u429001 x429001_2) ∧ Aside0 (w'.heap[gb423]? = some (.cells #[.int .i64 a0_0, (.slice A0_1 l0_1.length c0_1)] 30 (0, 0))) ∧ Aside0 (w'.heap[gb424]? = some (.cells #[(.slice none 0 0), (.slice none 0 0)] 52 (0, 0))) ∧ Aside0 (w'.heap[gb428]? = some (.cells #[(.slice A2 l2.length c2), u429001] 52 (0, 0))) ∧ Aside0 (Below w.heap.size w w'))
     case atStart => exact ⟨(wrap64 (x8_1 + 1)), (x429001_1), (u429001), (by first | rfl | (simp; done) | (simp [*]; done)), H', ⟨Nat.le_refl _⟩, ⟨by (with_reducible repeat (first | apply Kd.V_alloc | apply Kd.V_drewN | apply Kd.V_drew)); exact HO_2.out⟩, ⟨by (with_reducible repeat (first | apply Kd.V_alloc | apply Kd.V_drewN | apply Kd.V_drew)); exact HO_429000.out⟩, ⟨zR HO_429001.out⟩, ⟨zK BK423.out⟩, ⟨zK BK424.out⟩, ⟨zK BK428.out⟩, ⟨zB⟩⟩
     case round =>
      clear H'
      try clear c1
      try clear c2
      try clear p2
      try clear c3
      try clear p6
      try clear c10
      try clear c11
      try clear c13
      try clear c13b0
      try clear hcz12_0
      try clear hcz12_1
      try clear hfz12_0
      try clear hfz12_1
      try clear p2
      obtain ⟨x9_2, x429001_2, u429001, rfl, HA, HK2, HO_2, HO_429000, HO_429001, BK423, BK424, BK428, HB⟩ := hrel
      cases gk with
      | zero => exact absurd HA.out (by simp [spec_l3Space.l1])
      | succ k2 =>
       have H := HA.out
       clear HA
       simp only [spec_l3Space.l1] at H
       by_cases c14 : x9_2 < (l2.length : Int)
       · rw [if_pos c14] at H
         have c14b0 := decide_eq_true c14
         clear c14
         by_cases c15 : 0 ≤ x8_1
         · rw [if_pos c15] at H
           have c15b0 := decide_eq_true c15
           clear c15
           by_cases c16 : x8_1 < (l2.length : Int)
           · rw [if_pos c16] at H
             have c16b0 := decide_eq_true c16
             clear c16
             by_cases c17 : 0 ≤ x9_2
             · rw [if_pos c17] at H
               have c17b0 := decide_eq_true c17
               clear c17
               replace H := Option.bind_eq_some_iff.mp H
               obtain ⟨t431, A180, H⟩ := H
               replace H : (if t431 = true then (if x429001_2.length < 8796093022208 then (spec_l3Space.l1 k2 a1 l2 x8_1 (wrap64 (x9_2 + 1)) a0_0 l0_1 l2 (x429001_2 ++ [(⟨x8_1, x9_2⟩ : S69)])) else (none)) else (spec_l3Space.l1 k2 a1 l2 x8_1 (wrap64 (x9_2 + 1)) a0_0 l0_1 l2 x429001_2)) = some (r1, r2) := H
               have A18 := Aside0.mk A180
               clear A180
               by_cases c19 : t431 = true
               · subst c19
                 have H1 : (if x429001_2.length < 8796093022208 then (spec_l3Space.l1 k2 a1 l2 x8_1 (wrap64 (x9_2 + 1)) a0_0 l0_1 l2 (x429001_2 ++ [(⟨x8_1, x9_2⟩ : S69)])) else (none)) = some (r1, r2) := by rw [if_pos rfl] at H; exact H
                 clear H
                 have H := H1
                 clear H1
                 by_cases c20 : x429001_2.length < 8796093022208
                 · rw [if_pos c20] at H
                   have LMc20 := Aside0.mk c20
                   clear c20
                   obtain ⟨y432, hy432⟩ : ∃ y_ : List (S69), y_ = (x429001_2 ++ [(⟨x8_1, x9_2⟩ : S69)]) := ⟨_, rfl⟩
                   replace H : (spec_l3Space.l1 k2 a1 l2 x8_1 (wrap64 (x9_2 + 1)) a0_0 l0_1 l2 y432) = some (r1, r2) := by first | (rw [hy432]; with_reducible exact H) | (have H2_ := (Option.bind_some _ _).symm.trans H; rw [hy432]; with_reducible exact H2_) | (have H2_ := (Option.bind_some _ _).symm.trans H; with_reducible exact H2_) | with_reducible exact H | (rw [hy432]; exact H) | exact H
                   have Ny432 := Aside0.mk hy432
                   clear hy432
                   have H' := Aside0.mk H
                   clear H
                   try go_wp2
                   replace HO_2 := zM (Kd.V_drew HO_2.out)
                   replace HO_429000 := zM (Kd.V_drew HO_429000.out)
                   replace HO_429001 := zM (Kd.R_drew HO_429001.out)
                   replace BK423 := zM (blk_drew BK423.out)
                   replace BK424 := zM (blk_drew BK424.out)
                   replace BK428 := zM (blk_drew BK428.out)
                   replace HB := zM (below_drew1 HB.out)
                   have p429 : 0 ≤ (x8_1 : Int) := of_decide_eq_true zA
                   have q429 : x8_1 < (l2.length : Int) := of_decide_eq_true zA
                   obtain ⟨ad429, A429_0, c429_0, e429, hx429_0, hl429_0, hi429_0⟩ := at_L2 (Kd.V_reads' HO_2.out).2.2 x8_1 p429 q429
                   cases e429
                   obtain ⟨ce429, hce429, hMe429, hcc429⟩ := Kd.V_get HO_2.out [] x8_1 p429 (by first | exact q429 | exact of_decide_eq_true zA | (have e_ := (Kd.V_reads' HO_2.out).1; omega))
                   obtain ⟨ua429_0, uc429_0, rfl, ul429_0, ge429_0⟩ := Kd.FK_slice_open hMe429
                   have hv429_0 := hcc429 0 _ rfl
                   rw [Nat.add_zero, show ((Kd.slice 3 (Kd.int .i64))).sz = 1 from rfl, Nat.mul_one] at hv429_0
                   replace hv429_0 := Option.some.inj (hv429_0.symm.trans hx429_0)
                   injection hv429_0 with hva_ hvn_ hvc_
                   rw [hva_] at ge429_0
                   rw [hvc_] at ul429_0
                   have HL429_0 := zM (show Kd.V (Kd.int .i64) 3 _ w.heap.size _ _ (rd_L2 l2 x8_1) from Kd.V_mk ul429_0 ge429_0)
                   clear hva_ hvn_ hvc_ ge429_0 ul429_0
                   clear hcc429 hce429
                   have HR429_0 := Aside0.mk hi429_0
                   have HC429_0 := Aside0.mk hl429_0
                   clear hi429_0 hl429_0
                   replace p429 := eq_true p429
                   replace q429 := eq_true q429
                   have p430 : 0 ≤ (x9_2 : Int) := of_decide_eq_true zA
                   have q430 : x9_2 < (l2.length : Int) := of_decide_eq_true zA
                   obtain ⟨ad430, A430_0, c430_0, e430, hx430_0, hl430_0, hi430_0⟩ := at_L2 (Kd.V_reads' HO_2.out).2.2 x9_2 p430 q430
                   obtain rfl : ad429 = ad430 := (by injection e430)
                   obtain ⟨ce430, hce430, hMe430, hcc430⟩ := Kd.V_get HO_2.out [] x9_2 p430 (by first | exact q430 | exact of_decide_eq_true zA | (have e_ := (Kd.V_reads' HO_2.out).1; omega))
                   obtain ⟨ua430_0, uc430_0, rfl, ul430_0, ge430_0⟩ := Kd.FK_slice_open hMe430
                   have hv430_0 := hcc430 0 _ rfl
                   rw [Nat.add_zero, show ((Kd.slice 3 (Kd.int .i64))).sz = 1 from rfl, Nat.mul_one] at hv430_0
                   replace hv430_0 := Option.some.inj (hv430_0.symm.trans hx430_0)
                   injection hv430_0 with hva_ hvn_ hvc_
                   rw [hva_] at ge430_0
                   rw [hvc_] at ul430_0
                   have HL430_0 := zM (show Kd.V (Kd.int .i64) 3 _ w.heap.size _ _ (rd_L2 l2 x9_2) from Kd.V_mk ul430_0 ge430_0)
                   clear hva_ hvn_ hvc_ ge430_0 ul430_0
                   clear hcc430 hce430
                   have HR430_0 := Aside0.mk hi430_0
                   have HC430_0 := Aside0.mk hl430_0
                   clear hi430_0 hl430_0
                   replace p430 := eq_true p430
                   replace q430 := eq_true q430
                   refine zs (n := 11) (fun w' => w'.cell? ⟨gb423, 0, none⟩ = some (.int .i64 a0_0) ∧ w'.cell? ⟨gb423, 1, none⟩ = some (.slice A0_1 l0_1.length c0_1) ∧ w'.cell? (ad429.add (x8_1).toNat) = some (.slice A429_0 (rd_L2 l2 x8_1).length c429_0) ∧ w'.cell? (ad429.add (x9_2).toNat) = some (.slice A430_0 (rd_L2 l2 x9_2).length c430_0)) ⟨(blk_cell BK423.out 0).trans rfl, (blk_cell BK423.out 1).trans rfl, hx429_0, hx430_0⟩ (fun hHeld => ?_); refine with_tabW spec_l3Space.tab8 spec_l3Space.bits8 (fun HT_ HW_ => ?_)
                   generalize wr.drew = w21 at HO_2 HO_429000 HO_429001 BK423 BK424 BK428 HB HL429_0 HL430_0 HR429_0 HR430_0 hx429_0 hx430_0 hHeld ⊢
                   refine zp HT_ 1 28 ?_
                   refine zp HT_ 2 29 ?_
                   refine zp HT_ 3 30 ?_
                   refine zp HT_ 4 31 ?_
                   refine zp HT_ 6 33 ?_
                   refine zp HT_ 7 34 ?_
                   refine zp HT_ 8 35 ?_
                   refine zt HT_ HW_ 0 27 hHeld ?_ (hy := by rintro w' ⟨s0, s1, s2, s3⟩; go_simp; with_reducible rfl)
                   refine zt HT_ HW_ 5 32 hHeld ?_ (hy := by rintro w' ⟨s0, s1, s2, s3⟩; go_simp; with_reducible rfl)
                   refine zt HT_ HW_ 9 36 hHeld ?_ (hy := by rintro w' ⟨s0, s1, s2, s3⟩; go_simp; with_reducible rfl)
                   refine zg HT_ 10 37 Tryz.func54 #[.agg #[.int .i64 a0_0, .slice A0_1 l0_1.length c0_1], .int .i64 a1, .slice A429_0 (rd_L2 l2 x8_1).length c429_0, .slice A430_0 (rd_L2 l2 x9_2).length c430_0] (fun K hK => ?_)
                   with_reducible refine (spec_l3Step.calls k2 a0_0 _ _ l0_1 a1 _ _ (rd_L2 l2 x8_1) _ _ (rd_L2 l2 x9_2) true _ ?side1 ?side2 ?side3 ?side4 ?side5 ?side6 A18.out).mono ?_
                   (case side1 => exact zC (Kd.C_below HR0_1.out HB.out))
                   (case side2 => exact HC0_1.out)
                   (case side3 => repeat (first | exact (by repeat (first | (with_reducible exact HR429_0.out) | (with_reducible refine Kd.C_alloc ?_ _) | (with_reducible refine Kd.C_drewN ?_ _) | (with_reducible refine Kd.C_drew ?_) | exact HR429_0.out)) | (with_reducible refine Kd.C_alloc ?_ _) | (with_reducible refine Kd.C_drewN ?_ _) | (with_reducible refine Kd.C_drew ?_)))
                   (case side4 => exact HC429_0.out)
                   (case side5 => repeat (first | exact (by repeat (first | (with_reducible exact HR430_0.out) | (with_reducible refine Kd.C_alloc ?_ _) | (with_reducible refine Kd.C_drewN ?_ _) | (with_reducible refine Kd.C_drew ?_) | exact HR430_0.out)) | (with_reducible refine Kd.C_alloc ?_ _) | (with_reducible refine Kd.C_drewN ?_ _) | (with_reducible refine Kd.C_drew ?_)))
                   (case side6 => exact HC430_0.out)
                   rintro e w22 ⟨rfl, hb⟩
                   have HS2_ := (hb.cell (World.block_lt_of_cell? _ _ (hHeld.2.2.1))).trans (hHeld.2.2.1)
                   have HS3_ := (hb.cell (World.block_lt_of_cell? _ _ (hHeld.2.2.2))).trans (hHeld.2.2.2)
                   refine ⟨_, rfl, ?_⟩
                   replace HO_2 := zM (Kd.V_below (by (with_reducible repeat (first | apply Kd.V_alloc | apply Kd.V_drewN | apply Kd.V_drew)); exact HO_2.out) hb)
                   replace HO_429000 := zM (Kd.V_below (by (with_reducible repeat (first | apply Kd.V_alloc | apply Kd.V_drewN | apply Kd.V_drew)); exact HO_429000.out) hb)
                   replace HO_429001 := zM (Kd.R_below (zR HO_429001.out) hb)
                   replace HL429_0 := zM (Kd.V_below (by (with_reducible repeat (first | apply Kd.V_alloc | apply Kd.V_drewN | apply Kd.V_drew)); exact HL429_0.out) hb)
                   replace HL430_0 := zM (Kd.V_below (by (with_reducible repeat (first | apply Kd.V_alloc | apply Kd.V_drewN | apply Kd.V_drew)); exact HL430_0.out) hb)
                   replace BK423 := zM (blk_below (g := gb423) (o := .cells #[.int .i64 a0_0, .slice A0_1 l0_1.length c0_1] 30 (0, 0)) (zK BK423.out) hb)
                   replace BK424 := zM (blk_below (g := gb424) (o := .cells #[.slice none 0 0, .slice none 0 0] 52 (0, 0)) (zK BK424.out) hb)
                   replace BK428 := zM (blk_below (g := gb428) (o := .cells #[.slice (some ad429) l2.length c2, u429001] 52 (0, 0)) (zK BK428.out) hb)
                   replace HR429_0 := zM (Kd.C_below (by repeat (first | (with_reducible exact HR429_0.out) | (with_reducible refine Kd.C_alloc ?_ _) | (with_reducible refine Kd.C_drewN ?_ _) | (with_reducible refine Kd.C_drew ?_) | exact HR429_0.out)) hb)
                   replace HR430_0 := zM (Kd.C_below (by repeat (first | (with_reducible exact HR430_0.out) | (with_reducible refine Kd.C_alloc ?_ _) | (with_reducible refine Kd.C_drewN ?_ _) | (with_reducible refine Kd.C_drew ?_) | exact HR430_0.out)) hb)
                   replace HB := zM (below_step zB hb)
                   (try clear hb)
                   (try clear hb2)
                   (try clear hk)
                   (try clear hi)
                   refine hK.out _ _ ⟨(blk_cell BK423.out 0).trans rfl, (blk_cell BK423.out 1).trans rfl, HS2_, HS3_⟩ (fun hHeld => ?_)
                   clear hK K
                   refine zn 37 ?_
                   refine zo HT_ ?_
                   have hnb23 := NB428_423.out
                   have hnc23 := NB423_428.out
                   have hnb24 := NB428_424.out
                   have hnc24 := NB424_428.out
                   have hcz25_0 := zy BK428 0
                   have hcz25_1 := zy BK428 1
                   have hfz25_0 := blk_frozen BK428.out 0
                   have hfz25_1 := blk_frozen BK428.out 1
                   try go_wp2_with (first | ((with_reducible refine gate_builtin (b := .append) (xs := #[.tmp 39, .tmp 43]) rfl ?_); at_builtin; refine Kd.R_append k69 (w0 := w) w.heap.size rfl (.tmp 39) (.tmp 43) 22 69 (.agg #[(.int .i64 0), (.int .i64 0)]) 16 rfl Tryz.underlying22 info69 rfl (by decide) (by omega) u429001 x429001_2 (⟨x8_1, x9_2⟩ : S69) [.int .i64 x8_1, .int .i64 x9_2] (fun k_ => (w.heap.size ≤ k_)) (fun _ => False) rfl rfl ?aP (fun _ hk => hk.elim) ?aF ?aO ?aB ?aS ?aL ?_; (case aP => exact k69_mkM _ _ _ (⟨x8_1, x9_2⟩ : S69)); (case aB => exact zB); (case aF => exact (fun k_ hk => (Nat.le_trans (below_size zB) hk))); (case aO => exact (zR HO_429001.out)); (case aS => exact (below_size zB)); (case aL => have := LMc20.out; omega); intro v433 w26 ho hb hg hat; rw [← Ny432.out] at ho; replace HO_2 := zM (Kd.V_afterv (ok := (fun k_ => (P2_ k_ ∨ w.heap.size ≤ k_) ∧ k_ ≠ gb423 ∧ k_ ≠ gb424 ∧ k_ ≠ gb428)) (by (with_reducible repeat (first | apply Kd.V_alloc | apply Kd.V_drewN | apply Kd.V_drew)); exact Kd.V_mono HO_2.out (fun _ hk => ⟨⟨hk.1, ⟨hk.2.2.1, ⟨hk.2.2.2.1, hk.2.2.2.2⟩⟩⟩, hk.2.1⟩)) hg hat); replace HO_429000 := zM (Kd.V_afterv (ok := (fun k_ => (P2_ k_ ∨ w.heap.size ≤ k_) ∧ k_ ≠ gb423 ∧ k_ ≠ gb424 ∧ k_ ≠ gb428)) (by (with_reducible repeat (first | apply Kd.V_alloc | apply Kd.V_drewN | apply Kd.V_drew)); exact Kd.V_mono HO_429000.out (fun _ hk => ⟨⟨hk.1, ⟨hk.2.2.1, ⟨hk.2.2.2.1, hk.2.2.2.2⟩⟩⟩, hk.2.1⟩)) hg hat); replace BK423 := zM (blk_grown (g := gb423) (o := .cells #[.int .i64 a0_0, .slice A0_1 l0_1.length c0_1] 30 (0, 0)) (zK BK423.out) hg (Kd.R_ne HO_429001.out BK423.out (by decide))); replace BK424 := zM (blk_grown (g := gb424) (o := .cells #[.slice none 0 0, .slice none 0 0] 52 (0, 0)) (zK BK424.out) hg (Kd.R_ne HO_429001.out BK424.out (by decide))); replace BK428 := zM (blk_grown (g := gb428) (o := .cells #[.slice (some ad429) l2.length c2, u429001] 52 (0, 0)) (zK BK428.out) hg (Kd.R_ne HO_429001.out BK428.out (by decide))); replace HL429_0 := zM (Kd.V_afterv (ok := (fun k_ => (P2_ k_ ∨ w.heap.size ≤ k_) ∧ k_ ≠ gb423 ∧ k_ ≠ gb424 ∧ k_ ≠ gb428)) (by (with_reducible repeat (first | apply Kd.V_alloc | apply Kd.V_drewN | apply Kd.V_drew)); exact Kd.V_mono HL429_0.out (fun _ hk => ⟨⟨hk.1, ⟨hk.2.2.1, ⟨hk.2.2.2.1, hk.2.2.2.2⟩⟩⟩, hk.2.1⟩)) hg hat); replace HL430_0 := zM (Kd.V_afterv (ok := (fun k_ => (P2_ k_ ∨ w.heap.size ≤ k_) ∧ k_ ≠ gb423 ∧ k_ ≠ gb424 ∧ k_ ≠ gb428)) (by (with_reducible repeat (first | apply Kd.V_alloc | apply Kd.V_drewN | apply Kd.V_drew)); exact Kd.V_mono HL430_0.out (fun _ hk => ⟨⟨hk.1, ⟨hk.2.2.1, ⟨hk.2.2.2.1, hk.2.2.2.2⟩⟩⟩, hk.2.1⟩)) hg hat); replace HB := zM (hb); have HO434 := zM (ho); clear HO_429001; clear ho hb hg hat; obtain ⟨Ao27, co27, eo27⟩ := Kd.R_slice HO434.out; subst eo27; have hcz28_0 := zy BK428 0; have hcz28_1 := zy BK428 1; have hfz28_0 := blk_frozen BK428.out 0; have hfz28_1 := blk_frozen BK428.out 1))
                   go_roundg k2
                   case measure => have := HK1.out; have := HK2.out; omega
                   case rel => exact ⟨(wrap64 (x9_2 + 1)), (y432), (.slice Ao27 y432.length co27), (by first | rfl | (simp; done) | (simp [*]; done)), H', ⟨by have := HK1.out; have := HK2.out; omega⟩, ⟨by (with_reducible repeat (first | apply Kd.V_alloc | apply Kd.V_drewN | apply Kd.V_drew)); exact Kd.V_mono (Kd.V_far (p := ⟨gb428, 1, none⟩) (Kd.V_mono HO_2.out (fun k_ hk => (⟨hk, hk.1.2.2.2⟩ : _ ∧ k_ ≠ gb428))) (fun _ hk => hk.2) (.slice Ao27 y432.length co27)) (fun _ hk => ⟨hk.1.1.1, ⟨hk.1.2, ⟨hk.1.1.2.1, ⟨hk.1.1.2.2.1, hk.1.1.2.2.2⟩⟩⟩⟩)⟩, ⟨by (with_reducible repeat (first | apply Kd.V_alloc | apply Kd.V_drewN | apply Kd.V_drew)); exact Kd.V_mono (Kd.V_far (p := ⟨gb428, 1, none⟩) (Kd.V_mono HO_429000.out (fun k_ hk => (⟨hk, hk.1.2.2.2⟩ : _ ∧ k_ ≠ gb428))) (fun _ hk => hk.2) (.slice Ao27 y432.length co27)) (fun _ hk => ⟨hk.1.1.1, ⟨hk.1.2, ⟨hk.1.1.2.1, ⟨hk.1.1.2.2.1, hk.1.1.2.2.2⟩⟩⟩⟩)⟩, ⟨by (with_reducible repeat (first | apply Kd.R_alloc | apply Kd.R_drewN | apply Kd.R_drew)); exact Kd.R_mono (Kd.R_far (p := ⟨gb428, 1, none⟩) (Kd.R_types HO434.out BK428.out (by decide)) (fun _ hk => hk.2) (.slice Ao27 y432.length co27)) (fun _ hk => hk.1)⟩, ⟨by (with_reducible repeat (first | refine blk_drewN ?_ _ | refine blk_drew ?_ | refine blk_alloc ?_ _)); refine blk_far ?_ NB423_428.out _; (with_reducible repeat (first | refine blk_drewN ?_ _ | refine blk_drew ?_ | refine blk_alloc ?_ _)); exact BK423.out⟩, ⟨by (with_reducible repeat (first | refine blk_drewN ?_ _ | refine blk_drew ?_ | refine blk_alloc ?_ _)); refine blk_far ?_ NB424_428.out _; (with_reducible repeat (first | refine blk_drewN ?_ _ | refine blk_drew ?_ | refine blk_alloc ?_ _)); exact BK424.out⟩, ⟨by (with_reducible repeat (first | refine blk_drewN ?_ _ | refine blk_drew ?_ | refine blk_alloc ?_ _)); refine blk_put (cs := #[.slice (some ad429) l2.length c2, u429001]) ?_ 1 _ rfl; (with_reducible repeat (first | refine blk_drewN ?_ _ | refine blk_drew ?_ | refine blk_alloc ?_ _)); exact BK428.out⟩, ⟨zB⟩⟩
                 · rw [if_neg c20] at H
                   exact absurd H (by simp)
               · replace c19 := Bool.eq_false_iff.mpr c19
                 subst c19
                 have H1 : (spec_l3Space.l1 k2 a1 l2 x8_1 (wrap64 (x9_2 + 1)) a0_0 l0_1 l2 x429001_2) = some (r1, r2) := by rw [if_neg (show ¬ (false = true) by decide)] at H; exact H
                 clear H
                 have H := H1
                 clear H1
                 have H' := Aside0.mk H
                 clear H
                 try go_wp2
                 replace HO_2 := zM (Kd.V_drew HO_2.out)
                 replace HO_429000 := zM (Kd.V_drew HO_429000.out)
                 replace HO_429001 := zM (Kd.R_drew HO_429001.out)
                 replace BK423 := zM (blk_drew BK423.out)
                 replace BK424 := zM (blk_drew BK424.out)
                 replace BK428 := zM (blk_drew BK428.out)
                 replace HB := zM (below_drew1 HB.out)
                 have p429 : 0 ≤ (x8_1 : Int) := of_decide_eq_true zA
                 have q429 : x8_1 < (l2.length : Int) := of_decide_eq_true zA
                 obtain ⟨ad429, A429_0, c429_0, e429, hx429_0, hl429_0, hi429_0⟩ := at_L2 (Kd.V_reads' HO_2.out).2.2 x8_1 p429 q429
                 cases e429
                 obtain ⟨ce429, hce429, hMe429, hcc429⟩ := Kd.V_get HO_2.out [] x8_1 p429 (by first | exact q429 | exact of_decide_eq_true zA | (have e_ := (Kd.V_reads' HO_2.out).1; omega))
                 obtain ⟨ua429_0, uc429_0, rfl, ul429_0, ge429_0⟩ := Kd.FK_slice_open hMe429
                 have hv429_0 := hcc429 0 _ rfl
                 rw [Nat.add_zero, show ((Kd.slice 3 (Kd.int .i64))).sz = 1 from rfl, Nat.mul_one] at hv429_0
                 replace hv429_0 := Option.some.inj (hv429_0.symm.trans hx429_0)
                 injection hv429_0 with hva_ hvn_ hvc_
                 rw [hva_] at ge429_0
                 rw [hvc_] at ul429_0
                 have HL429_0 := zM (show Kd.V (Kd.int .i64) 3 _ w.heap.size _ _ (rd_L2 l2 x8_1) from Kd.V_mk ul429_0 ge429_0)
                 clear hva_ hvn_ hvc_ ge429_0 ul429_0
                 clear hcc429 hce429
                 have HR429_0 := Aside0.mk hi429_0
                 have HC429_0 := Aside0.mk hl429_0
                 clear hi429_0 hl429_0
                 replace p429 := eq_true p429
                 replace q429 := eq_true q429
                 have p430 : 0 ≤ (x9_2 : Int) := of_decide_eq_true zA
                 have q430 : x9_2 < (l2.length : Int) := of_decide_eq_true zA
                 obtain ⟨ad430, A430_0, c430_0, e430, hx430_0, hl430_0, hi430_0⟩ := at_L2 (Kd.V_reads' HO_2.out).2.2 x9_2 p430 q430
                 obtain rfl : ad429 = ad430 := (by injection e430)
                 obtain ⟨ce430, hce430, hMe430, hcc430⟩ := Kd.V_get HO_2.out [] x9_2 p430 (by first | exact q430 | exact of_decide_eq_true zA | (have e_ := (Kd.V_reads' HO_2.out).1; omega))
                 obtain ⟨ua430_0, uc430_0, rfl, ul430_0, ge430_0⟩ := Kd.FK_slice_open hMe430
                 have hv430_0 := hcc430 0 _ rfl
                 rw [Nat.add_zero, show ((Kd.slice 3 (Kd.int .i64))).sz = 1 from rfl, Nat.mul_one] at hv430_0
                 replace hv430_0 := Option.some.inj (hv430_0.symm.trans hx430_0)
                 injection hv430_0 with hva_ hvn_ hvc_
                 rw [hva_] at ge430_0
                 rw [hvc_] at ul430_0
                 have HL430_0 := zM (show Kd.V (Kd.int .i64) 3 _ w.heap.size _ _ (rd_L2 l2 x9_2) from Kd.V_mk ul430_0 ge430_0)
                 clear hva_ hvn_ hvc_ ge430_0 ul430_0
                 clear hcc430 hce430
                 have HR430_0 := Aside0.mk hi430_0
                 have HC430_0 := Aside0.mk hl430_0
                 clear hi430_0 hl430_0
                 replace p430 := eq_true p430
                 replace q430 := eq_true q430
                 refine zs (n := 11) (fun w' => w'.cell? ⟨gb423, 0, none⟩ = some (.int .i64 a0_0) ∧ w'.cell? ⟨gb423, 1, none⟩ = some (.slice A0_1 l0_1.length c0_1) ∧ w'.cell? (ad429.add (x8_1).toNat) = some (.slice A429_0 (rd_L2 l2 x8_1).length c429_0) ∧ w'.cell? (ad429.add (x9_2).toNat) = some (.slice A430_0 (rd_L2 l2 x9_2).length c430_0)) ⟨(blk_cell BK423.out 0).trans rfl, (blk_cell BK423.out 1).trans rfl, hx429_0, hx430_0⟩ (fun hHeld => ?_); refine with_tabW spec_l3Space.tab8 spec_l3Space.bits8 (fun HT_ HW_ => ?_)
                 generalize wr.drew = w29 at HO_2 HO_429000 HO_429001 BK423 BK424 BK428 HB HL429_0 HL430_0 HR429_0 HR430_0 hx429_0 hx430_0 hHeld ⊢
                 refine zp HT_ 1 28 ?_
                 refine zp HT_ 2 29 ?_
                 refine zp HT_ 3 30 ?_
                 refine zp HT_ 4 31 ?_
                 refine zp HT_ 6 33 ?_
                 refine zp HT_ 7 34 ?_
                 refine zp HT_ 8 35 ?_
                 refine zt HT_ HW_ 0 27 hHeld ?_ (hy := by rintro w' ⟨s0, s1, s2, s3⟩; go_simp; with_reducible rfl)
                 refine zt HT_ HW_ 5 32 hHeld ?_ (hy := by rintro w' ⟨s0, s1, s2, s3⟩; go_simp; with_reducible rfl)
                 refine zt HT_ HW_ 9 36 hHeld ?_ (hy := by rintro w' ⟨s0, s1, s2, s3⟩; go_simp; with_reducible rfl)
                 refine zg HT_ 10 37 Tryz.func54 #[.agg #[.int .i64 a0_0, .slice A0_1 l0_1.length c0_1], .int .i64 a1, .slice A429_0 (rd_L2 l2 x8_1).length c429_0, .slice A430_0 (rd_L2 l2 x9_2).length c430_0] (fun K hK => ?_)
                 with_reducible refine (spec_l3Step.calls k2 a0_0 _ _ l0_1 a1 _ _ (rd_L2 l2 x8_1) _ _ (rd_L2 l2 x9_2) false _ ?side1 ?side2 ?side3 ?side4 ?side5 ?side6 A18.out).mono ?_
                 (case side1 => exact zC (Kd.C_below HR0_1.out HB.out))
                 (case side2 => exact HC0_1.out)
                 (case side3 => repeat (first | exact (by repeat (first | (with_reducible exact HR429_0.out) | (with_reducible refine Kd.C_alloc ?_ _) | (with_reducible refine Kd.C_drewN ?_ _) | (with_reducible refine Kd.C_drew ?_) | exact HR429_0.out)) | (with_reducible refine Kd.C_alloc ?_ _) | (with_reducible refine Kd.C_drewN ?_ _) | (with_reducible refine Kd.C_drew ?_)))
                 (case side4 => exact HC429_0.out)
                 (case side5 => repeat (first | exact (by repeat (first | (with_reducible exact HR430_0.out) | (with_reducible refine Kd.C_alloc ?_ _) | (with_reducible refine Kd.C_drewN ?_ _) | (with_reducible refine Kd.C_drew ?_) | exact HR430_0.out)) | (with_reducible refine Kd.C_alloc ?_ _) | (with_reducible refine Kd.C_drewN ?_ _) | (with_reducible refine Kd.C_drew ?_)))
                 (case side6 => exact HC430_0.out)
                 rintro e w30 ⟨rfl, hb⟩
                 have HS2_ := (hb.cell (World.block_lt_of_cell? _ _ (hHeld.2.2.1))).trans (hHeld.2.2.1)
                 have HS3_ := (hb.cell (World.block_lt_of_cell? _ _ (hHeld.2.2.2))).trans (hHeld.2.2.2)
                 refine ⟨_, rfl, ?_⟩
                 replace HO_2 := zM (Kd.V_below (by (with_reducible repeat (first | apply Kd.V_alloc | apply Kd.V_drewN | apply Kd.V_drew)); exact HO_2.out) hb)
                 replace HO_429000 := zM (Kd.V_below (by (with_reducible repeat (first | apply Kd.V_alloc | apply Kd.V_drewN | apply Kd.V_drew)); exact HO_429000.out) hb)
                 replace HO_429001 := zM (Kd.R_below (zR HO_429001.out) hb)
                 replace HL429_0 := zM (Kd.V_below (by (with_reducible repeat (first | apply Kd.V_alloc | apply Kd.V_drewN | apply Kd.V_drew)); exact HL429_0.out) hb)
                 replace HL430_0 := zM (Kd.V_below (by (with_reducible repeat (first | apply Kd.V_alloc | apply Kd.V_drewN | apply Kd.V_drew)); exact HL430_0.out) hb)
                 replace BK423 := zM (blk_below (g := gb423) (o := .cells #[.int .i64 a0_0, .slice A0_1 l0_1.length c0_1] 30 (0, 0)) (zK BK423.out) hb)
                 replace BK424 := zM (blk_below (g := gb424) (o := .cells #[.slice none 0 0, .slice none 0 0] 52 (0, 0)) (zK BK424.out) hb)
                 replace BK428 := zM (blk_below (g := gb428) (o := .cells #[.slice (some ad429) l2.length c2, u429001] 52 (0, 0)) (zK BK428.out) hb)
                 replace HR429_0 := zM (Kd.C_below (by repeat (first | (with_reducible exact HR429_0.out) | (with_reducible refine Kd.C_alloc ?_ _) | (with_reducible refine Kd.C_drewN ?_ _) | (with_reducible refine Kd.C_drew ?_) | exact HR429_0.out)) hb)
                 replace HR430_0 := zM (Kd.C_below (by repeat (first | (with_reducible exact HR430_0.out) | (with_reducible refine Kd.C_alloc ?_ _) | (with_reducible refine Kd.C_drewN ?_ _) | (with_reducible refine Kd.C_drew ?_) | exact HR430_0.out)) hb)
                 replace HB := zM (below_step zB hb)
                 (try clear hb)
                 (try clear hb2)
                 (try clear hk)
                 (try clear hi)
                 refine hK.out _ _ ⟨(blk_cell BK423.out 0).trans rfl, (blk_cell BK423.out 1).trans rfl, HS2_, HS3_⟩ (fun hHeld => ?_)
                 clear hK K
                 refine zn 37 ?_
                 refine zo HT_ ?_
                 try go_wp2
                 go_roundg k2
                 case measure => have := HK1.out; have := HK2.out; omega
                 case rel => exact ⟨(wrap64 (x9_2 + 1)), (x429001_2), (u429001), (by first | rfl | (simp; done) | (simp [*]; done)), H', ⟨by have := HK1.out; have := HK2.out; omega⟩, ⟨by (with_reducible repeat (first | apply Kd.V_alloc | apply Kd.V_drewN | apply Kd.V_drew)); exact HO_2.out⟩, ⟨by (with_reducible repeat (first | apply Kd.V_alloc | apply Kd.V_drewN | apply Kd.V_drew)); exact HO_429000.out⟩, ⟨zR HO_429001.out⟩, ⟨zK BK423.out⟩, ⟨zK BK424.out⟩, ⟨zK BK428.out⟩, ⟨zB⟩⟩
             · rw [if_neg c17] at H
               exact absurd H (by simp)
           · rw [if_neg c16] at H
             exact absurd H (by simp)
         · rw [if_neg c15] at H
           exact absurd H (by simp)
       · rw [if_neg c14] at H
         have c14b0 : decide (x9_2 < (l2.length : Int)) = false := decide_eq_false c14
         clear c14
         have H' := Aside0.mk H
         clear H
         go_wp2
         go_roundg k2
         case measure => have := HK1.out; have := HK2.out; omega
         case rel => exact ⟨(wrap64 (x8_1 + 1)), (x429001_2), (u429001), (by first | rfl | (simp; done) | (simp [*]; done)), H', ⟨by have := HK1.out; have := HK2.out; omega⟩, ⟨by (with_reducible repeat (first | apply Kd.V_alloc | apply Kd.V_drewN | apply Kd.V_drew)); exact HO_2.out⟩, ⟨by (with_reducible repeat (first | apply Kd.V_alloc | apply Kd.V_drewN | apply Kd.V_drew)); exact HO_429000.out⟩, ⟨zR HO_429001.out⟩, ⟨zK BK423.out⟩, ⟨zK BK424.out⟩, ⟨zK BK428.out⟩, ⟨zB⟩⟩
   · rw [if_neg c13] at H
     have c13b0 : decide (x8_1 < (l2.length : Int)) = false := decide_eq_false c13
     clear c13
     simp only [Option.some.injEq, Prod.mk.injEq] at H
     obtain ⟨rfl, rfl⟩ := H
     have hnb31 := NB428_423.out
     have hnc31 := NB423_428.out
     have hnb32 := NB428_424.out
     have hnc32 := NB424_428.out
     have hcz33_0 := zy BK428 0
     have hcz33_1 := zy BK428 1
     have hfz33_0 := blk_frozen BK428.out 0
     have hfz33_1 := blk_frozen BK428.out 1
     have hnb34 := NB424_423.out
     have hnc34 := NB423_424.out
     have hcz35_0 := zy BK424 0
     have hcz35_1 := zy BK424 1
     have hfz35_0 := blk_frozen BK424.out 0
     have hfz35_1 := blk_frozen BK424.out 1
     obtain ⟨Ao36, co36, eo36⟩ := Kd.R_slice HO_429001.out
     subst eo36
     go_wp2
     refine bodyPost_ret (results_cell_row rfl _ _ gb424 52 #[.slice A2 l2.length c2, .slice Ao36 x429001_1.length co36] (0, 0) _ rfl (by (with_reducible repeat (first | refine blk_drewN ?_ _ | refine blk_drew ?_ | refine blk_alloc ?_ _)); refine blk_put (cs := #[.slice A2 l2.length c2, .slice none 0 0]) ?_ 1 _ rfl; (with_reducible repeat (first | refine blk_drewN ?_ _ | refine blk_drew ?_ | refine blk_alloc ?_ _)); refine blk_put (cs := #[.slice none 0 0, .slice none 0 0]) ?_ 0 _ rfl; (with_reducible repeat (first | refine blk_drewN ?_ _ | refine blk_drew ?_ | refine blk_alloc ?_ _)); exact BK424.out) Tryz.underlying52 rfl (by kernel_rfl)) rfl ?_
     exact ⟨_, _, by first | rfl | (simp [errW_none, errW_some] <;> rfl) | (simp [*, errW_none, errW_some] <;> rfl), by (with_reducible repeat (first | apply Kd.V_alloc | apply Kd.V_drewN | apply Kd.V_drew)); exact Kd.V_mono (Kd.V_far (p := ⟨gb424, 1, none⟩) (Kd.V_far (p := ⟨gb424, 0, none⟩) (Kd.V_mono HO_429000.out (fun k_ hk => (⟨hk, hk.2.2.2.1⟩ : _ ∧ k_ ≠ gb424))) (fun _ hk => hk.2) (.slice A2 l2.length c2)) (fun _ hk => hk.2) (.slice Ao36 x429001_1.length co36)) (fun _ hk => ⟨hk.1.1, hk.1.2.1⟩), by (with_reducible repeat (first | apply Kd.R_alloc | apply Kd.R_drewN | apply Kd.R_drew)); exact Kd.R_mono (Kd.R_far (p := ⟨gb424, 1, none⟩) (Kd.R_far (p := ⟨gb424, 0, none⟩) (Kd.R_types HO_429001.out BK424.out (by decide)) (fun _ hk => hk.2) (.slice A2 l2.length c2)) (fun _ hk => hk.2) (.slice Ao36 x429001_1.length co36)) (fun _ hk => hk.1), zB⟩

/-! ### spec_l3Sets: function 34 -/
def spec_l3Sets.l0 : Nat → Int → Int → List (List Int) → Int → Int → List (S69) → Option ((List (List Int)))
 | 0, _, _, _, _, _, _ => none
 | k + 1, x1, x2, x7, x8, x436000, x436001 => if 0 ≤ x436000 then (if x8 < (shl .i64 1 x436000) then ((spec_l2Bits.f k x436000 x8).bind fun t442 => ((spec_l1In.f (t442.length : Int) x1 x2).bind fun t445 => (if t445 = true then ((spec_l3Free.f k x436000 x436001 t442).bind fun t446 => (if t446 = true then (if x7.length < 5864062014805 then (spec_l3Sets.l0 k x1 x2 (x7 ++ [t442]) (wrap64 (x8 + 1)) x436000 x436001) else (none)) else (spec_l3Sets.l0 k x1 x2 x7 (wrap64 (x8 + 1)) x436000 x436001))) else (spec_l3Sets.l0 k x1 x2 x7 (wrap64 (x8 + 1)) x436000 x436001)))) else ((spec_l2Sorted.f k x7).bind fun t439 => (some t439))) else (none)
def spec_l3Sets.f (k : Nat) (a0_0 : Int) (l0_1 : List (S69)) (a1 : Int) (a2 : Int) : Option ((List (List Int))) := spec_l3Sets.l0 k a1 a2 (([] : List (List Int))) 0 a0_0 l0_1
set_option maxHeartbeats 8000000 in
set_option maxRecDepth 100000 in
theorem spec_l3Sets.calls (k : Nat) (a0_0 : Int) (A0_1 : Option Addr) (c0_1 : Nat) (l0_1 : List (S69)) (a1 : Int) (a2 : Int) (r : List (List Int)) (w : World) (hr0_1 : Kd.C k69 w A0_1 l0_1.length l0_1) (hc0_1 : l0_1.length ≤ c0_1) (h : spec_l3Sets.f k a0_0 l0_1 a1 a2 = some r) :
 Calls Tryz.prog 34 #[.agg #[.int .i64 a0_0, .slice A0_1 l0_1.length c0_1], .int .i64 a1, .int .i64 a2] w fun e w' => ∃ v0_ : Value, e = .returned (v0_) ∧ Kd.N (Kd.slice 3 (Kd.int .i64)) 25 w' w.heap.size (fun k_ => (w.heap.size ≤ k_)) v0_ r ∧ Below w.heap.size w w' := by
 have hu30 := Tryz.underlying30
 have HR0_1 := Aside0.mk hr0_1
 have HC0_1 := Aside0.mk hc0_1
 clear hr0_1 hc0_1
 have HB := zM (Below.refl w.heap.size w)
 have H : (spec_l3Sets.l0 k a1 a2 (([] : List (List Int))) 0 a0_0 l0_1) = some r := h
 clear h
 obtain ⟨y436, hy436⟩ : ∃ y_ : List (List Int), y_ = (([] : List (List Int))) := ⟨_, rfl⟩
 replace H : (spec_l3Sets.l0 k a1 a2 y436 0 a0_0 l0_1) = some r := by first | (rw [hy436]; with_reducible exact H) | (have H2_ := (Option.bind_some _ _).symm.trans H; rw [hy436]; with_reducible exact H2_) | (have H2_ := (Option.bind_some _ _).symm.trans H; with_reducible exact H2_) | with_reducible exact H | (rw [hy436]; exact H) | exact H
 have Ny436 := Aside0.mk hy436
 clear hy436
 have H' := Aside0.mk H
 clear H
 go_enter Tryz.func34, Tryz.ntmps34
 go_wp2_with (first | ((with_reducible refine gate_dst (N := 3) rfl ?_); refine zb (w := w) 3 #[.int .i64 a0_0, .slice A0_1 l0_1.length c0_1] 30 zB ?_; clear HB; intro gb435 w4 HB BK435 GW435; have GE435 := GW435) | ((with_reducible refine gate_dst (N := 10) rfl ?_); refine Kd.N_lit (Kd.slice 3 (Kd.int .i64)) _ 25 ?hg (N' := 10) ?hd (xs := ([] : List (List Int))) (inner := []) (ok := (fun k_ => (w.heap.size ≤ k_) ∧ k_ ≠ gb435)) (okp := (fun k_ => (w.heap.size ≤ k_) ∧ k_ ≠ gb435)) ?hr ?hp (fun _ hk => hk) ((show ∀ k_, w4.heap.size ≤ k_ → (fun k_ => (w.heap.size ≤ k_) ∧ k_ ≠ gb435) k_ from fun k_ hk => ⟨(Nat.le_trans (below_size zB) hk), Kd.freshB (g := gb435) (o := .cells #[.int .i64 a0_0, .slice A0_1 l0_1.length c0_1] 30 (0, 0)) (zK BK435.out) k_ hk⟩) _ (Nat.le_refl _)) (Below.refl _ _) (Nat.le_refl _) (by simp) ?_; (case hd => rfl); (case hg => rfl); (case hr => first | (go_simp; done) | (go_simp; rfl)); (case hp => exact (Reps.none _ _)); intro v437 w5 ho6 hb hg_ hnew_; clear hg_ hnew_; (first | rw [← Ny436.out] at ho6 | (simp only [Int.reduceToNat] at ho6; rw [← Ny436.out] at ho6)); have HO438 := zM (Kd.N_lower ho6 (below_size zB)); replace BK435 := zM (blk_below (g := gb435) (o := .cells #[.int .i64 a0_0, .slice A0_1 l0_1.length c0_1] 30 (0, 0)) (zK BK435.out) hb); replace HB := zM (below_step zB hb); clear hb ho6))
 go_loopg [7, 8] k (fun kq v7 v8 w' => ∃ (x7_1 : List (List Int)) (x8_1 : Int), v8 = .int .i64 x8_1 ∧ Aside0 (spec_l3Sets.l0 kq a1 a2 x7_1 x8_1 a0_0 l0_1 = some r) ∧ Aside0 (kq ≤ k) ∧ Aside0 (Kd.N (Kd.slice 3 (Kd.int .i64)) 25 w' w.heap.size (fun k_ => (w.heap.size ≤ k_) ∧ k_ ≠ gb435) v7 x7_1) ∧ Aside0 (w'.heap[gb435]? = some (.cells #[.int .i64 a0_0, (.slice A0_1 l0_1.length c0_1)] 30 (0, 0))) ∧ Aside0 (Below w.heap.size w w'))
 case atStart => exact ⟨(y436), (0), (by first | rfl | (simp; done) | (simp [*]; done)), H', ⟨Nat.le_refl _⟩, ⟨by (with_reducible repeat (first | apply Kd.N_alloc | apply Kd.N_drewN | apply Kd.N_drew)); exact HO438.out⟩, ⟨zK BK435.out⟩, ⟨zB⟩⟩
 case round =>
  clear H'
  try clear p2
  try clear c3
  obtain ⟨x7_1, x8_1, rfl, HA, HK1, HO_7, BK435, HB⟩ := hrel
  cases gk with
  | zero => exact absurd HA.out (by simp [spec_l3Sets.l0])
  | succ k1 =>
   have H := HA.out
   clear HA
   simp only [spec_l3Sets.l0] at H
   by_cases c7 : 0 ≤ a0_0
   · rw [if_pos c7] at H
     have c7b0 := eq_true c7
     have c7b1 : decide (0 ≤ a0_0) = true := decide_eq_true c7
     clear c7
     obtain ⟨ji8, hji8⟩ : ∃ j_ : Int, (shl .i64 1 a0_0) = j_ := ⟨_, rfl⟩
     replace H : (if x8_1 < (ji8) then ((spec_l2Bits.f k1 a0_0 x8_1).bind fun t442 => ((spec_l1In.f (t442.length : Int) a1 a2).bind fun t445 => (if t445 = true then ((spec_l3Free.f k1 a0_0 l0_1 t442).bind fun t446 => (if t446 = true then (if x7_1.length < 5864062014805 then (spec_l3Sets.l0 k1 a1 a2 (x7_1 ++ [t442]) (wrap64 (x8_1 + 1)) a0_0 l0_1) else (none)) else (spec_l3Sets.l0 k1 a1 a2 x7_1 (wrap64 (x8_1 + 1)) a0_0 l0_1))) else (spec_l3Sets.l0 k1 a1 a2 x7_1 (wrap64 (x8_1 + 1)) a0_0 l0_1)))) else ((spec_l2Sorted.f k1 x7_1).bind fun t439 => (some t439))) = some r := by first | (rw [hji8] at H; exact H) | (simp only [hji8] at H ⊢; exact H)
     have hji8_ : (IntKind.i64.wrap (1 * 2 ^ min a0_0.toNat 64)) = ji8 := hji8
     have hji8z : a0_0 ≤ 64 → (IntKind.i64.wrap (1 * 2 ^ a0_0.toNat)) = ji8 := shl_small hji8
     have hji8u : (IntKind.i64.wrap (2 ^ min a0_0.toNat 64)) = ji8 := by have h_ := hji8_; rw [Int.one_mul] at h_; exact h_
     have hji8v : a0_0 ≤ 64 → (IntKind.i64.wrap (2 ^ a0_0.toNat)) = ji8 := fun hle_ => by have h_ := hji8z hle_; rw [Int.one_mul] at h_; exact h_
     have hji8y : (wrap64 (1 * 2 ^ min a0_0.toNat 64)) = ji8 := (i64_w _).symm.trans hji8_
     have hji8x : a0_0 ≤ 64 → (wrap64 (1 * 2 ^ a0_0.toNat)) = ji8 := fun h_ => (i64_w _).symm.trans (hji8z h_)
     by_cases c9 : x8_1 < (ji8)
     · rw [if_pos c9] at H
       have c9b0 := decide_eq_true c9
       clear c9
       replace H := Option.bind_eq_some_iff.mp H
       obtain ⟨t442, A100, H⟩ := H
       have A10 := Aside0.mk A100
       clear A100
       replace H := Option.bind_eq_some_iff.mp H
       obtain ⟨t445, A110, H⟩ := H
       have A11 := Aside0.mk A110
       clear A110
       by_cases c12 : t445 = true
       · subst c12
         rw [if_pos rfl] at H
         replace H := Option.bind_eq_some_iff.mp H
         obtain ⟨t446, A130, H⟩ := H
         have A13 := Aside0.mk A130
         clear A130
         by_cases c14 : t446 = true
         · subst c14
           rw [if_pos rfl] at H
           by_cases c15 : x7_1.length < 5864062014805
           · rw [if_pos c15] at H
             have LMc15 := Aside0.mk c15
             clear c15
             obtain ⟨y447, hy447⟩ : ∃ y_ : List (List Int), y_ = (x7_1 ++ [t442]) := ⟨_, rfl⟩
             replace H : (spec_l3Sets.l0 k1 a1 a2 y447 (wrap64 (x8_1 + 1)) a0_0 l0_1) = some r := by first | (rw [hy447]; with_reducible exact H) | (have H2_ := (Option.bind_some _ _).symm.trans H; rw [hy447]; with_reducible exact H2_) | (have H2_ := (Option.bind_some _ _).symm.trans H; with_reducible exact H2_) | with_reducible exact H | (rw [hy447]; exact H) | exact H
             have Ny447 := Aside0.mk hy447
             clear hy447
             have H' := Aside0.mk H
             clear H
             have hcz16_0 := zy BK435 0
             have hcz16_1 := zy BK435 1
             have hfz16_0 := blk_frozen BK435.out 0
             have hfz16_1 := blk_frozen BK435.out 1
             go_wp2_with (first | ((with_reducible refine gate_callee (f := 55) rfl ?_); refine zc 21 Tryz.func55 #[.int .i64 a0_0, .int .i64 x8_1] ?_; (with_reducible refine (spec_l2Bits.calls k1 a0_0 x8_1 t442 _ A10.out).mono ?_); rintro e w17 ⟨v443, rfl, ho0, hb⟩; refine ⟨_, rfl, ?_⟩; replace HO_7 := zM (Kd.N_elder' (by (with_reducible repeat (first | apply Kd.N_alloc | apply Kd.N_drewN | apply Kd.N_drew)); exact HO_7.out) (Kd.R_base ho0) hb); have HO444 := zM (Kd.R_lower (Kd.R_newM (M := fun k_ => (w.heap.size ≤ k_)) ho0 (below_size zB) (fun k_ h_ => h_)) (below_size zB)); replace BK435 := zM (blk_below (g := gb435) (o := .cells #[.int .i64 a0_0, .slice A0_1 l0_1.length c0_1] 30 (0, 0)) (zK BK435.out) hb); replace HB := zM (below_step zB hb); (try clear hb); (try clear hb2); (try clear hk); (try clear hi); (try clear ho0); obtain ⟨Ao18, co18, eo18⟩ := Kd.R_slice HO444.out; subst eo18) | ((with_reducible refine gate_callee (f := 56) rfl ?_); refine zc 26 Tryz.func56 #[.int .i64 (t442.length : Int), .int .i64 a1, .int .i64 a2] ?_; (with_reducible refine (spec_l1In.calls (t442.length : Int) a1 a2 true _ A11.out).mono ?_); rintro e w' ⟨rfl, ⟨nd, rfl⟩⟩; refine ⟨_, rfl, ?_⟩; have hcz19_0 := zy BK435 0; have hcz19_1 := zy BK435 1; have hfz19_0 := blk_frozen BK435.out 0; have hfz19_1 := blk_frozen BK435.out 1) | (go_at_call 52; (with_reducible refine (spec_l3Free.calls k1 a0_0 _ _ l0_1 _ _ t442 true _ ?side1 ?side2 ?side3 ?side4 A13.out).mono ?_); (case side1 => exact zC (Kd.C_below HR0_1.out zB)); (case side2 => exact HC0_1.out); (case side3 => exact zC (Kd.R_reads' HO444.out).2.2); (case side4 => exact (Kd.R_reads' HO444.out).2.1); rintro e w20 ⟨rfl, hb⟩; replace HO_7 := zM (Kd.N_below (by (with_reducible repeat (first | apply Kd.N_alloc | apply Kd.N_drewN | apply Kd.N_drew)); exact HO_7.out) hb); replace HO444 := zM (Kd.R_below (zR HO444.out) hb); replace BK435 := zM (blk_below (g := gb435) (o := .cells #[.int .i64 a0_0, .slice A0_1 l0_1.length c0_1] 30 (0, 0)) (zK BK435.out) hb); replace HB := zM (below_step zB hb); (try clear hb); (try clear hb2); (try clear hk); (try clear hi)) | ((with_reducible refine gate_builtin (b := .append) (xs := #[.tmp 32, .tmp 34]) rfl ?_); at_builtin; refine Kd.N_append (Kd.slice 3 (Kd.int .i64)) (w0 := w) w.heap.size rfl (.tmp 32) (.tmp 34) 27 25 (.slice none 0 0) 24 rfl Tryz.underlying27 info25 rfl (by decide) (by omega) u7 x7_1 t442 [.slice Ao18 t442.length co18] (fun k_ => (w.heap.size ≤ k_) ∧ k_ ≠ gb435) (fun k_ => ((fun k_ => (w.heap.size ≤ k_) ∧ k_ ≠ gb435)) k_ ∧ some k_ ≠ (u7 : Value).ownBlock) rfl rfl ?aP (fun _ hk => hk) ?aF ?aO ?aB ?aS ?aL ?_; (case aP => exact (Kd.FK_slice_mk (Kd.R_reads' (Kd.R_mono (ok' := (fun k_ => ((fun k_ => (w.heap.size ≤ k_) ∧ k_ ≠ gb435)) k_ ∧ some k_ ≠ (u7 : Value).ownBlock)) (Kd.R_types (Kd.R_apart' (HO444.out) (Kd.N_typed HO_7.out) (by decide)) BK435.out (by decide)) (fun k_ hk => ⟨⟨hk.1.1.1, hk.2⟩, hk.1.2⟩))).2.1 (Kd.R_F (Kd.R_mono (ok' := (fun k_ => ((fun k_ => (w.heap.size ≤ k_) ∧ k_ ≠ gb435)) k_ ∧ some k_ ≠ (u7 : Value).ownBlock)) (Kd.R_types (Kd.R_apart' (HO444.out) (Kd.N_typed HO_7.out) (by decide)) BK435.out (by decide)) (fun k_ hk => ⟨⟨hk.1.1.1, hk.2⟩, hk.1.2⟩))))); (case aB => exact zB); (case aF => exact (fun k_ hk => ⟨(Nat.le_trans (below_size zB) hk), Kd.freshB (g := gb435) (o := .cells #[.int .i64 a0_0, .slice A0_1 l0_1.length c0_1] 30 (0, 0)) (zK BK435.out) k_ hk⟩)); (case aO => exact (by (with_reducible repeat (first | apply Kd.N_alloc | apply Kd.N_drewN | apply Kd.N_drew)); exact Kd.N_mono HO_7.out (fun _ hk => ⟨hk.1.1, hk.1.2⟩))); (case aS => exact (below_size zB)); (case aL => have := LMc15.out; omega); intro v448 w21 ho hb hg hat; rw [← Ny447.out] at ho; replace BK435 := zM (blk_grown (g := gb435) (o := .cells #[.int .i64 a0_0, .slice A0_1 l0_1.length c0_1] 30 (0, 0)) (zK BK435.out) hg (Kd.N_ne HO_7.out BK435.out (by decide))); replace HB := zM (hb); have HO449 := zM (ho); clear HO_7 HO444; clear ho hb hg hat))
             go_roundg k1
             case measure => have := HK1.out; omega
             case rel => exact ⟨(y447), (wrap64 (x8_1 + 1)), (by first | rfl | (simp; done) | (simp [*]; done)), H', ⟨by have := HK1.out; omega⟩, ⟨by (with_reducible repeat (first | apply Kd.N_alloc | apply Kd.N_drewN | apply Kd.N_drew)); exact HO449.out⟩, ⟨zK BK435.out⟩, ⟨zB⟩⟩
           · rw [if_neg c15] at H
             exact absurd H (by simp)
         · replace c14 := Bool.eq_false_iff.mpr c14
           subst c14
           have H1 : (spec_l3Sets.l0 k1 a1 a2 x7_1 (wrap64 (x8_1 + 1)) a0_0 l0_1) = some r := by rw [if_neg (show ¬ (false = true) by decide)] at H; exact H
           clear H
           have H := H1
           clear H1
           have H' := Aside0.mk H
           clear H
           have hcz22_0 := zy BK435 0
           have hcz22_1 := zy BK435 1
           have hfz22_0 := blk_frozen BK435.out 0
           have hfz22_1 := blk_frozen BK435.out 1
           go_wp2_with (first | ((with_reducible refine gate_callee (f := 55) rfl ?_); refine zc 21 Tryz.func55 #[.int .i64 a0_0, .int .i64 x8_1] ?_; (with_reducible refine (spec_l2Bits.calls k1 a0_0 x8_1 t442 _ A10.out).mono ?_); rintro e w23 ⟨v443, rfl, ho0, hb⟩; refine ⟨_, rfl, ?_⟩; replace HO_7 := zM (Kd.N_elder' (by (with_reducible repeat (first | apply Kd.N_alloc | apply Kd.N_drewN | apply Kd.N_drew)); exact HO_7.out) (Kd.R_base ho0) hb); have HO444 := zM (Kd.R_lower (Kd.R_newM (M := fun k_ => (w.heap.size ≤ k_)) ho0 (below_size zB) (fun k_ h_ => h_)) (below_size zB)); replace BK435 := zM (blk_below (g := gb435) (o := .cells #[.int .i64 a0_0, .slice A0_1 l0_1.length c0_1] 30 (0, 0)) (zK BK435.out) hb); replace HB := zM (below_step zB hb); (try clear hb); (try clear hb2); (try clear hk); (try clear hi); (try clear ho0); obtain ⟨Ao24, co24, eo24⟩ := Kd.R_slice HO444.out; subst eo24) | ((with_reducible refine gate_callee (f := 56) rfl ?_); refine zc 26 Tryz.func56 #[.int .i64 (t442.length : Int), .int .i64 a1, .int .i64 a2] ?_; (with_reducible refine (spec_l1In.calls (t442.length : Int) a1 a2 true _ A11.out).mono ?_); rintro e w' ⟨rfl, ⟨nd, rfl⟩⟩; refine ⟨_, rfl, ?_⟩; have hcz25_0 := zy BK435 0; have hcz25_1 := zy BK435 1; have hfz25_0 := blk_frozen BK435.out 0; have hfz25_1 := blk_frozen BK435.out 1) | (go_at_call 52; (with_reducible refine (spec_l3Free.calls k1 a0_0 _ _ l0_1 _ _ t442 false _ ?side1 ?side2 ?side3 ?side4 A13.out).mono ?_); (case side1 => exact zC (Kd.C_below HR0_1.out zB)); (case side2 => exact HC0_1.out); (case side3 => exact zC (Kd.R_reads' HO444.out).2.2); (case side4 => exact (Kd.R_reads' HO444.out).2.1); rintro e w26 ⟨rfl, hb⟩; replace HO_7 := zM (Kd.N_below (by (with_reducible repeat (first | apply Kd.N_alloc | apply Kd.N_drewN | apply Kd.N_drew)); exact HO_7.out) hb); replace HO444 := zM (Kd.R_below (zR HO444.out) hb); replace BK435 := zM (blk_below (g := gb435) (o := .cells #[.int .i64 a0_0, .slice A0_1 l0_1.length c0_1] 30 (0, 0)) (zK BK435.out) hb); replace HB := zM (below_step zB hb); (try clear hb); (try clear hb2); (try clear hk); (try clear hi)))
           go_roundg k1
           case measure => have := HK1.out; omega
           case rel => exact ⟨(x7_1), (wrap64 (x8_1 + 1)), (by first | rfl | (simp; done) | (simp [*]; done)), H', ⟨by have := HK1.out; omega⟩, ⟨by (with_reducible repeat (first | apply Kd.N_alloc | apply Kd.N_drewN | apply Kd.N_drew)); exact Kd.N_mono HO_7.out (fun _ hk => ⟨hk.1.1, hk.1.2⟩)⟩, ⟨zK BK435.out⟩, ⟨zB⟩⟩
       · replace c12 := Bool.eq_false_iff.mpr c12
         subst c12
         have H1 : (spec_l3Sets.l0 k1 a1 a2 x7_1 (wrap64 (x8_1 + 1)) a0_0 l0_1) = some r := by rw [if_neg (show ¬ (false = true) by decide)] at H; exact H
         clear H
         have H := H1
         clear H1
         have H' := Aside0.mk H
         clear H
         have hcz27_0 := zy BK435 0
         have hcz27_1 := zy BK435 1
         have hfz27_0 := blk_frozen BK435.out 0
         have hfz27_1 := blk_frozen BK435.out 1
         go_wp2_with (first | ((with_reducible refine gate_callee (f := 55) rfl ?_); refine zc 21 Tryz.func55 #[.int .i64 a0_0, .int .i64 x8_1] ?_; (with_reducible refine (spec_l2Bits.calls k1 a0_0 x8_1 t442 _ A10.out).mono ?_); rintro e w28 ⟨v443, rfl, ho0, hb⟩; refine ⟨_, rfl, ?_⟩; replace HO_7 := zM (Kd.N_elder' (by (with_reducible repeat (first | apply Kd.N_alloc | apply Kd.N_drewN | apply Kd.N_drew)); exact HO_7.out) (Kd.R_base ho0) hb); have HO444 := zM (Kd.R_lower (Kd.R_newM (M := fun k_ => (w.heap.size ≤ k_)) ho0 (below_size zB) (fun k_ h_ => h_)) (below_size zB)); replace BK435 := zM (blk_below (g := gb435) (o := .cells #[.int .i64 a0_0, .slice A0_1 l0_1.length c0_1] 30 (0, 0)) (zK BK435.out) hb); replace HB := zM (below_step zB hb); (try clear hb); (try clear hb2); (try clear hk); (try clear hi); (try clear ho0); obtain ⟨Ao29, co29, eo29⟩ := Kd.R_slice HO444.out; subst eo29) | ((with_reducible refine gate_callee (f := 56) rfl ?_); refine zc 26 Tryz.func56 #[.int .i64 (t442.length : Int), .int .i64 a1, .int .i64 a2] ?_; (with_reducible refine (spec_l1In.calls (t442.length : Int) a1 a2 false _ A11.out).mono ?_); rintro e w' ⟨rfl, ⟨nd, rfl⟩⟩; refine ⟨_, rfl, ?_⟩))
         go_roundg k1
         case measure => have := HK1.out; omega
         case rel => exact ⟨(x7_1), (wrap64 (x8_1 + 1)), (by first | rfl | (simp; done) | (simp [*]; done)), H', ⟨by have := HK1.out; omega⟩, ⟨by (with_reducible repeat (first | apply Kd.N_alloc | apply Kd.N_drewN | apply Kd.N_drew)); exact Kd.N_mono HO_7.out (fun _ hk => ⟨hk.1.1, hk.1.2⟩)⟩, ⟨zK BK435.out⟩, ⟨zB⟩⟩
     · rw [if_neg c9] at H
       have c9b0 : decide (x8_1 < (ji8)) = false := decide_eq_false c9
       clear c9
       replace H := Option.bind_eq_some_iff.mp H
       obtain ⟨t439, A300, H⟩ := H
       have A30 := Aside0.mk A300
       clear A300
       obtain rfl := Option.some.inj H
       have hcz31_0 := zy BK435 0
       have hcz31_1 := zy BK435 1
       have hfz31_0 := blk_frozen BK435.out 0
       have hfz31_1 := blk_frozen BK435.out 1
       obtain ⟨Ao32, co32, eo32⟩ := Kd.N_slice HO_7.out
       subst eo32
       go_wp2_with (first | ((with_reducible refine gate_callee (f := 57) rfl ?_); refine zc 37 Tryz.func57 #[.slice Ao32 x7_1.length co32] ?_; (with_reducible refine (spec_l2Sorted.calls k1 _ _ x7_1 t439 _ ?side1 ?side2 A30.out).mono ?_); (case side1 => exact zC (Kd.N_reads' HO_7.out).2.2); (case side2 => exact (Kd.N_reads' HO_7.out).2.1); rintro e w33 ⟨v440, rfl, ho0, hb⟩; refine ⟨_, rfl, ?_⟩; have HO441 := zM (Kd.N_lower (Kd.N_mono (ok' := fun k_ => (w.heap.size ≤ k_) ∧ some k_ ≠ (.slice Ao32 x7_1.length co32 : Value).ownBlock ∧ k_ ≠ gb435) ho0 (fun k_ hk_ => ⟨(Nat.le_trans (below_size zB) hk_), (Kd.fresh' (Kd.N_lt (by (with_reducible repeat (first | apply Kd.N_alloc | apply Kd.N_drewN | apply Kd.N_drew)); exact HO_7.out)) k_ hk_), (Kd.freshB (g := gb435) (o := .cells #[.int .i64 a0_0, .slice A0_1 l0_1.length c0_1] 30 (0, 0)) (zK BK435.out) k_ hk_)⟩)) (below_size zB)); replace HO_7 := zM (Kd.N_elder' (by (with_reducible repeat (first | apply Kd.N_alloc | apply Kd.N_drewN | apply Kd.N_drew)); exact HO_7.out) (Kd.N_base ho0) hb); replace BK435 := zM (blk_below (g := gb435) (o := .cells #[.int .i64 a0_0, .slice A0_1 l0_1.length c0_1] 30 (0, 0)) (zK BK435.out) hb); replace HB := zM (below_step zB hb); (try clear hb); (try clear hb2); (try clear hk); (try clear hi); (try clear ho0)))
       go_ret
       exact ⟨_, by first | rfl | (simp [errW_none, errW_some] <;> rfl) | (simp only [← hji8]; first | rfl | (simp [errW_none, errW_some] <;> rfl)) | (simp [*, errW_none, errW_some] <;> rfl), by (with_reducible repeat (first | apply Kd.N_alloc | apply Kd.N_drewN | apply Kd.N_drew)); exact Kd.N_mono HO441.out (fun _ hk => hk.1), zB⟩
   · rw [if_neg c7] at H
     exact absurd H (by simp)

end Go.Proofs.YtadjbmcfgjmhkaaGreat.P
namespace Go.Proofs.YtadjbmcfgjmhkaaGreat.P
open Go.RowKit Go.Proofs.YtadjbmcfgjmhkaaGreatW.PrintWords Go.Proofs.YtadjbmcfgjmhkaaGreatW.PrintLast Go.Proofs.YtadjbmcfgjmhkaaGreatW.PrintMore
attribute [local go_sem] max2_int min2_int max_two min_two max_three min_three max_four min_four   -- for this text's walks alone
set_option linter.unusedVariables false
set_option linter.unusedSimpArgs false

-- NOT PRINTED: function 4 (laws_FnExactSlideWalk)

/-! ### spec_l3Ask: function 42 -/
def spec_l3Ask.f (k : Nat) (a0_0 : Int) (l0_1 : List (S69)) (a1 : Int) : Option (Bool) := (spec_l2Good.f k a0_0 l0_1).bind fun t734 => (if t734 = true then ((spec_l1In.f a1 0 8).bind fun t735 => (some t735)) else (some false))
set_option maxHeartbeats 8000000 in
set_option maxRecDepth 100000 in
theorem spec_l3Ask.calls (k : Nat) (a0_0 : Int) (A0_1 : Option Addr) (c0_1 : Nat) (l0_1 : List (S69)) (a1 : Int) (r : Bool) (w : World) (hr0_1 : Kd.C k69 w A0_1 l0_1.length l0_1) (hc0_1 : l0_1.length ≤ c0_1) (h : spec_l3Ask.f k a0_0 l0_1 a1 = some r) :
 Calls Tryz.prog 42 #[.agg #[.int .i64 a0_0, .slice A0_1 l0_1.length c0_1], .int .i64 a1] w fun e w' => e = .returned (.bool r) ∧ Below w.heap.size w w' := by
 have hu30 := Tryz.underlying30
 have HR0_1 := Aside0.mk hr0_1
 have HC0_1 := Aside0.mk hc0_1
 clear hr0_1 hc0_1
 have HB := zM (Below.refl w.heap.size w)
 have H : ((spec_l2Good.f k a0_0 l0_1).bind fun t734 => (if t734 = true then ((spec_l1In.f a1 0 8).bind fun t735 => (some t735)) else (some false))) = some r := h
 clear h
 replace H := Option.bind_eq_some_iff.mp H
 obtain ⟨t734, A30, H⟩ := H
 have A3 := Aside0.mk A30
 clear A30
 by_cases c4 : t734 = true
 · subst c4
   rw [if_pos rfl] at H
   replace H := Option.bind_eq_some_iff.mp H
   obtain ⟨t735, A50, H⟩ := H
   have A5 := Aside0.mk A50
   clear A50
   obtain rfl := Option.some.inj H
   go_enter Tryz.func42, Tryz.ntmps42
   go_wp2_with (first | ((with_reducible refine gate_dst (N := 2) rfl ?_); refine zb (w := w) 2 #[.int .i64 a0_0, .slice A0_1 l0_1.length c0_1] 30 zB ?_; clear HB; intro gb733 w6 HB BK733 GW733; have GE733 := GW733; have hcz7_0 := zy BK733 0; have hcz7_1 := zy BK733 1; have hfz7_0 := blk_frozen BK733.out 0; have hfz7_1 := blk_frozen BK733.out 1) | ((with_reducible refine gate_callee (f := 69) rfl ?_); refine zc 6 Tryz.func69 #[.agg #[.int .i64 a0_0, .slice A0_1 l0_1.length c0_1]] ?_; (with_reducible refine (spec_l2Good.calls k a0_0 _ _ l0_1 true _ ?side1 ?side2 A3.out).mono ?_); (case side1 => exact zC (Kd.C_below HR0_1.out HB.out)); (case side2 => exact HC0_1.out); rintro e w8 ⟨rfl, hb⟩; refine ⟨_, rfl, ?_⟩; replace BK733 := zM (blk_below (g := gb733) (o := .cells #[.int .i64 a0_0, .slice A0_1 l0_1.length c0_1] 30 (0, 0)) (zK BK733.out) hb); replace HB := zM (below_step zB hb); (try clear hb); (try clear hb2); (try clear hk); (try clear hi)) | (go_at_call 56; (with_reducible refine (spec_l1In.calls a1 0 8 t735 _ A5.out).mono ?_); rintro e w' ⟨rfl, ⟨nd, rfl⟩⟩))
   go_ret
   exact ⟨by first | rfl | (simp [errW_none, errW_some] <;> rfl) | (simp [*, errW_none, errW_some] <;> rfl), zB⟩
 · replace c4 := Bool.eq_false_iff.mpr c4
   subst c4
   have H1 : (some false) = some r := by rw [if_neg (show ¬ (false = true) by decide)] at H; exact H
   clear H
   have H := H1
   clear H1
   obtain rfl := Option.some.inj H
   go_enter Tryz.func42, Tryz.ntmps42
   go_wp2_with (first | ((with_reducible refine gate_dst (N := 2) rfl ?_); refine zb (w := w) 2 #[.int .i64 a0_0, .slice A0_1 l0_1.length c0_1] 30 zB ?_; clear HB; intro gb733 w9 HB BK733 GW733; have GE733 := GW733; have hcz10_0 := zy BK733 0; have hcz10_1 := zy BK733 1; have hfz10_0 := blk_frozen BK733.out 0; have hfz10_1 := blk_frozen BK733.out 1) | ((with_reducible refine gate_callee (f := 69) rfl ?_); refine zc 6 Tryz.func69 #[.agg #[.int .i64 a0_0, .slice A0_1 l0_1.length c0_1]] ?_; (with_reducible refine (spec_l2Good.calls k a0_0 _ _ l0_1 false _ ?side1 ?side2 A3.out).mono ?_); (case side1 => exact zC (Kd.C_below HR0_1.out HB.out)); (case side2 => exact HC0_1.out); rintro e w11 ⟨rfl, hb⟩; refine ⟨_, rfl, ?_⟩; replace BK733 := zM (blk_below (g := gb733) (o := .cells #[.int .i64 a0_0, .slice A0_1 l0_1.length c0_1] 30 (0, 0)) (zK BK733.out) hb); replace HB := zM (below_step zB hb); (try clear hb); (try clear hb2); (try clear hk); (try clear hi)))
   go_ret
   exact ⟨by first | rfl | (simp [errW_none, errW_some] <;> rfl) | (simp [*, errW_none, errW_some] <;> rfl), zB⟩

end Go.Proofs.YtadjbmcfgjmhkaaGreat.P
