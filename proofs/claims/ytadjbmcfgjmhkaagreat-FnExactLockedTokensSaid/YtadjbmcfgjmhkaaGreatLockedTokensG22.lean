import Derived.Test.YtadjbmcfgjmhkaaGreatLockedTokensG18
import Derived.Test.YtadjbmcfgjmhkaaGreatLockedTokensG21
namespace Go.Proofs.YtadjbmcfgjmhkaaGreat.P
open Go.RowKit Go.Proofs.YtadjbmcfgjmhkaaGreatW.PrintWords Go.Proofs.YtadjbmcfgjmhkaaGreatW.PrintLast Go.Proofs.YtadjbmcfgjmhkaaGreatW.PrintMore
attribute [local go_sem] max2_int min2_int max_two min_two max_three min_three max_four min_four
set_option maxRecDepth 100000
set_option maxHeartbeats 8000000
set_option linter.unusedVariables false
set_option linter.unusedSimpArgs false
def impl_Graph_locked.l0 : Nat → Int → List Int → Int → Int → List (List Int) → List (S69) → Option (List Int)
 | 0, _, _, _, _, _, _ => none
 | k + 1, x9, x30, x31, x32, x869000, x869001 => if x32 < x31 then (if 0 ≤ x32 then (if x32 < (x30.length : Int) then (if (rd x30 x32) ≥ 0 then (if x32 < (x869000.length : Int) then ((impl_bagOf.f k (rd_L2 x869000 x32)).bind fun t880 => (impl_Graph_locked.l0 k (Go.bits .and .u64 x9 t880) x30 x31 (wrap64 (x32 + 1)) x869000 x869001)) else (none)) else (impl_Graph_locked.l0 k x9 x30 x31 (wrap64 (x32 + 1)) x869000 x869001)) else (none)) else (none)) else ((impl_bag_list.f k x9).bind fun t881 => (some t881))
def impl_Graph_locked.f (k : Nat) (a0_0 : Int) (l0_1 : List (S69)) (l1 : List Int) : Option (List Int) := (impl_SlideSpace.f k a0_0 l0_1 (l1.length : Int)).bind fun bt861 => ((impl_Space_place.f bt861.1 bt861.2.1 l1).bind fun bt869 => ((impl_bagOf.f k l1).bind fun t871 => ((impl_Space_roads.f k bt861.1 bt861.2.1).bind fun t872 => ((impl_spread.f k t872 bt869.1).bind fun t875 => (impl_Graph_locked.l0 k t871 t875 (t875.length : Int) 0 bt861.1 bt861.2.1)))))
theorem impl_Graph_locked.calls (k : Nat) (a0_0 : Int) (A0_1 : Option Addr) (c0_1 : Nat) (l0_1 : List (S69)) (A1 : Option Addr) (c1 : Nat) (l1 : List Int) (r : List Int) (w : World) (hr0_1 : Kd.C k69 w A0_1 l0_1.length l0_1) (hc0_1 : l0_1.length ≤ c0_1) (hr1 : Kd.C (Kd.int .i64) w A1 l1.length l1) (hc1 : l1.length ≤ c1) (h : impl_Graph_locked.f k a0_0 l0_1 l1 = some r) :
 Calls Tryz.prog 50 #[.agg #[.int .i64 a0_0, .slice A0_1 l0_1.length c0_1], .slice A1 l1.length c1] w fun e w' => ∃ v0_ : Value, e = .returned (v0_) ∧ Kd.R (Kd.int .i64) 3 w' w.heap.size (fun _ => True) v0_ r ∧ Below w.heap.size w w' := by
 have hu30 := Tryz.underlying30
 have hu52 := Tryz.underlying52
 have HR0_1 := Aside0.mk hr0_1
 have HC0_1 := Aside0.mk hc0_1
 clear hr0_1 hc0_1
 have HR1 := Aside0.mk hr1
 have HC1 := Aside0.mk hc1
 clear hr1 hc1
 have HB := zM (Below.refl w.heap.size w)
 have H : ((impl_SlideSpace.f k a0_0 l0_1 (l1.length : Int)).bind fun bt861 => ((impl_Space_place.f bt861.1 bt861.2.1 l1).bind fun bt869 => ((impl_bagOf.f k l1).bind fun t871 => ((impl_Space_roads.f k bt861.1 bt861.2.1).bind fun t872 => ((impl_spread.f k t872 bt869.1).bind fun t875 => (impl_Graph_locked.l0 k t871 t875 (t875.length : Int) 0 bt861.1 bt861.2.1)))))) = some r := h
 clear h
 replace H := Option.bind_eq_some_iff.mp H
 obtain ⟨⟨t861, t864, t867⟩, A30, H⟩ := H
 replace H : ((impl_Space_place.f t861 t864 l1).bind fun bt869 => ((impl_bagOf.f k l1).bind fun t871 => ((impl_Space_roads.f k t861 t864).bind fun t872 => ((impl_spread.f k t872 bt869.1).bind fun t875 => (impl_Graph_locked.l0 k t871 t875 (t875.length : Int) 0 t861 t864))))) = some r := H
 have A3 := Aside0.mk A30
 clear A30
 replace H := Option.bind_eq_some_iff.mp H
 obtain ⟨⟨t869, t870⟩, A40, H⟩ := H
 replace H : ((impl_bagOf.f k l1).bind fun t871 => ((impl_Space_roads.f k t861 t864).bind fun t872 => ((impl_spread.f k t872 t869).bind fun t875 => (impl_Graph_locked.l0 k t871 t875 (t875.length : Int) 0 t861 t864)))) = some r := H
 have A4 := Aside0.mk A40
 clear A40
 replace H := Option.bind_eq_some_iff.mp H
 obtain ⟨t871, A50, H⟩ := H
 have A5 := Aside0.mk A50
 clear A50
 replace H := Option.bind_eq_some_iff.mp H
 obtain ⟨t872, A60, H⟩ := H
 have A6 := Aside0.mk A60
 clear A60
 replace H := Option.bind_eq_some_iff.mp H
 obtain ⟨t875, A70, H⟩ := H
 have A7 := Aside0.mk A70
 clear A70
 have H' := Aside0.mk H
 clear H
 go_enter Tryz.func50, Tryz.ntmps50
 go_wp2_with (first | ((with_reducible refine gate_dst (N := 2) rfl ?_); refine zb (w := w) 2 #[.int .i64 a0_0, .slice A0_1 l0_1.length c0_1] 30 zB ?_; clear HB; intro gb860 w8 HB BK860 GW860; have GE860 := GW860; have hcz9_0 := zy BK860 0; have hcz9_1 := zy BK860 1; have hfz9_0 := blk_frozen BK860.out 0; have hfz9_1 := blk_frozen BK860.out 1) | ((with_reducible refine gate_callee (f := 41) rfl ?_); refine zc 16 Tryz.func41 #[.agg #[.int .i64 a0_0, .slice A0_1 l0_1.length c0_1], .int .i64 (l1.length : Int)] ?_; (with_reducible refine (impl_SlideSpace.calls k a0_0 _ _ l0_1 (l1.length : Int) t861 t864 t867 _ ?side1 ?side2 A3.out).mono ?_); (case side1 => exact zC (Kd.C_below HR0_1.out HB.out)); (case side2 => exact HC0_1.out); rintro e w10 ⟨v862, v865, rfl, ho0, ho1, hb⟩; refine ⟨_, rfl, ?_⟩; have HO863 := zM (Kd.S_lower ho0 (below_size zB)); have HO866 := zM (Kd.R_lower ho1 (below_size zB)); replace BK860 := zM (blk_below (g := gb860) (o := .cells #[.int .i64 a0_0, .slice A0_1 l0_1.length c0_1] 30 (0, 0)) (zK BK860.out) hb); replace HB := zM (below_step zB hb); (try clear hb); (try clear ho0); (try clear ho1)) | ((with_reducible refine gate_dst (N := 5) rfl ?_); refine ze 5 #[.slice none 0 0, .slice none 0 0] 52 ?_; intro gb868 hg w11 hbox hb; replace HO863 := zM (Kd.S_below (by (with_reducible repeat (first | apply Kd.S_alloc | apply Kd.S_drewN | apply Kd.S_drew)); exact HO863.out) hb); replace HO866 := zM (Kd.R_below (zR HO866.out) hb); have BK868 := zM (hbox); have GW868 := zM ((by rw [hg]; exact (below_size zB) : w.heap.size ≤ gb868)); have GE868 := zM ((by rw [hg]; exact (below_size zB) : w.heap.size ≤ gb868)); replace HB := zM (below_step zB hb); have NB860_868 := zM ((by rw [hg]; exact Nat.ne_of_lt (blk_lt (g := gb860) (o := .cells #[.int .i64 a0_0, .slice A0_1 l0_1.length c0_1] 30 (0, 0)) (zK BK860.out)) : gb860 ≠ gb868)); have NB868_860 := zM ((by rw [hg]; exact Nat.ne_of_gt (blk_lt (g := gb860) (o := .cells #[.int .i64 a0_0, .slice A0_1 l0_1.length c0_1] 30 (0, 0)) (zK BK860.out)) : gb868 ≠ gb860)); replace BK860 := zM (blk_below (g := gb860) (o := .cells #[.int .i64 a0_0, .slice A0_1 l0_1.length c0_1] 30 (0, 0)) (zK BK860.out) hb); clear hb hbox hg; obtain ⟨Ao12, co12, eo12⟩ := Kd.S_slice HO863.out; subst eo12; have hnb13 := NB868_860.out; have hnc13 := NB860_868.out; have hcz14_0 := zy BK868 0; have hcz14_1 := zy BK868 1; have hfz14_0 := blk_frozen BK868.out 0; have hfz14_1 := blk_frozen BK868.out 1; obtain ⟨Ao15, co15, eo15⟩ := Kd.R_slice HO866.out; subst eo15) | ((with_reducible refine gate_callee (f := 64) rfl ?_); refine zc 22 Tryz.func64 #[.agg #[.slice Ao12 t861.length co12, .slice Ao15 t864.length co15], .slice A1 l1.length c1] ?_; (with_reducible refine (impl_Space_place.calls _ _ t861 _ _ t864 _ _ l1 t869 t870 _ ?side1 ?side2 ?side3 ?side4 ?side5 ?side6 A4.out).mono ?_); (case side1 => refine (Kd.S_reads' (e := 25) (base := w.heap.size) (ok := fun k_ => True) (n := t861.length) (c := co12) ?_).2.2; exact (by (with_reducible repeat (first | apply Kd.S_alloc | apply Kd.S_drewN | apply Kd.S_drew)); exact (Kd.S_mono (Kd.S_far (p := ⟨gb868, 1, none⟩) (Kd.S_far (p := ⟨gb868, 0, none⟩) (Kd.S_types HO863.out BK868.out (by decide)) (fun _ hk => hk.2) (.slice Ao12 t861.length co12)) (fun _ hk => hk.2) (.slice Ao15 t864.length co15)) (fun _ h_ => h_.1)))); (case side2 => exact (Kd.S_reads' HO863.out).2.1); (case side3 => refine (Kd.R_reads' (e := 69) (base := w.heap.size) (ok := fun k_ => True) (n := t864.length) (c := co15) ?_).2.2; exact (by (with_reducible repeat (first | apply Kd.R_alloc | apply Kd.R_drewN | apply Kd.R_drew)); exact (Kd.R_mono (Kd.R_far (p := ⟨gb868, 1, none⟩) (Kd.R_far (p := ⟨gb868, 0, none⟩) (Kd.R_types HO866.out BK868.out (by decide)) (fun _ hk => hk.2) (.slice Ao12 t861.length co12)) (fun _ hk => hk.2) (.slice Ao15 t864.length co15)) (fun _ h_ => h_.1)))); (case side4 => exact (Kd.R_reads' HO866.out).2.1); (case side5 => exact Kd.C_below HR1.out zB); (case side6 => exact HC1.out); rintro e w16 ⟨rfl, hb⟩; refine ⟨_, rfl, ?_⟩; replace HO863 := zM (Kd.S_below (by (with_reducible repeat (first | apply Kd.S_alloc | apply Kd.S_drewN | apply Kd.S_drew)); exact (Kd.S_mono (Kd.S_far (p := ⟨gb868, 1, none⟩) (Kd.S_far (p := ⟨gb868, 0, none⟩) (Kd.S_types HO863.out BK868.out (by decide)) (fun _ hk => hk.2) (.slice Ao12 t861.length co12)) (fun _ hk => hk.2) (.slice Ao15 t864.length co15)) (fun _ h_ => h_.1))) hb); replace HO866 := zM (Kd.R_below (by (with_reducible repeat (first | apply Kd.R_alloc | apply Kd.R_drewN | apply Kd.R_drew)); exact (Kd.R_mono (Kd.R_far (p := ⟨gb868, 1, none⟩) (Kd.R_far (p := ⟨gb868, 0, none⟩) (Kd.R_types HO866.out BK868.out (by decide)) (fun _ hk => hk.2) (.slice Ao12 t861.length co12)) (fun _ hk => hk.2) (.slice Ao15 t864.length co15)) (fun _ h_ => h_.1))) hb); replace BK860 := zM (blk_below (g := gb860) (o := .cells #[.int .i64 a0_0, .slice A0_1 l0_1.length c0_1] 30 (0, 0)) (by (with_reducible repeat (first | refine blk_drewN ?_ _ | refine blk_drew ?_ | refine blk_alloc ?_ _)); refine blk_far ?_ NB860_868.out _; (with_reducible repeat (first | refine blk_drewN ?_ _ | refine blk_drew ?_ | refine blk_alloc ?_ _)); refine blk_far ?_ NB860_868.out _; (with_reducible repeat (first | refine blk_drewN ?_ _ | refine blk_drew ?_ | refine blk_alloc ?_ _)); exact BK860.out) hb); replace BK868 := zM (blk_below (g := gb868) (o := .cells #[.slice Ao12 t861.length co12, .slice Ao15 t864.length co15] 52 (0, 0)) (by (with_reducible repeat (first | refine blk_drewN ?_ _ | refine blk_drew ?_ | refine blk_alloc ?_ _)); refine blk_put (cs := #[.slice Ao12 t861.length co12, .slice none 0 0]) ?_ 1 _ rfl; (with_reducible repeat (first | refine blk_drewN ?_ _ | refine blk_drew ?_ | refine blk_alloc ?_ _)); refine blk_put (cs := #[.slice none 0 0, .slice none 0 0]) ?_ 0 _ rfl; (with_reducible repeat (first | refine blk_drewN ?_ _ | refine blk_drew ?_ | refine blk_alloc ?_ _)); exact BK868.out) hb); replace HB := zM (below_step zB hb); (try clear hb); (try clear hi)) | ((with_reducible refine gate_callee (f := 74) rfl ?_); refine zc 26 Tryz.func74 #[.slice A1 l1.length c1] ?_; (with_reducible refine (impl_bagOf.calls k _ _ l1 t871 _ ?side1 ?side2 A5.out).mono ?_); (case side1 => exact zC (Kd.C_below HR1.out HB.out)); (case side2 => exact HC1.out); rintro e w' ⟨rfl, ⟨nd, rfl⟩⟩; refine ⟨_, rfl, ?_⟩; have hcz17_0 := zy BK868 0; have hcz17_1 := zy BK868 1; have hfz17_0 := blk_frozen BK868.out 0; have hfz17_1 := blk_frozen BK868.out 1) | ((with_reducible refine gate_callee (f := 44) rfl ?_); refine zc 28 Tryz.func44 #[.agg #[.slice Ao12 t861.length co12, .slice Ao15 t864.length co15]] ?_; (with_reducible refine (impl_Space_roads.calls k _ _ t861 _ _ t864 t872 _ ?side1 ?side2 ?side3 ?side4 A6.out).mono ?_); (case side1 => exact zC (Kd.S_reads' HO863.out).2.2); (case side2 => exact (Kd.S_reads' HO863.out).2.1); (case side3 => exact zC (Kd.R_reads' HO866.out).2.2); (case side4 => exact (Kd.R_reads' HO866.out).2.1); rintro e w18 ⟨v873, rfl, ho0, hb⟩; refine ⟨_, rfl, ?_⟩; replace HO866 := zM (Kd.R_below (zR HO866.out) hb); have HO874 := zM (Kd.S_lower (Kd.S_new' ho0 (Kd.S_lt (by (with_reducible repeat (first | apply Kd.S_alloc | apply Kd.S_drewN | apply Kd.S_drew)); exact HO863.out))) (below_size zB)); replace HO863 := zM (Kd.S_elder' (by (with_reducible repeat (first | apply Kd.S_alloc | apply Kd.S_drewN | apply Kd.S_drew)); exact HO863.out) (Kd.S_base ho0) hb); replace BK860 := zM (blk_below (g := gb860) (o := .cells #[.int .i64 a0_0, .slice A0_1 l0_1.length c0_1] 30 (0, 0)) (zK BK860.out) hb); replace BK868 := zM (blk_below (g := gb868) (o := .cells #[.slice Ao12 t861.length co12, .slice Ao15 t864.length co15] 52 (0, 0)) (zK BK868.out) hb); replace HB := zM (below_step zB hb); (try clear hb); (try clear ho0); obtain ⟨Ao19, co19, eo19⟩ := Kd.S_slice HO874.out; subst eo19) | ((with_reducible refine gate_callee (f := 75) rfl ?_); refine zc 30 Tryz.func75 #[.slice Ao19 t872.length co19, .int .i64 t869] ?_; (with_reducible refine (impl_spread.calls k _ _ t872 t869 t875 _ ?side1 ?side2 A7.out).mono ?_); (case side1 => exact zC (Kd.S_reads' HO874.out).2.2); (case side2 => exact (Kd.S_reads' HO874.out).2.1); rintro e w20 ⟨v876, rfl, ho0, hb⟩; refine ⟨_, rfl, ?_⟩; replace HO863 := zM (Kd.S_elder' (by (with_reducible repeat (first | apply Kd.S_alloc | apply Kd.S_drewN | apply Kd.S_drew)); exact HO863.out) (Kd.R_base ho0) hb); replace HO866 := zM (Kd.R_below (zR HO866.out) hb); replace HO874 := zM (Kd.S_elder' (by (with_reducible repeat (first | apply Kd.S_alloc | apply Kd.S_drewN | apply Kd.S_drew)); exact HO874.out) (Kd.R_base ho0) hb); have HO877 := zM (Kd.R_lower ho0 (below_size zB)); replace BK860 := zM (blk_below (g := gb860) (o := .cells #[.int .i64 a0_0, .slice A0_1 l0_1.length c0_1] 30 (0, 0)) (zK BK860.out) hb); replace BK868 := zM (blk_below (g := gb868) (o := .cells #[.slice Ao12 t861.length co12, .slice Ao15 t864.length co15] 52 (0, 0)) (zK BK868.out) hb); replace HB := zM (below_step zB hb); (try clear hb); (try clear ho0); obtain ⟨Ao21, co21, eo21⟩ := Kd.R_slice HO877.out; subst eo21))
 go_loopg [9, 32] k (fun kq v9 v32 w' => ∃ (x9_1 : Int) (x32_1 : Int), v9 = .int .u64 x9_1 ∧ v32 = .int .i64 x32_1 ∧ Aside0 (impl_Graph_locked.l0 kq x9_1 t875 (t875.length : Int) x32_1 t861 t864 = some r) ∧ Aside0 (kq ≤ k) ∧ Aside0 (Kd.R (Kd.int .i64) 3 w' w.heap.size (fun _ => True) (.slice Ao21 t875.length co21) t875) ∧ Aside0 (Kd.S (Kd.slice 3 (Kd.int .i64)) 25 w' w.heap.size (fun k_ => some k_ ≠ ((.slice Ao21 t875.length co21) : Value).ownBlock) (.slice Ao12 t861.length co12) t861) ∧ Aside0 (Kd.R k69 69 w' w.heap.size (fun _ => True) (.slice Ao15 t864.length co15) t864) ∧ Aside0 (w'.heap[gb860]? = some (.cells #[.int .i64 a0_0, (.slice A0_1 l0_1.length c0_1)] 30 (0, 0))) ∧ Aside0 (w'.heap[gb868]? = some (.cells #[(.slice Ao12 t861.length co12), (.slice Ao15 t864.length co15)] 52 (0, 0))) ∧ Aside0 (Below w.heap.size w w'))
 case atStart => exact ⟨(t871), (0), (by first | rfl | (simp; done) | (simp [*]; done)), (by first | rfl | (simp; done) | (simp [*]; done)), H', ⟨Nat.le_refl _⟩, ⟨zR HO877.out⟩, ⟨by (with_reducible repeat (first | apply Kd.S_alloc | apply Kd.S_drewN | apply Kd.S_drew)); exact Kd.S_mono HO863.out (fun _ hk => hk.2)⟩, ⟨zR HO866.out⟩, ⟨zK BK860.out⟩, ⟨zK BK868.out⟩, ⟨zB⟩⟩
 case round =>
  clear H'
  try clear c1
  try clear p2
  try clear c4
  try clear c5
  try clear c6
  try clear c7
  try clear c13
  try clear hcz14_0
  try clear hcz14_1
  try clear hcz17_0
  try clear hcz17_1
  try clear hcz9_0
  try clear hcz9_1
  try clear hfz14_0
  try clear hfz14_1
  try clear hfz17_0
  try clear hfz17_1
  try clear hfz9_0
  try clear hfz9_1
  obtain ⟨x9_1, x32_1, rfl, rfl, HA, HK1, HO_30, HO_869000, HO_869001, BK860, BK868, HB⟩ := hrel
  cases gk with
  | zero => exact absurd HA.out (by simp [impl_Graph_locked.l0])
  | succ k1 =>
   have H := HA.out
   clear HA
   simp only [impl_Graph_locked.l0] at H
   by_cases c22 : x32_1 < (t875.length : Int)
   · rw [if_pos c22] at H
     have c22b0 := decide_eq_true c22
     clear c22
     by_cases c23 : 0 ≤ x32_1
     · rw [if_pos c23] at H
       have c23b0 := decide_eq_true c23
       clear c23
       by_cases c24 : x32_1 < (t875.length : Int)
       · rw [if_pos c24] at H
         have c24b0 := decide_eq_true c24
         clear c24
         by_cases c25 : (rd t875 x32_1) ≥ 0
         · rw [if_pos c25] at H
           have c25b0 : decide (0 ≤ (rd t875 x32_1)) = true := decide_eq_true c25
           clear c25
           by_cases c26 : x32_1 < (t861.length : Int)
           · rw [if_pos c26] at H
             have c26b0 := decide_eq_true c26
             clear c26
             replace H := Option.bind_eq_some_iff.mp H
             obtain ⟨t880, A270, H⟩ := H
             have A27 := Aside0.mk A270
             clear A270
             have H' := Aside0.mk H
             clear H
             have p878 : 0 ≤ (x32_1 : Int) := of_decide_eq_true zA
             have q878 : x32_1 < (t875.length : Int) := of_decide_eq_true zA
             obtain ⟨ad878, e878, hx878_0⟩ := Kd.at_int (Kd.R_reads' HO_30.out).2.2 x32_1 p878 q878
             cases e878
             replace p878 := eq_true p878
             replace q878 := eq_true q878
             have hnb28 := NB868_860.out
             have hnc28 := NB860_868.out
             have hcz29_0 := zy BK868 0
             have hcz29_1 := zy BK868 1
             have hfz29_0 := blk_frozen BK868.out 0
             have hfz29_1 := blk_frozen BK868.out 1
             have p879 : 0 ≤ (x32_1 : Int) := of_decide_eq_true zA
             have q879 : x32_1 < (t861.length : Int) := of_decide_eq_true zA
             obtain ⟨ad879, A879_0, c879_0, e879, hx879_0, hl879_0, hi879_0⟩ := at_L2 (Kd.S_reads' HO_869000.out).2.2 x32_1 p879 q879
             cases e879
             obtain ⟨ce879, hce879, hMe879, hcc879⟩ := Kd.S_get HO_869000.out [] x32_1 p879 (by first | exact q879 | exact of_decide_eq_true zA | (have e_ := (Kd.S_reads' HO_869000.out).1; omega))
             obtain ⟨ve879_0, rfl, ge879_0⟩ := hMe879
             have hv879_0 := hcc879 0 _ rfl
             rw [Nat.add_zero, show ((Kd.slice 3 (Kd.int .i64))).sz = 1 from rfl, Nat.mul_one] at hv879_0
             replace hv879_0 := Option.some.inj (hv879_0.symm.trans hx879_0)
             rw [hv879_0] at ge879_0
             have HL879_0 := zM (show Kd.R (Kd.int .i64) 3 _ _ _ _ (rd_L2 t861 x32_1) from ge879_0)
             clear hv879_0 ge879_0
             clear hcc879 hce879
             have HR879_0 := Aside0.mk hi879_0
             have HC879_0 := Aside0.mk hl879_0
             clear hi879_0 hl879_0
             replace p879 := eq_true p879
             replace q879 := eq_true q879
             go_wp2_with (first | ((with_reducible refine gate_callee (f := 74) rfl ?_); refine zc 45 Tryz.func74 #[.slice A879_0 (rd_L2 t861 x32_1).length c879_0] ?_; (with_reducible refine (impl_bagOf.calls k1 _ _ (rd_L2 t861 x32_1) t880 _ ?side1 ?side2 A27.out).mono ?_); (case side1 => repeat (first | exact (by repeat (first | (with_reducible exact HR879_0.out) | (with_reducible refine Kd.C_alloc ?_ _) | (with_reducible refine Kd.C_drewN ?_ _) | (with_reducible refine Kd.C_drew ?_) | exact HR879_0.out)) | (with_reducible refine Kd.C_alloc ?_ _) | (with_reducible refine Kd.C_drewN ?_ _) | (with_reducible refine Kd.C_drew ?_))); (case side2 => exact HC879_0.out); rintro e w' ⟨rfl, ⟨nd, rfl⟩⟩; refine ⟨_, rfl, ?_⟩))
             go_roundg k1
             case measure => have := HK1.out; omega
             case rel => exact ⟨(Go.bits .and .u64 x9_1 t880), (wrap64 (x32_1 + 1)), (by first | rfl | (simp; done) | (simp [*]; done)), (by first | rfl | (simp; done) | (simp [*]; done)), H', ⟨by have := HK1.out; omega⟩, ⟨zR HO_30.out⟩, ⟨by (with_reducible repeat (first | apply Kd.S_alloc | apply Kd.S_drewN | apply Kd.S_drew)); exact HO_869000.out⟩, ⟨zR HO_869001.out⟩, ⟨zK BK860.out⟩, ⟨zK BK868.out⟩, ⟨zB⟩⟩
           · rw [if_neg c26] at H
             simp at H
         · rw [if_neg c25] at H
           have c25b0 : decide (0 ≤ (rd t875 x32_1)) = false := decide_eq_false c25
           clear c25
           have H' := Aside0.mk H
           clear H
           have p878 : 0 ≤ (x32_1 : Int) := of_decide_eq_true zA
           have q878 : x32_1 < (t875.length : Int) := of_decide_eq_true zA
           obtain ⟨ad878, e878, hx878_0⟩ := Kd.at_int (Kd.R_reads' HO_30.out).2.2 x32_1 p878 q878
           cases e878
           replace p878 := eq_true p878
           replace q878 := eq_true q878
           go_wp2
           go_roundg k1
           case measure => have := HK1.out; omega
           case rel => exact ⟨(x9_1), (wrap64 (x32_1 + 1)), (by first | rfl | (simp; done) | (simp [*]; done)), (by first | rfl | (simp; done) | (simp [*]; done)), H', ⟨by have := HK1.out; omega⟩, ⟨zR HO_30.out⟩, ⟨by (with_reducible repeat (first | apply Kd.S_alloc | apply Kd.S_drewN | apply Kd.S_drew)); exact HO_869000.out⟩, ⟨zR HO_869001.out⟩, ⟨zK BK860.out⟩, ⟨zK BK868.out⟩, ⟨zB⟩⟩
       · rw [if_neg c24] at H
         simp at H
     · rw [if_neg c23] at H
       simp at H
   · rw [if_neg c22] at H
     have c22b0 : decide (x32_1 < (t875.length : Int)) = false := decide_eq_false c22
     clear c22
     replace H := Option.bind_eq_some_iff.mp H
     obtain ⟨t881, A300, H⟩ := H
     have A30 := Aside0.mk A300
     clear A300
     obtain rfl := Option.some.inj H
     go_wp2_with (first | ((with_reducible refine gate_callee (f := 76) rfl ?_); refine zc 49 Tryz.func76 #[.int .u64 x9_1] ?_; (with_reducible refine (impl_bag_list.calls k1 x9_1 t881 _ A30.out).mono ?_); rintro e w31 ⟨v882, rfl, ho0, hb⟩; refine ⟨_, rfl, ?_⟩; replace HO_869000 := zM (Kd.S_elder' (by (with_reducible repeat (first | apply Kd.S_alloc | apply Kd.S_drewN | apply Kd.S_drew)); exact HO_869000.out) (Kd.R_base ho0) hb); replace HO_869001 := zM (Kd.R_below (zR HO_869001.out) hb); have HO883 := zM (Kd.R_lower (Kd.R_new' ho0 (Kd.R_lt (zR HO_30.out))) (below_size zB)); replace HO_30 := zM (Kd.R_elder' (zR HO_30.out) (Kd.R_base ho0) hb); replace BK860 := zM (blk_below (g := gb860) (o := .cells #[.int .i64 a0_0, .slice A0_1 l0_1.length c0_1] 30 (0, 0)) (zK BK860.out) hb); replace BK868 := zM (blk_below (g := gb868) (o := .cells #[.slice Ao12 t861.length co12, .slice Ao15 t864.length co15] 52 (0, 0)) (zK BK868.out) hb); replace HB := zM (below_step zB hb); (try clear hb); (try clear ho0)))
     go_ret
     exact ⟨_, by first | rfl | (simp [errW_none, errW_some] <;> rfl) | (simp [*, errW_none, errW_some] <;> rfl), by (with_reducible repeat (first | apply Kd.R_alloc | apply Kd.R_drewN | apply Kd.R_drew)); exact Kd.R_mono HO883.out (fun _ hk => trivial), zB⟩
attribute [local go_sem] max2_int min2_int max_two min_two max_three min_three max_four min_four
set_option linter.unusedVariables false
set_option linter.unusedSimpArgs false
def impl_LockedTokens.f (k : Nat) (a0_0 : Int) (l0_1 : List (S69)) (l1 : List Int) : Option (List Int × Bool) := (impl_twoSets.f k a0_0 l0_1 l1 l1).bind fun t885 => (if t885 = true then ((impl_Graph_locked.f k a0_0 l0_1 l1).bind fun t886 => (some (t886, true))) else (some (([] : List Int), false)))
theorem impl_LockedTokens.calls (k : Nat) (a0_0 : Int) (A0_1 : Option Addr) (c0_1 : Nat) (l0_1 : List (S69)) (A1 : Option Addr) (c1 : Nat) (l1 : List Int) (r1 : List Int) (r2 : Bool) (w : World) (hr0_1 : Kd.C k69 w A0_1 l0_1.length l0_1) (hc0_1 : l0_1.length ≤ c0_1) (hr1 : Kd.C (Kd.int .i64) w A1 l1.length l1) (hc1 : l1.length ≤ c1) (h : impl_LockedTokens.f k a0_0 l0_1 l1 = some (r1, r2)) :
 Calls Tryz.prog 25 #[.agg #[.int .i64 a0_0, .slice A0_1 l0_1.length c0_1], .slice A1 l1.length c1] w fun e w' => ∃ v0_ : Value, e = .returned (.tuple #[v0_, .bool r2]) ∧ Kd.R (Kd.int .i64) 3 w' w.heap.size (fun _ => True) v0_ r1 ∧ Below w.heap.size w w' := by
 have hu30 := Tryz.underlying30
 have HR0_1 := Aside0.mk hr0_1
 have HC0_1 := Aside0.mk hc0_1
 clear hr0_1 hc0_1
 have HR1 := Aside0.mk hr1
 have HC1 := Aside0.mk hc1
 clear hr1 hc1
 have HB := zM (Below.refl w.heap.size w)
 have H : ((impl_twoSets.f k a0_0 l0_1 l1 l1).bind fun t885 => (if t885 = true then ((impl_Graph_locked.f k a0_0 l0_1 l1).bind fun t886 => (some (t886, true))) else (some (([] : List Int), false)))) = some (r1, r2) := h
 clear h
 replace H := Option.bind_eq_some_iff.mp H
 obtain ⟨t885, A30, H⟩ := H
 replace H : (if t885 = true then ((impl_Graph_locked.f k a0_0 l0_1 l1).bind fun t886 => (some (t886, true))) else (some (([] : List Int), false))) = some (r1, r2) := H
 have A3 := Aside0.mk A30
 clear A30
 by_cases c4 : t885 = true
 · subst c4
   have H1 : ((impl_Graph_locked.f k a0_0 l0_1 l1).bind fun t886 => (some (t886, true))) = some (r1, r2) := by rw [if_pos rfl] at H; exact H
   clear H
   have H := H1
   clear H1
   replace H := Option.bind_eq_some_iff.mp H
   obtain ⟨t886, A50, H⟩ := H
   replace H : (some (t886, true)) = some (r1, r2) := H
   have A5 := Aside0.mk A50
   clear A50
   simp only [Option.some.injEq, Prod.mk.injEq] at H
   obtain ⟨rfl, rfl⟩ := H
   go_enter Tryz.func25, Tryz.ntmps25
   go_wp2_with (first | ((with_reducible refine gate_dst (N := 2) rfl ?_); refine zb (w := w) 2 #[.int .i64 a0_0, .slice A0_1 l0_1.length c0_1] 30 zB ?_; clear HB; intro gb884 w6 HB BK884 GW884; have GE884 := GW884; have hcz7_0 := zy BK884 0; have hcz7_1 := zy BK884 1; have hfz7_0 := blk_frozen BK884.out 0; have hfz7_1 := blk_frozen BK884.out 1) | ((with_reducible refine gate_callee (f := 36) rfl ?_); refine zc 9 Tryz.func36 #[.agg #[.int .i64 a0_0, .slice A0_1 l0_1.length c0_1], .slice A1 l1.length c1, .slice A1 l1.length c1] ?_; (with_reducible refine (impl_twoSets.calls k a0_0 _ _ l0_1 _ _ l1 _ _ l1 true _ ?side1 ?side2 ?side3 ?side4 ?side5 ?side6 A3.out).mono ?_); (case side1 => exact zC (Kd.C_below HR0_1.out HB.out)); (case side2 => exact HC0_1.out); (case side3 => exact zC (Kd.C_below HR1.out HB.out)); (case side4 => exact HC1.out); (case side5 => exact zC (Kd.C_below HR1.out HB.out)); (case side6 => exact HC1.out); rintro e w8 ⟨rfl, hb⟩; refine ⟨_, rfl, ?_⟩; replace BK884 := zM (blk_below (g := gb884) (o := .cells #[.int .i64 a0_0, .slice A0_1 l0_1.length c0_1] 30 (0, 0)) (zK BK884.out) hb); replace HB := zM (below_step zB hb); (try clear hb); have hcz9_0 := zy BK884 0; have hcz9_1 := zy BK884 1; have hfz9_0 := blk_frozen BK884.out 0; have hfz9_1 := blk_frozen BK884.out 1) | ((with_reducible refine gate_callee (f := 50) rfl ?_); refine zc 13 Tryz.func50 #[.agg #[.int .i64 a0_0, .slice A0_1 l0_1.length c0_1], .slice A1 l1.length c1] ?_; (with_reducible refine (impl_Graph_locked.calls k a0_0 _ _ l0_1 _ _ l1 t886 _ ?side1 ?side2 ?side3 ?side4 A5.out).mono ?_); (case side1 => exact zC (Kd.C_below HR0_1.out HB.out)); (case side2 => exact HC0_1.out); (case side3 => exact zC (Kd.C_below HR1.out HB.out)); (case side4 => exact HC1.out); rintro e w10 ⟨v887, rfl, ho0, hb⟩; refine ⟨_, rfl, ?_⟩; have HO888 := zM (Kd.R_lower ho0 (below_size zB)); replace BK884 := zM (blk_below (g := gb884) (o := .cells #[.int .i64 a0_0, .slice A0_1 l0_1.length c0_1] 30 (0, 0)) (zK BK884.out) hb); replace HB := zM (below_step zB hb); (try clear hb); (try clear ho0)))
   go_ret2
   exact ⟨_, by first | rfl | (simp [errW_none, errW_some] <;> rfl) | (simp [*, errW_none, errW_some] <;> rfl), by (with_reducible repeat (first | apply Kd.R_alloc | apply Kd.R_drewN | apply Kd.R_drew)); exact HO888.out, zB⟩
 · replace c4 := Bool.eq_false_iff.mpr c4
   subst c4
   have H1 : (some (([] : List Int), false)) = some (r1, r2) := by rw [if_neg (show ¬ (false = true) by decide)] at H; exact H
   clear H
   have H := H1
   clear H1
   simp only [Option.some.injEq, Prod.mk.injEq] at H
   obtain ⟨rfl, rfl⟩ := H
   go_enter Tryz.func25, Tryz.ntmps25
   go_wp2_with (first | ((with_reducible refine gate_dst (N := 2) rfl ?_); refine zb (w := w) 2 #[.int .i64 a0_0, .slice A0_1 l0_1.length c0_1] 30 zB ?_; clear HB; intro gb884 w11 HB BK884 GW884; have GE884 := GW884; have hcz12_0 := zy BK884 0; have hcz12_1 := zy BK884 1; have hfz12_0 := blk_frozen BK884.out 0; have hfz12_1 := blk_frozen BK884.out 1) | ((with_reducible refine gate_callee (f := 36) rfl ?_); refine zc 9 Tryz.func36 #[.agg #[.int .i64 a0_0, .slice A0_1 l0_1.length c0_1], .slice A1 l1.length c1, .slice A1 l1.length c1] ?_; (with_reducible refine (impl_twoSets.calls k a0_0 _ _ l0_1 _ _ l1 _ _ l1 false _ ?side1 ?side2 ?side3 ?side4 ?side5 ?side6 A3.out).mono ?_); (case side1 => exact zC (Kd.C_below HR0_1.out HB.out)); (case side2 => exact HC0_1.out); (case side3 => exact zC (Kd.C_below HR1.out HB.out)); (case side4 => exact HC1.out); (case side5 => exact zC (Kd.C_below HR1.out HB.out)); (case side6 => exact HC1.out); rintro e w13 ⟨rfl, hb⟩; refine ⟨_, rfl, ?_⟩; replace BK884 := zM (blk_below (g := gb884) (o := .cells #[.int .i64 a0_0, .slice A0_1 l0_1.length c0_1] 30 (0, 0)) (zK BK884.out) hb); replace HB := zM (below_step zB hb); (try clear hb); (try clear hi)))
   go_ret2
   exact ⟨_, by first | rfl | (simp [errW_none, errW_some] <;> rfl) | (simp [*, errW_none, errW_some] <;> rfl), by first | exact Kd.R_nil _ _ _ _ _ | exact Kd.N_nil _ _ _ _ _ | exact Kd.V_nil _ _ _ _ _ | exact Kd.Q_nil _ _ _ _ _ | exact Kd.S_nil _ _ _ _ _, zB⟩
attribute [local go_sem] max2_int min2_int max_two min_two max_three min_three max_four min_four
set_option linter.unusedVariables false
set_option linter.unusedSimpArgs false
def laws_markIntS.l0 : Nat → List Int → Int → Int → Option (Int × List Int)
 | 0, _, _, _ => none
 | k + 1, x0, x1, x5 => if x5 < (x0.length : Int) then (if 0 ≤ x5 then (laws_markIntS.l0 k (x0.set (x5 : Int).toNat x1) (wrap64 (x1 + 1)) (wrap64 (x5 + 1))) else (none)) else (some (x1, x0))
def laws_markIntS.f (k : Nat) (l0 : List Int) (a1 : Int) : Option (Int × List Int) := laws_markIntS.l0 k l0 a1 0
theorem laws_markIntS.calls (k : Nat) (P0_ : Nat → Prop) (u9000_ : Value) (l0 : List Int) (a1 : Int) (r1 : Int) (r2 : List Int) (w0 w : World) (hB : Below w0.heap.size w0 w) (ho0 : Kd.R (Kd.int .i64) 3 w w0.heap.size P0_ u9000_ l0) (h : laws_markIntS.f k l0 a1 = some (r1, r2)) :
 Calls Tryz.prog 17 #[u9000_, .int .i64 a1] w fun e w' => e = .returned (.int .i64 r1) ∧ Kd.R (Kd.int .i64) 3 w' w0.heap.size (fun k_ => (P0_ k_ ∨ w.heap.size ≤ k_)) u9000_ r2 ∧ Below w0.heap.size w0 w' ∧ Kept w w' (fun k_ => P0_ k_) := by
 have HO0 := zM (show Kd.R (Kd.int .i64) 3 w w0.heap.size (fun k_ => (P0_ k_ ∨ w.heap.size ≤ k_)) u9000_ l0 from Kd.R_mono ho0 (fun k_ hk => (.inl hk)))
 have HK := zM (Kept.refl w (fun k_ => P0_ k_))
 have HW0 := Aside0.mk hB.size
 have HB := Aside0.mk hB
 clear hB
 have H : (laws_markIntS.l0 k l0 a1 0) = some (r1, r2) := h
 clear h
 have H' := Aside0.mk H
 clear H
 go_enter Tryz.func17, Tryz.ntmps17
 go_wp2
 go_loopg [1, 5] k (fun kq v1 v5 w' => ∃ (x0_1 : List Int) (x1_1 : Int) (x5_1 : Int), v1 = .int .i64 x1_1 ∧ v5 = .int .i64 x5_1 ∧ Aside0 (laws_markIntS.l0 kq x0_1 x1_1 x5_1 = some (r1, r2)) ∧ Aside0 (kq ≤ k) ∧ Aside0 (Kd.R (Kd.int .i64) 3 w' w0.heap.size (fun k_ => (P0_ k_ ∨ w.heap.size ≤ k_)) u9000_ x0_1) ∧ Aside0 (Kept w w' (fun k_ => P0_ k_)) ∧ Aside0 (Below w0.heap.size w0 w'))
 case atStart => exact ⟨(l0), (a1), (0), (by first | rfl | (simp; done) | (simp [*]; done)), (by first | rfl | (simp; done) | (simp [*]; done)), H', ⟨Nat.le_refl _⟩, ⟨zR HO0.out⟩, ⟨by repeat (first | (with_reducible first | exact HK.out | apply Kept.alloc | apply Kept.drewN | apply Kept.drew) | exact HK.out)⟩, ⟨zB⟩⟩
 case round =>
  clear H'
  try clear c1
  try clear p2
  obtain ⟨x0_1, x1_1, x5_1, rfl, rfl, HA, HK1, HO_0, HK, HB⟩ := hrel
  cases gk with
  | zero => exact absurd HA.out (by simp [laws_markIntS.l0])
  | succ k1 =>
   have H := HA.out
   clear HA
   simp only [laws_markIntS.l0] at H
   by_cases c3 : x5_1 < (x0_1.length : Int)
   · rw [if_pos c3] at H
     have c3b0 := decide_eq_true c3
     clear c3
     by_cases c4 : 0 ≤ x5_1
     · rw [if_pos c4] at H
       have c4b0 := decide_eq_true c4
       clear c4
       obtain ⟨y135, hy135⟩ : ∃ y_ : List Int, y_ = (x0_1.set (x5_1 : Int).toNat x1_1) := ⟨_, rfl⟩
       replace H : (laws_markIntS.l0 k1 y135 (wrap64 (x1_1 + 1)) (wrap64 (x5_1 + 1))) = some (r1, r2) := by first | (rw [hy135]; with_reducible exact H) | (have H2_ := (Option.bind_some _ _).symm.trans H; rw [hy135]; with_reducible exact H2_) | (have H2_ := (Option.bind_some _ _).symm.trans H; with_reducible exact H2_) | with_reducible exact H | (rw [hy135]; exact H) | exact H
       have Ny135 := Aside0.mk hy135
       clear hy135
       have H' := Aside0.mk H
       clear H
       obtain ⟨Ao6, co6, eo6⟩ := Kd.R_slice HO_0.out
       subst eo6
       have p5 : 0 ≤ (x5_1 : Int) := of_decide_eq_true zA
       have q5 : (x5_1 : Int) < ((x0_1.length : Int) : Int) := of_decide_eq_true zA
       obtain ⟨go5, co5, eo5, gb5, gl5, cl5, HG5⟩ := Kd.R_form HO_0.out (by omega)
       (first | cases eo5 | (injection eo5 with ea_ en_ ec_; (first | subst ea_ | (injection ea_ with ea_; subst ea_)); subst ec_; clear en_))
       have GB5 := Aside0.mk gb5
       have GG5 := Aside0.mk HG5
       clear gb5 gl5 HG5
       have HMgo5 := zM (show (P0_ go5 ∨ w.heap.size ≤ go5) from (HO_0.out.1 _ rfl))
       obtain ⟨hx5_0, hf5_0⟩ := Kd.R_celln 0 HO_0.out (x5_1 : Int) p5 q5
       replace p5 := eq_true p5
       replace q5 := eq_true q5
       have HP7 := Kd.R_putg HO_0.out (x5_1 : Int) x1_1
       go_wp2_with (first | ((with_reducible refine gate_store (t := 3) (p := 15) rfl ?_); refine store_event (t := 3) (p := 15) (v := ?vo_w8) (w1 := (wr.setCell ⟨go5, (x5_1 : Int).toNat, none⟩ (.int .i64 x1_1))) ?hg ?ho ?hn ?hr ?_; (case ho => rfl); (case hg => rfl); (case hn => rfl); (case hr => first | (go_simp; done) | (go_simp; rfl)); intro w8 hw; have hg : wr.grownBy w8 (some go5) := (by rw [hw]; exact HP7.2); have hp_ : Kd.R (Kd.int .i64) 3 w8 w0.heap.size (fun k_ => (P0_ k_ ∨ w.heap.size ≤ k_)) (.slice (some ⟨go5, 0, none⟩) x0_1.length co6) y135 := (by rw [hw, Ny135.out]; exact HP7.1); clear HP7; replace HB := zM ((by rw [hw]; exact below_set (HB.out) GB5.out : Below w0.heap.size w0 w8)); replace HK := zM (Kept.of_grown (S := (fun k_ => P0_ k_)) hg (by repeat (first | (with_reducible first | exact HK.out | apply Kept.alloc | apply Kept.drewN | apply Kept.drew) | exact HK.out)) (fun k_ e_ => (HO_0.out.1 k_ e_))); replace HO_0 := zM (hp_); clear hg hw hp_))
       go_roundg k1
       case measure => have := HK1.out; omega
       case rel => exact ⟨(y135), (wrap64 (x1_1 + 1)), (wrap64 (x5_1 + 1)), (by first | rfl | (simp; done) | (simp [*]; done)), (by first | rfl | (simp; done) | (simp [*]; done)), H', ⟨by have := HK1.out; omega⟩, ⟨zR HO_0.out⟩, ⟨by repeat (first | (with_reducible first | exact HK.out | apply Kept.alloc | apply Kept.drewN | apply Kept.drew) | exact HK.out)⟩, ⟨zB⟩⟩
     · rw [if_neg c4] at H
       simp at H
   · rw [if_neg c3] at H
     have c3b0 : decide (x5_1 < (x0_1.length : Int)) = false := decide_eq_false c3
     clear c3
     simp only [Option.some.injEq, Prod.mk.injEq] at H
     obtain ⟨rfl, rfl⟩ := H
     obtain ⟨Ao9, co9, eo9⟩ := Kd.R_slice HO_0.out
     subst eo9
     go_wp2
     go_ret
     exact ⟨by first | rfl | (simp [errW_none, errW_some] <;> rfl) | (simp [*, errW_none, errW_some] <;> rfl), by (with_reducible repeat (first | apply Kd.R_alloc | apply Kd.R_drewN | apply Kd.R_drew)); exact HO_0.out, by repeat (first | (with_reducible first | exact HB.out | apply below_alloc | apply pw_below_drewN | apply below_drew1) | exact HB.out), by repeat (first | (with_reducible first | exact HK.out | apply Kept.alloc | apply Kept.drewN | apply Kept.drew) | exact HK.out)⟩
attribute [local go_sem] max2_int min2_int max_two min_two max_three min_three max_four min_four
set_option linter.unusedVariables false
set_option linter.unusedSimpArgs false
def laws_heldIntS.l0 : Nat → List Int → Int → Int → Option (Int)
 | 0, _, _, _ => none
 | k + 1, x0, x1, x5 => if x5 < (x0.length : Int) then (if 0 ≤ x5 then (if (rd x0 x5) = x1 then (laws_heldIntS.l0 k x0 (wrap64 (x1 + 1)) (wrap64 (x5 + 1))) else (some (-1))) else (none)) else (some x1)
def laws_heldIntS.f (k : Nat) (l0 : List Int) (a1 : Int) : Option (Int) := laws_heldIntS.l0 k l0 a1 0
theorem laws_heldIntS.calls (k : Nat) (A0 : Option Addr) (c0 : Nat) (l0 : List Int) (a1 : Int) (r : Int) (w : World) (hr0 : Kd.C (Kd.int .i64) w A0 l0.length l0) (hc0 : l0.length ≤ c0) (h : laws_heldIntS.f k l0 a1 = some r) :
 Calls Tryz.prog 26 #[.slice A0 l0.length c0, .int .i64 a1] w fun e w' => e = .returned (.int .i64 r) ∧ Drawn0 w w' := by
 have HR0 := Aside0.mk hr0
 have HC0 := Aside0.mk hc0
 clear hr0 hc0
 have H : (laws_heldIntS.l0 k l0 a1 0) = some r := h
 clear h
 have H' := Aside0.mk H
 clear H
 go_enter Tryz.func26, Tryz.ntmps26
 go_wp2
 go_loopg [1, 5] k (fun kq v1 v5 w' => ∃ (x1_1 : Int) (x5_1 : Int), v1 = .int .i64 x1_1 ∧ v5 = .int .i64 x5_1 ∧ Aside0 (laws_heldIntS.l0 kq l0 x1_1 x5_1 = some r) ∧ Aside0 (kq ≤ k) ∧ Drawn0 w w')
 case atStart => exact ⟨(a1), (0), (by first | rfl | (simp; done) | (simp [*]; done)), (by first | rfl | (simp; done) | (simp [*]; done)), H', ⟨Nat.le_refl _⟩, by repeat (first | exact Drawn0.refl _ | apply Drawn0.step)⟩
 case round =>
  clear H'
  try clear c2
  try clear p2
  obtain ⟨x1_1, x5_1, rfl, rfl, HA, HK1, ⟨m1, rfl⟩⟩ := hrel
  cases gk with
  | zero => exact absurd HA.out (by simp [laws_heldIntS.l0])
  | succ k1 =>
   have H := HA.out
   clear HA
   simp only [laws_heldIntS.l0] at H
   by_cases c3 : x5_1 < (l0.length : Int)
   · rw [if_pos c3] at H
     have c3b0 := decide_eq_true c3
     clear c3
     by_cases c4 : 0 ≤ x5_1
     · rw [if_pos c4] at H
       have c4b0 := decide_eq_true c4
       clear c4
       by_cases c5 : (rd l0 x5_1) = x1_1
       · rw [if_pos c5] at H
         have c5b0 : ((rd l0 x5_1) == x1_1) = true := beq_iff_eq.mpr c5
         have c5b1 : ((rd l0 x5_1) != x1_1) = false := bne_eq_false_iff_eq.mpr c5
         clear c5
         have H' := Aside0.mk H
         clear H
         have p136 : 0 ≤ (x5_1 : Int) := of_decide_eq_true zA
         have q136 : x5_1 < (l0.length : Int) := of_decide_eq_true zA
         obtain ⟨ad136, e136, hx136_0⟩ := Kd.at_int HR0.out x5_1 p136 q136
         cases e136
         replace p136 := eq_true p136
         replace q136 := eq_true q136
         go_wp2
         go_roundg k1
         case measure => have := HK1.out; omega
         case rel => exact ⟨(wrap64 (x1_1 + 1)), (wrap64 (x5_1 + 1)), (by first | rfl | (simp; done) | (simp [*]; done)), (by first | rfl | (simp; done) | (simp [*]; done)), H', ⟨by have := HK1.out; omega⟩, by repeat (first | exact Drawn0.refl _ | apply Drawn0.step)⟩
       · rw [if_neg c5] at H
         have c5b0 : ((rd l0 x5_1) == x1_1) = false := beq_eq_false_iff_ne.mpr c5
         have c5b1 : ((rd l0 x5_1) != x1_1) = true := bne_iff_ne.mpr c5
         obtain rfl := Option.some.inj H
         have p136 : 0 ≤ (x5_1 : Int) := of_decide_eq_true zA
         have q136 : x5_1 < (l0.length : Int) := of_decide_eq_true zA
         obtain ⟨ad136, e136, hx136_0⟩ := Kd.at_int HR0.out x5_1 p136 q136
         cases e136
         replace p136 := eq_true p136
         replace q136 := eq_true q136
         go_wp2
         go_ret
         exact ⟨by first | rfl | (simp; done) | (simp [*]; done), by repeat (first | exact Drawn0.refl _ | apply Drawn0.step)⟩
     · rw [if_neg c4] at H
       simp at H
   · rw [if_neg c3] at H
     have c3b0 : decide (x5_1 < (l0.length : Int)) = false := decide_eq_false c3
     clear c3
     obtain rfl := Option.some.inj H
     go_wp2
     go_ret
     exact ⟨by first | rfl | (simp; done) | (simp [*]; done), by repeat (first | exact Drawn0.refl _ | apply Drawn0.step)⟩
end Go.Proofs.YtadjbmcfgjmhkaaGreat.P
