import Derived.Test.YtadjbmcfgjmhkaaGreatSlideWalkG16
import Derived.Shelf.Abstract
import Derived.Shelf.Small.Bits
import Derived.Shelf.Strconv.Itoa0
import Derived.Shelf.Sort.Plain
import Derived.Shelf.Bits.Mul64
import Derived.Ground.Names2Prog
import Derived.Shelf.Slices.Clone
import Derived.Shelf.Slices.SearchI
import Derived.Shelf.Slices.In.SortNone
import Derived.Ground.SlsfProg
import Derived.Shelf.SlSortCmp.Insertion
import Derived.Shelf.SlSortCmp.SiftDown1
import Derived.Shelf.SlSortCmp.HeapSort1
import Derived.Shelf.SlSortCmp.Insertion1
import Derived.Shelf.SlSortCmp.Median1
import Derived.Shelf.SlSortCmp.Pivot1
import Derived.Shelf.SlSortCmp.ReverseRange1
import Derived.Shelf.SlSortCmp.PartialInsertion1
import Derived.Shelf.SlSortCmp.PartitionEqual1
import Derived.Shelf.SlSortCmp.Partition1
import Derived.Shelf.SlSortCmp.Pdq1
import Derived.Shelf.SlSortCmp.Whole1
import Derived.Shelf.SlSortCmp.NoneTotal
import Derived.Test.YtadjbmcfgjmhkaaGreatProg
namespace Go.Proofs.YtadjbmcfgjmhkaaGreat.P
open Go.RowKit YtadjbmcfgjmhkaaGreatW.PrintWords YtadjbmcfgjmhkaaGreatW.PrintLast YtadjbmcfgjmhkaaGreatW.PrintMore
attribute [local go_sem] aX aT aU aM aV aN aW aQ
set_option linter.unusedVariables false
set_option linter.unusedSimpArgs false
def fi (k : Nat) (a0_0 : Int) (l0_1 : List (S69)) (l1 : List Int) (l2 : List Int) : Option ((List (List Int)) × Bool) := (fY k a0_0 l0_1 l1 l2).bind fun t628 => (if t628 = true then ((fX k a0_0 l0_1 (l1.length : Int) (l1.length : Int)).bind fun t632 => ((eZ k a0_0 l0_1 0 t632).bind fun bt635 => ((dU k bt635.1 bt635.2 l1 l2).bind fun t641 => ((gX t641).bind fun bt644 => (some (bt644.1, bt644.2)))))) else (some ((([] : List (List Int))), false)))
def spec_SlideWalk.T3 : Bool × List (List Nat × List Nat) := (true, [([], []), ([], []), ([], []), ([2], [2]), ([], []), ([4], [4]), ([1, 3, 5], [1, 3, 5]), ([0, 6, 6], [0, 6]), ([], []), ([], []), ([7, 8, 9, 7], [7, 8, 9]), ([10, 10], [10]), ([11], [11]), ([11], [11]), ([12, 11, 0, 1, 2, 3, 4, 5, 6, 7, 8, 9, 10, 11, 12, 13], [12]), ([13, 14, 0, 1, 2, 3, 4, 5, 6, 7, 8, 9, 10, 11, 12, 13, 14], [13])])
def n9 : List Nat := [0, 0, 0, 4, 0, 16, 62, 127, 0, 0, 1023, 2047, 4095, 4095, 16383, 32767]
theorem n5 : aG .any (bP Tryz.f20 3) = spec_SlideWalk.T3 := by kernel_rfl
theorem n8 : bC spec_SlideWalk.T3.2 n9 = true := by kernel_rfl
set_option maxHeartbeats 8000000 in
set_option maxRecDepth 100000 in
theorem n7 (k : Nat) (a0_0 : Int) (A0_1 : Option Addr) (c0_1 : Nat) (l0_1 : List (S69)) (A1 : Option Addr) (c1 : Nat) (l1 : List Int) (A2 : Option Addr) (c2 : Nat) (l2 : List Int) (r1 : List (List Int)) (r2 : Bool) (w : World) (hr0_1 : Kd.C k69 w A0_1 l0_1.length l0_1) (hc0_1 : l0_1.length ≤ c0_1) (hr1 : Kd.C (Kd.int .i64) w A1 l1.length l1) (hc1 : l1.length ≤ c1) (hr2 : Kd.C (Kd.int .i64) w A2 l2.length l2) (hc2 : l2.length ≤ c2) (h : fi k a0_0 l0_1 l1 l2 = some (r1, r2)) :
 Calls Tryz.prog 20 #[.agg #[.int .i64 a0_0, .slice A0_1 l0_1.length c0_1], .slice A1 l1.length c1, .slice A2 l2.length c2] w fun e w' => ∃ v0_ : Value, e = .returned (.tuple #[v0_, .bool r2]) ∧ Kd.V (Kd.slice 3 (Kd.int .i64)) 25 w' w.heap.size (fun k_ => (w.heap.size ≤ k_)) v0_ r1 ∧ Below w.heap.size w w' := by
 have hu30 := Tryz.underlying30
 have HR0_1 := Aside0.mk hr0_1
 have HC0_1 := Aside0.mk hc0_1
 clear hr0_1 hc0_1
 have HR1 := Aside0.mk hr1
 have HC1 := Aside0.mk hc1
 clear hr1 hc1
 have HR2 := Aside0.mk hr2
 have HC2 := Aside0.mk hc2
 clear hr2 hc2
 have HB := zM (Below.refl w.heap.size w)
 have H := h
 unfold fi at H
 clear h
 replace H := ax H
 obtain ⟨t628, A40, H⟩ := H
 try dsimp only at H
 have A4 := Aside0.mk A40
 clear A40
 by_cases c5 : t628 = true
 · subst c5
   rw [if_pos rfl] at H
   replace H := ax H
   obtain ⟨t632, A60, H⟩ := H
   try dsimp only at H
   have A6 := Aside0.mk A60
   clear A60
   replace H := ax H
   obtain ⟨⟨t635, t638⟩, A70, H⟩ := H
   try dsimp only at H
   have A7 := Aside0.mk A70
   clear A70
   replace H := ax H
   obtain ⟨t641, A80, H⟩ := H
   try dsimp only at H
   have A8 := Aside0.mk A80
   clear A80
   replace H := ax H
   obtain ⟨⟨t644, t647⟩, A90, H⟩ := H
   try dsimp only at H
   have A9 := Aside0.mk A90
   clear A90
   simp only [Option.some.injEq, Prod.mk.injEq] at H
   obtain ⟨rfl, rfl⟩ := H
   go_enter Tryz.func20, Tryz.ntmps20
   try go_wp2_with (first | ((with_reducible refine ap (N := 3) rfl ?_); refine zb (w := w) 3 #[.int .i64 a0_0, .slice A0_1 l0_1.length c0_1] 30 zB ?_; clear HB; intro gb627 w10 HB BK627 GW627; have GE627 := GW627; have hcz11_0 := zy BK627 0; have hcz11_1 := zy BK627 1; have hfz11_0 := ae BK627.out 0; have hfz11_1 := ae BK627.out 1) | ((with_reducible refine ay (f := 30) rfl ?_); refine zc 11 Tryz.func30 #[.agg #[.int .i64 a0_0, .slice A0_1 l0_1.length c0_1], .slice A1 l1.length c1, .slice A2 l2.length c2] ?_; (with_reducible refine (kG k a0_0 _ _ l0_1 _ _ l1 _ _ l2 true _ ?side1 ?side2 ?side3 ?side4 ?side5 ?side6 A4.out).mono ?_); (case side1 => exact zC (Kd.C_below HR0_1.out HB.out)); (case side2 => exact HC0_1.out); (case side3 => exact zC (Kd.C_below HR1.out HB.out)); (case side4 => exact HC1.out); (case side5 => exact zC (Kd.C_below HR2.out HB.out)); (case side6 => exact HC2.out); rintro e w12 ⟨rfl, hb⟩; refine ⟨_, rfl, ?_⟩; replace BK627 := zJ BK627 hb; replace HB := zM (ah zB hb); (try clear hb); (try clear hi)))
   replace BK627 := zM (aq BK627.out)
   replace HB := zM (aC HB.out)
   refine zs (n := 16) (fun w' => w'.cell? ⟨gb627, 0, none⟩ = some (.int .i64 a0_0) ∧ w'.cell? ⟨gb627, 1, none⟩ = some (.slice A0_1 l0_1.length c0_1)) ⟨(am BK627.out 0).trans rfl, (am BK627.out 1).trans rfl⟩ (fun hHeld => ?_); refine aH n5 n8 (fun HT_ HW_ => ?_)
   generalize w12.drew = w13 at BK627 HB hHeld ⊢
   refine zp HT_ 2 16 ?_
   refine zp HT_ 3 17 ?_
   refine zp HT_ 4 18 ?_
   refine zp HT_ 5 19 ?_
   refine zp HT_ 8 22 ?_
   refine zp HT_ 9 23 ?_
   refine zt HT_ HW_ 0 14 hHeld ?_ (hy := by rintro w' ⟨s0, s1⟩; go_simp; with_reducible rfl)
   refine zt HT_ HW_ 1 15 hHeld ?_ (hy := by rintro w' ⟨s0, s1⟩; go_simp; with_reducible rfl)
   refine zg HT_ 6 20 Tryz.func34 #[.agg #[.int .i64 a0_0, .slice A0_1 l0_1.length c0_1], .int .i64 (l1.length : Int), .int .i64 (l1.length : Int)] (fun K hK => ?_)
   with_reducible refine (nO k a0_0 _ _ l0_1 (l1.length : Int) (l1.length : Int) t632 _ ?side1 ?side2 A6.out).mono ?_
   (case side1 => exact zC (Kd.C_below HR0_1.out HB.out))
   (case side2 => exact HC0_1.out)
   rintro e w14 ⟨v633, rfl, ho0, hb⟩
   refine ⟨_, rfl, ?_⟩
   have HO634 := zM (Kd.N_lower (Kd.N_mono (ok' := fun k_ => (w.heap.size ≤ k_) ∧ k_ ≠ gb627) ho0 (fun k_ hk_ => ⟨(Nat.le_trans (ai zB) hk_), (Kd.freshB (g := gb627) (o := .cells #[.int .i64 a0_0, .slice A0_1 l0_1.length c0_1] 30 (0, 0)) (zK BK627.out) k_ hk_)⟩)) (ai zB))
   replace BK627 := zJ BK627 hb
   replace HB := zM (ah zB hb)
   (try clear hb)
   (try clear ho0)
   obtain ⟨Ao15, co15, eo15⟩ := Kd.N_slice HO634.out
   (first | subst eo15 | (injection eo15 with f1_ f2_ f3_; have f4_ := f1_.symm; have f5_ := f3_.symm; clear f1_ f2_ f3_; subst f4_; subst f5_))
   refine hK.out _ _ ⟨(am BK627.out 0).trans rfl, (am BK627.out 1).trans rfl⟩ (fun hHeld => ?_)
   clear hK K
   refine zn 20 ?_
   refine zg HT_ 7 21 Tryz.func33 #[.agg #[.int .i64 a0_0, .slice A0_1 l0_1.length c0_1], .int .i64 0, .slice Ao15 t632.length co15] (fun K hK => ?_)
   with_reducible refine (nM k a0_0 _ _ l0_1 0 (fun k_ => ((w.heap.size ≤ k_) ∧ k_ ≠ gb627)) _ _ t632 t635 t638 _ ?side1 ?side2 ?side3 A7.out).mono ?_
   (case side1 => exact zC (Kd.C_below HR0_1.out HB.out))
   (case side2 => exact HC0_1.out)
   (case side3 => exact Kd.N_V (HO634.out))
   rintro e w16 ⟨v636, v639, rfl, ho0, ho1, hb⟩
   refine ⟨_, rfl, ?_⟩
   replace HO634 := zM (Kd.N_elder' (by (with_reducible repeat (first | apply Kd.N_alloc | apply Kd.N_drewN | apply Kd.N_drew)); exact HO634.out) (Kd.R_base ho1) hb)
   have HO637 := zM (Kd.V_lower (Kd.V_mono (ok' := fun k_ => (w.heap.size ≤ k_) ∧ some k_ ≠ (v639 : Value).ownBlock ∧ k_ ≠ gb627) ho0 (fun k_ hk_ => ⟨Or.elim hk_.1 (fun hs_ => hs_.1) (fun hn_ => (Nat.le_trans (ai zB) hn_)), hk_.2, Or.elim hk_.1 (fun hs_ => hs_.2) (fun hn_ => (Kd.freshB (g := gb627) (o := .cells #[.int .i64 a0_0, .slice A0_1 l0_1.length c0_1] 30 (0, 0)) (zK BK627.out) k_ hn_))⟩)) (ai zB))
   have HO640 := zM (Kd.R_lower (Kd.R_newM (M := fun k_ => (w.heap.size ≤ k_)) (Kd.R_mono (ok' := fun k_ => True) ho1 (fun _ hk_ => trivial)) (ai zB) (fun k_ h_ => h_)) (ai zB))
   replace BK627 := zJ BK627 hb
   replace HB := zM (ah zB hb)
   (try clear hb)
   (try clear ho0)
   (try clear ho1)
   obtain ⟨Ao17, co17, eo17⟩ := Kd.V_slice HO637.out
   (first | subst eo17 | (injection eo17 with f1_ f2_ f3_; have f4_ := f1_.symm; have f5_ := f3_.symm; clear f1_ f2_ f3_; subst f4_; subst f5_))
   obtain ⟨Ao18, co18, eo18⟩ := Kd.R_slice HO640.out
   (first | subst eo18 | (injection eo18 with f1_ f2_ f3_; have f4_ := f1_.symm; have f5_ := f3_.symm; clear f1_ f2_ f3_; subst f4_; subst f5_))
   refine hK.out _ _ ⟨(am BK627.out 0).trans rfl, (am BK627.out 1).trans rfl⟩ (fun hHeld => ?_)
   clear hK K
   refine zn 21 ?_
   refine zg HT_ 10 24 Tryz.func32 #[.agg #[.slice Ao17 t635.length co17, .slice Ao18 t638.length co18], .slice A1 l1.length c1, .slice A2 l2.length c2] (fun K hK => ?_)
   with_reducible refine (nF k _ _ t635 _ _ t638 _ _ l1 _ _ l2 t641 _ ?side1 ?side2 ?side3 ?side4 ?side5 ?side6 ?side7 ?side8 A8.out).mono ?_
   (case side1 => exact zC (Kd.V_reads' HO637.out).2.2)
   (case side2 => exact (Kd.V_reads' HO637.out).2.1)
   (case side3 => exact zC (Kd.R_reads' HO640.out).2.2)
   (case side4 => exact (Kd.R_reads' HO640.out).2.1)
   (case side5 => exact zC (Kd.C_below HR1.out HB.out))
   (case side6 => exact HC1.out)
   (case side7 => exact zC (Kd.C_below HR2.out HB.out))
   (case side8 => exact HC2.out)
   rintro e w19 ⟨v642, rfl, ho0, hb⟩
   refine ⟨_, rfl, ?_⟩
   replace HO637 := zM (Kd.V_elder' (by (with_reducible repeat (first | apply Kd.V_alloc | apply Kd.V_drewN | apply Kd.V_drew)); exact HO637.out) (by first | exact Kd.N_base ho0 | exact Kd.S_base ho0) hb)
   have HO643 := zM (Kd.N_lower (Kd.N_mono (ok' := fun k_ => (w.heap.size ≤ k_) ∧ some k_ ≠ (.slice Ao15 t632.length co15 : Value).ownBlock ∧ some k_ ≠ (.slice Ao18 t638.length co18 : Value).ownBlock ∧ k_ ≠ gb627) (Kd.S_N (Kd.S_bound ho0)) (fun k_ hk_ => ⟨(Nat.le_trans (ai zB) hk_.2.1), (Kd.fresh' (Kd.N_lt (by (with_reducible repeat (first | apply Kd.N_alloc | apply Kd.N_drewN | apply Kd.N_drew)); exact HO634.out)) k_ hk_.2.1), (Kd.fresh' (Kd.R_lt (zR HO640.out)) k_ hk_.2.1), (Kd.freshB (g := gb627) (o := .cells #[.int .i64 a0_0, .slice A0_1 l0_1.length c0_1] 30 (0, 0)) (zK BK627.out) k_ hk_.2.1)⟩)) (ai zB))
   replace HO634 := zM (Kd.N_elder' (by (with_reducible repeat (first | apply Kd.N_alloc | apply Kd.N_drewN | apply Kd.N_drew)); exact HO634.out) (by first | exact Kd.N_base ho0 | exact Kd.S_base ho0) hb)
   replace HO640 := zM (Kd.R_below (zR HO640.out) hb)
   replace BK627 := zJ BK627 hb
   replace HB := zM (ah zB hb)
   (try clear hb)
   (try clear ho0)
   obtain ⟨Ao20, co20, eo20⟩ := Kd.N_slice HO643.out
   (first | subst eo20 | (injection eo20 with f1_ f2_ f3_; have f4_ := f1_.symm; have f5_ := f3_.symm; clear f1_ f2_ f3_; subst f4_; subst f5_))
   refine hK.out _ _ ⟨(am BK627.out 0).trans rfl, (am BK627.out 1).trans rfl⟩ (fun hHeld => ?_)
   clear hK K
   refine zn 24 ?_
   refine zg HT_ 11 25 Tryz.func31 #[.slice Ao20 t641.length co20] (fun K hK => ?_)
   with_reducible refine (nK (fun k_ => ((w.heap.size ≤ k_) ∧ (some k_ ≠ (.slice Ao15 t632.length co15 : Value).ownBlock ∧ (some k_ ≠ (.slice Ao18 t638.length co18 : Value).ownBlock ∧ k_ ≠ gb627)))) _ _ t641 t644 t647 _ ?side1 A9.out).mono ?_
   (case side1 => exact Kd.N_V (HO643.out))
   rintro e w21 ⟨v645, rfl, ho0, hb⟩
   refine ⟨_, rfl, ?_⟩
   replace HO637 := zM (Kd.V_below (by (with_reducible repeat (first | apply Kd.V_alloc | apply Kd.V_drewN | apply Kd.V_drew)); exact HO637.out) hb)
   replace HO643 := zM (Kd.N_below (by (with_reducible repeat (first | apply Kd.N_alloc | apply Kd.N_drewN | apply Kd.N_drew)); exact HO643.out) hb)
   have HO646 := zM (Kd.V_lower (Kd.V_mono (ok' := fun k_ => (w.heap.size ≤ k_) ∧ some k_ ≠ (.slice Ao15 t632.length co15 : Value).ownBlock ∧ some k_ ≠ (.slice Ao18 t638.length co18 : Value).ownBlock ∧ k_ ≠ gb627) ho0 (fun k_ hk_ => ⟨Or.elim hk_ (fun hs_ => hs_.1) (fun hn_ => (Nat.le_trans (ai zB) hn_)), Or.elim hk_ (fun hs_ => hs_.2.1) (fun hn_ => (Kd.fresh' (Kd.N_lt (by (with_reducible repeat (first | apply Kd.N_alloc | apply Kd.N_drewN | apply Kd.N_drew)); exact HO634.out)) k_ hn_)), Or.elim hk_ (fun hs_ => hs_.2.2.1) (fun hn_ => (Kd.fresh' (Kd.R_lt (zR HO640.out)) k_ hn_)), Or.elim hk_ (fun hs_ => hs_.2.2.2) (fun hn_ => (Kd.freshB (g := gb627) (o := .cells #[.int .i64 a0_0, .slice A0_1 l0_1.length c0_1] 30 (0, 0)) (zK BK627.out) k_ hn_))⟩)) (ai zB))
   replace HO634 := zM (Kd.N_below (by (with_reducible repeat (first | apply Kd.N_alloc | apply Kd.N_drewN | apply Kd.N_drew)); exact HO634.out) hb)
   replace HO640 := zM (Kd.R_below (zR HO640.out) hb)
   replace BK627 := zJ BK627 hb
   replace HB := zM (ah zB hb)
   (try clear hb)
   (try clear ho0)
   refine hK.out _ _ ⟨(am BK627.out 0).trans rfl, (am BK627.out 1).trans rfl⟩ (fun hHeld => ?_)
   clear hK K
   refine zn 25 ?_
   refine zp HT_ 12 26 ?_
   refine zp HT_ 13 27 ?_
   refine zp HT_ 14 6 ?_
   refine zp HT_ 15 7 ?_
   refine zo HT_ ?_
   try go_wp2
   go_ret2
   exact ⟨_, by first | rfl | (simp [al, ak] <;> rfl) | (simp [*, al, ak] <;> rfl), by (with_reducible repeat (first | apply Kd.V_alloc | apply Kd.V_drewN | apply Kd.V_drew)); exact Kd.V_mono HO646.out (fun _ hk => hk.1), zB⟩
 · replace c5 := Bool.eq_false_iff.mpr c5
   subst c5
   rw [if_neg (show ¬ (false = true) by decide)] at H
   obtain ⟨y629, hy629⟩ : ∃ y_ : List (List Int), y_ = (([] : List (List Int))) := ⟨_, rfl⟩
   replace H : (some (y629, false)) = some (r1, r2) := by first | (rw [hy629]; with_reducible exact H) | (have H2_ := (Option.bind_some _ _).symm.trans H; rw [hy629]; with_reducible exact H2_) | (have H2_ := (Option.bind_some _ _).symm.trans H; with_reducible exact H2_) | with_reducible exact H | (rw [hy629]; exact H) | exact H
   have Ny629 := Aside0.mk hy629
   clear hy629
   simp only [Option.some.injEq, Prod.mk.injEq] at H
   obtain ⟨rfl, rfl⟩ := H
   go_enter Tryz.func20, Tryz.ntmps20
   go_wp2_with (first | ((with_reducible refine ap (N := 3) rfl ?_); refine zb (w := w) 3 #[.int .i64 a0_0, .slice A0_1 l0_1.length c0_1] 30 zB ?_; clear HB; intro gb627 w22 HB BK627 GW627; have GE627 := GW627; have hcz23_0 := zy BK627 0; have hcz23_1 := zy BK627 1; have hfz23_0 := ae BK627.out 0; have hfz23_1 := ae BK627.out 1) | ((with_reducible refine ay (f := 30) rfl ?_); refine zc 11 Tryz.func30 #[.agg #[.int .i64 a0_0, .slice A0_1 l0_1.length c0_1], .slice A1 l1.length c1, .slice A2 l2.length c2] ?_; (with_reducible refine (kG k a0_0 _ _ l0_1 _ _ l1 _ _ l2 false _ ?side1 ?side2 ?side3 ?side4 ?side5 ?side6 A4.out).mono ?_); (case side1 => exact zC (Kd.C_below HR0_1.out HB.out)); (case side2 => exact HC0_1.out); (case side3 => exact zC (Kd.C_below HR1.out HB.out)); (case side4 => exact HC1.out); (case side5 => exact zC (Kd.C_below HR2.out HB.out)); (case side6 => exact HC2.out); rintro e w24 ⟨rfl, hb⟩; refine ⟨_, rfl, ?_⟩; replace BK627 := zJ BK627 hb; replace HB := zM (ah zB hb); (try clear hb); (try clear hi)) | ((with_reducible refine ap (N := 13) rfl ?_); refine Kd.N_lit (Kd.slice 3 (Kd.int .i64)) _ 25 ?hg (N' := 13) ?hd (xs := ([] : List (List Int))) (inner := []) (ok := (fun k_ => (w.heap.size ≤ k_) ∧ k_ ≠ gb627)) (okp := (fun k_ => (w.heap.size ≤ k_) ∧ k_ ≠ gb627)) ?hr ?hp (fun _ hk => hk) ((show ∀ k_, w24.heap.size ≤ k_ → (fun k_ => (w.heap.size ≤ k_) ∧ k_ ≠ gb627) k_ from fun k_ hk => ⟨(Nat.le_trans (ai zB) hk), Kd.freshB (g := gb627) (o := .cells #[.int .i64 a0_0, .slice A0_1 l0_1.length c0_1] 30 (0, 0)) (zK BK627.out) k_ hk⟩) _ (au _)) (Below.refl _ _) (au _) (by simp) ?_; (case hd => rfl); (case hg => rfl); (case hr => first | (go_simp; done) | (go_simp; rfl)); (case hp => exact (Reps.none _ _)); intro v630 w25 ho26 hb hg_ hnew_; clear hg_ hnew_; (first | rw [← Ny629.out] at ho26 | (simp only [Int.reduceToNat] at ho26; rw [← Ny629.out] at ho26)); have HO631 := zM (Kd.N_lower ho26 (ai zB)); replace BK627 := zJ BK627 hb; replace HB := zM (ah zB hb); clear hb ho26))
   go_ret2
   exact ⟨_, by first | rfl | (simp [al, ak] <;> rfl) | (simp [*, al, ak] <;> rfl), Kd.N_V (by (with_reducible repeat (first | apply Kd.N_alloc | apply Kd.N_drewN | apply Kd.N_drew)); exact Kd.N_mono HO631.out (fun _ hk => hk.1)), zB⟩
def ka {α : Type} (g : Nat) (lb : Array Value) (enc : α → Value) (p : α → Bool) (l : List α) (w : World) : Prop :=
 ∀ (W : World) (x : α), x ∈ l → Below w.heap.size w W → Calls Tryz.prog g (#[enc x] ++ lb) W fun e w' => e = .returned (.bool (p x)) ∧ Below W.heap.size W w'
set_option maxRecDepth 100000 in
set_option maxHeartbeats 2000000 in
theorem qZ (g : Nat) (lb : Array Value) (eg : ∀ (args : Array Value) (w : World), (callFunc g args).run Tryz.prog w = .ok (.enter g args) w) (p : S69 → Bool) (A0 : Option Addr) (c0 : Nat) (l0 : List S69) (w : World) (hr0 : Kd.C k69 w A0 l0.length l0)
  (hp : ka g lb (fun x : S69 => Value.agg #[.int .i64 x.f0, .int .i64 x.f1]) p l0 w) :
  Calls Tryz.prog 124 #[.slice A0 l0.length c0, .func (.func g) #[] lb] w fun e w' => (∃ r : Int, e = .returned (.int .i64 r) ∧ (0 ≤ r ↔ l0.any p = true)) ∧ Below w.heap.size w w' := by
 have HR0 := Aside0.mk hr0
 have HP := Aside0.mk hp
 have HL := Aside0.mk (hr0.2.1)
 clear hr0 hp
 go_enter Tryz.func124, Tryz.ntmps124
 go_wp2
 go_loopg [8, 5] (l0.length + 1) (fun kq v8 v5 w' => ∃ (m : Nat), v8 = .int .i64 m ∧ Aside0 (m ≤ l0.length) ∧ Aside0 (kq = l0.length - m + 1) ∧ Aside0 ((l0.take m).any p = false) ∧ Aside0 (Below w.heap.size w w'))
 case atStart => exact ⟨0, rfl, ⟨Nat.zero_le _⟩, ⟨by omega⟩, ⟨by simp⟩, ⟨Below.refl _ _⟩⟩
 case round =>
  obtain ⟨m, rfl, HM, HK1, HA, HB⟩ := hrel
  by_cases c1 : m < l0.length
  · have p1 : (0 : Int) ≤ (m : Int) := by omega
    have q1 : (m : Int) < (l0.length : Int) := by omega
    obtain ⟨ad, e1, hx0, hx1⟩ := ba HR0.out (m : Int) p1 q1
    cases e1
    replace hx0 := (HB.out.cell (aj w _ hx0)).trans hx0
    replace hx1 := (HB.out.cell (aj w _ hx1)).trans hx1
    rw [Int.toNat_natCast] at hx0 hx1
    have HG := Aside0.mk (show l0[m] = aa l0 m by simp [aa, List.getD_eq_getElem?_getD, List.getElem?_eq_getElem c1])
    have HT := Aside0.mk (show (l0.take (m + 1)).any p = p (aa l0 m) by rw [List.take_succ_eq_append_getElem c1, List.any_append, HA.out, HG.out]; simp)
    have HQ := Aside0.mk (show p (aa l0 m) = true → l0.any p = true from fun hq => List.any_eq_true.2 ⟨l0[m], List.getElem_mem c1, by rw [HG.out]; exact hq⟩)
    have c1b : decide ((m : Int) < (l0.length : Int)) = true := ag q1
    have c1c : decide (m < l0.length) = true := ag c1
    have hw1 : (m : Int) + 1 ≤ 9223372036854775807 := by have := HL.out; omega
    have hcall := HP.out _ (aa l0 m) (by rw [← HG.out]; exact List.getElem_mem c1) HB.out
    have HC := Aside0.mk hcall
    replace p1 := eq_true p1
    replace q1 := eq_true q1
    clear c1 hcall HG HA
    cases hq : p (aa l0 m) with
    | true =>
     have HQ2 := Aside0.mk (HQ.out hq)
     rw [hq] at HC
     clear hq HQ HT
     go_wp2_with (go_at_fn g; refine HC.out.mono ?_; rintro e w' ⟨rfl, hb⟩)
     go_ret
     exact ⟨⟨_, rfl, ⟨fun _ => HQ2.out, fun _ => by have := of_eq_true p1; first | exact this | (simpa using this) | omega⟩⟩, ah HB.out hb⟩
    | false =>
     rw [hq] at HT HC
     clear hq HQ
     go_wp2_with (go_at_fn g; refine HC.out.mono ?_; rintro e w' ⟨rfl, hb⟩)
     go_roundg (l0.length - m)
     case measure => have := HK1.out; have := HM.out; omega
     case rel => exact ⟨m + 1, by first | rfl | (simp; done) | go_num, ⟨by have := of_eq_true q1; omega⟩, ⟨by have := of_eq_true q1; omega⟩, HT, ⟨ah HB.out hb⟩⟩
  · have q1 : ¬ (m : Int) < (l0.length : Int) := by omega
    have c1b : decide ((m : Int) < (l0.length : Int)) = false := ar q1
    have c1c : decide (m < l0.length) = false := ar c1
    have H3 : Aside0 (l0.any p = false) := ⟨by
     have e_ := HA.out
     rw [List.take_of_length_le (show l0.length ≤ m by omega)] at e_
     exact e_⟩
    clear HA c1 q1
    go_wp2
    go_ret
    exact ⟨⟨-1, rfl, by rw [H3.out]; simp⟩, HB.out⟩
set_option maxRecDepth 100000 in
set_option maxHeartbeats 2000000 in
theorem sy (g : Nat) (lb : Array Value) (eg : ∀ (args : Array Value) (w : World), (callFunc g args).run Tryz.prog w = .ok (.enter g args) w) (p : S69 → Bool) (A0 : Option Addr) (c0 : Nat) (l0 : List S69) (w : World) (hr0 : Kd.C k69 w A0 l0.length l0)
  (hp : ka g lb (fun x : S69 => Value.agg #[.int .i64 x.f0, .int .i64 x.f1]) p l0 w) :
  Calls Tryz.prog 101 #[.slice A0 l0.length c0, .func (.func g) #[] lb] w fun e w' => e = .returned (.bool (l0.any p)) ∧ Below w.heap.size w w' := by
 have HR0 := Aside0.mk hr0
 have HP := Aside0.mk hp
 clear hr0 hp
 go_enter Tryz.func101, Tryz.ntmps101
 go_wp2_with (go_at_call 124; refine (qZ g lb eg p A0 c0 l0 w HR0.out HP.out).mono ?_; rintro e w' ⟨⟨r, rfl, hr⟩, hb⟩; have HQ := Aside0.mk hr; have HB := Aside0.mk hb; clear hr hb)
 go_ret
 refine ⟨?_, HB.out⟩
 have := HQ.out
 cases ha : l0.any p <;> rw [ha] at this <;> simp at this <;> simp <;> omega
attribute [local go_sem] aX aT aU aM aV aN aW aQ
set_option linter.unusedVariables false
set_option linter.unusedSimpArgs false
def ct (a0 : Int) (a1 : Int) : Option (Bool) := if 0 ≤ a1 then (some ((Go.bits .and .u64 (cO .u64 a0 a1) 1) == 1)) else (none)
set_option maxHeartbeats 8000000 in
set_option maxRecDepth 100000 in
theorem l5 (a0 : Int) (a1 : Int) (r : Bool) (w : World) (h : ct a0 a1 = some r) :
 Calls Tryz.prog 103 #[.int .u64 a0, .int .i64 a1] w fun e w' => e = .returned (.bool r) ∧ Drawn0 w w' := by
 have H := h
 unfold ct at H
 clear h
 by_cases c3 : 0 ≤ a1
 case neg => rw [if_neg c3] at H; simp at H
 rw [if_pos c3] at H
 have c3b0 := eq_true c3
 have c3b1 : decide (0 ≤ a1) = true := ag c3
 clear c3
 obtain ⟨ji4, hji4⟩ : ∃ j_ : Int, (cO .u64 a0 a1) = j_ := ⟨_, rfl⟩
 replace H : (some ((Go.bits .and .u64 (ji4) 1) == 1)) = some r := by first | (rw [hji4] at H; exact H) | (simp only [hji4] at H ⊢; exact H)
 have hji4_ : (a0 / 2 ^ min a1.toNat 64) = ji4 := hji4
 have hji4z : a1 ≤ 64 → (a0 / 2 ^ a1.toNat) = ji4 := i9 hji4
 obtain rfl := ao H
 go_enter Tryz.func103, Tryz.ntmps103
 go_wp2
 go_ret
 exact ⟨by first | rfl | (simp; done) | (simp only [← hji4] <;> (first | rfl | simp)) | (simp [*]; done), by repeat (first | exact Drawn0.refl _ | apply Drawn0.step)⟩
def dS (a1 : Int) (s : S69) : Bool := (ct a1 s.f0).getD false && (ct a1 s.f1).getD false
def en (a0_0 : Int) (l0_1 : List S69) (a1 : Int) : Option Bool :=
 if l0_1.all (fun s => (ct a1 s.f0).isSome && (ct a1 s.f1).isSome) then some (!(l0_1.any (dS a1))) else none
set_option maxHeartbeats 1000000 in
theorem qw (gb : Nat) (a1 : Int) (s : S69) (x y : Bool) (hx : ct a1 s.f0 = some x) (hy : ct a1 s.f1 = some y) (W : World) (hl : W.cell? ⟨gb, 0, none⟩ = some (.int .u64 a1)) :
  Calls Tryz.prog 102 (#[.agg #[.int .i64 s.f0, .int .i64 s.f1]] ++ #[.pointer (some ⟨gb, 0, none⟩)]) W fun e w' => e = .returned (.bool (x && y)) ∧ Below W.heap.size W w' := by
 have HX := Aside0.mk hx
 have HY := Aside0.mk hy
 clear hx hy
 show Calls Tryz.prog 102 #[.agg #[.int .i64 s.f0, .int .i64 s.f1], .pointer (some ⟨gb, 0, none⟩)] W _
 have hl2 := fun o : Obj => bK (bp (Below.refl W.heap.size W) o) hl
 go_enter Tryz.func102, Tryz.ntmps102
 go_wp2_with fail
 go_at_call 103
 refine (l5 _ _ x _ HX.out).mono ?_
 rintro e w' ⟨rfl, ⟨n1, rfl⟩⟩
 cases x with
 | true =>
  go_wp2_with fail
  go_at_call 103
  refine (l5 _ _ y _ HY.out).mono ?_
  rintro e w' ⟨rfl, ⟨n2, rfl⟩⟩
  go_wp2
  go_ret
  exact ⟨by first | rfl | (simp; done), by repeat (first | exact Below.refl _ _ | apply bp | apply bO | apply aC)⟩
 | false =>
  go_wp2
  go_ret
  exact ⟨by first | rfl | (simp; done), by repeat (first | exact Below.refl _ _ | apply bp | apply bO | apply aC)⟩
set_option maxHeartbeats 1000000 in
theorem mb (a0_0 : Int) (A0_1 : Option Addr) (c0_1 : Nat) (l0_1 : List (S69)) (a1 : Int) (r : Bool) (w : World) (hr0_1 : Kd.C k69 w A0_1 l0_1.length l0_1) (hc0_1 : l0_1.length ≤ c0_1) (h : en a0_0 l0_1 a1 = some r) :
  Calls Tryz.prog 85 #[.agg #[.int .i64 a0_0, .slice A0_1 l0_1.length c0_1], .int .u64 a1] w fun e w' => e = .returned (.bool r) ∧ Below w.heap.size w w' := by
 unfold en at h
 by_cases hall : l0_1.all (fun s => (ct a1 s.f0).isSome && (ct a1 s.f1).isSome) = true
 case neg => rw [if_neg hall] at h; cases h
 rw [if_pos hall] at h
 obtain rfl := ao h
 have HP := fun (W : World) (gb : Nat) (hl : W.cell? ⟨gb, 0, none⟩ = some (.int .u64 a1)) =>
  Aside0.mk (show ka 102 #[.pointer (some ⟨gb, 0, none⟩)] (fun x : S69 => Value.agg #[.int .i64 x.f0, .int .i64 x.f1]) (dS a1) l0_1 W from fun W' x hx hb => by
   have hs := List.all_eq_true.1 hall x hx
   rw [Bool.and_eq_true] at hs
   obtain ⟨b1, h1⟩ := Option.isSome_iff_exists.1 hs.1
   obtain ⟨b2, h2⟩ := Option.isSome_iff_exists.1 hs.2
   have := qw gb a1 x b1 b2 h1 h2 W' (bK hb hl)
   unfold dS
   rw [h1, h2]
   exact this)
 have HR0 := Aside0.mk hr0_1
 clear hr0_1 hall h
 generalize hg : l0_1.any (dS a1) = b
 have HG := Aside0.mk hg
 clear hg
 have HB1 := Aside0.mk (bp (bp (Below.refl w.heap.size w) (.cells #[.int .i64 a0_0, .slice A0_1 l0_1.length c0_1] 30)) (.cells #[.int .u64 a1] 84))
 go_enter Tryz.func85, Tryz.ntmps85
 go_wp2_with fail
 go_at_call 101
 refine (sy _ _ (enters_of Tryz.func102 (by kernel_rfl) rfl) _ A0_1 c0_1 l0_1 _ (Kd.C_below HR0.out HB1.out) (HP _ _ (by go_simp)).out).mono ?_
 rintro e w' ⟨rfl, hb⟩
 rw [HG.out]
 have HB := Aside0.mk (ah HB1.out hb)
 clear hb
 go_wp2
 go_ret
 exact ⟨by first | rfl | (simp; done), HB.out⟩
attribute [local go_sem] aX aT aU aM aV aN aW aQ
set_option linter.unusedVariables false
set_option linter.unusedSimpArgs false
def fK (k : Nat) (a0_0 : Int) (l0_1 : List (S69)) (l1 : List Int) : Option (Bool) := (iv k l1 a0_0).bind fun t472 => (if t472 = true then ((fE k l1).bind fun t473 => ((en a0_0 l0_1 t473).bind fun t474 => (some t474))) else (some false))
def impl_Graph_isIndependent.T1 : Bool × List (List Nat × List Nat) := (true, [([], []), ([], []), ([1], [1]), ([0, 2], [0, 2]), ([3, 3], [3]), ([4], [4]), ([4], [4]), ([6, 4, 4], [4, 6]), ([5, 7, 7, 4], [4, 5, 7]), ([4, 8], [4, 8]), ([9, 8, 0, 1, 2, 3, 4, 5, 6, 7, 8, 9], [9])])
def qW : List Nat := [0, 0, 2, 7, 15, 31, 31, 95, 255, 511, 1023]
theorem l9 : aG .any (bP Tryz.f60 1) = impl_Graph_isIndependent.T1 := by kernel_rfl
theorem ma : bC impl_Graph_isIndependent.T1.2 qW = true := by kernel_rfl
set_option maxHeartbeats 8000000 in
set_option maxRecDepth 100000 in
theorem jH (k : Nat) (a0_0 : Int) (A0_1 : Option Addr) (c0_1 : Nat) (l0_1 : List (S69)) (A1 : Option Addr) (c1 : Nat) (l1 : List Int) (r : Bool) (w : World) (hr0_1 : Kd.C k69 w A0_1 l0_1.length l0_1) (hc0_1 : l0_1.length ≤ c0_1) (hr1 : Kd.C (Kd.int .i64) w A1 l1.length l1) (hc1 : l1.length ≤ c1) (h : fK k a0_0 l0_1 l1 = some r) :
 Calls Tryz.prog 60 #[.agg #[.int .i64 a0_0, .slice A0_1 l0_1.length c0_1], .slice A1 l1.length c1] w fun e w' => e = .returned (.bool r) ∧ Below w.heap.size w w' := by
 have hu30 := Tryz.underlying30
 have HR0_1 := Aside0.mk hr0_1
 have HC0_1 := Aside0.mk hc0_1
 clear hr0_1 hc0_1
 have HR1 := Aside0.mk hr1
 have HC1 := Aside0.mk hc1
 clear hr1 hc1
 have HB := zM (Below.refl w.heap.size w)
 have H := h
 unfold fK at H
 clear h
 replace H := ax H
 obtain ⟨t472, A30, H⟩ := H
 have A3 := Aside0.mk A30
 clear A30
 by_cases c4 : t472 = true
 · subst c4
   rw [if_pos rfl] at H
   replace H := ax H
   obtain ⟨t473, A50, H⟩ := H
   have A5 := Aside0.mk A50
   clear A50
   replace H := ax H
   obtain ⟨t474, A60, H⟩ := H
   have A6 := Aside0.mk A60
   clear A60
   obtain rfl := ao H
   go_enter Tryz.func60, Tryz.ntmps60
   try go_wp2_with (first | ((with_reducible refine ap (N := 2) rfl ?_); refine zb (w := w) 2 #[.int .i64 a0_0, .slice A0_1 l0_1.length c0_1] 30 zB ?_; clear HB; intro gb471 w7 HB BK471 GW471; have GE471 := GW471))
   replace BK471 := zM (aq BK471.out)
   replace HB := zM (aC HB.out)
   refine zs (n := 11) (fun w' => w'.cell? ⟨gb471, 0, none⟩ = some (.int .i64 a0_0) ∧ w'.cell? ⟨gb471, 1, none⟩ = some (.slice A0_1 l0_1.length c0_1)) ⟨(am BK471.out 0).trans rfl, (am BK471.out 1).trans rfl⟩ (fun hHeld => ?_); refine aH l9 ma (fun HT_ HW_ => ?_)
   generalize w7.drew = w8 at BK471 HB hHeld ⊢
   refine zp HT_ 0 5 ?_
   refine zp HT_ 1 6 ?_
   refine zt HT_ HW_ 2 7 hHeld ?_ (hy := by rintro w' ⟨s0, s1⟩; go_simp; with_reducible rfl)
   refine zg HT_ 3 8 Tryz.func84 #[.slice A1 l1.length c1, .int .i64 a0_0] (fun K hK => ?_)
   with_reducible refine (lZ k _ _ l1 a0_0 true _ ?side1 ?side2 A3.out).mono ?_
   (case side1 => exact zC (Kd.C_below HR1.out HB.out))
   (case side2 => exact HC1.out)
   rintro e w' ⟨rfl, ⟨nd, rfl⟩⟩
   refine ⟨_, rfl, ?_⟩
   refine hK.out _ _ ⟨(am BK471.out 0).trans rfl, (am BK471.out 1).trans rfl⟩ (fun hHeld => ?_)
   clear hK K
   refine zn 8 ?_
   refine zp HT_ 4 9 ?_
   refine zp HT_ 6 11 ?_
   refine zt HT_ HW_ 5 10 hHeld ?_ (hy := by rintro w' ⟨s0, s1⟩; go_simp; with_reducible rfl)
   refine zg HT_ 7 12 Tryz.func74 #[.slice A1 l1.length c1] (fun K hK => ?_)
   with_reducible refine (jD k _ _ l1 t473 _ ?side1 ?side2 A5.out).mono ?_
   (case side1 => exact zC (Kd.C_below HR1.out zB))
   (case side2 => exact HC1.out)
   rintro e w' ⟨rfl, ⟨nd, rfl⟩⟩
   refine ⟨_, rfl, ?_⟩
   refine hK.out _ _ ⟨(am BK471.out 0).trans rfl, (am BK471.out 1).trans rfl⟩ (fun hHeld => ?_)
   clear hK K
   refine zn 12 ?_
   refine zg HT_ 8 13 Tryz.func85 #[.agg #[.int .i64 a0_0, .slice A0_1 l0_1.length c0_1], .int .u64 t473] (fun K hK => ?_)
   with_reducible refine (mb a0_0 _ _ l0_1 t473 t474 _ ?side1 ?side2 A6.out).mono ?_
   (case side1 => exact zC (Kd.C_below HR0_1.out zB))
   (case side2 => exact HC0_1.out)
   rintro e w9 ⟨rfl, hb⟩
   refine ⟨_, rfl, ?_⟩
   replace BK471 := zJ BK471 hb
   replace HB := zM (ah zB hb)
   (try clear hb)
   refine hK.out _ _ ⟨(am BK471.out 0).trans rfl, (am BK471.out 1).trans rfl⟩ (fun hHeld => ?_)
   clear hK K
   refine zn 13 ?_
   refine zp HT_ 9 14 ?_
   refine zp HT_ 10 4 ?_
   refine zo HT_ ?_
   try go_wp2
   go_ret
   exact ⟨by first | rfl | (simp [al, ak] <;> rfl) | (simp [*, al, ak] <;> rfl), zB⟩
 · replace c4 := Bool.eq_false_iff.mpr c4
   subst c4
   rw [if_neg (show ¬ (false = true) by decide)] at H
   obtain rfl := ao H
   go_enter Tryz.func60, Tryz.ntmps60
   try go_wp2_with (first | ((with_reducible refine ap (N := 2) rfl ?_); refine zb (w := w) 2 #[.int .i64 a0_0, .slice A0_1 l0_1.length c0_1] 30 zB ?_; clear HB; intro gb471 w10 HB BK471 GW471; have GE471 := GW471))
   replace BK471 := zM (aq BK471.out)
   replace HB := zM (aC HB.out)
   refine zs (n := 11) (fun w' => w'.cell? ⟨gb471, 0, none⟩ = some (.int .i64 a0_0) ∧ w'.cell? ⟨gb471, 1, none⟩ = some (.slice A0_1 l0_1.length c0_1)) ⟨(am BK471.out 0).trans rfl, (am BK471.out 1).trans rfl⟩ (fun hHeld => ?_); refine aH l9 ma (fun HT_ HW_ => ?_)
   generalize w10.drew = w11 at BK471 HB hHeld ⊢
   refine zp HT_ 0 5 ?_
   refine zp HT_ 1 6 ?_
   refine zt HT_ HW_ 2 7 hHeld ?_ (hy := by rintro w' ⟨s0, s1⟩; go_simp; with_reducible rfl)
   refine zg HT_ 3 8 Tryz.func84 #[.slice A1 l1.length c1, .int .i64 a0_0] (fun K hK => ?_)
   with_reducible refine (lZ k _ _ l1 a0_0 false _ ?side1 ?side2 A3.out).mono ?_
   (case side1 => exact zC (Kd.C_below HR1.out HB.out))
   (case side2 => exact HC1.out)
   rintro e w' ⟨rfl, ⟨nd, rfl⟩⟩
   refine ⟨_, rfl, ?_⟩
   refine hK.out _ _ ⟨(am BK471.out 0).trans rfl, (am BK471.out 1).trans rfl⟩ (fun hHeld => ?_)
   clear hK K
   refine zn 8 ?_
   refine zp HT_ 4 9 ?_
   refine zu HT_ 5 10 ?_
   refine zu HT_ 6 11 ?_
   refine zu HT_ 7 12 ?_
   refine zu HT_ 8 13 ?_
   refine zp HT_ 9 14 ?_
   refine zp HT_ 10 4 ?_
   refine zo HT_ ?_
   try go_wp2
   go_ret
   exact ⟨by first | rfl | (simp [al, ak] <;> rfl) | (simp [*, al, ak] <;> rfl), zB⟩
def gB (k : Nat) (a0_0 : Int) (l0_1 : List (S69)) (l1 : List Int) (l2 : List Int) : Option (Bool) := (fI k a0_0 l0_1).bind fun t476 => (if t476 = true then ((fK k a0_0 l0_1 l1).bind fun t477 => (if t477 = true then ((fK k a0_0 l0_1 l2).bind fun t478 => (some t478)) else (some false))) else (some false))
set_option maxHeartbeats 8000000 in
set_option maxRecDepth 100000 in
theorem lY (k : Nat) (a0_0 : Int) (A0_1 : Option Addr) (c0_1 : Nat) (l0_1 : List (S69)) (A1 : Option Addr) (c1 : Nat) (l1 : List Int) (A2 : Option Addr) (c2 : Nat) (l2 : List Int) (r : Bool) (w : World) (hr0_1 : Kd.C k69 w A0_1 l0_1.length l0_1) (hc0_1 : l0_1.length ≤ c0_1) (hr1 : Kd.C (Kd.int .i64) w A1 l1.length l1) (hc1 : l1.length ≤ c1) (hr2 : Kd.C (Kd.int .i64) w A2 l2.length l2) (hc2 : l2.length ≤ c2) (h : gB k a0_0 l0_1 l1 l2 = some r) :
 Calls Tryz.prog 36 #[.agg #[.int .i64 a0_0, .slice A0_1 l0_1.length c0_1], .slice A1 l1.length c1, .slice A2 l2.length c2] w fun e w' => e = .returned (.bool r) ∧ Below w.heap.size w w' := by
 have hu30 := Tryz.underlying30
 have HR0_1 := Aside0.mk hr0_1
 have HC0_1 := Aside0.mk hc0_1
 clear hr0_1 hc0_1
 have HR1 := Aside0.mk hr1
 have HC1 := Aside0.mk hc1
 clear hr1 hc1
 have HR2 := Aside0.mk hr2
 have HC2 := Aside0.mk hc2
 clear hr2 hc2
 have HB := zM (Below.refl w.heap.size w)
 have H := h
 unfold gB at H
 clear h
 replace H := ax H
 obtain ⟨t476, A40, H⟩ := H
 have A4 := Aside0.mk A40
 clear A40
 by_cases c5 : t476 = true
 · subst c5
   rw [if_pos rfl] at H
   replace H := ax H
   obtain ⟨t477, A60, H⟩ := H
   have A6 := Aside0.mk A60
   clear A60
   by_cases c7 : t477 = true
   · subst c7
     rw [if_pos rfl] at H
     replace H := ax H
     obtain ⟨t478, A80, H⟩ := H
     have A8 := Aside0.mk A80
     clear A80
     obtain rfl := ao H
     go_enter Tryz.func36, Tryz.ntmps36
     go_wp2_with (first | ((with_reducible refine ap (N := 3) rfl ?_); refine zb (w := w) 3 #[.int .i64 a0_0, .slice A0_1 l0_1.length c0_1] 30 zB ?_; clear HB; intro gb475 w9 HB BK475 GW475; have GE475 := GW475; have hcz10_0 := zy BK475 0; have hcz10_1 := zy BK475 1; have hfz10_0 := ae BK475.out 0; have hfz10_1 := ae BK475.out 1) | ((with_reducible refine ay (f := 59) rfl ?_); refine zc 8 Tryz.func59 #[.agg #[.int .i64 a0_0, .slice A0_1 l0_1.length c0_1]] ?_; (with_reducible refine (fJ k a0_0 _ _ l0_1 true _ ?side1 ?side2 A4.out).mono ?_); (case side1 => exact zC (Kd.C_below HR0_1.out HB.out)); (case side2 => exact HC0_1.out); rintro e w11 ⟨rfl, hb⟩; refine ⟨_, rfl, ?_⟩; replace BK475 := zJ BK475 hb; replace HB := zM (ah zB hb); (try clear hb); have hcz12_0 := zy BK475 0; have hcz12_1 := zy BK475 1; have hfz12_0 := ae BK475.out 0; have hfz12_1 := ae BK475.out 1) | (go_at_call 60; (with_reducible refine (jH k a0_0 _ _ l0_1 _ _ l1 true _ ?side1 ?side2 ?side3 ?side4 A6.out).mono ?_); (case side1 => exact zC (Kd.C_below HR0_1.out HB.out)); (case side2 => exact HC0_1.out); (case side3 => exact zC (Kd.C_below HR1.out HB.out)); (case side4 => exact HC1.out); rintro e w13 ⟨rfl, hb⟩; replace BK475 := zJ BK475 hb; replace HB := zM (ah zB hb); (try clear hb); have hcz14_0 := zy BK475 0; have hcz14_1 := zy BK475 1; have hfz14_0 := ae BK475.out 0; have hfz14_1 := ae BK475.out 1) | (go_at_call 60; (with_reducible refine (jH k a0_0 _ _ l0_1 _ _ l2 t478 _ ?side1 ?side2 ?side3 ?side4 A8.out).mono ?_); (case side1 => exact zC (Kd.C_below HR0_1.out HB.out)); (case side2 => exact HC0_1.out); (case side3 => exact zC (Kd.C_below HR2.out HB.out)); (case side4 => exact HC2.out); rintro e w15 ⟨rfl, hb⟩; replace BK475 := zJ BK475 hb; replace HB := zM (ah zB hb); (try clear hb); (try clear hi)))
     go_ret
     exact ⟨by first | rfl | (simp [al, ak] <;> rfl) | (simp [*, al, ak] <;> rfl), zB⟩
   · replace c7 := Bool.eq_false_iff.mpr c7
     subst c7
     rw [if_neg (show ¬ (false = true) by decide)] at H
     obtain rfl := ao H
     go_enter Tryz.func36, Tryz.ntmps36
     go_wp2_with (first | ((with_reducible refine ap (N := 3) rfl ?_); refine zb (w := w) 3 #[.int .i64 a0_0, .slice A0_1 l0_1.length c0_1] 30 zB ?_; clear HB; intro gb475 w16 HB BK475 GW475; have GE475 := GW475; have hcz17_0 := zy BK475 0; have hcz17_1 := zy BK475 1; have hfz17_0 := ae BK475.out 0; have hfz17_1 := ae BK475.out 1) | ((with_reducible refine ay (f := 59) rfl ?_); refine zc 8 Tryz.func59 #[.agg #[.int .i64 a0_0, .slice A0_1 l0_1.length c0_1]] ?_; (with_reducible refine (fJ k a0_0 _ _ l0_1 true _ ?side1 ?side2 A4.out).mono ?_); (case side1 => exact zC (Kd.C_below HR0_1.out HB.out)); (case side2 => exact HC0_1.out); rintro e w18 ⟨rfl, hb⟩; refine ⟨_, rfl, ?_⟩; replace BK475 := zJ BK475 hb; replace HB := zM (ah zB hb); (try clear hb); have hcz19_0 := zy BK475 0; have hcz19_1 := zy BK475 1; have hfz19_0 := ae BK475.out 0; have hfz19_1 := ae BK475.out 1) | (go_at_call 60; (with_reducible refine (jH k a0_0 _ _ l0_1 _ _ l1 false _ ?side1 ?side2 ?side3 ?side4 A6.out).mono ?_); (case side1 => exact zC (Kd.C_below HR0_1.out HB.out)); (case side2 => exact HC0_1.out); (case side3 => exact zC (Kd.C_below HR1.out HB.out)); (case side4 => exact HC1.out); rintro e w20 ⟨rfl, hb⟩; replace BK475 := zJ BK475 hb; replace HB := zM (ah zB hb); (try clear hb); (try clear hi)))
     go_ret
     exact ⟨by first | rfl | (simp [al, ak] <;> rfl) | (simp [*, al, ak] <;> rfl), zB⟩
 · replace c5 := Bool.eq_false_iff.mpr c5
   subst c5
   rw [if_neg (show ¬ (false = true) by decide)] at H
   obtain rfl := ao H
   go_enter Tryz.func36, Tryz.ntmps36
   go_wp2_with (first | ((with_reducible refine ap (N := 3) rfl ?_); refine zb (w := w) 3 #[.int .i64 a0_0, .slice A0_1 l0_1.length c0_1] 30 zB ?_; clear HB; intro gb475 w21 HB BK475 GW475; have GE475 := GW475; have hcz22_0 := zy BK475 0; have hcz22_1 := zy BK475 1; have hfz22_0 := ae BK475.out 0; have hfz22_1 := ae BK475.out 1) | ((with_reducible refine ay (f := 59) rfl ?_); refine zc 8 Tryz.func59 #[.agg #[.int .i64 a0_0, .slice A0_1 l0_1.length c0_1]] ?_; (with_reducible refine (fJ k a0_0 _ _ l0_1 false _ ?side1 ?side2 A4.out).mono ?_); (case side1 => exact zC (Kd.C_below HR0_1.out HB.out)); (case side2 => exact HC0_1.out); rintro e w23 ⟨rfl, hb⟩; refine ⟨_, rfl, ?_⟩; replace BK475 := zJ BK475 hb; replace HB := zM (ah zB hb); (try clear hb); (try clear hi)))
   go_ret
   exact ⟨by first | rfl | (simp [al, ak] <;> rfl) | (simp [*, al, ak] <;> rfl), zB⟩
end Go.Proofs.YtadjbmcfgjmhkaaGreat.P
namespace Go.Proofs
open Go.Shelf
def Tryz.lays189_ren : Go.Shelf.Ren := ⟨fun | 189 => 70 | 125 => 94 | 257 => 93 | 128 => 119 | 129 => 120 | 294 => 110 | 295 => 111 | 296 => 112 | 297 => 113 | 298 => 114 | 299 => 115 | 216 => 116 | 300 => 117 | 301 => 118 | 328 => 137 | 329 => 138 | 330 => 139 | 331 => 140 | 332 => 141 | 215 => 133 | 343 => 147 | n => n, fun | 28 => 25 | 3 => 3 | 46 => 83 | 0 => 0 | 51 => 119 | 53 => 121 | 4 => 4 | 183 => 114 | 182 => 113 | 131 => 77 | 5 => 5 | 9 => 9 | 218 => 133 | 222 => 137 | 228 => 145 | 229 => 146 | n => n, fun | n => n⟩
theorem Tryz.lays189 : Go.Proofs.Lays.n189 Tryz.prog Tryz.lays189_ren := {
 mixed := by kernel_rfl
 f125 := Tryz.func94.trans (congrArg some (by kernel_rfl))
 f128 := Tryz.func119.trans (congrArg some (by kernel_rfl))
 f129 := Tryz.func120.trans (congrArg some (by kernel_rfl))
 f189 := Tryz.func70.trans (congrArg some (by kernel_rfl))
 f215 := Tryz.func133.trans (congrArg some (by kernel_rfl))
 f216 := Tryz.func116.trans (congrArg some (by kernel_rfl))
 f257 := Tryz.func93.trans (congrArg some (by kernel_rfl))
 f294 := Tryz.func110.trans (congrArg some (by kernel_rfl))
 f295 := Tryz.func111.trans (congrArg some (by kernel_rfl))
 f296 := Tryz.func112.trans (congrArg some (by kernel_rfl))
 f297 := Tryz.func113.trans (congrArg some (by kernel_rfl))
 f298 := Tryz.func114.trans (congrArg some (by kernel_rfl))
 f299 := Tryz.func115.trans (congrArg some (by kernel_rfl))
 f300 := Tryz.func117.trans (congrArg some (by kernel_rfl))
 f301 := Tryz.func118.trans (congrArg some (by kernel_rfl))
 f328 := Tryz.func137.trans (congrArg some (by kernel_rfl))
 f329 := Tryz.func138.trans (congrArg some (by kernel_rfl))
 f330 := Tryz.func139.trans (congrArg some (by kernel_rfl))
 f331 := Tryz.func140.trans (congrArg some (by kernel_rfl))
 f332 := Tryz.func141.trans (congrArg some (by kernel_rfl))
 f343 := Tryz.func147.trans (congrArg some (by kernel_rfl))
 t0 := Tryz.underlying0
 a0 := Tryz.isAgg0
 z0 := Tryz.sizeOf0
 v0 := Tryz.zeroValue0
 t3 := Tryz.underlying3
 a3 := Tryz.isAgg3
 z3 := Tryz.sizeOf3
 v3 := Tryz.zeroValue3
 t4 := Tryz.underlying4
 a4 := Tryz.isAgg4
 z4 := Tryz.sizeOf4
 v4 := Tryz.zeroValue4
 t5 := Tryz.underlying5
 a5 := Tryz.isAgg5
 z5 := Tryz.sizeOf5
 v5 := Tryz.zeroValue5
 t9 := Tryz.underlying9
 a9 := Tryz.isAgg9
 z9 := Tryz.sizeOf9
 v9 := Tryz.zeroValue9
 t28 := Tryz.underlying25
 a28 := Tryz.isAgg25
 z28 := Tryz.sizeOf25
 v28 := Tryz.zeroValue25
 t46 := Tryz.underlying83
 a46 := Tryz.isAgg83
 z46 := Tryz.sizeOf83
 v46 := Tryz.zeroValue83
 t51 := Tryz.underlying119
 a51 := Tryz.isAgg119
 z51 := Tryz.sizeOf119
 v51 := Tryz.zeroValue119
 t53 := Tryz.underlying121
 a53 := Tryz.isAgg121
 z53 := Tryz.sizeOf121
 v53 := Tryz.zeroValue121
 t131 := Tryz.underlying77
 a131 := Tryz.isAgg77
 z131 := Tryz.sizeOf77
 v131 := Tryz.zeroValue77
 t182 := Tryz.underlying113
 a182 := Tryz.isAgg113
 z182 := Tryz.sizeOf113
 v182 := Tryz.zeroValue113
 t183 := Tryz.underlying114
 a183 := Tryz.isAgg114
 z183 := Tryz.sizeOf114
 v183 := Tryz.zeroValue114
 t218 := Tryz.underlying133
 a218 := Tryz.isAgg133
 z218 := Tryz.sizeOf133
 v218 := Tryz.zeroValue133
 t222 := Tryz.underlying137
 a222 := Tryz.isAgg137
 z222 := Tryz.sizeOf137
 v222 := Tryz.zeroValue137
 t228 := Tryz.underlying145
 a228 := Tryz.isAgg145
 z228 := Tryz.sizeOf145
 v228 := Tryz.zeroValue145
 t229 := Tryz.underlying146
 a229 := Tryz.isAgg146
 z229 := Tryz.sizeOf146
 v229 := Tryz.zeroValue146 }
open Go.Sort Go.RowKit in
theorem Tryz.slices_Sort_int (blk off cap : Nat) (zs : List Int) (w : World) (hH : Holds (Value.int .i64) w blk off zs.toArray) (hblk : blk < w.heap.size) (hsz : zs.length < 4611686018427387904) :
 Calls Tryz.prog 70 #[.slice (some ⟨blk, off, none⟩) zs.length cap] w fun e w' =>
  e = .returned (.tuple #[]) ∧ ∃ n os, w' = grow (putRow (Value.int .i64) (Sort.ahead w n) blk off (zs.mergeSort fun x y => decide (x ≤ y)).toArray) os := Any.slices_Sort_int Tryz.lays189 blk off cap zs w hH hblk hsz
def Tryz.lays212_ren : Go.Shelf.Ren := ⟨fun | 212 => 121 | 263 => 142 | 264 => 143 | n => n, fun | 46 => 83 | 51 => 119 | 146 => 139 | 53 => 121 | 148 => 141 | n => n, fun | n => n⟩
theorem Tryz.lays212 : Go.Proofs.Lays.n212 Tryz.prog Tryz.lays212_ren := {
 mixed := by kernel_rfl
 f212 := Tryz.func121.trans (congrArg some (by kernel_rfl))
 f263 := Tryz.func142.trans (congrArg some (by kernel_rfl))
 f264 := Tryz.func143.trans (congrArg some (by kernel_rfl))
 t46 := Tryz.underlying83
 a46 := Tryz.isAgg83
 z46 := Tryz.sizeOf83
 v46 := Tryz.zeroValue83
 t51 := Tryz.underlying119
 a51 := Tryz.isAgg119
 z51 := Tryz.sizeOf119
 v51 := Tryz.zeroValue119
 t53 := Tryz.underlying121
 a53 := Tryz.isAgg121
 z53 := Tryz.sizeOf121
 v53 := Tryz.zeroValue121
 t146 := Tryz.underlying139
 a146 := Tryz.isAgg139
 z146 := Tryz.sizeOf139
 v146 := Tryz.zeroValue139
 t148 := Tryz.underlying141
 a148 := Tryz.isAgg141
 z148 := Tryz.sizeOf141
 v148 := Tryz.zeroValue141 }
open Go.RowKit Go.Lib in
theorem Tryz.bits_Mul (x y : Nat) (hx : x < 18446744073709551616) (hy : y < 18446744073709551616) (w : World) :
 Calls Tryz.prog 121 #[.int .u64 x, .int .u64 y] w fun e w' => e = .returned (.tuple #[.int .u64 ((x * y / 18446744073709551616 : Nat) : Int), .int .u64 ((x * y % 18446744073709551616 : Nat) : Int)]) ∧ w' = w := Any.bits_Mul Tryz.lays212 x y hx hy w
def Tryz.laysNm215_ren : Go.Shelf.Ren := ⟨fun | 15 => 66 | n => n, fun | 22 => 25 | 3 => 3 | 4 => 4 | n => n, fun | n => n⟩
theorem Tryz.laysNm215 : Go.Proofs.Lays2.n15 Tryz.prog Tryz.laysNm215_ren := {
 mixed := by kernel_rfl
 f15 := Tryz.func66.trans (congrArg some (by kernel_rfl))
 t3 := Tryz.underlying3
 a3 := Tryz.isAgg3
 z3 := Tryz.sizeOf3
 v3 := Tryz.zeroValue3
 t4 := Tryz.underlying4
 a4 := Tryz.isAgg4
 z4 := Tryz.sizeOf4
 v4 := Tryz.zeroValue4
 t22 := Tryz.underlying25
 a22 := Tryz.isAgg25
 z22 := Tryz.sizeOf25
 v22 := Tryz.zeroValue25
 i3 := by kernel_rfl }
open Go.RowKit Go.Lib in
theorem Tryz.slices_Clone_int (b off n c : Nat) (zs : List Int) (w : World) (hz : n ≤ zs.length) (hbig : n * 8 ≤ 140737488355328) (hc : ∀ j, j < zs.length → w.cell? ⟨b, off + j, none⟩ = some (.int .i64 (zs.getD j 0))) :
 Calls Tryz.prog 66 #[.slice (some ⟨b, off, none⟩) n c] w fun e w' => ∃ v', e = .returned v' ∧ w'.ownsRow w.heap.size 3 1 v' n ((zs.take n).map (Value.int .i64)) ∧ v' ≠ .slice none 0 0 ∧ Below w.heap.size w w' := Any.slices_Clone_int Tryz.laysNm215 b off n c zs w hz hbig hc
open Go.RowKit Go.Lib in
theorem Tryz.slices_Clone_int_nil (n c : Nat) (w : World) :
 Calls Tryz.prog 66 #[.slice none n c] w fun e w' => e = .returned (.slice none 0 0) ∧ w' = w := Any.slices_Clone_int_nil Tryz.laysNm215 n c w
open Go.RowKit Go.Lib in
theorem Tryz.slices_Clone_int_zero (a : Addr) (c : Nat) (w : World) :
 Calls Tryz.prog 66 #[.slice (some a) 0 c] w fun e w' => ∃ v', e = .returned v' ∧ w'.ownsRow w.heap.size 3 1 v' 0 [] ∧ v' ≠ .slice none 0 0 ∧ Below w.heap.size w w' := Any.slices_Clone_int_zero Tryz.laysNm215 a c w
open Go.RowKit Go.Sort in
theorem Tryz.slices_Sort_int_none (p : Option Addr) (cap : Nat) (w : World) :
 Calls Tryz.prog 70 #[.slice p 0 cap] w fun e w' => e = .returned (.tuple #[]) ∧ w' = w := Any.slices_Sort_int_none Tryz.lays189 p cap w
def Tryz.laysSlF6_f86_ren : Go.Shelf.Ren := ⟨fun | 6 => 86 | 15 => 94 | 14 => 104 | 28 => 119 | 29 => 120 | 20 => 125 | 21 => 126 | 22 => 127 | 23 => 128 | 24 => 129 | 25 => 130 | 26 => 131 | 27 => 132 | 46 => 144 | 47 => 138 | 48 => 139 | 49 => 145 | 50 => 146 | 57 => 148 | n => n, fun | 22 => 27 | 24 => 25 | 25 => 93 | 3 => 3 | 39 => 83 | 0 => 0 | 53 => 119 | 55 => 121 | 4 => 4 | 46 => 114 | 45 => 113 | 50 => 77 | 5 => 5 | 9 => 9 | 66 => 133 | 70 => 137 | 76 => 145 | 77 => 146 | n => n, fun | n => n⟩
theorem Tryz.laysSlF6_f86 : Go.Proofs.SlLaysF.n6 Tryz.prog Tryz.laysSlF6_f86_ren := {
 mixed := by kernel_rfl
 f6 := ⟨Tryz.f86.name, by decide, Tryz.func86.trans (congrArg some (by kernel_rfl))⟩
 f14 := ⟨Tryz.f104.name, by decide, Tryz.func104.trans (congrArg some (by kernel_rfl))⟩
 f15 := Tryz.func94.trans (congrArg some (by kernel_rfl))
 f20 := ⟨Tryz.f125.name, by decide, Tryz.func125.trans (congrArg some (by kernel_rfl))⟩
 f21 := ⟨Tryz.f126.name, by decide, Tryz.func126.trans (congrArg some (by kernel_rfl))⟩
 f22 := ⟨Tryz.f127.name, by decide, Tryz.func127.trans (congrArg some (by kernel_rfl))⟩
 f23 := ⟨Tryz.f128.name, by decide, Tryz.func128.trans (congrArg some (by kernel_rfl))⟩
 f24 := ⟨Tryz.f129.name, by decide, Tryz.func129.trans (congrArg some (by kernel_rfl))⟩
 f25 := ⟨Tryz.f130.name, by decide, Tryz.func130.trans (congrArg some (by kernel_rfl))⟩
 f26 := ⟨Tryz.f131.name, by decide, Tryz.func131.trans (congrArg some (by kernel_rfl))⟩
 f27 := ⟨Tryz.f132.name, by decide, Tryz.func132.trans (congrArg some (by kernel_rfl))⟩
 f28 := Tryz.func119.trans (congrArg some (by kernel_rfl))
 f29 := Tryz.func120.trans (congrArg some (by kernel_rfl))
 f46 := ⟨Tryz.f144.name, by decide, Tryz.func144.trans (congrArg some (by kernel_rfl))⟩
 f47 := Tryz.func138.trans (congrArg some (by kernel_rfl))
 f48 := Tryz.func139.trans (congrArg some (by kernel_rfl))
 f49 := ⟨Tryz.f145.name, by decide, Tryz.func145.trans (congrArg some (by kernel_rfl))⟩
 f50 := ⟨Tryz.f146.name, by decide, Tryz.func146.trans (congrArg some (by kernel_rfl))⟩
 f57 := ⟨Tryz.f148.name, by decide, Tryz.func148.trans (congrArg some (by kernel_rfl))⟩
 t0 := Tryz.underlying0
 a0 := Tryz.isAgg0
 z0 := Tryz.sizeOf0
 v0 := Tryz.zeroValue0
 t3 := Tryz.underlying3
 a3 := Tryz.isAgg3
 z3 := Tryz.sizeOf3
 v3 := Tryz.zeroValue3
 t4 := Tryz.underlying4
 a4 := Tryz.isAgg4
 z4 := Tryz.sizeOf4
 v4 := Tryz.zeroValue4
 t5 := Tryz.underlying5
 a5 := Tryz.isAgg5
 z5 := Tryz.sizeOf5
 v5 := Tryz.zeroValue5
 t9 := Tryz.underlying9
 a9 := Tryz.isAgg9
 z9 := Tryz.sizeOf9
 v9 := Tryz.zeroValue9
 t22 := Tryz.underlying27
 a22 := Tryz.isAgg27
 z22 := Tryz.sizeOf27
 v22 := Tryz.zeroValue27
 a24 := Tryz.isAgg25
 z24 := Tryz.sizeOf25
 t25 := Tryz.underlying93
 a25 := Tryz.isAgg93
 z25 := Tryz.sizeOf93
 v25 := Tryz.zeroValue93
 t39 := Tryz.underlying83
 a39 := Tryz.isAgg83
 z39 := Tryz.sizeOf83
 v39 := Tryz.zeroValue83
 t45 := Tryz.underlying113
 a45 := Tryz.isAgg113
 z45 := Tryz.sizeOf113
 v45 := Tryz.zeroValue113
 t46 := Tryz.underlying114
 a46 := Tryz.isAgg114
 z46 := Tryz.sizeOf114
 v46 := Tryz.zeroValue114
 t50 := Tryz.underlying77
 a50 := Tryz.isAgg77
 z50 := Tryz.sizeOf77
 v50 := Tryz.zeroValue77
 t53 := Tryz.underlying119
 a53 := Tryz.isAgg119
 z53 := Tryz.sizeOf119
 v53 := Tryz.zeroValue119
 t55 := Tryz.underlying121
 a55 := Tryz.isAgg121
 z55 := Tryz.sizeOf121
 v55 := Tryz.zeroValue121
 t66 := Tryz.underlying133
 a66 := Tryz.isAgg133
 z66 := Tryz.sizeOf133
 v66 := Tryz.zeroValue133
 t70 := Tryz.underlying137
 a70 := Tryz.isAgg137
 z70 := Tryz.sizeOf137
 v70 := Tryz.zeroValue137
 t76 := Tryz.underlying145
 a76 := Tryz.isAgg145
 z76 := Tryz.sizeOf145
 v76 := Tryz.zeroValue145
 t77 := Tryz.underlying146
 a77 := Tryz.isAgg146
 z77 := Tryz.sizeOf146
 v77 := Tryz.zeroValue146 }
open Go.RowKit Go.Lib Go.Sort in
theorem Tryz.slices_SortFunc {α : Type} [Inhabited α] (enc : α → Value) (h1 : OneCell enc) (cf : α → α → Int) (hO : SWO (ltOf cf)) (g : Nat) (cb : Array Value) (blk off cap : Nat) (d : Array α) (w : World) (eg : ∀ args w, (callFunc g args).run Tryz.prog w = .ok (.enter g args) w) (hcmp : CmpLays1 Tryz.prog g cb enc cf blk off d.size w) (hH : Holds enc w blk off d) (hblk : blk < w.heap.size) (hsz : d.size < 4611686018427387904) :
 Calls Tryz.prog 86 #[.slice (some ⟨blk, off, none⟩) d.size cap, .func (.func g) #[] cb] w fun e w' =>
  e = .returned (.tuple #[]) ∧ ∃ d' n os, PermIn 0 d.size d d' ∧ SortedIn (ltOf cf) 0 d.size d' ∧ w' = sortWorld enc w blk off n d' os := Any.slices_SortFunc Tryz.laysSlF6_f86 enc h1 cf hO g cb blk off cap d w eg hcmp hH hblk hsz
def Tryz.laysSlF06_f86_ren : Go.Shelf.Ren := ⟨fun | 6 => 86 | 15 => 94 | 14 => 104 | 28 => 119 | 29 => 120 | 20 => 125 | 21 => 126 | 22 => 127 | 23 => 128 | 24 => 129 | 25 => 130 | 26 => 131 | 27 => 132 | 46 => 144 | 47 => 138 | 48 => 139 | 49 => 145 | 50 => 146 | 57 => 148 | n => n, fun | 22 => 27 | 24 => 25 | 25 => 93 | 3 => 3 | 39 => 83 | 0 => 0 | 53 => 119 | 55 => 121 | 4 => 4 | 46 => 114 | 45 => 113 | 50 => 77 | 5 => 5 | 9 => 9 | 66 => 133 | 70 => 137 | 76 => 145 | 77 => 146 | n => n, fun | n => n⟩
theorem Tryz.laysSlF06_f86 : Go.Proofs.SlLaysF0.n6 Tryz.prog Tryz.laysSlF06_f86_ren := {
 mixed := by kernel_rfl
 f6 := ⟨Tryz.f86.name, by decide, Tryz.func86.trans (congrArg some (by kernel_rfl))⟩
 f14 := ⟨Tryz.f104.name, by decide, Tryz.func104.trans (congrArg some (by kernel_rfl))⟩
 f15 := Tryz.func94.trans (congrArg some (by kernel_rfl))
 f20 := ⟨Tryz.f125.name, by decide, Tryz.func125.trans (congrArg some (by kernel_rfl))⟩
 f21 := ⟨Tryz.f126.name, by decide, Tryz.func126.trans (congrArg some (by kernel_rfl))⟩
 f22 := ⟨Tryz.f127.name, by decide, Tryz.func127.trans (congrArg some (by kernel_rfl))⟩
 f23 := ⟨Tryz.f128.name, by decide, Tryz.func128.trans (congrArg some (by kernel_rfl))⟩
 f24 := ⟨Tryz.f129.name, by decide, Tryz.func129.trans (congrArg some (by kernel_rfl))⟩
 f25 := ⟨Tryz.f130.name, by decide, Tryz.func130.trans (congrArg some (by kernel_rfl))⟩
 f26 := ⟨Tryz.f131.name, by decide, Tryz.func131.trans (congrArg some (by kernel_rfl))⟩
 f27 := ⟨Tryz.f132.name, by decide, Tryz.func132.trans (congrArg some (by kernel_rfl))⟩
 f28 := Tryz.func119.trans (congrArg some (by kernel_rfl))
 f29 := Tryz.func120.trans (congrArg some (by kernel_rfl))
 f46 := ⟨Tryz.f144.name, by decide, Tryz.func144.trans (congrArg some (by kernel_rfl))⟩
 f47 := Tryz.func138.trans (congrArg some (by kernel_rfl))
 f48 := Tryz.func139.trans (congrArg some (by kernel_rfl))
 f49 := ⟨Tryz.f145.name, by decide, Tryz.func145.trans (congrArg some (by kernel_rfl))⟩
 f50 := ⟨Tryz.f146.name, by decide, Tryz.func146.trans (congrArg some (by kernel_rfl))⟩
 f57 := ⟨Tryz.f148.name, by decide, Tryz.func148.trans (congrArg some (by kernel_rfl))⟩
 t0 := Tryz.underlying0
 a0 := Tryz.isAgg0
 z0 := Tryz.sizeOf0
 v0 := Tryz.zeroValue0
 t3 := Tryz.underlying3
 a3 := Tryz.isAgg3
 z3 := Tryz.sizeOf3
 v3 := Tryz.zeroValue3
 t4 := Tryz.underlying4
 a4 := Tryz.isAgg4
 z4 := Tryz.sizeOf4
 v4 := Tryz.zeroValue4
 t5 := Tryz.underlying5
 a5 := Tryz.isAgg5
 z5 := Tryz.sizeOf5
 v5 := Tryz.zeroValue5
 t9 := Tryz.underlying9
 a9 := Tryz.isAgg9
 z9 := Tryz.sizeOf9
 v9 := Tryz.zeroValue9
 t22 := Tryz.underlying27
 a22 := Tryz.isAgg27
 z22 := Tryz.sizeOf27
 v22 := Tryz.zeroValue27
 t25 := Tryz.underlying93
 a25 := Tryz.isAgg93
 z25 := Tryz.sizeOf93
 v25 := Tryz.zeroValue93
 t39 := Tryz.underlying83
 a39 := Tryz.isAgg83
 z39 := Tryz.sizeOf83
 v39 := Tryz.zeroValue83
 t45 := Tryz.underlying113
 a45 := Tryz.isAgg113
 z45 := Tryz.sizeOf113
 v45 := Tryz.zeroValue113
 t46 := Tryz.underlying114
 a46 := Tryz.isAgg114
 z46 := Tryz.sizeOf114
 v46 := Tryz.zeroValue114
 t50 := Tryz.underlying77
 a50 := Tryz.isAgg77
 z50 := Tryz.sizeOf77
 v50 := Tryz.zeroValue77
 t53 := Tryz.underlying119
 a53 := Tryz.isAgg119
 z53 := Tryz.sizeOf119
 v53 := Tryz.zeroValue119
 t55 := Tryz.underlying121
 a55 := Tryz.isAgg121
 z55 := Tryz.sizeOf121
 v55 := Tryz.zeroValue121
 t66 := Tryz.underlying133
 a66 := Tryz.isAgg133
 z66 := Tryz.sizeOf133
 v66 := Tryz.zeroValue133
 t70 := Tryz.underlying137
 a70 := Tryz.isAgg137
 z70 := Tryz.sizeOf137
 v70 := Tryz.zeroValue137
 t76 := Tryz.underlying145
 a76 := Tryz.isAgg145
 z76 := Tryz.sizeOf145
 v76 := Tryz.zeroValue145
 t77 := Tryz.underlying146
 a77 := Tryz.isAgg146
 z77 := Tryz.sizeOf146
 v77 := Tryz.zeroValue146 }
open Go.RowKit Go.Lib Go.Sort in
theorem Tryz.slices_SortFunc_none {α : Type} [Inhabited α] (p : Option Addr) (cap : Nat) (fv : Value) (w : World) :
 Calls Tryz.prog 86 #[.slice p 0 cap, fv] w fun e w' => e = .returned (.tuple #[]) ∧ w' = w := AnyF.slices_SortFunc_none Tryz.laysSlF06_f86 p cap fv w
end Go.Proofs
