-- Written by a program of this session (the kit's print, turned: wip/print/patch.py) out of the translation. Not trusted: Lean checks it.
import Derived.Test.YtadjbmcfgjmhkaaGreatStuckSetsG5
import Derived.Test.YtadjbmcfgjmhkaaGreatStuckSetsG10
import Derived.Test.YtadjbmcfgjmhkaaGreatStuckSetsG13
namespace Go.Proofs.YtadjbmcfgjmhkaaGreat.P
open Go.RowKit Go.Proofs.YtadjbmcfgjmhkaaGreatW.PrintWords Go.Proofs.YtadjbmcfgjmhkaaGreatW.PrintLast Go.Proofs.YtadjbmcfgjmhkaaGreatW.PrintMore
attribute [local go_sem] max2_int min2_int max_two min_two max_three min_three max_four min_four   -- for this text's walks alone
set_option linter.unusedVariables false
set_option linter.unusedSimpArgs false

/-! ### spec_StuckSets: function 22 -/
def spec_StuckSets.l0 : Nat → List (List Int) → List (List Int) → Int → List (List Int) → List (S69) → Option ((List (List Int)) × Bool)
 | 0, _, _, _, _, _ => none
 | k + 1, x6, x8, x9, x751000, x751001 => if x9 < (x8.length : Int) then (if 0 ≤ x9 then (if ((rd_L2 x8 x9).length : Int) = 0 then (if x9 < (x751000.length : Int) then (if x6.length < 5864062014805 then (spec_StuckSets.l0 k (x6 ++ [rd_L2 x751000 x9]) x8 (wrap64 (x9 + 1)) x751000 x751001) else (none)) else (none)) else (spec_StuckSets.l0 k x6 x8 (wrap64 (x9 + 1)) x751000 x751001)) else (none)) else (some (x6, true))
def spec_StuckSets.f (k : Nat) (a0_0 : Int) (l0_1 : List (S69)) (a1 : Int) : Option ((List (List Int)) × Bool) := (some (([] : List (List Int)) : List (List Int))).bind fun y737 => ((spec_l3Ask.f k a0_0 l0_1 a1).bind fun t740 => (if t740 = true then ((spec_l3Sets.f k a0_0 l0_1 a1 a1).bind fun t741 => ((spec_l3Space.f k a0_0 l0_1 0 t741).bind fun bt744 => ((spec_l2Lists.f k bt744.1 bt744.2).bind fun t751 => (spec_StuckSets.l0 k y737 t751 0 bt744.1 bt744.2)))) else (some (y737, false))))
def spec_StuckSets.T4 : Bool × List (List Nat × List Nat) := (true, [([], []), ([], []), ([], []), ([], []), ([1, 2, 3], [1, 2, 3]), ([0, 4, 4], [0, 4]), ([], []), ([6, 5, 5, 0, 1, 2, 3, 4, 5, 6], [5, 6])])
def spec_StuckSets.B4 : List Nat := [0, 0, 0, 0, 14, 31, 0, 127]
theorem spec_StuckSets.tab4 : rtab .any (opsOf Tryz.f22 4) = spec_StuckSets.T4 := by kernel_rfl
theorem spec_StuckSets.bits4 : waitsOk spec_StuckSets.T4.2 spec_StuckSets.B4 = true := by kernel_rfl
set_option maxHeartbeats 8000000 in
set_option maxRecDepth 100000 in
theorem spec_StuckSets.calls (k : Nat) (a0_0 : Int) (A0_1 : Option Addr) (c0_1 : Nat) (l0_1 : List (S69)) (a1 : Int) (r1 : List (List Int)) (r2 : Bool) (w : World) (hr0_1 : Kd.C k69 w A0_1 l0_1.length l0_1) (hc0_1 : l0_1.length ≤ c0_1) (h : spec_StuckSets.f k a0_0 l0_1 a1 = some (r1, r2)) :
 Calls Tryz.prog 22 #[.agg #[.int .i64 a0_0, .slice A0_1 l0_1.length c0_1], .int .i64 a1] w fun e w' => ∃ v0_ : Value, e = .returned (.tuple #[v0_, .bool r2]) ∧ Kd.N (Kd.slice 3 (Kd.int .i64)) 25 w' w.heap.size (fun k_ => (w.heap.size ≤ k_)) v0_ r1 ∧ Below w.heap.size w w' := by
 have hu30 := Tryz.underlying30
 have hu52 := Tryz.underlying52
 have HR0_1 := Aside0.mk hr0_1
 have HC0_1 := Aside0.mk hc0_1
 clear hr0_1 hc0_1
 have HB := zM (Below.refl w.heap.size w)
 have H : ((some (([] : List (List Int)) : List (List Int))).bind fun y737 => ((spec_l3Ask.f k a0_0 l0_1 a1).bind fun t740 => (if t740 = true then ((spec_l3Sets.f k a0_0 l0_1 a1 a1).bind fun t741 => ((spec_l3Space.f k a0_0 l0_1 0 t741).bind fun bt744 => ((spec_l2Lists.f k bt744.1 bt744.2).bind fun t751 => (spec_StuckSets.l0 k y737 t751 0 bt744.1 bt744.2)))) else (some (y737, false))))) = some (r1, r2) := h
 clear h
 obtain ⟨y737, hy737⟩ : ∃ y_ : List (List Int), y_ = (([] : List (List Int))) := ⟨_, rfl⟩
 replace H : ((spec_l3Ask.f k a0_0 l0_1 a1).bind fun t740 => (if t740 = true then ((spec_l3Sets.f k a0_0 l0_1 a1 a1).bind fun t741 => ((spec_l3Space.f k a0_0 l0_1 0 t741).bind fun bt744 => ((spec_l2Lists.f k bt744.1 bt744.2).bind fun t751 => (spec_StuckSets.l0 k y737 t751 0 bt744.1 bt744.2)))) else (some (y737, false)))) = some (r1, r2) := by first | (rw [hy737]; with_reducible exact H) | (have H2_ := (Option.bind_some _ _).symm.trans H; rw [hy737]; with_reducible exact H2_) | (have H2_ := (Option.bind_some _ _).symm.trans H; with_reducible exact H2_) | with_reducible exact H | (rw [hy737]; exact H) | exact H
 have Ny737 := Aside0.mk hy737
 clear hy737
 replace H := Option.bind_eq_some_iff.mp H
 obtain ⟨t740, A30, H⟩ := H
 replace H : (if t740 = true then ((spec_l3Sets.f k a0_0 l0_1 a1 a1).bind fun t741 => ((spec_l3Space.f k a0_0 l0_1 0 t741).bind fun bt744 => ((spec_l2Lists.f k bt744.1 bt744.2).bind fun t751 => (spec_StuckSets.l0 k y737 t751 0 bt744.1 bt744.2)))) else (some (y737, false))) = some (r1, r2) := H
 have A3 := Aside0.mk A30
 clear A30
 by_cases c4 : t740 = true
 · subst c4
   have H1 : ((spec_l3Sets.f k a0_0 l0_1 a1 a1).bind fun t741 => ((spec_l3Space.f k a0_0 l0_1 0 t741).bind fun bt744 => ((spec_l2Lists.f k bt744.1 bt744.2).bind fun t751 => (spec_StuckSets.l0 k y737 t751 0 bt744.1 bt744.2)))) = some (r1, r2) := by rw [if_pos rfl] at H; exact H
   clear H
   have H := H1
   clear H1
   replace H := Option.bind_eq_some_iff.mp H
   obtain ⟨t741, A50, H⟩ := H
   replace H : ((spec_l3Space.f k a0_0 l0_1 0 t741).bind fun bt744 => ((spec_l2Lists.f k bt744.1 bt744.2).bind fun t751 => (spec_StuckSets.l0 k y737 t751 0 bt744.1 bt744.2))) = some (r1, r2) := H
   have A5 := Aside0.mk A50
   clear A50
   replace H := Option.bind_eq_some_iff.mp H
   obtain ⟨⟨t744, t747⟩, A60, H⟩ := H
   replace H : ((spec_l2Lists.f k t744 t747).bind fun t751 => (spec_StuckSets.l0 k y737 t751 0 t744 t747)) = some (r1, r2) := H
   have A6 := Aside0.mk A60
   clear A60
   replace H := Option.bind_eq_some_iff.mp H
   obtain ⟨t751, A70, H⟩ := H
   replace H : (spec_StuckSets.l0 k y737 t751 0 t744 t747) = some (r1, r2) := H
   have A7 := Aside0.mk A70
   clear A70
   have H' := Aside0.mk H
   clear H
   go_enter Tryz.func22, Tryz.ntmps22
   try go_wp2_with (first | ((with_reducible refine gate_dst (N := 2) rfl ?_); refine zb (w := w) 2 #[.int .i64 a0_0, .slice A0_1 l0_1.length c0_1] 30 zB ?_; clear HB; intro gb736 w8 HB BK736 GW736; have GE736 := GW736) | ((with_reducible refine gate_dst (N := 10) rfl ?_); refine Kd.N_lit (Kd.slice 3 (Kd.int .i64)) _ 25 ?hg (N' := 10) ?hd (xs := ([] : List (List Int))) (inner := []) (ok := (fun k_ => (w.heap.size ≤ k_) ∧ k_ ≠ gb736)) (okp := (fun k_ => (w.heap.size ≤ k_) ∧ k_ ≠ gb736)) ?hr ?hp (fun _ hk => hk) ((show ∀ k_, w8.heap.size ≤ k_ → (fun k_ => (w.heap.size ≤ k_) ∧ k_ ≠ gb736) k_ from fun k_ hk => ⟨(Nat.le_trans (below_size zB) hk), Kd.freshB (g := gb736) (o := .cells #[.int .i64 a0_0, .slice A0_1 l0_1.length c0_1] 30 (0, 0)) (zK BK736.out) k_ hk⟩) _ (Nat.le_refl _)) (Below.refl _ _) (Nat.le_refl _) (by simp) ?_; (case hd => rfl); (case hg => rfl); (case hr => first | (go_simp; done) | (go_simp; rfl)); (case hp => exact (Reps.none _ _)); intro v738 w9 ho10 hb hg_ hnew_; clear hg_ hnew_; (first | rw [← Ny737.out] at ho10 | (simp only [Int.reduceToNat] at ho10; rw [← Ny737.out] at ho10)); have HO739 := zM (Kd.N_lower ho10 (below_size zB)); replace BK736 := zM (blk_below (g := gb736) (o := .cells #[.int .i64 a0_0, .slice A0_1 l0_1.length c0_1] 30 (0, 0)) (zK BK736.out) hb); replace HB := zM (below_step zB hb); clear hb ho10; have hcz11_0 := zy BK736 0; have hcz11_1 := zy BK736 1; have hfz11_0 := blk_frozen BK736.out 0; have hfz11_1 := blk_frozen BK736.out 1) | ((with_reducible refine gate_callee (f := 42) rfl ?_); refine zc 13 Tryz.func42 #[.agg #[.int .i64 a0_0, .slice A0_1 l0_1.length c0_1], .int .i64 a1] ?_; (with_reducible refine (spec_l3Ask.calls k a0_0 _ _ l0_1 a1 true _ ?side1 ?side2 A3.out).mono ?_); (case side1 => exact zC (Kd.C_below HR0_1.out HB.out)); (case side2 => exact HC0_1.out); rintro e w12 ⟨rfl, hb⟩; refine ⟨_, rfl, ?_⟩; replace HO739 := zM (Kd.N_below (by (with_reducible repeat (first | apply Kd.N_alloc | apply Kd.N_drewN | apply Kd.N_drew)); exact HO739.out) hb); replace BK736 := zM (blk_below (g := gb736) (o := .cells #[.int .i64 a0_0, .slice A0_1 l0_1.length c0_1] 30 (0, 0)) (zK BK736.out) hb); replace HB := zM (below_step zB hb); (try clear hb); (try clear hb2); (try clear hk); (try clear hi)))
   replace HO739 := zM (Kd.N_drew HO739.out)
   replace BK736 := zM (blk_drew BK736.out)
   replace HB := zM (below_drew1 HB.out)
   refine zs (n := 8) (fun w' => w'.cell? ⟨gb736, 0, none⟩ = some (.int .i64 a0_0) ∧ w'.cell? ⟨gb736, 1, none⟩ = some (.slice A0_1 l0_1.length c0_1)) ⟨(blk_cell BK736.out 0).trans rfl, (blk_cell BK736.out 1).trans rfl⟩ (fun hHeld => ?_); refine with_tabW spec_StuckSets.tab4 spec_StuckSets.bits4 (fun HT_ HW_ => ?_)
   generalize w12.drew = w13 at HO739 BK736 HB hHeld ⊢
   refine zp HT_ 2 18 ?_
   refine zp HT_ 3 19 ?_
   refine zt HT_ HW_ 0 16 hHeld ?_ (hy := by rintro w' ⟨s0, s1⟩; go_simp; with_reducible rfl)
   refine zt HT_ HW_ 1 17 hHeld ?_ (hy := by rintro w' ⟨s0, s1⟩; go_simp; with_reducible rfl)
   refine join_ (σ := Value × Value × Value × Nat) 1 #[true, true, true, true, true, true, true, false] (fun s_ => [(20, s_.1), (21, .agg #[s_.2.1, s_.2.2.1]), (7, .pointer (some ⟨s_.2.2.2, 0, none⟩))]) (fun s_ w' => (w'.cell? ⟨gb736, 0, none⟩ = some (.int .i64 a0_0) ∧ w'.cell? ⟨gb736, 1, none⟩ = some (.slice A0_1 l0_1.length c0_1)) ∧ (Kd.N (Kd.slice 3 (Kd.int .i64)) 25 w' w.heap.size (fun k_ => (w.heap.size ≤ k_) ∧ some k_ ≠ (s_.1 : Value).ownBlock ∧ some k_ ≠ (s_.2.2.1 : Value).ownBlock ∧ k_ ≠ gb736 ∧ k_ ≠ s_.2.2.2) v738 y737) ∧ (Kd.N (Kd.slice 3 (Kd.int .i64)) 25 w' w.heap.size (fun k_ => (w.heap.size ≤ k_) ∧ some k_ ≠ (v738 : Value).ownBlock ∧ some k_ ≠ (s_.2.2.1 : Value).ownBlock ∧ k_ ≠ gb736 ∧ k_ ≠ s_.2.2.2) s_.1 t741) ∧ (Kd.V (Kd.slice 3 (Kd.int .i64)) 25 w' w.heap.size (fun k_ => (w.heap.size ≤ k_) ∧ some k_ ≠ (v738 : Value).ownBlock ∧ some k_ ≠ (s_.2.2.1 : Value).ownBlock ∧ k_ ≠ gb736 ∧ k_ ≠ s_.2.2.2) s_.2.1 t744) ∧ (Kd.R k69 69 w' w.heap.size (fun k_ => (w.heap.size ≤ k_)) s_.2.2.1 t747) ∧ (w'.heap[gb736]? = some (.cells #[.int .i64 a0_0, .slice A0_1 l0_1.length c0_1] 30 (0, 0))) ∧ (w'.heap[s_.2.2.2]? = some (.cells #[.slice none 0 0, .slice none 0 0] 52 (0, 0))) ∧ (w.heap.size ≤ s_.2.2.2) ∧ (w.heap.size ≤ s_.2.2.2) ∧ (gb736 ≠ s_.2.2.2) ∧ (s_.2.2.2 ≠ gb736) ∧ (Below w.heap.size w w')) ?_ ?_
   rotate_left
   · intro hCont
     refine two_ (i := 4) (j := 6) (Ni := some 20) (Nj := some 7) #[true, true, true, true, true, false, false, false] #[true, true, true, true, false, false, true, false] rfl rfl rfl rfl (two_of HT_.out (by kernel_rfl)) (by decide) (by decide) (fun K hK => ?_) (fun K hK => ?_)
     · skip
       refine goes_ Tryz.func34 (by kernel_rfl) rfl #[.agg #[.int .i64 a0_0, .slice A0_1 l0_1.length c0_1], .int .i64 a1, .int .i64 a1] (by rfl) rfl rfl (by (try simp only [List.map_toArray, List.map_cons, List.map_nil]); first | done | rfl | (simp only [List.length_drop, List.length_take]; rfl)) ?_
       with_reducible refine (spec_l3Sets.calls k a0_0 _ _ l0_1 a1 a1 t741 _ ?side1 ?side2 A5.out).mono ?_
       (case side1 => exact zC (Kd.C_below HR0_1.out HB.out))
       (case side2 => exact HC0_1.out)
       rintro e w14 ⟨v742, rfl, ho0, hb⟩
       refine ⟨_, rfl, ?_⟩
       have HO743 := zM (Kd.N_lower (Kd.N_mono (ok' := fun k_ => (w.heap.size ≤ k_) ∧ some k_ ≠ (v738 : Value).ownBlock ∧ k_ ≠ gb736) ho0 (fun k_ hk_ => ⟨(Nat.le_trans (below_size zB) hk_), (Kd.fresh' (Kd.N_lt (by (with_reducible repeat (first | apply Kd.N_alloc | apply Kd.N_drewN | apply Kd.N_drew)); exact HO739.out)) k_ hk_), (Kd.freshB (g := gb736) (o := .cells #[.int .i64 a0_0, .slice A0_1 l0_1.length c0_1] 30 (0, 0)) (zK BK736.out) k_ hk_)⟩)) (below_size zB))
       replace HO739 := zM (Kd.N_elder' (by (with_reducible repeat (first | apply Kd.N_alloc | apply Kd.N_drewN | apply Kd.N_drew)); exact HO739.out) (by first | exact Kd.N_base ho0 | exact Kd.S_base ho0) hb)
       replace BK736 := zM (blk_below (g := gb736) (o := .cells #[.int .i64 a0_0, .slice A0_1 l0_1.length c0_1] 30 (0, 0)) (zK BK736.out) hb)
       replace HB := zM (below_step zB hb)
       (try clear hb)
       (try clear hb2)
       (try clear hk)
       (try clear hi)
       (try clear ho0)
       obtain ⟨Ao15, co15, eo15⟩ := Kd.N_slice HO743.out
       (first | subst eo15 | (injection eo15 with f1_ f2_ f3_; have f4_ := f1_.symm; have f5_ := f3_.symm; clear f1_ f2_ f3_; subst f4_; subst f5_))
       refine hK.out _ _ ⟨(blk_cell BK736.out 0).trans rfl, (blk_cell BK736.out 1).trans rfl⟩ (fun hHeld => ?_)
       clear hK K
       refine zn 20 ?_
       refine two_ (i := 5) (j := 6) (Ni := some 21) (Nj := some 7) #[true, true, true, true, true, true, false, false] #[true, true, true, true, true, false, true, false] rfl rfl rfl rfl (two_of HT_.out (by kernel_rfl)) (by decide) (by decide) (fun K hK => ?_) (fun K hK => ?_)
       · skip
         refine goes_ Tryz.func33 (by kernel_rfl) rfl #[.agg #[.int .i64 a0_0, .slice A0_1 l0_1.length c0_1], .int .i64 0, .slice Ao15 t741.length co15] (by rfl) rfl rfl (by (try simp only [List.map_toArray, List.map_cons, List.map_nil]); first | done | rfl | (simp only [List.length_drop, List.length_take]; rfl)) ?_
         with_reducible refine (spec_l3Space.calls k a0_0 _ _ l0_1 0 (fun k_ => ((w.heap.size ≤ k_) ∧ (some k_ ≠ (v738 : Value).ownBlock ∧ k_ ≠ gb736))) _ _ t741 t744 t747 _ ?side1 ?side2 ?side3 A6.out).mono ?_
         (case side1 => exact zC (Kd.C_below HR0_1.out HB.out))
         (case side2 => exact HC0_1.out)
         (case side3 => exact Kd.N_V (HO743.out))
         rintro e w16 ⟨v745, v748, rfl, ho0, ho1, hb⟩
         refine ⟨_, rfl, ?_⟩
         replace HO743 := zM (Kd.N_elder' (by (with_reducible repeat (first | apply Kd.N_alloc | apply Kd.N_drewN | apply Kd.N_drew)); exact HO743.out) (Kd.R_base ho1) hb)
         have HO746 := zM (Kd.V_lower (Kd.V_mono (ok' := fun k_ => (w.heap.size ≤ k_) ∧ some k_ ≠ (v748 : Value).ownBlock ∧ some k_ ≠ (v738 : Value).ownBlock ∧ k_ ≠ gb736) ho0 (fun k_ hk_ => ⟨Or.elim hk_.1 (fun hs_ => hs_.1) (fun hn_ => (Nat.le_trans (below_size zB) hn_)), hk_.2, Or.elim hk_.1 (fun hs_ => hs_.2.1) (fun hn_ => (Kd.fresh' (Kd.N_lt (by (with_reducible repeat (first | apply Kd.N_alloc | apply Kd.N_drewN | apply Kd.N_drew)); exact HO739.out)) k_ hn_)), Or.elim hk_.1 (fun hs_ => hs_.2.2) (fun hn_ => (Kd.freshB (g := gb736) (o := .cells #[.int .i64 a0_0, .slice A0_1 l0_1.length c0_1] 30 (0, 0)) (zK BK736.out) k_ hn_))⟩)) (below_size zB))
         replace HO739 := zM (Kd.N_elder' (by (with_reducible repeat (first | apply Kd.N_alloc | apply Kd.N_drewN | apply Kd.N_drew)); exact HO739.out) (Kd.R_base ho1) hb)
         have HO749 := zM (Kd.R_lower (Kd.R_newM (M := fun k_ => (w.heap.size ≤ k_)) (Kd.R_mono (ok' := fun k_ => True) ho1 (fun _ hk_ => trivial)) (below_size zB) (fun k_ h_ => h_)) (below_size zB))
         replace BK736 := zM (blk_below (g := gb736) (o := .cells #[.int .i64 a0_0, .slice A0_1 l0_1.length c0_1] 30 (0, 0)) (zK BK736.out) hb)
         replace HB := zM (below_step zB hb)
         (try clear hb)
         (try clear hb2)
         (try clear hk)
         (try clear hi)
         (try clear ho0)
         (try clear ho1)
         refine hK.out _ _ ⟨(blk_cell BK736.out 0).trans rfl, (blk_cell BK736.out 1).trans rfl⟩ (fun hHeld => ?_)
         clear hK K
         refine zn 21 ?_
         refine one_ (i := 6) (N := some 7) #[true, true, true, true, true, true, true, false] rfl rfl (one_of HT_.out (by kernel_rfl)) (by decide) (fun K hK => ?_)
         refine box_step ?hg (N := 7) ?hd (cs := #[.slice none 0 0, .slice none 0 0]) (t := 52) ?hr ?_; (case hd => rfl); (case hg => rfl); (case hr => first | (go_simp; done) | (go_simp; rfl))
         intro gb750 hg w17 hbox hb
         replace HO739 := zM (Kd.N_below (Kd.N_elderB (by (with_reducible repeat (first | apply Kd.N_alloc | apply Kd.N_drewN | apply Kd.N_drew)); exact HO739.out) gb750 (Nat.le_of_eq hg.symm)) hb)
         replace HO743 := zM (Kd.N_below (Kd.N_elderB (by (with_reducible repeat (first | apply Kd.N_alloc | apply Kd.N_drewN | apply Kd.N_drew)); exact HO743.out) gb750 (Nat.le_of_eq hg.symm)) hb)
         replace HO746 := zM (Kd.V_below (Kd.V_elderB (by (with_reducible repeat (first | apply Kd.V_alloc | apply Kd.V_drewN | apply Kd.V_drew)); exact HO746.out) gb750 (Nat.le_of_eq hg.symm)) hb)
         replace HO749 := zM (Kd.R_below (zR HO749.out) hb)
         have BK750 := zM (hbox)
         have GW750 := zM ((by rw [hg]; exact (below_size zB) : w.heap.size ≤ gb750))
         have GE750 := zM ((by rw [hg]; exact (below_size zB) : w.heap.size ≤ gb750))
         replace HB := zM (below_step zB hb)
         have NB736_750 := zM ((by rw [hg]; exact Nat.ne_of_lt (blk_lt (g := gb736) (o := .cells #[.int .i64 a0_0, .slice A0_1 l0_1.length c0_1] 30 (0, 0)) (zK BK736.out)) : gb736 ≠ gb750))
         have NB750_736 := zM ((by rw [hg]; exact Nat.ne_of_gt (blk_lt (g := gb736) (o := .cells #[.int .i64 a0_0, .slice A0_1 l0_1.length c0_1] 30 (0, 0)) (zK BK736.out)) : gb750 ≠ gb736))
         replace BK736 := zM (blk_below (g := gb736) (o := .cells #[.int .i64 a0_0, .slice A0_1 l0_1.length c0_1] 30 (0, 0)) (zK BK736.out) hb)
         clear hb hbox hg
         refine hK.out _ _ ⟨(blk_cell BK736.out 0).trans rfl, (blk_cell BK736.out 1).trans rfl⟩ (fun hHeld => ?_)
         clear hK K
         refine zn 7 ?_
         exact norm_ (by simp only [putAll, Act.put, List.setIfInBounds_toArray, List.set_cons_zero, List.set_cons_succ]) (hCont (.slice Ao15 t741.length co15, v745, v748, gb750) _ ⟨hHeld, (by (with_reducible repeat (first | apply Kd.N_alloc | apply Kd.N_drewN | apply Kd.N_drew)); exact Kd.N_mono HO739.out (fun _ hk => ⟨hk.1.1.1.1, ⟨hk.1.1.2, ⟨hk.1.2, ⟨hk.1.1.1.2, hk.2⟩⟩⟩⟩)), (by (with_reducible repeat (first | apply Kd.N_alloc | apply Kd.N_drewN | apply Kd.N_drew)); exact Kd.N_mono HO743.out (fun _ hk => ⟨hk.1.1.1, ⟨hk.1.1.2.1, ⟨hk.1.2, ⟨hk.1.1.2.2, hk.2⟩⟩⟩⟩)), (by (with_reducible repeat (first | apply Kd.V_alloc | apply Kd.V_drewN | apply Kd.V_drew)); exact Kd.V_mono HO746.out (fun _ hk => ⟨hk.1.1, ⟨hk.1.2.2.1, ⟨hk.1.2.1, ⟨hk.1.2.2.2, hk.2⟩⟩⟩⟩)), (by (with_reducible repeat (first | apply Kd.R_alloc | apply Kd.R_drewN | apply Kd.R_drew)); exact Kd.R_mono HO749.out (fun _ hk => hk.1)), (zK BK736.out), (zK BK750.out), GW750.out, GE750.out, NB736_750.out, NB750_736.out, zB⟩)
       · skip
         refine box_step ?hg (N := 7) ?hd (cs := #[.slice none 0 0, .slice none 0 0]) (t := 52) ?hr ?_; (case hd => rfl); (case hg => rfl); (case hr => first | (go_simp; done) | (go_simp; rfl))
         intro gb750 hg w15 hbox hb
         replace HO739 := zM (Kd.N_below (Kd.N_elderB (by (with_reducible repeat (first | apply Kd.N_alloc | apply Kd.N_drewN | apply Kd.N_drew)); exact HO739.out) gb750 (Nat.le_of_eq hg.symm)) hb)
         replace HO743 := zM (Kd.N_below (Kd.N_elderB (by (with_reducible repeat (first | apply Kd.N_alloc | apply Kd.N_drewN | apply Kd.N_drew)); exact HO743.out) gb750 (Nat.le_of_eq hg.symm)) hb)
         have BK750 := zM (hbox)
         have GW750 := zM ((by rw [hg]; exact (below_size zB) : w.heap.size ≤ gb750))
         have GE750 := zM ((by rw [hg]; exact (below_size zB) : w.heap.size ≤ gb750))
         replace HB := zM (below_step zB hb)
         have NB736_750 := zM ((by rw [hg]; exact Nat.ne_of_lt (blk_lt (g := gb736) (o := .cells #[.int .i64 a0_0, .slice A0_1 l0_1.length c0_1] 30 (0, 0)) (zK BK736.out)) : gb736 ≠ gb750))
         have NB750_736 := zM ((by rw [hg]; exact Nat.ne_of_gt (blk_lt (g := gb736) (o := .cells #[.int .i64 a0_0, .slice A0_1 l0_1.length c0_1] 30 (0, 0)) (zK BK736.out)) : gb750 ≠ gb736))
         replace BK736 := zM (blk_below (g := gb736) (o := .cells #[.int .i64 a0_0, .slice A0_1 l0_1.length c0_1] 30 (0, 0)) (zK BK736.out) hb)
         clear hb hbox hg
         obtain ⟨Ao16, co16, eo16⟩ := Kd.N_slice HO743.out
         (first | subst eo16 | (injection eo16 with f1_ f2_ f3_; have f4_ := f1_.symm; have f5_ := f3_.symm; clear f1_ f2_ f3_; subst f4_; subst f5_))
         refine hK.out _ _ ⟨(blk_cell BK736.out 0).trans rfl, (blk_cell BK736.out 1).trans rfl⟩ (fun hHeld => ?_)
         clear hK K
         refine zn 7 ?_
         refine zg HT_ 5 21 Tryz.func33 #[.agg #[.int .i64 a0_0, .slice A0_1 l0_1.length c0_1], .int .i64 0, .slice Ao16 t741.length co16] (fun K hK => ?_)
         with_reducible refine (spec_l3Space.calls k a0_0 _ _ l0_1 0 (fun k_ => (((w.heap.size ≤ k_) ∧ (some k_ ≠ (v738 : Value).ownBlock ∧ k_ ≠ gb736)) ∧ k_ ≠ gb750)) _ _ t741 t744 t747 _ ?side1 ?side2 ?side3 A6.out).mono ?_
         (case side1 => exact zC (Kd.C_below HR0_1.out HB.out))
         (case side2 => exact HC0_1.out)
         (case side3 => exact Kd.N_V (HO743.out))
         rintro e w17 ⟨v745, v748, rfl, ho0, ho1, hb⟩
         refine ⟨_, rfl, ?_⟩
         replace HO743 := zM (Kd.N_elder' (by (with_reducible repeat (first | apply Kd.N_alloc | apply Kd.N_drewN | apply Kd.N_drew)); exact HO743.out) (Kd.R_base ho1) hb)
         have HO746 := zM (Kd.V_lower (Kd.V_mono (ok' := fun k_ => (w.heap.size ≤ k_) ∧ some k_ ≠ (v748 : Value).ownBlock ∧ some k_ ≠ (v738 : Value).ownBlock ∧ k_ ≠ gb736 ∧ k_ ≠ gb750) ho0 (fun k_ hk_ => ⟨Or.elim hk_.1 (fun hs_ => hs_.1.1) (fun hn_ => (Nat.le_trans (below_size zB) hn_)), hk_.2, Or.elim hk_.1 (fun hs_ => hs_.1.2.1) (fun hn_ => (Kd.fresh' (Kd.N_lt (by (with_reducible repeat (first | apply Kd.N_alloc | apply Kd.N_drewN | apply Kd.N_drew)); exact HO739.out)) k_ hn_)), Or.elim hk_.1 (fun hs_ => hs_.1.2.2) (fun hn_ => (Kd.freshB (g := gb736) (o := .cells #[.int .i64 a0_0, .slice A0_1 l0_1.length c0_1] 30 (0, 0)) (zK BK736.out) k_ hn_)), Or.elim hk_.1 (fun hs_ => hs_.2) (fun hn_ => (Kd.freshB (g := gb750) (o := .cells #[.slice none 0 0, .slice none 0 0] 52 (0, 0)) (zK BK750.out) k_ hn_))⟩)) (below_size zB))
         replace HO739 := zM (Kd.N_elder' (by (with_reducible repeat (first | apply Kd.N_alloc | apply Kd.N_drewN | apply Kd.N_drew)); exact HO739.out) (Kd.R_base ho1) hb)
         have HO749 := zM (Kd.R_lower (Kd.R_newM (M := fun k_ => (w.heap.size ≤ k_)) (Kd.R_mono (ok' := fun k_ => True) ho1 (fun _ hk_ => trivial)) (below_size zB) (fun k_ h_ => h_)) (below_size zB))
         replace BK736 := zM (blk_below (g := gb736) (o := .cells #[.int .i64 a0_0, .slice A0_1 l0_1.length c0_1] 30 (0, 0)) (zK BK736.out) hb)
         replace BK750 := zM (blk_below (g := gb750) (o := .cells #[.slice none 0 0, .slice none 0 0] 52 (0, 0)) (zK BK750.out) hb)
         replace HB := zM (below_step zB hb)
         (try clear hb)
         (try clear hb2)
         (try clear hk)
         (try clear hi)
         (try clear ho0)
         (try clear ho1)
         refine hK.out _ _ ⟨(blk_cell BK736.out 0).trans rfl, (blk_cell BK736.out 1).trans rfl⟩ (fun hHeld => ?_)
         clear hK K
         refine zn 21 ?_
         exact norm_ (by simp only [putAll, Act.put, List.setIfInBounds_toArray, List.set_cons_zero, List.set_cons_succ]) (hCont (.slice Ao16 t741.length co16, v745, v748, gb750) _ ⟨hHeld, (by (with_reducible repeat (first | apply Kd.N_alloc | apply Kd.N_drewN | apply Kd.N_drew)); exact Kd.N_mono HO739.out (fun _ hk => ⟨hk.1.1.1.1, ⟨hk.1.1.2, ⟨hk.2, ⟨hk.1.1.1.2, hk.1.2⟩⟩⟩⟩)), (by (with_reducible repeat (first | apply Kd.N_alloc | apply Kd.N_drewN | apply Kd.N_drew)); exact Kd.N_mono HO743.out (fun _ hk => ⟨hk.1.1.1, ⟨hk.1.1.2.1, ⟨hk.2, ⟨hk.1.1.2.2, hk.1.2⟩⟩⟩⟩)), (by (with_reducible repeat (first | apply Kd.V_alloc | apply Kd.V_drewN | apply Kd.V_drew)); exact Kd.V_mono HO746.out (fun _ hk => ⟨hk.1, ⟨hk.2.2.1, ⟨hk.2.1, ⟨hk.2.2.2.1, hk.2.2.2.2⟩⟩⟩⟩)), (by (with_reducible repeat (first | apply Kd.R_alloc | apply Kd.R_drewN | apply Kd.R_drew)); exact Kd.R_mono HO749.out (fun _ hk => hk.1)), (zK BK736.out), (zK BK750.out), GW750.out, GE750.out, NB736_750.out, NB750_736.out, zB⟩)
     · skip
       refine box_step ?hg (N := 7) ?hd (cs := #[.slice none 0 0, .slice none 0 0]) (t := 52) ?hr ?_; (case hd => rfl); (case hg => rfl); (case hr => first | (go_simp; done) | (go_simp; rfl))
       intro gb750 hg w14 hbox hb
       replace HO739 := zM (Kd.N_below (Kd.N_elderB (by (with_reducible repeat (first | apply Kd.N_alloc | apply Kd.N_drewN | apply Kd.N_drew)); exact HO739.out) gb750 (Nat.le_of_eq hg.symm)) hb)
       have BK750 := zM (hbox)
       have GW750 := zM ((by rw [hg]; exact (below_size zB) : w.heap.size ≤ gb750))
       have GE750 := zM ((by rw [hg]; exact (below_size zB) : w.heap.size ≤ gb750))
       replace HB := zM (below_step zB hb)
       have NB736_750 := zM ((by rw [hg]; exact Nat.ne_of_lt (blk_lt (g := gb736) (o := .cells #[.int .i64 a0_0, .slice A0_1 l0_1.length c0_1] 30 (0, 0)) (zK BK736.out)) : gb736 ≠ gb750))
       have NB750_736 := zM ((by rw [hg]; exact Nat.ne_of_gt (blk_lt (g := gb736) (o := .cells #[.int .i64 a0_0, .slice A0_1 l0_1.length c0_1] 30 (0, 0)) (zK BK736.out)) : gb750 ≠ gb736))
       replace BK736 := zM (blk_below (g := gb736) (o := .cells #[.int .i64 a0_0, .slice A0_1 l0_1.length c0_1] 30 (0, 0)) (zK BK736.out) hb)
       clear hb hbox hg
       refine hK.out _ _ ⟨(blk_cell BK736.out 0).trans rfl, (blk_cell BK736.out 1).trans rfl⟩ (fun hHeld => ?_)
       clear hK K
       refine zn 7 ?_
       refine zg HT_ 4 20 Tryz.func34 #[.agg #[.int .i64 a0_0, .slice A0_1 l0_1.length c0_1], .int .i64 a1, .int .i64 a1] (fun K hK => ?_)
       with_reducible refine (spec_l3Sets.calls k a0_0 _ _ l0_1 a1 a1 t741 _ ?side1 ?side2 A5.out).mono ?_
       (case side1 => exact zC (Kd.C_below HR0_1.out HB.out))
       (case side2 => exact HC0_1.out)
       rintro e w15 ⟨v742, rfl, ho0, hb⟩
       refine ⟨_, rfl, ?_⟩
       have HO743 := zM (Kd.N_lower (Kd.N_mono (ok' := fun k_ => (w.heap.size ≤ k_) ∧ some k_ ≠ (v738 : Value).ownBlock ∧ k_ ≠ gb736 ∧ k_ ≠ gb750) ho0 (fun k_ hk_ => ⟨(Nat.le_trans (below_size zB) hk_), (Kd.fresh' (Kd.N_lt (by (with_reducible repeat (first | apply Kd.N_alloc | apply Kd.N_drewN | apply Kd.N_drew)); exact HO739.out)) k_ hk_), (Kd.freshB (g := gb736) (o := .cells #[.int .i64 a0_0, .slice A0_1 l0_1.length c0_1] 30 (0, 0)) (zK BK736.out) k_ hk_), (Kd.freshB (g := gb750) (o := .cells #[.slice none 0 0, .slice none 0 0] 52 (0, 0)) (zK BK750.out) k_ hk_)⟩)) (below_size zB))
       replace HO739 := zM (Kd.N_elder' (by (with_reducible repeat (first | apply Kd.N_alloc | apply Kd.N_drewN | apply Kd.N_drew)); exact HO739.out) (by first | exact Kd.N_base ho0 | exact Kd.S_base ho0) hb)
       replace BK736 := zM (blk_below (g := gb736) (o := .cells #[.int .i64 a0_0, .slice A0_1 l0_1.length c0_1] 30 (0, 0)) (zK BK736.out) hb)
       replace BK750 := zM (blk_below (g := gb750) (o := .cells #[.slice none 0 0, .slice none 0 0] 52 (0, 0)) (zK BK750.out) hb)
       replace HB := zM (below_step zB hb)
       (try clear hb)
       (try clear hb2)
       (try clear hk)
       (try clear hi)
       (try clear ho0)
       obtain ⟨Ao16, co16, eo16⟩ := Kd.N_slice HO743.out
       (first | subst eo16 | (injection eo16 with f1_ f2_ f3_; have f4_ := f1_.symm; have f5_ := f3_.symm; clear f1_ f2_ f3_; subst f4_; subst f5_))
       refine hK.out _ _ ⟨(blk_cell BK736.out 0).trans rfl, (blk_cell BK736.out 1).trans rfl⟩ (fun hHeld => ?_)
       clear hK K
       refine zn 20 ?_
       refine zg HT_ 5 21 Tryz.func33 #[.agg #[.int .i64 a0_0, .slice A0_1 l0_1.length c0_1], .int .i64 0, .slice Ao16 t741.length co16] (fun K hK => ?_)
       with_reducible refine (spec_l3Space.calls k a0_0 _ _ l0_1 0 (fun k_ => ((w.heap.size ≤ k_) ∧ (some k_ ≠ (v738 : Value).ownBlock ∧ (k_ ≠ gb736 ∧ k_ ≠ gb750)))) _ _ t741 t744 t747 _ ?side1 ?side2 ?side3 A6.out).mono ?_
       (case side1 => exact zC (Kd.C_below HR0_1.out HB.out))
       (case side2 => exact HC0_1.out)
       (case side3 => exact Kd.N_V (HO743.out))
       rintro e w17 ⟨v745, v748, rfl, ho0, ho1, hb⟩
       refine ⟨_, rfl, ?_⟩
       replace HO743 := zM (Kd.N_elder' (by (with_reducible repeat (first | apply Kd.N_alloc | apply Kd.N_drewN | apply Kd.N_drew)); exact HO743.out) (Kd.R_base ho1) hb)
       have HO746 := zM (Kd.V_lower (Kd.V_mono (ok' := fun k_ => (w.heap.size ≤ k_) ∧ some k_ ≠ (v748 : Value).ownBlock ∧ some k_ ≠ (v738 : Value).ownBlock ∧ k_ ≠ gb736 ∧ k_ ≠ gb750) ho0 (fun k_ hk_ => ⟨Or.elim hk_.1 (fun hs_ => hs_.1) (fun hn_ => (Nat.le_trans (below_size zB) hn_)), hk_.2, Or.elim hk_.1 (fun hs_ => hs_.2.1) (fun hn_ => (Kd.fresh' (Kd.N_lt (by (with_reducible repeat (first | apply Kd.N_alloc | apply Kd.N_drewN | apply Kd.N_drew)); exact HO739.out)) k_ hn_)), Or.elim hk_.1 (fun hs_ => hs_.2.2.1) (fun hn_ => (Kd.freshB (g := gb736) (o := .cells #[.int .i64 a0_0, .slice A0_1 l0_1.length c0_1] 30 (0, 0)) (zK BK736.out) k_ hn_)), Or.elim hk_.1 (fun hs_ => hs_.2.2.2) (fun hn_ => (Kd.freshB (g := gb750) (o := .cells #[.slice none 0 0, .slice none 0 0] 52 (0, 0)) (zK BK750.out) k_ hn_))⟩)) (below_size zB))
       replace HO739 := zM (Kd.N_elder' (by (with_reducible repeat (first | apply Kd.N_alloc | apply Kd.N_drewN | apply Kd.N_drew)); exact HO739.out) (Kd.R_base ho1) hb)
       have HO749 := zM (Kd.R_lower (Kd.R_newM (M := fun k_ => (w.heap.size ≤ k_)) (Kd.R_mono (ok' := fun k_ => True) ho1 (fun _ hk_ => trivial)) (below_size zB) (fun k_ h_ => h_)) (below_size zB))
       replace BK736 := zM (blk_below (g := gb736) (o := .cells #[.int .i64 a0_0, .slice A0_1 l0_1.length c0_1] 30 (0, 0)) (zK BK736.out) hb)
       replace BK750 := zM (blk_below (g := gb750) (o := .cells #[.slice none 0 0, .slice none 0 0] 52 (0, 0)) (zK BK750.out) hb)
       replace HB := zM (below_step zB hb)
       (try clear hb)
       (try clear hb2)
       (try clear hk)
       (try clear hi)
       (try clear ho0)
       (try clear ho1)
       refine hK.out _ _ ⟨(blk_cell BK736.out 0).trans rfl, (blk_cell BK736.out 1).trans rfl⟩ (fun hHeld => ?_)
       clear hK K
       refine zn 21 ?_
       exact norm_ (by simp only [putAll, Act.put, List.setIfInBounds_toArray, List.set_cons_zero, List.set_cons_succ]) (hCont (.slice Ao16 t741.length co16, v745, v748, gb750) _ ⟨hHeld, (by (with_reducible repeat (first | apply Kd.N_alloc | apply Kd.N_drewN | apply Kd.N_drew)); exact Kd.N_mono HO739.out (fun _ hk => ⟨hk.1.1.1.1, ⟨hk.1.2, ⟨hk.2, ⟨hk.1.1.1.2, hk.1.1.2⟩⟩⟩⟩)), (by (with_reducible repeat (first | apply Kd.N_alloc | apply Kd.N_drewN | apply Kd.N_drew)); exact Kd.N_mono HO743.out (fun _ hk => ⟨hk.1.1, ⟨hk.1.2.1, ⟨hk.2, ⟨hk.1.2.2.1, hk.1.2.2.2⟩⟩⟩⟩)), (by (with_reducible repeat (first | apply Kd.V_alloc | apply Kd.V_drewN | apply Kd.V_drew)); exact Kd.V_mono HO746.out (fun _ hk => ⟨hk.1, ⟨hk.2.2.1, ⟨hk.2.1, ⟨hk.2.2.2.1, hk.2.2.2.2⟩⟩⟩⟩)), (by (with_reducible repeat (first | apply Kd.R_alloc | apply Kd.R_drewN | apply Kd.R_drew)); exact Kd.R_mono HO749.out (fun _ hk => hk.1)), (zK BK736.out), (zK BK750.out), GW750.out, GE750.out, NB736_750.out, NB750_736.out, zB⟩)
   rintro ⟨v742, v745, v748, gb750⟩ w18 ⟨hS_, h0_, h1_, h2_, h3_, h4_, h5_, h6_, h7_, h8_, h9_, h10_⟩
   have n0_ : Aside0 (Kd.N (Kd.slice 3 (Kd.int .i64)) 25 w18 w.heap.size (fun k_ => (w.heap.size ≤ k_) ∧ some k_ ≠ (v742 : Value).ownBlock ∧ some k_ ≠ (v748 : Value).ownBlock ∧ k_ ≠ gb736 ∧ k_ ≠ gb750) v738 y737) := ⟨h0_⟩
   have n1_ : Aside0 (Kd.N (Kd.slice 3 (Kd.int .i64)) 25 w18 w.heap.size (fun k_ => (w.heap.size ≤ k_) ∧ some k_ ≠ (v738 : Value).ownBlock ∧ some k_ ≠ (v748 : Value).ownBlock ∧ k_ ≠ gb736 ∧ k_ ≠ gb750) v742 t741) := ⟨h1_⟩
   have n2_ : Aside0 (Kd.V (Kd.slice 3 (Kd.int .i64)) 25 w18 w.heap.size (fun k_ => (w.heap.size ≤ k_) ∧ some k_ ≠ (v738 : Value).ownBlock ∧ some k_ ≠ (v748 : Value).ownBlock ∧ k_ ≠ gb736 ∧ k_ ≠ gb750) v745 t744) := ⟨h2_⟩
   have n3_ : Aside0 (Kd.R k69 69 w18 w.heap.size (fun k_ => (w.heap.size ≤ k_)) v748 t747) := ⟨h3_⟩
   have n4_ : Aside0 (w18.heap[gb736]? = some (.cells #[.int .i64 a0_0, .slice A0_1 l0_1.length c0_1] 30 (0, 0))) := ⟨h4_⟩
   have n5_ : Aside0 (w18.heap[gb750]? = some (.cells #[.slice none 0 0, .slice none 0 0] 52 (0, 0))) := ⟨h5_⟩
   have n6_ : Aside0 (w.heap.size ≤ gb750) := ⟨h6_⟩
   have n7_ : Aside0 (w.heap.size ≤ gb750) := ⟨h7_⟩
   have n8_ : Aside0 (gb736 ≠ gb750) := ⟨h8_⟩
   have n9_ : Aside0 (gb750 ≠ gb736) := ⟨h9_⟩
   have n10_ : Aside0 (Below w.heap.size w w18) := ⟨h10_⟩
   clear HO739
   clear BK736
   clear HB
   clear h0_ h1_ h2_ h3_ h4_ h5_ h6_ h7_ h8_ h9_ h10_
   have HO739 := n0_
   have HO743 := n1_
   have HO746 := n2_
   have HO749 := n3_
   have BK736 := n4_
   have BK750 := n5_
   have GW750 := n6_
   have GE750 := n7_
   have NB736_750 := n8_
   have NB750_736 := n9_
   have HB := n10_
   clear n0_ n1_ n2_ n3_ n4_ n5_ n6_ n7_ n8_ n9_ n10_
   have hHeld : w18.cell? ⟨gb736, 0, none⟩ = some (.int .i64 a0_0) ∧ w18.cell? ⟨gb736, 1, none⟩ = some (.slice A0_1 l0_1.length c0_1) := hS_
   obtain ⟨Ao19, co19, eo19⟩ := Kd.V_slice HO746.out
   (first | subst eo19 | (injection eo19 with f1_ f2_ f3_; have f4_ := f1_.symm; have f5_ := f3_.symm; clear f1_ f2_ f3_; subst f4_; subst f5_))
   obtain ⟨Ao21, co21, eo21⟩ := Kd.R_slice HO749.out
   (first | subst eo21 | (injection eo21 with f1_ f2_ f3_; have f4_ := f1_.symm; have f5_ := f3_.symm; clear f1_ f2_ f3_; subst f4_; subst f5_))
   refine norm_ (a' := ?_) ?_ ?_
   rotate_left
   · simp only [putAll, Act.put, List.setIfInBounds_toArray, List.set_cons_zero, List.set_cons_succ]
     rfl
   refine one_ (i := 7) (N := none) #[true, true, true, true, true, true, true, true] rfl rfl (one_of HT_.out (by kernel_rfl)) (by decide) (fun K hK => ?_)
   have hs20 : w18.cell? ⟨gb750, 0, none⟩ = some (.slice none 0 0) := (blk_cell BK750.out 0).trans rfl
   have hfs20 := blk_frozen BK750.out 0
   have hns20_0 := NB736_750.out
   have hms20_0 := NB750_736.out
   have hs22 : w18.cell? ⟨gb750, 1, none⟩ = some (.slice none 0 0) := (blk_cell BK750.out 1).trans rfl
   have hfs22 := blk_frozen BK750.out 1
   have hns22_0 := NB736_750.out
   have hms22_0 := NB750_736.out
   refine skip_ (w1 := ?_) (by rfl) rfl ?_ ?_
   rotate_left
   · go_simp
     rfl
   refine hK.out _ _ ⟨((cell_far (p := ⟨gb750, _, none⟩) NB736_750.out _).trans (((cell_far (p := ⟨gb750, _, none⟩) NB736_750.out _).trans (hHeld.1)))), ((cell_far (p := ⟨gb750, _, none⟩) NB736_750.out _).trans (((cell_far (p := ⟨gb750, _, none⟩) NB736_750.out _).trans (hHeld.2))))⟩ (fun hHeld => ?_)
   clear hK K
   refine zo HT_ ?_
   have hnb23 := NB750_736.out
   have hnc23 := NB736_750.out
   have hcz24_0 := zy BK750 0
   have hcz24_1 := zy BK750 1
   have hfz24_0 := blk_frozen BK750.out 0
   have hfz24_1 := blk_frozen BK750.out 1
   try go_wp2_with (first | ((with_reducible refine gate_callee (f := 43) rfl ?_); refine zc 23 Tryz.func43 #[.agg #[.slice Ao19 t744.length co19, .slice Ao21 t747.length co21]] ?_; (with_reducible refine (spec_l2Lists.calls k _ _ t744 _ _ t747 t751 _ ?side1 ?side2 ?side3 ?side4 A7.out).mono ?_); (case side1 => refine (Kd.V_reads' (e := 25) (base := w.heap.size) (ok := fun k_ => ((w.heap.size ≤ k_) ∧ (some k_ ≠ (v738 : Value).ownBlock ∧ (some k_ ≠ (.slice Ao21 t747.length co21 : Value).ownBlock ∧ (k_ ≠ gb736 ∧ k_ ≠ gb750))))) (n := t744.length) (c := co19) ?_).2.2; exact (by (with_reducible repeat (first | apply Kd.V_alloc | apply Kd.V_drewN | apply Kd.V_drew)); exact (Kd.V_mono (Kd.V_far (p := ⟨gb750, 1, none⟩) (Kd.V_far (p := ⟨gb750, 0, none⟩) (Kd.V_mono HO746.out (fun k_ hk => (⟨hk, hk.2.2.2.2⟩ : _ ∧ k_ ≠ gb750))) (fun _ hk => hk.2) (.slice Ao19 t744.length co19)) (fun _ hk => hk.2) (.slice Ao21 t747.length co21)) (fun _ h_ => h_.1)))); (case side2 => exact (Kd.V_reads' HO746.out).2.1); (case side3 => refine (Kd.R_reads' (e := 69) (base := w.heap.size) (ok := fun k_ => (w.heap.size ≤ k_)) (n := t747.length) (c := co21) ?_).2.2; exact (by (with_reducible repeat (first | apply Kd.R_alloc | apply Kd.R_drewN | apply Kd.R_drew)); exact (Kd.R_mono (Kd.R_far (p := ⟨gb750, 1, none⟩) (Kd.R_far (p := ⟨gb750, 0, none⟩) (Kd.R_types HO749.out BK750.out (by decide)) (fun _ hk => hk.2) (.slice Ao19 t744.length co19)) (fun _ hk => hk.2) (.slice Ao21 t747.length co21)) (fun _ h_ => h_.1)))); (case side4 => exact (Kd.R_reads' HO749.out).2.1); rintro e w25 ⟨v752, rfl, ho0, hb⟩; refine ⟨_, rfl, ?_⟩; replace HO746 := zM (Kd.V_elder' (by (with_reducible repeat (first | apply Kd.V_alloc | apply Kd.V_drewN | apply Kd.V_drew)); exact (Kd.V_mono (Kd.V_far (p := ⟨gb750, 1, none⟩) (Kd.V_far (p := ⟨gb750, 0, none⟩) (Kd.V_mono HO746.out (fun k_ hk => (⟨hk, hk.2.2.2.2⟩ : _ ∧ k_ ≠ gb750))) (fun _ hk => hk.2) (.slice Ao19 t744.length co19)) (fun _ hk => hk.2) (.slice Ao21 t747.length co21)) (fun _ h_ => h_.1))) (by first | exact Kd.N_base ho0 | exact Kd.S_base ho0) hb); have HO753 := zM (Kd.N_lower (Kd.N_mono (ok' := fun k_ => (w.heap.size ≤ k_) ∧ some k_ ≠ (v738 : Value).ownBlock ∧ some k_ ≠ (v742 : Value).ownBlock ∧ some k_ ≠ (.slice Ao21 t747.length co21 : Value).ownBlock ∧ k_ ≠ gb736 ∧ k_ ≠ gb750) (Kd.S_N (Kd.S_bound ho0)) (fun k_ hk_ => ⟨(Nat.le_trans (below_size zB) hk_.2.1), (Kd.fresh' (Kd.N_lt (by (with_reducible repeat (first | apply Kd.N_alloc | apply Kd.N_drewN | apply Kd.N_drew)); exact (Kd.N_mono (Kd.N_far (p := ⟨gb750, 1, none⟩) (Kd.N_far (p := ⟨gb750, 0, none⟩) (Kd.N_mono HO739.out (fun k_ hk => (⟨hk, hk.2.2.2.2⟩ : _ ∧ k_ ≠ gb750))) (fun _ hk => hk.2) (.slice Ao19 t744.length co19)) (fun _ hk => hk.2) (.slice Ao21 t747.length co21)) (fun _ h_ => h_.1)))) k_ hk_.2.1), (Kd.fresh' (Kd.N_lt (by (with_reducible repeat (first | apply Kd.N_alloc | apply Kd.N_drewN | apply Kd.N_drew)); exact (Kd.N_mono (Kd.N_far (p := ⟨gb750, 1, none⟩) (Kd.N_far (p := ⟨gb750, 0, none⟩) (Kd.N_mono HO743.out (fun k_ hk => (⟨hk, hk.2.2.2.2⟩ : _ ∧ k_ ≠ gb750))) (fun _ hk => hk.2) (.slice Ao19 t744.length co19)) (fun _ hk => hk.2) (.slice Ao21 t747.length co21)) (fun _ h_ => h_.1)))) k_ hk_.2.1), (Kd.fresh' (Kd.R_lt (by (with_reducible repeat (first | apply Kd.R_alloc | apply Kd.R_drewN | apply Kd.R_drew)); exact (Kd.R_mono (Kd.R_far (p := ⟨gb750, 1, none⟩) (Kd.R_far (p := ⟨gb750, 0, none⟩) (Kd.R_types HO749.out BK750.out (by decide)) (fun _ hk => hk.2) (.slice Ao19 t744.length co19)) (fun _ hk => hk.2) (.slice Ao21 t747.length co21)) (fun _ h_ => h_.1)))) k_ hk_.2.1), (Kd.freshB (g := gb736) (o := .cells #[.int .i64 a0_0, .slice A0_1 l0_1.length c0_1] 30 (0, 0)) (by (with_reducible repeat (first | refine blk_drewN ?_ _ | refine blk_drew ?_ | refine blk_alloc ?_ _)); refine blk_far ?_ NB736_750.out _; (with_reducible repeat (first | refine blk_drewN ?_ _ | refine blk_drew ?_ | refine blk_alloc ?_ _)); refine blk_far ?_ NB736_750.out _; (with_reducible repeat (first | refine blk_drewN ?_ _ | refine blk_drew ?_ | refine blk_alloc ?_ _)); exact BK736.out) k_ hk_.2.1), (Kd.freshB (g := gb750) (o := .cells #[.slice Ao19 t744.length co19, .slice Ao21 t747.length co21] 52 (0, 0)) (by (with_reducible repeat (first | refine blk_drewN ?_ _ | refine blk_drew ?_ | refine blk_alloc ?_ _)); refine blk_put (cs := #[.slice Ao19 t744.length co19, .slice none 0 0]) ?_ 1 _ rfl; (with_reducible repeat (first | refine blk_drewN ?_ _ | refine blk_drew ?_ | refine blk_alloc ?_ _)); refine blk_put (cs := #[.slice none 0 0, .slice none 0 0]) ?_ 0 _ rfl; (with_reducible repeat (first | refine blk_drewN ?_ _ | refine blk_drew ?_ | refine blk_alloc ?_ _)); exact BK750.out) k_ hk_.2.1)⟩)) (below_size zB)); replace HO739 := zM (Kd.N_elder' (by (with_reducible repeat (first | apply Kd.N_alloc | apply Kd.N_drewN | apply Kd.N_drew)); exact (Kd.N_mono (Kd.N_far (p := ⟨gb750, 1, none⟩) (Kd.N_far (p := ⟨gb750, 0, none⟩) (Kd.N_mono HO739.out (fun k_ hk => (⟨hk, hk.2.2.2.2⟩ : _ ∧ k_ ≠ gb750))) (fun _ hk => hk.2) (.slice Ao19 t744.length co19)) (fun _ hk => hk.2) (.slice Ao21 t747.length co21)) (fun _ h_ => h_.1))) (by first | exact Kd.N_base ho0 | exact Kd.S_base ho0) hb); replace HO743 := zM (Kd.N_elder' (by (with_reducible repeat (first | apply Kd.N_alloc | apply Kd.N_drewN | apply Kd.N_drew)); exact (Kd.N_mono (Kd.N_far (p := ⟨gb750, 1, none⟩) (Kd.N_far (p := ⟨gb750, 0, none⟩) (Kd.N_mono HO743.out (fun k_ hk => (⟨hk, hk.2.2.2.2⟩ : _ ∧ k_ ≠ gb750))) (fun _ hk => hk.2) (.slice Ao19 t744.length co19)) (fun _ hk => hk.2) (.slice Ao21 t747.length co21)) (fun _ h_ => h_.1))) (by first | exact Kd.N_base ho0 | exact Kd.S_base ho0) hb); replace HO749 := zM (Kd.R_below (by (with_reducible repeat (first | apply Kd.R_alloc | apply Kd.R_drewN | apply Kd.R_drew)); exact (Kd.R_mono (Kd.R_far (p := ⟨gb750, 1, none⟩) (Kd.R_far (p := ⟨gb750, 0, none⟩) (Kd.R_types HO749.out BK750.out (by decide)) (fun _ hk => hk.2) (.slice Ao19 t744.length co19)) (fun _ hk => hk.2) (.slice Ao21 t747.length co21)) (fun _ h_ => h_.1))) hb); replace BK736 := zM (blk_below (g := gb736) (o := .cells #[.int .i64 a0_0, .slice A0_1 l0_1.length c0_1] 30 (0, 0)) (by (with_reducible repeat (first | refine blk_drewN ?_ _ | refine blk_drew ?_ | refine blk_alloc ?_ _)); refine blk_far ?_ NB736_750.out _; (with_reducible repeat (first | refine blk_drewN ?_ _ | refine blk_drew ?_ | refine blk_alloc ?_ _)); refine blk_far ?_ NB736_750.out _; (with_reducible repeat (first | refine blk_drewN ?_ _ | refine blk_drew ?_ | refine blk_alloc ?_ _)); exact BK736.out) hb); replace BK750 := zM (blk_below (g := gb750) (o := .cells #[.slice Ao19 t744.length co19, .slice Ao21 t747.length co21] 52 (0, 0)) (by (with_reducible repeat (first | refine blk_drewN ?_ _ | refine blk_drew ?_ | refine blk_alloc ?_ _)); refine blk_put (cs := #[.slice Ao19 t744.length co19, .slice none 0 0]) ?_ 1 _ rfl; (with_reducible repeat (first | refine blk_drewN ?_ _ | refine blk_drew ?_ | refine blk_alloc ?_ _)); refine blk_put (cs := #[.slice none 0 0, .slice none 0 0]) ?_ 0 _ rfl; (with_reducible repeat (first | refine blk_drewN ?_ _ | refine blk_drew ?_ | refine blk_alloc ?_ _)); exact BK750.out) hb); replace HB := zM (below_step zB hb); (try clear hb); (try clear hb2); (try clear hk); (try clear hi); (try clear ho0)))
   go_loopg [6, 9] k (fun kq v6 v9 w' => ∃ (x6_1 : List (List Int)) (x9_1 : Int), v9 = .int .i64 x9_1 ∧ Aside0 (spec_StuckSets.l0 kq x6_1 t751 x9_1 t744 t747 = some (r1, r2)) ∧ Aside0 (kq ≤ k) ∧ Aside0 (Kd.N (Kd.slice 3 (Kd.int .i64)) 25 w' w.heap.size (fun k_ => (w.heap.size ≤ k_) ∧ some k_ ≠ (v752 : Value).ownBlock ∧ some k_ ≠ ((.slice Ao21 t747.length co21) : Value).ownBlock ∧ k_ ≠ gb736 ∧ k_ ≠ gb750) v6 x6_1) ∧ Aside0 (Kd.N (Kd.slice 3 (Kd.int .i64)) 25 w' w.heap.size (fun k_ => (w.heap.size ≤ k_) ∧ some k_ ≠ (v6 : Value).ownBlock ∧ some k_ ≠ ((.slice Ao21 t747.length co21) : Value).ownBlock ∧ k_ ≠ gb736 ∧ k_ ≠ gb750) v752 t751) ∧ Aside0 (Kd.V (Kd.slice 3 (Kd.int .i64)) 25 w' w.heap.size (fun k_ => (w.heap.size ≤ k_) ∧ some k_ ≠ (v6 : Value).ownBlock ∧ some k_ ≠ (v752 : Value).ownBlock ∧ some k_ ≠ ((.slice Ao21 t747.length co21) : Value).ownBlock ∧ k_ ≠ gb736 ∧ k_ ≠ gb750) (.slice Ao19 t744.length co19) t744) ∧ Aside0 (Kd.R k69 69 w' w.heap.size (fun k_ => (w.heap.size ≤ k_)) (.slice Ao21 t747.length co21) t747) ∧ Aside0 (w'.heap[gb736]? = some (.cells #[.int .i64 a0_0, (.slice A0_1 l0_1.length c0_1)] 30 (0, 0))) ∧ Aside0 (w'.heap[gb750]? = some (.cells #[(.slice Ao19 t744.length co19), (.slice Ao21 t747.length co21)] 52 (0, 0))) ∧ Aside0 (Below w.heap.size w w'))
   case atStart => exact ⟨(y737), (0), (by first | rfl | (simp; done) | (simp [*]; done)), H', ⟨Nat.le_refl _⟩, ⟨by (with_reducible repeat (first | apply Kd.N_alloc | apply Kd.N_drewN | apply Kd.N_drew)); exact Kd.N_mono HO739.out (fun _ hk => ⟨hk.1.1, ⟨hk.2, ⟨hk.1.2.2.1, ⟨hk.1.2.2.2.1, hk.1.2.2.2.2⟩⟩⟩⟩)⟩, ⟨by (with_reducible repeat (first | apply Kd.N_alloc | apply Kd.N_drewN | apply Kd.N_drew)); exact Kd.N_mono HO753.out (fun _ hk => ⟨hk.1, ⟨hk.2.1, ⟨hk.2.2.2.1, ⟨hk.2.2.2.2.1, hk.2.2.2.2.2⟩⟩⟩⟩)⟩, ⟨by (with_reducible repeat (first | apply Kd.V_alloc | apply Kd.V_drewN | apply Kd.V_drew)); exact Kd.V_mono HO746.out (fun _ hk => ⟨hk.1.1, ⟨hk.1.2.1, ⟨hk.2, ⟨hk.1.2.2.1, ⟨hk.1.2.2.2.1, hk.1.2.2.2.2⟩⟩⟩⟩⟩)⟩, ⟨zR HO749.out⟩, ⟨zK BK736.out⟩, ⟨zK BK750.out⟩, ⟨zB⟩⟩
   case round =>
    clear H'
    try clear c2
    try clear p2
    try clear c3
    try clear c4
    try clear c22
    try clear c23
    try clear hcz11_0
    try clear hcz11_1
    try clear hcz24_0
    try clear hcz24_1
    try clear hfz11_0
    try clear hfz11_1
    try clear hfz24_0
    try clear hfz24_1
    obtain ⟨x6_1, x9_1, rfl, HA, HK1, HO_6, HO_8, HO_751000, HO_751001, BK736, BK750, HB⟩ := hrel
    cases gk with
    | zero => exact absurd HA.out (by simp [spec_StuckSets.l0])
    | succ k1 =>
     have H := HA.out
     clear HA
     simp only [spec_StuckSets.l0] at H
     by_cases c26 : x9_1 < (t751.length : Int)
     · rw [if_pos c26] at H
       have c26b0 := decide_eq_true c26
       clear c26
       by_cases c27 : 0 ≤ x9_1
       · rw [if_pos c27] at H
         have c27b0 := decide_eq_true c27
         clear c27
         by_cases c28 : ((rd_L2 t751 x9_1).length : Int) = 0
         · rw [if_pos c28] at H
           have c28b0 : (((rd_L2 t751 x9_1).length : Int) == 0) = true := beq_iff_eq.mpr c28
           have c28b1 : (((rd_L2 t751 x9_1).length : Int) != 0) = false := bne_eq_false_iff_eq.mpr c28
           clear c28
           by_cases c29 : x9_1 < (t744.length : Int)
           · rw [if_pos c29] at H
             have c29b0 := decide_eq_true c29
             clear c29
             by_cases c30 : x6_1.length < 5864062014805
             · rw [if_pos c30] at H
               have LMc30 := Aside0.mk c30
               clear c30
               obtain ⟨y756, hy756⟩ : ∃ y_ : List (List Int), y_ = (x6_1 ++ [rd_L2 t744 x9_1]) := ⟨_, rfl⟩
               replace H : (spec_StuckSets.l0 k1 y756 t751 (wrap64 (x9_1 + 1)) t744 t747) = some (r1, r2) := by first | (rw [hy756]; with_reducible exact H) | (have H2_ := (Option.bind_some _ _).symm.trans H; rw [hy756]; with_reducible exact H2_) | (have H2_ := (Option.bind_some _ _).symm.trans H; with_reducible exact H2_) | with_reducible exact H | (rw [hy756]; exact H) | exact H
               have Ny756 := Aside0.mk hy756
               clear hy756
               have H' := Aside0.mk H
               clear H
               obtain ⟨Ao31, co31, eo31⟩ := Kd.N_slice HO_8.out
               subst eo31
               have p754 : 0 ≤ (x9_1 : Int) := of_decide_eq_true zA
               have q754 : x9_1 < (t751.length : Int) := of_decide_eq_true zA
               obtain ⟨ad754, A754_0, c754_0, e754, hx754_0, hl754_0, hi754_0⟩ := at_L2 (Kd.N_reads' HO_8.out).2.2 x9_1 p754 q754
               cases e754
               obtain ⟨ce754, hce754, hMe754, hcc754⟩ := Kd.N_get HO_8.out [] x9_1 p754 (by first | exact q754 | exact of_decide_eq_true zA | (have e_ := (Kd.N_reads' HO_8.out).1; omega))
               obtain ⟨ua754_0, uc754_0, rfl, ul754_0, ge754_0⟩ := Kd.FK_slice_open hMe754
               have hv754_0 := hcc754 0 _ rfl
               rw [Nat.add_zero, show ((Kd.slice 3 (Kd.int .i64))).sz = 1 from rfl, Nat.mul_one] at hv754_0
               replace hv754_0 := Option.some.inj (hv754_0.symm.trans hx754_0)
               injection hv754_0 with hva_ hvn_ hvc_
               rw [hva_] at ge754_0
               rw [hvc_] at ul754_0
               have HL754_0 := zM (show Kd.V (Kd.int .i64) 3 _ w.heap.size _ _ (rd_L2 t751 x9_1) from Kd.V_mk ul754_0 ge754_0)
               clear hva_ hvn_ hvc_ ge754_0 ul754_0
               clear hcc754 hce754
               have HR754_0 := Aside0.mk hi754_0
               have HC754_0 := Aside0.mk hl754_0
               clear hi754_0 hl754_0
               replace p754 := eq_true p754
               replace q754 := eq_true q754
               have hnb32 := NB750_736.out
               have hnc32 := NB736_750.out
               have hcz33_0 := zy BK750 0
               have hcz33_1 := zy BK750 1
               have hfz33_0 := blk_frozen BK750.out 0
               have hfz33_1 := blk_frozen BK750.out 1
               have p755 : 0 ≤ (x9_1 : Int) := of_decide_eq_true zA
               have q755 : x9_1 < (t744.length : Int) := of_decide_eq_true zA
               obtain ⟨ad755, A755_0, c755_0, e755, hx755_0, hl755_0, hi755_0⟩ := at_L2 (Kd.V_reads' HO_751000.out).2.2 x9_1 p755 q755
               cases e755
               obtain ⟨ce755, hce755, hMe755, hcc755⟩ := Kd.V_get HO_751000.out [] x9_1 p755 (by first | exact q755 | exact of_decide_eq_true zA | (have e_ := (Kd.V_reads' HO_751000.out).1; omega))
               obtain ⟨ua755_0, uc755_0, rfl, ul755_0, ge755_0⟩ := Kd.FK_slice_open hMe755
               have hv755_0 := hcc755 0 _ rfl
               rw [Nat.add_zero, show ((Kd.slice 3 (Kd.int .i64))).sz = 1 from rfl, Nat.mul_one] at hv755_0
               replace hv755_0 := Option.some.inj (hv755_0.symm.trans hx755_0)
               injection hv755_0 with hva_ hvn_ hvc_
               rw [hva_] at ge755_0
               rw [hvc_] at ul755_0
               have HL755_0 := zM (show Kd.V (Kd.int .i64) 3 _ w.heap.size _ _ (rd_L2 t744 x9_1) from Kd.V_mk ul755_0 ge755_0)
               clear hva_ hvn_ hvc_ ge755_0 ul755_0
               clear hcc755 hce755
               have HR755_0 := Aside0.mk hi755_0
               have HC755_0 := Aside0.mk hl755_0
               clear hi755_0 hl755_0
               replace p755 := eq_true p755
               replace q755 := eq_true q755
               go_wp2_with (first | ((with_reducible refine gate_builtin (b := .append) (xs := #[.tmp 36, .tmp 42]) rfl ?_); at_builtin; refine Kd.N_append (Kd.slice 3 (Kd.int .i64)) (w0 := w) w.heap.size rfl (.tmp 36) (.tmp 42) 27 25 (.slice none 0 0) 24 rfl Tryz.underlying27 info25 rfl (by decide) (by omega) u6 x6_1 (rd_L2 t744 x9_1) [.slice A755_0 (rd_L2 t744 x9_1).length c755_0] (fun k_ => (w.heap.size ≤ k_) ∧ some k_ ≠ (.slice (some ad754) t751.length co31 : Value).ownBlock ∧ some k_ ≠ (.slice Ao21 t747.length co21 : Value).ownBlock ∧ k_ ≠ gb736 ∧ k_ ≠ gb750) (fun k_ => ((fun k_ => (w.heap.size ≤ k_) ∧ some k_ ≠ (.slice (some ad754) t751.length co31 : Value).ownBlock ∧ some k_ ≠ (.slice Ao21 t747.length co21 : Value).ownBlock ∧ k_ ≠ gb736 ∧ k_ ≠ gb750)) k_ ∧ some k_ ≠ (u6 : Value).ownBlock) rfl rfl ?aP (fun _ hk => hk) ?aF ?aO ?aB ?aS ?aL ?_; (case aP => exact (Kd.FK_slice_mk (Kd.V_reads' (Kd.V_mono (ok' := (fun k_ => ((fun k_ => (w.heap.size ≤ k_) ∧ some k_ ≠ (.slice (some ad754) t751.length co31 : Value).ownBlock ∧ some k_ ≠ (.slice Ao21 t747.length co21 : Value).ownBlock ∧ k_ ≠ gb736 ∧ k_ ≠ gb750)) k_ ∧ some k_ ≠ (u6 : Value).ownBlock)) (HL755_0.out) (fun k_ hk => ⟨⟨hk.1, ⟨hk.2.2.1, ⟨hk.2.2.2.1, ⟨hk.2.2.2.2.1, hk.2.2.2.2.2⟩⟩⟩⟩, hk.2.1⟩))).2.1 (Kd.V_F (Kd.V_mono (ok' := (fun k_ => ((fun k_ => (w.heap.size ≤ k_) ∧ some k_ ≠ (.slice (some ad754) t751.length co31 : Value).ownBlock ∧ some k_ ≠ (.slice Ao21 t747.length co21 : Value).ownBlock ∧ k_ ≠ gb736 ∧ k_ ≠ gb750)) k_ ∧ some k_ ≠ (u6 : Value).ownBlock)) (HL755_0.out) (fun k_ hk => ⟨⟨hk.1, ⟨hk.2.2.1, ⟨hk.2.2.2.1, ⟨hk.2.2.2.2.1, hk.2.2.2.2.2⟩⟩⟩⟩, hk.2.1⟩))))); (case aB => exact zB); (case aF => exact (fun k_ hk => ⟨(Nat.le_trans (below_size zB) hk), Kd.fresh' (Kd.N_lt (by (with_reducible repeat (first | apply Kd.N_alloc | apply Kd.N_drewN | apply Kd.N_drew)); exact HO_8.out)) k_ hk, Kd.fresh' (Kd.R_lt (zR HO_751001.out)) k_ hk, Kd.freshB (g := gb736) (o := .cells #[.int .i64 a0_0, .slice A0_1 l0_1.length c0_1] 30 (0, 0)) (zK BK736.out) k_ hk, Kd.freshB (g := gb750) (o := .cells #[.slice (some ad755) t744.length co19, .slice Ao21 t747.length co21] 52 (0, 0)) (zK BK750.out) k_ hk⟩)); (case aO => exact (by (with_reducible repeat (first | apply Kd.N_alloc | apply Kd.N_drewN | apply Kd.N_drew)); exact HO_6.out)); (case aS => exact (below_size zB)); (case aL => have := LMc30.out; omega); intro v757 w34 ho hb hg hat; rw [← Ny756.out] at ho; replace HO_8 := zM (Kd.N_afterv (ok := (fun k_ => (w.heap.size ≤ k_) ∧ some k_ ≠ (.slice Ao21 t747.length co21 : Value).ownBlock ∧ k_ ≠ gb736 ∧ k_ ≠ gb750)) (by (with_reducible repeat (first | apply Kd.N_alloc | apply Kd.N_drewN | apply Kd.N_drew)); exact Kd.N_mono HO_8.out (fun _ hk => ⟨⟨hk.1, ⟨hk.2.2.1, ⟨hk.2.2.2.1, hk.2.2.2.2⟩⟩⟩, hk.2.1⟩)) hg hat); replace HO_751000 := zM (Kd.V_afterv (ok := (fun k_ => (w.heap.size ≤ k_) ∧ some k_ ≠ (.slice (some ad754) t751.length co31 : Value).ownBlock ∧ some k_ ≠ (.slice Ao21 t747.length co21 : Value).ownBlock ∧ k_ ≠ gb736 ∧ k_ ≠ gb750)) (by (with_reducible repeat (first | apply Kd.V_alloc | apply Kd.V_drewN | apply Kd.V_drew)); exact Kd.V_mono HO_751000.out (fun _ hk => ⟨⟨hk.1, ⟨hk.2.2.1, ⟨hk.2.2.2.1, ⟨hk.2.2.2.2.1, hk.2.2.2.2.2⟩⟩⟩⟩, hk.2.1⟩)) hg hat); replace HO_751001 := zM (Kd.R_over' (zR HO_751001.out) (Kd.N_typed (by (with_reducible repeat (first | apply Kd.N_alloc | apply Kd.N_drewN | apply Kd.N_drew)); exact HO_6.out)) (by decide) hg); replace BK736 := zM (blk_grown (g := gb736) (o := .cells #[.int .i64 a0_0, .slice A0_1 l0_1.length c0_1] 30 (0, 0)) (zK BK736.out) hg (Kd.N_ne HO_6.out BK736.out (by decide))); replace BK750 := zM (blk_grown (g := gb750) (o := .cells #[.slice (some ad755) t744.length co19, .slice Ao21 t747.length co21] 52 (0, 0)) (zK BK750.out) hg (Kd.N_ne HO_6.out BK750.out (by decide))); replace HL754_0 := zM (Kd.V_afterv (ok := (fun k_ => (w.heap.size ≤ k_) ∧ some k_ ≠ (.slice (some ad754) t751.length co31 : Value).ownBlock ∧ some k_ ≠ (.slice Ao21 t747.length co21 : Value).ownBlock ∧ k_ ≠ gb736 ∧ k_ ≠ gb750)) (by (with_reducible repeat (first | apply Kd.V_alloc | apply Kd.V_drewN | apply Kd.V_drew)); exact Kd.V_mono HL754_0.out (fun _ hk => ⟨⟨hk.1.1, ⟨hk.2, ⟨hk.1.2.2.1, ⟨hk.1.2.2.2.1, hk.1.2.2.2.2⟩⟩⟩⟩, hk.1.2.1⟩)) hg hat); replace HL755_0 := zM (Kd.V_afterv (ok := (fun k_ => (w.heap.size ≤ k_) ∧ some k_ ≠ (.slice (some ad754) t751.length co31 : Value).ownBlock ∧ some k_ ≠ (.slice Ao21 t747.length co21 : Value).ownBlock ∧ k_ ≠ gb736 ∧ k_ ≠ gb750)) (by (with_reducible repeat (first | apply Kd.V_alloc | apply Kd.V_drewN | apply Kd.V_drew)); exact Kd.V_mono HL755_0.out (fun _ hk => ⟨⟨hk.1, ⟨hk.2.2.1, ⟨hk.2.2.2.1, ⟨hk.2.2.2.2.1, hk.2.2.2.2.2⟩⟩⟩⟩, hk.2.1⟩)) hg hat); replace HB := zM (hb); have HO758 := zM (ho); clear HO_6; clear ho hb hg hat))
               go_roundg k1
               case measure => have := HK1.out; omega
               case rel => exact ⟨(y756), (wrap64 (x9_1 + 1)), (by first | rfl | (simp; done) | (simp [*]; done)), H', ⟨by have := HK1.out; omega⟩, ⟨by (with_reducible repeat (first | apply Kd.N_alloc | apply Kd.N_drewN | apply Kd.N_drew)); exact HO758.out⟩, ⟨by (with_reducible repeat (first | apply Kd.N_alloc | apply Kd.N_drewN | apply Kd.N_drew)); exact Kd.N_mono HO_8.out (fun _ hk => ⟨hk.1.1, ⟨hk.2, ⟨hk.1.2.1, ⟨hk.1.2.2.1, hk.1.2.2.2⟩⟩⟩⟩)⟩, ⟨by (with_reducible repeat (first | apply Kd.V_alloc | apply Kd.V_drewN | apply Kd.V_drew)); exact Kd.V_mono HO_751000.out (fun _ hk => ⟨hk.1.1, ⟨hk.2, ⟨hk.1.2.1, ⟨hk.1.2.2.1, ⟨hk.1.2.2.2.1, hk.1.2.2.2.2⟩⟩⟩⟩⟩)⟩, ⟨zR HO_751001.out⟩, ⟨zK BK736.out⟩, ⟨zK BK750.out⟩, ⟨zB⟩⟩
             · rw [if_neg c30] at H
               exact absurd H (by simp)
           · rw [if_neg c29] at H
             exact absurd H (by simp)
         · rw [if_neg c28] at H
           have c28b0 : (((rd_L2 t751 x9_1).length : Int) == 0) = false := beq_eq_false_iff_ne.mpr c28
           have c28b1 : (((rd_L2 t751 x9_1).length : Int) != 0) = true := bne_iff_ne.mpr c28
           have c28b2 : ¬ ((rd_L2 t751 x9_1) = []) := fun h_ => c28 (by rw [h_]; rfl)
           have H' := Aside0.mk H
           clear H
           obtain ⟨Ao35, co35, eo35⟩ := Kd.N_slice HO_8.out
           subst eo35
           have p754 : 0 ≤ (x9_1 : Int) := of_decide_eq_true zA
           have q754 : x9_1 < (t751.length : Int) := of_decide_eq_true zA
           obtain ⟨ad754, A754_0, c754_0, e754, hx754_0, hl754_0, hi754_0⟩ := at_L2 (Kd.N_reads' HO_8.out).2.2 x9_1 p754 q754
           cases e754
           obtain ⟨ce754, hce754, hMe754, hcc754⟩ := Kd.N_get HO_8.out [] x9_1 p754 (by first | exact q754 | exact of_decide_eq_true zA | (have e_ := (Kd.N_reads' HO_8.out).1; omega))
           obtain ⟨ua754_0, uc754_0, rfl, ul754_0, ge754_0⟩ := Kd.FK_slice_open hMe754
           have hv754_0 := hcc754 0 _ rfl
           rw [Nat.add_zero, show ((Kd.slice 3 (Kd.int .i64))).sz = 1 from rfl, Nat.mul_one] at hv754_0
           replace hv754_0 := Option.some.inj (hv754_0.symm.trans hx754_0)
           injection hv754_0 with hva_ hvn_ hvc_
           rw [hva_] at ge754_0
           rw [hvc_] at ul754_0
           have HL754_0 := zM (show Kd.V (Kd.int .i64) 3 _ w.heap.size _ _ (rd_L2 t751 x9_1) from Kd.V_mk ul754_0 ge754_0)
           clear hva_ hvn_ hvc_ ge754_0 ul754_0
           clear hcc754 hce754
           have HR754_0 := Aside0.mk hi754_0
           have HC754_0 := Aside0.mk hl754_0
           clear hi754_0 hl754_0
           replace p754 := eq_true p754
           replace q754 := eq_true q754
           go_wp2
           go_roundg k1
           case measure => have := HK1.out; omega
           case rel => exact ⟨(x6_1), (wrap64 (x9_1 + 1)), (by first | rfl | (simp; done) | (simp [*]; done)), H', ⟨by have := HK1.out; omega⟩, ⟨by (with_reducible repeat (first | apply Kd.N_alloc | apply Kd.N_drewN | apply Kd.N_drew)); exact HO_6.out⟩, ⟨by (with_reducible repeat (first | apply Kd.N_alloc | apply Kd.N_drewN | apply Kd.N_drew)); exact HO_8.out⟩, ⟨by (with_reducible repeat (first | apply Kd.V_alloc | apply Kd.V_drewN | apply Kd.V_drew)); exact HO_751000.out⟩, ⟨zR HO_751001.out⟩, ⟨zK BK736.out⟩, ⟨zK BK750.out⟩, ⟨zB⟩⟩
       · rw [if_neg c27] at H
         exact absurd H (by simp)
     · rw [if_neg c26] at H
       have c26b0 : decide (x9_1 < (t751.length : Int)) = false := decide_eq_false c26
       clear c26
       simp only [Option.some.injEq, Prod.mk.injEq] at H
       obtain ⟨rfl, rfl⟩ := H
       obtain ⟨Ao36, co36, eo36⟩ := Kd.N_slice HO_8.out
       subst eo36
       go_wp2
       go_ret2
       exact ⟨_, by first | rfl | (simp [errW_none, errW_some] <;> rfl) | (simp [*, errW_none, errW_some] <;> rfl), by (with_reducible repeat (first | apply Kd.N_alloc | apply Kd.N_drewN | apply Kd.N_drew)); exact Kd.N_mono HO_6.out (fun _ hk => hk.1), zB⟩
 · replace c4 := Bool.eq_false_iff.mpr c4
   subst c4
   have H1 : (some (y737, false)) = some (r1, r2) := by rw [if_neg (show ¬ (false = true) by decide)] at H; exact H
   clear H
   have H := H1
   clear H1
   simp only [Option.some.injEq, Prod.mk.injEq] at H
   obtain ⟨rfl, rfl⟩ := H
   go_enter Tryz.func22, Tryz.ntmps22
   go_wp2_with (first | ((with_reducible refine gate_dst (N := 2) rfl ?_); refine zb (w := w) 2 #[.int .i64 a0_0, .slice A0_1 l0_1.length c0_1] 30 zB ?_; clear HB; intro gb736 w37 HB BK736 GW736; have GE736 := GW736) | ((with_reducible refine gate_dst (N := 10) rfl ?_); refine Kd.N_lit (Kd.slice 3 (Kd.int .i64)) _ 25 ?hg (N' := 10) ?hd (xs := ([] : List (List Int))) (inner := []) (ok := (fun k_ => (w.heap.size ≤ k_) ∧ k_ ≠ gb736)) (okp := (fun k_ => (w.heap.size ≤ k_) ∧ k_ ≠ gb736)) ?hr ?hp (fun _ hk => hk) ((show ∀ k_, w37.heap.size ≤ k_ → (fun k_ => (w.heap.size ≤ k_) ∧ k_ ≠ gb736) k_ from fun k_ hk => ⟨(Nat.le_trans (below_size zB) hk), Kd.freshB (g := gb736) (o := .cells #[.int .i64 a0_0, .slice A0_1 l0_1.length c0_1] 30 (0, 0)) (zK BK736.out) k_ hk⟩) _ (Nat.le_refl _)) (Below.refl _ _) (Nat.le_refl _) (by simp) ?_; (case hd => rfl); (case hg => rfl); (case hr => first | (go_simp; done) | (go_simp; rfl)); (case hp => exact (Reps.none _ _)); intro v738 w38 ho39 hb hg_ hnew_; clear hg_ hnew_; (first | rw [← Ny737.out] at ho39 | (simp only [Int.reduceToNat] at ho39; rw [← Ny737.out] at ho39)); have HO739 := zM (Kd.N_lower ho39 (below_size zB)); replace BK736 := zM (blk_below (g := gb736) (o := .cells #[.int .i64 a0_0, .slice A0_1 l0_1.length c0_1] 30 (0, 0)) (zK BK736.out) hb); replace HB := zM (below_step zB hb); clear hb ho39; have hcz40_0 := zy BK736 0; have hcz40_1 := zy BK736 1; have hfz40_0 := blk_frozen BK736.out 0; have hfz40_1 := blk_frozen BK736.out 1) | ((with_reducible refine gate_callee (f := 42) rfl ?_); refine zc 13 Tryz.func42 #[.agg #[.int .i64 a0_0, .slice A0_1 l0_1.length c0_1], .int .i64 a1] ?_; (with_reducible refine (spec_l3Ask.calls k a0_0 _ _ l0_1 a1 false _ ?side1 ?side2 A3.out).mono ?_); (case side1 => exact zC (Kd.C_below HR0_1.out HB.out)); (case side2 => exact HC0_1.out); rintro e w41 ⟨rfl, hb⟩; refine ⟨_, rfl, ?_⟩; replace HO739 := zM (Kd.N_below (by (with_reducible repeat (first | apply Kd.N_alloc | apply Kd.N_drewN | apply Kd.N_drew)); exact HO739.out) hb); replace BK736 := zM (blk_below (g := gb736) (o := .cells #[.int .i64 a0_0, .slice A0_1 l0_1.length c0_1] 30 (0, 0)) (zK BK736.out) hb); replace HB := zM (below_step zB hb); (try clear hb); (try clear hb2); (try clear hk); (try clear hi)))
   go_ret2
   exact ⟨_, by first | rfl | (simp [errW_none, errW_some] <;> rfl) | (simp [*, errW_none, errW_some] <;> rfl), by (with_reducible repeat (first | apply Kd.N_alloc | apply Kd.N_drewN | apply Kd.N_drew)); exact Kd.N_mono HO739.out (fun _ hk => hk.1), zB⟩

end Go.Proofs.YtadjbmcfgjmhkaaGreat.P
