-- Written by a program of this session (the kit's print, turned: wip/print/patch.py) out of the translation. Not trusted: Lean checks it.
import Derived.Test.YtpbngmkhpcgpkaaPx0
import Derived.Test.YtpbngmkhpcgpkaaPx14
import Derived.Test.YtpbngmkhpcgpkaaPx17
import Derived.Test.YtpbngmkhpcgpkaaPx19
import Derived.Test.YtpbngmkhpcgpkaaPx21
import Derived.Test.YtpbngmkhpcgpkaaPx36
import Derived.Test.YtpbngmkhpcgpkaaPx37
import Derived.Test.YtpbngmkhpcgpkaaExtI
namespace Go.Proofs.Ytpbngmkhpcgpkaa.P
open Go.RowKit Go.Proofs.YtpbngmkhpcgpkaaW.PrintWords Go.Proofs.YtpbngmkhpcgpkaaW.PrintLast Go.Proofs.YtpbngmkhpcgpkaaW.PrintMore
attribute [local go_sem] max2_int min2_int max_two min_two max_three min_three max_four min_four   -- for this text's walks alone
set_option linter.unusedVariables false
set_option linter.unusedSimpArgs false

/-! ### impl_Graph_hasKind: function 91 -/
mutual
def impl_Graph_hasKind.l0 : Nat → List Int → List Int → Int → Int → Int → List (S68) → Option (Bool)
 | 0, _, _, _, _, _, _ => none
 | k + 1, x7, x26, x27, x28, x794000, x794001 => if x28 < x27 then (if 0 ≤ x28 then (if x28 < (x26.length : Int) then (if x28 ≤ (x7.length : Int) then ((some (x7.take (x28 : Int).toNat : List Int)).bind fun y800 => (impl_Graph_hasKind.l1 k x7 (rd x26 x28) x26 x27 x28 y800 (y800.length : Int) 0 x794000 x794001)) else (none)) else (none)) else (none)) else (some true)
def impl_Graph_hasKind.l1 : Nat → List Int → Int → List Int → Int → Int → List Int → Int → Int → Int → List (S68) → Option (Bool)
 | 0, _, _, _, _, _, _, _, _, _, _ => none
 | k + 1, x7, x9, x26, x27, x28, x35, x36, x37, x794000, x794001 => if x37 < x36 then (if 0 ≤ x37 then (if x37 < (x35.length : Int) then ((impl_Graph_has.f k x794000 x794001 x9 (rd x35 x37)).bind fun t805 => (if t805 = true then (impl_Graph_hasKind.l1 k x7 x9 x26 x27 x28 x35 x36 (wrap64 (x37 + 1)) x794000 x794001) else (some false))) else (none)) else (none)) else (impl_Graph_hasKind.l0 k x7 x26 x27 (wrap64 (x28 + 1)) x794000 x794001)
def impl_Graph_hasKind.l2 : Nat → Int → Int → Int → Int → List (S68) → Option (Bool)
 | 0, _, _, _, _, _ => none
 | k + 1, x2, x49, x50, x794000, x794001 => if x50 < x49 then ((impl_bag_has.f x2 x50).bind fun t806 => (if t806 = true then (impl_Graph_hasKind.l2 k x2 x49 (wrap64 (x50 + 1)) x794000 x794001) else ((impl_Graph_neighbors.f k x794000 x794001 x50).bind fun t807 => ((impl_bagOf.f k t807).bind fun t810 => (if (Go.bits .and .u64 t810 x2) = 0 then (some false) else (impl_Graph_hasKind.l2 k x2 x49 (wrap64 (x50 + 1)) x794000 x794001)))))) else (some true)
end
def impl_Graph_hasKind.f (k : Nat) (a0_0 : Int) (l0_1 : List (S68)) (a1 : Int) (a2 : Int) : Option (Bool) := if a1 = 1 then ((impl_Graph_all.f a0_0 l0_1).bind fun t794 => ((impl_Graph_isFree.f a0_0 l0_1 (Go.bits .andNot .u64 t794 a2)).bind fun t795 => (some t795))) else (if a1 = 2 then ((impl_bag_list.f k a2).bind fun t796 => (impl_Graph_hasKind.l0 k t796 t796 (t796.length : Int) 0 a0_0 l0_1)) else (impl_Graph_hasKind.l2 k a2 a0_0 0 a0_0 l0_1))
theorem impl_Graph_hasKind.mono_l : ∀ k, (∀ y0 y1 y2 y3 y4 y5, LeO (impl_Graph_hasKind.l0 k y0 y1 y2 y3 y4 y5) (impl_Graph_hasKind.l0 (k + 1) y0 y1 y2 y3 y4 y5)) ∧ (∀ y0 y1 y2 y3 y4 y5 y6 y7 y8 y9, LeO (impl_Graph_hasKind.l1 k y0 y1 y2 y3 y4 y5 y6 y7 y8 y9) (impl_Graph_hasKind.l1 (k + 1) y0 y1 y2 y3 y4 y5 y6 y7 y8 y9)) ∧ (∀ y0 y1 y2 y3 y4, LeO (impl_Graph_hasKind.l2 k y0 y1 y2 y3 y4) (impl_Graph_hasKind.l2 (k + 1) y0 y1 y2 y3 y4))
 | 0 => ⟨fun _ _ _ _ _ _ r h => by simp [impl_Graph_hasKind.l0] at h, fun _ _ _ _ _ _ _ _ _ _ r h => by simp [impl_Graph_hasKind.l1] at h, fun _ _ _ _ _ r h => by simp [impl_Graph_hasKind.l2] at h⟩
 | k + 1 => by
  obtain ⟨ih0, ih1, ih2⟩ := impl_Graph_hasKind.mono_l k
  refine ⟨?_, ?_, ?_⟩
  · intro y0 y1 y2 y3 y4 y5
    unfold impl_Graph_hasKind.l0
    repeat' first
    | (with_reducible exact ih0 _ _ _ _ _ _)
    | (with_reducible exact ih1 _ _ _ _ _ _ _ _ _ _)
    | (with_reducible exact ih2 _ _ _ _ _)
    | (with_reducible exact impl_Graph_has.mono _ _ _ _ _)
    | (with_reducible exact impl_Graph_neighbors.mono _ _ _ _)
    | (with_reducible exact impl_bagOf.mono _ _)
    | (with_reducible exact impl_bag_list.mono _ _)
    | (with_reducible exact LeO.refl _)
    | (with_reducible exact LeO.none _)
    | (with_reducible refine LeO.ite ?_ ?_)
    | (with_reducible refine LeO.bind ?_ (fun _ => ?_))
    | exact ih0 _ _ _ _ _ _
    | exact ih1 _ _ _ _ _ _ _ _ _ _
    | exact ih2 _ _ _ _ _
    | exact impl_Graph_has.mono _ _ _ _ _
    | exact impl_Graph_neighbors.mono _ _ _ _
    | exact impl_bagOf.mono _ _
    | exact impl_bag_list.mono _ _
    | exact LeO.none _
    | refine LeO.ite ?_ ?_
    | refine LeO.bind ?_ (fun _ => ?_)
  · intro y0 y1 y2 y3 y4 y5 y6 y7 y8 y9
    unfold impl_Graph_hasKind.l1
    repeat' first
    | (with_reducible exact ih0 _ _ _ _ _ _)
    | (with_reducible exact ih1 _ _ _ _ _ _ _ _ _ _)
    | (with_reducible exact ih2 _ _ _ _ _)
    | (with_reducible exact impl_Graph_has.mono _ _ _ _ _)
    | (with_reducible exact impl_Graph_neighbors.mono _ _ _ _)
    | (with_reducible exact impl_bagOf.mono _ _)
    | (with_reducible exact impl_bag_list.mono _ _)
    | (with_reducible exact LeO.refl _)
    | (with_reducible exact LeO.none _)
    | (with_reducible refine LeO.ite ?_ ?_)
    | (with_reducible refine LeO.bind ?_ (fun _ => ?_))
    | exact ih0 _ _ _ _ _ _
    | exact ih1 _ _ _ _ _ _ _ _ _ _
    | exact ih2 _ _ _ _ _
    | exact impl_Graph_has.mono _ _ _ _ _
    | exact impl_Graph_neighbors.mono _ _ _ _
    | exact impl_bagOf.mono _ _
    | exact impl_bag_list.mono _ _
    | exact LeO.none _
    | refine LeO.ite ?_ ?_
    | refine LeO.bind ?_ (fun _ => ?_)
  · intro y0 y1 y2 y3 y4
    unfold impl_Graph_hasKind.l2
    repeat' first
    | (with_reducible exact ih0 _ _ _ _ _ _)
    | (with_reducible exact ih1 _ _ _ _ _ _ _ _ _ _)
    | (with_reducible exact ih2 _ _ _ _ _)
    | (with_reducible exact impl_Graph_has.mono _ _ _ _ _)
    | (with_reducible exact impl_Graph_neighbors.mono _ _ _ _)
    | (with_reducible exact impl_bagOf.mono _ _)
    | (with_reducible exact impl_bag_list.mono _ _)
    | (with_reducible exact LeO.refl _)
    | (with_reducible exact LeO.none _)
    | (with_reducible refine LeO.ite ?_ ?_)
    | (with_reducible refine LeO.bind ?_ (fun _ => ?_))
    | exact ih0 _ _ _ _ _ _
    | exact ih1 _ _ _ _ _ _ _ _ _ _
    | exact ih2 _ _ _ _ _
    | exact impl_Graph_has.mono _ _ _ _ _
    | exact impl_Graph_neighbors.mono _ _ _ _
    | exact impl_bagOf.mono _ _
    | exact impl_bag_list.mono _ _
    | exact LeO.none _
    | refine LeO.ite ?_ ?_
    | refine LeO.bind ?_ (fun _ => ?_)
theorem impl_Graph_hasKind.mono : ∀ a0 a1 a2 a3 k, LeO (impl_Graph_hasKind.f k a0 a1 a2 a3) (impl_Graph_hasKind.f (k + 1) a0 a1 a2 a3) := by
 intro a0 a1 a2 a3 k
 obtain ⟨ih0, ih1, ih2⟩ := impl_Graph_hasKind.mono_l k
 unfold impl_Graph_hasKind.f
 repeat' first
  | (with_reducible exact ih0 _ _ _ _ _ _)
  | (with_reducible exact ih1 _ _ _ _ _ _ _ _ _ _)
  | (with_reducible exact ih2 _ _ _ _ _)
  | (with_reducible exact impl_Graph_has.mono _ _ _ _ _)
  | (with_reducible exact impl_Graph_neighbors.mono _ _ _ _)
  | (with_reducible exact impl_bagOf.mono _ _)
  | (with_reducible exact impl_bag_list.mono _ _)
  | (with_reducible exact LeO.refl _)
  | (with_reducible exact LeO.none _)
  | (with_reducible refine LeO.ite ?_ ?_)
  | (with_reducible refine LeO.bind ?_ (fun _ => ?_))
  | exact ih0 _ _ _ _ _ _
  | exact ih1 _ _ _ _ _ _ _ _ _ _
  | exact ih2 _ _ _ _ _
  | exact impl_Graph_has.mono _ _ _ _ _
  | exact impl_Graph_neighbors.mono _ _ _ _
  | exact impl_bagOf.mono _ _
  | exact impl_bag_list.mono _ _
  | exact LeO.none _
  | refine LeO.ite ?_ ?_
  | refine LeO.bind ?_ (fun _ => ?_)
set_option maxHeartbeats 8000000 in
set_option maxRecDepth 100000 in
theorem impl_Graph_hasKind.calls (k : Nat) (a0_0 : Int) (A0_1 : Option Addr) (c0_1 : Nat) (l0_1 : List (S68)) (a1 : Int) (a2 : Int) (r : Bool) (w : World) (hr0_1 : Kd.C k68 w A0_1 l0_1.length l0_1) (hc0_1 : l0_1.length ≤ c0_1) (h : impl_Graph_hasKind.f k a0_0 l0_1 a1 a2 = some r) :
 Calls Try.prog 91 #[.agg #[.int .i64 a0_0, .slice A0_1 l0_1.length c0_1], .int .i64 a1, .int .u64 a2] w fun e w' => e = .returned (.bool r) ∧ Below w.heap.size w w' := by
 have hu27 := Try.underlying27
 have HR0_1 := Aside0.mk hr0_1
 have HC0_1 := Aside0.mk hc0_1
 clear hr0_1 hc0_1
 have HB := zM (Below.refl w.heap.size w)
 have H : (if a1 = 1 then ((impl_Graph_all.f a0_0 l0_1).bind fun t794 => ((impl_Graph_isFree.f a0_0 l0_1 (Go.bits .andNot .u64 t794 a2)).bind fun t795 => (some t795))) else (if a1 = 2 then ((impl_bag_list.f k a2).bind fun t796 => (impl_Graph_hasKind.l0 k t796 t796 (t796.length : Int) 0 a0_0 l0_1)) else (impl_Graph_hasKind.l2 k a2 a0_0 0 a0_0 l0_1))) = some r := h
 clear h
 by_cases c4 : a1 = 1
 · rw [if_pos c4] at H
   have c4b0 : (a1 == 1) = true := beq_iff_eq.mpr c4
   have c4b1 : (a1 != 1) = false := bne_eq_false_iff_eq.mpr c4
   clear c4
   replace H := Option.bind_eq_some_iff.mp H
   obtain ⟨t794, A50, H⟩ := H
   have A5 := Aside0.mk A50
   clear A50
   replace H := Option.bind_eq_some_iff.mp H
   obtain ⟨t795, A60, H⟩ := H
   have A6 := Aside0.mk A60
   clear A60
   obtain rfl := Option.some.inj H
   go_enter Try.func91, Try.ntmps91
   try go_wp2_with (first | ((with_reducible refine gate_dst (N := 3) rfl ?_); refine zb (w := w) 3 #[.int .i64 a0_0, .slice A0_1 l0_1.length c0_1] 27 zB ?_; clear HB; intro gb793 w7 HB BK793 GW793; have GE793 := GW793))
   replace BK793 := zM (blk_drew BK793.out)
   replace HB := zM (below_drew1 HB.out)
   refine zs (n := 7) (fun w' => w'.cell? ⟨gb793, 0, none⟩ = some (.int .i64 a0_0) ∧ w'.cell? ⟨gb793, 1, none⟩ = some (.slice A0_1 l0_1.length c0_1)) ⟨(blk_cell BK793.out 0).trans rfl, (blk_cell BK793.out 1).trans rfl⟩ (fun hHeld => ?_)
   generalize w7.drew = w8 at BK793 HB hHeld ⊢
   refine zq 3 19 ?_
   refine zl 0 16 hHeld ?_ (hy := by rintro w' ⟨s0, s1⟩; go_simp; with_reducible rfl)
   refine zl 1 17 hHeld ?_ (hy := by rintro w' ⟨s0, s1⟩; go_simp; with_reducible rfl)
   refine zh 2 18 Try.func69 #[.agg #[.int .i64 a0_0, .slice A0_1 l0_1.length c0_1]] (fun K hK => ?_)
   with_reducible refine (impl_Graph_all.calls a0_0 _ _ l0_1 t794 _ ?side1 ?side2 A5.out).mono ?_
   (case side1 => exact zC (Kd.C_below HR0_1.out HB.out))
   (case side2 => exact HC0_1.out)
   rintro e w9 ⟨rfl, hb⟩
   refine ⟨_, rfl, ?_⟩
   replace BK793 := zM (blk_below (g := gb793) (o := .cells #[.int .i64 a0_0, .slice A0_1 l0_1.length c0_1] 27 (0, 0)) (zK BK793.out) hb)
   replace HB := zM (below_step zB hb)
   (try clear hb)
   (try clear hb2)
   (try clear hk)
   (try clear hi)
   refine hK.out _ _ ⟨(blk_cell BK793.out 0).trans rfl, (blk_cell BK793.out 1).trans rfl⟩ (fun hHeld => ?_)
   clear hK K
   refine zn 18 ?_
   refine zq 4 20 ?_
   refine zh 5 21 Try.func100 #[.agg #[.int .i64 a0_0, .slice A0_1 l0_1.length c0_1], .int .u64 (Go.bits .andNot .u64 t794 a2)] (fun K hK => ?_)
   with_reducible refine (impl_Graph_isFree.calls a0_0 _ _ l0_1 (Go.bits .andNot .u64 t794 a2) t795 _ ?side1 ?side2 A6.out).mono ?_
   (case side1 => exact zC (Kd.C_below HR0_1.out HB.out))
   (case side2 => exact HC0_1.out)
   rintro e w10 ⟨rfl, hb⟩
   refine ⟨_, rfl, ?_⟩
   replace BK793 := zM (blk_below (g := gb793) (o := .cells #[.int .i64 a0_0, .slice A0_1 l0_1.length c0_1] 27 (0, 0)) (zK BK793.out) hb)
   replace HB := zM (below_step zB hb)
   (try clear hb)
   (try clear hb2)
   (try clear hk)
   (try clear hi)
   refine hK.out _ _ ⟨(blk_cell BK793.out 0).trans rfl, (blk_cell BK793.out 1).trans rfl⟩ (fun hHeld => ?_)
   clear hK K
   refine zn 21 ?_
   refine zq 6 6 ?_
   refine zx ?_
   try go_wp2
   go_ret
   exact ⟨by first | rfl | (simp [errW_none, errW_some] <;> rfl) | (simp [*, errW_none, errW_some] <;> rfl), zB⟩
 · rw [if_neg c4] at H
   have c4b0 : (a1 == 1) = false := beq_eq_false_iff_ne.mpr c4
   have c4b1 : (a1 != 1) = true := bne_iff_ne.mpr c4
   by_cases c11 : a1 = 2
   · rw [if_pos c11] at H
     have c11b0 : (a1 == 2) = true := beq_iff_eq.mpr c11
     have c11b1 : (a1 != 2) = false := bne_eq_false_iff_eq.mpr c11
     clear c11
     replace H := Option.bind_eq_some_iff.mp H
     obtain ⟨t796, A120, H⟩ := H
     have A12 := Aside0.mk A120
     clear A120
     have H' := Aside0.mk H
     clear H
     go_enter Try.func91, Try.ntmps91
     go_wp2_with (first | ((with_reducible refine gate_dst (N := 3) rfl ?_); refine zb (w := w) 3 #[.int .i64 a0_0, .slice A0_1 l0_1.length c0_1] 27 zB ?_; clear HB; intro gb793 w13 HB BK793 GW793; have GE793 := GW793) | ((with_reducible refine gate_callee (f := 71) rfl ?_); refine zc 25 Try.func71 #[.int .u64 a2] ?_; (with_reducible refine (impl_bag_list.calls k a2 t796 _ A12.out).mono ?_); rintro e w14 ⟨v797, rfl, ho0, hb⟩; refine ⟨_, rfl, ?_⟩; have HO798 := zM (Kd.R_lower ho0 (below_size zB)); replace BK793 := zM (blk_below (g := gb793) (o := .cells #[.int .i64 a0_0, .slice A0_1 l0_1.length c0_1] 27 (0, 0)) (zK BK793.out) hb); replace HB := zM (below_step zB hb); (try clear hb); (try clear hb2); (try clear hk); (try clear hi); (try clear ho0); obtain ⟨Ao15, co15, eo15⟩ := Kd.R_slice HO798.out; subst eo15))
     go_loopg [28] k (fun kq v28 w' => ∃ (x28_1 : Int), v28 = .int .i64 x28_1 ∧ Aside0 (impl_Graph_hasKind.l0 kq t796 t796 (t796.length : Int) x28_1 a0_0 l0_1 = some r) ∧ Aside0 (kq ≤ k) ∧ Aside0 (Kd.R (Kd.int .i64) 3 w' w.heap.size (fun _ => True) (.slice Ao15 t796.length co15) t796) ∧ Aside0 (Kd.R (Kd.int .i64) 3 w' w.heap.size (fun _ => True) (.slice Ao15 t796.length co15) t796) ∧ Aside0 (w'.heap[gb793]? = some (.cells #[.int .i64 a0_0, (.slice A0_1 l0_1.length c0_1)] 27 (0, 0))) ∧ Aside0 (Below w.heap.size w w'))
     case atStart => exact ⟨(0), (by first | rfl | (simp; done) | (simp [*]; done)), H', ⟨Nat.le_refl _⟩, ⟨zR HO798.out⟩, ⟨zR HO798.out⟩, ⟨zK BK793.out⟩, ⟨zB⟩⟩
     case round =>
      clear H'
      try clear c1
      try clear p2
      try clear c4
      try clear c4b0
      try clear c4b1
      try clear c6
      try clear c7
      try clear c9
      try clear c10
      try clear c11
      try clear c11b0
      try clear c11b1
      obtain ⟨x28_1, rfl, HA, HK1, HO_7, HO_26, BK793, HB⟩ := hrel
      cases gk with
      | zero => exact absurd HA.out (by simp [impl_Graph_hasKind.l0])
      | succ k1 =>
       have H := HA.out
       clear HA
       simp only [impl_Graph_hasKind.l0] at H
       by_cases c16 : x28_1 < (t796.length : Int)
       · rw [if_pos c16] at H
         have c16b0 := decide_eq_true c16
         clear c16
         by_cases c17 : 0 ≤ x28_1
         · rw [if_pos c17] at H
           have c17b0 := decide_eq_true c17
           clear c17
           by_cases c18 : x28_1 < (t796.length : Int)
           · rw [if_pos c18] at H
             have c18b0 := decide_eq_true c18
             clear c18
             have c19b0 := eq_true (of_decide_eq_true zA : 0 ≤ x28_1)
             by_cases c20 : x28_1 ≤ (t796.length : Int)
             · rw [if_pos c20] at H
               have c20b0 := eq_true c20
               have c20b1 : decide (x28_1 ≤ (t796.length : Int)) = true := decide_eq_true c20
               clear c20
               obtain ⟨y800, hy800⟩ : ∃ y_ : List Int, y_ = (t796.take (x28_1 : Int).toNat) := ⟨_, rfl⟩
               replace H : (impl_Graph_hasKind.l1 k1 t796 (rd t796 x28_1) t796 (t796.length : Int) x28_1 y800 (y800.length : Int) 0 a0_0 l0_1) = some r := by first | (rw [hy800]; with_reducible exact H) | (have H2_ := (Option.bind_some _ _).symm.trans H; rw [hy800]; with_reducible exact H2_) | (have H2_ := (Option.bind_some _ _).symm.trans H; with_reducible exact H2_) | with_reducible exact H | (rw [hy800]; exact H) | exact H
               have Ny800 := Aside0.mk hy800
               clear hy800
               have H' := Aside0.mk H
               clear H
               have p799 : 0 ≤ (x28_1 : Int) := of_decide_eq_true zA
               have q799 : x28_1 < (t796.length : Int) := of_decide_eq_true zA
               obtain ⟨ad799, e799, hx799_0⟩ := Kd.at_int (Kd.R_reads' HO_26.out).2.2 x28_1 p799 q799
               cases e799
               replace p799 := eq_true p799
               replace q799 := eq_true q799
               have q21 : (x28_1 : Int) ≤ ((t796.length : Int) : Int) := of_decide_eq_true zA
               obtain ⟨i021, hi021, _, hsz21, _⟩ := info_parts info3
               have hroom21 : t796.length ≤ co15 := (Kd.R_reads' HO_7.out).2.1
               have hC21 : Kd.C (Kd.int .i64) _ (some ad799) t796.length t796 := (Kd.R_reads' HO_7.out).2.2
               have hcut21 := cut_to (P := Try.prog) 34 3 .i64 Try.underlying34 hi021 (some ad799) t796.length co15 x28_1 (of_decide_eq_true zA) q21 hroom21
               have hr21 := Kd.C_take (m := (x28_1 : Int).toNat) hC21 (by omega)
               have hy21 : y800.length = (x28_1 : Int).toNat := (by rw [Ny800.out, List.length_take]; omega)
               rw [← Ny800.out] at hr21
               rw [← hy21] at hcut21
               have HR803 := Aside0.mk hr21
               have HC803 := zM (show y800.length ≤ co15 from by omega)
               clear hr21 hC21 hroom21 hi021 hsz21
               have KY21 := Aside0.mk hy21
               clear hy21
               have KL21 := zM (show (x28_1 : Int).toNat ≤ t796.length from by omega)
               replace q21 := eq_true q21
               go_wp2
               go_loopg [37] k1 (fun kq v37 w' => ∃ (x37_2 : Int), v37 = .int .i64 x37_2 ∧ Aside0 (impl_Graph_hasKind.l1 kq t796 (rd t796 x28_1) t796 (t796.length : Int) x28_1 y800 (y800.length : Int) x37_2 a0_0 l0_1 = some r) ∧ Aside0 (kq ≤ k1) ∧ Aside0 (Kd.R (Kd.int .i64) 3 w' w.heap.size (fun _ => True) (.slice (some ad799) t796.length co15) t796) ∧ Aside0 (Kd.R (Kd.int .i64) 3 w' w.heap.size (fun _ => True) (.slice (some ad799) t796.length co15) t796) ∧ Aside0 (w'.heap[gb793]? = some (.cells #[.int .i64 a0_0, (.slice A0_1 l0_1.length c0_1)] 27 (0, 0))) ∧ Aside0 (Kd.C (Kd.int .i64) w' (some ad799) y800.length y800) ∧ Aside0 (Below w.heap.size w w'))
               case atStart => exact ⟨(0), (by first | rfl | (simp; done) | (simp [*]; done)), H', ⟨Nat.le_refl _⟩, ⟨zR HO_7.out⟩, ⟨zR HO_26.out⟩, ⟨zK BK793.out⟩, ⟨zC HR803.out⟩, ⟨zB⟩⟩
               case round =>
                clear H'
                try clear c1
                try clear c2
                try clear p2
                try clear q2
                try clear c4
                try clear c4b0
                try clear c4b1
                try clear c6
                try clear c7
                try clear p7
                try clear q7
                try clear hx7
                try clear c9
                try clear c10
                try clear c11
                try clear c11b0
                try clear c11b1
                try clear c16
                try clear c16b0
                try clear c17
                try clear c17b0
                try clear c18
                try clear c18b0
                try clear c19
                try clear c19b0
                try clear c20
                try clear c20b0
                try clear c20b1
                try clear q21
                try clear hx799_0
                try clear p2
                try clear p799
                try clear q21
                try clear q799
                obtain ⟨x37_2, rfl, HA, HK2, HO_7, HO_26, BK793, HR803, HB⟩ := hrel
                cases gk with
                | zero => exact absurd HA.out (by simp [impl_Graph_hasKind.l1])
                | succ k2 =>
                 have H := HA.out
                 clear HA
                 simp only [impl_Graph_hasKind.l1] at H
                 by_cases c22 : x37_2 < (y800.length : Int)
                 · rw [if_pos c22] at H
                   have c22b0 := decide_eq_true c22
                   clear c22
                   by_cases c23 : 0 ≤ x37_2
                   · rw [if_pos c23] at H
                     have c23b0 := decide_eq_true c23
                     clear c23
                     by_cases c24 : x37_2 < (y800.length : Int)
                     · rw [if_pos c24] at H
                       have c24b0 := decide_eq_true c24
                       clear c24
                       replace H := Option.bind_eq_some_iff.mp H
                       obtain ⟨t805, A250, H⟩ := H
                       have A25 := Aside0.mk A250
                       clear A250
                       by_cases c26 : t805 = true
                       · subst c26
                         rw [if_pos rfl] at H
                         have H' := Aside0.mk H
                         clear H
                         have p804 : 0 ≤ (x37_2 : Int) := of_decide_eq_true zA
                         have q804 : x37_2 < (y800.length : Int) := of_decide_eq_true zA
                         obtain ⟨ad804, e804, hx804_0⟩ := Kd.at_int HR803.out x37_2 p804 q804
                         obtain rfl : ad799 = ad804 := (by injection e804)
                         (try replace hx804_0 := (HB.out.cell (World.block_lt_of_cell? w _ hx804_0)).trans hx804_0)
                         replace p804 := eq_true p804
                         replace q804 := eq_true q804
                         have hcz27_0 := zy BK793 0
                         have hcz27_1 := zy BK793 1
                         have hfz27_0 := blk_frozen BK793.out 0
                         have hfz27_1 := blk_frozen BK793.out 1
                         go_wp2_with (first | ((with_reducible refine gate_callee (f := 58) rfl ?_); refine zc 44 Try.func58 #[.agg #[.int .i64 a0_0, .slice A0_1 l0_1.length c0_1], .int .i64 (rd t796 x28_1), .int .i64 (rd y800 x37_2)] ?_; (with_reducible refine (impl_Graph_has.calls k2 a0_0 _ _ l0_1 (rd t796 x28_1) (rd y800 x37_2) true _ ?side1 ?side2 A25.out).mono ?_); (case side1 => exact zC (Kd.C_below HR0_1.out HB.out)); (case side2 => exact HC0_1.out); rintro e w28 ⟨rfl, hb⟩; refine ⟨_, rfl, ?_⟩; replace HO_7 := zM (Kd.R_below (zR HO_7.out) hb); replace HO_26 := zM (Kd.R_below (zR HO_26.out) hb); replace BK793 := zM (blk_below (g := gb793) (o := .cells #[.int .i64 a0_0, .slice A0_1 l0_1.length c0_1] 27 (0, 0)) (zK BK793.out) hb); replace HR803 := zM (Kd.C_below (by repeat (first | (with_reducible exact HR803.out) | (with_reducible refine Kd.C_alloc ?_ _) | (with_reducible refine Kd.C_drewN ?_ _) | (with_reducible refine Kd.C_drew ?_) | exact HR803.out)) hb); replace HB := zM (below_step zB hb); (try clear hb); (try clear hb2); (try clear hk); (try clear hi)))
                         go_roundg k2
                         case measure => have := HK1.out; have := HK2.out; omega
                         case rel => exact ⟨(wrap64 (x37_2 + 1)), (by first | rfl | (simp; done) | (simp [*]; done)), H', ⟨by have := HK1.out; have := HK2.out; omega⟩, ⟨zR HO_7.out⟩, ⟨zR HO_26.out⟩, ⟨zK BK793.out⟩, ⟨zC HR803.out⟩, ⟨zB⟩⟩
                       · replace c26 := Bool.eq_false_iff.mpr c26
                         subst c26
                         have H1 : (some false) = some r := by rw [if_neg (show ¬ (false = true) by decide)] at H; exact H
                         clear H
                         have H := H1
                         clear H1
                         obtain rfl := Option.some.inj H
                         have p804 : 0 ≤ (x37_2 : Int) := of_decide_eq_true zA
                         have q804 : x37_2 < (y800.length : Int) := of_decide_eq_true zA
                         obtain ⟨ad804, e804, hx804_0⟩ := Kd.at_int HR803.out x37_2 p804 q804
                         obtain rfl : ad799 = ad804 := (by injection e804)
                         (try replace hx804_0 := (HB.out.cell (World.block_lt_of_cell? w _ hx804_0)).trans hx804_0)
                         replace p804 := eq_true p804
                         replace q804 := eq_true q804
                         have hcz29_0 := zy BK793 0
                         have hcz29_1 := zy BK793 1
                         have hfz29_0 := blk_frozen BK793.out 0
                         have hfz29_1 := blk_frozen BK793.out 1
                         go_wp2_with (first | ((with_reducible refine gate_callee (f := 58) rfl ?_); refine zc 44 Try.func58 #[.agg #[.int .i64 a0_0, .slice A0_1 l0_1.length c0_1], .int .i64 (rd t796 x28_1), .int .i64 (rd y800 x37_2)] ?_; (with_reducible refine (impl_Graph_has.calls k2 a0_0 _ _ l0_1 (rd t796 x28_1) (rd y800 x37_2) false _ ?side1 ?side2 A25.out).mono ?_); (case side1 => exact zC (Kd.C_below HR0_1.out HB.out)); (case side2 => exact HC0_1.out); rintro e w30 ⟨rfl, hb⟩; refine ⟨_, rfl, ?_⟩; replace HO_7 := zM (Kd.R_below (zR HO_7.out) hb); replace HO_26 := zM (Kd.R_below (zR HO_26.out) hb); replace BK793 := zM (blk_below (g := gb793) (o := .cells #[.int .i64 a0_0, .slice A0_1 l0_1.length c0_1] 27 (0, 0)) (zK BK793.out) hb); replace HR803 := zM (Kd.C_below (by repeat (first | (with_reducible exact HR803.out) | (with_reducible refine Kd.C_alloc ?_ _) | (with_reducible refine Kd.C_drewN ?_ _) | (with_reducible refine Kd.C_drew ?_) | exact HR803.out)) hb); replace HB := zM (below_step zB hb); (try clear hb); (try clear hb2); (try clear hk); (try clear hi)))
                         go_ret
                         exact ⟨by first | rfl | (simp [errW_none, errW_some] <;> rfl) | (simp [*, errW_none, errW_some] <;> rfl), zB⟩
                     · rw [if_neg c24] at H
                       exact absurd H (by simp)
                   · rw [if_neg c23] at H
                     exact absurd H (by simp)
                 · rw [if_neg c22] at H
                   have c22b0 : decide (x37_2 < (y800.length : Int)) = false := decide_eq_false c22
                   clear c22
                   have H' := Aside0.mk H
                   clear H
                   go_wp2
                   go_roundg k2
                   case measure => have := HK1.out; have := HK2.out; omega
                   case rel => exact ⟨(wrap64 (x28_1 + 1)), (by first | rfl | (simp; done) | (simp [*]; done)), H', ⟨by have := HK1.out; have := HK2.out; omega⟩, ⟨zR HO_7.out⟩, ⟨zR HO_26.out⟩, ⟨zK BK793.out⟩, ⟨zB⟩⟩
             · rw [if_neg c20] at H
               exact absurd H (by simp)
           · rw [if_neg c18] at H
             exact absurd H (by simp)
         · rw [if_neg c17] at H
           exact absurd H (by simp)
       · rw [if_neg c16] at H
         have c16b0 : decide (x28_1 < (t796.length : Int)) = false := decide_eq_false c16
         clear c16
         obtain rfl := Option.some.inj H
         go_wp2
         go_ret
         exact ⟨by first | rfl | (simp [errW_none, errW_some] <;> rfl) | (simp [*, errW_none, errW_some] <;> rfl), zB⟩
   · rw [if_neg c11] at H
     have c11b0 : (a1 == 2) = false := beq_eq_false_iff_ne.mpr c11
     have c11b1 : (a1 != 2) = true := bne_iff_ne.mpr c11
     have H' := Aside0.mk H
     clear H
     go_enter Try.func91, Try.ntmps91
     go_wp2_with (first | ((with_reducible refine gate_dst (N := 3) rfl ?_); refine zb (w := w) 3 #[.int .i64 a0_0, .slice A0_1 l0_1.length c0_1] 27 zB ?_; clear HB; intro gb793 w31 HB BK793 GW793; have GE793 := GW793; have hcz32_0 := zy BK793 0; have hcz32_1 := zy BK793 1; have hfz32_0 := blk_frozen BK793.out 0; have hfz32_1 := blk_frozen BK793.out 1))
     go_loopg [50] k (fun kq v50 w' => ∃ (x50_1 : Int), v50 = .int .i64 x50_1 ∧ Aside0 (impl_Graph_hasKind.l2 kq a2 a0_0 x50_1 a0_0 l0_1 = some r) ∧ Aside0 (kq ≤ k) ∧ Aside0 (w'.heap[gb793]? = some (.cells #[.int .i64 a0_0, (.slice A0_1 l0_1.length c0_1)] 27 (0, 0))) ∧ Aside0 (Below w.heap.size w w'))
     case atStart => exact ⟨(0), (by first | rfl | (simp; done) | (simp [*]; done)), H', ⟨Nat.le_refl _⟩, ⟨zK BK793.out⟩, ⟨zB⟩⟩
     case round =>
      clear H'
      try clear c1
      try clear c2
      try clear p2
      try clear q2
      try clear c4
      try clear c4b0
      try clear c4b1
      try clear c5
      try clear c6
      try clear p6
      try clear c7
      try clear p7
      try clear q7
      try clear hx7
      try clear p8
      try clear q8
      try clear hx8
      try clear c9
      try clear c10
      try clear c11
      try clear c11b0
      try clear c11b1
      try clear c16
      try clear c16b0
      try clear c17
      try clear c17b0
      try clear c18
      try clear c18b0
      try clear c19
      try clear c19b0
      try clear c20
      try clear c20b0
      try clear c20b1
      try clear q21
      try clear c22
      try clear c22b0
      try clear c23
      try clear c23b0
      try clear c24
      try clear c24b0
      try clear c26
      try clear hcz27_0
      try clear hcz27_1
      try clear hcz29_0
      try clear hcz29_1
      try clear hcz32_0
      try clear hcz32_1
      try clear hfz27_0
      try clear hfz27_1
      try clear hfz29_0
      try clear hfz29_1
      try clear hfz32_0
      try clear hfz32_1
      try clear hx799_0
      try clear hx804_0
      try clear p2
      try clear p7
      try clear p799
      try clear p804
      try clear q2
      try clear q21
      try clear q7
      try clear q799
      try clear q804
      obtain ⟨x50_1, rfl, HA, HK1, BK793, HB⟩ := hrel
      cases gk with
      | zero => exact absurd HA.out (by simp [impl_Graph_hasKind.l2])
      | succ k1 =>
       have H := HA.out
       clear HA
       simp only [impl_Graph_hasKind.l2] at H
       by_cases c33 : x50_1 < a0_0
       · rw [if_pos c33] at H
         have c33b0 := decide_eq_true c33
         clear c33
         replace H := Option.bind_eq_some_iff.mp H
         obtain ⟨t806, A340, H⟩ := H
         have A34 := Aside0.mk A340
         clear A340
         by_cases c35 : t806 = true
         · subst c35
           rw [if_pos rfl] at H
           have H' := Aside0.mk H
           clear H
           go_wp2_with (first | ((with_reducible refine gate_callee (f := 116) rfl ?_); refine zc 55 Try.func116 #[.int .u64 a2, .int .i64 x50_1] ?_; (with_reducible refine (impl_bag_has.calls a2 x50_1 true _ A34.out).mono ?_); rintro e w' ⟨rfl, ⟨nd, rfl⟩⟩; refine ⟨_, rfl, ?_⟩))
           go_roundg k1
           case measure => have := HK1.out; omega
           case rel => exact ⟨(wrap64 (x50_1 + 1)), (by first | rfl | (simp; done) | (simp [*]; done)), H', ⟨by have := HK1.out; omega⟩, ⟨zK BK793.out⟩, ⟨zB⟩⟩
         · replace c35 := Bool.eq_false_iff.mpr c35
           subst c35
           have H1 : ((impl_Graph_neighbors.f k1 a0_0 l0_1 x50_1).bind fun t807 => ((impl_bagOf.f k1 t807).bind fun t810 => (if (Go.bits .and .u64 t810 a2) = 0 then (some false) else (impl_Graph_hasKind.l2 k1 a2 a0_0 (wrap64 (x50_1 + 1)) a0_0 l0_1)))) = some r := by rw [if_neg (show ¬ (false = true) by decide)] at H; exact H
           clear H
           have H := H1
           clear H1
           replace H := Option.bind_eq_some_iff.mp H
           obtain ⟨t807, A360, H⟩ := H
           have A36 := Aside0.mk A360
           clear A360
           replace H := Option.bind_eq_some_iff.mp H
           obtain ⟨t810, A370, H⟩ := H
           have A37 := Aside0.mk A370
           clear A370
           by_cases c38 : (Go.bits .and .u64 t810 a2) = 0
           · rw [if_pos c38] at H
             have c38b0 : ((Go.bits .and .u64 t810 a2) == 0) = true := beq_iff_eq.mpr c38
             have c38b1 : ((Go.bits .and .u64 t810 a2) != 0) = false := bne_eq_false_iff_eq.mpr c38
             clear c38
             obtain rfl := Option.some.inj H
             go_wp2_with (first | ((with_reducible refine gate_callee (f := 116) rfl ?_); refine zc 55 Try.func116 #[.int .u64 a2, .int .i64 x50_1] ?_; (with_reducible refine (impl_bag_has.calls a2 x50_1 false _ A34.out).mono ?_); rintro e w' ⟨rfl, ⟨nd, rfl⟩⟩; refine ⟨_, rfl, ?_⟩; have hcz39_0 := zy BK793 0; have hcz39_1 := zy BK793 1; have hfz39_0 := blk_frozen BK793.out 0; have hfz39_1 := blk_frozen BK793.out 1) | (go_at_call 65; (with_reducible refine (impl_Graph_neighbors.calls k1 a0_0 _ _ l0_1 x50_1 t807 _ ?side1 ?side2 A36.out).mono ?_); (case side1 => exact zC (Kd.C_below HR0_1.out zB)); (case side2 => exact HC0_1.out); rintro e w40 ⟨v808, rfl, ho0, hb⟩; have HO809 := zM (Kd.R_lower ho0 (below_size zB)); replace BK793 := zM (blk_below (g := gb793) (o := .cells #[.int .i64 a0_0, .slice A0_1 l0_1.length c0_1] 27 (0, 0)) (zK BK793.out) hb); replace HB := zM (below_step zB hb); (try clear hb); (try clear hb2); (try clear hk); (try clear hi); (try clear ho0); obtain ⟨Ao41, co41, eo41⟩ := Kd.R_slice HO809.out; subst eo41) | (go_at_call 70; (with_reducible refine (impl_bagOf.calls k1 _ _ t807 t810 _ ?side1 ?side2 A37.out).mono ?_); (case side1 => exact zC (Kd.R_reads' HO809.out).2.2); (case side2 => exact (Kd.R_reads' HO809.out).2.1); rintro e w' ⟨rfl, ⟨nd, rfl⟩⟩))
             go_ret
             exact ⟨by first | rfl | (simp [errW_none, errW_some] <;> rfl) | (simp [*, errW_none, errW_some] <;> rfl), zB⟩
           · rw [if_neg c38] at H
             have c38b0 : ((Go.bits .and .u64 t810 a2) == 0) = false := beq_eq_false_iff_ne.mpr c38
             have c38b1 : ((Go.bits .and .u64 t810 a2) != 0) = true := bne_iff_ne.mpr c38
             have H' := Aside0.mk H
             clear H
             go_wp2_with (first | ((with_reducible refine gate_callee (f := 116) rfl ?_); refine zc 55 Try.func116 #[.int .u64 a2, .int .i64 x50_1] ?_; (with_reducible refine (impl_bag_has.calls a2 x50_1 false _ A34.out).mono ?_); rintro e w' ⟨rfl, ⟨nd, rfl⟩⟩; refine ⟨_, rfl, ?_⟩; have hcz42_0 := zy BK793 0; have hcz42_1 := zy BK793 1; have hfz42_0 := blk_frozen BK793.out 0; have hfz42_1 := blk_frozen BK793.out 1) | (go_at_call 65; (with_reducible refine (impl_Graph_neighbors.calls k1 a0_0 _ _ l0_1 x50_1 t807 _ ?side1 ?side2 A36.out).mono ?_); (case side1 => exact zC (Kd.C_below HR0_1.out zB)); (case side2 => exact HC0_1.out); rintro e w43 ⟨v808, rfl, ho0, hb⟩; have HO809 := zM (Kd.R_lower ho0 (below_size zB)); replace BK793 := zM (blk_below (g := gb793) (o := .cells #[.int .i64 a0_0, .slice A0_1 l0_1.length c0_1] 27 (0, 0)) (zK BK793.out) hb); replace HB := zM (below_step zB hb); (try clear hb); (try clear hb2); (try clear hk); (try clear hi); (try clear ho0); obtain ⟨Ao44, co44, eo44⟩ := Kd.R_slice HO809.out; subst eo44) | (go_at_call 70; (with_reducible refine (impl_bagOf.calls k1 _ _ t807 t810 _ ?side1 ?side2 A37.out).mono ?_); (case side1 => exact zC (Kd.R_reads' HO809.out).2.2); (case side2 => exact (Kd.R_reads' HO809.out).2.1); rintro e w' ⟨rfl, ⟨nd, rfl⟩⟩))
             go_roundg k1
             case measure => have := HK1.out; omega
             case rel => exact ⟨(wrap64 (x50_1 + 1)), (by first | rfl | (simp; done) | (simp [*]; done)), H', ⟨by have := HK1.out; omega⟩, ⟨zK BK793.out⟩, ⟨zB⟩⟩
       · rw [if_neg c33] at H
         have c33b0 : decide (x50_1 < a0_0) = false := decide_eq_false c33
         clear c33
         obtain rfl := Option.some.inj H
         go_wp2
         go_ret
         exact ⟨by first | rfl | (simp [errW_none, errW_some] <;> rfl) | (simp [*, errW_none, errW_some] <;> rfl), zB⟩

/-! ### impl_HasKind: function 48 -/
def impl_HasKind.f (k : Nat) (a0_0 : Int) (l0_1 : List (S68)) (a1 : Int) (l2 : List Int) : Option (Bool × Bool) := (impl_isSetCase.f k a0_0 l0_1 a1 l2).bind fun t812 => (if t812 = true then ((impl_bagOf.f k l2).bind fun t813 => ((impl_Graph_hasKind.f k a0_0 l0_1 a1 t813).bind fun t814 => (some (t814, true)))) else (some (false, false)))
theorem impl_HasKind.mono : ∀ a0 a1 a2 a3 k, LeO (impl_HasKind.f k a0 a1 a2 a3) (impl_HasKind.f (k + 1) a0 a1 a2 a3) := by
 intro a0 a1 a2 a3 k
 unfold impl_HasKind.f
 repeat' first
  | (with_reducible exact impl_Graph_hasKind.mono _ _ _ _ _)
  | (with_reducible exact impl_bagOf.mono _ _)
  | (with_reducible exact impl_isSetCase.mono _ _ _ _ _)
  | (with_reducible exact LeO.refl _)
  | (with_reducible exact LeO.none _)
  | (with_reducible refine LeO.ite ?_ ?_)
  | (with_reducible refine LeO.bind ?_ (fun _ => ?_))
  | exact impl_Graph_hasKind.mono _ _ _ _ _
  | exact impl_bagOf.mono _ _
  | exact impl_isSetCase.mono _ _ _ _ _
  | exact LeO.none _
  | refine LeO.ite ?_ ?_
  | refine LeO.bind ?_ (fun _ => ?_)
set_option maxHeartbeats 8000000 in
set_option maxRecDepth 100000 in
theorem impl_HasKind.calls (k : Nat) (a0_0 : Int) (A0_1 : Option Addr) (c0_1 : Nat) (l0_1 : List (S68)) (a1 : Int) (A2 : Option Addr) (c2 : Nat) (l2 : List Int) (r1 : Bool) (r2 : Bool) (w : World) (hr0_1 : Kd.C k68 w A0_1 l0_1.length l0_1) (hc0_1 : l0_1.length ≤ c0_1) (hr2 : Kd.C (Kd.int .i64) w A2 l2.length l2) (hc2 : l2.length ≤ c2) (h : impl_HasKind.f k a0_0 l0_1 a1 l2 = some (r1, r2)) :
 Calls Try.prog 48 #[.agg #[.int .i64 a0_0, .slice A0_1 l0_1.length c0_1], .int .i64 a1, .slice A2 l2.length c2] w fun e w' => e = .returned (.tuple #[.bool r1, .bool r2]) ∧ Below w.heap.size w w' := by
 have hu27 := Try.underlying27
 have HR0_1 := Aside0.mk hr0_1
 have HC0_1 := Aside0.mk hc0_1
 clear hr0_1 hc0_1
 have HR2 := Aside0.mk hr2
 have HC2 := Aside0.mk hc2
 clear hr2 hc2
 have HB := zM (Below.refl w.heap.size w)
 have H : ((impl_isSetCase.f k a0_0 l0_1 a1 l2).bind fun t812 => (if t812 = true then ((impl_bagOf.f k l2).bind fun t813 => ((impl_Graph_hasKind.f k a0_0 l0_1 a1 t813).bind fun t814 => (some (t814, true)))) else (some (false, false)))) = some (r1, r2) := h
 clear h
 replace H := Option.bind_eq_some_iff.mp H
 obtain ⟨t812, A40, H⟩ := H
 replace H : (if t812 = true then ((impl_bagOf.f k l2).bind fun t813 => ((impl_Graph_hasKind.f k a0_0 l0_1 a1 t813).bind fun t814 => (some (t814, true)))) else (some (false, false))) = some (r1, r2) := H
 have A4 := Aside0.mk A40
 clear A40
 by_cases c5 : t812 = true
 · subst c5
   have H1 : ((impl_bagOf.f k l2).bind fun t813 => ((impl_Graph_hasKind.f k a0_0 l0_1 a1 t813).bind fun t814 => (some (t814, true)))) = some (r1, r2) := by rw [if_pos rfl] at H; exact H
   clear H
   have H := H1
   clear H1
   replace H := Option.bind_eq_some_iff.mp H
   obtain ⟨t813, A60, H⟩ := H
   replace H : ((impl_Graph_hasKind.f k a0_0 l0_1 a1 t813).bind fun t814 => (some (t814, true))) = some (r1, r2) := H
   have A6 := Aside0.mk A60
   clear A60
   replace H := Option.bind_eq_some_iff.mp H
   obtain ⟨t814, A70, H⟩ := H
   replace H : (some (t814, true)) = some (r1, r2) := H
   have A7 := Aside0.mk A70
   clear A70
   simp only [Option.some.injEq, Prod.mk.injEq] at H
   obtain ⟨rfl, rfl⟩ := H
   go_enter Try.func48, Try.ntmps48
   try go_wp2_with (first | ((with_reducible refine gate_dst (N := 3) rfl ?_); refine zb (w := w) 3 #[.int .i64 a0_0, .slice A0_1 l0_1.length c0_1] 27 zB ?_; clear HB; intro gb811 w8 HB BK811 GW811; have GE811 := GW811; have hcz9_0 := zy BK811 0; have hcz9_1 := zy BK811 1; have hfz9_0 := blk_frozen BK811.out 0; have hfz9_1 := blk_frozen BK811.out 1) | ((with_reducible refine gate_callee (f := 90) rfl ?_); refine zc 11 Try.func90 #[.agg #[.int .i64 a0_0, .slice A0_1 l0_1.length c0_1], .int .i64 a1, .slice A2 l2.length c2] ?_; (with_reducible refine (impl_isSetCase.calls k a0_0 _ _ l0_1 a1 _ _ l2 true _ ?side1 ?side2 ?side3 ?side4 A4.out).mono ?_); (case side1 => exact zC (Kd.C_below HR0_1.out HB.out)); (case side2 => exact HC0_1.out); (case side3 => exact zC (Kd.C_below HR2.out HB.out)); (case side4 => exact HC2.out); rintro e w10 ⟨rfl, hb⟩; refine ⟨_, rfl, ?_⟩; replace BK811 := zM (blk_below (g := gb811) (o := .cells #[.int .i64 a0_0, .slice A0_1 l0_1.length c0_1] 27 (0, 0)) (zK BK811.out) hb); replace HB := zM (below_step zB hb); (try clear hb); (try clear hb2); (try clear hk); (try clear hi)))
   replace BK811 := zM (blk_drew BK811.out)
   replace HB := zM (below_drew1 HB.out)
   refine zs (n := 7) (fun w' => w'.cell? ⟨gb811, 0, none⟩ = some (.int .i64 a0_0) ∧ w'.cell? ⟨gb811, 1, none⟩ = some (.slice A0_1 l0_1.length c0_1)) ⟨(blk_cell BK811.out 0).trans rfl, (blk_cell BK811.out 1).trans rfl⟩ (fun hHeld => ?_)
   generalize w10.drew = w11 at BK811 HB hHeld ⊢
   refine zq 1 14 ?_
   refine zq 2 15 ?_
   refine zl 0 13 hHeld ?_ (hy := by rintro w' ⟨s0, s1⟩; go_simp; with_reducible rfl)
   refine zh 3 16 Try.func70 #[.slice A2 l2.length c2] (fun K hK => ?_)
   with_reducible refine (impl_bagOf.calls k _ _ l2 t813 _ ?side1 ?side2 A6.out).mono ?_
   (case side1 => exact zC (Kd.C_below HR2.out HB.out))
   (case side2 => exact HC2.out)
   rintro e w' ⟨rfl, ⟨nd, rfl⟩⟩
   refine ⟨_, rfl, ?_⟩
   refine hK.out _ _ ⟨(blk_cell BK811.out 0).trans rfl, (blk_cell BK811.out 1).trans rfl⟩ (fun hHeld => ?_)
   clear hK K
   refine zn 16 ?_
   refine zh 4 17 Try.func91 #[.agg #[.int .i64 a0_0, .slice A0_1 l0_1.length c0_1], .int .i64 a1, .int .u64 t813] (fun K hK => ?_)
   with_reducible refine (impl_Graph_hasKind.calls k a0_0 _ _ l0_1 a1 t813 t814 _ ?side1 ?side2 A7.out).mono ?_
   (case side1 => exact zC (Kd.C_below HR0_1.out zB))
   (case side2 => exact HC0_1.out)
   rintro e w12 ⟨rfl, hb⟩
   refine ⟨_, rfl, ?_⟩
   replace BK811 := zM (blk_below (g := gb811) (o := .cells #[.int .i64 a0_0, .slice A0_1 l0_1.length c0_1] 27 (0, 0)) (zK BK811.out) hb)
   replace HB := zM (below_step zB hb)
   (try clear hb)
   (try clear hb2)
   (try clear hk)
   (try clear hi)
   refine hK.out _ _ ⟨(blk_cell BK811.out 0).trans rfl, (blk_cell BK811.out 1).trans rfl⟩ (fun hHeld => ?_)
   clear hK K
   refine zn 17 ?_
   refine zq 5 6 ?_
   refine zq 6 7 ?_
   refine zx ?_
   try go_wp2
   go_ret2
   exact ⟨by first | rfl | (simp [errW_none, errW_some] <;> rfl) | (simp [*, errW_none, errW_some] <;> rfl), zB⟩
 · replace c5 := Bool.eq_false_iff.mpr c5
   subst c5
   have H1 : (some (false, false)) = some (r1, r2) := by rw [if_neg (show ¬ (false = true) by decide)] at H; exact H
   clear H
   have H := H1
   clear H1
   simp only [Option.some.injEq, Prod.mk.injEq] at H
   obtain ⟨rfl, rfl⟩ := H
   go_enter Try.func48, Try.ntmps48
   go_wp2_with (first | ((with_reducible refine gate_dst (N := 3) rfl ?_); refine zb (w := w) 3 #[.int .i64 a0_0, .slice A0_1 l0_1.length c0_1] 27 zB ?_; clear HB; intro gb811 w13 HB BK811 GW811; have GE811 := GW811; have hcz14_0 := zy BK811 0; have hcz14_1 := zy BK811 1; have hfz14_0 := blk_frozen BK811.out 0; have hfz14_1 := blk_frozen BK811.out 1) | ((with_reducible refine gate_callee (f := 90) rfl ?_); refine zc 11 Try.func90 #[.agg #[.int .i64 a0_0, .slice A0_1 l0_1.length c0_1], .int .i64 a1, .slice A2 l2.length c2] ?_; (with_reducible refine (impl_isSetCase.calls k a0_0 _ _ l0_1 a1 _ _ l2 false _ ?side1 ?side2 ?side3 ?side4 A4.out).mono ?_); (case side1 => exact zC (Kd.C_below HR0_1.out HB.out)); (case side2 => exact HC0_1.out); (case side3 => exact zC (Kd.C_below HR2.out HB.out)); (case side4 => exact HC2.out); rintro e w15 ⟨rfl, hb⟩; refine ⟨_, rfl, ?_⟩; replace BK811 := zM (blk_below (g := gb811) (o := .cells #[.int .i64 a0_0, .slice A0_1 l0_1.length c0_1] 27 (0, 0)) (zK BK811.out) hb); replace HB := zM (below_step zB hb); (try clear hb); (try clear hb2); (try clear hk); (try clear hi)))
   go_ret2
   exact ⟨by first | rfl | (simp [errW_none, errW_some] <;> rfl) | (simp [*, errW_none, errW_some] <;> rfl), zB⟩

end Go.Proofs.Ytpbngmkhpcgpkaa.P
