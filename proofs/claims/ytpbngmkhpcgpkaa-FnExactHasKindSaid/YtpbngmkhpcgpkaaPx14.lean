-- Written by a program of this session (the kit's print, turned: wip/print/patch.py) out of the translation. Not trusted: Lean checks it.
import Derived.Test.YtpbngmkhpcgpkaaPx0
import Derived.Test.YtpbngmkhpcgpkaaPx11
import Derived.Test.YtpbngmkhpcgpkaaPx12
import Derived.Test.YtpbngmkhpcgpkaaPx13
import Derived.Test.YtpbngmkhpcgpkaaExtA
import Derived.Test.YtpbngmkhpcgpkaaExtM
namespace Go.Proofs.Ytpbngmkhpcgpkaa.P
open Go.RowKit Go.Proofs.YtpbngmkhpcgpkaaW.PrintWords Go.Proofs.YtpbngmkhpcgpkaaW.PrintLast Go.Proofs.YtpbngmkhpcgpkaaW.PrintMore
attribute [local go_sem] max2_int min2_int max_two min_two max_three min_three max_four min_four   -- for this text's walks alone
set_option linter.unusedVariables false
set_option linter.unusedSimpArgs false

/-! ### impl_Graph_has: function 58 -/
def impl_Graph_has.f (k : Nat) (a0_0 : Int) (l0_1 : List (S68)) (a1 : Int) (a2 : Int) : Option (Bool) := (impl_pair.f a1 a2).bind fun bt191 => ((slices_Contains_2_int_2_int.f k l0_1 bt191.1 bt191.2).bind fun t193 => (some t193))
theorem impl_Graph_has.mono : ∀ a0 a1 a2 a3 k, LeO (impl_Graph_has.f k a0 a1 a2 a3) (impl_Graph_has.f (k + 1) a0 a1 a2 a3) := by
 intro a0 a1 a2 a3 k
 unfold impl_Graph_has.f
 repeat' first
  | (with_reducible exact slices_Contains_2_int_2_int.mono _ _ _ _)
  | (with_reducible exact LeO.refl _)
  | (with_reducible exact LeO.none _)
  | (with_reducible refine LeO.ite ?_ ?_)
  | (with_reducible refine LeO.bind ?_ (fun _ => ?_))
  | exact slices_Contains_2_int_2_int.mono _ _ _ _
  | exact LeO.none _
  | refine LeO.ite ?_ ?_
  | refine LeO.bind ?_ (fun _ => ?_)
set_option maxHeartbeats 8000000 in
set_option maxRecDepth 100000 in
theorem impl_Graph_has.calls (k : Nat) (a0_0 : Int) (A0_1 : Option Addr) (c0_1 : Nat) (l0_1 : List (S68)) (a1 : Int) (a2 : Int) (r : Bool) (w : World) (hr0_1 : Kd.C k68 w A0_1 l0_1.length l0_1) (hc0_1 : l0_1.length ≤ c0_1) (h : impl_Graph_has.f k a0_0 l0_1 a1 a2 = some r) :
 Calls Try.prog 58 #[.agg #[.int .i64 a0_0, .slice A0_1 l0_1.length c0_1], .int .i64 a1, .int .i64 a2] w fun e w' => e = .returned (.bool r) ∧ Below w.heap.size w w' := by
 have hu27 := Try.underlying27
 have HR0_1 := Aside0.mk hr0_1
 have HC0_1 := Aside0.mk hc0_1
 clear hr0_1 hc0_1
 have HB := zM (Below.refl w.heap.size w)
 have H : ((impl_pair.f a1 a2).bind fun bt191 => ((slices_Contains_2_int_2_int.f k l0_1 bt191.1 bt191.2).bind fun t193 => (some t193))) = some r := h
 clear h
 replace H := Option.bind_eq_some_iff.mp H
 obtain ⟨⟨t191, t192⟩, A40, H⟩ := H
 replace H : ((slices_Contains_2_int_2_int.f k l0_1 t191 t192).bind fun t193 => (some t193)) = some r := H
 have A4 := Aside0.mk A40
 clear A40
 replace H := Option.bind_eq_some_iff.mp H
 obtain ⟨t193, A50, H⟩ := H
 have A5 := Aside0.mk A50
 clear A50
 obtain rfl := Option.some.inj H
 go_enter Try.func58, Try.ntmps58
 try go_wp2_with (first | ((with_reducible refine gate_dst (N := 3) rfl ?_); refine zb (w := w) 3 #[.int .i64 a0_0, .slice A0_1 l0_1.length c0_1] 27 zB ?_; clear HB; intro gb190 w6 HB BK190 GW190; have GE190 := GW190))
 replace BK190 := zM (blk_drew BK190.out)
 replace HB := zM (below_drew1 HB.out)
 refine zs (n := 7) (fun w' => w'.cell? ⟨gb190, 0, none⟩ = some (.int .i64 a0_0) ∧ w'.cell? ⟨gb190, 1, none⟩ = some (.slice A0_1 l0_1.length c0_1)) ⟨(blk_cell BK190.out 0).trans rfl, (blk_cell BK190.out 1).trans rfl⟩ (fun hHeld => ?_)
 generalize w6.drew = w7 at BK190 HB hHeld ⊢
 refine zq 0 7 ?_
 refine zq 2 9 ?_
 refine zq 3 10 ?_
 refine zl 1 8 hHeld ?_ (hy := by rintro w' ⟨s0, s1⟩; go_simp; with_reducible rfl)
 refine zh 4 11 Try.func99 #[.int .i64 a1, .int .i64 a2] (fun K hK => ?_)
 with_reducible refine (impl_pair.calls a1 a2 t191 t192 _ A4.out).mono ?_
 rintro e w8 ⟨rfl, hb⟩
 refine ⟨_, rfl, ?_⟩
 replace BK190 := zM (blk_below (g := gb190) (o := .cells #[.int .i64 a0_0, .slice A0_1 l0_1.length c0_1] 27 (0, 0)) (zK BK190.out) hb)
 replace HB := zM (below_step zB hb)
 (try clear hb)
 (try clear hb2)
 (try clear hk)
 (try clear hi)
 refine hK.out _ _ ⟨(blk_cell BK190.out 0).trans rfl, (blk_cell BK190.out 1).trans rfl⟩ (fun hHeld => ?_)
 clear hK K
 refine zn 11 ?_
 refine zh 5 12 Try.func98 #[.slice A0_1 l0_1.length c0_1, .agg #[.int .i64 t191, .int .i64 t192]] (fun K hK => ?_)
 with_reducible refine (slices_Contains_2_int_2_int.calls k _ _ l0_1 t191 t192 t193 _ ?side1 ?side2 A5.out).mono ?_
 (case side1 => exact zC (Kd.C_below HR0_1.out HB.out))
 (case side2 => exact HC0_1.out)
 rintro e w9 ⟨rfl, hb⟩
 refine ⟨_, rfl, ?_⟩
 replace BK190 := zM (blk_below (g := gb190) (o := .cells #[.int .i64 a0_0, .slice A0_1 l0_1.length c0_1] 27 (0, 0)) (zK BK190.out) hb)
 replace HB := zM (below_step zB hb)
 (try clear hb)
 (try clear hb2)
 (try clear hk)
 (try clear hi)
 refine hK.out _ _ ⟨(blk_cell BK190.out 0).trans rfl, (blk_cell BK190.out 1).trans rfl⟩ (fun hHeld => ?_)
 clear hK K
 refine zn 12 ?_
 refine zq 6 6 ?_
 refine zx ?_
 try go_wp2
 go_ret
 exact ⟨by first | rfl | (simp [errW_none, errW_some] <;> rfl) | (simp [*, errW_none, errW_some] <;> rfl), zB⟩

/-! ### impl_CliqueGraph: function 21 -/
mutual
def impl_CliqueGraph.l0 : Nat → Int → Int → Int → List (S68) → Int → List (S68) → Option (Int × (List (S68)) × Bool)
 | 0, _, _, _, _, _, _ => none
 | k + 1, x15, x16, x195000, x195001, x198000, x198001 => if x16 < x15 then (impl_CliqueGraph.l1 k x16 (wrap64 (x16 + 1)) x15 x16 x195000 x195001 x198000 x198001) else (some (x198000, x198001, true))
def impl_CliqueGraph.l1 : Nat → Int → Int → Int → Int → Int → List (S68) → Int → List (S68) → Option (Int × (List (S68)) × Bool)
 | 0, _, _, _, _, _, _, _, _ => none
 | k + 1, x5, x6, x15, x16, x195000, x195001, x198000, x198001 => if x6 < x195000 then ((impl_Graph_has.f k x195000 x195001 x5 x6).bind fun t198 => (if t198 = true then (impl_CliqueGraph.l1 k x5 (wrap64 (x6 + 1)) x15 x16 x195000 x195001 x198000 x198001) else (if x198001.length < 8796093022208 then (impl_CliqueGraph.l1 k x5 (wrap64 (x6 + 1)) x15 x16 x195000 x195001 x198000 (x198001 ++ [(⟨x5, x6⟩ : S68)])) else (none)))) else (impl_CliqueGraph.l0 k x15 (wrap64 (x16 + 1)) x195000 x195001 x198000 x198001)
end
def impl_CliqueGraph.f (k : Nat) (a0_0 : Int) (l0_1 : List (S68)) : Option (Int × (List (S68)) × Bool) := (impl_IsGraph.f k a0_0 l0_1).bind fun t196 => (if t196 = true then (impl_CliqueGraph.l0 k a0_0 0 a0_0 l0_1 a0_0 ([] : List (S68))) else (some (0, ([] : List (S68)), false)))
theorem impl_CliqueGraph.mono_l : ∀ k, (∀ y0 y1 y2 y3 y4 y5, LeO (impl_CliqueGraph.l0 k y0 y1 y2 y3 y4 y5) (impl_CliqueGraph.l0 (k + 1) y0 y1 y2 y3 y4 y5)) ∧ (∀ y0 y1 y2 y3 y4 y5 y6 y7, LeO (impl_CliqueGraph.l1 k y0 y1 y2 y3 y4 y5 y6 y7) (impl_CliqueGraph.l1 (k + 1) y0 y1 y2 y3 y4 y5 y6 y7))
 | 0 => ⟨fun _ _ _ _ _ _ r h => by simp [impl_CliqueGraph.l0] at h, fun _ _ _ _ _ _ _ _ r h => by simp [impl_CliqueGraph.l1] at h⟩
 | k + 1 => by
  obtain ⟨ih0, ih1⟩ := impl_CliqueGraph.mono_l k
  refine ⟨?_, ?_⟩
  · intro y0 y1 y2 y3 y4 y5
    unfold impl_CliqueGraph.l0
    repeat' first
    | (with_reducible exact ih0 _ _ _ _ _ _)
    | (with_reducible exact ih1 _ _ _ _ _ _ _ _)
    | (with_reducible exact impl_Graph_has.mono _ _ _ _ _)
    | (with_reducible exact impl_IsGraph.mono _ _ _)
    | (with_reducible exact LeO.refl _)
    | (with_reducible exact LeO.none _)
    | (with_reducible refine LeO.ite ?_ ?_)
    | (with_reducible refine LeO.bind ?_ (fun _ => ?_))
    | exact ih0 _ _ _ _ _ _
    | exact ih1 _ _ _ _ _ _ _ _
    | exact impl_Graph_has.mono _ _ _ _ _
    | exact impl_IsGraph.mono _ _ _
    | exact LeO.none _
    | refine LeO.ite ?_ ?_
    | refine LeO.bind ?_ (fun _ => ?_)
  · intro y0 y1 y2 y3 y4 y5 y6 y7
    unfold impl_CliqueGraph.l1
    repeat' first
    | (with_reducible exact ih0 _ _ _ _ _ _)
    | (with_reducible exact ih1 _ _ _ _ _ _ _ _)
    | (with_reducible exact impl_Graph_has.mono _ _ _ _ _)
    | (with_reducible exact impl_IsGraph.mono _ _ _)
    | (with_reducible exact LeO.refl _)
    | (with_reducible exact LeO.none _)
    | (with_reducible refine LeO.ite ?_ ?_)
    | (with_reducible refine LeO.bind ?_ (fun _ => ?_))
    | exact ih0 _ _ _ _ _ _
    | exact ih1 _ _ _ _ _ _ _ _
    | exact impl_Graph_has.mono _ _ _ _ _
    | exact impl_IsGraph.mono _ _ _
    | exact LeO.none _
    | refine LeO.ite ?_ ?_
    | refine LeO.bind ?_ (fun _ => ?_)
theorem impl_CliqueGraph.mono : ∀ a0 a1 k, LeO (impl_CliqueGraph.f k a0 a1) (impl_CliqueGraph.f (k + 1) a0 a1) := by
 intro a0 a1 k
 obtain ⟨ih0, ih1⟩ := impl_CliqueGraph.mono_l k
 unfold impl_CliqueGraph.f
 repeat' first
  | (with_reducible exact ih0 _ _ _ _ _ _)
  | (with_reducible exact ih1 _ _ _ _ _ _ _ _)
  | (with_reducible exact impl_Graph_has.mono _ _ _ _ _)
  | (with_reducible exact impl_IsGraph.mono _ _ _)
  | (with_reducible exact LeO.refl _)
  | (with_reducible exact LeO.none _)
  | (with_reducible refine LeO.ite ?_ ?_)
  | (with_reducible refine LeO.bind ?_ (fun _ => ?_))
  | exact ih0 _ _ _ _ _ _
  | exact ih1 _ _ _ _ _ _ _ _
  | exact impl_Graph_has.mono _ _ _ _ _
  | exact impl_IsGraph.mono _ _ _
  | exact LeO.none _
  | refine LeO.ite ?_ ?_
  | refine LeO.bind ?_ (fun _ => ?_)
set_option maxHeartbeats 8000000 in
set_option maxRecDepth 100000 in
theorem impl_CliqueGraph.calls (k : Nat) (a0_0 : Int) (A0_1 : Option Addr) (c0_1 : Nat) (l0_1 : List (S68)) (r1 : Int) (r2 : List (S68)) (r3 : Bool) (w : World) (hr0_1 : Kd.C k68 w A0_1 l0_1.length l0_1) (hc0_1 : l0_1.length ≤ c0_1) (h : impl_CliqueGraph.f k a0_0 l0_1 = some (r1, r2, r3)) :
 Calls Try.prog 21 #[.agg #[.int .i64 a0_0, .slice A0_1 l0_1.length c0_1]] w fun e w' => ∃ v1_ : Value, e = .returned (.tuple #[.agg #[.int .i64 r1, v1_], .bool r3]) ∧ Kd.R k68 68 w' w.heap.size (fun _ => True) v1_ r2 ∧ Below w.heap.size w w' := by
 have hu27 := Try.underlying27
 have hu68 := Try.underlying68
 have HR0_1 := Aside0.mk hr0_1
 have HC0_1 := Aside0.mk hc0_1
 clear hr0_1 hc0_1
 have HB := zM (Below.refl w.heap.size w)
 have H : ((impl_IsGraph.f k a0_0 l0_1).bind fun t196 => (if t196 = true then (impl_CliqueGraph.l0 k a0_0 0 a0_0 l0_1 a0_0 ([] : List (S68))) else (some (0, ([] : List (S68)), false)))) = some (r1, r2, r3) := h
 clear h
 replace H := Option.bind_eq_some_iff.mp H
 obtain ⟨t196, A20, H⟩ := H
 replace H : (if t196 = true then (impl_CliqueGraph.l0 k a0_0 0 a0_0 l0_1 a0_0 ([] : List (S68))) else (some (0, ([] : List (S68)), false))) = some (r1, r2, r3) := H
 have A2 := Aside0.mk A20
 clear A20
 by_cases c3 : t196 = true
 · subst c3
   have H1 : (impl_CliqueGraph.l0 k a0_0 0 a0_0 l0_1 a0_0 ([] : List (S68))) = some (r1, r2, r3) := by rw [if_pos rfl] at H; exact H
   clear H
   have H := H1
   clear H1
   have H' := Aside0.mk H
   clear H
   go_enter Try.func21, Try.ntmps21
   go_wp2_with (first | ((with_reducible refine gate_dst (N := 1) rfl ?_); refine zb (w := w) 1 #[.int .i64 a0_0, .slice A0_1 l0_1.length c0_1] 27 zB ?_; clear HB; intro gb194 w4 HB BK194 GW194; have GE194 := GW194) | ((with_reducible refine gate_dst (N := 2) rfl ?_); refine ze 2 #[.int .i64 0, .slice none 0 0] 27 ?_; intro gb195 hg w5 hbox hb; have BK195 := zM (hbox); have GW195 := zM ((by rw [hg]; exact (below_size zB) : w.heap.size ≤ gb195)); have GE195 := zM ((by rw [hg]; exact (below_size zB) : w.heap.size ≤ gb195)); replace HB := zM (below_step zB hb); have NB194_195 := zM ((by rw [hg]; exact Nat.ne_of_lt (blk_lt (g := gb194) (o := .cells #[.int .i64 a0_0, .slice A0_1 l0_1.length c0_1] 27 (0, 0)) (zK BK194.out)) : gb194 ≠ gb195)); have NB195_194 := zM ((by rw [hg]; exact Nat.ne_of_gt (blk_lt (g := gb194) (o := .cells #[.int .i64 a0_0, .slice A0_1 l0_1.length c0_1] 27 (0, 0)) (zK BK194.out)) : gb195 ≠ gb194)); replace BK194 := zM (blk_below (g := gb194) (o := .cells #[.int .i64 a0_0, .slice A0_1 l0_1.length c0_1] 27 (0, 0)) (zK BK194.out) hb); clear hb hbox hg; have hnb6 := NB194_195.out; have hnc6 := NB195_194.out; have hcz7_0 := zy BK194 0; have hcz7_1 := zy BK194 1; have hfz7_0 := blk_frozen BK194.out 0; have hfz7_1 := blk_frozen BK194.out 1) | ((with_reducible refine gate_callee (f := 18) rfl ?_); refine zc 8 Try.func18 #[.agg #[.int .i64 a0_0, .slice A0_1 l0_1.length c0_1]] ?_; (with_reducible refine (impl_IsGraph.calls k a0_0 _ _ l0_1 true _ ?side1 ?side2 A2.out).mono ?_); (case side1 => exact zC (Kd.C_below HR0_1.out HB.out)); (case side2 => exact HC0_1.out); rintro e w8 ⟨rfl, hb⟩; refine ⟨_, rfl, ?_⟩; replace BK194 := zM (blk_below (g := gb194) (o := .cells #[.int .i64 a0_0, .slice A0_1 l0_1.length c0_1] 27 (0, 0)) (zK BK194.out) hb); replace BK195 := zM (blk_below (g := gb195) (o := .cells #[.int .i64 0, .slice none 0 0] 27 (0, 0)) (zK BK195.out) hb); replace HB := zM (below_step zB hb); (try clear hb); (try clear hb2); (try clear hk); (try clear hi); have hcz9_0 := zy BK194 0; have hcz9_1 := zy BK194 1; have hfz9_0 := blk_frozen BK194.out 0; have hfz9_1 := blk_frozen BK194.out 1) | ((with_reducible refine gate_dst (N := 4) rfl ?_); refine ze 4 #[.int .i64 0, .slice none 0 0] 27 ?_; intro gb197 hg w10 hbox hb; have BK197 := zM (hbox); have GW197 := zM ((by rw [hg]; exact (below_size zB) : w.heap.size ≤ gb197)); have GE197 := zM ((by rw [hg]; exact (below_size zB) : w.heap.size ≤ gb197)); replace HB := zM (below_step zB hb); have NB194_197 := zM ((by rw [hg]; exact Nat.ne_of_lt (blk_lt (g := gb194) (o := .cells #[.int .i64 a0_0, .slice A0_1 l0_1.length c0_1] 27 (0, 0)) (zK BK194.out)) : gb194 ≠ gb197)); have NB197_194 := zM ((by rw [hg]; exact Nat.ne_of_gt (blk_lt (g := gb194) (o := .cells #[.int .i64 a0_0, .slice A0_1 l0_1.length c0_1] 27 (0, 0)) (zK BK194.out)) : gb197 ≠ gb194)); replace BK194 := zM (blk_below (g := gb194) (o := .cells #[.int .i64 a0_0, .slice A0_1 l0_1.length c0_1] 27 (0, 0)) (zK BK194.out) hb); have NB195_197 := zM ((by rw [hg]; exact Nat.ne_of_lt (blk_lt (g := gb195) (o := .cells #[.int .i64 0, .slice none 0 0] 27 (0, 0)) (zK BK195.out)) : gb195 ≠ gb197)); have NB197_195 := zM ((by rw [hg]; exact Nat.ne_of_gt (blk_lt (g := gb195) (o := .cells #[.int .i64 0, .slice none 0 0] 27 (0, 0)) (zK BK195.out)) : gb197 ≠ gb195)); replace BK195 := zM (blk_below (g := gb195) (o := .cells #[.int .i64 0, .slice none 0 0] 27 (0, 0)) (zK BK195.out) hb); clear hb hbox hg; have hnb11 := NB197_194.out; have hnc11 := NB194_197.out; have hnb12 := NB197_195.out; have hnc12 := NB195_197.out; have hcz13_0 := zy BK197 0; have hcz13_1 := zy BK197 1; have hfz13_0 := blk_frozen BK197.out 0; have hfz13_1 := blk_frozen BK197.out 1; have hcz14_0 := zy BK194 0; have hcz14_1 := zy BK194 1; have hfz14_0 := blk_frozen BK194.out 0; have hfz14_1 := blk_frozen BK194.out 1))
   go_loopg [16] k (fun kq v16 w' => ∃ (x16_1 : Int) (x198001_1 : List (S68)) (u198001 : Value), v16 = .int .i64 x16_1 ∧ Aside0 (impl_CliqueGraph.l0 kq a0_0 x16_1 a0_0 l0_1 a0_0 x198001_1 = some (r1, r2, r3)) ∧ Aside0 (kq ≤ k) ∧ Aside0 (Kd.R k68 68 w' w.heap.size (fun _ => True) u198001 x198001_1) ∧ Aside0 (w'.heap[gb194]? = some (.cells #[.int .i64 a0_0, (.slice A0_1 l0_1.length c0_1)] 27 (0, 0))) ∧ Aside0 (w'.heap[gb195]? = some (.cells #[.int .i64 0, (.slice none 0 0)] 27 (0, 0))) ∧ Aside0 (w'.heap[gb197]? = some (.cells #[.int .i64 a0_0, u198001] 27 (0, 0))) ∧ Aside0 (Below w.heap.size w w'))
   case atStart => exact ⟨(0), (([] : List (S68))), (.slice none 0 0), (by first | rfl | (simp; done) | (simp [*]; done)), H', ⟨Nat.le_refl _⟩, ⟨by first | exact Kd.R_nil _ _ _ _ _ | exact Kd.N_nil _ _ _ _ _ | exact Kd.V_nil _ _ _ _ _ | exact Kd.Q_nil _ _ _ _ _ | exact Kd.S_nil _ _ _ _ _⟩, ⟨by (with_reducible repeat (first | refine blk_drewN ?_ _ | refine blk_drew ?_ | refine blk_alloc ?_ _)); refine blk_far ?_ NB194_197.out _; (with_reducible repeat (first | refine blk_drewN ?_ _ | refine blk_drew ?_ | refine blk_alloc ?_ _)); refine blk_far ?_ NB194_197.out _; (with_reducible repeat (first | refine blk_drewN ?_ _ | refine blk_drew ?_ | refine blk_alloc ?_ _)); exact BK194.out⟩, ⟨by (with_reducible repeat (first | refine blk_drewN ?_ _ | refine blk_drew ?_ | refine blk_alloc ?_ _)); refine blk_far ?_ NB195_197.out _; (with_reducible repeat (first | refine blk_drewN ?_ _ | refine blk_drew ?_ | refine blk_alloc ?_ _)); refine blk_far ?_ NB195_197.out _; (with_reducible repeat (first | refine blk_drewN ?_ _ | refine blk_drew ?_ | refine blk_alloc ?_ _)); exact BK195.out⟩, ⟨by (with_reducible repeat (first | refine blk_drewN ?_ _ | refine blk_drew ?_ | refine blk_alloc ?_ _)); refine blk_put (cs := #[.int .i64 a0_0, .slice none 0 0]) ?_ 1 _ rfl; (with_reducible repeat (first | refine blk_drewN ?_ _ | refine blk_drew ?_ | refine blk_alloc ?_ _)); refine blk_put (cs := #[.int .i64 0, .slice none 0 0]) ?_ 0 _ rfl; (with_reducible repeat (first | refine blk_drewN ?_ _ | refine blk_drew ?_ | refine blk_alloc ?_ _)); exact BK197.out⟩, ⟨zB⟩⟩
   case round =>
    clear H'
    try clear c1
    try clear c2
    try clear p2
    try clear c3
    try clear c6
    try clear c11
    try clear c12
    try clear hcz13_0
    try clear hcz13_1
    try clear hcz14_0
    try clear hcz14_1
    try clear hcz7_0
    try clear hcz7_1
    try clear hcz9_0
    try clear hcz9_1
    try clear hfz13_0
    try clear hfz13_1
    try clear hfz14_0
    try clear hfz14_1
    try clear hfz7_0
    try clear hfz7_1
    try clear hfz9_0
    try clear hfz9_1
    obtain ⟨x16_1, x198001_1, u198001, rfl, HA, HK1, HO_198001, BK194, BK195, BK197, HB⟩ := hrel
    cases gk with
    | zero => exact absurd HA.out (by simp [impl_CliqueGraph.l0])
    | succ k1 =>
     have H := HA.out
     clear HA
     simp only [impl_CliqueGraph.l0] at H
     by_cases c15 : x16_1 < a0_0
     · rw [if_pos c15] at H
       have c15b0 := decide_eq_true c15
       clear c15
       have H' := Aside0.mk H
       clear H
       go_wp2
       go_loopg [6] k1 (fun kq v6 w' => ∃ (x6_2 : Int) (x198001_2 : List (S68)) (u198001 : Value), v6 = .int .i64 x6_2 ∧ Aside0 (impl_CliqueGraph.l1 kq x16_1 x6_2 a0_0 x16_1 a0_0 l0_1 a0_0 x198001_2 = some (r1, r2, r3)) ∧ Aside0 (kq ≤ k1) ∧ Aside0 (Kd.R k68 68 w' w.heap.size (fun _ => True) u198001 x198001_2) ∧ Aside0 (w'.heap[gb194]? = some (.cells #[.int .i64 a0_0, (.slice A0_1 l0_1.length c0_1)] 27 (0, 0))) ∧ Aside0 (w'.heap[gb195]? = some (.cells #[.int .i64 0, (.slice none 0 0)] 27 (0, 0))) ∧ Aside0 (w'.heap[gb197]? = some (.cells #[.int .i64 a0_0, u198001] 27 (0, 0))) ∧ Aside0 (Below w.heap.size w w'))
       case atStart => exact ⟨(wrap64 (x16_1 + 1)), (x198001_1), (u198001), (by first | rfl | (simp; done) | (simp [*]; done)), H', ⟨Nat.le_refl _⟩, ⟨zR HO_198001.out⟩, ⟨zK BK194.out⟩, ⟨zK BK195.out⟩, ⟨zK BK197.out⟩, ⟨zB⟩⟩
       case round =>
        clear H'
        try clear c1
        try clear c2
        try clear p2
        try clear c3
        try clear c6
        try clear p6
        try clear c11
        try clear c12
        try clear c15
        try clear c15b0
        try clear hcz13_0
        try clear hcz13_1
        try clear hcz14_0
        try clear hcz14_1
        try clear hcz7_0
        try clear hcz7_1
        try clear hcz9_0
        try clear hcz9_1
        try clear hfz13_0
        try clear hfz13_1
        try clear hfz14_0
        try clear hfz14_1
        try clear hfz7_0
        try clear hfz7_1
        try clear hfz9_0
        try clear hfz9_1
        try clear p2
        obtain ⟨x6_2, x198001_2, u198001, rfl, HA, HK2, HO_198001, BK194, BK195, BK197, HB⟩ := hrel
        cases gk with
        | zero => exact absurd HA.out (by simp [impl_CliqueGraph.l1])
        | succ k2 =>
         have H := HA.out
         clear HA
         simp only [impl_CliqueGraph.l1] at H
         by_cases c16 : x6_2 < a0_0
         · rw [if_pos c16] at H
           have c16b0 := decide_eq_true c16
           clear c16
           replace H := Option.bind_eq_some_iff.mp H
           obtain ⟨t198, A170, H⟩ := H
           replace H : (if t198 = true then (impl_CliqueGraph.l1 k2 x16_1 (wrap64 (x6_2 + 1)) a0_0 x16_1 a0_0 l0_1 a0_0 x198001_2) else (if x198001_2.length < 8796093022208 then (impl_CliqueGraph.l1 k2 x16_1 (wrap64 (x6_2 + 1)) a0_0 x16_1 a0_0 l0_1 a0_0 (x198001_2 ++ [(⟨x16_1, x6_2⟩ : S68)])) else (none))) = some (r1, r2, r3) := H
           have A17 := Aside0.mk A170
           clear A170
           by_cases c18 : t198 = true
           · subst c18
             have H1 : (impl_CliqueGraph.l1 k2 x16_1 (wrap64 (x6_2 + 1)) a0_0 x16_1 a0_0 l0_1 a0_0 x198001_2) = some (r1, r2, r3) := by rw [if_pos rfl] at H; exact H
             clear H
             have H := H1
             clear H1
             have H' := Aside0.mk H
             clear H
             have hnb19 := NB194_195.out
             have hnc19 := NB195_194.out
             have hnb20 := NB194_197.out
             have hnc20 := NB197_194.out
             have hcz21_0 := zy BK194 0
             have hcz21_1 := zy BK194 1
             have hfz21_0 := blk_frozen BK194.out 0
             have hfz21_1 := blk_frozen BK194.out 1
             go_wp2_with (first | ((with_reducible refine gate_callee (f := 58) rfl ?_); refine zc 30 Try.func58 #[.agg #[.int .i64 a0_0, .slice A0_1 l0_1.length c0_1], .int .i64 x16_1, .int .i64 x6_2] ?_; (with_reducible refine (impl_Graph_has.calls k2 a0_0 _ _ l0_1 x16_1 x6_2 true _ ?side1 ?side2 A17.out).mono ?_); (case side1 => exact zC (Kd.C_below HR0_1.out HB.out)); (case side2 => exact HC0_1.out); rintro e w22 ⟨rfl, hb⟩; refine ⟨_, rfl, ?_⟩; replace HO_198001 := zM (Kd.R_below (zR HO_198001.out) hb); replace BK194 := zM (blk_below (g := gb194) (o := .cells #[.int .i64 a0_0, .slice A0_1 l0_1.length c0_1] 27 (0, 0)) (zK BK194.out) hb); replace BK195 := zM (blk_below (g := gb195) (o := .cells #[.int .i64 0, .slice none 0 0] 27 (0, 0)) (zK BK195.out) hb); replace BK197 := zM (blk_below (g := gb197) (o := .cells #[.int .i64 a0_0, u198001] 27 (0, 0)) (zK BK197.out) hb); replace HB := zM (below_step zB hb); (try clear hb); (try clear hb2); (try clear hk); (try clear hi)))
             go_roundg k2
             case measure => have := HK1.out; have := HK2.out; omega
             case rel => exact ⟨(wrap64 (x6_2 + 1)), (x198001_2), (u198001), (by first | rfl | (simp; done) | (simp [*]; done)), H', ⟨by have := HK1.out; have := HK2.out; omega⟩, ⟨zR HO_198001.out⟩, ⟨zK BK194.out⟩, ⟨zK BK195.out⟩, ⟨zK BK197.out⟩, ⟨zB⟩⟩
           · replace c18 := Bool.eq_false_iff.mpr c18
             subst c18
             have H1 : (if x198001_2.length < 8796093022208 then (impl_CliqueGraph.l1 k2 x16_1 (wrap64 (x6_2 + 1)) a0_0 x16_1 a0_0 l0_1 a0_0 (x198001_2 ++ [(⟨x16_1, x6_2⟩ : S68)])) else (none)) = some (r1, r2, r3) := by rw [if_neg (show ¬ (false = true) by decide)] at H; exact H
             clear H
             have H := H1
             clear H1
             by_cases c23 : x198001_2.length < 8796093022208
             · rw [if_pos c23] at H
               have LMc23 := Aside0.mk c23
               clear c23
               obtain ⟨y199, hy199⟩ : ∃ y_ : List (S68), y_ = (x198001_2 ++ [(⟨x16_1, x6_2⟩ : S68)]) := ⟨_, rfl⟩
               replace H : (impl_CliqueGraph.l1 k2 x16_1 (wrap64 (x6_2 + 1)) a0_0 x16_1 a0_0 l0_1 a0_0 y199) = some (r1, r2, r3) := by first | (rw [hy199]; with_reducible exact H) | (have H2_ := (Option.bind_some _ _).symm.trans H; rw [hy199]; with_reducible exact H2_) | (have H2_ := (Option.bind_some _ _).symm.trans H; with_reducible exact H2_) | with_reducible exact H | (rw [hy199]; exact H) | exact H
               have Ny199 := Aside0.mk hy199
               clear hy199
               have H' := Aside0.mk H
               clear H
               have hnb24 := NB194_195.out
               have hnc24 := NB195_194.out
               have hnb25 := NB194_197.out
               have hnc25 := NB197_194.out
               have hcz26_0 := zy BK194 0
               have hcz26_1 := zy BK194 1
               have hfz26_0 := blk_frozen BK194.out 0
               have hfz26_1 := blk_frozen BK194.out 1
               go_wp2_with (first | ((with_reducible refine gate_callee (f := 58) rfl ?_); refine zc 30 Try.func58 #[.agg #[.int .i64 a0_0, .slice A0_1 l0_1.length c0_1], .int .i64 x16_1, .int .i64 x6_2] ?_; (with_reducible refine (impl_Graph_has.calls k2 a0_0 _ _ l0_1 x16_1 x6_2 false _ ?side1 ?side2 A17.out).mono ?_); (case side1 => exact zC (Kd.C_below HR0_1.out HB.out)); (case side2 => exact HC0_1.out); rintro e w27 ⟨rfl, hb⟩; refine ⟨_, rfl, ?_⟩; replace HO_198001 := zM (Kd.R_below (zR HO_198001.out) hb); replace BK194 := zM (blk_below (g := gb194) (o := .cells #[.int .i64 a0_0, .slice A0_1 l0_1.length c0_1] 27 (0, 0)) (zK BK194.out) hb); replace BK195 := zM (blk_below (g := gb195) (o := .cells #[.int .i64 0, .slice none 0 0] 27 (0, 0)) (zK BK195.out) hb); replace BK197 := zM (blk_below (g := gb197) (o := .cells #[.int .i64 a0_0, u198001] 27 (0, 0)) (zK BK197.out) hb); replace HB := zM (below_step zB hb); (try clear hb); (try clear hb2); (try clear hk); (try clear hi); have hnb28 := NB197_195.out; have hnc28 := NB195_197.out; have hcz29_0 := zy BK197 0; have hcz29_1 := zy BK197 1; have hfz29_0 := blk_frozen BK197.out 0; have hfz29_1 := blk_frozen BK197.out 1) | ((with_reducible refine gate_builtin (b := .append) (xs := #[.tmp 33, .tmp 37]) rfl ?_); at_builtin; refine Kd.R_append k68 (w0 := w) w.heap.size rfl (.tmp 33) (.tmp 37) 22 68 (.agg #[(.int .i64 0), (.int .i64 0)]) 16 rfl Try.underlying22 info68 rfl (by decide) (by omega) u198001 x198001_2 (⟨x16_1, x6_2⟩ : S68) [.int .i64 x16_1, .int .i64 x6_2] (fun _ => True) (fun _ => False) rfl rfl ?aP (fun _ hk => hk.elim) ?aF ?aO ?aB ?aS ?aL ?_; (case aP => exact k68_mkM _ _ _ (⟨x16_1, x6_2⟩ : S68)); (case aB => exact zB); (case aF => exact (fun _ _ => trivial)); (case aO => exact (zR HO_198001.out)); (case aS => exact (below_size zB)); (case aL => have := LMc23.out; omega); intro v200 w30 ho hb hg hat; rw [← Ny199.out] at ho; replace BK194 := zM (blk_grown (g := gb194) (o := .cells #[.int .i64 a0_0, .slice A0_1 l0_1.length c0_1] 27 (0, 0)) (zK BK194.out) hg (Kd.R_ne HO_198001.out BK194.out (by decide))); replace BK195 := zM (blk_grown (g := gb195) (o := .cells #[.int .i64 0, .slice none 0 0] 27 (0, 0)) (zK BK195.out) hg (Kd.R_ne HO_198001.out BK195.out (by decide))); replace BK197 := zM (blk_grown (g := gb197) (o := .cells #[.int .i64 a0_0, u198001] 27 (0, 0)) (zK BK197.out) hg (Kd.R_ne HO_198001.out BK197.out (by decide))); replace HB := zM (hb); have HO201 := zM (ho); clear HO_198001; clear ho hb hg hat; obtain ⟨Ao31, co31, eo31⟩ := Kd.R_slice HO201.out; subst eo31; have hcz32_0 := zy BK197 0; have hcz32_1 := zy BK197 1; have hfz32_0 := blk_frozen BK197.out 0; have hfz32_1 := blk_frozen BK197.out 1))
               go_roundg k2
               case measure => have := HK1.out; have := HK2.out; omega
               case rel => exact ⟨(wrap64 (x6_2 + 1)), (y199), (.slice Ao31 y199.length co31), (by first | rfl | (simp; done) | (simp [*]; done)), H', ⟨by have := HK1.out; have := HK2.out; omega⟩, ⟨by (with_reducible repeat (first | apply Kd.R_alloc | apply Kd.R_drewN | apply Kd.R_drew)); exact Kd.R_mono (Kd.R_far (p := ⟨gb197, 1, none⟩) (Kd.R_types HO201.out BK197.out (by decide)) (fun _ hk => hk.2) (.slice Ao31 y199.length co31)) (fun _ hk => trivial)⟩, ⟨by (with_reducible repeat (first | refine blk_drewN ?_ _ | refine blk_drew ?_ | refine blk_alloc ?_ _)); refine blk_far ?_ NB194_197.out _; (with_reducible repeat (first | refine blk_drewN ?_ _ | refine blk_drew ?_ | refine blk_alloc ?_ _)); exact BK194.out⟩, ⟨by (with_reducible repeat (first | refine blk_drewN ?_ _ | refine blk_drew ?_ | refine blk_alloc ?_ _)); refine blk_far ?_ NB195_197.out _; (with_reducible repeat (first | refine blk_drewN ?_ _ | refine blk_drew ?_ | refine blk_alloc ?_ _)); exact BK195.out⟩, ⟨by (with_reducible repeat (first | refine blk_drewN ?_ _ | refine blk_drew ?_ | refine blk_alloc ?_ _)); refine blk_put (cs := #[.int .i64 a0_0, u198001]) ?_ 1 _ rfl; (with_reducible repeat (first | refine blk_drewN ?_ _ | refine blk_drew ?_ | refine blk_alloc ?_ _)); exact BK197.out⟩, ⟨zB⟩⟩
             · rw [if_neg c23] at H
               exact absurd H (by simp)
         · rw [if_neg c16] at H
           have c16b0 : decide (x6_2 < a0_0) = false := decide_eq_false c16
           clear c16
           have H' := Aside0.mk H
           clear H
           have hnb33 := NB194_195.out
           have hnc33 := NB195_194.out
           have hnb34 := NB194_197.out
           have hnc34 := NB197_194.out
           have hcz35_0 := zy BK194 0
           have hcz35_1 := zy BK194 1
           have hfz35_0 := blk_frozen BK194.out 0
           have hfz35_1 := blk_frozen BK194.out 1
           go_wp2
           go_roundg k2
           case measure => have := HK1.out; have := HK2.out; omega
           case rel => exact ⟨(wrap64 (x16_1 + 1)), (x198001_2), (u198001), (by first | rfl | (simp; done) | (simp [*]; done)), H', ⟨by have := HK1.out; have := HK2.out; omega⟩, ⟨zR HO_198001.out⟩, ⟨zK BK194.out⟩, ⟨zK BK195.out⟩, ⟨zK BK197.out⟩, ⟨zB⟩⟩
     · rw [if_neg c15] at H
       have c15b0 : decide (x16_1 < a0_0) = false := decide_eq_false c15
       clear c15
       simp only [Option.some.injEq, Prod.mk.injEq] at H
       obtain ⟨rfl, rfl, rfl⟩ := H
       have hnb36 := NB197_194.out
       have hnc36 := NB194_197.out
       have hnb37 := NB197_195.out
       have hnc37 := NB195_197.out
       have hcz38_0 := zy BK197 0
       have hcz38_1 := zy BK197 1
       have hfz38_0 := blk_frozen BK197.out 0
       have hfz38_1 := blk_frozen BK197.out 1
       have hnb39 := NB195_194.out
       have hnc39 := NB194_195.out
       have hcz40_0 := zy BK195 0
       have hcz40_1 := zy BK195 1
       have hfz40_0 := blk_frozen BK195.out 0
       have hfz40_1 := blk_frozen BK195.out 1
       obtain ⟨Ao41, co41, eo41⟩ := Kd.R_slice HO_198001.out
       subst eo41
       go_wp2
       refine bodyPost_ret (results_ct rfl _ _ gb195 27 #[.int .i64 a0_0, .slice Ao41 x198001_1.length co41] (0, 0) _ rfl (by (with_reducible repeat (first | refine blk_drewN ?_ _ | refine blk_drew ?_ | refine blk_alloc ?_ _)); refine blk_put (cs := #[.int .i64 a0_0, .slice none 0 0]) ?_ 1 _ rfl; (with_reducible repeat (first | refine blk_drewN ?_ _ | refine blk_drew ?_ | refine blk_alloc ?_ _)); refine blk_put (cs := #[.int .i64 0, .slice none 0 0]) ?_ 0 _ rfl; (with_reducible repeat (first | refine blk_drewN ?_ _ | refine blk_drew ?_ | refine blk_alloc ?_ _)); exact BK195.out) Try.underlying27 rfl (by kernel_rfl)) rfl ?_
       exact ⟨_, by first | rfl | (simp [errW_none, errW_some] <;> rfl) | (simp [*, errW_none, errW_some] <;> rfl), by (with_reducible repeat (first | apply Kd.R_alloc | apply Kd.R_drewN | apply Kd.R_drew)); exact Kd.R_mono (Kd.R_far (p := ⟨gb195, 1, none⟩) (Kd.R_far (p := ⟨gb195, 0, none⟩) (Kd.R_types HO_198001.out BK195.out (by decide)) (fun _ hk => hk.2) (.int .i64 a0_0)) (fun _ hk => hk.2) (.slice Ao41 x198001_1.length co41)) (fun _ hk => trivial), zB⟩
 · replace c3 := Bool.eq_false_iff.mpr c3
   subst c3
   have H1 : (some (0, ([] : List (S68)), false)) = some (r1, r2, r3) := by rw [if_neg (show ¬ (false = true) by decide)] at H; exact H
   clear H
   have H := H1
   clear H1
   simp only [Option.some.injEq, Prod.mk.injEq] at H
   obtain ⟨rfl, rfl, rfl⟩ := H
   go_enter Try.func21, Try.ntmps21
   go_wp2_with (first | ((with_reducible refine gate_dst (N := 1) rfl ?_); refine zb (w := w) 1 #[.int .i64 a0_0, .slice A0_1 l0_1.length c0_1] 27 zB ?_; clear HB; intro gb194 w42 HB BK194 GW194; have GE194 := GW194) | ((with_reducible refine gate_dst (N := 2) rfl ?_); refine ze 2 #[.int .i64 0, .slice none 0 0] 27 ?_; intro gb195 hg w43 hbox hb; have BK195 := zM (hbox); have GW195 := zM ((by rw [hg]; exact (below_size zB) : w.heap.size ≤ gb195)); have GE195 := zM ((by rw [hg]; exact (below_size zB) : w.heap.size ≤ gb195)); replace HB := zM (below_step zB hb); have NB194_195 := zM ((by rw [hg]; exact Nat.ne_of_lt (blk_lt (g := gb194) (o := .cells #[.int .i64 a0_0, .slice A0_1 l0_1.length c0_1] 27 (0, 0)) (zK BK194.out)) : gb194 ≠ gb195)); have NB195_194 := zM ((by rw [hg]; exact Nat.ne_of_gt (blk_lt (g := gb194) (o := .cells #[.int .i64 a0_0, .slice A0_1 l0_1.length c0_1] 27 (0, 0)) (zK BK194.out)) : gb195 ≠ gb194)); replace BK194 := zM (blk_below (g := gb194) (o := .cells #[.int .i64 a0_0, .slice A0_1 l0_1.length c0_1] 27 (0, 0)) (zK BK194.out) hb); clear hb hbox hg; have hnb44 := NB194_195.out; have hnc44 := NB195_194.out; have hcz45_0 := zy BK194 0; have hcz45_1 := zy BK194 1; have hfz45_0 := blk_frozen BK194.out 0; have hfz45_1 := blk_frozen BK194.out 1) | ((with_reducible refine gate_callee (f := 18) rfl ?_); refine zc 8 Try.func18 #[.agg #[.int .i64 a0_0, .slice A0_1 l0_1.length c0_1]] ?_; (with_reducible refine (impl_IsGraph.calls k a0_0 _ _ l0_1 false _ ?side1 ?side2 A2.out).mono ?_); (case side1 => exact zC (Kd.C_below HR0_1.out HB.out)); (case side2 => exact HC0_1.out); rintro e w46 ⟨rfl, hb⟩; refine ⟨_, rfl, ?_⟩; replace BK194 := zM (blk_below (g := gb194) (o := .cells #[.int .i64 a0_0, .slice A0_1 l0_1.length c0_1] 27 (0, 0)) (zK BK194.out) hb); replace BK195 := zM (blk_below (g := gb195) (o := .cells #[.int .i64 0, .slice none 0 0] 27 (0, 0)) (zK BK195.out) hb); replace HB := zM (below_step zB hb); (try clear hb); (try clear hb2); (try clear hk); (try clear hi); have hcz47_0 := zy BK195 0; have hcz47_1 := zy BK195 1; have hfz47_0 := blk_frozen BK195.out 0; have hfz47_1 := blk_frozen BK195.out 1))
   refine bodyPost_ret (results_ct rfl _ _ gb195 27 #[.int .i64 0, .slice none 0 0] (0, 0) _ rfl (by (with_reducible repeat (first | refine blk_drewN ?_ _ | refine blk_drew ?_ | refine blk_alloc ?_ _)); refine blk_put (cs := #[.int .i64 0, .slice none 0 0]) ?_ 1 _ rfl; (with_reducible repeat (first | refine blk_drewN ?_ _ | refine blk_drew ?_ | refine blk_alloc ?_ _)); refine blk_put (cs := #[.int .i64 0, .slice none 0 0]) ?_ 0 _ rfl; (with_reducible repeat (first | refine blk_drewN ?_ _ | refine blk_drew ?_ | refine blk_alloc ?_ _)); exact BK195.out) Try.underlying27 rfl (by kernel_rfl)) rfl ?_
   exact ⟨_, by first | rfl | (simp [errW_none, errW_some] <;> rfl) | (simp [*, errW_none, errW_some] <;> rfl), by first | exact Kd.R_nil _ _ _ _ _ | exact Kd.N_nil _ _ _ _ _ | exact Kd.V_nil _ _ _ _ _ | exact Kd.Q_nil _ _ _ _ _ | exact Kd.S_nil _ _ _ _ _, zB⟩

/-! ### laws_markGraph: function 22 -/
def laws_markGraph.f (a0_0 : Int) (l0_1 : List (S68)) (a1 : Int) : Option (Int × (List (S68))) := (laws_markIntA2S.f l0_1 a1).bind fun bt203 => (some (bt203.1, bt203.2))
set_option maxHeartbeats 8000000 in
set_option maxRecDepth 100000 in
theorem laws_markGraph.calls (a0_0 : Int) (P0_1_ : Nat → Prop) (u9000_ : Value) (l0_1 : List (S68)) (a1 : Int) (r1 : Int) (r2 : List (S68)) (w0 w : World) (hB : Below w0.heap.size w0 w) (ho0_1 : Kd.R k68 68 w w0.heap.size P0_1_ u9000_ l0_1) (h : laws_markGraph.f a0_0 l0_1 a1 = some (r1, r2)) :
 Calls Try.prog 22 #[.agg #[.int .i64 a0_0, u9000_], .int .i64 a1] w fun e w' => e = .returned (.int .i64 r1) ∧ Kd.R k68 68 w' w0.heap.size (fun k_ => (P0_1_ k_ ∨ w.heap.size ≤ k_)) u9000_ r2 ∧ Below w0.heap.size w0 w' ∧ Kept w w' (fun k_ => P0_1_ k_) := by
 have hu27 := Try.underlying27
 have HO0_1 := zM (show Kd.R k68 68 w w0.heap.size (fun k_ => (P0_1_ k_ ∨ w.heap.size ≤ k_)) u9000_ l0_1 from Kd.R_mono ho0_1 (fun k_ hk => (.inl hk)))
 have HK := zM (Kept.refl w (fun k_ => P0_1_ k_))
 have HW0 := Aside0.mk hB.size
 have HB := Aside0.mk hB
 clear hB
 have H : ((laws_markIntA2S.f l0_1 a1).bind fun bt203 => (some (bt203.1, bt203.2))) = some (r1, r2) := h
 clear h
 replace H := Option.bind_eq_some_iff.mp H
 obtain ⟨⟨t203, t204⟩, A30, H⟩ := H
 replace H : (some (t203, t204)) = some (r1, r2) := H
 have A3 := Aside0.mk A30
 clear A30
 simp only [Option.some.injEq, Prod.mk.injEq] at H
 obtain ⟨rfl, rfl⟩ := H
 obtain ⟨Ao4, co4, eo4⟩ := Kd.R_slice HO0_1.out
 subst eo4
 go_enter Try.func22, Try.ntmps22
 go_wp2_with (first | ((with_reducible refine gate_dst (N := 2) rfl ?_); refine ze 2 #[.int .i64 a0_0, .slice Ao4 l0_1.length co4] 27 ?_; intro gb202 hg w5 hbox hb; replace HO0_1 := zM (Kd.R_below (zR HO0_1.out) hb); have BK202 := zM (hbox); have GW202 := zM ((by rw [hg]; exact (by first | exact HK.out.1 | exact (show Kept w _ (fun k_ => P0_1_ k_) from by repeat (first | (with_reducible first | exact HK.out | apply Kept.alloc | apply Kept.drewN | apply Kept.drew) | exact HK.out)).1) : w.heap.size ≤ gb202)); replace HK := zM (Kept.below (S := (fun k_ => P0_1_ k_)) (by repeat (first | (with_reducible first | exact HK.out | apply Kept.alloc | apply Kept.drewN | apply Kept.drew) | exact HK.out)) hb); have GE202 := zM ((by rw [hg]; exact (below_size zB) : w0.heap.size ≤ gb202)); replace HB := zM (below_step zB hb); clear hb hbox hg; have hcz6_0 := zy BK202 0; have hcz6_1 := zy BK202 1; have hfz6_0 := blk_frozen BK202.out 0; have hfz6_1 := blk_frozen BK202.out 1) | ((with_reducible refine gate_callee (f := 59) rfl ?_); refine zc 8 Try.func59 #[.slice Ao4 l0_1.length co4, .int .i64 a1] ?_; (with_reducible refine (laws_markIntA2S.calls (fun k_ => some k_ = (.slice Ao4 l0_1.length co4 : Value).ownBlock) (.slice Ao4 l0_1.length co4) l0_1 a1 t203 t204 w0 _ ?side1 ?side2 A3.out).mono ?_); (case side1 => repeat (first | (with_reducible first | exact HB.out | apply below_alloc | apply pw_below_drewN | apply below_drew1 | refine below_set ?_ GE202.out) | exact HB.out)); (case side2 => exact Kd.R_tight rfl HO0_1.out); rintro e w7 ⟨rfl, hy0, hb, hkp⟩; refine ⟨_, rfl, ?_⟩; replace BK202 := zM (blk_kept (zK BK202.out) hkp (fun hs_ => (fun e_ => (Kd.R_ne HO0_1.out BK202.out (by decide)) e_) hs_)); replace HK := zM (Kept.then_ (S := (fun k_ => P0_1_ k_)) (by repeat (first | (with_reducible first | exact HK.out | apply Kept.alloc | apply Kept.drewN | apply Kept.drew | refine Kept.setCell ?_ (.inr GW202.out) _) | exact HK.out)) hkp (fun k_ hs_ => (fun e_ => (HO0_1.out.1 k_ e_.symm)) hs_)); replace HO0_1 := zM (Kd.R_reok rfl hy0 (fun k_ e_ => HO0_1.out.1 k_ e_)); replace HB := zM (hb); (try clear hb); (try clear hkp); (try clear hy0)))
 go_ret
 exact ⟨by first | rfl | (simp [errW_none, errW_some] <;> rfl) | (simp [*, errW_none, errW_some] <;> rfl), by (with_reducible repeat (first | apply Kd.R_alloc | apply Kd.R_drewN | apply Kd.R_drew)); exact HO0_1.out, by repeat (first | (with_reducible first | exact HB.out | apply below_alloc | apply pw_below_drewN | apply below_drew1 | refine below_set ?_ GE202.out) | exact HB.out), by repeat (first | (with_reducible first | exact HK.out | apply Kept.alloc | apply Kept.drewN | apply Kept.drew | refine Kept.setCell ?_ (.inr GW202.out) _) | exact HK.out)⟩

/-! ### laws_heldGraph: function 23 -/
def laws_heldGraph.f (a0_0 : Int) (l0_1 : List (S68)) (a1 : Int) : Option (Int) := (laws_heldIntA2S.f l0_1 a1).bind fun t206 => (if t206 < 0 then (some (-1)) else (some t206))
set_option maxHeartbeats 8000000 in
set_option maxRecDepth 100000 in
theorem laws_heldGraph.calls (a0_0 : Int) (A0_1 : Option Addr) (c0_1 : Nat) (l0_1 : List (S68)) (a1 : Int) (r : Int) (w : World) (hr0_1 : Kd.C k68 w A0_1 l0_1.length l0_1) (hc0_1 : l0_1.length ≤ c0_1) (h : laws_heldGraph.f a0_0 l0_1 a1 = some r) :
 Calls Try.prog 23 #[.agg #[.int .i64 a0_0, .slice A0_1 l0_1.length c0_1], .int .i64 a1] w fun e w' => e = .returned (.int .i64 r) ∧ Below w.heap.size w w' := by
 have hu27 := Try.underlying27
 have HR0_1 := Aside0.mk hr0_1
 have HC0_1 := Aside0.mk hc0_1
 clear hr0_1 hc0_1
 have HB := zM (Below.refl w.heap.size w)
 have H : ((laws_heldIntA2S.f l0_1 a1).bind fun t206 => (if t206 < 0 then (some (-1)) else (some t206))) = some r := h
 clear h
 replace H := Option.bind_eq_some_iff.mp H
 obtain ⟨t206, A30, H⟩ := H
 have A3 := Aside0.mk A30
 clear A30
 by_cases c4 : t206 < 0
 · rw [if_pos c4] at H
   have c4b0 := decide_eq_true c4
   clear c4
   obtain rfl := Option.some.inj H
   go_enter Try.func23, Try.ntmps23
   go_wp2_with (first | ((with_reducible refine gate_dst (N := 2) rfl ?_); refine zb (w := w) 2 #[.int .i64 a0_0, .slice A0_1 l0_1.length c0_1] 27 zB ?_; clear HB; intro gb205 w5 HB BK205 GW205; have GE205 := GW205; have hcz6_0 := zy BK205 0; have hcz6_1 := zy BK205 1; have hfz6_0 := blk_frozen BK205.out 0; have hfz6_1 := blk_frozen BK205.out 1) | ((with_reducible refine gate_callee (f := 60) rfl ?_); refine zc 8 Try.func60 #[.slice A0_1 l0_1.length c0_1, .int .i64 a1] ?_; (with_reducible refine (laws_heldIntA2S.calls _ _ l0_1 a1 t206 _ ?side1 ?side2 A3.out).mono ?_); (case side1 => exact zC (Kd.C_below HR0_1.out HB.out)); (case side2 => exact HC0_1.out); rintro e w7 ⟨rfl, hb⟩; refine ⟨_, rfl, ?_⟩; replace BK205 := zM (blk_below (g := gb205) (o := .cells #[.int .i64 a0_0, .slice A0_1 l0_1.length c0_1] 27 (0, 0)) (zK BK205.out) hb); replace HB := zM (below_step zB hb); (try clear hb); (try clear hb2); (try clear hk); (try clear hi)))
   go_ret
   exact ⟨by first | rfl | (simp [errW_none, errW_some] <;> rfl) | (simp [*, errW_none, errW_some] <;> rfl), zB⟩
 · rw [if_neg c4] at H
   have c4b0 : decide (t206 < 0) = false := decide_eq_false c4
   clear c4
   obtain rfl := Option.some.inj H
   go_enter Try.func23, Try.ntmps23
   go_wp2_with (first | ((with_reducible refine gate_dst (N := 2) rfl ?_); refine zb (w := w) 2 #[.int .i64 a0_0, .slice A0_1 l0_1.length c0_1] 27 zB ?_; clear HB; intro gb205 w8 HB BK205 GW205; have GE205 := GW205; have hcz9_0 := zy BK205 0; have hcz9_1 := zy BK205 1; have hfz9_0 := blk_frozen BK205.out 0; have hfz9_1 := blk_frozen BK205.out 1) | ((with_reducible refine gate_callee (f := 60) rfl ?_); refine zc 8 Try.func60 #[.slice A0_1 l0_1.length c0_1, .int .i64 a1] ?_; (with_reducible refine (laws_heldIntA2S.calls _ _ l0_1 a1 t206 _ ?side1 ?side2 A3.out).mono ?_); (case side1 => exact zC (Kd.C_below HR0_1.out HB.out)); (case side2 => exact HC0_1.out); rintro e w10 ⟨rfl, hb⟩; refine ⟨_, rfl, ?_⟩; replace BK205 := zM (blk_below (g := gb205) (o := .cells #[.int .i64 a0_0, .slice A0_1 l0_1.length c0_1] 27 (0, 0)) (zK BK205.out) hb); replace HB := zM (below_step zB hb); (try clear hb); (try clear hb2); (try clear hk); (try clear hi)))
   go_ret
   exact ⟨by first | rfl | (simp [errW_none, errW_some] <;> rfl) | (simp [*, errW_none, errW_some] <;> rfl), zB⟩

end Go.Proofs.Ytpbngmkhpcgpkaa.P
