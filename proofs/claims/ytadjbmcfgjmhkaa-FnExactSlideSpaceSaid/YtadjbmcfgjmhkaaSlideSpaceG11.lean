-- Written by a program of this session (the kit's print, turned: wip/print/patch.py) out of the translation. Not trusted: Lean checks it.
import Derived.Test.YtadjbmcfgjmhkaaSlideSpaceG5
import Derived.Test.YtadjbmcfgjmhkaaSlideSpaceG10
import Derived.Test.YtadjbmcfgjmhkaaSlideSpaceG7
import Derived.Test.YtadjbmcfgjmhkaaSlideSpaceG8
import Derived.Test.YtadjbmcfgjmhkaaSlideSpaceG9
import Derived.Shelf.SlSortCmp.NoneTotal
import Derived.Handy
import Derived.Shelf.Small.Bits
import Derived.Shelf.Strconv.Itoa0
import Derived.Ground.Names2Prog
import Derived.Shelf.Slices.SearchI
import Derived.Ground.SlsfProg
import Derived.Shelf.SlSortCmp.Insertion
import Derived.Shelf.SlSortCmp.SiftDown1
import Derived.Shelf.SlSortCmp.HeapSort1
import Derived.Shelf.SlSortCmp.Insertion1
import Derived.Shelf.SlSortCmp.Median1
import Derived.Shelf.SlSortCmp.Pivot1
import Derived.Shelf.SlSortCmp.ReverseRange1
import Derived.Shelf.SlSortCmp.PartialInsertion1
import Derived.Shelf.SlSortCmp.PartitionEqual1
import Derived.Shelf.SlSortCmp.Partition1
import Derived.Shelf.SlSortCmp.Pdq1
import Derived.Shelf.SlSortCmp.Whole1
import Derived.Test.YtadjbmcfgjmhkaaProg
import Derived.ProofKit
import Derived.OpenShut
import Derived.Deep.Matrix
import Derived.Lib.SmallJoins
namespace Go.Proofs.Ytadjbmcfgjmhkaa.P
open Go.RowKit Go.Proofs.YtadjbmcfgjmhkaaW.PrintWords Go.Proofs.YtadjbmcfgjmhkaaW.PrintLast Go.Proofs.YtadjbmcfgjmhkaaW.PrintMore
attribute [local go_sem] max2_int min2_int max_two min_two max_three min_three max_four min_four   -- for this text's walks alone
set_option linter.unusedVariables false
set_option linter.unusedSimpArgs false

/-! ### spec_l3Free: function 64 -/
mutual
def spec_l3Free.l0 : Nat → List Int → Int → Int → List (S70) → Option (Bool)
 | 0, _, _, _, _ => none
 | k + 1, x1, x5, x276000, x276001 => if x5 < (x1.length : Int) then (spec_l3Free.l1 k x1 x5 0 x276000 x276001) else ((spec_l2Set.f k x276000 x276001 x1).bind fun t276 => (some t276))
def spec_l3Free.l1 : Nat → List Int → Int → Int → Int → List (S70) → Option (Bool)
 | 0, _, _, _, _, _ => none
 | k + 1, x1, x5, x6, x276000, x276001 => if x6 < x5 then (if 0 ≤ x6 then (if x6 < (x1.length : Int) then (if 0 ≤ x5 then (if x5 < (x1.length : Int) then ((spec_l2Near.f k x276000 x276001 (rd x1 x6) (rd x1 x5)).bind fun t279 => (if t279 = true then (some false) else (spec_l3Free.l1 k x1 x5 (wrap64 (x6 + 1)) x276000 x276001))) else (none)) else (none)) else (none)) else (none)) else (spec_l3Free.l0 k x1 (wrap64 (x5 + 1)) x276000 x276001)
end
def spec_l3Free.f (k : Nat) (a0_0 : Int) (l0_1 : List (S70)) (l1 : List Int) : Option (Bool) := spec_l3Free.l0 k l1 0 a0_0 l0_1
def spec_l3Free.T7 : Bool × List (List Nat × List Nat) := (true, [([], []), ([], []), ([], []), ([1, 2], [1, 2]), ([3], [3]), ([], []), ([], []), ([5, 6], [5, 6]), ([7], [7]), ([0, 4, 8], [0, 4, 8])])
def spec_l3Free.B7 : List Nat := [0, 0, 0, 6, 14, 0, 0, 96, 224, 511]
theorem spec_l3Free.tab7 : rtab .any (opsOf Try.f64 7) = spec_l3Free.T7 := by kernel_rfl
theorem spec_l3Free.bits7 : waitsOk spec_l3Free.T7.2 spec_l3Free.B7 = true := by kernel_rfl
set_option maxHeartbeats 8000000 in
set_option maxRecDepth 100000 in
theorem spec_l3Free.calls (k : Nat) (a0_0 : Int) (A0_1 : Option Addr) (c0_1 : Nat) (l0_1 : List (S70)) (A1 : Option Addr) (c1 : Nat) (l1 : List Int) (r : Bool) (w : World) (hr0_1 : Kd.C k70 w A0_1 l0_1.length l0_1) (hc0_1 : l0_1.length ≤ c0_1) (hr1 : Kd.C (Kd.int .i64) w A1 l1.length l1) (hc1 : l1.length ≤ c1) (h : spec_l3Free.f k a0_0 l0_1 l1 = some r) :
 Calls Try.prog 64 #[.agg #[.int .i64 a0_0, .slice A0_1 l0_1.length c0_1], .slice A1 l1.length c1] w fun e w' => e = .returned (.bool r) ∧ Below w.heap.size w w' := by
 have hu28 := Try.underlying28
 have HR0_1 := Aside0.mk hr0_1
 have HC0_1 := Aside0.mk hc0_1
 clear hr0_1 hc0_1
 have HR1 := Aside0.mk hr1
 have HC1 := Aside0.mk hc1
 clear hr1 hc1
 have HB := zM (Below.refl w.heap.size w)
 have H : (spec_l3Free.l0 k l1 0 a0_0 l0_1) = some r := h
 clear h
 have H' := Aside0.mk H
 clear H
 go_enter Try.func64, Try.ntmps64
 go_wp2_with (first | ((with_reducible refine gate_dst (N := 2) rfl ?_); refine zb (w := w) 2 #[.int .i64 a0_0, .slice A0_1 l0_1.length c0_1] 28 zB ?_; clear HB; intro gb275 w3 HB BK275 GW275; have GE275 := GW275))
 go_loopg [5] k (fun kq v5 w' => ∃ (x5_1 : Int), v5 = .int .i64 x5_1 ∧ Aside0 (spec_l3Free.l0 kq l1 x5_1 a0_0 l0_1 = some r) ∧ Aside0 (kq ≤ k) ∧ Aside0 (w'.heap[gb275]? = some (.cells #[.int .i64 a0_0, (.slice A0_1 l0_1.length c0_1)] 28 (0, 0))) ∧ Aside0 (Below w.heap.size w w'))
 case atStart => exact ⟨(0), (by first | rfl | (simp; done) | (simp [*]; done)), H', ⟨Nat.le_refl _⟩, ⟨zK BK275.out⟩, ⟨zB⟩⟩
 case round =>
  clear H'
  try clear c1
  try clear p2
  obtain ⟨x5_1, rfl, HA, HK1, BK275, HB⟩ := hrel
  cases gk with
  | zero => exact absurd HA.out (by simp [spec_l3Free.l0])
  | succ k1 =>
   have H := HA.out
   clear HA
   simp only [spec_l3Free.l0] at H
   by_cases c4 : x5_1 < (l1.length : Int)
   · rw [if_pos c4] at H
     have c4b0 := decide_eq_true c4
     clear c4
     have H' := Aside0.mk H
     clear H
     go_wp2
     go_loopg [6] k1 (fun kq v6 w' => ∃ (x6_2 : Int), v6 = .int .i64 x6_2 ∧ Aside0 (spec_l3Free.l1 kq l1 x5_1 x6_2 a0_0 l0_1 = some r) ∧ Aside0 (kq ≤ k1) ∧ Aside0 (w'.heap[gb275]? = some (.cells #[.int .i64 a0_0, (.slice A0_1 l0_1.length c0_1)] 28 (0, 0))) ∧ Aside0 (Below w.heap.size w w'))
     case atStart => exact ⟨(0), (by first | rfl | (simp; done) | (simp [*]; done)), H', ⟨Nat.le_refl _⟩, ⟨zK BK275.out⟩, ⟨zB⟩⟩
     case round =>
      clear H'
      try clear c1
      try clear p2
      try clear c4
      try clear c4b0
      try clear p2
      obtain ⟨x6_2, rfl, HA, HK2, BK275, HB⟩ := hrel
      cases gk with
      | zero => exact absurd HA.out (by simp [spec_l3Free.l1])
      | succ k2 =>
       have H := HA.out
       clear HA
       simp only [spec_l3Free.l1] at H
       by_cases c5 : x6_2 < x5_1
       · rw [if_pos c5] at H
         have c5b0 := decide_eq_true c5
         clear c5
         by_cases c6 : 0 ≤ x6_2
         · rw [if_pos c6] at H
           have c6b0 := decide_eq_true c6
           clear c6
           by_cases c7 : x6_2 < (l1.length : Int)
           · rw [if_pos c7] at H
             have c7b0 := decide_eq_true c7
             clear c7
             by_cases c8 : 0 ≤ x5_1
             · rw [if_pos c8] at H
               have c8b0 := decide_eq_true c8
               clear c8
               by_cases c9 : x5_1 < (l1.length : Int)
               · rw [if_pos c9] at H
                 have c9b0 := decide_eq_true c9
                 clear c9
                 replace H := Option.bind_eq_some_iff.mp H
                 obtain ⟨t279, A100, H⟩ := H
                 have A10 := Aside0.mk A100
                 clear A100
                 by_cases c11 : t279 = true
                 · subst c11
                   rw [if_pos rfl] at H
                   obtain rfl := Option.some.inj H
                   try go_wp2
                   replace BK275 := zM (blk_drew BK275.out)
                   replace HB := zM (below_drew1 HB.out)
                   have p277 : 0 ≤ (x6_2 : Int) := of_decide_eq_true zA
                   have q277 : x6_2 < (l1.length : Int) := of_decide_eq_true zA
                   obtain ⟨ad277, e277, hx277_0⟩ := Kd.at_int HR1.out x6_2 p277 q277
                   have hw277_0 := hx277_0
                   cases e277
                   (try replace hx277_0 := (HB.out.cell (World.block_lt_of_cell? w _ hx277_0)).trans hx277_0)
                   replace p277 := eq_true p277
                   replace q277 := eq_true q277
                   have p278 : 0 ≤ (x5_1 : Int) := of_decide_eq_true zA
                   have q278 : x5_1 < (l1.length : Int) := of_decide_eq_true zA
                   obtain ⟨ad278, e278, hx278_0⟩ := Kd.at_int HR1.out x5_1 p278 q278
                   have hw278_0 := hx278_0
                   obtain rfl : ad277 = ad278 := (by injection e278)
                   (try replace hx278_0 := (HB.out.cell (World.block_lt_of_cell? w _ hx278_0)).trans hx278_0)
                   replace p278 := eq_true p278
                   replace q278 := eq_true q278
                   refine zs (n := 10) (fun w' => w'.cell? ⟨gb275, 0, none⟩ = some (.int .i64 a0_0) ∧ w'.cell? ⟨gb275, 1, none⟩ = some (.slice A0_1 l0_1.length c0_1) ∧ w'.cell? (ad277.add (x6_2).toNat) = some (.int .i64 (rd l1 x6_2)) ∧ w'.cell? (ad277.add (x5_1).toNat) = some (.int .i64 (rd l1 x5_1))) ⟨(blk_cell BK275.out 0).trans rfl, (blk_cell BK275.out 1).trans rfl, ((HB.out.cell (World.block_lt_of_cell? w _ hw277_0)).trans hw277_0), ((HB.out.cell (World.block_lt_of_cell? w _ hw278_0)).trans hw278_0)⟩ (fun hHeld => ?_); refine with_tabW spec_l3Free.tab7 spec_l3Free.bits7 (fun HT_ HW_ => ?_)
                   generalize wr.drew = w12 at BK275 HB hx277_0 hx278_0 hHeld ⊢
                   refine zp HT_ 1 19 ?_
                   refine zp HT_ 2 20 ?_
                   refine zp HT_ 3 21 ?_
                   refine zp HT_ 5 23 ?_
                   refine zp HT_ 6 24 ?_
                   refine zp HT_ 7 25 ?_
                   refine zt HT_ HW_ 0 18 hHeld ?_ (hy := by rintro w' ⟨s0, s1, s2, s3⟩; go_simp; with_reducible rfl)
                   refine zt HT_ HW_ 4 22 hHeld ?_ (hy := by rintro w' ⟨s0, s1, s2, s3⟩; go_simp; with_reducible rfl)
                   refine zt HT_ HW_ 8 26 hHeld ?_ (hy := by rintro w' ⟨s0, s1, s2, s3⟩; go_simp; with_reducible rfl)
                   refine zg HT_ 9 27 Try.func88 #[.agg #[.int .i64 a0_0, .slice A0_1 l0_1.length c0_1], .int .i64 (rd l1 x6_2), .int .i64 (rd l1 x5_1)] (fun K hK => ?_)
                   with_reducible refine (spec_l2Near.calls k2 a0_0 _ _ l0_1 (rd l1 x6_2) (rd l1 x5_1) true _ ?side1 ?side2 A10.out).mono ?_
                   (case side1 => exact zC (Kd.C_below HR0_1.out HB.out))
                   (case side2 => exact HC0_1.out)
                   rintro e w13 ⟨rfl, hb⟩
                   refine ⟨_, rfl, ?_⟩
                   replace BK275 := zM (blk_below (g := gb275) (o := .cells #[.int .i64 a0_0, .slice A0_1 l0_1.length c0_1] 28 (0, 0)) (zK BK275.out) hb)
                   replace HB := zM (below_step zB hb)
                   (try clear hb)
                   (try clear hb2)
                   (try clear hk)
                   (try clear hi)
                   refine hK.out _ _ ⟨(blk_cell BK275.out 0).trans rfl, (blk_cell BK275.out 1).trans rfl, ((HB.out.cell (World.block_lt_of_cell? w _ hw277_0)).trans hw277_0), ((HB.out.cell (World.block_lt_of_cell? w _ hw278_0)).trans hw278_0)⟩ (fun hHeld => ?_)
                   clear hK K
                   refine zn 27 ?_
                   refine zo HT_ ?_
                   try go_wp2
                   go_ret
                   exact ⟨by first | rfl | (simp [errW_none, errW_some] <;> rfl) | (simp [*, errW_none, errW_some] <;> rfl), zB⟩
                 · replace c11 := Bool.eq_false_iff.mpr c11
                   subst c11
                   have H1 : (spec_l3Free.l1 k2 l1 x5_1 (wrap64 (x6_2 + 1)) a0_0 l0_1) = some r := by rw [if_neg (show ¬ (false = true) by decide)] at H; exact H
                   clear H
                   have H := H1
                   clear H1
                   have H' := Aside0.mk H
                   clear H
                   try go_wp2
                   replace BK275 := zM (blk_drew BK275.out)
                   replace HB := zM (below_drew1 HB.out)
                   have p277 : 0 ≤ (x6_2 : Int) := of_decide_eq_true zA
                   have q277 : x6_2 < (l1.length : Int) := of_decide_eq_true zA
                   obtain ⟨ad277, e277, hx277_0⟩ := Kd.at_int HR1.out x6_2 p277 q277
                   have hw277_0 := hx277_0
                   cases e277
                   (try replace hx277_0 := (HB.out.cell (World.block_lt_of_cell? w _ hx277_0)).trans hx277_0)
                   replace p277 := eq_true p277
                   replace q277 := eq_true q277
                   have p278 : 0 ≤ (x5_1 : Int) := of_decide_eq_true zA
                   have q278 : x5_1 < (l1.length : Int) := of_decide_eq_true zA
                   obtain ⟨ad278, e278, hx278_0⟩ := Kd.at_int HR1.out x5_1 p278 q278
                   have hw278_0 := hx278_0
                   obtain rfl : ad277 = ad278 := (by injection e278)
                   (try replace hx278_0 := (HB.out.cell (World.block_lt_of_cell? w _ hx278_0)).trans hx278_0)
                   replace p278 := eq_true p278
                   replace q278 := eq_true q278
                   refine zs (n := 10) (fun w' => w'.cell? ⟨gb275, 0, none⟩ = some (.int .i64 a0_0) ∧ w'.cell? ⟨gb275, 1, none⟩ = some (.slice A0_1 l0_1.length c0_1) ∧ w'.cell? (ad277.add (x6_2).toNat) = some (.int .i64 (rd l1 x6_2)) ∧ w'.cell? (ad277.add (x5_1).toNat) = some (.int .i64 (rd l1 x5_1))) ⟨(blk_cell BK275.out 0).trans rfl, (blk_cell BK275.out 1).trans rfl, ((HB.out.cell (World.block_lt_of_cell? w _ hw277_0)).trans hw277_0), ((HB.out.cell (World.block_lt_of_cell? w _ hw278_0)).trans hw278_0)⟩ (fun hHeld => ?_); refine with_tabW spec_l3Free.tab7 spec_l3Free.bits7 (fun HT_ HW_ => ?_)
                   generalize wr.drew = w14 at BK275 HB hx277_0 hx278_0 hHeld ⊢
                   refine zp HT_ 1 19 ?_
                   refine zp HT_ 2 20 ?_
                   refine zp HT_ 3 21 ?_
                   refine zp HT_ 5 23 ?_
                   refine zp HT_ 6 24 ?_
                   refine zp HT_ 7 25 ?_
                   refine zt HT_ HW_ 0 18 hHeld ?_ (hy := by rintro w' ⟨s0, s1, s2, s3⟩; go_simp; with_reducible rfl)
                   refine zt HT_ HW_ 4 22 hHeld ?_ (hy := by rintro w' ⟨s0, s1, s2, s3⟩; go_simp; with_reducible rfl)
                   refine zt HT_ HW_ 8 26 hHeld ?_ (hy := by rintro w' ⟨s0, s1, s2, s3⟩; go_simp; with_reducible rfl)
                   refine zg HT_ 9 27 Try.func88 #[.agg #[.int .i64 a0_0, .slice A0_1 l0_1.length c0_1], .int .i64 (rd l1 x6_2), .int .i64 (rd l1 x5_1)] (fun K hK => ?_)
                   with_reducible refine (spec_l2Near.calls k2 a0_0 _ _ l0_1 (rd l1 x6_2) (rd l1 x5_1) false _ ?side1 ?side2 A10.out).mono ?_
                   (case side1 => exact zC (Kd.C_below HR0_1.out HB.out))
                   (case side2 => exact HC0_1.out)
                   rintro e w15 ⟨rfl, hb⟩
                   refine ⟨_, rfl, ?_⟩
                   replace BK275 := zM (blk_below (g := gb275) (o := .cells #[.int .i64 a0_0, .slice A0_1 l0_1.length c0_1] 28 (0, 0)) (zK BK275.out) hb)
                   replace HB := zM (below_step zB hb)
                   (try clear hb)
                   (try clear hb2)
                   (try clear hk)
                   (try clear hi)
                   refine hK.out _ _ ⟨(blk_cell BK275.out 0).trans rfl, (blk_cell BK275.out 1).trans rfl, ((HB.out.cell (World.block_lt_of_cell? w _ hw277_0)).trans hw277_0), ((HB.out.cell (World.block_lt_of_cell? w _ hw278_0)).trans hw278_0)⟩ (fun hHeld => ?_)
                   clear hK K
                   refine zn 27 ?_
                   refine zo HT_ ?_
                   try go_wp2
                   go_roundg k2
                   case measure => have := HK1.out; have := HK2.out; omega
                   case rel => exact ⟨(wrap64 (x6_2 + 1)), (by first | rfl | (simp; done) | (simp [*]; done)), H', ⟨by have := HK1.out; have := HK2.out; omega⟩, ⟨zK BK275.out⟩, ⟨zB⟩⟩
               · rw [if_neg c9] at H
                 exact absurd H (by simp)
             · rw [if_neg c8] at H
               exact absurd H (by simp)
           · rw [if_neg c7] at H
             exact absurd H (by simp)
         · rw [if_neg c6] at H
           exact absurd H (by simp)
       · rw [if_neg c5] at H
         have c5b0 : decide (x6_2 < x5_1) = false := decide_eq_false c5
         clear c5
         have H' := Aside0.mk H
         clear H
         go_wp2
         go_roundg k2
         case measure => have := HK1.out; have := HK2.out; omega
         case rel => exact ⟨(wrap64 (x5_1 + 1)), (by first | rfl | (simp; done) | (simp [*]; done)), H', ⟨by have := HK1.out; have := HK2.out; omega⟩, ⟨zK BK275.out⟩, ⟨zB⟩⟩
   · rw [if_neg c4] at H
     have c4b0 : decide (x5_1 < (l1.length : Int)) = false := decide_eq_false c4
     clear c4
     replace H := Option.bind_eq_some_iff.mp H
     obtain ⟨t276, A160, H⟩ := H
     have A16 := Aside0.mk A160
     clear A160
     obtain rfl := Option.some.inj H
     have hcz17_0 := zy BK275 0
     have hcz17_1 := zy BK275 1
     have hfz17_0 := blk_frozen BK275.out 0
     have hfz17_1 := blk_frozen BK275.out 1
     go_wp2_with (first | ((with_reducible refine gate_callee (f := 89) rfl ?_); refine zc 30 Try.func89 #[.agg #[.int .i64 a0_0, .slice A0_1 l0_1.length c0_1], .slice A1 l1.length c1] ?_; (with_reducible refine (spec_l2Set.calls k1 a0_0 _ _ l0_1 _ _ l1 t276 _ ?side1 ?side2 ?side3 ?side4 A16.out).mono ?_); (case side1 => exact zC (Kd.C_below HR0_1.out HB.out)); (case side2 => exact HC0_1.out); (case side3 => exact zC (Kd.C_below HR1.out HB.out)); (case side4 => exact HC1.out); rintro e w18 ⟨rfl, hb⟩; refine ⟨_, rfl, ?_⟩; replace BK275 := zM (blk_below (g := gb275) (o := .cells #[.int .i64 a0_0, .slice A0_1 l0_1.length c0_1] 28 (0, 0)) (zK BK275.out) hb); replace HB := zM (below_step zB hb); (try clear hb); (try clear hb2); (try clear hk); (try clear hi)))
     go_ret
     exact ⟨by first | rfl | (simp [errW_none, errW_some] <;> rfl) | (simp [*, errW_none, errW_some] <;> rfl), zB⟩

/-! ### spec_l1Has: function 103 -/
def spec_l1Has.l0 : Nat → List Int → Int → Int → Option (Bool)
 | 0, _, _, _ => none
 | k + 1, x0, x1, x5 => if x5 < (x0.length : Int) then (if 0 ≤ x5 then (if (rd x0 x5) = x1 then (some true) else (spec_l1Has.l0 k x0 x1 (wrap64 (x5 + 1)))) else (none)) else (some false)
def spec_l1Has.f (k : Nat) (l0 : List Int) (a1 : Int) : Option (Bool) := spec_l1Has.l0 k l0 a1 0
set_option maxHeartbeats 8000000 in
set_option maxRecDepth 100000 in
theorem spec_l1Has.calls (k : Nat) (A0 : Option Addr) (c0 : Nat) (l0 : List Int) (a1 : Int) (r : Bool) (w : World) (hr0 : Kd.C (Kd.int .i64) w A0 l0.length l0) (hc0 : l0.length ≤ c0) (h : spec_l1Has.f k l0 a1 = some r) :
 Calls Try.prog 103 #[.slice A0 l0.length c0, .int .i64 a1] w fun e w' => e = .returned (.bool r) ∧ Drawn0 w w' := by
 have HR0 := Aside0.mk hr0
 have HC0 := Aside0.mk hc0
 clear hr0 hc0
 have H : (spec_l1Has.l0 k l0 a1 0) = some r := h
 clear h
 have H' := Aside0.mk H
 clear H
 go_enter Try.func103, Try.ntmps103
 go_wp2
 go_loopg [5] k (fun kq v5 w' => ∃ (x5_1 : Int), v5 = .int .i64 x5_1 ∧ Aside0 (spec_l1Has.l0 kq l0 a1 x5_1 = some r) ∧ Aside0 (kq ≤ k) ∧ Drawn0 w w')
 case atStart => exact ⟨(0), (by first | rfl | (simp; done) | (simp [*]; done)), H', ⟨Nat.le_refl _⟩, by repeat (first | exact Drawn0.refl _ | apply Drawn0.step)⟩
 case round =>
  clear H'
  try clear c1
  try clear p2
  obtain ⟨x5_1, rfl, HA, HK1, ⟨m1, rfl⟩⟩ := hrel
  cases gk with
  | zero => exact absurd HA.out (by simp [spec_l1Has.l0])
  | succ k1 =>
   have H := HA.out
   clear HA
   simp only [spec_l1Has.l0] at H
   by_cases c3 : x5_1 < (l0.length : Int)
   · rw [if_pos c3] at H
     have c3b0 := decide_eq_true c3
     clear c3
     by_cases c4 : 0 ≤ x5_1
     · rw [if_pos c4] at H
       have c4b0 := decide_eq_true c4
       clear c4
       by_cases c5 : (rd l0 x5_1) = a1
       · rw [if_pos c5] at H
         have c5b0 : ((rd l0 x5_1) == a1) = true := beq_iff_eq.mpr c5
         have c5b1 : ((rd l0 x5_1) != a1) = false := bne_eq_false_iff_eq.mpr c5
         clear c5
         obtain rfl := Option.some.inj H
         have p280 : 0 ≤ (x5_1 : Int) := of_decide_eq_true zA
         have q280 : x5_1 < (l0.length : Int) := of_decide_eq_true zA
         obtain ⟨ad280, e280, hx280_0⟩ := Kd.at_int HR0.out x5_1 p280 q280
         cases e280
         replace p280 := eq_true p280
         replace q280 := eq_true q280
         go_wp2
         go_ret
         exact ⟨by first | rfl | (simp; done) | (simp [*]; done), by repeat (first | exact Drawn0.refl _ | apply Drawn0.step)⟩
       · rw [if_neg c5] at H
         have c5b0 : ((rd l0 x5_1) == a1) = false := beq_eq_false_iff_ne.mpr c5
         have c5b1 : ((rd l0 x5_1) != a1) = true := bne_iff_ne.mpr c5
         have H' := Aside0.mk H
         clear H
         have p280 : 0 ≤ (x5_1 : Int) := of_decide_eq_true zA
         have q280 : x5_1 < (l0.length : Int) := of_decide_eq_true zA
         obtain ⟨ad280, e280, hx280_0⟩ := Kd.at_int HR0.out x5_1 p280 q280
         cases e280
         replace p280 := eq_true p280
         replace q280 := eq_true q280
         go_wp2
         go_roundg k1
         case measure => have := HK1.out; omega
         case rel => exact ⟨(wrap64 (x5_1 + 1)), (by first | rfl | (simp; done) | (simp [*]; done)), H', ⟨by have := HK1.out; omega⟩, by repeat (first | exact Drawn0.refl _ | apply Drawn0.step)⟩
     · rw [if_neg c4] at H
       exact absurd H (by simp)
   · rw [if_neg c3] at H
     have c3b0 : decide (x5_1 < (l0.length : Int)) = false := decide_eq_false c3
     clear c3
     obtain rfl := Option.some.inj H
     go_wp2
     go_ret
     exact ⟨by first | rfl | (simp; done) | (simp [*]; done), by repeat (first | exact Drawn0.refl _ | apply Drawn0.step)⟩

end Go.Proofs.Ytadjbmcfgjmhkaa.P
namespace Go.Proofs.Ytadjbmcfgjmhkaa.P
open Go.RowKit Go.Proofs.YtadjbmcfgjmhkaaW.PrintWords Go.Proofs.YtadjbmcfgjmhkaaW.PrintLast Go.Proofs.YtadjbmcfgjmhkaaW.PrintMore
attribute [local go_sem] max2_int min2_int max_two min_two max_three min_three max_four min_four   -- for this text's walks alone
set_option linter.unusedVariables false
set_option linter.unusedSimpArgs false

/-! ### spec_l3Sets: function 39 -/
def spec_l3Sets.l0 : Nat → Int → Int → List (List Int) → Int → Int → List (S70) → Option ((List (List Int)))
 | 0, _, _, _, _, _, _ => none
 | k + 1, x1, x2, x7, x8, x383000, x383001 => if 0 ≤ x383000 then (if x8 < (shl .i64 1 x383000) then ((spec_l2Bits.f k x383000 x8).bind fun t389 => ((spec_l1In.f (t389.length : Int) x1 x2).bind fun t392 => (if t392 = true then ((spec_l3Free.f k x383000 x383001 t389).bind fun t393 => (if t393 = true then (if x7.length < 5864062014805 then (spec_l3Sets.l0 k x1 x2 (x7 ++ [t389]) (wrap64 (x8 + 1)) x383000 x383001) else (none)) else (spec_l3Sets.l0 k x1 x2 x7 (wrap64 (x8 + 1)) x383000 x383001))) else (spec_l3Sets.l0 k x1 x2 x7 (wrap64 (x8 + 1)) x383000 x383001)))) else ((spec_l2Sorted.f k x7).bind fun t386 => (some t386))) else (none)
def spec_l3Sets.f (k : Nat) (a0_0 : Int) (l0_1 : List (S70)) (a1 : Int) (a2 : Int) : Option ((List (List Int))) := spec_l3Sets.l0 k a1 a2 (([] : List (List Int))) 0 a0_0 l0_1
set_option maxHeartbeats 8000000 in
set_option maxRecDepth 100000 in
theorem spec_l3Sets.calls (k : Nat) (a0_0 : Int) (A0_1 : Option Addr) (c0_1 : Nat) (l0_1 : List (S70)) (a1 : Int) (a2 : Int) (r : List (List Int)) (w : World) (hr0_1 : Kd.C k70 w A0_1 l0_1.length l0_1) (hc0_1 : l0_1.length ≤ c0_1) (h : spec_l3Sets.f k a0_0 l0_1 a1 a2 = some r) :
 Calls Try.prog 39 #[.agg #[.int .i64 a0_0, .slice A0_1 l0_1.length c0_1], .int .i64 a1, .int .i64 a2] w fun e w' => ∃ v0_ : Value, e = .returned (v0_) ∧ Kd.N (Kd.slice 3 (Kd.int .i64)) 39 w' w.heap.size (fun k_ => (w.heap.size ≤ k_)) v0_ r ∧ Below w.heap.size w w' := by
 have hu28 := Try.underlying28
 have HR0_1 := Aside0.mk hr0_1
 have HC0_1 := Aside0.mk hc0_1
 clear hr0_1 hc0_1
 have HB := zM (Below.refl w.heap.size w)
 have H : (spec_l3Sets.l0 k a1 a2 (([] : List (List Int))) 0 a0_0 l0_1) = some r := h
 clear h
 obtain ⟨y383, hy383⟩ : ∃ y_ : List (List Int), y_ = (([] : List (List Int))) := ⟨_, rfl⟩
 replace H : (spec_l3Sets.l0 k a1 a2 y383 0 a0_0 l0_1) = some r := by first | (rw [hy383]; with_reducible exact H) | (have H2_ := (Option.bind_some _ _).symm.trans H; rw [hy383]; with_reducible exact H2_) | (have H2_ := (Option.bind_some _ _).symm.trans H; with_reducible exact H2_) | with_reducible exact H | (rw [hy383]; exact H) | exact H
 have Ny383 := Aside0.mk hy383
 clear hy383
 have H' := Aside0.mk H
 clear H
 go_enter Try.func39, Try.ntmps39
 go_wp2_with (first | ((with_reducible refine gate_dst (N := 3) rfl ?_); refine zb (w := w) 3 #[.int .i64 a0_0, .slice A0_1 l0_1.length c0_1] 28 zB ?_; clear HB; intro gb382 w4 HB BK382 GW382; have GE382 := GW382) | ((with_reducible refine gate_dst (N := 10) rfl ?_); refine Kd.N_lit (Kd.slice 3 (Kd.int .i64)) _ 39 ?hg (N' := 10) ?hd (xs := ([] : List (List Int))) (inner := []) (ok := (fun k_ => (w.heap.size ≤ k_) ∧ k_ ≠ gb382)) (okp := (fun k_ => (w.heap.size ≤ k_) ∧ k_ ≠ gb382)) ?hr ?hp (fun _ hk => hk) ((show ∀ k_, w4.heap.size ≤ k_ → (fun k_ => (w.heap.size ≤ k_) ∧ k_ ≠ gb382) k_ from fun k_ hk => ⟨(Nat.le_trans (below_size zB) hk), Kd.freshB (g := gb382) (o := .cells #[.int .i64 a0_0, .slice A0_1 l0_1.length c0_1] 28 (0, 0)) (zK BK382.out) k_ hk⟩) _ (Nat.le_refl _)) (Below.refl _ _) (Nat.le_refl _) (by simp) ?_; (case hd => rfl); (case hg => rfl); (case hr => first | (go_simp; done) | (go_simp; rfl)); (case hp => exact (Reps.none _ _)); intro v384 w5 ho6 hb hg_ hnew_; clear hg_ hnew_; (first | rw [← Ny383.out] at ho6 | (simp only [Int.reduceToNat] at ho6; rw [← Ny383.out] at ho6)); have HO385 := zM (Kd.N_lower ho6 (below_size zB)); replace BK382 := zM (blk_below (g := gb382) (o := .cells #[.int .i64 a0_0, .slice A0_1 l0_1.length c0_1] 28 (0, 0)) (zK BK382.out) hb); replace HB := zM (below_step zB hb); clear hb ho6))
 go_loopg [7, 8] k (fun kq v7 v8 w' => ∃ (x7_1 : List (List Int)) (x8_1 : Int), v8 = .int .i64 x8_1 ∧ Aside0 (spec_l3Sets.l0 kq a1 a2 x7_1 x8_1 a0_0 l0_1 = some r) ∧ Aside0 (kq ≤ k) ∧ Aside0 (Kd.N (Kd.slice 3 (Kd.int .i64)) 39 w' w.heap.size (fun k_ => (w.heap.size ≤ k_) ∧ k_ ≠ gb382) v7 x7_1) ∧ Aside0 (w'.heap[gb382]? = some (.cells #[.int .i64 a0_0, (.slice A0_1 l0_1.length c0_1)] 28 (0, 0))) ∧ Aside0 (Below w.heap.size w w'))
 case atStart => exact ⟨(y383), (0), (by first | rfl | (simp; done) | (simp [*]; done)), H', ⟨Nat.le_refl _⟩, ⟨by (with_reducible repeat (first | apply Kd.N_alloc | apply Kd.N_drewN | apply Kd.N_drew)); exact HO385.out⟩, ⟨zK BK382.out⟩, ⟨zB⟩⟩
 case round =>
  clear H'
  try clear p2
  try clear c3
  obtain ⟨x7_1, x8_1, rfl, HA, HK1, HO_7, BK382, HB⟩ := hrel
  cases gk with
  | zero => exact absurd HA.out (by simp [spec_l3Sets.l0])
  | succ k1 =>
   have H := HA.out
   clear HA
   simp only [spec_l3Sets.l0] at H
   by_cases c7 : 0 ≤ a0_0
   · rw [if_pos c7] at H
     have c7b0 := eq_true c7
     have c7b1 : decide (0 ≤ a0_0) = true := decide_eq_true c7
     clear c7
     obtain ⟨ji8, hji8⟩ : ∃ j_ : Int, (shl .i64 1 a0_0) = j_ := ⟨_, rfl⟩
     replace H : (if x8_1 < (ji8) then ((spec_l2Bits.f k1 a0_0 x8_1).bind fun t389 => ((spec_l1In.f (t389.length : Int) a1 a2).bind fun t392 => (if t392 = true then ((spec_l3Free.f k1 a0_0 l0_1 t389).bind fun t393 => (if t393 = true then (if x7_1.length < 5864062014805 then (spec_l3Sets.l0 k1 a1 a2 (x7_1 ++ [t389]) (wrap64 (x8_1 + 1)) a0_0 l0_1) else (none)) else (spec_l3Sets.l0 k1 a1 a2 x7_1 (wrap64 (x8_1 + 1)) a0_0 l0_1))) else (spec_l3Sets.l0 k1 a1 a2 x7_1 (wrap64 (x8_1 + 1)) a0_0 l0_1)))) else ((spec_l2Sorted.f k1 x7_1).bind fun t386 => (some t386))) = some r := by first | (rw [hji8] at H; exact H) | (simp only [hji8] at H ⊢; exact H)
     have hji8_ : (IntKind.i64.wrap (1 * 2 ^ min a0_0.toNat 64)) = ji8 := hji8
     have hji8z : a0_0 ≤ 64 → (IntKind.i64.wrap (1 * 2 ^ a0_0.toNat)) = ji8 := shl_small hji8
     have hji8u : (IntKind.i64.wrap (2 ^ min a0_0.toNat 64)) = ji8 := by have h_ := hji8_; rw [Int.one_mul] at h_; exact h_
     have hji8v : a0_0 ≤ 64 → (IntKind.i64.wrap (2 ^ a0_0.toNat)) = ji8 := fun hle_ => by have h_ := hji8z hle_; rw [Int.one_mul] at h_; exact h_
     have hji8y : (wrap64 (1 * 2 ^ min a0_0.toNat 64)) = ji8 := (i64_w _).symm.trans hji8_
     have hji8x : a0_0 ≤ 64 → (wrap64 (1 * 2 ^ a0_0.toNat)) = ji8 := fun h_ => (i64_w _).symm.trans (hji8z h_)
     by_cases c9 : x8_1 < (ji8)
     · rw [if_pos c9] at H
       have c9b0 := decide_eq_true c9
       clear c9
       replace H := Option.bind_eq_some_iff.mp H
       obtain ⟨t389, A100, H⟩ := H
       have A10 := Aside0.mk A100
       clear A100
       replace H := Option.bind_eq_some_iff.mp H
       obtain ⟨t392, A110, H⟩ := H
       have A11 := Aside0.mk A110
       clear A110
       by_cases c12 : t392 = true
       · subst c12
         rw [if_pos rfl] at H
         replace H := Option.bind_eq_some_iff.mp H
         obtain ⟨t393, A130, H⟩ := H
         have A13 := Aside0.mk A130
         clear A130
         by_cases c14 : t393 = true
         · subst c14
           rw [if_pos rfl] at H
           by_cases c15 : x7_1.length < 5864062014805
           · rw [if_pos c15] at H
             have LMc15 := Aside0.mk c15
             clear c15
             obtain ⟨y394, hy394⟩ : ∃ y_ : List (List Int), y_ = (x7_1 ++ [t389]) := ⟨_, rfl⟩
             replace H : (spec_l3Sets.l0 k1 a1 a2 y394 (wrap64 (x8_1 + 1)) a0_0 l0_1) = some r := by first | (rw [hy394]; with_reducible exact H) | (have H2_ := (Option.bind_some _ _).symm.trans H; rw [hy394]; with_reducible exact H2_) | (have H2_ := (Option.bind_some _ _).symm.trans H; with_reducible exact H2_) | with_reducible exact H | (rw [hy394]; exact H) | exact H
             have Ny394 := Aside0.mk hy394
             clear hy394
             have H' := Aside0.mk H
             clear H
             have hcz16_0 := zy BK382 0
             have hcz16_1 := zy BK382 1
             have hfz16_0 := blk_frozen BK382.out 0
             have hfz16_1 := blk_frozen BK382.out 1
             go_wp2_with (first | ((with_reducible refine gate_callee (f := 63) rfl ?_); refine zc 21 Try.func63 #[.int .i64 a0_0, .int .i64 x8_1] ?_; (with_reducible refine (spec_l2Bits.calls k1 a0_0 x8_1 t389 _ A10.out).mono ?_); rintro e w17 ⟨v390, rfl, ho0, hb⟩; refine ⟨_, rfl, ?_⟩; replace HO_7 := zM (Kd.N_elder' (by (with_reducible repeat (first | apply Kd.N_alloc | apply Kd.N_drewN | apply Kd.N_drew)); exact HO_7.out) (Kd.R_base ho0) hb); have HO391 := zM (Kd.R_lower (Kd.R_newM (M := fun k_ => (w.heap.size ≤ k_)) ho0 (below_size zB) (fun k_ h_ => h_)) (below_size zB)); replace BK382 := zM (blk_below (g := gb382) (o := .cells #[.int .i64 a0_0, .slice A0_1 l0_1.length c0_1] 28 (0, 0)) (zK BK382.out) hb); replace HB := zM (below_step zB hb); (try clear hb); (try clear hb2); (try clear hk); (try clear hi); (try clear ho0); obtain ⟨Ao18, co18, eo18⟩ := Kd.R_slice HO391.out; subst eo18) | ((with_reducible refine gate_callee (f := 61) rfl ?_); refine zc 26 Try.func61 #[.int .i64 (t389.length : Int), .int .i64 a1, .int .i64 a2] ?_; (with_reducible refine (spec_l1In.calls (t389.length : Int) a1 a2 true _ A11.out).mono ?_); rintro e w' ⟨rfl, ⟨nd, rfl⟩⟩; refine ⟨_, rfl, ?_⟩; have hcz19_0 := zy BK382 0; have hcz19_1 := zy BK382 1; have hfz19_0 := blk_frozen BK382.out 0; have hfz19_1 := blk_frozen BK382.out 1) | (go_at_call 64; (with_reducible refine (spec_l3Free.calls k1 a0_0 _ _ l0_1 _ _ t389 true _ ?side1 ?side2 ?side3 ?side4 A13.out).mono ?_); (case side1 => exact zC (Kd.C_below HR0_1.out zB)); (case side2 => exact HC0_1.out); (case side3 => exact zC (Kd.R_reads' HO391.out).2.2); (case side4 => exact (Kd.R_reads' HO391.out).2.1); rintro e w20 ⟨rfl, hb⟩; replace HO_7 := zM (Kd.N_below (by (with_reducible repeat (first | apply Kd.N_alloc | apply Kd.N_drewN | apply Kd.N_drew)); exact HO_7.out) hb); replace HO391 := zM (Kd.R_below (zR HO391.out) hb); replace BK382 := zM (blk_below (g := gb382) (o := .cells #[.int .i64 a0_0, .slice A0_1 l0_1.length c0_1] 28 (0, 0)) (zK BK382.out) hb); replace HB := zM (below_step zB hb); (try clear hb); (try clear hb2); (try clear hk); (try clear hi)) | ((with_reducible refine gate_builtin (b := .append) (xs := #[.tmp 32, .tmp 34]) rfl ?_); at_builtin; refine Kd.N_append (Kd.slice 3 (Kd.int .i64)) (w0 := w) w.heap.size rfl (.tmp 32) (.tmp 34) 32 39 (.slice none 0 0) 24 rfl Try.underlying32 info39 rfl (by decide) (by omega) u7 x7_1 t389 [.slice Ao18 t389.length co18] (fun k_ => (w.heap.size ≤ k_) ∧ k_ ≠ gb382) (fun k_ => ((fun k_ => (w.heap.size ≤ k_) ∧ k_ ≠ gb382)) k_ ∧ some k_ ≠ (u7 : Value).ownBlock) rfl rfl ?aP (fun _ hk => hk) ?aF ?aO ?aB ?aS ?aL ?_; (case aP => exact (Kd.FK_slice_mk (Kd.R_reads' (Kd.R_mono (ok' := (fun k_ => ((fun k_ => (w.heap.size ≤ k_) ∧ k_ ≠ gb382)) k_ ∧ some k_ ≠ (u7 : Value).ownBlock)) (Kd.R_types (Kd.R_apart' (HO391.out) (Kd.N_typed HO_7.out) (by decide)) BK382.out (by decide)) (fun k_ hk => ⟨⟨hk.1.1.1, hk.2⟩, hk.1.2⟩))).2.1 (Kd.R_F (Kd.R_mono (ok' := (fun k_ => ((fun k_ => (w.heap.size ≤ k_) ∧ k_ ≠ gb382)) k_ ∧ some k_ ≠ (u7 : Value).ownBlock)) (Kd.R_types (Kd.R_apart' (HO391.out) (Kd.N_typed HO_7.out) (by decide)) BK382.out (by decide)) (fun k_ hk => ⟨⟨hk.1.1.1, hk.2⟩, hk.1.2⟩))))); (case aB => exact zB); (case aF => exact (fun k_ hk => ⟨(Nat.le_trans (below_size zB) hk), Kd.freshB (g := gb382) (o := .cells #[.int .i64 a0_0, .slice A0_1 l0_1.length c0_1] 28 (0, 0)) (zK BK382.out) k_ hk⟩)); (case aO => exact (by (with_reducible repeat (first | apply Kd.N_alloc | apply Kd.N_drewN | apply Kd.N_drew)); exact Kd.N_mono HO_7.out (fun _ hk => ⟨hk.1.1, hk.1.2⟩))); (case aS => exact (below_size zB)); (case aL => have := LMc15.out; omega); intro v395 w21 ho hb hg hat; rw [← Ny394.out] at ho; replace BK382 := zM (blk_grown (g := gb382) (o := .cells #[.int .i64 a0_0, .slice A0_1 l0_1.length c0_1] 28 (0, 0)) (zK BK382.out) hg (Kd.N_ne HO_7.out BK382.out (by decide))); replace HB := zM (hb); have HO396 := zM (ho); clear HO_7 HO391; clear ho hb hg hat))
             go_roundg k1
             case measure => have := HK1.out; omega
             case rel => exact ⟨(y394), (wrap64 (x8_1 + 1)), (by first | rfl | (simp; done) | (simp [*]; done)), H', ⟨by have := HK1.out; omega⟩, ⟨by (with_reducible repeat (first | apply Kd.N_alloc | apply Kd.N_drewN | apply Kd.N_drew)); exact HO396.out⟩, ⟨zK BK382.out⟩, ⟨zB⟩⟩
           · rw [if_neg c15] at H
             exact absurd H (by simp)
         · replace c14 := Bool.eq_false_iff.mpr c14
           subst c14
           have H1 : (spec_l3Sets.l0 k1 a1 a2 x7_1 (wrap64 (x8_1 + 1)) a0_0 l0_1) = some r := by rw [if_neg (show ¬ (false = true) by decide)] at H; exact H
           clear H
           have H := H1
           clear H1
           have H' := Aside0.mk H
           clear H
           have hcz22_0 := zy BK382 0
           have hcz22_1 := zy BK382 1
           have hfz22_0 := blk_frozen BK382.out 0
           have hfz22_1 := blk_frozen BK382.out 1
           go_wp2_with (first | ((with_reducible refine gate_callee (f := 63) rfl ?_); refine zc 21 Try.func63 #[.int .i64 a0_0, .int .i64 x8_1] ?_; (with_reducible refine (spec_l2Bits.calls k1 a0_0 x8_1 t389 _ A10.out).mono ?_); rintro e w23 ⟨v390, rfl, ho0, hb⟩; refine ⟨_, rfl, ?_⟩; replace HO_7 := zM (Kd.N_elder' (by (with_reducible repeat (first | apply Kd.N_alloc | apply Kd.N_drewN | apply Kd.N_drew)); exact HO_7.out) (Kd.R_base ho0) hb); have HO391 := zM (Kd.R_lower (Kd.R_newM (M := fun k_ => (w.heap.size ≤ k_)) ho0 (below_size zB) (fun k_ h_ => h_)) (below_size zB)); replace BK382 := zM (blk_below (g := gb382) (o := .cells #[.int .i64 a0_0, .slice A0_1 l0_1.length c0_1] 28 (0, 0)) (zK BK382.out) hb); replace HB := zM (below_step zB hb); (try clear hb); (try clear hb2); (try clear hk); (try clear hi); (try clear ho0); obtain ⟨Ao24, co24, eo24⟩ := Kd.R_slice HO391.out; subst eo24) | ((with_reducible refine gate_callee (f := 61) rfl ?_); refine zc 26 Try.func61 #[.int .i64 (t389.length : Int), .int .i64 a1, .int .i64 a2] ?_; (with_reducible refine (spec_l1In.calls (t389.length : Int) a1 a2 true _ A11.out).mono ?_); rintro e w' ⟨rfl, ⟨nd, rfl⟩⟩; refine ⟨_, rfl, ?_⟩; have hcz25_0 := zy BK382 0; have hcz25_1 := zy BK382 1; have hfz25_0 := blk_frozen BK382.out 0; have hfz25_1 := blk_frozen BK382.out 1) | (go_at_call 64; (with_reducible refine (spec_l3Free.calls k1 a0_0 _ _ l0_1 _ _ t389 false _ ?side1 ?side2 ?side3 ?side4 A13.out).mono ?_); (case side1 => exact zC (Kd.C_below HR0_1.out zB)); (case side2 => exact HC0_1.out); (case side3 => exact zC (Kd.R_reads' HO391.out).2.2); (case side4 => exact (Kd.R_reads' HO391.out).2.1); rintro e w26 ⟨rfl, hb⟩; replace HO_7 := zM (Kd.N_below (by (with_reducible repeat (first | apply Kd.N_alloc | apply Kd.N_drewN | apply Kd.N_drew)); exact HO_7.out) hb); replace HO391 := zM (Kd.R_below (zR HO391.out) hb); replace BK382 := zM (blk_below (g := gb382) (o := .cells #[.int .i64 a0_0, .slice A0_1 l0_1.length c0_1] 28 (0, 0)) (zK BK382.out) hb); replace HB := zM (below_step zB hb); (try clear hb); (try clear hb2); (try clear hk); (try clear hi)))
           go_roundg k1
           case measure => have := HK1.out; omega
           case rel => exact ⟨(x7_1), (wrap64 (x8_1 + 1)), (by first | rfl | (simp; done) | (simp [*]; done)), H', ⟨by have := HK1.out; omega⟩, ⟨by (with_reducible repeat (first | apply Kd.N_alloc | apply Kd.N_drewN | apply Kd.N_drew)); exact Kd.N_mono HO_7.out (fun _ hk => ⟨hk.1.1, hk.1.2⟩)⟩, ⟨zK BK382.out⟩, ⟨zB⟩⟩
       · replace c12 := Bool.eq_false_iff.mpr c12
         subst c12
         have H1 : (spec_l3Sets.l0 k1 a1 a2 x7_1 (wrap64 (x8_1 + 1)) a0_0 l0_1) = some r := by rw [if_neg (show ¬ (false = true) by decide)] at H; exact H
         clear H
         have H := H1
         clear H1
         have H' := Aside0.mk H
         clear H
         have hcz27_0 := zy BK382 0
         have hcz27_1 := zy BK382 1
         have hfz27_0 := blk_frozen BK382.out 0
         have hfz27_1 := blk_frozen BK382.out 1
         go_wp2_with (first | ((with_reducible refine gate_callee (f := 63) rfl ?_); refine zc 21 Try.func63 #[.int .i64 a0_0, .int .i64 x8_1] ?_; (with_reducible refine (spec_l2Bits.calls k1 a0_0 x8_1 t389 _ A10.out).mono ?_); rintro e w28 ⟨v390, rfl, ho0, hb⟩; refine ⟨_, rfl, ?_⟩; replace HO_7 := zM (Kd.N_elder' (by (with_reducible repeat (first | apply Kd.N_alloc | apply Kd.N_drewN | apply Kd.N_drew)); exact HO_7.out) (Kd.R_base ho0) hb); have HO391 := zM (Kd.R_lower (Kd.R_newM (M := fun k_ => (w.heap.size ≤ k_)) ho0 (below_size zB) (fun k_ h_ => h_)) (below_size zB)); replace BK382 := zM (blk_below (g := gb382) (o := .cells #[.int .i64 a0_0, .slice A0_1 l0_1.length c0_1] 28 (0, 0)) (zK BK382.out) hb); replace HB := zM (below_step zB hb); (try clear hb); (try clear hb2); (try clear hk); (try clear hi); (try clear ho0); obtain ⟨Ao29, co29, eo29⟩ := Kd.R_slice HO391.out; subst eo29) | ((with_reducible refine gate_callee (f := 61) rfl ?_); refine zc 26 Try.func61 #[.int .i64 (t389.length : Int), .int .i64 a1, .int .i64 a2] ?_; (with_reducible refine (spec_l1In.calls (t389.length : Int) a1 a2 false _ A11.out).mono ?_); rintro e w' ⟨rfl, ⟨nd, rfl⟩⟩; refine ⟨_, rfl, ?_⟩))
         go_roundg k1
         case measure => have := HK1.out; omega
         case rel => exact ⟨(x7_1), (wrap64 (x8_1 + 1)), (by first | rfl | (simp; done) | (simp [*]; done)), H', ⟨by have := HK1.out; omega⟩, ⟨by (with_reducible repeat (first | apply Kd.N_alloc | apply Kd.N_drewN | apply Kd.N_drew)); exact Kd.N_mono HO_7.out (fun _ hk => ⟨hk.1.1, hk.1.2⟩)⟩, ⟨zK BK382.out⟩, ⟨zB⟩⟩
     · rw [if_neg c9] at H
       have c9b0 : decide (x8_1 < (ji8)) = false := decide_eq_false c9
       clear c9
       replace H := Option.bind_eq_some_iff.mp H
       obtain ⟨t386, A300, H⟩ := H
       have A30 := Aside0.mk A300
       clear A300
       obtain rfl := Option.some.inj H
       have hcz31_0 := zy BK382 0
       have hcz31_1 := zy BK382 1
       have hfz31_0 := blk_frozen BK382.out 0
       have hfz31_1 := blk_frozen BK382.out 1
       obtain ⟨Ao32, co32, eo32⟩ := Kd.N_slice HO_7.out
       subst eo32
       go_wp2_with (first | ((with_reducible refine gate_callee (f := 65) rfl ?_); refine zc 37 Try.func65 #[.slice Ao32 x7_1.length co32] ?_; (with_reducible refine (spec_l2Sorted.calls k1 _ _ x7_1 t386 _ ?side1 ?side2 A30.out).mono ?_); (case side1 => exact zC (Kd.N_reads' HO_7.out).2.2); (case side2 => exact (Kd.N_reads' HO_7.out).2.1); rintro e w33 ⟨v387, rfl, ho0, hb⟩; refine ⟨_, rfl, ?_⟩; have HO388 := zM (Kd.N_lower (Kd.N_mono (ok' := fun k_ => (w.heap.size ≤ k_) ∧ some k_ ≠ (.slice Ao32 x7_1.length co32 : Value).ownBlock ∧ k_ ≠ gb382) ho0 (fun k_ hk_ => ⟨(Nat.le_trans (below_size zB) hk_), (Kd.fresh' (Kd.N_lt (by (with_reducible repeat (first | apply Kd.N_alloc | apply Kd.N_drewN | apply Kd.N_drew)); exact HO_7.out)) k_ hk_), (Kd.freshB (g := gb382) (o := .cells #[.int .i64 a0_0, .slice A0_1 l0_1.length c0_1] 28 (0, 0)) (zK BK382.out) k_ hk_)⟩)) (below_size zB)); replace HO_7 := zM (Kd.N_elder' (by (with_reducible repeat (first | apply Kd.N_alloc | apply Kd.N_drewN | apply Kd.N_drew)); exact HO_7.out) (Kd.N_base ho0) hb); replace BK382 := zM (blk_below (g := gb382) (o := .cells #[.int .i64 a0_0, .slice A0_1 l0_1.length c0_1] 28 (0, 0)) (zK BK382.out) hb); replace HB := zM (below_step zB hb); (try clear hb); (try clear hb2); (try clear hk); (try clear hi); (try clear ho0)))
       go_ret
       exact ⟨_, by first | rfl | (simp [errW_none, errW_some] <;> rfl) | (simp only [← hji8]; first | rfl | (simp [errW_none, errW_some] <;> rfl)) | (simp [*, errW_none, errW_some] <;> rfl), by (with_reducible repeat (first | apply Kd.N_alloc | apply Kd.N_drewN | apply Kd.N_drew)); exact Kd.N_mono HO388.out (fun _ hk => hk.1), zB⟩
   · rw [if_neg c7] at H
     exact absurd H (by simp)

end Go.Proofs.Ytadjbmcfgjmhkaa.P
namespace Go.Proofs.Ytadjbmcfgjmhkaa.P
open Go.RowKit Go.Proofs.YtadjbmcfgjmhkaaW.PrintWords Go.Proofs.YtadjbmcfgjmhkaaW.PrintLast Go.Proofs.YtadjbmcfgjmhkaaW.PrintMore
open Go.Sort (SWO Holds PermIn SortedIn putRow putCells mapBlock onCells sorted_unique_holds)
set_option linter.unusedVariables false
set_option linter.unusedSimpArgs false

/-- Rows in another order are rows still. -/
theorem S_perm {α : Type} {d : Kd α} {e : Nat} {w : World} {base : Nat} {ok : Nat → Prop} {v : Value} {f : Nat → Nat} {zs : List (α × Nat)} (h : (Kd.tag f d).R e w base ok v zs) (hn : (zs.map Prod.snd).Nodup) : Kd.S d e w base ok v (zs.map Prod.fst) := by
  obtain ⟨h0, inner, ho, hr⟩ := h
  refine ⟨fun b => (zs.map Prod.snd).idxOf (f b), h0, inner, by rw [List.length_zipIdx, List.length_map]; exact ho, by rw [List.length_zipIdx, List.length_map]; exact hr.1, fun j p hj => ?_⟩
  rw [List.getElem?_zipIdx, Nat.zero_add] at hj
  obtain ⟨x, hx, rfl⟩ := Option.map_eq_some_iff.1 hj
  rw [List.getElem?_map] at hx
  obtain ⟨z, hz, rfl⟩ := Option.map_eq_some_iff.1 hx
  refine d.M_mono (fun b hb => ⟨hb.1, ?_⟩) (hr.2 j z hz)
  have h2 : f b = z.2 := hb.2
  show (zs.map Prod.snd).idxOf (f b) = j
  obtain ⟨hlt, he⟩ := List.getElem?_eq_some_iff.1 hz
  have e2 : (zs.map Prod.snd)[j]'(by rw [List.length_map]; exact hlt) = z.2 := by rw [List.getElem_map, he]
  rw [h2, ← e2]
  exact hn.idxOf_getElem j _
section
variable {α : Type} [Inhabited α] (enc : α → Value)
theorem heap_sortedG {w : World} {g n : Nat} {os : Array Obj} {cur : Array Value} {e : TypeId} {fr : Nat × Nat} (d : Array α) (hb : w.heap[g]? = some (.cells cur e fr)) :
    (Sort.grow (putRow enc (Sort.ahead w n) g 0 d) os).heap[g]? = some (.cells (putCells enc 0 d cur) e fr) := by
  have hg : g < w.heap.size := (Array.getElem?_eq_some_iff.1 hb).1
  rw [Sort.heap_grow_old _ _ (by simpa using hg)]
  simp [putRow, mapBlock, Sort.ahead, Array.getElem?_modify, hb, onCells]
theorem grownBy_sortedG {w : World} {g n : Nat} {os : Array Obj} (d : Array α) : w.grownBy (Sort.grow (putRow enc (Sort.ahead w n) g 0 d) os) (some g) := by
  refine ⟨rfl, rfl, rfl, by simp, fun k hk hne => ?_⟩
  rw [Sort.heap_grow_old _ _ (by simpa using hk)]
  have : g ≠ k := fun e => hne (by rw [e])
  simp [putRow, mapBlock, Sort.ahead, Array.getElem?_modify, this]
theorem take_putCellsG (cur : Array Value) (ts : List α) (h : ts.length ≤ cur.size) : (putCells enc 0 ts.toArray cur).toList.take ts.length = ts.map enc := by
  apply List.ext_getElem?
  intro j
  by_cases hj : j < ts.length
  · rw [List.getElem?_take_of_lt hj, Array.getElem?_toList]
    simp [putCells, hj, show j < cur.size by omega]
  · rw [List.getElem?_take_eq_none (by omega), List.getElem?_eq_none (by simp; omega)]
theorem ownsRow_sortedG {w : World} {base g cap n m : Nat} {e : TypeId} {os : Array Obj} {cur : Array Value} {ts : List α} (hl : ts.length = m) (hbase : base ≤ g) (hb : w.heap[g]? = some (.cells cur e (0, 0)))
    (h1 : m ≤ cap) (h2 : cap ≤ maxLen) (h3 : cur.size = cap * 1) :
    (Sort.grow (putRow enc (Sort.ahead w n) g 0 ts.toArray) os).ownsRow base e 1 (.slice (some ⟨g, 0, none⟩) m cap) m (ts.map enc) :=
  ⟨by simp [hl], .inr ⟨g, cap, _, rfl, hbase, heap_sortedG enc _ hb, h1, h2, by simp [putCells, h3], by rw [Nat.mul_one, ← hl]; exact take_putCellsG enc cur ts (by omega)⟩⟩
end
theorem fin_get {n : Nat} (hn : 0 < n) [Inhabited (Fin n)] (j : Nat) (hj : j < n) : ((List.finRange n).toArray)[j]! = ⟨j, hj⟩ := by
  rw [getElem!_pos _ j (by simpa using hj)]
  simp
/-- A comparison of lists: what it answers where it is called; it draws and lays blocks, and turns nothing. -/
def CmpL (g : Nat) (cf : List Int → List Int → Int) : Prop :=
  ∀ (W : World) (x y : List Int) (A B : Option Addr) (c c' : Nat), Kd.C (Kd.int .i64) W A x.length x → x.length ≤ c → Kd.C (Kd.int .i64) W B y.length y → y.length ≤ c' →
    Calls Try.prog g #[.slice A x.length c, .slice B y.length c'] W fun e w' => e = .returned (.int .i64 (cf x y)) ∧ ∃ q os, w' = Sort.grow (W.drewN q) os
set_option maxHeartbeats 2000000 in
theorem sortFunc_lists {ρ ρ' : Shelf.Ren} (L : SlLaysF.n6 Try.prog ρ) (L0 : SlLaysF0.n6 Try.prog ρ') (F : Nat) (e1 : ρ.f 6 = F) (e2 : ρ'.f 6 = F) (cf : List Int → List Int → Int) (hO : SWO (ltOf cf)) (hT : ∀ x y, ltOf cf x y = false → ltOf cf y x = false → x = y) (g : Nat)
    (eg : ∀ (args : Array Value) (w : World), (callFunc g args).run Try.prog w = .ok (.enter g args) w) (hcmp : CmpL g cf)
    (P0_ : Nat → Prop) (u9000_ : Value) (l0 : List (List Int)) (w0 w : World) (hB : Below w0.heap.size w0 w) (ho0 : Kd.S (Kd.slice 3 (Kd.int .i64)) 39 w w0.heap.size P0_ u9000_ l0) (hlen : l0.length < 4611686018427387904) :
    Calls Try.prog F #[u9000_, .func (.func g) #[] #[]] w fun e w' => e = .returned (.tuple #[]) ∧ Kd.S (Kd.slice 3 (Kd.int .i64)) 39 w' w0.heap.size (fun k_ => (P0_ k_ ∨ w.heap.size ≤ k_)) u9000_ (l0.mergeSort fun x y => !ltOf cf y x) ∧ Below w0.heap.size w0 w' ∧ Kept w w' (fun k_ => P0_ k_) := by
  obtain ⟨f, h0, inner, hown, hr⟩ := ho0
  rw [List.length_zipIdx] at hown
  replace hown : w.ownsRow w0.heap.size 39 1 u9000_ l0.length inner := hown
  have hS : Kd.S (Kd.slice 3 (Kd.int .i64)) 39 w w0.heap.size P0_ u9000_ l0 := ⟨f, h0, inner, by rw [List.length_zipIdx]; exact hown, hr⟩
  by_cases hn : 0 < l0.length
  case neg =>
    have hnil : l0 = [] := List.eq_nil_of_length_eq_zero (by omega)
    subst hnil
    obtain ⟨A, c, rfl⟩ := Kd.S_slice hS
    rw [← e2]
    refine (AnyF.slices_SortFunc_none L0 A c _ w).mono ?_
    rintro e w' ⟨rfl, rfl⟩
    have e0 : ([] : List (List Int)).mergeSort (fun x y => !ltOf cf y x) = [] := by simp
    rw [e0]
    exact ⟨rfl, Kd.S_mono hS (fun k hk => .inl hk), hB, Kept.refl _ _⟩
  rcases hown.2 with ⟨hnil, hz⟩ | ⟨gb, cap, cur, rfl, hbase, hb, h1, h2, h3, h4⟩
  · exact absurd hz (by omega)
  haveI : Inhabited (Fin l0.length) := ⟨⟨0, hn⟩⟩
  have hin : inner.length = l0.length := by have h9 : inner.length = l0.zipIdx.length * 1 := hr.1; rw [List.length_zipIdx] at h9; omega
  have hgl : gb < w.heap.size := (Array.getElem?_eq_some_iff.1 hb).1
  obtain ⟨enc, henc⟩ : ∃ enc : Fin l0.length → Value, ∀ i, enc i = inner[i.val]'(by rw [hin]; exact i.isLt) := ⟨_, fun _ => rfl⟩
  have hrow : ∀ i : Fin l0.length, ∃ v, enc i = v ∧ Kd.R (Kd.int .i64) 3 w w0.heap.size (fun k => (P0_ k ∧ some k ≠ (Value.slice (some ⟨gb, 0, none⟩) l0.length cap).ownBlock) ∧ f k = i.val) v l0[i.val] := by
    intro i
    have h5 := hr.2 i.val (l0[i.val], i.val) (Kd.zip_at (List.getElem?_eq_getElem i.isLt))
    obtain ⟨v, hv, hR⟩ := h5
    refine ⟨v, ?_, hR⟩
    rw [henc i]
    have hl' : i.val < inner.length := by rw [hin]; exact i.isLt
    have h6 : (inner.drop (i.val * 1)).take 1 = [v] := hv
    rw [Nat.mul_one, List.drop_eq_getElem_cons hl', List.take_succ_cons] at h6
    injection h6
  have hone : OneCell enc := fun i => by
    obtain ⟨v, hv, hR⟩ := hrow i
    rw [hv]
    exact (Kd.R_val hR).2
  have hH : Holds enc w gb 0 (List.finRange l0.length).toArray := by
    intro j hj
    have hj' : j < l0.length := by simpa using hj
    refine ⟨?_, by simp [World.frozen?, hb]⟩
    rw [fin_get hn j hj', henc]
    have h5 : (cur.toList.take (l0.length * 1))[j]? = inner[j]? := by rw [h4]
    rw [Nat.mul_one, List.getElem?_take_of_lt hj', Array.getElem?_toList, List.getElem?_eq_getElem (by rw [hin]; exact hj')] at h5
    simp [World.cell?, hb, h5]
  have hcl : CmpLays1 Try.prog g #[] enc (fun i j => cf l0[i.val] l0[j.val]) gb 0 (List.finRange l0.length).toArray.size w := by
    intro m os dk _ x y
    obtain ⟨v, hv, hR⟩ := hrow x
    obtain ⟨u, hu, hQ⟩ := hrow y
    have hgr := grownBy_sortedG enc (w := w) (g := gb) (n := m) (os := os) dk
    have hR2 := Kd.R_grown hR hgr (fun k hk => by have := hk.1.2; simpa [Value.ownBlock] using this)
    have hQ2 := Kd.R_grown hQ hgr (fun k hk => by have := hk.1.2; simpa [Value.ownBlock] using this)
    obtain ⟨A, c, rfl, hc, hC⟩ := Kd.R_reads hR2
    obtain ⟨B, c', rfl, hc', hC'⟩ := Kd.R_reads hQ2
    rw [hv, hu]
    exact hcmp _ _ _ A B c c' hC hc hC' hc'
  have hO' : SWO (ltOf (fun i j : Fin l0.length => cf l0[i.val] l0[j.val])) := ⟨fun x => hO.irrefl _, fun x y z => hO.trans _ _ _, fun x y z => hO.ntrans _ _ _⟩
  have hd : (List.finRange l0.length).toArray.size = l0.length := by simp
  have hcon := Any.slices_SortFunc L enc hone _ hO' g #[] gb 0 cap _ w eg hcl hH hgl (by rw [hd]; exact hlen)
  rw [hd, e1] at hcon
  refine hcon.mono ?_
  rintro e w' ⟨rfl, d', nn, os, hp, hs, rfl⟩
  have hgr := grownBy_sortedG enc (w := w) (g := gb) (n := nn) (os := os) d'
  have hdl : d'.toList.length = l0.length := by rw [Array.length_toList, hp.1, hd]
  have hds : d'.size = l0.length := by rw [← Array.length_toList]; exact hdl
  have hperm : d'.toList.Perm (List.finRange l0.length) := by
    have h5 := hp.2.2
    rw [Array.extract_eq_self_of_le (by rw [← Array.length_toList, hdl]; exact Nat.le_refl _), Array.extract_eq_self_of_le (by rw [hd]; exact Nat.le_refl _)] at h5
    simpa using h5
  have hown2 : (sortWorld enc w gb 0 nn d' os).ownsRow w0.heap.size 39 1 (.slice (some ⟨gb, 0, none⟩) l0.length cap) l0.length (d'.toList.map enc) := by
    have := ownsRow_sortedG enc (w := w) (n := nn) (os := os) (ts := d'.toList) hdl hbase hb h1 h2 h3
    exact this
  have hmap : (d'.toList.map fun i => (l0[i.val], i.val)).map Prod.fst = d'.toList.map fun i => l0[i.val] := by rw [List.map_map]; rfl
  have hsorted : (d'.toList.map fun i => l0[i.val]) = l0.mergeSort fun x y => !ltOf cf y x := by
    have h6 := sorted_unique_holds hO hT l0.toArray (d'.toList.map fun i => l0[i.val]).toArray ?_ ?_
    · simpa using h6
    · refine ⟨by simpa using hdl, fun i hi => ?_, ?_⟩
      · rw [getElem!_neg _ i (by simp only [List.size_toArray, List.length_map]; simp only [List.size_toArray] at hi; omega), getElem!_neg _ i (by simp only [List.size_toArray] at hi ⊢; omega)]
      · rw [Array.extract_eq_self_of_le (by simp [hdl]), Array.extract_eq_self_of_le (Nat.le_refl _)]
        refine (hperm.map _).trans ?_
        have : (List.finRange l0.length).map (fun i => l0[i.val]) = l0 := by
          apply List.ext_getElem (by simp)
          intro j h1 h2
          simp
        rw [this]
    · intro i j _ hij hj
      have hj' : j < l0.length := by simpa using hj
      have h7 := hs i j (Nat.zero_le _) hij hj'
      rw [getElem!_pos (d'.toList.map fun i => l0[i.val]).toArray j (by rw [List.size_toArray, List.length_map, hdl]; exact hj'), getElem!_pos (d'.toList.map fun i => l0[i.val]).toArray i (by rw [List.size_toArray, List.length_map, hdl]; omega)]
      rw [getElem!_pos d' j (by rw [hds]; exact hj'), getElem!_pos d' i (by rw [hds]; omega)] at h7
      simp only [List.getElem_toArray, List.getElem_map, Array.getElem_toList]
      exact h7
  refine ⟨rfl, ?_, hB.grown hgr hB.size (fun k hk => by injection hk with hk; omega), Kept.of_grown hgr (Kept.refl w _) (fun k hk => .inl (h0 k hk))⟩
  rw [← hsorted, ← hmap]
  refine S_perm (f := f) ?_ ?_
  · refine ⟨fun k hk => .inl (h0 k hk), d'.toList.map enc, ?_, ?_, ?_⟩
    · rw [List.length_map, hdl]
      exact hown2
    · rw [List.length_map, List.length_map]
      show _ = _ * 1
      rw [Nat.mul_one]
    · intro j p hj
      rw [List.getElem?_map] at hj
      obtain ⟨i, hi, rfl⟩ := Option.map_eq_some_iff.1 hj
      obtain ⟨v, hv, hR⟩ := hrow i
      refine ⟨v, ?_, ?_⟩
      · have hj' : j < (d'.toList.map enc).length := by rw [List.length_map]; exact (List.getElem?_eq_some_iff.1 hi).1
        show ((d'.toList.map enc).drop (j * 1)).take 1 = [v]
        rw [Nat.mul_one, List.drop_eq_getElem_cons hj', List.take_succ_cons, List.getElem_map, (List.getElem?_eq_some_iff.1 hi).2, hv]
        rfl
      · exact Kd.R_mono (Kd.R_grown hR hgr (fun k hk => by have := hk.1.2; simpa [Value.ownBlock] using this)) (fun k hk => ⟨⟨.inl hk.1.1, hk.1.2⟩, hk.2⟩)
  · rw [List.map_map]
    refine (hperm.map _).nodup_iff.2 ?_
    have : ((List.finRange l0.length).map (Prod.snd ∘ fun i => (l0[i.val], i.val))) = List.range l0.length := by
      apply List.ext_getElem (by simp)
      intro j h1 h2
      simp
    rw [this]
    exact List.nodup_range
end Go.Proofs.Ytadjbmcfgjmhkaa.P
namespace Go.Proofs
open Go.Shelf
def Try.laysSlF6_f82_ren : Go.Shelf.Ren := ⟨fun | 6 => 82 | 15 => 108 | 14 => 107 | 28 => 128 | 29 => 129 | 20 => 120 | 21 => 121 | 22 => 122 | 23 => 123 | 24 => 124 | 25 => 125 | 26 => 126 | 27 => 127 | 46 => 132 | 47 => 133 | 48 => 134 | 49 => 135 | 50 => 136 | 57 => 137 | n => n, fun | 22 => 32 | 24 => 39 | 25 => 86 | 3 => 3 | 39 => 73 | 0 => 0 | 53 => 108 | 55 => 110 | 4 => 4 | 46 => 114 | 45 => 113 | 50 => 26 | 5 => 5 | 9 => 9 | 66 => 120 | 70 => 124 | 76 => 126 | 77 => 127 | n => n, fun | n => n⟩
theorem Try.laysSlF6_f82 : Go.Proofs.SlLaysF.n6 Try.prog Try.laysSlF6_f82_ren := {
  mixed := by kernel_rfl
  f6 := ⟨Try.f82.name, by decide, Try.func82.trans (congrArg some (by kernel_rfl))⟩
  f14 := ⟨Try.f107.name, by decide, Try.func107.trans (congrArg some (by kernel_rfl))⟩
  f15 := Try.func108.trans (congrArg some (by kernel_rfl))
  f20 := ⟨Try.f120.name, by decide, Try.func120.trans (congrArg some (by kernel_rfl))⟩
  f21 := ⟨Try.f121.name, by decide, Try.func121.trans (congrArg some (by kernel_rfl))⟩
  f22 := ⟨Try.f122.name, by decide, Try.func122.trans (congrArg some (by kernel_rfl))⟩
  f23 := ⟨Try.f123.name, by decide, Try.func123.trans (congrArg some (by kernel_rfl))⟩
  f24 := ⟨Try.f124.name, by decide, Try.func124.trans (congrArg some (by kernel_rfl))⟩
  f25 := ⟨Try.f125.name, by decide, Try.func125.trans (congrArg some (by kernel_rfl))⟩
  f26 := ⟨Try.f126.name, by decide, Try.func126.trans (congrArg some (by kernel_rfl))⟩
  f27 := ⟨Try.f127.name, by decide, Try.func127.trans (congrArg some (by kernel_rfl))⟩
  f28 := Try.func128.trans (congrArg some (by kernel_rfl))
  f29 := Try.func129.trans (congrArg some (by kernel_rfl))
  f46 := ⟨Try.f132.name, by decide, Try.func132.trans (congrArg some (by kernel_rfl))⟩
  f47 := Try.func133.trans (congrArg some (by kernel_rfl))
  f48 := Try.func134.trans (congrArg some (by kernel_rfl))
  f49 := ⟨Try.f135.name, by decide, Try.func135.trans (congrArg some (by kernel_rfl))⟩
  f50 := ⟨Try.f136.name, by decide, Try.func136.trans (congrArg some (by kernel_rfl))⟩
  f57 := ⟨Try.f137.name, by decide, Try.func137.trans (congrArg some (by kernel_rfl))⟩
  t0 := Try.underlying0
  a0 := Try.isAgg0
  z0 := Try.sizeOf0
  v0 := Try.zeroValue0
  t3 := Try.underlying3
  a3 := Try.isAgg3
  z3 := Try.sizeOf3
  v3 := Try.zeroValue3
  t4 := Try.underlying4
  a4 := Try.isAgg4
  z4 := Try.sizeOf4
  v4 := Try.zeroValue4
  t5 := Try.underlying5
  a5 := Try.isAgg5
  z5 := Try.sizeOf5
  v5 := Try.zeroValue5
  t9 := Try.underlying9
  a9 := Try.isAgg9
  z9 := Try.sizeOf9
  v9 := Try.zeroValue9
  t22 := Try.underlying32
  a22 := Try.isAgg32
  z22 := Try.sizeOf32
  v22 := Try.zeroValue32
  a24 := Try.isAgg39
  z24 := Try.sizeOf39
  t25 := Try.underlying86
  a25 := Try.isAgg86
  z25 := Try.sizeOf86
  v25 := Try.zeroValue86
  t39 := Try.underlying73
  a39 := Try.isAgg73
  z39 := Try.sizeOf73
  v39 := Try.zeroValue73
  t45 := Try.underlying113
  a45 := Try.isAgg113
  z45 := Try.sizeOf113
  v45 := Try.zeroValue113
  t46 := Try.underlying114
  a46 := Try.isAgg114
  z46 := Try.sizeOf114
  v46 := Try.zeroValue114
  t50 := Try.underlying26
  a50 := Try.isAgg26
  z50 := Try.sizeOf26
  v50 := Try.zeroValue26
  t53 := Try.underlying108
  a53 := Try.isAgg108
  z53 := Try.sizeOf108
  v53 := Try.zeroValue108
  t55 := Try.underlying110
  a55 := Try.isAgg110
  z55 := Try.sizeOf110
  v55 := Try.zeroValue110
  t66 := Try.underlying120
  a66 := Try.isAgg120
  z66 := Try.sizeOf120
  v66 := Try.zeroValue120
  t70 := Try.underlying124
  a70 := Try.isAgg124
  z70 := Try.sizeOf124
  v70 := Try.zeroValue124
  t76 := Try.underlying126
  a76 := Try.isAgg126
  z76 := Try.sizeOf126
  v76 := Try.zeroValue126
  t77 := Try.underlying127
  a77 := Try.isAgg127
  z77 := Try.sizeOf127
  v77 := Try.zeroValue127 }
open Go.RowKit Go.Lib Go.Sort in
/-- **slices.SortFunc, IN THE DOCUMENTATION's OWN TERMS: A PERMUTATION OF WHAT THE ROW HELD, SORTED BY 'cmp(a, b) < 0'.** Which of two equals comes first is left open ("The sort is not guaranteed to be stable"). (LAID AT THE INSTANCE 'slices.SortFunc[[][]int,[]int]': no walk: one application.) -/
theorem Try.slices_SortFunc {α : Type} [Inhabited α] (enc : α → Value) (h1 : OneCell enc) (cf : α → α → Int) (hO : SWO (ltOf cf)) (g : Nat) (cb : Array Value) (blk off cap : Nat) (d : Array α) (w : World) (eg : ∀ args w, (callFunc g args).run Try.prog w = .ok (.enter g args) w) (hcmp : CmpLays1 Try.prog g cb enc cf blk off d.size w) (hH : Holds enc w blk off d) (hblk : blk < w.heap.size) (hsz : d.size < 4611686018427387904) :
    Calls Try.prog 82 #[.slice (some ⟨blk, off, none⟩) d.size cap, .func (.func g) #[] cb] w fun e w' =>
      e = .returned (.tuple #[]) ∧ ∃ d' n os, PermIn 0 d.size d d' ∧ SortedIn (ltOf cf) 0 d.size d' ∧ w' = sortWorld enc w blk off n d' os := Any.slices_SortFunc Try.laysSlF6_f82 enc h1 cf hO g cb blk off cap d w eg hcmp hH hblk hsz
def Try.laysSlF06_f82_ren : Go.Shelf.Ren := ⟨fun | 6 => 82 | 15 => 108 | 14 => 107 | 28 => 128 | 29 => 129 | 20 => 120 | 21 => 121 | 22 => 122 | 23 => 123 | 24 => 124 | 25 => 125 | 26 => 126 | 27 => 127 | 46 => 132 | 47 => 133 | 48 => 134 | 49 => 135 | 50 => 136 | 57 => 137 | n => n, fun | 22 => 32 | 24 => 39 | 25 => 86 | 3 => 3 | 39 => 73 | 0 => 0 | 53 => 108 | 55 => 110 | 4 => 4 | 46 => 114 | 45 => 113 | 50 => 26 | 5 => 5 | 9 => 9 | 66 => 120 | 70 => 124 | 76 => 126 | 77 => 127 | n => n, fun | n => n⟩
theorem Try.laysSlF06_f82 : Go.Proofs.SlLaysF0.n6 Try.prog Try.laysSlF06_f82_ren := {
  mixed := by kernel_rfl
  f6 := ⟨Try.f82.name, by decide, Try.func82.trans (congrArg some (by kernel_rfl))⟩
  f14 := ⟨Try.f107.name, by decide, Try.func107.trans (congrArg some (by kernel_rfl))⟩
  f15 := Try.func108.trans (congrArg some (by kernel_rfl))
  f20 := ⟨Try.f120.name, by decide, Try.func120.trans (congrArg some (by kernel_rfl))⟩
  f21 := ⟨Try.f121.name, by decide, Try.func121.trans (congrArg some (by kernel_rfl))⟩
  f22 := ⟨Try.f122.name, by decide, Try.func122.trans (congrArg some (by kernel_rfl))⟩
  f23 := ⟨Try.f123.name, by decide, Try.func123.trans (congrArg some (by kernel_rfl))⟩
  f24 := ⟨Try.f124.name, by decide, Try.func124.trans (congrArg some (by kernel_rfl))⟩
  f25 := ⟨Try.f125.name, by decide, Try.func125.trans (congrArg some (by kernel_rfl))⟩
  f26 := ⟨Try.f126.name, by decide, Try.func126.trans (congrArg some (by kernel_rfl))⟩
  f27 := ⟨Try.f127.name, by decide, Try.func127.trans (congrArg some (by kernel_rfl))⟩
  f28 := Try.func128.trans (congrArg some (by kernel_rfl))
  f29 := Try.func129.trans (congrArg some (by kernel_rfl))
  f46 := ⟨Try.f132.name, by decide, Try.func132.trans (congrArg some (by kernel_rfl))⟩
  f47 := Try.func133.trans (congrArg some (by kernel_rfl))
  f48 := Try.func134.trans (congrArg some (by kernel_rfl))
  f49 := ⟨Try.f135.name, by decide, Try.func135.trans (congrArg some (by kernel_rfl))⟩
  f50 := ⟨Try.f136.name, by decide, Try.func136.trans (congrArg some (by kernel_rfl))⟩
  f57 := ⟨Try.f137.name, by decide, Try.func137.trans (congrArg some (by kernel_rfl))⟩
  t0 := Try.underlying0
  a0 := Try.isAgg0
  z0 := Try.sizeOf0
  v0 := Try.zeroValue0
  t3 := Try.underlying3
  a3 := Try.isAgg3
  z3 := Try.sizeOf3
  v3 := Try.zeroValue3
  t4 := Try.underlying4
  a4 := Try.isAgg4
  z4 := Try.sizeOf4
  v4 := Try.zeroValue4
  t5 := Try.underlying5
  a5 := Try.isAgg5
  z5 := Try.sizeOf5
  v5 := Try.zeroValue5
  t9 := Try.underlying9
  a9 := Try.isAgg9
  z9 := Try.sizeOf9
  v9 := Try.zeroValue9
  t22 := Try.underlying32
  a22 := Try.isAgg32
  z22 := Try.sizeOf32
  v22 := Try.zeroValue32
  t25 := Try.underlying86
  a25 := Try.isAgg86
  z25 := Try.sizeOf86
  v25 := Try.zeroValue86
  t39 := Try.underlying73
  a39 := Try.isAgg73
  z39 := Try.sizeOf73
  v39 := Try.zeroValue73
  t45 := Try.underlying113
  a45 := Try.isAgg113
  z45 := Try.sizeOf113
  v45 := Try.zeroValue113
  t46 := Try.underlying114
  a46 := Try.isAgg114
  z46 := Try.sizeOf114
  v46 := Try.zeroValue114
  t50 := Try.underlying26
  a50 := Try.isAgg26
  z50 := Try.sizeOf26
  v50 := Try.zeroValue26
  t53 := Try.underlying108
  a53 := Try.isAgg108
  z53 := Try.sizeOf108
  v53 := Try.zeroValue108
  t55 := Try.underlying110
  a55 := Try.isAgg110
  z55 := Try.sizeOf110
  v55 := Try.zeroValue110
  t66 := Try.underlying120
  a66 := Try.isAgg120
  z66 := Try.sizeOf120
  v66 := Try.zeroValue120
  t70 := Try.underlying124
  a70 := Try.isAgg124
  z70 := Try.sizeOf124
  v70 := Try.zeroValue124
  t76 := Try.underlying126
  a76 := Try.isAgg126
  z76 := Try.sizeOf126
  v76 := Try.zeroValue126
  t77 := Try.underlying127
  a77 := Try.isAgg127
  z77 := Try.sizeOf127
  v77 := Try.zeroValue127 }
open Go.RowKit Go.Lib Go.Sort in
/-- **slices.SortFunc AT NO ELEMENT, A nil SLICE TOO: nothing turns.** (LAID AT THE INSTANCE 'slices.SortFunc[[][]int,[]int]': no walk: one application.) -/
theorem Try.slices_SortFunc_none {α : Type} [Inhabited α] (p : Option Addr) (cap : Nat) (fv : Value) (w : World) :
    Calls Try.prog 82 #[.slice p 0 cap, fv] w fun e w' => e = .returned (.tuple #[]) ∧ w' = w := AnyF.slices_SortFunc_none Try.laysSlF06_f82 p cap fv w
end Go.Proofs
namespace Go.Proofs.Ytadjbmcfgjmhkaa.P
open Go.RowKit Go.Deep Go.ChangeShapes Go.Joins Go.Proofs.YtadjbmcfgjmhkaaW.PrintWords
set_option linter.unusedVariables false
set_option linter.unusedSimpArgs false
def FitP (l : List S70) : Prop := l.length ≤ 9223372036854775807 ∧ ∀ e ∈ l, (Lit.int .i64 e.f0).wf = true ∧ (Lit.int .i64 e.f1).wf = true
section
variable {H : Type} {enc : TypeId × Value → H} {W : World} {base : Nat} {held : Bool} {fuel : Nat}

theorem read_prs {v : Value} {y : DataW H × List MemPlace} (h : DataW.trod enc Try.prog W base (fun _ => true) held fuel 22 [v] = some y) :
    ∃ (A : Option Addr) (c : Nat) (l : List S70), v = .slice A l.length c ∧ l.length ≤ c ∧ Kd.C k70 W A l.length l ∧ FitP l := by
  rcases open_slice Try.underlying22 h with ⟨hcs, _⟩ | ⟨a, len, cap, m, n, D, Pl, hcs, _, hl, hm, hmm, _, hx⟩
  · injection hcs with hv _
    exact ⟨none, 0, [], hv, Nat.le_refl _, ⟨rfl, Nat.zero_le _, fun h0 => absurd h0 (Nat.lt_irrefl _)⟩, ⟨Nat.zero_le _, fun n hn => by cases hn⟩⟩
  · injection hcs with hv _
    have hce : Try.prog.cellsOf 70 = 2 := by kernel_rfl
    have hci : Try.prog.cellsOf 3 = 1 := by kernel_rfl
    have each : ∀ i, i < len → ∃ e : S70, (W.cell? (a.add (i * 2)) = some (.int .i64 e.f0) ∧ W.cell? (a.add (i * 2 + 1)) = some (.int .i64 e.f1)) ∧ (Lit.int .i64 e.f0).wf = true ∧ (Lit.int .i64 e.f1).wf = true := by
      intro i hi
      obtain ⟨cs', h1, h2⟩ := hx i (by simp only [if_true] at hmm; omega)
      rw [hce] at h1
      obtain ⟨_, hcl, hcc⟩ := World.cells?_some h1
      obtain ⟨c0, c1, rfl⟩ : ∃ c0 c1, cs' = [c0, c1] := by
        match cs', hcl with
        | [c0, c1], _ => exact ⟨c0, c1, rfl⟩
      obtain ⟨xs, q, rfl, hq, _, hxl, he⟩ := DataW.trod_array Try.underlying70 h2
      have e0 := he 0 (by omega)
      have e1 := he 1 (by omega)
      simp only [hci] at e0 e1
      obtain ⟨y0, hy0⟩ : ∃ y0, xs[0]? = some y0 := ⟨xs[0], List.getElem?_eq_getElem (by omega)⟩
      obtain ⟨y1, hy1⟩ : ∃ y1, xs[1]? = some y1 := ⟨xs[1], List.getElem?_eq_getElem (by omega)⟩
      rw [hy0] at e0
      rw [hy1] at e1
      obtain ⟨n0, k0, _, w0⟩ := DataW.trod_int Try.underlying3 e0
      obtain ⟨n1, k1, _, w1⟩ := DataW.trod_int Try.underlying3 e1
      simp at k0 k1
      subst k0
      subst k1
      have f0 := hcc 0 (by omega)
      have f1 := hcc 1 (by omega)
      refine ⟨⟨n0, n1⟩, ⟨?_, ?_⟩, w0, w1⟩
      · rw [Addr.add_add, Nat.add_zero] at f0
        simpa using f0
      · rw [Addr.add_add] at f1
        simpa using f1
    have hlen : ((List.range len).map fun i => if hi : i < len then (each i hi).choose else z70).length = len := by simp
    refine ⟨some a, cap, (List.range len).map fun i => if hi : i < len then (each i hi).choose else z70, by rw [hlen]; exact hv, by omega, ⟨rfl, by unfold maxLen at hm; omega, fun _ => ⟨a, rfl, fun j p hj => ?_⟩⟩, ⟨by rw [hlen]; unfold maxLen at hm; omega, ?_⟩⟩
    · have hj2 := (List.getElem?_eq_some_iff.1 hj).1
      rw [hlen] at hj2
      have hp : (each j hj2).choose = p := by
        rw [List.getElem?_map, List.getElem?_range hj2] at hj
        simpa [hj2] using hj
      obtain ⟨⟨h1, h2⟩, _⟩ := (each j hj2).choose_spec
      rw [hp] at h1 h2
      refine ⟨[.int .i64 p.f0, .int .i64 p.f1], rfl, k70_mk W p, fun i u hi => ?_⟩
      rw [show k70.sz = 2 from rfl]
      match i, hi with
      | 0, hi =>
        have hu : Value.int .i64 p.f0 = u := by simpa using hi
        subst hu
        exact h1
      | 1, hi =>
        have hu : Value.int .i64 p.f1 = u := by simpa using hi
        subst hu
        exact h2
    · intro e he
      rw [List.mem_map] at he
      obtain ⟨r, hr, rfl⟩ := he
      have hr2 := List.mem_range.1 hr
      simp only [hr2, dif_pos]
      exact (each r hr2).choose_spec.2
end
end Go.Proofs.Ytadjbmcfgjmhkaa.P
