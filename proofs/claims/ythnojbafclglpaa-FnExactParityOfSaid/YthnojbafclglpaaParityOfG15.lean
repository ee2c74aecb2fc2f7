-- Written by a program of this session (the kit's print, turned: wip/print/patch.py) out of the translation. Not trusted: Lean checks it.
import Derived.Test.YthnojbafclglpaaParityOfG5
import Derived.Test.YthnojbafclglpaaParityOfG13
import Derived.Test.YthnojbafclglpaaParityOfG14
import Derived.Shelf.Small.Bits
import Derived.Shelf.Strconv.Itoa0
import Derived.Shelf.Sort.Plain
import Derived.Shelf.Bits.Mul64
import Derived.Ground.Names2Prog
import Derived.Shelf.Slices.Clone
import Derived.Shelf.Slices.SearchI
import Derived.Shelf.Slices.In.SortNone
import Derived.Shelf.Slices.Empties
import Derived.Ground.SlsfProg
import Derived.Shelf.SlSortCmp.Insertion
import Derived.Shelf.SlSortCmp.InsertionK
import Derived.Shelf.SlSortCmp.SiftDownK
import Derived.Shelf.SlSortCmp.HeapSortK
import Derived.Shelf.SlSortCmp.MedianK
import Derived.Shelf.SlSortCmp.PivotK
import Derived.Shelf.SlSortCmp.ReverseRangeK
import Derived.Shelf.SlSortCmp.PartialInsertionK
import Derived.Shelf.SlSortCmp.PartitionEqualK
import Derived.Shelf.SlSortCmp.PartitionK
import Derived.Shelf.SlSortCmp.PdqK
import Derived.Shelf.SlSortCmp.WholeK
import Derived.Shelf.SlSortCmp.SiftDown1
import Derived.Shelf.SlSortCmp.HeapSort1
import Derived.Shelf.SlSortCmp.Insertion1
import Derived.Shelf.SlSortCmp.Median1
import Derived.Shelf.SlSortCmp.Pivot1
import Derived.Shelf.SlSortCmp.ReverseRange1
import Derived.Shelf.SlSortCmp.PartialInsertion1
import Derived.Shelf.SlSortCmp.PartitionEqual1
import Derived.Shelf.SlSortCmp.Partition1
import Derived.Shelf.SlSortCmp.Pdq1
import Derived.Shelf.SlSortCmp.Whole1
import Derived.Shelf.SlSortCmp.NoneTotal
import Derived.Test.YthnojbafclglpaaProg
import Derived.Sort.OwnSortedInts
namespace Go.Proofs.Ythnojbafclglpaa.P
open Go.RowKit Go.Proofs.YthnojbafclglpaaW.PrintWords Go.Proofs.YthnojbafclglpaaW.PrintLast Go.Proofs.YthnojbafclglpaaW.PrintMore
attribute [local go_sem] max2_int min2_int max_two min_two max_three min_three max_four min_four   -- for this text's walks alone
set_option linter.unusedVariables false
set_option linter.unusedSimpArgs false

/-! ### impl_IsSpace: function 58 -/
mutual
def impl_IsSpace.j0 : Nat → Bool → List (List Int) → List (S64) → Option (Bool)
 | 0, _, _, _ => none
 | k + 1, x14, x272000, x272001 => if x14 = true then (some false) else (impl_IsSpace.l0 k x272000 (x272000.length : Int) 0 x272000 x272001)
def impl_IsSpace.l0 : Nat → List (List Int) → Int → Int → List (List Int) → List (S64) → Option (Bool)
 | 0, _, _, _, _, _ => none
 | k + 1, x16, x17, x18, x272000, x272001 => if x18 < x17 then (if 0 ≤ x18 then (if x18 < (x16.length : Int) then ((impl_isState.f (rd_L4 x16 x18)).bind fun t274 => (if t274 = true then (if x18 > 0 then (if 0 ≤ (wrap64 (x18 - 1)) then (if (wrap64 (x18 - 1)) < (x272000.length : Int) then ((slices_Compare_int_int.f k (rd_L4 x272000 (wrap64 (x18 - 1))) (rd_L4 x16 x18)).bind fun t276 => (if t276 ≥ 0 then (some false) else (impl_IsSpace.l0 k x16 x17 (wrap64 (x18 + 1)) x272000 x272001))) else (none)) else (none)) else (impl_IsSpace.l0 k x16 x17 (wrap64 (x18 + 1)) x272000 x272001)) else (some false))) else (none)) else (none)) else ((impl_isPairs.f k x272001 (x272000.length : Int)).bind fun t272 => (some t272))
end
def impl_IsSpace.f (k : Nat) (l0_0 : List (List Int)) (l0_1 : List (S64)) : Option (Bool) := if (l0_0.length : Int) > 300 then (impl_IsSpace.j0 k true l0_0 l0_1) else (impl_IsSpace.j0 k (decide ((l0_1.length : Int) > 6000)) l0_0 l0_1)
set_option maxHeartbeats 8000000 in
set_option maxRecDepth 100000 in
theorem impl_IsSpace.calls (k : Nat) (A0_0 : Option Addr) (c0_0 : Nat) (l0_0 : List (List Int)) (A0_1 : Option Addr) (c0_1 : Nat) (l0_1 : List (S64)) (r : Bool) (w : World) (hr0_0 : Kd.C (Kd.slice 3 (Kd.int .i64)) w A0_0 l0_0.length l0_0) (hc0_0 : l0_0.length ≤ c0_0) (hr0_1 : Kd.C k64 w A0_1 l0_1.length l0_1) (hc0_1 : l0_1.length ≤ c0_1) (h : impl_IsSpace.f k l0_0 l0_1 = some r) :
 Calls Try.prog 58 #[.agg #[.slice A0_0 l0_0.length c0_0, .slice A0_1 l0_1.length c0_1]] w fun e w' => e = .returned (.bool r) ∧ Below w.heap.size w w' := by
 have hu28 := Try.underlying28
 have HR0_0 := Aside0.mk hr0_0
 have HC0_0 := Aside0.mk hc0_0
 clear hr0_0 hc0_0
 have HR0_1 := Aside0.mk hr0_1
 have HC0_1 := Aside0.mk hc0_1
 clear hr0_1 hc0_1
 have HB := zM (Below.refl w.heap.size w)
 have H : (if (l0_0.length : Int) > 300 then (impl_IsSpace.j0 k true l0_0 l0_1) else (impl_IsSpace.j0 k (decide ((l0_1.length : Int) > 6000)) l0_0 l0_1)) = some r := h
 clear h
 have HC2 := Aside0.mk H
 clear H
 go_enter Try.func58, Try.ntmps58
 go_upto_region 1 with (first | ((with_reducible refine gate_dst (N := 1) rfl ?_); (try (refine gate_guard (by rfl) ?_; dsimp only)); refine zb (w := w) 1 #[.slice A0_0 l0_0.length c0_0, .slice A0_1 l0_1.length c0_1] 28 zB ?_; clear HB; intro gb271 w3 HB BK271 GW271; have GE271 := GW271))
 (try simp only [Act.put, List.setIfInBounds_toArray, List.set_cons_zero, List.set_cons_succ])
 go_cut [14] (fun v14 wc => ∃ (kq : Nat) (x14_1 : Bool), v14 = .bool x14_1 ∧ Aside0 (impl_IsSpace.j0 kq x14_1 l0_0 l0_1 = some r) ∧ Aside0 (kq ≤ k) ∧ Aside0 (wc.heap[gb271]? = some (.cells #[(.slice A0_0 l0_0.length c0_0), (.slice A0_1 l0_1.length c0_1)] 28 (0, 0))) ∧ Aside0 (Below w.heap.size w wc))
 case first =>
  have H := HC2.out
  clear HC2
  by_cases c4 : (l0_0.length : Int) > 300
  · rw [if_pos c4] at H
    have c4b0 : decide (300 < (l0_0.length : Int)) = true := decide_eq_true c4
    have c4b1 : decide (300 < l0_0.length) = true := decide_eq_true (by omega)
    clear c4
    (first | rw [c4b0] | (simp only [i64_w, i32_w]; rw [c4b0]) | skip)
    have H' := Aside0.mk H
    clear H
    have hcz5_0 := zy BK271 0
    have hcz5_1 := zy BK271 1
    have hfz5_0 := blk_frozen BK271.out 0
    have hfz5_1 := blk_frozen BK271.out 1
    go_wp2
    go_meet
    case rel => exact ⟨_, (true), (by first | rfl | (simp; done) | (simp [*]; done)), H', ⟨by first | omega | exact Nat.le_refl _⟩, ⟨zK BK271.out⟩, ⟨zB⟩⟩
  · rw [if_neg c4] at H
    have c4b0 : decide (300 < (l0_0.length : Int)) = false := decide_eq_false c4
    have c4b1 : decide (300 < l0_0.length) = false := decide_eq_false (by omega)
    clear c4
    (first | rw [c4b0] | (simp only [i64_w, i32_w]; rw [c4b0]) | skip)
    have H' := Aside0.mk H
    clear H
    have hcz6_0 := zy BK271 0
    have hcz6_1 := zy BK271 1
    have hfz6_0 := blk_frozen BK271.out 0
    have hfz6_1 := blk_frozen BK271.out 1
    go_wp2
    go_meet
    case rel => exact ⟨_, (decide ((l0_1.length : Int) > 6000)), (by first | rfl | (simp; done) | (simp [*]; done)), H', ⟨by first | omega | exact Nat.le_refl _⟩, ⟨zK BK271.out⟩, ⟨zB⟩⟩
 case rest =>
  clear HC2
  try clear p2
  try clear c4
  try clear c4b0
  try clear c4b1
  try clear c5
  try clear hcz5_0
  try clear hcz5_1
  try clear hcz6_0
  try clear hcz6_1
  try clear hfz5_0
  try clear hfz5_1
  try clear hfz6_0
  try clear hfz6_1
  obtain ⟨kq, x14_1, rfl, HA, HJ1, BK271, HB⟩ := hcut
  cases kq with
  | zero => exact absurd HA.out (by simp [impl_IsSpace.j0])
  | succ kj1 =>
   have H := HA.out
   clear HA
   simp only [impl_IsSpace.j0] at H
   by_cases c7 : x14_1 = true
   · subst c7
     rw [if_pos rfl] at H
     obtain rfl := Option.some.inj H
     go_wp2
     go_ret
     exact ⟨by first | rfl | (simp [errW_none, errW_some] <;> rfl) | (simp [*, errW_none, errW_some] <;> rfl), zB⟩
   · replace c7 := Bool.eq_false_iff.mpr c7
     subst c7
     have H1 : (impl_IsSpace.l0 kj1 l0_0 (l0_0.length : Int) 0 l0_0 l0_1) = some r := by rw [if_neg (show ¬ (false = true) by decide)] at H; exact H
     clear H
     have H := H1
     clear H1
     have H' := Aside0.mk H
     clear H
     have hcz8_0 := zy BK271 0
     have hcz8_1 := zy BK271 1
     have hfz8_0 := blk_frozen BK271.out 0
     have hfz8_1 := blk_frozen BK271.out 1
     go_wp2
     go_loopg [18] kj1 (fun kq v18 w' => ∃ (x18_2 : Int), v18 = .int .i64 x18_2 ∧ Aside0 (impl_IsSpace.l0 kq l0_0 (l0_0.length : Int) x18_2 l0_0 l0_1 = some r) ∧ Aside0 (kq ≤ kj1) ∧ Aside0 (w'.heap[gb271]? = some (.cells #[(.slice A0_0 l0_0.length c0_0), (.slice A0_1 l0_1.length c0_1)] 28 (0, 0))) ∧ Aside0 (Below w.heap.size w w'))
     case atStart => exact ⟨(0), (by first | rfl | (simp; done) | (simp [*]; done)), H', ⟨Nat.le_refl _⟩, ⟨zK BK271.out⟩, ⟨zB⟩⟩
     case round =>
      clear H'
      try clear p2
      try clear c4
      try clear c4b0
      try clear c4b1
      try clear c5
      try clear c7
      try clear hcz5_0
      try clear hcz5_1
      try clear hcz6_0
      try clear hcz6_1
      try clear hcz8_0
      try clear hcz8_1
      try clear hfz5_0
      try clear hfz5_1
      try clear hfz6_0
      try clear hfz6_1
      try clear hfz8_0
      try clear hfz8_1
      try clear p2
      obtain ⟨x18_2, rfl, HA, HK2, BK271, HB⟩ := hrel
      cases gk with
      | zero => exact absurd HA.out (by simp [impl_IsSpace.l0])
      | succ k2 =>
       have H := HA.out
       clear HA
       simp only [impl_IsSpace.l0] at H
       by_cases c9 : x18_2 < (l0_0.length : Int)
       · rw [if_pos c9] at H
         have c9b0 := decide_eq_true c9
         clear c9
         by_cases c10 : 0 ≤ x18_2
         · rw [if_pos c10] at H
           have c10b0 := decide_eq_true c10
           clear c10
           by_cases c11 : x18_2 < (l0_0.length : Int)
           · rw [if_pos c11] at H
             have c11b0 := decide_eq_true c11
             clear c11
             replace H := Option.bind_eq_some_iff.mp H
             obtain ⟨t274, A120, H⟩ := H
             have A12 := Aside0.mk A120
             clear A120
             by_cases c13 : t274 = true
             · subst c13
               rw [if_pos rfl] at H
               by_cases c14 : x18_2 > 0
               · rw [if_pos c14] at H
                 have c14b0 : decide (0 < x18_2) = true := decide_eq_true c14
                 clear c14
                 obtain ⟨ji15, hji15⟩ : ∃ j_ : Int, (wrap64 (x18_2 - 1)) = j_ := ⟨_, rfl⟩
                 replace H : (if 0 ≤ (ji15) then (if (ji15) < (l0_0.length : Int) then ((slices_Compare_int_int.f k2 (rd_L4 l0_0 (ji15)) (rd_L4 l0_0 x18_2)).bind fun t276 => (if t276 ≥ 0 then (some false) else (impl_IsSpace.l0 k2 l0_0 (l0_0.length : Int) (wrap64 (x18_2 + 1)) l0_0 l0_1))) else (none)) else (none)) = some r := by first | (rw [hji15] at H; exact H) | (simp only [hji15] at H ⊢; exact H)
                 (try rw [hji15] at A12)
                 have hji15w : (IntKind.i64.wrap (x18_2 - 1)) = ji15 := (i64_w _).trans hji15
                 by_cases c16 : 0 ≤ (ji15)
                 · rw [if_pos c16] at H
                   have c16b0 := decide_eq_true c16
                   clear c16
                   by_cases c17 : (ji15) < (l0_0.length : Int)
                   · rw [if_pos c17] at H
                     have c17b0 := decide_eq_true c17
                     clear c17
                     replace H := Option.bind_eq_some_iff.mp H
                     obtain ⟨t276, A180, H⟩ := H
                     have A18 := Aside0.mk A180
                     clear A180
                     by_cases c19 : t276 ≥ 0
                     · rw [if_pos c19] at H
                       have c19b0 : decide (0 ≤ t276) = true := decide_eq_true c19
                       clear c19
                       obtain rfl := Option.some.inj H
                       have p273 : 0 ≤ (x18_2 : Int) := of_decide_eq_true zA
                       have q273 : x18_2 < (l0_0.length : Int) := of_decide_eq_true zA
                       obtain ⟨ad273, A273_0, c273_0, e273, hx273_0, hl273_0, hi273_0⟩ := at_L4 HR0_0.out x18_2 p273 q273
                       cases e273
                       (try replace hx273_0 := (HB.out.cell (World.block_lt_of_cell? w _ hx273_0)).trans hx273_0)
                       have HR273_0 := Aside0.mk hi273_0
                       have HC273_0 := Aside0.mk hl273_0
                       clear hi273_0 hl273_0
                       replace p273 := eq_true p273
                       replace q273 := eq_true q273
                       go_wp2_with (first | ((with_reducible refine gate_callee (f := 126) rfl ?_); refine zc 24 Try.func126 #[.slice A273_0 (rd_L4 l0_0 x18_2).length c273_0] ?_; (with_reducible refine (impl_isState.calls _ _ (rd_L4 l0_0 x18_2) true _ ?side1 ?side2 A12.out).mono ?_); (case side1 => exact zC (Kd.C_below HR273_0.out HB.out)); (case side2 => exact HC273_0.out); rintro e w20 ⟨rfl, hb⟩; refine ⟨_, rfl, ?_⟩; replace BK271 := zM (blk_below (g := gb271) (o := .cells #[.slice (some ad273) l0_0.length c0_0, .slice A0_1 l0_1.length c0_1] 28 (0, 0)) (zK BK271.out) hb); replace HB := zM (below_step zB hb); (try clear hb); (try clear hb2); (try clear hk); (try clear hi); have hcz21_0 := zy BK271 0; have hcz21_1 := zy BK271 1; have hfz21_0 := blk_frozen BK271.out 0; have hfz21_1 := blk_frozen BK271.out 1; have p275 : 0 ≤ ((ji15) : Int) := of_decide_eq_true zA; have q275 : (ji15) < (l0_0.length : Int) := of_decide_eq_true zA; obtain ⟨ad275, A275_0, c275_0, e275, hx275_0, hl275_0, hi275_0⟩ := at_L4 HR0_0.out (ji15) p275 q275; obtain rfl : ad273 = ad275 := (by injection e275); (try replace hx275_0 := (HB.out.cell (World.block_lt_of_cell? w _ hx275_0)).trans hx275_0); have HR275_0 := Aside0.mk hi275_0; have HC275_0 := Aside0.mk hl275_0; clear hi275_0 hl275_0; replace p275 := eq_true p275; replace q275 := eq_true q275) | (go_at_call 105; (with_reducible refine (slices_Compare_int_int.calls k2 _ _ (rd_L4 l0_0 (ji15)) _ _ (rd_L4 l0_0 x18_2) t276 _ ?side1 ?side2 ?side3 ?side4 A18.out).mono ?_); (case side1 => exact zC (Kd.C_below HR275_0.out HB.out)); (case side2 => exact HC275_0.out); (case side3 => exact zC (Kd.C_below HR273_0.out HB.out)); (case side4 => exact HC273_0.out); rintro e w' ⟨rfl, ⟨nd, rfl⟩⟩))
                       go_ret
                       exact ⟨by first | rfl | (simp [errW_none, errW_some] <;> rfl) | (simp only [← hji15]; first | rfl | (simp [errW_none, errW_some] <;> rfl)) | (simp [*, errW_none, errW_some] <;> rfl), zB⟩
                     · rw [if_neg c19] at H
                       have c19b0 : decide (0 ≤ t276) = false := decide_eq_false c19
                       clear c19
                       have H' := Aside0.mk H
                       clear H
                       have p273 : 0 ≤ (x18_2 : Int) := of_decide_eq_true zA
                       have q273 : x18_2 < (l0_0.length : Int) := of_decide_eq_true zA
                       obtain ⟨ad273, A273_0, c273_0, e273, hx273_0, hl273_0, hi273_0⟩ := at_L4 HR0_0.out x18_2 p273 q273
                       cases e273
                       (try replace hx273_0 := (HB.out.cell (World.block_lt_of_cell? w _ hx273_0)).trans hx273_0)
                       have HR273_0 := Aside0.mk hi273_0
                       have HC273_0 := Aside0.mk hl273_0
                       clear hi273_0 hl273_0
                       replace p273 := eq_true p273
                       replace q273 := eq_true q273
                       go_wp2_with (first | ((with_reducible refine gate_callee (f := 126) rfl ?_); refine zc 24 Try.func126 #[.slice A273_0 (rd_L4 l0_0 x18_2).length c273_0] ?_; (with_reducible refine (impl_isState.calls _ _ (rd_L4 l0_0 x18_2) true _ ?side1 ?side2 A12.out).mono ?_); (case side1 => exact zC (Kd.C_below HR273_0.out HB.out)); (case side2 => exact HC273_0.out); rintro e w22 ⟨rfl, hb⟩; refine ⟨_, rfl, ?_⟩; replace BK271 := zM (blk_below (g := gb271) (o := .cells #[.slice (some ad273) l0_0.length c0_0, .slice A0_1 l0_1.length c0_1] 28 (0, 0)) (zK BK271.out) hb); replace HB := zM (below_step zB hb); (try clear hb); (try clear hb2); (try clear hk); (try clear hi); have hcz23_0 := zy BK271 0; have hcz23_1 := zy BK271 1; have hfz23_0 := blk_frozen BK271.out 0; have hfz23_1 := blk_frozen BK271.out 1; have p275 : 0 ≤ ((ji15) : Int) := of_decide_eq_true zA; have q275 : (ji15) < (l0_0.length : Int) := of_decide_eq_true zA; obtain ⟨ad275, A275_0, c275_0, e275, hx275_0, hl275_0, hi275_0⟩ := at_L4 HR0_0.out (ji15) p275 q275; obtain rfl : ad273 = ad275 := (by injection e275); (try replace hx275_0 := (HB.out.cell (World.block_lt_of_cell? w _ hx275_0)).trans hx275_0); have HR275_0 := Aside0.mk hi275_0; have HC275_0 := Aside0.mk hl275_0; clear hi275_0 hl275_0; replace p275 := eq_true p275; replace q275 := eq_true q275) | (go_at_call 105; (with_reducible refine (slices_Compare_int_int.calls k2 _ _ (rd_L4 l0_0 (ji15)) _ _ (rd_L4 l0_0 x18_2) t276 _ ?side1 ?side2 ?side3 ?side4 A18.out).mono ?_); (case side1 => exact zC (Kd.C_below HR275_0.out HB.out)); (case side2 => exact HC275_0.out); (case side3 => exact zC (Kd.C_below HR273_0.out HB.out)); (case side4 => exact HC273_0.out); rintro e w' ⟨rfl, ⟨nd, rfl⟩⟩))
                       go_roundg k2
                       case measure => have := HJ1.out; have := HK2.out; omega
                       case rel => exact ⟨(wrap64 (x18_2 + 1)), (by first | rfl | (simp; done) | (simp [*]; done)), H', ⟨by have := HJ1.out; have := HK2.out; omega⟩, ⟨zK BK271.out⟩, ⟨zB⟩⟩
                   · rw [if_neg c17] at H
                     exact absurd H (by simp)
                 · rw [if_neg c16] at H
                   exact absurd H (by simp)
               · rw [if_neg c14] at H
                 have c14b0 : decide (0 < x18_2) = false := decide_eq_false c14
                 clear c14
                 have H' := Aside0.mk H
                 clear H
                 have p273 : 0 ≤ (x18_2 : Int) := of_decide_eq_true zA
                 have q273 : x18_2 < (l0_0.length : Int) := of_decide_eq_true zA
                 obtain ⟨ad273, A273_0, c273_0, e273, hx273_0, hl273_0, hi273_0⟩ := at_L4 HR0_0.out x18_2 p273 q273
                 cases e273
                 (try replace hx273_0 := (HB.out.cell (World.block_lt_of_cell? w _ hx273_0)).trans hx273_0)
                 have HR273_0 := Aside0.mk hi273_0
                 have HC273_0 := Aside0.mk hl273_0
                 clear hi273_0 hl273_0
                 replace p273 := eq_true p273
                 replace q273 := eq_true q273
                 go_wp2_with (first | ((with_reducible refine gate_callee (f := 126) rfl ?_); refine zc 24 Try.func126 #[.slice A273_0 (rd_L4 l0_0 x18_2).length c273_0] ?_; (with_reducible refine (impl_isState.calls _ _ (rd_L4 l0_0 x18_2) true _ ?side1 ?side2 A12.out).mono ?_); (case side1 => exact zC (Kd.C_below HR273_0.out HB.out)); (case side2 => exact HC273_0.out); rintro e w24 ⟨rfl, hb⟩; refine ⟨_, rfl, ?_⟩; replace BK271 := zM (blk_below (g := gb271) (o := .cells #[.slice (some ad273) l0_0.length c0_0, .slice A0_1 l0_1.length c0_1] 28 (0, 0)) (zK BK271.out) hb); replace HB := zM (below_step zB hb); (try clear hb); (try clear hb2); (try clear hk); (try clear hi)))
                 go_roundg k2
                 case measure => have := HJ1.out; have := HK2.out; omega
                 case rel => exact ⟨(wrap64 (x18_2 + 1)), (by first | rfl | (simp; done) | (simp [*]; done)), H', ⟨by have := HJ1.out; have := HK2.out; omega⟩, ⟨zK BK271.out⟩, ⟨zB⟩⟩
             · replace c13 := Bool.eq_false_iff.mpr c13
               subst c13
               have H1 : (some false) = some r := by rw [if_neg (show ¬ (false = true) by decide)] at H; exact H
               clear H
               have H := H1
               clear H1
               obtain rfl := Option.some.inj H
               have p273 : 0 ≤ (x18_2 : Int) := of_decide_eq_true zA
               have q273 : x18_2 < (l0_0.length : Int) := of_decide_eq_true zA
               obtain ⟨ad273, A273_0, c273_0, e273, hx273_0, hl273_0, hi273_0⟩ := at_L4 HR0_0.out x18_2 p273 q273
               cases e273
               (try replace hx273_0 := (HB.out.cell (World.block_lt_of_cell? w _ hx273_0)).trans hx273_0)
               have HR273_0 := Aside0.mk hi273_0
               have HC273_0 := Aside0.mk hl273_0
               clear hi273_0 hl273_0
               replace p273 := eq_true p273
               replace q273 := eq_true q273
               go_wp2_with (first | ((with_reducible refine gate_callee (f := 126) rfl ?_); refine zc 24 Try.func126 #[.slice A273_0 (rd_L4 l0_0 x18_2).length c273_0] ?_; (with_reducible refine (impl_isState.calls _ _ (rd_L4 l0_0 x18_2) false _ ?side1 ?side2 A12.out).mono ?_); (case side1 => exact zC (Kd.C_below HR273_0.out HB.out)); (case side2 => exact HC273_0.out); rintro e w25 ⟨rfl, hb⟩; refine ⟨_, rfl, ?_⟩; replace BK271 := zM (blk_below (g := gb271) (o := .cells #[.slice (some ad273) l0_0.length c0_0, .slice A0_1 l0_1.length c0_1] 28 (0, 0)) (zK BK271.out) hb); replace HB := zM (below_step zB hb); (try clear hb); (try clear hb2); (try clear hk); (try clear hi)))
               go_ret
               exact ⟨by first | rfl | (simp [errW_none, errW_some] <;> rfl) | (simp [*, errW_none, errW_some] <;> rfl), zB⟩
           · rw [if_neg c11] at H
             exact absurd H (by simp)
         · rw [if_neg c10] at H
           exact absurd H (by simp)
       · rw [if_neg c9] at H
         have c9b0 : decide (x18_2 < (l0_0.length : Int)) = false := decide_eq_false c9
         clear c9
         replace H := Option.bind_eq_some_iff.mp H
         obtain ⟨t272, A260, H⟩ := H
         have A26 := Aside0.mk A260
         clear A260
         obtain rfl := Option.some.inj H
         have hcz27_0 := zy BK271 0
         have hcz27_1 := zy BK271 1
         have hfz27_0 := blk_frozen BK271.out 0
         have hfz27_1 := blk_frozen BK271.out 1
         go_wp2_with (first | ((with_reducible refine gate_callee (f := 127) rfl ?_); refine zc 47 Try.func127 #[.slice A0_1 l0_1.length c0_1, .int .i64 (l0_0.length : Int)] ?_; (with_reducible refine (impl_isPairs.calls k2 _ _ l0_1 (l0_0.length : Int) t272 _ ?side1 ?side2 A26.out).mono ?_); (case side1 => exact zC (Kd.C_below HR0_1.out HB.out)); (case side2 => exact HC0_1.out); rintro e w28 ⟨rfl, hb⟩; refine ⟨_, rfl, ?_⟩; replace BK271 := zM (blk_below (g := gb271) (o := .cells #[.slice A0_0 l0_0.length c0_0, .slice A0_1 l0_1.length c0_1] 28 (0, 0)) (zK BK271.out) hb); replace HB := zM (below_step zB hb); (try clear hb); (try clear hb2); (try clear hk); (try clear hi)))
         go_ret
         exact ⟨by first | rfl | (simp [errW_none, errW_some] <;> rfl) | (simp [*, errW_none, errW_some] <;> rfl), zB⟩

end Go.Proofs.Ythnojbafclglpaa.P
namespace Go.Proofs
open Go.Shelf
def Try.lays189_ren : Go.Shelf.Ren := ⟨fun | 189 => 146 | 125 => 150 | 257 => 174 | 128 => 183 | 129 => 184 | 294 => 214 | 295 => 215 | 296 => 216 | 297 => 217 | 298 => 218 | 299 => 219 | 216 => 139 | 300 => 220 | 301 => 221 | 328 => 237 | 329 => 223 | 330 => 224 | 331 => 238 | 332 => 239 | 215 => 167 | 343 => 244 | n => n, fun | 28 => 26 | 3 => 3 | 46 => 121 | 0 => 0 | 51 => 156 | 53 => 107 | 4 => 4 | 183 => 150 | 182 => 149 | 131 => 56 | 5 => 5 | 9 => 9 | 218 => 181 | 222 => 185 | 228 => 198 | 229 => 199 | n => n, fun | n => n⟩
theorem Try.lays189 : Go.Proofs.Lays.n189 Try.prog Try.lays189_ren := {
  mixed := by kernel_rfl
  f125 := Try.func150.trans (congrArg some (by kernel_rfl))
  f128 := Try.func183.trans (congrArg some (by kernel_rfl))
  f129 := Try.func184.trans (congrArg some (by kernel_rfl))
  f189 := Try.func146.trans (congrArg some (by kernel_rfl))
  f215 := Try.func167.trans (congrArg some (by kernel_rfl))
  f216 := Try.func139.trans (congrArg some (by kernel_rfl))
  f257 := Try.func174.trans (congrArg some (by kernel_rfl))
  f294 := Try.func214.trans (congrArg some (by kernel_rfl))
  f295 := Try.func215.trans (congrArg some (by kernel_rfl))
  f296 := Try.func216.trans (congrArg some (by kernel_rfl))
  f297 := Try.func217.trans (congrArg some (by kernel_rfl))
  f298 := Try.func218.trans (congrArg some (by kernel_rfl))
  f299 := Try.func219.trans (congrArg some (by kernel_rfl))
  f300 := Try.func220.trans (congrArg some (by kernel_rfl))
  f301 := Try.func221.trans (congrArg some (by kernel_rfl))
  f328 := Try.func237.trans (congrArg some (by kernel_rfl))
  f329 := Try.func223.trans (congrArg some (by kernel_rfl))
  f330 := Try.func224.trans (congrArg some (by kernel_rfl))
  f331 := Try.func238.trans (congrArg some (by kernel_rfl))
  f332 := Try.func239.trans (congrArg some (by kernel_rfl))
  f343 := Try.func244.trans (congrArg some (by kernel_rfl))
  t0 := Try.underlying0
  a0 := Try.isAgg0
  z0 := Try.sizeOf0
  v0 := Try.zeroValue0
  t3 := Try.underlying3
  a3 := Try.isAgg3
  z3 := Try.sizeOf3
  v3 := Try.zeroValue3
  t4 := Try.underlying4
  a4 := Try.isAgg4
  z4 := Try.sizeOf4
  v4 := Try.zeroValue4
  t5 := Try.underlying5
  a5 := Try.isAgg5
  z5 := Try.sizeOf5
  v5 := Try.zeroValue5
  t9 := Try.underlying9
  a9 := Try.isAgg9
  z9 := Try.sizeOf9
  v9 := Try.zeroValue9
  t28 := Try.underlying26
  a28 := Try.isAgg26
  z28 := Try.sizeOf26
  v28 := Try.zeroValue26
  t46 := Try.underlying121
  a46 := Try.isAgg121
  z46 := Try.sizeOf121
  v46 := Try.zeroValue121
  t51 := Try.underlying156
  a51 := Try.isAgg156
  z51 := Try.sizeOf156
  v51 := Try.zeroValue156
  t53 := Try.underlying107
  a53 := Try.isAgg107
  z53 := Try.sizeOf107
  v53 := Try.zeroValue107
  t131 := Try.underlying56
  a131 := Try.isAgg56
  z131 := Try.sizeOf56
  v131 := Try.zeroValue56
  t182 := Try.underlying149
  a182 := Try.isAgg149
  z182 := Try.sizeOf149
  v182 := Try.zeroValue149
  t183 := Try.underlying150
  a183 := Try.isAgg150
  z183 := Try.sizeOf150
  v183 := Try.zeroValue150
  t218 := Try.underlying181
  a218 := Try.isAgg181
  z218 := Try.sizeOf181
  v218 := Try.zeroValue181
  t222 := Try.underlying185
  a222 := Try.isAgg185
  z222 := Try.sizeOf185
  v222 := Try.zeroValue185
  t228 := Try.underlying198
  a228 := Try.isAgg198
  z228 := Try.sizeOf198
  v228 := Try.zeroValue198
  t229 := Try.underlying199
  a229 := Try.isAgg199
  z229 := Try.sizeOf199
  v229 := Try.zeroValue199 }
open Go.Sort Go.RowKit in
theorem Try.slices_Sort_int (blk off cap : Nat) (zs : List Int) (w : World) (hH : Holds (Value.int .i64) w blk off zs.toArray) (hblk : blk < w.heap.size) (hsz : zs.length < 4611686018427387904) :
    Calls Try.prog 146 #[.slice (some ⟨blk, off, none⟩) zs.length cap] w fun e w' =>
      e = .returned (.tuple #[]) ∧ ∃ n os, w' = grow (putRow (Value.int .i64) (Sort.ahead w n) blk off (zs.mergeSort fun x y => decide (x ≤ y)).toArray) os := Any.slices_Sort_int Try.lays189 blk off cap zs w hH hblk hsz
def Try.lays212_ren : Go.Shelf.Ren := ⟨fun | 212 => 185 | 263 => 227 | 264 => 228 | n => n, fun | 46 => 121 | 51 => 156 | 146 => 187 | 53 => 107 | 148 => 189 | n => n, fun | n => n⟩
theorem Try.lays212 : Go.Proofs.Lays.n212 Try.prog Try.lays212_ren := {
  mixed := by kernel_rfl
  f212 := Try.func185.trans (congrArg some (by kernel_rfl))
  f263 := Try.func227.trans (congrArg some (by kernel_rfl))
  f264 := Try.func228.trans (congrArg some (by kernel_rfl))
  t46 := Try.underlying121
  a46 := Try.isAgg121
  z46 := Try.sizeOf121
  v46 := Try.zeroValue121
  t51 := Try.underlying156
  a51 := Try.isAgg156
  z51 := Try.sizeOf156
  v51 := Try.zeroValue156
  t53 := Try.underlying107
  a53 := Try.isAgg107
  z53 := Try.sizeOf107
  v53 := Try.zeroValue107
  t146 := Try.underlying187
  a146 := Try.isAgg187
  z146 := Try.sizeOf187
  v146 := Try.zeroValue187
  t148 := Try.underlying189
  a148 := Try.isAgg189
  z148 := Try.sizeOf189
  v148 := Try.zeroValue189 }
open Go.RowKit Go.Lib in
/-- math/bits.Mul: "Mul returns the full-width product of x and y": on a machine of 64 bits: Mul64's. (LAID: no walk: one application.) -/
theorem Try.bits_Mul (x y : Nat) (hx : x < 18446744073709551616) (hy : y < 18446744073709551616) (w : World) :
    Calls Try.prog 185 #[.int .u64 x, .int .u64 y] w fun e w' => e = .returned (.tuple #[.int .u64 ((x * y / 18446744073709551616 : Nat) : Int), .int .u64 ((x * y % 18446744073709551616 : Nat) : Int)]) ∧ w' = w := Any.bits_Mul Try.lays212 x y hx hy w
open Go.RowKit Go.Sort in
/-- .. and plain. (LAID: no walk: one application.) -/
theorem Try.slices_Sort_int_none (p : Option Addr) (cap : Nat) (w : World) :
    Calls Try.prog 146 #[.slice p 0 cap] w fun e w' => e = .returned (.tuple #[]) ∧ w' = w := Any.slices_Sort_int_none Try.lays189 p cap w
end Go.Proofs
namespace Go.Proofs.Ythnojbafclglpaa.P
open Go.RowKit Go.Proofs.YthnojbafclglpaaW.PrintWords Go.Proofs.YthnojbafclglpaaW.PrintLast Go.Proofs.YthnojbafclglpaaW.PrintMore
set_option linter.unusedVariables false
set_option linter.unusedSimpArgs false

def sortL (l : List Int) : List Int := l.mergeSort fun x y => decide (x ≤ y)
def slices_Sort_int_int.f (l : List Int) : Option (List Int) := if l.length < 4611686018427387904 then some (sortL l) else none
theorem sortL_len (l : List Int) : (sortL l).length = l.length := List.length_mergeSort l
theorem slices_Sort_int_int.calls (P0_ : Nat → Prop) (u9000_ : Value) (l0 r : List Int) (w0 w : World) (hB : Below w0.heap.size w0 w) (ho0 : Kd.R (Kd.int .i64) 3 w w0.heap.size P0_ u9000_ l0) (h : slices_Sort_int_int.f l0 = some r) :
    Calls Try.prog 146 #[u9000_] w fun e w' => e = .returned (.tuple #[]) ∧ Kd.R (Kd.int .i64) 3 w' w0.heap.size (fun k_ => (P0_ k_ ∨ w.heap.size ≤ k_)) u9000_ r ∧ Below w0.heap.size w0 w' ∧ Kept w w' (fun k_ => P0_ k_) := by
  unfold slices_Sort_int_int.f at h
  by_cases hl : l0.length < 4611686018427387904
  · rw [if_pos hl] at h
    obtain rfl := Option.some.inj h
    have hown := Kd.own_of_R (enc := Value.int .i64) ho0
    rcases hown.2 with ⟨hnil, hz⟩ | ⟨g, cap, cur, rfl, hbase, hb, h1, h2, h3, h4⟩
    · have h0 : l0 = [] := by
        cases l0 with
        | nil => rfl
        | cons x t => simp at hz
      subst h0
      subst hnil
      refine (Try.slices_Sort_int_none none 0 w).mono ?_
      rintro e w' ⟨rfl, rfl⟩
      refine ⟨rfl, ?_, hB, Kept.refl _ _⟩
      rw [show sortL [] = [] from by simp [sortL]]
      exact Kd.R_mono ho0 (fun k hk => .inl hk)
    · have hgl : g < w.heap.size := (Array.getElem?_eq_some_iff.1 hb).1
      refine (Try.slices_Sort_int g 0 cap l0 w (holds_of_blockI hb (by simpa [encs] using h4)) hgl hl).mono ?_
      rintro e w' ⟨rfl, nn, os, rfl⟩
      have hgr := grownBy_sortedI (w := w) (g := g) (n := nn) (os := os) (sortL l0).toArray
      refine ⟨rfl, ?_, hB.grown hgr hB.size (fun k hk => by injection hk with hk; omega), Kept.of_grown hgr (Kept.refl w _) (fun k hk => .inl (ho0.1 k hk))⟩
      refine Kd.R_of_own (enc := Value.int .i64) ?_ (fun k hk => .inl (ho0.1 k hk))
      rw [sortL_len]
      exact ownsRow_sortedI (sortL_len l0) hbase hb h1 h2 h3
  · rw [if_neg hl] at h
    cases h

end Go.Proofs.Ythnojbafclglpaa.P
