/- slices.Concat at []int: the lists, one behind the other, in a row of its own. (The walks began as printed copies of turned functions.) -/
import Derived.Test.YtihfpngolcjkiaaProductSpaceG5
import Derived.Lib.SliceRun
import Derived.Handy
import Derived.Shelf.Abstract
import Derived.Shelf.Small.Bits
import Derived.Shelf.Small.Wraps
import Derived.Shelf.Strconv.Itoa0
import Derived.Shelf.Slices.Equal
import Derived.Ground.Names2Prog
import Derived.Shelf.Slices.Clone
import Derived.Shelf.Slices.SearchI
import Derived.Shelf.Slices.Empties2
import Derived.Ground.SlsfProg
import Derived.Shelf.SlSortCmp.Insertion
import Derived.Shelf.SlSortCmp.InsertionK
import Derived.Shelf.SlSortCmp.SiftDownK
import Derived.Shelf.SlSortCmp.HeapSortK
import Derived.Shelf.SlSortCmp.MedianK
import Derived.Shelf.SlSortCmp.PivotK
import Derived.Shelf.SlSortCmp.ReverseRangeK
import Derived.Shelf.SlSortCmp.PartialInsertionK
import Derived.Shelf.SlSortCmp.PartitionEqualK
import Derived.Shelf.SlSortCmp.PartitionK
import Derived.Shelf.SlSortCmp.PdqK
import Derived.Shelf.SlSortCmp.WholeK
import Derived.Shelf.SlSortCmp.SiftDown1
import Derived.Shelf.SlSortCmp.HeapSort1
import Derived.Shelf.SlSortCmp.Insertion1
import Derived.Shelf.SlSortCmp.Median1
import Derived.Shelf.SlSortCmp.Pivot1
import Derived.Shelf.SlSortCmp.ReverseRange1
import Derived.Shelf.SlSortCmp.PartialInsertion1
import Derived.Shelf.SlSortCmp.PartitionEqual1
import Derived.Shelf.SlSortCmp.Partition1
import Derived.Shelf.SlSortCmp.Pdq1
import Derived.Shelf.SlSortCmp.Whole1
import Derived.Shelf.SlSortCmp.NoneTotal
import Derived.Test.YtihfpngolcjkiaaProg
import Derived.Test.YtihfpngolcjkiaaProductSpaceG6
import Derived.Test.YtihfpngolcjkiaaProductSpaceG7
import Derived.Test.YtihfpngolcjkiaaProductSpaceG8
namespace Go.Proofs.Ytihfpngolcjkiaa.P
open Go.RowKit Go.Proofs.YtihfpngolcjkiaaW.PrintWords Go.Proofs.YtihfpngolcjkiaaW.PrintLast Go.Proofs.YtihfpngolcjkiaaW.PrintMore
attribute [local go_sem] max2_int min2_int max_two min_two max_three min_three max_four min_four   -- for this text's walks alone
set_option linter.unusedVariables false
set_option linter.unusedSimpArgs false
set_option maxHeartbeats 8000000 in
set_option maxRecDepth 100000 in
theorem grow_nil.calls (a1 : Int) (w : World) (h0 : 0 ≤ a1) (h1 : a1 ≤ 1048576) :
 Calls Try.prog 56 #[.slice none 0 0, .int .i64 a1] w fun e w' => ∃ v0_ : Value, e = .returned (v0_) ∧ Kd.R (Kd.int .i64) 3 w' w.heap.size (fun _ => True) v0_ [] ∧ Below w.heap.size w w' := by
 have HB := zM (Below.refl w.heap.size w)
 have hw1 : wrap64 a1 = a1 := by unfold wrap64; omega
 have hw2 : (IntKind.i64.wrap a1) = a1 := (i64_w _).trans hw1
 have c3b0 : decide (a1 < 0) = false := decide_eq_false (by omega)
 by_cases c4 : a1 > 0
 · have c4b0 : decide (0 < a1) = true := decide_eq_true c4
   have c6b0 := eq_true h0
   have c6b1 : decide (0 ≤ a1) = true := decide_eq_true h0
   have LM := Aside0.mk h1
   obtain ⟨y258, hy258⟩ : ∃ y_ : List Int, y_ = (([] : List Int) ++ List.replicate (a1 : Int).toNat 0) := ⟨_, rfl⟩
   have Ny258 := Aside0.mk hy258
   clear hy258 c4 h0 h1
   go_enter Try.func56, Try.ntmps56
   go_wp2_with (first | (at_builtin; refine Kd.R_append_zeros (Kd.int .i64) (w0 := w) w.heap.size rfl (.tmp 20) (.tmp 21) 39 3 3 (.int .i64 0) 8 rfl Try.underlying39 Try.underlying3 info3 rfl (by decide) (by omega) (.slice none 0 0) ([] : List Int) 0 (a1 : Int) (fun _ => True) rfl rfl rfl ?aF ?aO (of_decide_eq_true zA) ?aB ?aS ?aL ?_; (case aB => exact zB); (case aF => exact (fun _ _ => trivial)); (case aO => exact ((Kd.R_nil _ _ _ _ (fun _ => True)))); (case aS => exact (below_size zB)); (case aL => have := LM.out; simp only [List.length_nil]; omega); intro v259 w8 ho hb hg hat; rw [← Ny258.out] at ho; obtain ⟨Ao, co, eo⟩ := Kd.R_slice ho; subst eo; replace HB := zM (hb); have HO260 := zM (ho); clear ho hb hg hat))
   go_ret
   exact ⟨_, rfl, by have h := Kd.R_take HO260.out (m := 0) (Nat.zero_le _); rw [List.take_zero] at h; exact h, zB⟩
 · have c4b0 : decide (0 < a1) = false := decide_eq_false c4
   clear c4 h0 h1
   go_enter Try.func56, Try.ntmps56
   go_wp2
   go_ret
   exact ⟨_, rfl, Kd.R_nil _ _ _ _ _, zB⟩
mutual
def slices_Concat_int_int.l0 : Nat → List (List Int) → Int → List (List Int) → Int → Int → Option (List Int)
 | 0, _, _, _, _, _ => none
 | k + 1, x0, x3, x9, x10, x11 => if x11 < x10 then (if 0 ≤ x11 then (if x11 < (x9.length : Int) then (if (wrap64 (x3 + ((rd_L1 x9 x11).length : Int))) < 0 then none else (slices_Concat_int_int.l0 k x0 (wrap64 (x3 + ((rd_L1 x9 x11).length : Int))) x9 x10 (wrap64 (x11 + 1)))) else (none)) else (none)) else (if 0 ≤ x3 then (if x3 ≤ 1048576 then (slices_Concat_int_int.l1 k ([] : List Int) x0 (x0.length : Int) 0) else none) else none)
def slices_Concat_int_int.l1 : Nat → List Int → List (List Int) → Int → Int → Option (List Int)
 | 0, _, _, _, _ => none
 | k + 1, x6, x25, x26, x27 => if x27 < x26 then (if 0 ≤ x27 then (if x27 < (x25.length : Int) then (if x6.length + (rd_L1 x25 x27).length < 17592186044416 then (slices_Concat_int_int.l1 k (x6 ++ (rd_L1 x25 x27)) x25 x26 (wrap64 (x27 + 1))) else (none)) else (none)) else (none)) else (some x6)
end
def slices_Concat_int_int.f (k : Nat) (l0 : List (List Int)) : Option (List Int) := slices_Concat_int_int.l0 k l0 0 l0 (l0.length : Int) 0
set_option maxHeartbeats 8000000 in
set_option maxRecDepth 100000 in
theorem slices_Concat_int_int.calls (k : Nat) (A0 : Option Addr) (c0 : Nat) (l0 : List (List Int)) (r : List Int) (w : World) (hr0 : Kd.C (Kd.slice 3 (Kd.int .i64)) w A0 l0.length l0) (hc0 : l0.length ≤ c0) (h : slices_Concat_int_int.f k l0 = some r) :
 Calls Try.prog 26 #[.slice A0 l0.length c0] w fun e w' => ∃ v0_ : Value, e = .returned (v0_) ∧ Kd.R (Kd.int .i64) 3 w' w.heap.size (fun _ => True) v0_ r ∧ Below w.heap.size w w' := by
 have HR0 := Aside0.mk hr0
 have HC0 := Aside0.mk hc0
 clear hr0 hc0
 have HB := zM (Below.refl w.heap.size w)
 have H : (slices_Concat_int_int.l0 k l0 0 l0 (l0.length : Int) 0) = some r := h
 clear h
 have H' := Aside0.mk H
 clear H
 go_enter Try.func26, Try.ntmps26
 go_wp2
 go_loopg [3, 11] k (fun kq v3 v11 w' => ∃ (x3_1 : Int) (x11_1 : Int), v3 = .int .i64 x3_1 ∧ v11 = .int .i64 x11_1 ∧ Aside0 (slices_Concat_int_int.l0 kq l0 x3_1 l0 (l0.length : Int) x11_1 = some r) ∧ Aside0 (kq ≤ k) ∧ Aside0 (Below w.heap.size w w'))
 case atStart => exact ⟨(0), (0), (by first | rfl | (simp; done) | (simp [*]; done)), (by first | rfl | (simp; done) | (simp [*]; done)), H', ⟨Nat.le_refl _⟩, ⟨zB⟩⟩
 case round =>
  clear H'
  obtain ⟨x3_1, x11_1, rfl, rfl, HA, HK1, HB⟩ := hrel
  cases gk with
  | zero => exact absurd HA.out (by simp [slices_Concat_int_int.l0])
  | succ k1 =>
   have H := HA.out
   clear HA
   simp only [slices_Concat_int_int.l0] at H
   by_cases c2 : x11_1 < (l0.length : Int)
   · rw [if_pos c2] at H
     have c2b0 := decide_eq_true c2
     clear c2
     by_cases c3 : 0 ≤ x11_1
     · rw [if_pos c3] at H
       have c3b0 := decide_eq_true c3
       clear c3
       by_cases c4 : x11_1 < (l0.length : Int)
       · rw [if_pos c4] at H
         have c4b0 := decide_eq_true c4
         clear c4
         by_cases c5 : (wrap64 (x3_1 + ((rd_L1 l0 x11_1).length : Int))) < 0
         · rw [if_pos c5] at H
           have c5b0 := decide_eq_true c5
           clear c5
           cases H
         · rw [if_neg c5] at H
           have c5b0 : decide ((wrap64 (x3_1 + ((rd_L1 l0 x11_1).length : Int))) < 0) = false := decide_eq_false c5
           clear c5
           have H' := Aside0.mk H
           clear H
           have p258 : 0 ≤ (x11_1 : Int) := of_decide_eq_true zA
           have q258 : x11_1 < (l0.length : Int) := of_decide_eq_true zA
           obtain ⟨ad258, A258_0, c258_0, e258, hx258_0, hl258_0, hi258_0⟩ := at_L1 HR0.out x11_1 p258 q258
           cases e258
           (try replace hx258_0 := (HB.out.cell (World.block_lt_of_cell? w _ hx258_0)).trans hx258_0)
           have HR258_0 := Aside0.mk hi258_0
           have HC258_0 := Aside0.mk hl258_0
           clear hi258_0 hl258_0
           replace p258 := eq_true p258
           replace q258 := eq_true q258
           go_wp2
           go_roundg k1
           case measure => have := HK1.out; omega
           case rel => exact ⟨(wrap64 (x3_1 + ((rd_L1 l0 x11_1).length : Int))), (wrap64 (x11_1 + 1)), (by first | rfl | (simp; done) | (simp [*]; done)), (by first | rfl | (simp; done) | (simp [*]; done)), H', ⟨by have := HK1.out; omega⟩, ⟨zB⟩⟩
       · rw [if_neg c4] at H
         exact absurd H (by simp)
     · rw [if_neg c3] at H
       exact absurd H (by simp)
   · rw [if_neg c2] at H
     have c2b0 : decide (x11_1 < (l0.length : Int)) = false := decide_eq_false c2
     clear c2
     by_cases g0 : 0 ≤ x3_1
     · rw [if_pos g0] at H
       by_cases g1 : x3_1 ≤ 1048576
       · rw [if_pos g1] at H
         have H' := Aside0.mk H
         have G0 := Aside0.mk g0
         have G1 := Aside0.mk g1
         clear H g0 g1
         go_wp2_with (go_at_call 56; refine (grow_nil.calls x3_1 _ G0.out G1.out).mono ?_; rintro e w5 ⟨v5_, rfl, ho, hb⟩; have HOg := zM (Kd.R_lower ho (below_size zB)); replace HB := zM (below_step zB hb); clear ho hb)
         go_loopg [6, 27] k1 (fun kq v6 v27 w' => ∃ (x6_2 : List Int) (x27_2 : Int), v27 = .int .i64 x27_2 ∧ Aside0 (slices_Concat_int_int.l1 kq x6_2 l0 (l0.length : Int) x27_2 = some r) ∧ Aside0 (kq ≤ k1) ∧ Aside0 (Kd.R (Kd.int .i64) 3 w' w.heap.size (fun _ => True) v6 x6_2) ∧ Aside0 (Below w.heap.size w w'))
         case atStart => exact ⟨(([] : List Int)), (0), (by first | rfl | (simp; done) | (simp [*]; done)), H', ⟨Nat.le_refl _⟩, ⟨zR HOg.out⟩, ⟨zB⟩⟩
         case round =>
          clear H'
          obtain ⟨x6_2, x27_2, rfl, HA, HK2, HO_6, HB⟩ := hrel
          cases gk with
          | zero => exact absurd HA.out (by simp [slices_Concat_int_int.l1])
          | succ k2 =>
           have H := HA.out
           clear HA
           simp only [slices_Concat_int_int.l1] at H
           by_cases c6 : x27_2 < (l0.length : Int)
           · rw [if_pos c6] at H
             have c6b0 := decide_eq_true c6
             clear c6
             by_cases c7 : 0 ≤ x27_2
             · rw [if_pos c7] at H
               have c7b0 := decide_eq_true c7
               clear c7
               by_cases c8 : x27_2 < (l0.length : Int)
               · rw [if_pos c8] at H
                 have c8b0 := decide_eq_true c8
                 clear c8
                 by_cases c9 : x6_2.length + (rd_L1 l0 x27_2).length < 17592186044416
                 · rw [if_pos c9] at H
                   have LMc9 := Aside0.mk c9
                   clear c9
                   obtain ⟨y260, hy260⟩ : ∃ y_ : List Int, y_ = (x6_2 ++ (rd_L1 l0 x27_2)) := ⟨_, rfl⟩
                   replace H : (slices_Concat_int_int.l1 k2 y260 l0 (l0.length : Int) (wrap64 (x27_2 + 1))) = some r := by first | (rw [hy260]; with_reducible exact H) | (have H2_ := (Option.bind_some _ _).symm.trans H; rw [hy260]; with_reducible exact H2_) | (have H2_ := (Option.bind_some _ _).symm.trans H; with_reducible exact H2_) | with_reducible exact H | (rw [hy260]; exact H) | exact H
                   have Ny260 := Aside0.mk hy260
                   clear hy260
                   have H' := Aside0.mk H
                   clear H
                   have p259 : 0 ≤ (x27_2 : Int) := of_decide_eq_true zA
                   have q259 : x27_2 < (l0.length : Int) := of_decide_eq_true zA
                   obtain ⟨ad259, A259_0, c259_0, e259, hx259_0, hl259_0, hi259_0⟩ := at_L1 HR0.out x27_2 p259 q259
                   cases e259
                   (try replace hx259_0 := (HB.out.cell (World.block_lt_of_cell? w _ hx259_0)).trans hx259_0)
                   have HR259_0 := Aside0.mk hi259_0
                   have HC259_0 := Aside0.mk hl259_0
                   clear hi259_0 hl259_0
                   replace p259 := eq_true p259
                   replace q259 := eq_true q259
                   go_wp2_with (first | ((with_reducible refine gate_builtin (b := .append) (xs := #[.tmp 31, .tmp 32]) rfl ?_); at_builtin; refine Kd.R_append_rows (Kd.int .i64) (w0 := w) w.heap.size rfl (.tmp 31) (.tmp 32) 39 3 (.int .i64 0) 8 rfl Try.underlying39 info3 rfl (by decide) (by omega) u6 x6_2 (rd_L1 l0 x27_2) _ _ _ (fun _ => True) (fun _ => False) rfl rfl ?aO ?aR (fun _ _ h => h) (fun _ h => h.elim) ?aF ?aB ?aS ?aL ?_; (case aR => exact zC (Kd.C_below HR259_0.out HB.out)); (case aB => exact zB); (case aF => exact (fun _ _ => trivial)); (case aO => exact (zR HO_6.out)); (case aS => exact (below_size zB)); (case aL => have := LMc9.out; omega); intro v261 w10 ho hb hg hat; rw [← Ny260.out] at ho; replace HB := zM (hb); have HO262 := zM (ho); clear HO_6; clear ho hb hg hat))
                   go_roundg k2
                   case measure => have := HK1.out; have := HK2.out; omega
                   case rel => exact ⟨(y260), (wrap64 (x27_2 + 1)), (by first | rfl | (simp; done) | (simp [*]; done)), H', ⟨by have := HK1.out; have := HK2.out; omega⟩, ⟨zR HO262.out⟩, ⟨zB⟩⟩
                 · rw [if_neg c9] at H
                   exact absurd H (by simp)
               · rw [if_neg c8] at H
                 exact absurd H (by simp)
             · rw [if_neg c7] at H
               exact absurd H (by simp)
           · rw [if_neg c6] at H
             have c6b0 : decide (x27_2 < (l0.length : Int)) = false := decide_eq_false c6
             clear c6
             obtain rfl := Option.some.inj H
             go_wp2
             go_ret
             exact ⟨_, by first | rfl | (simp [errW_none, errW_some] <;> rfl) | (simp [*, errW_none, errW_some] <;> rfl), by (with_reducible repeat (first | apply Kd.R_alloc | apply Kd.R_drewN | apply Kd.R_drew)); exact HO_6.out, zB⟩

       · rw [if_neg g1] at H
         cases H
     · rw [if_neg g0] at H
       cases H
/-- Two rows, laid side by side. -/
theorem two_rows (W : World) (a b : List Int) (A B : Option Addr) (c c' t : Nat) (ha : Kd.C (Kd.int .i64) W A a.length a) (hc : a.length ≤ c) (hb : Kd.C (Kd.int .i64) W B b.length b) (hc' : b.length ≤ c') :
    Kd.C (Kd.slice 3 (Kd.int .i64)) (W.alloc (.cells #[.slice A a.length c, .slice B b.length c'] t)) (some ⟨W.heap.size, 0, none⟩) [a, b].length [a, b] := by
  refine ⟨rfl, by show (2 : Nat) ≤ _; decide, fun _ => ⟨_, rfl, fun j p hj => ?_⟩⟩
  rcases j with _ | _ | j
  · obtain rfl := Option.some.inj hj
    refine ⟨[.slice A a.length c], rfl, ⟨A, c, rfl, hc, Kd.C_alloc ha _⟩, fun i u hi => ?_⟩
    rcases i with _ | i
    · obtain rfl := Option.some.inj hi
      show (W.alloc _).cell? ⟨W.heap.size, 0 + (0 * 1 + 0), none⟩ = _
      go_simp
    · exact absurd hi (by simp)
  · obtain rfl := Option.some.inj hj
    refine ⟨[.slice B b.length c'], rfl, ⟨B, c', rfl, hc', Kd.C_alloc hb _⟩, fun i u hi => ?_⟩
    rcases i with _ | i
    · obtain rfl := Option.some.inj hi
      show (W.alloc _).cell? ⟨W.heap.size, 0 + (1 * 1 + 0), none⟩ = _
      go_simp
    · exact absurd hi (by simp)
  · exact absurd hj (by simp)
end Go.Proofs.Ytihfpngolcjkiaa.P
namespace Go.Proofs.Ytihfpngolcjkiaa.P
open Go.RowKit Go.Proofs.YtihfpngolcjkiaaW.PrintWords Go.Proofs.YtihfpngolcjkiaaW.PrintLast Go.Proofs.YtihfpngolcjkiaaW.PrintMore
set_option linter.unusedVariables false
set_option linter.unusedSimpArgs false
/-- Function g, bound to the variables lb, answers p of a row of t; memory that was there stays. -/
def PredL (g : Nat) (lb : Array Value) (p : List Int → Bool) (t : List (List Int)) (w : World) : Prop :=
  ∀ (W : World) (s : List Int) (A : Option Addr) (c : Nat), s ∈ t → Below w.heap.size w W → Kd.C (Kd.int .i64) W A s.length s → s.length ≤ c → Calls Try.prog g (#[.slice A s.length c] ++ lb) W fun e w' => e = .returned (.bool (p s)) ∧ Below W.heap.size W w'
/-- The place of the first row of which p is so. -/
def idxL (p : List Int → Bool) : List (List Int) → Nat → Int
  | [], _ => -1
  | s :: t, n => if p s = true then (n : Int) else idxL p t (n + 1)
theorem idxL_none (p : List Int → Bool) : ∀ (t : List (List Int)) (n : Nat), (∀ s ∈ t, p s = false) → idxL p t n = -1
  | [], _, _ => rfl
  | s :: t, n, h => by
    rw [idxL, if_neg (by rw [h s (List.mem_cons_self ..)]; decide)]
    exact idxL_none p t (n + 1) (fun s hs => h s (List.mem_cons_of_mem _ hs))
theorem idxL_some (p : List Int → Bool) : ∀ (t : List (List Int)) (n : Nat), ¬ (∀ s ∈ t, p s = false) → ∃ k, ∃ hk : k < t.length, idxL p t n = ((n + k : Nat) : Int) ∧ p t[k] = true ∧ ∀ j, (hj : j < k) → p (t[j]'(by omega)) = false
  | [], _, h => absurd (fun s hs => absurd hs (by simp)) h
  | s :: t, n, h => by
    cases hs : p s with
    | true => exact ⟨0, by simp, by rw [idxL, if_pos hs]; rfl, hs, fun j hj => absurd hj (Nat.not_lt_zero _)⟩
    | false =>
      obtain ⟨k, hk, e, h1, h2⟩ := idxL_some p t (n + 1) (fun h2 => h (fun x hx => by
        rcases List.mem_cons.1 hx with rfl | hx
        · exact hs
        · exact h2 x hx))
      refine ⟨k + 1, by simpa using hk, by rw [idxL, if_neg (by rw [hs]; decide), e]; omega, by simpa using h1, fun j hj => ?_⟩
      cases j with
      | zero => exact hs
      | succ j => simpa using h2 j (by omega)
set_option maxRecDepth 100000 in
set_option maxHeartbeats 2000000 in
theorem index_calls (g : Nat) (lb : Array Value) (eg : ∀ (args : Array Value) (w : World), (callFunc g args).run Try.prog w = .ok (.enter g args) w) (p : List Int → Bool) (t : List (List Int)) (w0 : World) (hp : PredL g lb p t w0) (A : Option Addr) (c : Nat) (w : World) (hB : Below w0.heap.size w0 w)
    (hr : Kd.C (Kd.slice 3 (Kd.int .i64)) w A t.length t) (hc : t.length ≤ c) (ht : t.length ≤ 1048576) :
    Calls Try.prog 55 #[.slice A t.length c, .func (.func g) #[] lb] w fun e w' => e = .returned (.int .i64 (idxL p t 0)) ∧ Below w.heap.size w w' := by
  have HX := zM hp
  have HR := zM hr
  have HC := zM hc
  have HL := zM ht
  have HB0 := zM hB
  have HB := zM (Below.refl w.heap.size w)
  clear hp hr hc ht hB
  obtain ⟨z, hz⟩ : ∃ z, idxL p t 0 = z := ⟨_, rfl⟩
  rw [hz]
  have HZ := zM hz
  clear hz
  go_enter Try.func55, Try.ntmps55
  go_wp2
  go_loopg [5, 8] (t.length + 1) (fun kq v5 v8 w' => ∃ (m : Nat), v8 = .int .i64 m ∧ Aside0 (m ≤ t.length) ∧ Aside0 (kq = t.length - m + 1) ∧ Aside0 (idxL p (t.drop m) m = z) ∧ Aside0 (Below w.heap.size w w'))
  case atStart => exact ⟨0, rfl, ⟨Nat.zero_le _⟩, ⟨by omega⟩, ⟨by rw [List.drop_zero]; exact HZ.out⟩, HB⟩
  case round =>
    clear HB
    obtain ⟨m, rfl, HM, HK1, HI, HB⟩ := hrel
    by_cases c1 : m < t.length
    · have q1 : (m : Int) < (t.length : Int) := by omega
      obtain ⟨ad1, A1, c1_, e1, hx1, hl1, hi1⟩ := at_L1 (Kd.C_below HR.out HB.out) (m : Int) (by omega) q1
      cases e1
      rw [Int.toNat_natCast] at hx1
      have hg1 : rd_L1 t (m : Int) = t[m] := by simp [rd_L1, List.getD_eq_getElem?_getD, List.getElem?_eq_getElem c1]
      rw [hg1] at hx1 hl1 hi1
      have HT := zM (show t[m] ∈ t from List.getElem_mem c1)
      have hst := HI.out
      rw [List.drop_eq_getElem_cons c1, idxL] at hst
      generalize t[m] = s at hx1 hl1 hi1 HT hst
      have HLE := zM hl1
      have HRI := zM hi1
      have HC1 := zM c1
      have c1b : decide ((m : Int) < (t.length : Int)) = true := decide_eq_true q1
      have c1c : decide (m < t.length) = true := decide_eq_true c1
      have p1 : (0 : Int) ≤ (m : Int) := by omega
      have hw1 : (m : Int) + 1 ≤ 9223372036854775807 := by have := HL.out; omega
      replace p1 := eq_true p1
      replace q1 := eq_true q1
      clear c1 hg1 hl1 hi1
      cases hq : p s with
      | true =>
        rw [if_pos hq] at hst
        have HQ := zM hq
        have HST := zM hst
        clear hq hst
        go_wp2_with (go_at_fn g; refine (HX.out _ s A1 c1_ HT.out (below_step HB0.out HB.out) HRI.out HLE.out).mono ?_; rw [HQ.out]; rintro e w6 ⟨rfl, hb⟩; replace HB := zM (below_step HB.out hb); clear hb)
        go_ret
        exact ⟨by rw [← HST.out]; rfl, HB.out⟩
      | false =>
        rw [if_neg (by rw [hq]; decide)] at hst
        have HQ := zM hq
        have HST := zM hst
        clear hq hst
        go_wp2_with (go_at_fn g; refine (HX.out _ s A1 c1_ HT.out (below_step HB0.out HB.out) HRI.out HLE.out).mono ?_; rw [HQ.out]; rintro e w6 ⟨rfl, hb⟩; replace HB := zM (below_step HB.out hb); clear hb)
        go_roundg (t.length - m)
        case measure => have := HK1.out; have := HC1.out; omega
        case rel => exact ⟨m + 1, by first | rfl | (simp; done) | go_num, ⟨by have := HC1.out; omega⟩, ⟨by have := HC1.out; omega⟩, HST, HB⟩
    · have c1b : decide ((m : Int) < (t.length : Int)) = false := decide_eq_false (by omega)
      have c1c : decide (m < t.length) = false := decide_eq_false c1
      have HZ2 := zM (show z = -1 by
        have h1 := HI.out
        rw [List.drop_eq_nil_of_le (by omega)] at h1
        exact h1.symm)
      clear c1
      go_wp2
      go_ret
      exact ⟨by rw [HZ2.out]; rfl, HB.out⟩
end Go.Proofs.Ytihfpngolcjkiaa.P
namespace Go.Proofs.Ytihfpngolcjkiaa.P
open Go.RowKit Go.Proofs.YtihfpngolcjkiaaW.PrintWords Go.Proofs.YtihfpngolcjkiaaW.PrintLast Go.Proofs.YtihfpngolcjkiaaW.PrintMore
set_option linter.unusedVariables false
set_option linter.unusedSimpArgs false
def unlike (l : List (List Int)) (s : List Int) : Bool := !((s.length : Int) == ((rd_L1 l 0).length : Int))
def uneven (l : List (List Int)) : Bool := l.any (unlike l)
set_option maxHeartbeats 1000000 in
theorem unlike_calls (gx : Nat) (A0 : Option Addr) (c0 : Nat) (l : List (List Int)) (W : World) (hx : W.cell? ⟨gx, 0, none⟩ = some (.slice A0 l.length c0)) (hr : Kd.C (Kd.slice 3 (Kd.int .i64)) W A0 l.length l) (hl : 0 < l.length) (s : List Int) (A : Option Addr) (c : Nat) :
    Calls Try.prog 25 (#[.slice A s.length c] ++ #[.pointer (some ⟨gx, 0, none⟩)]) W fun e w' => e = .returned (.bool (unlike l s)) ∧ Below W.heap.size W w' := by
  have hu := Try.underlying27
  have HB := zM (Below.refl W.heap.size W)
  show Calls Try.prog 25 #[.slice A s.length c, .pointer (some ⟨gx, 0, none⟩)] W _
  obtain ⟨ad1, A1, c1_, e1, hx1, hl1, hi1⟩ := at_L1 hr (0 : Int) (Int.le_refl 0) (by omega)
  cases e1
  have p1 : (0 : Int) < (l.length : Int) := by omega
  replace p1 := eq_true p1
  have hll := eq_true hl
  have hx2 : W.cell? ad1 = some (.slice A1 (rd_L1 l 0).length c1_) := by
    have h := hx1
    rw [Int.toNat_zero] at h
    first | exact h | (obtain ⟨g_, o_, t_⟩ := ad1; simpa [Addr.add] using h)
  go_enter Try.func25, Try.ntmps25
  go_wp2
  go_ret
  exact ⟨by unfold unlike; first | rfl | (simp; done), zB⟩
set_option maxHeartbeats 1000000 in
theorem uneven_calls (gx : Nat) (A0 : Option Addr) (c0 : Nat) (l : List (List Int)) (w : World) (hx : w.cell? ⟨gx, 0, none⟩ = some (.slice A0 l.length c0)) (hr : Kd.C (Kd.slice 3 (Kd.int .i64)) w A0 l.length l) (hc : l.length ≤ c0) (ht : l.length ≤ 1048576) :
    Calls Try.prog 24 #[.slice A0 l.length c0, .func (.func 25) #[] #[.pointer (some ⟨gx, 0, none⟩)]] w fun e w' => e = .returned (.bool (uneven l)) ∧ Below w.heap.size w w' := by
  have HP := zM (show PredL 25 #[.pointer (some ⟨gx, 0, none⟩)] (unlike l) l w from fun W s A c hs hB hrs hcs => unlike_calls gx A0 c0 l W (pw_cell_below hB hx) (Kd.C_below hr hB) (List.length_pos_of_mem hs) s A c)
  have HR := zM hr
  have HC := zM hc
  have HT := zM ht
  have HB := zM (Below.refl w.heap.size w)
  clear hx hr hc ht
  go_enter Try.func24, Try.ntmps24
  go_wp2_with (go_at_call 55; refine (index_calls 25 #[.pointer (some ⟨gx, 0, none⟩)] (enters_of Try.func25 (by kernel_rfl) rfl) (unlike l) l w HP.out A0 c0 w (Below.refl _ _) HR.out HC.out HT.out).mono ?_; rintro e w5 ⟨rfl, hb⟩; replace HB := zM hb; clear hb)
  go_ret
  refine ⟨?_, HB.out⟩
  by_cases h : ∀ s ∈ l, unlike l s = false
  · have e : uneven l = false := by
      unfold uneven
      rw [List.any_eq_false]
      intro x hx
      rw [h x hx]; decide
    rw [idxL_none (unlike l) l 0 h, e]; rfl
  · obtain ⟨k, hk, e1, e2, _⟩ := idxL_some (unlike l) l 0 h
    have e : uneven l = true := by
      unfold uneven
      rw [List.any_eq_true]
      exact ⟨l[k], List.getElem_mem hk, e2⟩
    rw [e1, e]
    simp
def slices_ContainsFunc_int_int.f (l : List (List Int)) : Option Bool := if l.length ≤ 1048576 then some (uneven l) else none
theorem uneven_of (gx : Nat) (A0 : Option Addr) (c0 : Nat) (l : List (List Int)) (r : Bool) (w : World) (hx : w.cell? ⟨gx, 0, none⟩ = some (.slice A0 l.length c0)) (hr : Kd.C (Kd.slice 3 (Kd.int .i64)) w A0 l.length l) (hc : l.length ≤ c0) (h : slices_ContainsFunc_int_int.f l = some r) :
    Calls Try.prog 24 #[.slice A0 l.length c0, .func (.func 25) #[] #[.pointer (some ⟨gx, 0, none⟩)]] w fun e w' => e = .returned (.bool r) ∧ Below w.heap.size w w' := by
  unfold slices_ContainsFunc_int_int.f at h
  split at h
  · rename_i hl
    obtain rfl := Option.some.inj h
    exact uneven_calls gx A0 c0 l w hx hr hc hl
  · cases h
end Go.Proofs.Ytihfpngolcjkiaa.P
namespace Go.Proofs
open Go.Shelf
def Try.lays215_ren : Go.Shelf.Ren := ⟨fun | 215 => 84 | n => n, fun | 3 => 3 | 4 => 4 | n => n, fun | n => n⟩
theorem Try.lays215 : Go.Proofs.Lays.n215 Try.prog Try.lays215_ren := {
  mixed := by kernel_rfl
  f215 := Try.func84.trans (congrArg some (by kernel_rfl))
  t3 := Try.underlying3
  a3 := Try.isAgg3
  z3 := Try.sizeOf3
  v3 := Try.zeroValue3
  t4 := Try.underlying4
  a4 := Try.isAgg4
  z4 := Try.sizeOf4
  v4 := Try.zeroValue4 }
open Go.RowKit in
/-- cmp.isNaN at int: 'x != x': false. (LAID: no walk: one application.) -/
theorem Try.cmp_isNaN_int (x : Int) (w : World) :
    Calls Try.prog 84 #[.int .i64 x] w fun e w' => e = .returned (.bool false) ∧ w' = w := Any.cmp_isNaN_int Try.lays215 x w
def Try.lays122_ren : Go.Shelf.Ren := ⟨fun | 122 => 60 | 215 => 84 | n => n, fun | 3 => 3 | 4 => 4 | n => n, fun | n => n⟩
theorem Try.lays122 : Go.Proofs.Lays.n122 Try.prog Try.lays122_ren := {
  mixed := by kernel_rfl
  f122 := Try.func60.trans (congrArg some (by kernel_rfl))
  f215 := Try.func84.trans (congrArg some (by kernel_rfl))
  t3 := Try.underlying3
  a3 := Try.isAgg3
  z3 := Try.sizeOf3
  v3 := Try.zeroValue3
  t4 := Try.underlying4
  a4 := Try.isAgg4
  z4 := Try.sizeOf4
  v4 := Try.zeroValue4 }
open Go.RowKit in
/-- cmp.Compare at int: "Compare returns -1 if x is less than y, 0 if x equals y, +1 if x is greater than y.": IT RETURNS 'Lib.compareInt x y'; the world is as it was. (LAID: no walk: one application.) -/
theorem Try.cmp_Compare_int (x y : Int) (w : World) :
    Calls Try.prog 60 #[.int .i64 x, .int .i64 y] w fun e w' => e = .returned (.int .i64 (Lib.compareInt x y)) ∧ w' = w := Any.cmp_Compare_int Try.lays122 x y w
def Try.laysSlF06_f27_ren : Go.Shelf.Ren := ⟨fun | 6 => 27 | 15 => 58 | 14 => 57 | 28 => 82 | 29 => 83 | 20 => 74 | 21 => 75 | 22 => 76 | 23 => 77 | 24 => 78 | 25 => 79 | 26 => 80 | 27 => 81 | 46 => 94 | 47 => 95 | 48 => 96 | 49 => 97 | 50 => 98 | 57 => 102 | n => n, fun | 22 => 23 | 24 => 41 | 25 => 48 | 3 => 3 | 39 => 69 | 0 => 0 | 53 => 85 | 55 => 87 | 4 => 4 | 46 => 79 | 45 => 78 | 50 => 58 | 5 => 5 | 9 => 9 | 66 => 94 | 70 => 98 | 76 => 102 | 77 => 103 | n => n, fun | n => n⟩
theorem Try.laysSlF06_f27 : Go.Proofs.SlLaysF0.n6 Try.prog Try.laysSlF06_f27_ren := {
  mixed := by kernel_rfl
  f6 := ⟨Try.f27.name, by decide, Try.func27.trans (congrArg some (by kernel_rfl))⟩
  f14 := ⟨Try.f57.name, by decide, Try.func57.trans (congrArg some (by kernel_rfl))⟩
  f15 := Try.func58.trans (congrArg some (by kernel_rfl))
  f20 := ⟨Try.f74.name, by decide, Try.func74.trans (congrArg some (by kernel_rfl))⟩
  f21 := ⟨Try.f75.name, by decide, Try.func75.trans (congrArg some (by kernel_rfl))⟩
  f22 := ⟨Try.f76.name, by decide, Try.func76.trans (congrArg some (by kernel_rfl))⟩
  f23 := ⟨Try.f77.name, by decide, Try.func77.trans (congrArg some (by kernel_rfl))⟩
  f24 := ⟨Try.f78.name, by decide, Try.func78.trans (congrArg some (by kernel_rfl))⟩
  f25 := ⟨Try.f79.name, by decide, Try.func79.trans (congrArg some (by kernel_rfl))⟩
  f26 := ⟨Try.f80.name, by decide, Try.func80.trans (congrArg some (by kernel_rfl))⟩
  f27 := ⟨Try.f81.name, by decide, Try.func81.trans (congrArg some (by kernel_rfl))⟩
  f28 := Try.func82.trans (congrArg some (by kernel_rfl))
  f29 := Try.func83.trans (congrArg some (by kernel_rfl))
  f46 := ⟨Try.f94.name, by decide, Try.func94.trans (congrArg some (by kernel_rfl))⟩
  f47 := Try.func95.trans (congrArg some (by kernel_rfl))
  f48 := Try.func96.trans (congrArg some (by kernel_rfl))
  f49 := ⟨Try.f97.name, by decide, Try.func97.trans (congrArg some (by kernel_rfl))⟩
  f50 := ⟨Try.f98.name, by decide, Try.func98.trans (congrArg some (by kernel_rfl))⟩
  f57 := ⟨Try.f102.name, by decide, Try.func102.trans (congrArg some (by kernel_rfl))⟩
  t0 := Try.underlying0
  a0 := Try.isAgg0
  z0 := Try.sizeOf0
  v0 := Try.zeroValue0
  t3 := Try.underlying3
  a3 := Try.isAgg3
  z3 := Try.sizeOf3
  v3 := Try.zeroValue3
  t4 := Try.underlying4
  a4 := Try.isAgg4
  z4 := Try.sizeOf4
  v4 := Try.zeroValue4
  t5 := Try.underlying5
  a5 := Try.isAgg5
  z5 := Try.sizeOf5
  v5 := Try.zeroValue5
  t9 := Try.underlying9
  a9 := Try.isAgg9
  z9 := Try.sizeOf9
  v9 := Try.zeroValue9
  t22 := Try.underlying23
  a22 := Try.isAgg23
  z22 := Try.sizeOf23
  v22 := Try.zeroValue23
  t25 := Try.underlying48
  a25 := Try.isAgg48
  z25 := Try.sizeOf48
  v25 := Try.zeroValue48
  t39 := Try.underlying69
  a39 := Try.isAgg69
  z39 := Try.sizeOf69
  v39 := Try.zeroValue69
  t45 := Try.underlying78
  a45 := Try.isAgg78
  z45 := Try.sizeOf78
  v45 := Try.zeroValue78
  t46 := Try.underlying79
  a46 := Try.isAgg79
  z46 := Try.sizeOf79
  v46 := Try.zeroValue79
  t50 := Try.underlying58
  a50 := Try.isAgg58
  z50 := Try.sizeOf58
  v50 := Try.zeroValue58
  t53 := Try.underlying85
  a53 := Try.isAgg85
  z53 := Try.sizeOf85
  v53 := Try.zeroValue85
  t55 := Try.underlying87
  a55 := Try.isAgg87
  z55 := Try.sizeOf87
  v55 := Try.zeroValue87
  t66 := Try.underlying94
  a66 := Try.isAgg94
  z66 := Try.sizeOf94
  v66 := Try.zeroValue94
  t70 := Try.underlying98
  a70 := Try.isAgg98
  z70 := Try.sizeOf98
  v70 := Try.zeroValue98
  t76 := Try.underlying102
  a76 := Try.isAgg102
  z76 := Try.sizeOf102
  v76 := Try.zeroValue102
  t77 := Try.underlying103
  a77 := Try.isAgg103
  z77 := Try.sizeOf103
  v77 := Try.zeroValue103 }
def Try.laysSlF6_f39_ren : Go.Shelf.Ren := ⟨fun | 6 => 39 | 15 => 58 | 14 => 68 | 28 => 82 | 29 => 83 | 20 => 85 | 21 => 86 | 22 => 87 | 23 => 88 | 24 => 89 | 25 => 90 | 26 => 91 | 27 => 92 | 46 => 99 | 47 => 95 | 48 => 96 | 49 => 100 | 50 => 101 | 57 => 103 | n => n, fun | 22 => 22 | 24 => 39 | 25 => 54 | 3 => 3 | 39 => 69 | 0 => 0 | 53 => 85 | 55 => 87 | 4 => 4 | 46 => 79 | 45 => 78 | 50 => 58 | 5 => 5 | 9 => 9 | 66 => 94 | 70 => 98 | 76 => 102 | 77 => 103 | n => n, fun | n => n⟩
theorem Try.laysSlF6_f39 : Go.Proofs.SlLaysF.n6 Try.prog Try.laysSlF6_f39_ren := {
  mixed := by kernel_rfl
  f6 := ⟨Try.f39.name, by decide, Try.func39.trans (congrArg some (by kernel_rfl))⟩
  f14 := ⟨Try.f68.name, by decide, Try.func68.trans (congrArg some (by kernel_rfl))⟩
  f15 := Try.func58.trans (congrArg some (by kernel_rfl))
  f20 := ⟨Try.f85.name, by decide, Try.func85.trans (congrArg some (by kernel_rfl))⟩
  f21 := ⟨Try.f86.name, by decide, Try.func86.trans (congrArg some (by kernel_rfl))⟩
  f22 := ⟨Try.f87.name, by decide, Try.func87.trans (congrArg some (by kernel_rfl))⟩
  f23 := ⟨Try.f88.name, by decide, Try.func88.trans (congrArg some (by kernel_rfl))⟩
  f24 := ⟨Try.f89.name, by decide, Try.func89.trans (congrArg some (by kernel_rfl))⟩
  f25 := ⟨Try.f90.name, by decide, Try.func90.trans (congrArg some (by kernel_rfl))⟩
  f26 := ⟨Try.f91.name, by decide, Try.func91.trans (congrArg some (by kernel_rfl))⟩
  f27 := ⟨Try.f92.name, by decide, Try.func92.trans (congrArg some (by kernel_rfl))⟩
  f28 := Try.func82.trans (congrArg some (by kernel_rfl))
  f29 := Try.func83.trans (congrArg some (by kernel_rfl))
  f46 := ⟨Try.f99.name, by decide, Try.func99.trans (congrArg some (by kernel_rfl))⟩
  f47 := Try.func95.trans (congrArg some (by kernel_rfl))
  f48 := Try.func96.trans (congrArg some (by kernel_rfl))
  f49 := ⟨Try.f100.name, by decide, Try.func100.trans (congrArg some (by kernel_rfl))⟩
  f50 := ⟨Try.f101.name, by decide, Try.func101.trans (congrArg some (by kernel_rfl))⟩
  f57 := ⟨Try.f103.name, by decide, Try.func103.trans (congrArg some (by kernel_rfl))⟩
  t0 := Try.underlying0
  a0 := Try.isAgg0
  z0 := Try.sizeOf0
  v0 := Try.zeroValue0
  t3 := Try.underlying3
  a3 := Try.isAgg3
  z3 := Try.sizeOf3
  v3 := Try.zeroValue3
  t4 := Try.underlying4
  a4 := Try.isAgg4
  z4 := Try.sizeOf4
  v4 := Try.zeroValue4
  t5 := Try.underlying5
  a5 := Try.isAgg5
  z5 := Try.sizeOf5
  v5 := Try.zeroValue5
  t9 := Try.underlying9
  a9 := Try.isAgg9
  z9 := Try.sizeOf9
  v9 := Try.zeroValue9
  t22 := Try.underlying22
  a22 := Try.isAgg22
  z22 := Try.sizeOf22
  v22 := Try.zeroValue22
  a24 := Try.isAgg39
  z24 := Try.sizeOf39
  t25 := Try.underlying54
  a25 := Try.isAgg54
  z25 := Try.sizeOf54
  v25 := Try.zeroValue54
  t39 := Try.underlying69
  a39 := Try.isAgg69
  z39 := Try.sizeOf69
  v39 := Try.zeroValue69
  t45 := Try.underlying78
  a45 := Try.isAgg78
  z45 := Try.sizeOf78
  v45 := Try.zeroValue78
  t46 := Try.underlying79
  a46 := Try.isAgg79
  z46 := Try.sizeOf79
  v46 := Try.zeroValue79
  t50 := Try.underlying58
  a50 := Try.isAgg58
  z50 := Try.sizeOf58
  v50 := Try.zeroValue58
  t53 := Try.underlying85
  a53 := Try.isAgg85
  z53 := Try.sizeOf85
  v53 := Try.zeroValue85
  t55 := Try.underlying87
  a55 := Try.isAgg87
  z55 := Try.sizeOf87
  v55 := Try.zeroValue87
  t66 := Try.underlying94
  a66 := Try.isAgg94
  z66 := Try.sizeOf94
  v66 := Try.zeroValue94
  t70 := Try.underlying98
  a70 := Try.isAgg98
  z70 := Try.sizeOf98
  v70 := Try.zeroValue98
  t76 := Try.underlying102
  a76 := Try.isAgg102
  z76 := Try.sizeOf102
  v76 := Try.zeroValue102
  t77 := Try.underlying103
  a77 := Try.isAgg103
  z77 := Try.sizeOf103
  v77 := Try.zeroValue103 }
open Go.RowKit Go.Lib Go.Sort in
/-- **slices.SortFunc AT ONE CELL, UNDER A 'cmp' THAT PARTS WHATEVER TWO THAT ARE NOT ONE: THE ROW HOLDS core's 'mergeSort'.** (LAID AT THE INSTANCE 'slices.SortFunc[[][]int,[]int]': no walk: one application.) -/
theorem Try.slices_SortFunc_total {α : Type} [Inhabited α] (enc : α → Value) (h1 : OneCell enc) (cf : α → α → Int) (hO : SWO (ltOf cf)) (g : Nat) (cb : Array Value) (blk off cap : Nat) (d : Array α) (w : World) (eg : ∀ args w, (callFunc g args).run Try.prog w = .ok (.enter g args) w) (hcmp : CmpLays1 Try.prog g cb enc cf blk off d.size w) (hH : Holds enc w blk off d) (hblk : blk < w.heap.size) (hsz : d.size < 4611686018427387904) (hT : ∀ x y, (ltOf cf) x y = false → (ltOf cf) y x = false → x = y) :
    Calls Try.prog 39 #[.slice (some ⟨blk, off, none⟩) d.size cap, .func (.func g) #[] cb] w fun e w' =>
      e = .returned (.tuple #[]) ∧ ∃ n os, w' = sortWorld enc w blk off n (d.toList.mergeSort fun x y => !(ltOf cf) y x).toArray os := Any.slices_SortFunc_total Try.laysSlF6_f39 enc h1 cf hO g cb blk off cap d w eg hcmp hH hblk hsz hT
end Go.Proofs
namespace Go.Proofs.Ytihfpngolcjkiaa.P
open Go.RowKit Go.Proofs.YtihfpngolcjkiaaW.PrintWords Go.Proofs.YtihfpngolcjkiaaW.PrintLast Go.Proofs.YtihfpngolcjkiaaW.PrintMore
open Go.Sort (SWO Holds PermIn SortedIn putRow putCells mapBlock onCells sorted_unique_holds)
set_option linter.unusedVariables false
set_option linter.unusedSimpArgs false

section
variable {α : Type} [Inhabited α] (enc : α → Value)
theorem heap_sortedG {w : World} {g n : Nat} {os : Array Obj} {cur : Array Value} {e : TypeId} {fr : Nat × Nat} (d : Array α) (hb : w.heap[g]? = some (.cells cur e fr)) :
    (Sort.grow (putRow enc (Sort.ahead w n) g 0 d) os).heap[g]? = some (.cells (putCells enc 0 d cur) e fr) := by
  have hg : g < w.heap.size := (Array.getElem?_eq_some_iff.1 hb).1
  rw [Sort.heap_grow_old _ _ (by simpa using hg)]
  simp [putRow, mapBlock, Sort.ahead, Array.getElem?_modify, hb, onCells]
theorem grownBy_sortedG {w : World} {g n : Nat} {os : Array Obj} (d : Array α) : w.grownBy (Sort.grow (putRow enc (Sort.ahead w n) g 0 d) os) (some g) := by
  refine ⟨rfl, rfl, rfl, by simp, fun k hk hne => ?_⟩
  rw [Sort.heap_grow_old _ _ (by simpa using hk)]
  have : g ≠ k := fun e => hne (by rw [e])
  simp [putRow, mapBlock, Sort.ahead, Array.getElem?_modify, this]
theorem take_putCellsG (cur : Array Value) (ts : List α) (h : ts.length ≤ cur.size) : (putCells enc 0 ts.toArray cur).toList.take ts.length = ts.map enc := by
  apply List.ext_getElem?
  intro j
  by_cases hj : j < ts.length
  · rw [List.getElem?_take_of_lt hj, Array.getElem?_toList]
    simp [putCells, hj, show j < cur.size by omega]
  · rw [List.getElem?_take_eq_none (by omega), List.getElem?_eq_none (by simp; omega)]
end
end Go.Proofs.Ytihfpngolcjkiaa.P
namespace Go.Proofs.Ytihfpngolcjkiaa.P
open Go.RowKit Go.Proofs.YtihfpngolcjkiaaW.PrintWords Go.Proofs.YtihfpngolcjkiaaW.PrintLast Go.Proofs.YtihfpngolcjkiaaW.PrintMore
set_option linter.unusedVariables false
set_option linter.unusedSimpArgs false

def cmpI (a b : Int) : Int := if a < b then -1 else if a > b then 1 else 0
theorem cmp_Compare_at (a b : Int) : cmp_Compare_int.f a b = some (cmpI a b) := by
  unfold cmp_Compare_int.f cmp_isNaN_int.f cmpI
  simp only [Option.bind_some, bne_self_eq_false, Bool.false_eq_true, if_false]
  split
  · rfl
  · split <;> rfl
def cmpL : List Int → List Int → Int
  | [], [] => 0
  | [], _ :: _ => -1
  | _ :: _, [] => 1
  | a :: x, b :: y => if cmpI a b = 0 then cmpL x y else cmpI a b
theorem wrap_succ {m n : Nat} (h : m < n) (hn : n ≤ 9223372036854775807) : wrap64 ((m : Int) + 1) = ((m + 1 : Nat) : Int) := by unfold wrap64; omega
theorem slices_Compare_loop (l0 l1 : List Int) (hl : Aside0 (l0.length ≤ 9223372036854775807)) (d : Nat) : ∀ (k m : Nat), l0.length - m = d → m ≤ l0.length → m ≤ l1.length → d < k →
    slices_Compare_int_int.l0 k l0 l1 l0 (l0.length : Int) (m : Int) = some (cmpL (l0.drop m) (l1.drop m)) := by
  induction d with
  | zero =>
    intro k m h0 h1 h2 hk
    obtain ⟨k, rfl⟩ : ∃ q, k = q + 1 := ⟨k - 1, by omega⟩
    have e : m = l0.length := by omega
    subst e
    rw [slices_Compare_int_int.l0, if_neg (by omega), List.drop_length]
    by_cases h : l0.length < l1.length
    · rw [if_pos (by omega), List.drop_eq_getElem_cons h]; rfl
    · have e3 : l1.drop l0.length = [] := List.drop_eq_nil_of_le (by omega)
      rw [if_neg (by omega), e3]; rfl
  | succ d ih =>
    intro k m h0 h1 h2 hk
    obtain ⟨k, rfl⟩ : ∃ q, k = q + 1 := ⟨k - 1, by omega⟩
    have hm : m < l0.length := by omega
    rw [slices_Compare_int_int.l0, if_pos (by omega), if_pos (by omega), if_pos (by omega)]
    by_cases h : m < l1.length
    · rw [if_neg (by omega), if_pos (by omega), cmp_Compare_at, Option.bind_some]
      have e0 : rd l0 m = l0[m] := by simp [rd, List.getD_eq_getElem?_getD, List.getElem?_eq_getElem hm]
      have e1 : rd l1 m = l1[m] := by simp [rd, List.getD_eq_getElem?_getD, List.getElem?_eq_getElem h]
      rw [e0, e1, List.drop_eq_getElem_cons hm, List.drop_eq_getElem_cons h, cmpL]
      split
      · rw [wrap_succ hm hl.out]
        exact ih k (m + 1) (by omega) (by omega) (by omega) (by omega)
      · rfl
    · have e3 : l1.drop m = [] := List.drop_eq_nil_of_le (by omega)
      rw [if_pos (by omega), List.drop_eq_getElem_cons hm, e3]; rfl
theorem slices_Compare_at (l0 l1 : List Int) (hl : l0.length ≤ 9223372036854775807) (k : Nat) (hk : l0.length < k) : slices_Compare_int_int.f k l0 l1 = some (cmpL l0 l1) :=
  slices_Compare_loop l0 l1 ⟨hl⟩ l0.length k 0 (by omega) (Nat.zero_le _) (Nat.zero_le _) hk
def cmpP (a b : S41) : Int := if cmpI a.f0 b.f0 = 0 then cmpI a.f1 b.f1 else cmpI a.f0 b.f0
theorem comparePairs_at (a b : S41) (k : Nat) (hk : 3 ≤ k) : impl_comparePairs.f k a.f0 a.f1 b.f0 b.f1 = some (cmpP a b) := by
  obtain ⟨k, rfl⟩ : ∃ q, k = q + 3 := ⟨k - 3, by omega⟩
  unfold impl_comparePairs.f cmp_Or_int.f
  simp only [cmp_Compare_at, Option.bind_some]
  unfold cmpP
  generalize cmpI a.f0 b.f0 = x
  generalize cmpI a.f1 b.f1 = y
  have w1 : wrap64 (0 + 1) = 1 := by unfold wrap64; omega
  have w2 : wrap64 (1 + 1) = 2 := by unfold wrap64; omega
  have r0 : rd [x, y] 0 = x := rfl
  have r1 : rd [x, y] 1 = y := rfl
  have hn : (([x, y] : List Int).length : Int) = 2 := rfl
  rw [hn, cmp_Or_int.l0, if_pos (by omega), if_pos (by omega), hn, if_pos (by omega), r0, w1]
  by_cases h : x = 0
  · rw [if_pos h, if_pos h, cmp_Or_int.l0, if_pos (by omega), if_pos (by omega), hn, if_pos (by omega), r1, w2]
    by_cases h2 : y = 0
    · rw [if_pos h2, cmp_Or_int.l0, if_neg (by omega), h2]; rfl
    · rw [if_neg h2]; rfl
  · rw [if_neg h, if_neg h]; rfl
end Go.Proofs.Ytihfpngolcjkiaa.P
namespace Go.Proofs.Ytihfpngolcjkiaa.P
open Go.RowKit Go.Proofs.YtihfpngolcjkiaaW.PrintWords Go.Proofs.YtihfpngolcjkiaaW.PrintLast Go.Proofs.YtihfpngolcjkiaaW.PrintMore
set_option linter.unusedVariables false
set_option linter.unusedSimpArgs false

/-- The later world has draws and blocks more; nothing else. -/
def Grew (w w' : World) : Prop := ∃ q os, w' = Sort.grow (w.drewN q) os
theorem Grew.refl (w : World) : Grew w w := ⟨0, #[], (Sort.grow_empty _).symm⟩
theorem Grew.drewN {w w' : World} (h : Grew w w') (n : Nat) : Grew w (w'.drewN n) := by
  obtain ⟨q, os, rfl⟩ := h
  refine ⟨q + n, os, ?_⟩
  simp only [Sort.grow, World.drewN, Nat.add_assoc]
theorem Grew.drew {w w' : World} (h : Grew w w') : Grew w w'.drew := h.drewN 1
theorem Grew.alloc {w w' : World} (h : Grew w w') (o : Obj) : Grew w (w'.alloc o) := by
  obtain ⟨q, os, rfl⟩ := h
  refine ⟨q, os.push o, ?_⟩
  simp only [Sort.grow, World.drewN, World.alloc, Array.append_push]
theorem two_C (W : World) (a b : Int) (t : Nat) : Kd.C (Kd.int .i64) (W.alloc (.cells #[.int .i64 a, .int .i64 b] t)) (some ⟨W.heap.size, 0, none⟩) [a, b].length [a, b] := by
  refine Kd.C_of_reads (enc := Value.int .i64) (d := 0) ⟨rfl, by show (2 : Nat) ≤ _; decide, fun _ => ⟨_, rfl, fun j hj => ?_⟩⟩
  rcases j with _ | _ | j
  · rw [add_plain]; go_simp
  · rw [add_plain]; go_simp
  · exact absurd hj (by show ¬ (j + 1 + 1 < 2); omega)
theorem or_at (x y : Int) : cmp_Or_int.f 3 [x, y] = some (if x = 0 then y else x) := by
  have h1 : rd [x, y] 0 = x := rfl
  have h2 : rd [x, y] 1 = y := rfl
  have hw : wrap64 (0 + 1) = 1 := by unfold wrap64; omega
  have hw2 : wrap64 (1 + 1) = 2 := by unfold wrap64; omega
  have e0 : (0 : Int) < (([x, y] : List Int).length : Int) := by show (0 : Int) < 2; decide
  have e1 : (1 : Int) < (([x, y] : List Int).length : Int) := by show (1 : Int) < 2; decide
  have e2 : ¬ (2 : Int) < (([x, y] : List Int).length : Int) := by show ¬ (2 : Int) < 2; decide
  unfold cmp_Or_int.f
  simp only [cmp_Or_int.l0, if_pos e0, if_pos e1, if_neg e2, h1, h2, hw, hw2, if_pos (show (0 : Int) ≤ 0 by decide), if_pos (show (0 : Int) ≤ 1 by decide)]
  by_cases c : x = 0
  · by_cases c2 : y = 0
    · simp [c, c2]
    · simp [c, c2]
  · simp [c]
set_option maxRecDepth 100000 in
set_option maxHeartbeats 2000000 in
theorem comparePairs_grew (x t : S41) (w : World) :
    Calls Try.prog 28 #[.agg #[.int .i64 x.f0, .int .i64 x.f1], .agg #[.int .i64 t.f0, .int .i64 t.f1]] w fun e w' => e = .returned (.int .i64 (cmpP x t)) ∧ Grew w w' := by
  have hu := Try.underlying41
  obtain ⟨p, hp⟩ : ∃ p, p = cmpI x.f0 t.f0 := ⟨_, rfl⟩
  obtain ⟨q, hq⟩ : ∃ q, q = cmpI x.f1 t.f1 := ⟨_, rfl⟩
  have HP := zM (show cmp_Compare_int.f x.f0 t.f0 = some p by rw [hp]; exact cmp_Compare_at _ _)
  have HQ := zM (show cmp_Compare_int.f x.f1 t.f1 = some q by rw [hq]; exact cmp_Compare_at _ _)
  have HE := zM (show cmpP x t = (if p = 0 then q else p) by rw [hp, hq]; rfl)
  rw [HE.out]
  have HO := zM (or_at p q)
  clear hp hq HE
  generalize (if p = 0 then q else p) = r at HO ⊢
  generalize x.f0 = a at HP ⊢
  generalize x.f1 = b at HQ ⊢
  generalize t.f0 = c at HP ⊢
  generalize t.f1 = d at HQ ⊢
  obtain ⟨w2, hw2⟩ : ∃ w2, w2 = (w.alloc (.cells #[.int .i64 a, .int .i64 b] 41)).alloc (.cells #[.int .i64 c, .int .i64 d] 41) := ⟨_, rfl⟩
  have h0 : w2.cell? ⟨w.heap.size, 0, none⟩ = some (.int .i64 a) := by rw [hw2]; go_simp
  have h1 : w2.cell? ⟨w.heap.size, 1, none⟩ = some (.int .i64 b) := by rw [hw2]; go_simp
  have h2 : w2.cell? ⟨w.heap.size + 1, 0, none⟩ = some (.int .i64 c) := by rw [hw2]; go_simp
  have h3 : w2.cell? ⟨w.heap.size + 1, 1, none⟩ = some (.int .i64 d) := by rw [hw2]; go_simp
  have HG := zM (show Grew w w2 by rw [hw2]; exact ((Grew.refl w).alloc _).alloc _)
  have HW := zM hw2
  have HH := zM (show w2.cell? ⟨w.heap.size, 0, none⟩ = some (.int .i64 a) ∧ w2.cell? ⟨w.heap.size, 1, none⟩ = some (.int .i64 b) ∧ w2.cell? ⟨w.heap.size + 1, 0, none⟩ = some (.int .i64 c) ∧ w2.cell? ⟨w.heap.size + 1, 1, none⟩ = some (.int .i64 d) from ⟨h0, h1, h2, h3⟩)
  clear hw2 h0 h1 h2 h3
  go_enter Try.func28, Try.ntmps28
  go_upto_region 1 with (fail)
  (try simp only [Act.put, List.setIfInBounds_toArray, List.set_cons_zero, List.set_cons_succ])
  rw [← HW.out]
  refine zs (n := 13) (fun w' => w'.cell? ⟨w.heap.size, 0, none⟩ = some (.int .i64 a) ∧ w'.cell? ⟨w.heap.size, 1, none⟩ = some (.int .i64 b) ∧ w'.cell? ⟨w.heap.size + 1, 0, none⟩ = some (.int .i64 c) ∧ w'.cell? ⟨w.heap.size + 1, 1, none⟩ = some (.int .i64 d)) HH.out (fun hHeld => ?_)
  refine with_tabW impl_comparePairs.tab1 impl_comparePairs.bits1 (fun HT_ HW_ => ?_)
  refine zp HT_ 0 5 ?_
  refine zp HT_ 2 7 ?_
  refine zp HT_ 5 10 ?_
  refine zp HT_ 7 12 ?_
  refine zt HT_ HW_ 1 6 hHeld ?_ (hy := by rintro w' ⟨s0, s1, s2, s3⟩; go_simp; with_reducible rfl)
  refine zt HT_ HW_ 3 8 hHeld ?_ (hy := by rintro w' ⟨s0, s1, s2, s3⟩; go_simp; with_reducible rfl)
  refine zt HT_ HW_ 6 11 hHeld ?_ (hy := by rintro w' ⟨s0, s1, s2, s3⟩; go_simp; with_reducible rfl)
  refine zt HT_ HW_ 8 13 hHeld ?_ (hy := by rintro w' ⟨s0, s1, s2, s3⟩; go_simp; with_reducible rfl)
  refine zg HT_ 4 9 Try.func60 #[.int .i64 a, .int .i64 c] (fun K hK => ?_)
  with_reducible refine (cmp_Compare_int.calls a c p _ HP.out).mono ?_
  rintro e w' ⟨rfl, ⟨n1, rfl⟩⟩
  refine ⟨_, rfl, ?_⟩
  refine hK.out _ _ hHeld (fun hHeld => ?_)
  clear hK K
  refine zn 9 ?_
  refine zg HT_ 9 14 Try.func60 #[.int .i64 b, .int .i64 d] (fun K hK => ?_)
  with_reducible refine (cmp_Compare_int.calls b d q _ HQ.out).mono ?_
  rintro e w' ⟨rfl, ⟨n2, rfl⟩⟩
  refine ⟨_, rfl, ?_⟩
  refine hK.out _ _ hHeld (fun hHeld => ?_)
  clear hK K
  refine zn 14 ?_
  generalize hw3 : (w2.drew.drewN n1).drewN n2 = w3 at hHeld ⊢
  have HG3 := zM (show Grew w w3 by rw [← hw3]; exact (HG.out.drew.drewN _).drewN _)
  clear hw3
  refine one_ (i := 10) (N := some 15) #[true, true, true, true, true, true, true, true, true, true, true, false, false] rfl rfl (one_of HT_.out (by kernel_rfl)) (by decide) (fun K hK => ?_)
  refine value_ (w1 := w3.alloc (.cells #[.int .i64 p, .int .i64 q] 3)) (v := .slice (some ⟨w3.heap.size, 0, none⟩) 2 2) (by rfl) rfl ?_ ?_
  · first | (go_simp; done) | (go_simp; rfl)
  refine hK.out _ _ (by
    obtain ⟨s0, s1, s2, s3⟩ := hHeld
    have hb := below_alloc (Below.refl w3.heap.size w3) (.cells #[.int .i64 p, .int .i64 q] 3)
    exact ⟨pw_cell_below hb s0, pw_cell_below hb s1, pw_cell_below hb s2, pw_cell_below hb s3⟩) (fun hHeld => ?_)
  clear hK K
  refine zn 15 ?_
  refine zg HT_ 11 16 Try.func59 #[.slice (some ⟨w3.heap.size, 0, none⟩) 2 2] (fun K hK => ?_)
  refine (cmp_Or_int.calls 3 _ 2 [p, q] r _ (two_C w3 p q _) (Nat.le_refl _) HO.out).mono ?_
  rintro e w' ⟨rfl, ⟨n3, rfl⟩⟩
  refine ⟨_, rfl, ?_⟩
  refine hK.out _ _ hHeld (fun hHeld => ?_)
  clear hK K
  refine zn 16 ?_
  refine zp HT_ 12 4 ?_
  refine zo HT_ ?_
  try go_wp2
  go_ret
  exact ⟨by first | rfl | (simp; done), (HG3.out.alloc _).drewN _⟩
end Go.Proofs.Ytihfpngolcjkiaa.P
namespace Go.Proofs.Ytihfpngolcjkiaa.P
open Go.RowKit Go.Proofs.YtihfpngolcjkiaaW.PrintWords Go.Proofs.YtihfpngolcjkiaaW.PrintLast Go.Proofs.YtihfpngolcjkiaaW.PrintMore Go.Sort
set_option linter.unusedVariables false
set_option linter.unusedSimpArgs false
def encP (x : S41) : List Value := [.int .i64 x.f0, .int .i64 x.f1]
def flatP (l : List S41) : List Value := l.flatMap encP
theorem flatP_len : ∀ l : List S41, (flatP l).length = l.length * 2
  | [] => rfl
  | x :: l => by
    show (encP x ++ flatP l).length = _
    rw [List.length_append, flatP_len l, List.length_cons]
    show 2 + l.length * 2 = _
    omega
theorem flatP_seg : ∀ (l : List S41) (j : Nat) (h : j < l.length), ((flatP l).drop (j * 2)).take 2 = encP l[j]
  | [], j, h => absurd h (by simp)
  | x :: l, 0, _ => rfl
  | x :: l, j + 1, h => by
    have e : (flatP (x :: l)).drop ((j + 1) * 2) = (flatP l).drop (j * 2) := by
      show (.int .i64 x.f0 :: .int .i64 x.f1 :: flatP l).drop ((j + 1) * 2) = _
      rw [show (j + 1) * 2 = j * 2 + 1 + 1 by omega, List.drop_succ_cons, List.drop_succ_cons]
    rw [e]
    exact flatP_seg l j (by simpa using h)
theorem flatP_of : ∀ (l : List S41) (inner : List Value), inner.length = l.length * 2 → (∀ j (h : j < l.length), (inner.drop (j * 2)).take 2 = encP l[j]) → inner = flatP l
  | [], inner, hl, _ => List.eq_nil_of_length_eq_zero (by simpa using hl)
  | x :: l, inner, hl, h => by
    have h0 := h 0 (by simp)
    have hd := flatP_of l (inner.drop 2) (by rw [List.length_drop, hl, List.length_cons]; omega) (fun j hj => by
      have := h (j + 1) (by simpa using hj)
      rw [List.drop_drop, show 2 + j * 2 = (j + 1) * 2 by omega]
      simpa using this)
    rw [Nat.zero_mul, List.drop_zero] at h0
    rw [← List.take_append_drop 2 inner, h0, hd]
    rfl
theorem flatK_eq (l : List S41) [Inhabited S41] : (flatK encP 2 l.toArray).toList = flatP l := by
  refine flatP_of l _ (by simp) (fun j hj => ?_)
  have hs : (flatK encP 2 l.toArray).size = l.length * 2 := by simp
  have hg : ∀ c, c < 2 → (flatK encP 2 l.toArray)[j * 2 + c]! = (encP l[j])[c]! := fun c hc => by
    rw [get_flatK _ _ _ _ (by simp; omega), show (j * 2 + c) / 2 = j by omega, show (j * 2 + c) % 2 = c by omega, getElem!_pos l.toArray j (by simpa using hj)]
    rfl
  have h0 := hg 0 (by omega)
  have h1 := hg 1 (by omega)
  rw [getElem!_pos _ _ (by rw [hs]; omega)] at h0 h1
  have hl0 : j * 2 + 0 < (flatK encP 2 l.toArray).toList.length := by rw [Array.length_toList, hs]; omega
  have hl1 : j * 2 + 1 < (flatK encP 2 l.toArray).toList.length := by rw [Array.length_toList, hs]; omega
  rw [List.drop_eq_getElem_cons (by omega), List.take_succ_cons, List.drop_eq_getElem_cons (by omega), List.take_succ_cons, List.take_zero]
  simp only [Array.getElem_toList]
  simp only [Nat.add_zero] at h0
  rw [h0, h1]
  rfl
theorem swo_cmpP : SWO (ltOf cmpP) := by
  have e : ∀ a b, ltOf cmpP a b = decide (a.f0 < b.f0 ∨ (a.f0 = b.f0 ∧ a.f1 < b.f1)) := fun a b => by
    unfold ltOf cmpP cmpI
    congr 1
    rw [eq_iff_iff]
    repeat' split
    all_goals first | omega | (constructor <;> intro <;> omega)
  refine ⟨fun x => ?_, fun x y z => ?_, fun x y z => ?_⟩
  · rw [e]; simp
  · rw [e, e, e]; simp only [decide_eq_true_eq]; omega
  · rw [e, e, e]; simp only [decide_eq_false_iff_not]; omega
theorem ltOf_cmpP (a b : S41) : ltOf cmpP a b = decide (a.f0 < b.f0 ∨ (a.f0 = b.f0 ∧ a.f1 < b.f1)) := by
  unfold ltOf cmpP cmpI
  congr 1
  rw [eq_iff_iff]
  repeat' split
  all_goals first | omega | (constructor <;> intro <;> omega)
def sortP (l : List S41) : List S41 := l.mergeSort fun x y => !ltOf cmpP y x
theorem sortP_perm (l : List S41) : (sortP l).Perm l := List.mergeSort_perm _ _
theorem tri_cmpP (x y : S41) (h1 : ltOf cmpP x y = false) (h2 : ltOf cmpP y x = false) : x = y := by
  rw [ltOf_cmpP] at h1 h2
  rw [decide_eq_false_iff_not] at h1 h2
  obtain ⟨a, b⟩ := x
  obtain ⟨c, d⟩ := y
  simp only at h1 h2
  rw [show a = c by omega, show b = d by omega]
set_option maxHeartbeats 2000000 in
theorem sortPairs.calls (P0_ : Nat → Prop) (base : Nat) (u : Value) (l0 : List S41) (w : World) (ho0 : Kd.R k41 41 w base P0_ u l0) (hlen : l0.length < 4611686018427387904) :
    Calls Try.prog 27 #[u, .func (.func 28) #[] #[]] w fun e w' => e = .returned (.tuple #[]) ∧ Kd.R k41 41 w' base P0_ u (sortP l0) ∧ w.grownBy w' u.ownBlock := by
  have hR := ho0
  obtain ⟨h0, inner, hown, hr⟩ := ho0
  have hin : inner = flatP l0 := flatP_of l0 inner hr.1 (fun j hj => k41_openM (hr.2 j l0[j] (List.getElem?_eq_getElem hj)))
  subst hin
  rcases hown.2 with ⟨hnil, hz⟩ | ⟨gb, cap, cur, rfl, hbase, hb, h1, h2, h3, h4⟩
  · have e0 : l0 = [] := List.eq_nil_of_length_eq_zero hz
    subst e0
    subst hnil
    refine (AnyF.slices_SortFunc_none Try.laysSlF06_f27 none 0 _ w).mono ?_
    rintro e w' ⟨rfl, rfl⟩
    refine ⟨rfl, ?_, ⟨rfl, rfl, rfl, Nat.le_refl _, fun k hk _ => rfl⟩⟩
    have e1 : sortP [] = [] := by unfold sortP; simp
    rw [e1]; exact hR
  replace h3 : cur.size = cap * 2 := h3
  replace h4 : cur.toList.take (l0.length * 2) = flatP l0 := h4
  have hgl : gb < w.heap.size := (Array.getElem?_eq_some_iff.1 hb).1
  by_cases hn : 0 < l0.length
  case neg =>
    have e0 : l0 = [] := List.eq_nil_of_length_eq_zero (by omega)
    subst e0
    refine (AnyF.slices_SortFunc_none Try.laysSlF06_f27 (some ⟨gb, 0, none⟩) cap _ w).mono ?_
    rintro e w' ⟨rfl, rfl⟩
    refine ⟨rfl, ?_, ⟨rfl, rfl, rfl, Nat.le_refl _, fun k hk _ => rfl⟩⟩
    have e1 : sortP [] = [] := by unfold sortP; simp
    rw [e1]; exact hR
  haveI : Inhabited S41 := ⟨l0[0]⟩
  have hH : HoldsK encP 2 w gb 0 l0.toArray := by
    intro j hj
    have hj' : j < l0.length * 2 := by simpa using hj
    refine ⟨?_, by simp [World.frozen?, hb]⟩
    have h5 : (cur.toList.take (l0.length * 2))[j]? = (flatK encP 2 l0.toArray).toList[j]? := by rw [h4, flatK_eq]
    rw [List.getElem?_take_of_lt hj', Array.getElem?_toList, Array.getElem?_toList, Array.getElem?_eq_getElem hj] at h5
    rw [getElem!_pos _ j hj]
    simp [World.cell?, hb, h5]
  have hcl : CmpLays Try.prog 28 #[] encP 2 cmpP gb 0 l0.toArray.size w := by
    intro m os dk _ x y
    have h := comparePairs_grew x y (sortWorldK encP 2 w gb 0 m dk os)
    exact h
  have hcon := AnyQ.slices_SortFunc_total Try.laysSlF06_f27 2 (fun w => (show (isAgg 41).run Try.prog w = .ok true w by simp [isAgg, run_underlying Try.underlying41])) (fun w => (show (Go.sizeOf 41).run Try.prog w = .ok 2 w by
    simp [Go.sizeOf]
    rfl)) encP (fun _ => rfl) (fun x v hv => by
    rcases List.mem_cons.1 hv with rfl | hv
    · rfl
    · rw [List.mem_singleton.1 hv]; rfl) cmpP swo_cmpP 28 #[] gb 0 cap l0.toArray w (enters_of Try.func28 (by kernel_rfl) rfl) hcl hH hgl (by simpa using hlen) tri_cmpP
  rw [show l0.toArray.size = l0.length by simp] at hcon
  refine hcon.mono ?_
  rintro e' w' ⟨rfl, nn, os, rfl⟩
  have hd : ((l0.toArray).toList.mergeSort fun x y => !(ltOf cmpP) y x) = sortP l0 := rfl
  rw [hd]
  have hdl : (sortP l0).length = l0.length := (sortP_perm l0).length_eq
  have hgr : w.grownBy (sortWorldK encP 2 w gb 0 nn (sortP l0).toArray os) (some gb) := grownBy_sortedG id (w := w) (g := gb) (n := nn) (os := os) (flatK encP 2 (sortP l0).toArray)
  refine ⟨rfl, ⟨h0, flatP (sortP l0), ?_, ⟨flatP_len _, fun j p hj => ?_⟩⟩, hgr⟩
  · refine ⟨by rw [flatP_len]; rfl, .inr ⟨gb, cap, putCells id 0 (flatK encP 2 (sortP l0).toArray) cur, by rw [hdl], hbase, heap_sortedG id _ hb, by rw [hdl]; exact h1, h2, by simp [putCells, h3]; rfl, ?_⟩⟩
    have h9 := take_putCellsG id cur (flatP (sortP l0)) (by rw [flatP_len, hdl]; have := Nat.mul_le_mul_right 2 h1; omega)
    have h10 : (flatP (sortP l0)).toArray = flatK encP 2 (sortP l0).toArray := by rw [← flatK_eq]
    rw [h10, flatP_len, List.map_id] at h9
    exact h9
  · obtain ⟨hlt, rfl⟩ := List.getElem?_eq_some_iff.1 hj
    show Kd.M k41 _ _ _ _ (List.take 2 (List.drop (j * 2) (flatP (sortP l0))))
    rw [flatP_seg _ j hlt]
    exact k41_mkM _ _ _ _
end Go.Proofs.Ytihfpngolcjkiaa.P
