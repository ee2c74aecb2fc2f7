import Derived.Shelf.Abstract
import Derived.Test.YtjgcehldepfaaaaGreatForestMeetsG15
import Derived.Shelf.Small.Bits
import Derived.Shelf.Small.Wraps
import Derived.Shelf.Strconv.Itoa0
import Derived.Shelf.Sort.Plain
import Derived.Shelf.Bits.Mul64
import Derived.Ground.Names2Prog
import Derived.Shelf.Slices.SearchI
import Derived.Shelf.Slices.In.SortNone
import Derived.Ground.SlsfProg
import Derived.Shelf.SlSortCmp.Insertion
import Derived.Shelf.SlSortCmp.SiftDown1
import Derived.Shelf.SlSortCmp.HeapSort1
import Derived.Shelf.SlSortCmp.Insertion1
import Derived.Shelf.SlSortCmp.Median1
import Derived.Shelf.SlSortCmp.Pivot1
import Derived.Shelf.SlSortCmp.ReverseRange1
import Derived.Shelf.SlSortCmp.PartialInsertion1
import Derived.Shelf.SlSortCmp.PartitionEqual1
import Derived.Shelf.SlSortCmp.Partition1
import Derived.Shelf.SlSortCmp.Pdq1
import Derived.Shelf.SlSortCmp.Whole1
import Derived.Shelf.SlSortCmp.NoneTotal
import Derived.Test.YtjgcehldepfaaaaGreatProg
namespace Go.Proofs.YtjgcehldepfaaaaGreat.P
open Go.RowKit YtjgcehldepfaaaaGreatW.PrintWords YtjgcehldepfaaaaGreatW.PrintLast YtjgcehldepfaaaaGreatW.PrintMore
attribute [local go_sem] bl bh bi bd bj bf bk bg
set_option linter.unusedVariables false
set_option linter.unusedSimpArgs false
def kH (a0 : Int) : Option (Int) := some (Go.bits .and .i64 (wrap64 (IntKind.u64.wrap ((IntKind.u64.wrap ((IntKind.u64.wrap ((Go.bits .and .u64 (IntKind.u64.wrap (((IntKind.u64.wrap ((Go.bits .and .u64 ((IntKind.u64.wrap ((Go.bits .and .u64 (a0 / 2) 6148914691236517205) + (Go.bits .and .u64 a0 6148914691236517205))) / 4) 3689348814741910323) + (Go.bits .and .u64 (IntKind.u64.wrap ((Go.bits .and .u64 (a0 / 2) 6148914691236517205) + (Go.bits .and .u64 a0 6148914691236517205))) 3689348814741910323))) / 16) + (IntKind.u64.wrap ((Go.bits .and .u64 ((IntKind.u64.wrap ((Go.bits .and .u64 (a0 / 2) 6148914691236517205) + (Go.bits .and .u64 a0 6148914691236517205))) / 4) 3689348814741910323) + (Go.bits .and .u64 (IntKind.u64.wrap ((Go.bits .and .u64 (a0 / 2) 6148914691236517205) + (Go.bits .and .u64 a0 6148914691236517205))) 3689348814741910323))))) 1085102592571150095) + ((Go.bits .and .u64 (IntKind.u64.wrap (((IntKind.u64.wrap ((Go.bits .and .u64 ((IntKind.u64.wrap ((Go.bits .and .u64 (a0 / 2) 6148914691236517205) + (Go.bits .and .u64 a0 6148914691236517205))) / 4) 3689348814741910323) + (Go.bits .and .u64 (IntKind.u64.wrap ((Go.bits .and .u64 (a0 / 2) 6148914691236517205) + (Go.bits .and .u64 a0 6148914691236517205))) 3689348814741910323))) / 16) + (IntKind.u64.wrap ((Go.bits .and .u64 ((IntKind.u64.wrap ((Go.bits .and .u64 (a0 / 2) 6148914691236517205) + (Go.bits .and .u64 a0 6148914691236517205))) / 4) 3689348814741910323) + (Go.bits .and .u64 (IntKind.u64.wrap ((Go.bits .and .u64 (a0 / 2) 6148914691236517205) + (Go.bits .and .u64 a0 6148914691236517205))) 3689348814741910323))))) 1085102592571150095) / 256))) + ((IntKind.u64.wrap ((Go.bits .and .u64 (IntKind.u64.wrap (((IntKind.u64.wrap ((Go.bits .and .u64 ((IntKind.u64.wrap ((Go.bits .and .u64 (a0 / 2) 6148914691236517205) + (Go.bits .and .u64 a0 6148914691236517205))) / 4) 3689348814741910323) + (Go.bits .and .u64 (IntKind.u64.wrap ((Go.bits .and .u64 (a0 / 2) 6148914691236517205) + (Go.bits .and .u64 a0 6148914691236517205))) 3689348814741910323))) / 16) + (IntKind.u64.wrap ((Go.bits .and .u64 ((IntKind.u64.wrap ((Go.bits .and .u64 (a0 / 2) 6148914691236517205) + (Go.bits .and .u64 a0 6148914691236517205))) / 4) 3689348814741910323) + (Go.bits .and .u64 (IntKind.u64.wrap ((Go.bits .and .u64 (a0 / 2) 6148914691236517205) + (Go.bits .and .u64 a0 6148914691236517205))) 3689348814741910323))))) 1085102592571150095) + ((Go.bits .and .u64 (IntKind.u64.wrap (((IntKind.u64.wrap ((Go.bits .and .u64 ((IntKind.u64.wrap ((Go.bits .and .u64 (a0 / 2) 6148914691236517205) + (Go.bits .and .u64 a0 6148914691236517205))) / 4) 3689348814741910323) + (Go.bits .and .u64 (IntKind.u64.wrap ((Go.bits .and .u64 (a0 / 2) 6148914691236517205) + (Go.bits .and .u64 a0 6148914691236517205))) 3689348814741910323))) / 16) + (IntKind.u64.wrap ((Go.bits .and .u64 ((IntKind.u64.wrap ((Go.bits .and .u64 (a0 / 2) 6148914691236517205) + (Go.bits .and .u64 a0 6148914691236517205))) / 4) 3689348814741910323) + (Go.bits .and .u64 (IntKind.u64.wrap ((Go.bits .and .u64 (a0 / 2) 6148914691236517205) + (Go.bits .and .u64 a0 6148914691236517205))) 3689348814741910323))))) 1085102592571150095) / 256))) / 65536))) + ((IntKind.u64.wrap ((IntKind.u64.wrap ((Go.bits .and .u64 (IntKind.u64.wrap (((IntKind.u64.wrap ((Go.bits .and .u64 ((IntKind.u64.wrap ((Go.bits .and .u64 (a0 / 2) 6148914691236517205) + (Go.bits .and .u64 a0 6148914691236517205))) / 4) 3689348814741910323) + (Go.bits .and .u64 (IntKind.u64.wrap ((Go.bits .and .u64 (a0 / 2) 6148914691236517205) + (Go.bits .and .u64 a0 6148914691236517205))) 3689348814741910323))) / 16) + (IntKind.u64.wrap ((Go.bits .and .u64 ((IntKind.u64.wrap ((Go.bits .and .u64 (a0 / 2) 6148914691236517205) + (Go.bits .and .u64 a0 6148914691236517205))) / 4) 3689348814741910323) + (Go.bits .and .u64 (IntKind.u64.wrap ((Go.bits .and .u64 (a0 / 2) 6148914691236517205) + (Go.bits .and .u64 a0 6148914691236517205))) 3689348814741910323))))) 1085102592571150095) + ((Go.bits .and .u64 (IntKind.u64.wrap (((IntKind.u64.wrap ((Go.bits .and .u64 ((IntKind.u64.wrap ((Go.bits .and .u64 (a0 / 2) 6148914691236517205) + (Go.bits .and .u64 a0 6148914691236517205))) / 4) 3689348814741910323) + (Go.bits .and .u64 (IntKind.u64.wrap ((Go.bits .and .u64 (a0 / 2) 6148914691236517205) + (Go.bits .and .u64 a0 6148914691236517205))) 3689348814741910323))) / 16) + (IntKind.u64.wrap ((Go.bits .and .u64 ((IntKind.u64.wrap ((Go.bits .and .u64 (a0 / 2) 6148914691236517205) + (Go.bits .and .u64 a0 6148914691236517205))) / 4) 3689348814741910323) + (Go.bits .and .u64 (IntKind.u64.wrap ((Go.bits .and .u64 (a0 / 2) 6148914691236517205) + (Go.bits .and .u64 a0 6148914691236517205))) 3689348814741910323))))) 1085102592571150095) / 256))) + ((IntKind.u64.wrap ((Go.bits .and .u64 (IntKind.u64.wrap (((IntKind.u64.wrap ((Go.bits .and .u64 ((IntKind.u64.wrap ((Go.bits .and .u64 (a0 / 2) 6148914691236517205) + (Go.bits .and .u64 a0 6148914691236517205))) / 4) 3689348814741910323) + (Go.bits .and .u64 (IntKind.u64.wrap ((Go.bits .and .u64 (a0 / 2) 6148914691236517205) + (Go.bits .and .u64 a0 6148914691236517205))) 3689348814741910323))) / 16) + (IntKind.u64.wrap ((Go.bits .and .u64 ((IntKind.u64.wrap ((Go.bits .and .u64 (a0 / 2) 6148914691236517205) + (Go.bits .and .u64 a0 6148914691236517205))) / 4) 3689348814741910323) + (Go.bits .and .u64 (IntKind.u64.wrap ((Go.bits .and .u64 (a0 / 2) 6148914691236517205) + (Go.bits .and .u64 a0 6148914691236517205))) 3689348814741910323))))) 1085102592571150095) + ((Go.bits .and .u64 (IntKind.u64.wrap (((IntKind.u64.wrap ((Go.bits .and .u64 ((IntKind.u64.wrap ((Go.bits .and .u64 (a0 / 2) 6148914691236517205) + (Go.bits .and .u64 a0 6148914691236517205))) / 4) 3689348814741910323) + (Go.bits .and .u64 (IntKind.u64.wrap ((Go.bits .and .u64 (a0 / 2) 6148914691236517205) + (Go.bits .and .u64 a0 6148914691236517205))) 3689348814741910323))) / 16) + (IntKind.u64.wrap ((Go.bits .and .u64 ((IntKind.u64.wrap ((Go.bits .and .u64 (a0 / 2) 6148914691236517205) + (Go.bits .and .u64 a0 6148914691236517205))) / 4) 3689348814741910323) + (Go.bits .and .u64 (IntKind.u64.wrap ((Go.bits .and .u64 (a0 / 2) 6148914691236517205) + (Go.bits .and .u64 a0 6148914691236517205))) 3689348814741910323))))) 1085102592571150095) / 256))) / 65536))) / 4294967296)))) 127)
set_option maxHeartbeats 8000000 in
set_option maxRecDepth 100000 in
theorem uc (a0 : Int) (r : Int) (w : World) (h : kH a0 = some r) :
 Calls Tryz.prog 81 #[.int .u64 a0] w fun e w' => e = .returned (.int .i64 r) ∧ Drawn0 w w' := by
 have H := h
 unfold kH at H
 clear h
 obtain rfl := ap H
 go_enter Tryz.func81, Tryz.ntmps81
 go_wp2
 go_ret
 exact ⟨by first | rfl | (simp; done) | (simp [*]; done), by repeat (first | exact Drawn0.refl _ | apply Drawn0.step)⟩
def kI (a0 : Int) : Option (Int) := (kH a0).bind fun t207 => (some t207)
set_option maxHeartbeats 8000000 in
set_option maxRecDepth 100000 in
theorem ud (a0 : Int) (r : Int) (w : World) (h : kI a0 = some r) :
 Calls Tryz.prog 61 #[.int .u64 a0] w fun e w' => e = .returned (.int .i64 r) ∧ Below w.heap.size w w' := by
 have HB := zM (Below.refl w.heap.size w)
 have H := h
 unfold kI at H
 clear h
 replace H := av H
 obtain ⟨t207, A20, H⟩ := H
 have A2 := Aside0.mk A20
 clear A20
 obtain rfl := ap H
 go_enter Tryz.func61, Tryz.ntmps61
 go_wp2_with (first | ((with_reducible refine ax (f := 81) rfl ?_); refine zc 7 Tryz.func81 #[.int .u64 a0] ?_; (with_reducible refine (uc a0 t207 _ A2.out).mono ?_); rintro e w' ⟨rfl, ⟨nd, rfl⟩⟩; refine ⟨_, rfl, ?_⟩))
 go_ret
 exact ⟨by first | rfl | (simp [al, ak] <;> rfl) | (simp [*, al, ak] <;> rfl), zB⟩
def d4 (a0 : Int) : Option (Int) := (kI a0).bind fun t208 => (some t208)
set_option maxHeartbeats 8000000 in
set_option maxRecDepth 100000 in
theorem d5 (a0 : Int) (r : Int) (w : World) (h : d4 a0 = some r) :
 Calls Tryz.prog 40 #[.int .u64 a0] w fun e w' => e = .returned (.int .i64 r) ∧ Below w.heap.size w w' := by
 have HB := zM (Below.refl w.heap.size w)
 have H := h
 unfold d4 at H
 clear h
 replace H := av H
 obtain ⟨t208, A20, H⟩ := H
 have A2 := Aside0.mk A20
 clear A20
 obtain rfl := ap H
 go_enter Tryz.func40, Tryz.ntmps40
 go_wp2_with (first | ((with_reducible refine ax (f := 61) rfl ?_); refine zc 4 Tryz.func61 #[.int .u64 a0] ?_; (with_reducible refine (ud a0 t208 _ A2.out).mono ?_); rintro e w3 ⟨rfl, hb⟩; refine ⟨_, rfl, ?_⟩; replace HB := zM (ag zB hb); (try clear hb); (try clear hi)))
 go_ret
 exact ⟨by first | rfl | (simp [al, ak] <;> rfl) | (simp [*, al, ak] <;> rfl), zB⟩
def jw (a0_0 : Int) (l0_1 : List (S63)) : Option (Int) := if 0 ≤ a0_0 then (some (IntKind.u64.wrap ((dp .u64 1 a0_0) - 1))) else (none)
set_option maxHeartbeats 8000000 in
set_option maxRecDepth 100000 in
theorem kw (a0_0 : Int) (A0_1 : Option Addr) (c0_1 : Nat) (l0_1 : List (S63)) (r : Int) (w : World) (hr0_1 : Kd.C k63 w A0_1 l0_1.length l0_1) (hc0_1 : l0_1.length ≤ c0_1) (h : jw a0_0 l0_1 = some r) :
 Calls Tryz.prog 117 #[.agg #[.int .i64 a0_0, .slice A0_1 l0_1.length c0_1]] w fun e w' => e = .returned (.int .u64 r) ∧ Below w.heap.size w w' := by
 have hu29 := Tryz.underlying29
 have HR0_1 := Aside0.mk hr0_1
 have HC0_1 := Aside0.mk hc0_1
 clear hr0_1 hc0_1
 have HB := zM (Below.refl w.heap.size w)
 have H := h
 unfold jw at H
 clear h
 by_cases c2 : 0 ≤ a0_0
 case neg => rw [if_neg c2] at H; simp at H
 rw [if_pos c2] at H
 have c2b0 := eq_true c2
 have c2b1 : decide (0 ≤ a0_0) = true := af c2
 clear c2
 obtain ⟨ji3, hji3⟩ : ∃ j_ : Int, (dp .u64 1 a0_0) = j_ := ⟨_, rfl⟩
 replace H : (some (IntKind.u64.wrap ((ji3) - 1))) = some r := by first | (rw [hji3] at H; exact H) | (simp only [hji3] at H ⊢; exact H)
 have hji3_ : (IntKind.u64.wrap (1 * 2 ^ min a0_0.toNat 64)) = ji3 := hji3
 have hji3z : a0_0 ≤ 64 → (IntKind.u64.wrap (1 * 2 ^ a0_0.toNat)) = ji3 := jX hji3
 have hji3u : (IntKind.u64.wrap (2 ^ min a0_0.toNat 64)) = ji3 := by have h_ := hji3_; rw [Int.one_mul] at h_; exact h_
 have hji3v : a0_0 ≤ 64 → (IntKind.u64.wrap (2 ^ a0_0.toNat)) = ji3 := fun hle_ => by have h_ := hji3z hle_; rw [Int.one_mul] at h_; exact h_
 obtain rfl := ap H
 go_enter Tryz.func117, Tryz.ntmps117
 go_wp2_with (first | ((with_reducible refine au (N := 1) rfl ?_); refine zb (w := w) 1 #[.int .i64 a0_0, .slice A0_1 l0_1.length c0_1] 29 zB ?_; clear HB; intro gb209 w4 HB BK209 GW209; have GE209 := GW209; have hcz5_0 := zy BK209 0; have hcz5_1 := zy BK209 1; have hfz5_0 := ae BK209.out 0; have hfz5_1 := ae BK209.out 1))
 go_ret
 exact ⟨by first | rfl | (simp [al, ak] <;> rfl) | (simp only [← hji3]; first | rfl | (simp [al, ak] <;> rfl)) | (simp [*, al, ak] <;> rfl), zB⟩
def df : Nat → Int → List Int → Int → Option (List Int)
 | 0, _, _, _ => none
 | k + 1, x0, x3, x6 => if x6 < 8 then (if 0 ≤ x6 then (if (Go.bits .and .u64 (dn .u64 x0 x6) 1) = 1 then (if x3.length < 17592186044416 then (df k x0 (x3 ++ [x6]) (wrap64 (x6 + 1))) else (none)) else (df k x0 x3 (wrap64 (x6 + 1)))) else (none)) else (some x3)
def eH (k : Nat) (a0 : Int) : Option (List Int) := df k a0 (([] : List Int)) 0
set_option maxHeartbeats 8000000 in
set_option maxRecDepth 100000 in
theorem iy (k : Nat) (a0 : Int) (r : List Int) (w : World) (h : eH k a0 = some r) :
 Calls Tryz.prog 33 #[.int .u64 a0] w fun e w' => ∃ v0_ : Value, e = .returned (v0_) ∧ Kd.R (Kd.int .i64) 3 w' w.heap.size (fun _ => True) v0_ r ∧ Below w.heap.size w w' := by
 have HB := zM (Below.refl w.heap.size w)
 have H := h
 unfold eH at H
 clear h
 obtain ⟨y210, hy210⟩ : ∃ y_ : List Int, y_ = (([] : List Int)) := ⟨_, rfl⟩
 replace H : (df k a0 y210 0) = some r := by first | (rw [hy210]; with_reducible exact H) | (have H2_ := (Option.bind_some _ _).symm.trans H; rw [hy210]; with_reducible exact H2_) | (have H2_ := (Option.bind_some _ _).symm.trans H; with_reducible exact H2_) | with_reducible exact H | (rw [hy210]; exact H) | exact H
 have Ny210 := Aside0.mk hy210
 clear hy210
 have H' := Aside0.mk H
 clear H
 go_enter Tryz.func33, Tryz.ntmps33
 go_wp2_with (first | ((with_reducible refine au (N := 5) rfl ?_); refine Kd.R_lit (Kd.int .i64) _ 3 ?hg (N := 5) ?hd (xs := ([] : List Int)) (inner := []) (ok := fun _ => True) (okp := fun _ => True) ?hr ?hp (fun _ hk => hk) trivial (Below.refl _ _) (ar _) (by simp) ?_; (case hd => rfl); (case hg => rfl); (case hr => first | (go_simp; done) | (go_simp; rfl)); (case hp => exact (Reps.none _ _)); intro v211 w2 ho3 hb hg_ hnew_; clear hg_ hnew_; (first | rw [← Ny210.out] at ho3 | (simp only [Int.reduceToNat] at ho3; rw [← Ny210.out] at ho3)); have HO212 := zM (Kd.R_lower ho3 (am zB)); replace HB := zM (ag zB hb); clear hb ho3))
 go_loopg [3, 6] k (fun kq v3 v6 w' => ∃ (x3_1 : List Int) (x6_1 : Int), v6 = .int .i64 x6_1 ∧ Aside0 (df kq a0 x3_1 x6_1 = some r) ∧ Aside0 (kq ≤ k) ∧ Aside0 (Kd.R (Kd.int .i64) 3 w' w.heap.size (fun _ => True) v3 x3_1) ∧ Aside0 (Below w.heap.size w w'))
 case atStart => exact ⟨(y210), (0), (by first | rfl | (simp; done) | (simp [*]; done)), H', ⟨ar _⟩, ⟨zR HO212.out⟩, ⟨zB⟩⟩
 case round =>
  clear H'
  try clear p2
  try clear c3
  obtain ⟨x3_1, x6_1, rfl, HA, HK1, HO_3, HB⟩ := hrel
  cases gk with
  | zero => exact absurd HA.out (by simp [df])
  | succ k1 =>
   have H := HA.out
   clear HA
   simp only [df] at H
   by_cases c4 : x6_1 < 8
   · rw [if_pos c4] at H
     have c4b0 := af c4
     clear c4
     by_cases c5 : 0 ≤ x6_1
     case neg => rw [if_neg c5] at H; simp at H
     rw [if_pos c5] at H
     have c5b0 := eq_true c5
     have c5b1 : decide (0 ≤ x6_1) = true := af c5
     clear c5
     obtain ⟨ji6, hji6⟩ : ∃ j_ : Int, (dn .u64 a0 x6_1) = j_ := ⟨_, rfl⟩
     replace H : (if (Go.bits .and .u64 (ji6) 1) = 1 then (if x3_1.length < 17592186044416 then (df k1 a0 (x3_1 ++ [x6_1]) (wrap64 (x6_1 + 1))) else (none)) else (df k1 a0 x3_1 (wrap64 (x6_1 + 1)))) = some r := by first | (rw [hji6] at H; exact H) | (simp only [hji6] at H ⊢; exact H)
     have hji6_ : (a0 / 2 ^ min x6_1.toNat 64) = ji6 := hji6
     have hji6z : x6_1 ≤ 64 → (a0 / 2 ^ x6_1.toNat) = ji6 := jW hji6
     by_cases c7 : (Go.bits .and .u64 (ji6) 1) = 1
     · rw [if_pos c7] at H
       have c7b0 : ((Go.bits .and .u64 (ji6) 1) == 1) = true := beq_iff_eq.mpr c7
       have c7b1 : ((Go.bits .and .u64 (ji6) 1) != 1) = false := bne_eq_false_iff_eq.mpr c7
       clear c7
       by_cases c8 : x3_1.length < 17592186044416
       case neg => rw [if_neg c8] at H; simp at H
       rw [if_pos c8] at H
       have LMc8 := Aside0.mk c8
       clear c8
       obtain ⟨y213, hy213⟩ : ∃ y_ : List Int, y_ = (x3_1 ++ [x6_1]) := ⟨_, rfl⟩
       replace H : (df k1 a0 y213 (wrap64 (x6_1 + 1))) = some r := by first | (rw [hy213]; with_reducible exact H) | (have H2_ := (Option.bind_some _ _).symm.trans H; rw [hy213]; with_reducible exact H2_) | (have H2_ := (Option.bind_some _ _).symm.trans H; with_reducible exact H2_) | with_reducible exact H | (rw [hy213]; exact H) | exact H
       have Ny213 := Aside0.mk hy213
       clear hy213
       have H' := Aside0.mk H
       clear H
       go_wp2_with (first | ((with_reducible refine cJ (b := .append) (xs := #[.tmp 14, .tmp 16]) rfl ?_); at_builtin; refine Kd.R_append (Kd.int .i64) (w0 := w) w.heap.size rfl (.tmp 14) (.tmp 16) 25 3 (.int .i64 0) 8 rfl Tryz.underlying25 bv rfl (by decide) (by omega) u3 x3_1 x6_1 [.int .i64 x6_1] (fun _ => True) (fun _ => False) rfl rfl ?aP (fun _ hk => hk.elim) ?aF ?aO ?aB ?aS ?aL ?_; (case aP => exact rfl); (case aB => exact zB); (case aF => exact (fun _ _ => trivial)); (case aO => exact (zR HO_3.out)); (case aS => exact (am zB)); (case aL => have := LMc8.out; omega); intro v214 w9 ho hb hg hat; rw [← Ny213.out] at ho; replace HB := zM (hb); have HO215 := zM (ho); clear HO_3; clear ho hb hg hat))
       go_roundg k1
       case measure => have := HK1.out; omega
       case rel => exact ⟨(y213), (wrap64 (x6_1 + 1)), (by first | rfl | (simp; done) | (simp [*]; done)), H', ⟨by have := HK1.out; omega⟩, ⟨zR HO215.out⟩, ⟨zB⟩⟩
     · rw [if_neg c7] at H
       have c7b0 : ((Go.bits .and .u64 (ji6) 1) == 1) = false := beq_eq_false_iff_ne.mpr c7
       have c7b1 : ((Go.bits .and .u64 (ji6) 1) != 1) = true := bne_iff_ne.mpr c7
       have H' := Aside0.mk H
       clear H
       go_wp2
       go_roundg k1
       case measure => have := HK1.out; omega
       case rel => exact ⟨(x3_1), (wrap64 (x6_1 + 1)), (by first | rfl | (simp; done) | (simp [*]; done)), H', ⟨by have := HK1.out; omega⟩, ⟨zR HO_3.out⟩, ⟨zB⟩⟩
   · rw [if_neg c4] at H
     have c4b0 : decide (x6_1 < 8) = false := ao c4
     clear c4
     obtain rfl := ap H
     go_wp2
     go_ret
     exact ⟨_, by first | rfl | (simp [al, ak] <;> rfl) | (simp [*, al, ak] <;> rfl), by (with_reducible repeat (first | apply Kd.R_alloc | apply Kd.R_drewN | apply Kd.R_drew)); exact HO_3.out, zB⟩
def kT {α : Type} (g : Nat) (lb : Array Value) (enc : α → Value) (p : α → Bool) (l : List α) (w : World) : Prop :=
 ∀ (W : World) (x : α), x ∈ l → Below w.heap.size w W → Calls Tryz.prog g (#[enc x] ++ lb) W fun e w' => e = .returned (.bool (p x)) ∧ Below W.heap.size W w'
set_option maxRecDepth 100000 in
set_option maxHeartbeats 2000000 in
theorem sg (g : Nat) (lb : Array Value) (eg : ∀ (args : Array Value) (w : World), (callFunc g args).run Tryz.prog w = .ok (.enter g args) w) (p : S63 → Bool) (A0 : Option Addr) (c0 : Nat) (l0 : List S63) (w : World) (hr0 : Kd.C k63 w A0 l0.length l0)
  (hp : kT g lb (fun x : S63 => Value.agg #[.int .i64 x.f0, .int .i64 x.f1]) p l0 w) :
  Calls Tryz.prog 105 #[.slice A0 l0.length c0, .func (.func g) #[] lb] w fun e w' => (∃ r : Int, e = .returned (.int .i64 r) ∧ (0 ≤ r ↔ l0.any p = true)) ∧ Below w.heap.size w w' := by
 have HR0 := Aside0.mk hr0
 have HP := Aside0.mk hp
 have HL := Aside0.mk (hr0.2.1)
 clear hr0 hp
 go_enter Tryz.func105, Tryz.ntmps105
 go_wp2
 go_loopg [8, 5] (l0.length + 1) (fun kq v8 v5 w' => ∃ (m : Nat), v8 = .int .i64 m ∧ Aside0 (m ≤ l0.length) ∧ Aside0 (kq = l0.length - m + 1) ∧ Aside0 ((l0.take m).any p = false) ∧ Aside0 (Below w.heap.size w w'))
 case atStart => exact ⟨0, rfl, ⟨Nat.zero_le _⟩, ⟨by omega⟩, ⟨by simp⟩, ⟨Below.refl _ _⟩⟩
 case round =>
  obtain ⟨m, rfl, HM, HK1, HA, HB⟩ := hrel
  by_cases c1 : m < l0.length
  · have p1 : (0 : Int) ≤ (m : Int) := by omega
    have q1 : (m : Int) < (l0.length : Int) := by omega
    obtain ⟨ad, e1, hx0, hx1⟩ := bp HR0.out (m : Int) p1 q1
    cases e1
    replace hx0 := (HB.out.cell (aj w _ hx0)).trans hx0
    replace hx1 := (HB.out.cell (aj w _ hx1)).trans hx1
    rw [Int.toNat_natCast] at hx0 hx1
    have HG := Aside0.mk (show l0[m] = aa l0 m by simp [aa, List.getD_eq_getElem?_getD, List.getElem?_eq_getElem c1])
    have HT := Aside0.mk (show (l0.take (m + 1)).any p = p (aa l0 m) by rw [List.take_succ_eq_append_getElem c1, List.any_append, HA.out, HG.out]; simp)
    have HQ := Aside0.mk (show p (aa l0 m) = true → l0.any p = true from fun hq => List.any_eq_true.2 ⟨l0[m], List.getElem_mem c1, by rw [HG.out]; exact hq⟩)
    have c1b : decide ((m : Int) < (l0.length : Int)) = true := af q1
    have c1c : decide (m < l0.length) = true := af c1
    have hw1 : (m : Int) + 1 ≤ 9223372036854775807 := by have := HL.out; omega
    have hcall := HP.out _ (aa l0 m) (by rw [← HG.out]; exact List.getElem_mem c1) HB.out
    have HC := Aside0.mk hcall
    replace p1 := eq_true p1
    replace q1 := eq_true q1
    clear c1 hcall HG HA
    cases hq : p (aa l0 m) with
    | true =>
     have HQ2 := Aside0.mk (HQ.out hq)
     rw [hq] at HC
     clear hq HQ HT
     go_wp2_with (go_at_fn g; refine HC.out.mono ?_; rintro e w' ⟨rfl, hb⟩)
     go_ret
     exact ⟨⟨_, rfl, ⟨fun _ => HQ2.out, fun _ => by have := of_eq_true p1; first | exact this | (simpa using this) | omega⟩⟩, ag HB.out hb⟩
    | false =>
     rw [hq] at HT HC
     clear hq HQ
     go_wp2_with (go_at_fn g; refine HC.out.mono ?_; rintro e w' ⟨rfl, hb⟩)
     go_roundg (l0.length - m)
     case measure => have := HK1.out; have := HM.out; omega
     case rel => exact ⟨m + 1, by first | rfl | (simp; done) | go_num, ⟨by have := of_eq_true q1; omega⟩, ⟨by have := of_eq_true q1; omega⟩, HT, ⟨ag HB.out hb⟩⟩
  · have q1 : ¬ (m : Int) < (l0.length : Int) := by omega
    have c1b : decide ((m : Int) < (l0.length : Int)) = false := ao q1
    have c1c : decide (m < l0.length) = false := ao c1
    have H3 : Aside0 (l0.any p = false) := ⟨by
     have e_ := HA.out
     rw [List.take_of_length_le (show l0.length ≤ m by omega)] at e_
     exact e_⟩
    clear HA c1 q1
    go_wp2
    go_ret
    exact ⟨⟨-1, rfl, by rw [H3.out]; simp⟩, HB.out⟩
set_option maxRecDepth 100000 in
set_option maxHeartbeats 2000000 in
theorem tG (g : Nat) (lb : Array Value) (eg : ∀ (args : Array Value) (w : World), (callFunc g args).run Tryz.prog w = .ok (.enter g args) w) (p : S63 → Bool) (A0 : Option Addr) (c0 : Nat) (l0 : List S63) (w : World) (hr0 : Kd.C k63 w A0 l0.length l0)
  (hp : kT g lb (fun x : S63 => Value.agg #[.int .i64 x.f0, .int .i64 x.f1]) p l0 w) :
  Calls Tryz.prog 85 #[.slice A0 l0.length c0, .func (.func g) #[] lb] w fun e w' => e = .returned (.bool (l0.any p)) ∧ Below w.heap.size w w' := by
 have HR0 := Aside0.mk hr0
 have HP := Aside0.mk hp
 clear hr0 hp
 go_enter Tryz.func85, Tryz.ntmps85
 go_wp2_with (go_at_call 105; refine (sg g lb eg p A0 c0 l0 w HR0.out HP.out).mono ?_; rintro e w' ⟨⟨r, rfl, hr⟩, hb⟩; have HQ := Aside0.mk hr; have HB := Aside0.mk hb; clear hr hb)
 go_ret
 refine ⟨?_, HB.out⟩
 have := HQ.out
 cases ha : l0.any p <;> rw [ha] at this <;> simp at this <;> simp <;> omega
def eM (a1 : Int) (s : S63) : Bool := (bU a1 s.f0).getD false && (bU a1 s.f1).getD false
def fo (a0_0 : Int) (l0_1 : List S63) (a1 : Int) : Option Bool :=
 if l0_1.all (fun s => (bU a1 s.f0).isSome && (bU a1 s.f1).isSome) then some (!(l0_1.any (eM a1))) else none
set_option maxHeartbeats 1000000 in
theorem rz (gb : Nat) (a1 : Int) (s : S63) (x y : Bool) (hx : bU a1 s.f0 = some x) (hy : bU a1 s.f1 = some y) (W : World) (hl : W.cell? ⟨gb, 0, none⟩ = some (.int .u64 a1)) :
  Calls Tryz.prog 86 (#[.agg #[.int .i64 s.f0, .int .i64 s.f1]] ++ #[.pointer (some ⟨gb, 0, none⟩)]) W fun e w' => e = .returned (.bool (x && y)) ∧ Below W.heap.size W w' := by
 have HX := Aside0.mk hx
 have HY := Aside0.mk hy
 clear hx hy
 show Calls Tryz.prog 86 #[.agg #[.int .i64 s.f0, .int .i64 s.f1], .pointer (some ⟨gb, 0, none⟩)] W _
 have hl2 := fun o : Obj => bM (bC (Below.refl W.heap.size W) o) hl
 go_enter Tryz.func86, Tryz.ntmps86
 go_wp2_with fail
 go_at_call 38
 refine (jr _ _ x _ HX.out).mono ?_
 rintro e w' ⟨rfl, ⟨n1, rfl⟩⟩
 cases x with
 | true =>
  go_wp2_with fail
  go_at_call 38
  refine (jr _ _ y _ HY.out).mono ?_
  rintro e w' ⟨rfl, ⟨n2, rfl⟩⟩
  go_wp2
  go_ret
  exact ⟨by first | rfl | (simp; done), by repeat (first | exact Below.refl _ _ | apply bC | apply cE | apply aD)⟩
 | false =>
  go_wp2
  go_ret
  exact ⟨by first | rfl | (simp; done), by repeat (first | exact Below.refl _ _ | apply bC | apply cE | apply aD)⟩
set_option maxHeartbeats 1000000 in
theorem ni (a0_0 : Int) (A0_1 : Option Addr) (c0_1 : Nat) (l0_1 : List (S63)) (a1 : Int) (r : Bool) (w : World) (hr0_1 : Kd.C k63 w A0_1 l0_1.length l0_1) (hc0_1 : l0_1.length ≤ c0_1) (h : fo a0_0 l0_1 a1 = some r) :
  Calls Tryz.prog 69 #[.agg #[.int .i64 a0_0, .slice A0_1 l0_1.length c0_1], .int .u64 a1] w fun e w' => e = .returned (.bool r) ∧ Below w.heap.size w w' := by
 unfold fo at h
 by_cases hall : l0_1.all (fun s => (bU a1 s.f0).isSome && (bU a1 s.f1).isSome) = true
 case neg => rw [if_neg hall] at h; cases h
 rw [if_pos hall] at h
 obtain rfl := ap h
 have HP := fun (W : World) (gb : Nat) (hl : W.cell? ⟨gb, 0, none⟩ = some (.int .u64 a1)) =>
  Aside0.mk (show kT 86 #[.pointer (some ⟨gb, 0, none⟩)] (fun x : S63 => Value.agg #[.int .i64 x.f0, .int .i64 x.f1]) (eM a1) l0_1 W from fun W' x hx hb => by
   have hs := List.all_eq_true.1 hall x hx
   rw [Bool.and_eq_true] at hs
   obtain ⟨b1, h1⟩ := Option.isSome_iff_exists.1 hs.1
   obtain ⟨b2, h2⟩ := Option.isSome_iff_exists.1 hs.2
   have := rz gb a1 x b1 b2 h1 h2 W' (bM hb hl)
   unfold eM
   rw [h1, h2]
   exact this)
 have HR0 := Aside0.mk hr0_1
 clear hr0_1 hall h
 generalize hg : l0_1.any (eM a1) = b
 have HG := Aside0.mk hg
 clear hg
 have HB1 := Aside0.mk (bC (bC (Below.refl w.heap.size w) (.cells #[.int .i64 a0_0, .slice A0_1 l0_1.length c0_1] 29)) (.cells #[.int .u64 a1] 52))
 go_enter Tryz.func69, Tryz.ntmps69
 go_wp2_with fail
 go_at_call 85
 refine (tG _ _ (enters_of Tryz.func86 (by kernel_rfl) rfl) _ A0_1 c0_1 l0_1 _ (Kd.C_below HR0.out HB1.out) (HP _ _ (by go_simp)).out).mono ?_
 rintro e w' ⟨rfl, hb⟩
 rw [HG.out]
 have HB := Aside0.mk (ag HB1.out hb)
 clear hb
 go_wp2
 go_ret
 exact ⟨by first | rfl | (simp; done), HB.out⟩
end Go.Proofs.YtjgcehldepfaaaaGreat.P
namespace Go.Proofs
open Go.Shelf
def Tryz.lays215_ren : Go.Shelf.Ren := ⟨fun | 215 => 109 | n => n, fun | 3 => 3 | 4 => 4 | n => n, fun | n => n⟩
theorem Tryz.lays215 : Go.Proofs.Lays.n215 Tryz.prog Tryz.lays215_ren := {
 mixed := by kernel_rfl
 f215 := Tryz.func109.trans (congrArg some (by kernel_rfl))
 t3 := Tryz.underlying3
 a3 := Tryz.isAgg3
 z3 := Tryz.sizeOf3
 v3 := Tryz.zeroValue3
 t4 := Tryz.underlying4
 a4 := Tryz.isAgg4
 z4 := Tryz.sizeOf4
 v4 := Tryz.zeroValue4 }
open Go.RowKit in
theorem Tryz.cmp_isNaN_int (x : Int) (w : World) :
 Calls Tryz.prog 109 #[.int .i64 x] w fun e w' => e = .returned (.bool false) ∧ w' = w := Any.cmp_isNaN_int Tryz.lays215 x w
def Tryz.lays122_ren : Go.Shelf.Ren := ⟨fun | 122 => 90 | 215 => 109 | n => n, fun | 3 => 3 | 4 => 4 | n => n, fun | n => n⟩
theorem Tryz.lays122 : Go.Proofs.Lays.n122 Tryz.prog Tryz.lays122_ren := {
 mixed := by kernel_rfl
 f122 := Tryz.func90.trans (congrArg some (by kernel_rfl))
 f215 := Tryz.func109.trans (congrArg some (by kernel_rfl))
 t3 := Tryz.underlying3
 a3 := Tryz.isAgg3
 z3 := Tryz.sizeOf3
 v3 := Tryz.zeroValue3
 t4 := Tryz.underlying4
 a4 := Tryz.isAgg4
 z4 := Tryz.sizeOf4
 v4 := Tryz.zeroValue4 }
open Go.RowKit in
theorem Tryz.cmp_Compare_int (x y : Int) (w : World) :
 Calls Tryz.prog 90 #[.int .i64 x, .int .i64 y] w fun e w' => e = .returned (.int .i64 (Lib.compareInt x y)) ∧ w' = w := Any.cmp_Compare_int Tryz.lays122 x y w
def Tryz.lays189_ren : Go.Shelf.Ren := ⟨fun | 189 => 60 | 125 => 79 | 257 => 78 | 128 => 102 | 129 => 103 | 294 => 93 | 295 => 94 | 296 => 95 | 297 => 96 | 298 => 97 | 299 => 98 | 216 => 99 | 300 => 100 | 301 => 101 | 328 => 112 | 329 => 113 | 330 => 114 | 331 => 115 | 332 => 116 | 215 => 109 | 343 => 126 | n => n, fun | 28 => 25 | 3 => 3 | 46 => 51 | 0 => 0 | 51 => 96 | 53 => 98 | 4 => 4 | 183 => 113 | 182 => 112 | 131 => 70 | 5 => 5 | 9 => 9 | 218 => 125 | 222 => 129 | 228 => 137 | 229 => 138 | n => n, fun | n => n⟩
theorem Tryz.lays189 : Go.Proofs.Lays.n189 Tryz.prog Tryz.lays189_ren := {
 mixed := by kernel_rfl
 f125 := Tryz.func79.trans (congrArg some (by kernel_rfl))
 f128 := Tryz.func102.trans (congrArg some (by kernel_rfl))
 f129 := Tryz.func103.trans (congrArg some (by kernel_rfl))
 f189 := Tryz.func60.trans (congrArg some (by kernel_rfl))
 f215 := Tryz.func109.trans (congrArg some (by kernel_rfl))
 f216 := Tryz.func99.trans (congrArg some (by kernel_rfl))
 f257 := Tryz.func78.trans (congrArg some (by kernel_rfl))
 f294 := Tryz.func93.trans (congrArg some (by kernel_rfl))
 f295 := Tryz.func94.trans (congrArg some (by kernel_rfl))
 f296 := Tryz.func95.trans (congrArg some (by kernel_rfl))
 f297 := Tryz.func96.trans (congrArg some (by kernel_rfl))
 f298 := Tryz.func97.trans (congrArg some (by kernel_rfl))
 f299 := Tryz.func98.trans (congrArg some (by kernel_rfl))
 f300 := Tryz.func100.trans (congrArg some (by kernel_rfl))
 f301 := Tryz.func101.trans (congrArg some (by kernel_rfl))
 f328 := Tryz.func112.trans (congrArg some (by kernel_rfl))
 f329 := Tryz.func113.trans (congrArg some (by kernel_rfl))
 f330 := Tryz.func114.trans (congrArg some (by kernel_rfl))
 f331 := Tryz.func115.trans (congrArg some (by kernel_rfl))
 f332 := Tryz.func116.trans (congrArg some (by kernel_rfl))
 f343 := Tryz.func126.trans (congrArg some (by kernel_rfl))
 t0 := Tryz.underlying0
 a0 := Tryz.isAgg0
 z0 := Tryz.sizeOf0
 v0 := Tryz.zeroValue0
 t3 := Tryz.underlying3
 a3 := Tryz.isAgg3
 z3 := Tryz.sizeOf3
 v3 := Tryz.zeroValue3
 t4 := Tryz.underlying4
 a4 := Tryz.isAgg4
 z4 := Tryz.sizeOf4
 v4 := Tryz.zeroValue4
 t5 := Tryz.underlying5
 a5 := Tryz.isAgg5
 z5 := Tryz.sizeOf5
 v5 := Tryz.zeroValue5
 t9 := Tryz.underlying9
 a9 := Tryz.isAgg9
 z9 := Tryz.sizeOf9
 v9 := Tryz.zeroValue9
 t28 := Tryz.underlying25
 a28 := Tryz.isAgg25
 z28 := Tryz.sizeOf25
 v28 := Tryz.zeroValue25
 t46 := Tryz.underlying51
 a46 := Tryz.isAgg51
 z46 := Tryz.sizeOf51
 v46 := Tryz.zeroValue51
 t51 := Tryz.underlying96
 a51 := Tryz.isAgg96
 z51 := Tryz.sizeOf96
 v51 := Tryz.zeroValue96
 t53 := Tryz.underlying98
 a53 := Tryz.isAgg98
 z53 := Tryz.sizeOf98
 v53 := Tryz.zeroValue98
 t131 := Tryz.underlying70
 a131 := Tryz.isAgg70
 z131 := Tryz.sizeOf70
 v131 := Tryz.zeroValue70
 t182 := Tryz.underlying112
 a182 := Tryz.isAgg112
 z182 := Tryz.sizeOf112
 v182 := Tryz.zeroValue112
 t183 := Tryz.underlying113
 a183 := Tryz.isAgg113
 z183 := Tryz.sizeOf113
 v183 := Tryz.zeroValue113
 t218 := Tryz.underlying125
 a218 := Tryz.isAgg125
 z218 := Tryz.sizeOf125
 v218 := Tryz.zeroValue125
 t222 := Tryz.underlying129
 a222 := Tryz.isAgg129
 z222 := Tryz.sizeOf129
 v222 := Tryz.zeroValue129
 t228 := Tryz.underlying137
 a228 := Tryz.isAgg137
 z228 := Tryz.sizeOf137
 v228 := Tryz.zeroValue137
 t229 := Tryz.underlying138
 a229 := Tryz.isAgg138
 z229 := Tryz.sizeOf138
 v229 := Tryz.zeroValue138 }
open Go.Sort Go.RowKit in
theorem Tryz.slices_Sort_int (blk off cap : Nat) (zs : List Int) (w : World) (hH : Holds (Value.int .i64) w blk off zs.toArray) (hblk : blk < w.heap.size) (hsz : zs.length < 4611686018427387904) :
 Calls Tryz.prog 60 #[.slice (some ⟨blk, off, none⟩) zs.length cap] w fun e w' =>
  e = .returned (.tuple #[]) ∧ ∃ n os, w' = grow (putRow (Value.int .i64) (Sort.ahead w n) blk off (zs.mergeSort fun x y => decide (x ≤ y)).toArray) os := Any.slices_Sort_int Tryz.lays189 blk off cap zs w hH hblk hsz
def Tryz.lays212_ren : Go.Shelf.Ren := ⟨fun | 212 => 91 | 263 => 110 | 264 => 111 | n => n, fun | 46 => 51 | 51 => 96 | 146 => 121 | 53 => 98 | 148 => 123 | n => n, fun | n => n⟩
theorem Tryz.lays212 : Go.Proofs.Lays.n212 Tryz.prog Tryz.lays212_ren := {
 mixed := by kernel_rfl
 f212 := Tryz.func91.trans (congrArg some (by kernel_rfl))
 f263 := Tryz.func110.trans (congrArg some (by kernel_rfl))
 f264 := Tryz.func111.trans (congrArg some (by kernel_rfl))
 t46 := Tryz.underlying51
 a46 := Tryz.isAgg51
 z46 := Tryz.sizeOf51
 v46 := Tryz.zeroValue51
 t51 := Tryz.underlying96
 a51 := Tryz.isAgg96
 z51 := Tryz.sizeOf96
 v51 := Tryz.zeroValue96
 t53 := Tryz.underlying98
 a53 := Tryz.isAgg98
 z53 := Tryz.sizeOf98
 v53 := Tryz.zeroValue98
 t146 := Tryz.underlying121
 a146 := Tryz.isAgg121
 z146 := Tryz.sizeOf121
 v146 := Tryz.zeroValue121
 t148 := Tryz.underlying123
 a148 := Tryz.isAgg123
 z148 := Tryz.sizeOf123
 v148 := Tryz.zeroValue123 }
open Go.RowKit Go.Lib in
theorem Tryz.bits_Mul (x y : Nat) (hx : x < 18446744073709551616) (hy : y < 18446744073709551616) (w : World) :
 Calls Tryz.prog 91 #[.int .u64 x, .int .u64 y] w fun e w' => e = .returned (.tuple #[.int .u64 ((x * y / 18446744073709551616 : Nat) : Int), .int .u64 ((x * y % 18446744073709551616 : Nat) : Int)]) ∧ w' = w := Any.bits_Mul Tryz.lays212 x y hx hy w
open Go.RowKit Go.Sort in
theorem Tryz.slices_Sort_int_none (p : Option Addr) (cap : Nat) (w : World) :
 Calls Tryz.prog 60 #[.slice p 0 cap] w fun e w' => e = .returned (.tuple #[]) ∧ w' = w := Any.slices_Sort_int_none Tryz.lays189 p cap w
def Tryz.laysSlF6_f88_ren : Go.Shelf.Ren := ⟨fun | 6 => 88 | 15 => 79 | 14 => 108 | 28 => 102 | 29 => 103 | 20 => 118 | 21 => 119 | 22 => 120 | 23 => 121 | 24 => 122 | 25 => 123 | 26 => 124 | 27 => 125 | 46 => 127 | 47 => 113 | 48 => 114 | 49 => 128 | 50 => 129 | 57 => 130 | n => n, fun | 22 => 48 | 24 => 25 | 25 => 91 | 3 => 3 | 39 => 51 | 0 => 0 | 53 => 96 | 55 => 98 | 4 => 4 | 46 => 113 | 45 => 112 | 50 => 70 | 5 => 5 | 9 => 9 | 66 => 125 | 70 => 129 | 76 => 137 | 77 => 138 | n => n, fun | n => n⟩
theorem Tryz.laysSlF6_f88 : Go.Proofs.SlLaysF.n6 Tryz.prog Tryz.laysSlF6_f88_ren := {
 mixed := by kernel_rfl
 f6 := ⟨Tryz.f88.name, by decide, Tryz.func88.trans (congrArg some (by kernel_rfl))⟩
 f14 := ⟨Tryz.f108.name, by decide, Tryz.func108.trans (congrArg some (by kernel_rfl))⟩
 f15 := Tryz.func79.trans (congrArg some (by kernel_rfl))
 f20 := ⟨Tryz.f118.name, by decide, Tryz.func118.trans (congrArg some (by kernel_rfl))⟩
 f21 := ⟨Tryz.f119.name, by decide, Tryz.func119.trans (congrArg some (by kernel_rfl))⟩
 f22 := ⟨Tryz.f120.name, by decide, Tryz.func120.trans (congrArg some (by kernel_rfl))⟩
 f23 := ⟨Tryz.f121.name, by decide, Tryz.func121.trans (congrArg some (by kernel_rfl))⟩
 f24 := ⟨Tryz.f122.name, by decide, Tryz.func122.trans (congrArg some (by kernel_rfl))⟩
 f25 := ⟨Tryz.f123.name, by decide, Tryz.func123.trans (congrArg some (by kernel_rfl))⟩
 f26 := ⟨Tryz.f124.name, by decide, Tryz.func124.trans (congrArg some (by kernel_rfl))⟩
 f27 := ⟨Tryz.f125.name, by decide, Tryz.func125.trans (congrArg some (by kernel_rfl))⟩
 f28 := Tryz.func102.trans (congrArg some (by kernel_rfl))
 f29 := Tryz.func103.trans (congrArg some (by kernel_rfl))
 f46 := ⟨Tryz.f127.name, by decide, Tryz.func127.trans (congrArg some (by kernel_rfl))⟩
 f47 := Tryz.func113.trans (congrArg some (by kernel_rfl))
 f48 := Tryz.func114.trans (congrArg some (by kernel_rfl))
 f49 := ⟨Tryz.f128.name, by decide, Tryz.func128.trans (congrArg some (by kernel_rfl))⟩
 f50 := ⟨Tryz.f129.name, by decide, Tryz.func129.trans (congrArg some (by kernel_rfl))⟩
 f57 := ⟨Tryz.f130.name, by decide, Tryz.func130.trans (congrArg some (by kernel_rfl))⟩
 t0 := Tryz.underlying0
 a0 := Tryz.isAgg0
 z0 := Tryz.sizeOf0
 v0 := Tryz.zeroValue0
 t3 := Tryz.underlying3
 a3 := Tryz.isAgg3
 z3 := Tryz.sizeOf3
 v3 := Tryz.zeroValue3
 t4 := Tryz.underlying4
 a4 := Tryz.isAgg4
 z4 := Tryz.sizeOf4
 v4 := Tryz.zeroValue4
 t5 := Tryz.underlying5
 a5 := Tryz.isAgg5
 z5 := Tryz.sizeOf5
 v5 := Tryz.zeroValue5
 t9 := Tryz.underlying9
 a9 := Tryz.isAgg9
 z9 := Tryz.sizeOf9
 v9 := Tryz.zeroValue9
 t22 := Tryz.underlying48
 a22 := Tryz.isAgg48
 z22 := Tryz.sizeOf48
 v22 := Tryz.zeroValue48
 a24 := Tryz.isAgg25
 z24 := Tryz.sizeOf25
 t25 := Tryz.underlying91
 a25 := Tryz.isAgg91
 z25 := Tryz.sizeOf91
 v25 := Tryz.zeroValue91
 t39 := Tryz.underlying51
 a39 := Tryz.isAgg51
 z39 := Tryz.sizeOf51
 v39 := Tryz.zeroValue51
 t45 := Tryz.underlying112
 a45 := Tryz.isAgg112
 z45 := Tryz.sizeOf112
 v45 := Tryz.zeroValue112
 t46 := Tryz.underlying113
 a46 := Tryz.isAgg113
 z46 := Tryz.sizeOf113
 v46 := Tryz.zeroValue113
 t50 := Tryz.underlying70
 a50 := Tryz.isAgg70
 z50 := Tryz.sizeOf70
 v50 := Tryz.zeroValue70
 t53 := Tryz.underlying96
 a53 := Tryz.isAgg96
 z53 := Tryz.sizeOf96
 v53 := Tryz.zeroValue96
 t55 := Tryz.underlying98
 a55 := Tryz.isAgg98
 z55 := Tryz.sizeOf98
 v55 := Tryz.zeroValue98
 t66 := Tryz.underlying125
 a66 := Tryz.isAgg125
 z66 := Tryz.sizeOf125
 v66 := Tryz.zeroValue125
 t70 := Tryz.underlying129
 a70 := Tryz.isAgg129
 z70 := Tryz.sizeOf129
 v70 := Tryz.zeroValue129
 t76 := Tryz.underlying137
 a76 := Tryz.isAgg137
 z76 := Tryz.sizeOf137
 v76 := Tryz.zeroValue137
 t77 := Tryz.underlying138
 a77 := Tryz.isAgg138
 z77 := Tryz.sizeOf138
 v77 := Tryz.zeroValue138 }
open Go.RowKit Go.Lib Go.Sort in
theorem Tryz.slices_SortFunc {α : Type} [Inhabited α] (enc : α → Value) (h1 : OneCell enc) (cf : α → α → Int) (hO : SWO (ltOf cf)) (g : Nat) (cb : Array Value) (blk off cap : Nat) (d : Array α) (w : World) (eg : ∀ args w, (callFunc g args).run Tryz.prog w = .ok (.enter g args) w) (hcmp : CmpLays1 Tryz.prog g cb enc cf blk off d.size w) (hH : Holds enc w blk off d) (hblk : blk < w.heap.size) (hsz : d.size < 4611686018427387904) :
 Calls Tryz.prog 88 #[.slice (some ⟨blk, off, none⟩) d.size cap, .func (.func g) #[] cb] w fun e w' =>
  e = .returned (.tuple #[]) ∧ ∃ d' n os, PermIn 0 d.size d d' ∧ SortedIn (ltOf cf) 0 d.size d' ∧ w' = sortWorld enc w blk off n d' os := Any.slices_SortFunc Tryz.laysSlF6_f88 enc h1 cf hO g cb blk off cap d w eg hcmp hH hblk hsz
def Tryz.laysSlF06_f88_ren : Go.Shelf.Ren := ⟨fun | 6 => 88 | 15 => 79 | 14 => 108 | 28 => 102 | 29 => 103 | 20 => 118 | 21 => 119 | 22 => 120 | 23 => 121 | 24 => 122 | 25 => 123 | 26 => 124 | 27 => 125 | 46 => 127 | 47 => 113 | 48 => 114 | 49 => 128 | 50 => 129 | 57 => 130 | n => n, fun | 22 => 48 | 24 => 25 | 25 => 91 | 3 => 3 | 39 => 51 | 0 => 0 | 53 => 96 | 55 => 98 | 4 => 4 | 46 => 113 | 45 => 112 | 50 => 70 | 5 => 5 | 9 => 9 | 66 => 125 | 70 => 129 | 76 => 137 | 77 => 138 | n => n, fun | n => n⟩
theorem Tryz.laysSlF06_f88 : Go.Proofs.SlLaysF0.n6 Tryz.prog Tryz.laysSlF06_f88_ren := {
 mixed := by kernel_rfl
 f6 := ⟨Tryz.f88.name, by decide, Tryz.func88.trans (congrArg some (by kernel_rfl))⟩
 f14 := ⟨Tryz.f108.name, by decide, Tryz.func108.trans (congrArg some (by kernel_rfl))⟩
 f15 := Tryz.func79.trans (congrArg some (by kernel_rfl))
 f20 := ⟨Tryz.f118.name, by decide, Tryz.func118.trans (congrArg some (by kernel_rfl))⟩
 f21 := ⟨Tryz.f119.name, by decide, Tryz.func119.trans (congrArg some (by kernel_rfl))⟩
 f22 := ⟨Tryz.f120.name, by decide, Tryz.func120.trans (congrArg some (by kernel_rfl))⟩
 f23 := ⟨Tryz.f121.name, by decide, Tryz.func121.trans (congrArg some (by kernel_rfl))⟩
 f24 := ⟨Tryz.f122.name, by decide, Tryz.func122.trans (congrArg some (by kernel_rfl))⟩
 f25 := ⟨Tryz.f123.name, by decide, Tryz.func123.trans (congrArg some (by kernel_rfl))⟩
 f26 := ⟨Tryz.f124.name, by decide, Tryz.func124.trans (congrArg some (by kernel_rfl))⟩
 f27 := ⟨Tryz.f125.name, by decide, Tryz.func125.trans (congrArg some (by kernel_rfl))⟩
 f28 := Tryz.func102.trans (congrArg some (by kernel_rfl))
 f29 := Tryz.func103.trans (congrArg some (by kernel_rfl))
 f46 := ⟨Tryz.f127.name, by decide, Tryz.func127.trans (congrArg some (by kernel_rfl))⟩
 f47 := Tryz.func113.trans (congrArg some (by kernel_rfl))
 f48 := Tryz.func114.trans (congrArg some (by kernel_rfl))
 f49 := ⟨Tryz.f128.name, by decide, Tryz.func128.trans (congrArg some (by kernel_rfl))⟩
 f50 := ⟨Tryz.f129.name, by decide, Tryz.func129.trans (congrArg some (by kernel_rfl))⟩
 f57 := ⟨Tryz.f130.name, by decide, Tryz.func130.trans (congrArg some (by kernel_rfl))⟩
 t0 := Tryz.underlying0
 a0 := Tryz.isAgg0
 z0 := Tryz.sizeOf0
 v0 := Tryz.zeroValue0
 t3 := Tryz.underlying3
 a3 := Tryz.isAgg3
 z3 := Tryz.sizeOf3
 v3 := Tryz.zeroValue3
 t4 := Tryz.underlying4
 a4 := Tryz.isAgg4
 z4 := Tryz.sizeOf4
 v4 := Tryz.zeroValue4
 t5 := Tryz.underlying5
 a5 := Tryz.isAgg5
 z5 := Tryz.sizeOf5
 v5 := Tryz.zeroValue5
 t9 := Tryz.underlying9
 a9 := Tryz.isAgg9
 z9 := Tryz.sizeOf9
 v9 := Tryz.zeroValue9
 t22 := Tryz.underlying48
 a22 := Tryz.isAgg48
 z22 := Tryz.sizeOf48
 v22 := Tryz.zeroValue48
 t25 := Tryz.underlying91
 a25 := Tryz.isAgg91
 z25 := Tryz.sizeOf91
 v25 := Tryz.zeroValue91
 t39 := Tryz.underlying51
 a39 := Tryz.isAgg51
 z39 := Tryz.sizeOf51
 v39 := Tryz.zeroValue51
 t45 := Tryz.underlying112
 a45 := Tryz.isAgg112
 z45 := Tryz.sizeOf112
 v45 := Tryz.zeroValue112
 t46 := Tryz.underlying113
 a46 := Tryz.isAgg113
 z46 := Tryz.sizeOf113
 v46 := Tryz.zeroValue113
 t50 := Tryz.underlying70
 a50 := Tryz.isAgg70
 z50 := Tryz.sizeOf70
 v50 := Tryz.zeroValue70
 t53 := Tryz.underlying96
 a53 := Tryz.isAgg96
 z53 := Tryz.sizeOf96
 v53 := Tryz.zeroValue96
 t55 := Tryz.underlying98
 a55 := Tryz.isAgg98
 z55 := Tryz.sizeOf98
 v55 := Tryz.zeroValue98
 t66 := Tryz.underlying125
 a66 := Tryz.isAgg125
 z66 := Tryz.sizeOf125
 v66 := Tryz.zeroValue125
 t70 := Tryz.underlying129
 a70 := Tryz.isAgg129
 z70 := Tryz.sizeOf129
 v70 := Tryz.zeroValue129
 t76 := Tryz.underlying137
 a76 := Tryz.isAgg137
 z76 := Tryz.sizeOf137
 v76 := Tryz.zeroValue137
 t77 := Tryz.underlying138
 a77 := Tryz.isAgg138
 z77 := Tryz.sizeOf138
 v77 := Tryz.zeroValue138 }
open Go.RowKit Go.Lib Go.Sort in
theorem Tryz.slices_SortFunc_none {α : Type} [Inhabited α] (p : Option Addr) (cap : Nat) (fv : Value) (w : World) :
 Calls Tryz.prog 88 #[.slice p 0 cap, fv] w fun e w' => e = .returned (.tuple #[]) ∧ w' = w := AnyF.slices_SortFunc_none Tryz.laysSlF06_f88 p cap fv w
end Go.Proofs
namespace Go.Proofs.YtjgcehldepfaaaaGreat.P
open Go.RowKit YtjgcehldepfaaaaGreatW.PrintWords YtjgcehldepfaaaaGreatW.PrintLast YtjgcehldepfaaaaGreatW.PrintMore
set_option linter.unusedVariables false
set_option linter.unusedSimpArgs false
set_option maxRecDepth 100000 in
theorem pV {W : World} {base g n cap m : Nat} {x : Int} (HO : Kd.R (Kd.int .i64) 3 W base (fun _ => True) (.slice (some ⟨g, 0, none⟩) n cap) (List.replicate m x ++ List.replicate (n - m) 0)) (hm : m ≤ n) (ty : TypeId) (sCap dCap : Nat) :
   (Builtin.copy_ #[25, 25] ty #[.slice (some ⟨g, m, none⟩) (n - m) dCap, .slice (some ⟨g, 0, none⟩) m sCap]).run Tryz.prog W = .ok (.int .i64 ((min m (n - m) : Nat) : Int)) (W.setCells g m (List.replicate (min m (n - m)) (Value.int .i64 x))) ∧
   Kd.R (Kd.int .i64) 3 (W.setCells g m (List.replicate (min m (n - m)) (Value.int .i64 x))) base (fun _ => True) (.slice (some ⟨g, 0, none⟩) n cap) (List.replicate (m + min m (n - m)) x ++ List.replicate (n - (m + min m (n - m))) 0) ∧
   W.grownBy (W.setCells g m (List.replicate (min m (n - m)) (Value.int .i64 x))) (some g) := by
 have hown := Kd.own_of_R (enc := Value.int .i64) HO
 have hln : (List.replicate m x ++ List.replicate (n - m) (0 : Int)).length = n := by rw [List.length_append, List.length_replicate, List.length_replicate]; omega
 rcases hown.2 with ⟨h0, _⟩ | ⟨g', cap', cur, hv, hbase, hh, h1, h2, h3, h4⟩
 · cases h0
 injection hv with e1 e2 e3
 injection e1 with e1
 injection e1 with e1 _
 subst e1; subst e3
 rw [hln] at h1 h4
 rw [Nat.mul_one] at h3 h4
 have hget : ∀ j, j < m → W.cell? ⟨g, j, none⟩ = some (Value.int .i64 x) := fun j hj => by
   have e5 : (cur.toList.take n)[j]? = some (Value.int .i64 x) := by
     rw [h4]
     simp [aU, List.getElem?_append_left, hj]
   rw [List.getElem?_take_of_lt (by omega), Array.getElem?_toList] at e5
   simp [World.cell?, hh, e5]
 have hr := run_copy_cells (P := Tryz.prog) W 25 25 ty 3 g m (n - m) dCap ⟨g, 0, none⟩ m sCap (List.replicate (min m (n - m)) (Value.int .i64 x)) Tryz.underlying25 (by kernel_rfl) (List.length_replicate ..)
   (fun j v hj => by
     rw [List.getElem?_replicate] at hj
     by_cases c : j < min m (n - m)
     · rw [if_pos c] at hj
       rw [← hj, ca]
       exact hget j (by omega)
     · rw [if_neg c] at hj; cases hj)
   (fun j hj => by
     rw [List.length_replicate] at hj
     have : m + j < cur.size := by omega
     simp [World.cell?, hh, this])
   (fun j _ => ae hh _) (fun v hv => by rw [(List.mem_replicate.1 hv).2]; rfl)
 obtain ⟨cur', k1, k2, k3⟩ := gu (List.replicate (min m (n - m)) (Value.int .i64 x)) m W cur hh (by rw [List.length_replicate]; omega)
 obtain ⟨s1, s2, s3, s4⟩ := gr g (List.replicate (min m (n - m)) (Value.int .i64 x)) m W
 refine ⟨by rw [hr, List.length_replicate]; rfl, Kd.R_of_own (enc := Value.int .i64) ?_ (fun _ _ => trivial), ⟨s1, s2, s3, by rw [s4]; exact ar _, fun k _ hk => fd _ _ k (fun he => hk (by rw [he]))⟩⟩
 have hln2 : (List.replicate (m + min m (n - m)) x ++ List.replicate (n - (m + min m (n - m))) (0 : Int)).length = n := by rw [List.length_append, List.length_replicate, List.length_replicate]; omega
 rw [hln2]
 refine ⟨by rw [fT, hln2, Nat.mul_one], .inr ⟨g, cap, cur', rfl, hbase, k1, h1, h2, by rw [k2, h3, Nat.mul_one], ?_⟩⟩
 rw [k3, Nat.mul_one, List.length_replicate]
 have ht : cur.toList.take n = List.replicate m (Value.int .i64 x) ++ List.replicate (n - m) (Value.int .i64 0) := by rw [h4]; simp [aU]
 have hcl : cur.toList.length = cap := by rw [Array.length_toList]; exact h3
 apply List.ext_getElem?
 intro j
 have hj0 : ∀ j, j < n → cur.toList[j]? = (List.replicate m (Value.int .i64 x) ++ List.replicate (n - m) (Value.int .i64 0))[j]? := fun j hj => by rw [← ht, List.getElem?_take_of_lt hj]
 by_cases cj : j < n
 · rw [List.getElem?_take_of_lt cj, List.append_assoc]
   by_cases c1 : j < m
   · rw [List.getElem?_append_left (by rw [List.length_take]; omega), List.getElem?_take_of_lt c1, hj0 j cj]
     simp [aU, List.getElem?_append, List.getElem?_replicate, c1, show j < m + min m (n - m) by omega]
   · rw [List.getElem?_append_right (by rw [List.length_take]; omega), List.length_take, show min m cur.toList.length = m by omega]
     by_cases c2 : j < m + min m (n - m)
     · rw [List.getElem?_append_left (by rw [List.length_replicate]; omega)]
       simp [aU, List.getElem?_append, List.getElem?_replicate, c2, show j - m < min m (n - m) by omega]
     · rw [List.getElem?_append_right (by rw [List.length_replicate]; omega), List.length_replicate, List.getElem?_drop, show m + min m (n - m) + (j - m - min m (n - m)) = j by omega, hj0 j cj]
       simp [aU, List.getElem?_append, List.getElem?_replicate, c1, c2, show j - m < n - m by omega]
       omega
 · rw [List.getElem?_take_eq_none (by omega), List.getElem?_eq_none (by rw [fT, hln2]; omega)]
set_option maxRecDepth 100000 in
set_option maxHeartbeats 2000000 in
theorem pW (A0 : Option Addr) (c0 : Nat) (x : Int) (n : Nat) (hn : n ≤ 1048576) (w : World) (hr0 : Kd.C (Kd.int .i64) w A0 1 [x]) (hc0 : 1 ≤ c0) :
  Calls Tryz.prog 75 #[.slice A0 1 c0, .int .i64 (n : Int)] w fun e w' => ∃ v0_ : Value, e = .returned (v0_) ∧ Kd.R (Kd.int .i64) 3 w' w.heap.size (fun _ => True) v0_ (List.replicate n x) ∧ Below w.heap.size w w' := by
 have HR := Aside0.mk hr0
 have HC := Aside0.mk hc0
 clear hr0 hc0
 have hneg : decide ((n : Int) < 0) = false := ao (by omega)
 have hgt : decide ((n : Int) > 9223372036854775807) = false := ao (by omega)
 have hgt2 : decide (9223372036854775807 < (n : Int)) = false := ao (by omega)
 have HN := Aside0.mk hn
 have hinf : (Tryz.prog.info? 3).map (·.size) = some 1 := by kernel_rfl
 have HB := zM (Below.refl w.heap.size w)
 have hmul := Tryz.bits_Mul 1 n (by decide) (by omega) w
 rw [Nat.one_mul, Nat.div_eq_of_lt (by omega), Nat.mod_eq_of_lt (by omega), show ((1 : Nat) : Int) = 1 from rfl, show ((0 : Nat) : Int) = 0 from rfl] at hmul
 have HM := Aside0.mk hmul
 clear hmul
 go_enter Tryz.func75, Tryz.ntmps75
 go_wp2_with (first
  | (go_at_call 91; refine HM.out.mono ?_; rintro e w' ⟨rfl, hw⟩; replace hw := hw.symm; subst hw)
  | ((with_reducible refine au (N := 30) rfl ?_); refine Kd.R_make (Kd.int .i64) _ 3 rfl (N := 30) rfl 25 _ _ rfl (n : Int) rfl rfl Tryz.underlying25 (.int .i64 0) 8 bv rfl (by decide) (by omega) 0 (ok := fun _ => True) (okp := fun _ => True) rfl (fun _ hk => hk) trivial (by omega) (by rw [Int.toNat_natCast]; have := HN.out; omega) (Below.refl _ _) (ar _) ?_; intro v w8 ho hb hg_ hnew_; clear hg_ hnew_; rw [Int.toNat_natCast] at ho; have HO := zM (Kd.R_lower ho (am HB.out)); have HR1 := zM (Kd.C_below HR.out hb); replace HB := zM (ag HB.out hb); clear ho hb)
  | ((with_reducible refine cJ (b := .copy) (xs := #[.tmp 31, .tmp 32]) rfl ?_); refine Kd.R_copy (enc := Value.int .i64) (0 : Int) (w0 := w) w.heap.size rfl (.tmp 31) (.tmp 32) 25 25 3 rfl Tryz.underlying25 hinf v (List.replicate n 0) [x] A0 1 c0 (fun _ => True) rfl rfl HO.out HR1.out HB.out (am HB.out) ?_; intro w9 ho hb hg_; replace HO := zM ho; replace HB := zM hb; clear ho hb hg_ HR1))
 have hlen : (List.replicate n (0 : Int)).length = n := List.length_replicate ..
 rw [hlen] at HO
 (try simp only [hlen])
 have hrow : List.take (min 1 n) [x] ++ List.drop (min 1 n) (List.replicate n (0 : Int)) = List.replicate (min 1 n) x ++ List.replicate (n - min 1 n) 0 := by
  rw [List.drop_replicate]
  congr 1
  rcases Nat.eq_zero_or_pos n with h | h
  · subst h; rfl
  · rw [show min 1 n = 1 by omega]; rfl
 rw [hrow] at HO
 have HO2 := Aside0.mk (show Kd.R (Kd.int .i64) 3 w9 w.heap.size (fun _ => True) v (List.replicate (min 1 n) x ++ List.replicate (n - min 1 n) 0) from HO.out)
 clear HO hrow hlen
 obtain ⟨Av, cv, ev⟩ := Kd.R_slice HO2.out
 rw [show (List.replicate (min 1 n) x ++ List.replicate (n - min 1 n) (0 : Int)).length = n by rw [List.length_append, List.length_replicate, List.length_replicate]; exact Nat.add_sub_of_le (Nat.min_le_right 1 n)] at ev
 subst ev
 go_loopg [8] (n + 1) (fun kq v8 w' => ∃ m : Nat, v8 = .int .i64 (m : Int) ∧ Aside0 (m ≤ n) ∧ Aside0 (m = 0 → n = 0) ∧ Aside0 (n - m < kq) ∧ Aside0 (Kd.R (Kd.int .i64) 3 w' w.heap.size (fun _ => True) (.slice Av n cv) (List.replicate m x ++ List.replicate (n - m) 0)) ∧ Aside0 (Below w.heap.size w w'))
 case atStart => exact ⟨min 1 n, rfl, ⟨by omega⟩, ⟨by omega⟩, ⟨by omega⟩, HO2, HB⟩
 case round =>
  clear HO2 HB
  obtain ⟨m, rfl, HM1, HM0, HK1, HO, HB⟩ := hrel
  by_cases c1 : m < n
  · have hm1 := HM1.out
    obtain ⟨g, cap, eg, gb, gl, HG⟩ := Kd.R_form HO.out (by rw [List.length_append, List.length_replicate, List.length_replicate]; omega)
    injection eg with eA eN ec
    clear eN
    subst eA; subst ec
    have c1b : decide ((m : Int) < (n : Int)) = true := af (by omega)
    have c1c : decide (m < n) = true := af c1
    have p1 : (0 : Int) ≤ (m : Int) := by omega
    have q1 : (m : Int) ≤ (n : Int) := by omega
    have hcap : n ≤ cv := (Kd.R_reads' HO.out).2.1
    have HCAP := Aside0.mk hcap
    have GB := Aside0.mk gb
    have hcm : (m ≤ cv) = True := eq_true (by omega)
    have hce : (cv = m) = False := eq_false (by omega)
    replace p1 := eq_true p1
    replace q1 := eq_true q1
    clear hm1 c1 hcap hn gb gl HG hgt hgt2 hneg hinf
    go_upto_region 9 with (fail)
    (try simp only [Act.put, List.setIfInBounds_toArray, List.set_cons_zero, List.set_cons_succ])
    refine zs (n := 10) (fun _ => True) trivial (fun hHeld => ?_)
    have HO1 := zM (Kd.R_drew HO.out)
    have HB1 := zM (aD HB.out)
    clear HO HB
    generalize wr.drew = w10 at HO1 HB1 hHeld ⊢
    obtain ⟨C1, C2, C3⟩ := pV HO1.out HM1.out 3 cv (cv - m)
    have CR := Aside0.mk C1
    have CO := Aside0.mk C2
    have CG := Aside0.mk C3
    clear C1 C2 C3
    refine zq 0 38 ?_
    refine zq 1 39 ?_
    refine zq 2 40 ?_
    refine zq 3 41 ?_
    refine zq 4 42 ?_
    refine zq 5 43 ?_
    refine zq 6 44 ?_
    refine bz (i := 7) (N := some 45) #[true, true, true, true, true, true, true, true, false, false] rfl rfl (by kernel_rfl) (by decide) (fun K hK => ?_)
    refine jK (w1 := w10.setCells g m (List.replicate (min m (n - m)) (Value.int .i64 x))) (v := .int .i64 ((min m (n - m) : Nat) : Int)) (by rfl) rfl ?_ ?_
    · go_simp
      rw [CR.out]
      rfl
    refine hK.out _ _ trivial (fun hHeld => ?_)
    clear hK K
    refine zn 45 ?_
    have hw1 : wrap64 ((m : Int) + ((min m (n - m) : Nat) : Int)) = ((m + min m (n - m) : Nat) : Int) := by
      have := HN.out
      have := HM1.out
      have := Nat.min_le_left m (n - m)
      unfold wrap64
      omega
    have HW := Aside0.mk hw1
    clear hw1
    refine zq 8 46 ?_
    refine zq 9 8 ?_
    refine zx ?_
    have hlt := ac c1c
    have hmp : 0 < m := by
      rcases Nat.eq_zero_or_pos m with h | h
      · have := HM0.out h; omega
      · exact h
    have hq0 : 0 < min m (n - m) := by rw [Nat.lt_min]; omega
    have hq1 : m + min m (n - m) ≤ n := by have := Nat.min_le_right m (n - m); omega
    have HB2 := Aside0.mk (HB1.out.grown CG.out HB1.out.size (fun k hk => by injection hk with hk; have := GB.out; omega))
    (try go_wp2)
    go_roundg (n - m)
    case measure => exact HK1.out
    case rel => exact ⟨m + min m (n - m), by first | rfl | exact congrArg (Value.int .i64) HW.out | (rw [HW.out]; done), ⟨hq1⟩, ⟨fun h => by omega⟩, ⟨by omega⟩, CO, HB2⟩
  · have hm1 := HM1.out
    have e1 : m = n := by omega
    have c1b : decide ((m : Int) < (n : Int)) = false := ao (by omega)
    have c1c : decide (m < n) = false := ao c1
    have HE := Aside0.mk e1
    clear e1 c1 hm1 hn hgt hgt2 hneg hinf
    go_wp2
    go_ret
    refine ⟨_, rfl, ?_, HB.out⟩
    have e2 : List.replicate m x ++ List.replicate (n - m) 0 = List.replicate n x := by rw [HE.out, Nat.sub_self]; simp
    rw [← e2]
    exact HO.out
def ib (l : List Int) (n : Int) : Option (List Int) := if l.length = 1 ∧ 0 ≤ n ∧ n ≤ 1048576 then some (List.replicate n.toNat (l.headD 0)) else none
theorem pk (A0 : Option Addr) (c0 : Nat) (l0 : List Int) (a1 : Int) (r : List Int) (w : World) (hr0 : Kd.C (Kd.int .i64) w A0 l0.length l0) (hc0 : l0.length ≤ c0) (h : ib l0 a1 = some r) :
   Calls Tryz.prog 75 #[.slice A0 l0.length c0, .int .i64 a1] w fun e w' => ∃ v0_ : Value, e = .returned (v0_) ∧ Kd.R (Kd.int .i64) 3 w' w.heap.size (fun _ => True) v0_ r ∧ Below w.heap.size w w' := by
 unfold ib at h
 by_cases c : l0.length = 1 ∧ 0 ≤ a1 ∧ a1 ≤ 1048576
 · rw [if_pos c] at h
   obtain rfl := ap h
   obtain ⟨c1, c2, c3⟩ := c
   obtain ⟨n, rfl⟩ := Int.eq_ofNat_of_zero_le c2
   cases l0 with
   | nil => simp at c1
   | cons x t =>
    have ht : t = [] := by cases t with
     | nil => rfl
     | cons y s => simp at c1
    subst ht
    rw [Int.toNat_natCast]
    exact pW A0 c0 x n (by omega) w hr0 hc0
 · rw [if_neg c] at h
   cases h
end Go.Proofs.YtjgcehldepfaaaaGreat.P
