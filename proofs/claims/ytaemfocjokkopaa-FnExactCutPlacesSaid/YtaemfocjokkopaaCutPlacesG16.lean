/-
  DERIVED: THE SHELF's CONTRACTS AT THIS DUMP, IN PLAIN WORDS (tools/lay-plain.mjs out of 'TryShelf.lean', which tools/lay-shelf.mjs wrote): THE SAME DECLARATIONS UNDER THE SAME NAMES: 'import', 'namespace', 'open', 'def', 'theorem' AND NOTHING ELSE: no command of the shelf's: FOR A HAND-IN. Each laying: the table of numbers ('.._ren') and one theorem, a field a fact of the dump's own or the kernel's comparison; each contract: ONE APPLICATION.
-/
import Derived.Shelf.Small.Bits
import Derived.Shelf.Small.Wraps
import Derived.Shelf.Strconv.Itoa0
import Derived.Shelf.Sort.Plain
import Derived.Ground.Names2Prog
import Derived.Shelf.Slices.SearchI
import Derived.Shelf.Slices.In.SortNone
import Derived.Test.YtaemfocjokkopaaProg
import Derived.Test.YtaemfocjokkopaaCutPlacesG5
import Derived.Sort.OwnSortedInts
namespace Go.Proofs
open Go.Shelf
def Try.lays215_ren : Go.Shelf.Ren := ⟨fun | 215 => 52 | n => n, fun | 3 => 3 | 4 => 4 | n => n, fun | n => n⟩
theorem Try.lays215 : Go.Proofs.Lays.n215 Try.prog Try.lays215_ren := {
  mixed := by kernel_rfl
  f215 := Try.func52.trans (congrArg some (by kernel_rfl))
  t3 := Try.underlying3
  a3 := Try.isAgg3
  z3 := Try.sizeOf3
  v3 := Try.zeroValue3
  t4 := Try.underlying4
  a4 := Try.isAgg4
  z4 := Try.sizeOf4
  v4 := Try.zeroValue4 }
open Go.RowKit in
/-- cmp.isNaN at int: 'x != x': false. (LAID: no walk: one application.) -/
theorem Try.cmp_isNaN_int (x : Int) (w : World) :
    Calls Try.prog 52 #[.int .i64 x] w fun e w' => e = .returned (.bool false) ∧ w' = w := Any.cmp_isNaN_int Try.lays215 x w
def Try.lays122_ren : Go.Shelf.Ren := ⟨fun | 122 => 47 | 215 => 52 | n => n, fun | 3 => 3 | 4 => 4 | n => n, fun | n => n⟩
theorem Try.lays122 : Go.Proofs.Lays.n122 Try.prog Try.lays122_ren := {
  mixed := by kernel_rfl
  f122 := Try.func47.trans (congrArg some (by kernel_rfl))
  f215 := Try.func52.trans (congrArg some (by kernel_rfl))
  t3 := Try.underlying3
  a3 := Try.isAgg3
  z3 := Try.sizeOf3
  v3 := Try.zeroValue3
  t4 := Try.underlying4
  a4 := Try.isAgg4
  z4 := Try.sizeOf4
  v4 := Try.zeroValue4 }
open Go.RowKit in
/-- cmp.Compare at int: "Compare returns -1 if x is less than y, 0 if x equals y, +1 if x is greater than y.": IT RETURNS 'Lib.compareInt x y'; the world is as it was. (LAID: no walk: one application.) -/
theorem Try.cmp_Compare_int (x y : Int) (w : World) :
    Calls Try.prog 47 #[.int .i64 x, .int .i64 y] w fun e w' => e = .returned (.int .i64 (Lib.compareInt x y)) ∧ w' = w := Any.cmp_Compare_int Try.lays122 x y w
def Try.lays189_ren : Go.Shelf.Ren := ⟨fun | 189 => 40 | 125 => 50 | 257 => 49 | 128 => 63 | 129 => 64 | 294 => 54 | 295 => 55 | 296 => 56 | 297 => 57 | 298 => 58 | 299 => 59 | 216 => 60 | 300 => 61 | 301 => 62 | 328 => 65 | 329 => 66 | 330 => 67 | 331 => 68 | 332 => 69 | 215 => 52 | 343 => 70 | n => n, fun | 28 => 27 | 3 => 3 | 46 => 66 | 0 => 0 | 51 => 79 | 53 => 81 | 4 => 4 | 183 => 71 | 182 => 70 | 131 => 76 | 5 => 5 | 9 => 9 | 218 => 82 | 222 => 86 | 228 => 88 | 229 => 89 | n => n, fun | n => n⟩
theorem Try.lays189 : Go.Proofs.Lays.n189 Try.prog Try.lays189_ren := {
  mixed := by kernel_rfl
  f125 := Try.func50.trans (congrArg some (by kernel_rfl))
  f128 := Try.func63.trans (congrArg some (by kernel_rfl))
  f129 := Try.func64.trans (congrArg some (by kernel_rfl))
  f189 := Try.func40.trans (congrArg some (by kernel_rfl))
  f215 := Try.func52.trans (congrArg some (by kernel_rfl))
  f216 := Try.func60.trans (congrArg some (by kernel_rfl))
  f257 := Try.func49.trans (congrArg some (by kernel_rfl))
  f294 := Try.func54.trans (congrArg some (by kernel_rfl))
  f295 := Try.func55.trans (congrArg some (by kernel_rfl))
  f296 := Try.func56.trans (congrArg some (by kernel_rfl))
  f297 := Try.func57.trans (congrArg some (by kernel_rfl))
  f298 := Try.func58.trans (congrArg some (by kernel_rfl))
  f299 := Try.func59.trans (congrArg some (by kernel_rfl))
  f300 := Try.func61.trans (congrArg some (by kernel_rfl))
  f301 := Try.func62.trans (congrArg some (by kernel_rfl))
  f328 := Try.func65.trans (congrArg some (by kernel_rfl))
  f329 := Try.func66.trans (congrArg some (by kernel_rfl))
  f330 := Try.func67.trans (congrArg some (by kernel_rfl))
  f331 := Try.func68.trans (congrArg some (by kernel_rfl))
  f332 := Try.func69.trans (congrArg some (by kernel_rfl))
  f343 := Try.func70.trans (congrArg some (by kernel_rfl))
  t0 := Try.underlying0
  a0 := Try.isAgg0
  z0 := Try.sizeOf0
  v0 := Try.zeroValue0
  t3 := Try.underlying3
  a3 := Try.isAgg3
  z3 := Try.sizeOf3
  v3 := Try.zeroValue3
  t4 := Try.underlying4
  a4 := Try.isAgg4
  z4 := Try.sizeOf4
  v4 := Try.zeroValue4
  t5 := Try.underlying5
  a5 := Try.isAgg5
  z5 := Try.sizeOf5
  v5 := Try.zeroValue5
  t9 := Try.underlying9
  a9 := Try.isAgg9
  z9 := Try.sizeOf9
  v9 := Try.zeroValue9
  t28 := Try.underlying27
  a28 := Try.isAgg27
  z28 := Try.sizeOf27
  v28 := Try.zeroValue27
  t46 := Try.underlying66
  a46 := Try.isAgg66
  z46 := Try.sizeOf66
  v46 := Try.zeroValue66
  t51 := Try.underlying79
  a51 := Try.isAgg79
  z51 := Try.sizeOf79
  v51 := Try.zeroValue79
  t53 := Try.underlying81
  a53 := Try.isAgg81
  z53 := Try.sizeOf81
  v53 := Try.zeroValue81
  t131 := Try.underlying76
  a131 := Try.isAgg76
  z131 := Try.sizeOf76
  v131 := Try.zeroValue76
  t182 := Try.underlying70
  a182 := Try.isAgg70
  z182 := Try.sizeOf70
  v182 := Try.zeroValue70
  t183 := Try.underlying71
  a183 := Try.isAgg71
  z183 := Try.sizeOf71
  v183 := Try.zeroValue71
  t218 := Try.underlying82
  a218 := Try.isAgg82
  z218 := Try.sizeOf82
  v218 := Try.zeroValue82
  t222 := Try.underlying86
  a222 := Try.isAgg86
  z222 := Try.sizeOf86
  v222 := Try.zeroValue86
  t228 := Try.underlying88
  a228 := Try.isAgg88
  z228 := Try.sizeOf88
  v228 := Try.zeroValue88
  t229 := Try.underlying89
  a229 := Try.isAgg89
  z229 := Try.sizeOf89
  v229 := Try.zeroValue89 }
open Go.Sort Go.RowKit in
theorem Try.slices_Sort_int (blk off cap : Nat) (zs : List Int) (w : World) (hH : Holds (Value.int .i64) w blk off zs.toArray) (hblk : blk < w.heap.size) (hsz : zs.length < 4611686018427387904) :
    Calls Try.prog 40 #[.slice (some ⟨blk, off, none⟩) zs.length cap] w fun e w' =>
      e = .returned (.tuple #[]) ∧ ∃ n os, w' = grow (putRow (Value.int .i64) (Sort.ahead w n) blk off (zs.mergeSort fun x y => decide (x ≤ y)).toArray) os := Any.slices_Sort_int Try.lays189 blk off cap zs w hH hblk hsz
open Go.RowKit Go.Sort in
/-- .. and plain. (LAID: no walk: one application.) -/
theorem Try.slices_Sort_int_none (p : Option Addr) (cap : Nat) (w : World) :
    Calls Try.prog 40 #[.slice p 0 cap] w fun e w' => e = .returned (.tuple #[]) ∧ w' = w := Any.slices_Sort_int_none Try.lays189 p cap w
end Go.Proofs
namespace Go.Proofs.Ytaemfocjokkopaa.P
open Go.RowKit Go.Proofs.YtaemfocjokkopaaW.PrintWords Go.Proofs.YtaemfocjokkopaaW.PrintLast Go.Proofs.YtaemfocjokkopaaW.PrintMore
set_option linter.unusedVariables false
set_option linter.unusedSimpArgs false

def sortL (l : List Int) : List Int := l.mergeSort fun x y => decide (x ≤ y)
def slices_Sort_int_int.f (l : List Int) : Option (List Int) := if l.length < 4611686018427387904 then some (sortL l) else none
theorem sortL_len (l : List Int) : (sortL l).length = l.length := List.length_mergeSort l
theorem slices_Sort_int_int.calls (P0_ : Nat → Prop) (u9000_ : Value) (l0 r : List Int) (w0 w : World) (hB : Below w0.heap.size w0 w) (ho0 : Kd.R (Kd.int .i64) 3 w w0.heap.size P0_ u9000_ l0) (h : slices_Sort_int_int.f l0 = some r) :
    Calls Try.prog 40 #[u9000_] w fun e w' => e = .returned (.tuple #[]) ∧ Kd.R (Kd.int .i64) 3 w' w0.heap.size (fun k_ => (P0_ k_ ∨ w.heap.size ≤ k_)) u9000_ r ∧ Below w0.heap.size w0 w' ∧ Kept w w' (fun k_ => P0_ k_) := by
  unfold slices_Sort_int_int.f at h
  by_cases hl : l0.length < 4611686018427387904
  · rw [if_pos hl] at h
    obtain rfl := Option.some.inj h
    have hown := Kd.own_of_R (enc := Value.int .i64) ho0
    rcases hown.2 with ⟨hnil, hz⟩ | ⟨g, cap, cur, rfl, hbase, hb, h1, h2, h3, h4⟩
    · have h0 : l0 = [] := by
        cases l0 with
        | nil => rfl
        | cons x t => simp at hz
      subst h0
      subst hnil
      refine (Try.slices_Sort_int_none none 0 w).mono ?_
      rintro e w' ⟨rfl, rfl⟩
      refine ⟨rfl, ?_, hB, Kept.refl _ _⟩
      rw [show sortL [] = [] from by simp [sortL]]
      exact Kd.R_mono ho0 (fun k hk => .inl hk)
    · have hgl : g < w.heap.size := (Array.getElem?_eq_some_iff.1 hb).1
      refine (Try.slices_Sort_int g 0 cap l0 w (holds_of_blockI hb (by simpa [encs] using h4)) hgl hl).mono ?_
      rintro e w' ⟨rfl, nn, os, rfl⟩
      have hgr := grownBy_sortedI (w := w) (g := g) (n := nn) (os := os) (sortL l0).toArray
      refine ⟨rfl, ?_, hB.grown hgr hB.size (fun k hk => by injection hk with hk; omega), Kept.of_grown hgr (Kept.refl w _) (fun k hk => .inl (ho0.1 k hk))⟩
      refine Kd.R_of_own (enc := Value.int .i64) ?_ (fun k hk => .inl (ho0.1 k hk))
      rw [sortL_len]
      exact ownsRow_sortedI (sortL_len l0) hbase hb h1 h2 h3
  · rw [if_neg hl] at h
    cases h

end Go.Proofs.Ytaemfocjokkopaa.P
namespace Go.Proofs.Ytaemfocjokkopaa.P
open Go.RowKit Go.Proofs.YtaemfocjokkopaaW.PrintWords Go.Proofs.YtaemfocjokkopaaW.PrintLast Go.Proofs.YtaemfocjokkopaaW.PrintMore
attribute [local go_sem] max2_int min2_int max_two min_two max_three min_three max_four min_four   -- for this text's walks alone
set_option linter.unusedVariables false
set_option linter.unusedSimpArgs false

/-! ### impl_parts: function 24 -/
mutual
def impl_parts.j0 : Nat → List (List Int) → List (List Int) → List Bool → Option ((List (List Int)))
 | 0, _, _, _ => none
 | k + 1, x0, x5, x6 => impl_parts.l0 k x0 x5 x6 (x0.length : Int) 0
def impl_parts.l0 : Nat → List (List Int) → List (List Int) → List Bool → Int → Int → Option ((List (List Int)))
 | 0, _, _, _, _, _ => none
 | k + 1, x0, x5, x6, x22, x23 => if x23 < x22 then (if 0 ≤ x23 then (if x23 < (x6.length : Int) then (if rdOf false x6 x23 = true then (impl_parts.l0 k x0 x5 x6 x22 (wrap64 (x23 + 1))) else (impl_parts.l1 k x0 x5 (x6.set (x23 : Int).toNat true) (([x23] : List Int)) 0 x22 x23)) else (none)) else (none)) else (some x5)
def impl_parts.l1 : Nat → List (List Int) → List (List Int) → List Bool → List Int → Int → Int → Int → Option ((List (List Int)))
 | 0, _, _, _, _, _, _, _ => none
 | k + 1, x0, x5, x6, x8, x9, x22, x23 => if x9 < (x8.length : Int) then (if 0 ≤ x9 then (if 0 ≤ (rd x8 x9) then (if (rd x8 x9) < (x0.length : Int) then (impl_parts.l2 k x0 x5 x6 x8 x9 x22 x23 (rd_L1 x0 (rd x8 x9)) ((rd_L1 x0 (rd x8 x9)).length : Int) 0) else (none)) else (none)) else (none)) else ((slices_Sort_int_int.f x8).bind fun t380 => (if x5.length < 5864062014805 then (impl_parts.l0 k x0 (x5 ++ [t380]) x6 x22 (wrap64 (x23 + 1))) else (none)))
def impl_parts.l2 : Nat → List (List Int) → List (List Int) → List Bool → List Int → Int → Int → Int → List Int → Int → Int → Option ((List (List Int)))
 | 0, _, _, _, _, _, _, _, _, _, _ => none
 | k + 1, x0, x5, x6, x8, x9, x22, x23, x47, x48, x49 => if x49 < x48 then (if 0 ≤ x49 then (if x49 < (x47.length : Int) then (if 0 ≤ (rd x47 x49) then (if (rd x47 x49) < (x6.length : Int) then (if (rdOf false x6 (rd x47 x49) = true) then (impl_parts.l2 k x0 x5 x6 x8 x9 x22 x23 x47 x48 (wrap64 (x49 + 1))) else (if x8.length < 17592186044416 then (impl_parts.l2 k x0 x5 (x6.set ((rd x47 x49) : Int).toNat true) (x8 ++ [rd x47 x49]) x9 x22 x23 x47 x48 (wrap64 (x49 + 1))) else (none))) else (none)) else (none)) else (none)) else (none)) else (impl_parts.l1 k x0 x5 x6 x8 (wrap64 (x9 + 1)) x22 x23)
end
def impl_parts.f (k : Nat) (l0 : List (List Int)) (a1 : Int) : Option ((List (List Int))) := (some (([] : List (List Int)) : List (List Int))).bind fun y368 => (if 0 ≤ (l0.length : Int) then (if ((l0.length : Int) : Int).toNat ≤ 281474976710656 then ((some (List.replicate ((l0.length : Int) : Int).toNat false : List Bool)).bind fun y371 => (if a1 ≥ 0 then (if 0 ≤ a1 then (if a1 < (y371.length : Int) then (impl_parts.j0 k l0 y368 (y371.set (a1 : Int).toNat true)) else (none)) else (none)) else (impl_parts.j0 k l0 y368 y371))) else (none)) else (none))
set_option maxHeartbeats 8000000 in
set_option maxRecDepth 100000 in
theorem impl_parts.calls (k : Nat) (A0 : Option Addr) (c0 : Nat) (l0 : List (List Int)) (a1 : Int) (r : List (List Int)) (w : World) (hr0 : Kd.C (Kd.slice 3 (Kd.int .i64)) w A0 l0.length l0) (hc0 : l0.length ≤ c0) (h : impl_parts.f k l0 a1 = some r) :
 Calls Try.prog 24 #[.slice A0 l0.length c0, .int .i64 a1] w fun e w' => ∃ v0_ : Value, e = .returned (v0_) ∧ Kd.S (Kd.slice 3 (Kd.int .i64)) 27 w' w.heap.size (fun _ => True) v0_ r ∧ Below w.heap.size w w' := by
 have HR0 := Aside0.mk hr0
 have HC0 := Aside0.mk hc0
 clear hr0 hc0
 have HB := zM (Below.refl w.heap.size w)
 have H : ((some (([] : List (List Int)) : List (List Int))).bind fun y368 => (if 0 ≤ (l0.length : Int) then (if ((l0.length : Int) : Int).toNat ≤ 281474976710656 then ((some (List.replicate ((l0.length : Int) : Int).toNat false : List Bool)).bind fun y371 => (if a1 ≥ 0 then (if 0 ≤ a1 then (if a1 < (y371.length : Int) then (impl_parts.j0 k l0 y368 (y371.set (a1 : Int).toNat true)) else (none)) else (none)) else (impl_parts.j0 k l0 y368 y371))) else (none)) else (none))) = some r := h
 clear h
 obtain ⟨y368, hy368⟩ : ∃ y_ : List (List Int), y_ = (([] : List (List Int))) := ⟨_, rfl⟩
 replace H : (if 0 ≤ (l0.length : Int) then (if ((l0.length : Int) : Int).toNat ≤ 281474976710656 then ((some (List.replicate ((l0.length : Int) : Int).toNat false : List Bool)).bind fun y371 => (if a1 ≥ 0 then (if 0 ≤ a1 then (if a1 < (y371.length : Int) then (impl_parts.j0 k l0 y368 (y371.set (a1 : Int).toNat true)) else (none)) else (none)) else (impl_parts.j0 k l0 y368 y371))) else (none)) else (none)) = some r := by first | (rw [hy368]; with_reducible exact H) | (have H2_ := (Option.bind_some _ _).symm.trans H; rw [hy368]; with_reducible exact H2_) | (have H2_ := (Option.bind_some _ _).symm.trans H; with_reducible exact H2_) | with_reducible exact H | (rw [hy368]; exact H) | exact H
 have Ny368 := Aside0.mk hy368
 clear hy368
 by_cases c3 : 0 ≤ (l0.length : Int)
 · rw [if_pos c3] at H
   have c3b0 := eq_true c3
   have c3b1 : decide (0 ≤ (l0.length : Int)) = true := decide_eq_true c3
   clear c3
   by_cases c4 : ((l0.length : Int) : Int).toNat ≤ 281474976710656
   · rw [if_pos c4] at H
     have c4b0 := eq_true c4
     have c4b1 : decide (((l0.length : Int) : Int).toNat ≤ 281474976710656) = true := decide_eq_true c4
     clear c4
     obtain ⟨y371, hy371⟩ : ∃ y_ : List Bool, y_ = (List.replicate ((l0.length : Int) : Int).toNat false) := ⟨_, rfl⟩
     replace H : (if a1 ≥ 0 then (if 0 ≤ a1 then (if a1 < (y371.length : Int) then (impl_parts.j0 k l0 y368 (y371.set (a1 : Int).toNat true)) else (none)) else (none)) else (impl_parts.j0 k l0 y368 y371)) = some r := by first | (rw [hy371]; with_reducible exact H) | (have H2_ := (Option.bind_some _ _).symm.trans H; rw [hy371]; with_reducible exact H2_) | (have H2_ := (Option.bind_some _ _).symm.trans H; with_reducible exact H2_) | with_reducible exact H | (rw [hy371]; exact H) | exact H
     have Ny371 := Aside0.mk hy371
     clear hy371
     have HC5 := Aside0.mk H
     clear H
     go_enter Try.func24, Try.ntmps24
     try go_wp2
     replace HB := zM (below_drew1 HB.out)
     refine zs (n := 6) (fun w' => True) trivial (fun hHeld => ?_)
     generalize w.drew = w6 at HB hHeld ⊢
     refine zq 1 13 ?_
     refine zq 2 14 ?_
     refine join_ (σ := Value × Value) 1 #[true, true, true, true, true, false] (fun s_ => [(12, s_.1), (15, s_.2), (5, s_.1)]) (fun s_ w' => (Kd.S (Kd.slice 3 (Kd.int .i64)) 27 w' w.heap.size (fun _ => True) s_.1 y368) ∧ (Kd.R Kd.bool 4 w' w.heap.size (fun _ => True) s_.2 y371) ∧ (Below w.heap.size w w')) ?_ ?_
     rotate_left
     · intro hCont
       refine two_ (i := 0) (j := 3) (Ni := some 12) (Nj := some 15) #[true, true, true, false, false, false] #[false, true, true, true, false, false] rfl rfl rfl rfl (by kernel_rfl) (by decide) (by decide) (fun K hK => ?_) (fun K hK => ?_)
       · skip
         refine Kd.S_lit_step (Kd.slice 3 (Kd.int .i64)) _ 27 ?hg (N := 12) ?hd (xs := ([] : List (List Int))) (inner := []) (ok := fun _ => True) (okp := fun _ => True) ?hr ?hp (fun _ hk => hk) trivial (Below.refl _ _) (Nat.le_refl _) (by simp) ?_; (case hd => rfl); (case hg => rfl); (case hr => first | (go_simp; done) | (go_simp; rfl)); (case hp => exact (Reps.none _ _))
         intro v369 w7 ho8 hb hg_ hnew_
         clear hg_ hnew_
         (first | rw [← Ny368.out] at ho8 | (simp only [Int.reduceToNat] at ho8; rw [← Ny368.out] at ho8))
         have HO370 := zM (Kd.S_lower ho8 (below_size zB))
         replace HB := zM (below_step zB hb)
         clear hb ho8
         refine hK.out _ _ trivial (fun hHeld => ?_)
         clear hK K
         refine zn 12 ?_
         refine zq 4 5 ?_
         refine one_ (i := 3) (N := some 15) #[true, true, true, true, true, false] rfl rfl (by kernel_rfl) (by decide) (fun K hK => ?_)
         refine Kd.R_make_step Kd.bool _ 4 (by rfl) (N := 15) rfl 52 _ _ rfl (l0.length : Int) rfl rfl Try.underlying52 (.bool false) 1 info4 rfl (by decide) (by omega) false (ok := fun _ => True) (okp := fun _ => True) rfl (fun _ hk => hk) trivial (of_decide_eq_true zA) (Nat.le_trans (Nat.mul_le_mul_right _ (of_decide_eq_true zA : (l0.length : Int).toNat ≤ 281474976710656)) (by omega)) (Below.refl _ _) (Nat.le_refl _) ?_
         intro v372 w9 ho10 hb hg_ hnew_
         clear hg_ hnew_
         (first | rw [← Ny371.out] at ho10 | (simp only [Int.reduceToNat] at ho10; rw [← Ny371.out] at ho10))
         replace HO370 := zM (Kd.S_below (by (with_reducible repeat (first | apply Kd.S_alloc | apply Kd.S_drewN | apply Kd.S_drew)); exact HO370.out) hb)
         have HO373 := zM (Kd.R_lower ho10 (below_size zB))
         replace HB := zM (below_step zB hb)
         clear hb ho10
         refine hK.out _ _ trivial (fun hHeld => ?_)
         clear hK K
         refine zn 15 ?_
         exact norm_ (by simp only [putAll, Act.put, List.setIfInBounds_toArray, List.set_cons_zero, List.set_cons_succ]) (hCont (v369, v372) _ ⟨(by (with_reducible repeat (first | apply Kd.S_alloc | apply Kd.S_drewN | apply Kd.S_drew)); exact HO370.out), (zR HO373.out), zB⟩)
       · skip
         refine Kd.R_make_step Kd.bool _ 4 (by rfl) (N := 15) rfl 52 _ _ rfl (l0.length : Int) rfl rfl Try.underlying52 (.bool false) 1 info4 rfl (by decide) (by omega) false (ok := fun _ => True) (okp := fun _ => True) rfl (fun _ hk => hk) trivial (of_decide_eq_true zA) (Nat.le_trans (Nat.mul_le_mul_right _ (of_decide_eq_true zA : (l0.length : Int).toNat ≤ 281474976710656)) (by omega)) (Below.refl _ _) (Nat.le_refl _) ?_
         intro v372 w7 ho8 hb hg_ hnew_
         clear hg_ hnew_
         (first | rw [← Ny371.out] at ho8 | (simp only [Int.reduceToNat] at ho8; rw [← Ny371.out] at ho8))
         have HO373 := zM (Kd.R_lower ho8 (below_size zB))
         replace HB := zM (below_step zB hb)
         clear hb ho8
         refine hK.out _ _ trivial (fun hHeld => ?_)
         clear hK K
         refine zn 15 ?_
         refine one_ (i := 0) (N := some 12) #[true, true, true, true, false, false] rfl rfl (by kernel_rfl) (by decide) (fun K hK => ?_)
         refine Kd.S_lit_step (Kd.slice 3 (Kd.int .i64)) _ 27 ?hg (N := 12) ?hd (xs := ([] : List (List Int))) (inner := []) (ok := fun _ => True) (okp := fun _ => True) ?hr ?hp (fun _ hk => hk) trivial (Below.refl _ _) (Nat.le_refl _) (by simp) ?_; (case hd => rfl); (case hg => rfl); (case hr => first | (go_simp; done) | (go_simp; rfl)); (case hp => exact (Reps.none _ _))
         intro v369 w9 ho10 hb hg_ hnew_
         clear hg_ hnew_
         (first | rw [← Ny368.out] at ho10 | (simp only [Int.reduceToNat] at ho10; rw [← Ny368.out] at ho10))
         replace HO373 := zM (Kd.R_below (zR HO373.out) hb)
         have HO370 := zM (Kd.S_lower ho10 (below_size zB))
         replace HB := zM (below_step zB hb)
         clear hb ho10
         refine hK.out _ _ trivial (fun hHeld => ?_)
         clear hK K
         refine zn 12 ?_
         refine zq 4 5 ?_
         exact norm_ (by simp only [putAll, Act.put, List.setIfInBounds_toArray, List.set_cons_zero, List.set_cons_succ]) (hCont (v369, v372) _ ⟨(by (with_reducible repeat (first | apply Kd.S_alloc | apply Kd.S_drewN | apply Kd.S_drew)); exact HO370.out), (zR HO373.out), zB⟩)
     rintro ⟨v369, v372⟩ w11 ⟨h0_, h1_, h2_⟩
     have n0_ : Aside0 (Kd.S (Kd.slice 3 (Kd.int .i64)) 27 w11 w.heap.size (fun _ => True) v369 y368) := ⟨h0_⟩
     have n1_ : Aside0 (Kd.R Kd.bool 4 w11 w.heap.size (fun _ => True) v372 y371) := ⟨h1_⟩
     have n2_ : Aside0 (Below w.heap.size w w11) := ⟨h2_⟩
     clear HB
     clear h0_ h1_ h2_
     have HO370 := n0_
     have HO373 := n1_
     have HB := n2_
     clear n0_ n1_ n2_
     have hHeld := trivial
     refine norm_ (a' := ?_) ?_ ?_
     rotate_left
     · simp only [putAll, Act.put, List.setIfInBounds_toArray, List.set_cons_zero, List.set_cons_succ]
       rfl
     refine zq 5 6 ?_
     refine zx ?_
     go_upto_if 17 with (fail)
     go_cut [] (fun wc => ∃ (kq : Nat) (x6_4 : List Bool), Aside0 (impl_parts.j0 kq l0 y368 x6_4 = some r) ∧ Aside0 (kq ≤ k) ∧ Aside0 (Kd.S (Kd.slice 3 (Kd.int .i64)) 27 wc w.heap.size (fun _ => True) v369 y368) ∧ Aside0 (Kd.R Kd.bool 4 wc w.heap.size (fun _ => True) v372 x6_4) ∧ Aside0 (Below w.heap.size w wc))
     case first =>
      have H := HC5.out
      clear HC5
      by_cases c12 : a1 ≥ 0
      · rw [if_pos c12] at H
        have c12b0 : decide (0 ≤ a1) = true := decide_eq_true c12
        clear c12
        (first | rw [c12b0] | (simp only [i64_w, i32_w]; rw [c12b0]) | skip)
        by_cases c13 : 0 ≤ a1
        · rw [if_pos c13] at H
          have c13b0 := decide_eq_true c13
          clear c13
          by_cases c14 : a1 < (y371.length : Int)
          · rw [if_pos c14] at H
            have c14b0 := decide_eq_true c14
            clear c14
            obtain ⟨y374, hy374⟩ : ∃ y_ : List Bool, y_ = (y371.set (a1 : Int).toNat true) := ⟨_, rfl⟩
            replace H : (impl_parts.j0 k l0 y368 y374) = some r := by first | (rw [hy374]; with_reducible exact H) | (have H2_ := (Option.bind_some _ _).symm.trans H; rw [hy374]; with_reducible exact H2_) | (have H2_ := (Option.bind_some _ _).symm.trans H; with_reducible exact H2_) | with_reducible exact H | (rw [hy374]; exact H) | exact H
            have Ny374 := Aside0.mk hy374
            clear hy374
            have H' := Aside0.mk H
            clear H
            have p15 : 0 ≤ (a1 : Int) := of_decide_eq_true zA
            have q15 : (a1 : Int) < ((y371.length : Int) : Int) := of_decide_eq_true zA
            obtain ⟨go15, co15, eo15, gb15, gl15, cl15, HG15⟩ := Kd.R_form HO373.out (by omega)
            (first | cases eo15 | (injection eo15 with ea_ en_ ec_; (first | subst ea_ | (injection ea_ with ea_; subst ea_)); subst ec_; clear en_))
            have GB15 := Aside0.mk gb15
            have GG15 := Aside0.mk HG15
            clear gb15 gl15 HG15
            obtain ⟨hx15_0, hf15_0⟩ := Kd.R_celln false HO373.out (a1 : Int) p15 q15
            replace p15 := eq_true p15
            replace q15 := eq_true q15
            have HP16 := Kd.R_putg HO373.out (a1 : Int) true
            go_wp2_with (first | ((with_reducible refine gate_store (t := 4) (p := 20) rfl ?_); refine store_event (t := 4) (p := 20) (v := ?vo_w17) (w1 := (w11.setCell ⟨go15, (a1 : Int).toNat, none⟩ (.bool true))) ?hg ?ho ?hn ?hr ?_; (case ho => rfl); (case hg => rfl); (case hn => rfl); (case hr => first | (go_simp; done) | (go_simp; rfl)); intro w17 hw; have hg : w11.grownBy w17 (some go15) := (by rw [hw]; exact HP16.2); have hp_ : Kd.R Kd.bool 4 w17 w.heap.size (fun _ => True) (.slice (some ⟨go15, 0, none⟩) y371.length co15) y374 := (by rw [hw, Ny374.out]; exact HP16.1); clear HP16; replace HO370 := zM (Kd.S_over' (v := (.slice (some ⟨go15, 0, none⟩) y371.length co15)) (by (with_reducible repeat (first | apply Kd.S_alloc | apply Kd.S_drewN | apply Kd.S_drew)); exact HO370.out) (Kd.R_typed HO373.out) (by decide) hg); replace HO373 := zM (hp_); replace HB := zM ((by rw [hw]; exact below_set (HB.out) GB15.out : Below w.heap.size w w17)); clear hg hw hp_))
            go_meet
            case rel => exact ⟨_, (y374), H', ⟨by first | omega | exact Nat.le_refl _⟩, ⟨by (with_reducible repeat (first | apply Kd.S_alloc | apply Kd.S_drewN | apply Kd.S_drew)); exact HO370.out⟩, ⟨zR HO373.out⟩, ⟨zB⟩⟩
          · rw [if_neg c14] at H
            exact absurd H (by simp)
        · rw [if_neg c13] at H
          exact absurd H (by simp)
      · rw [if_neg c12] at H
        have c12b0 : decide (0 ≤ a1) = false := decide_eq_false c12
        clear c12
        (first | rw [c12b0] | (simp only [i64_w, i32_w]; rw [c12b0]) | skip)
        have H' := Aside0.mk H
        clear H
        go_wp2
        go_meet
        case rel => exact ⟨_, (y371), H', ⟨by first | omega | exact Nat.le_refl _⟩, ⟨by (with_reducible repeat (first | apply Kd.S_alloc | apply Kd.S_drewN | apply Kd.S_drew)); exact HO370.out⟩, ⟨zR HO373.out⟩, ⟨zB⟩⟩
     case rest =>
      clear HC5
      try clear c1
      try clear p1
      try clear q1
      try clear hx1
      try clear c2
      try clear p2
      try clear c3
      try clear c3b0
      try clear c3b1
      try clear c4
      try clear c4b0
      try clear c4b1
      try clear c12
      try clear c12b0
      try clear c13
      try clear c13b0
      try clear c14
      try clear c14b0
      try clear p15
      try clear q15
      try clear hx15
      try clear hf15
      try clear hx15_0
      try clear p15
      try clear q15
      obtain ⟨kq, x6_4, HA, HJ4, HO_5, HO_6, HB⟩ := hcut
      cases kq with
      | zero => exact absurd HA.out (by simp [impl_parts.j0])
      | succ kj4 =>
       have H := HA.out
       clear HA
       simp only [impl_parts.j0] at H
       have H' := Aside0.mk H
       clear H
       go_wp2
       go_loopg [5, 23] kj4 (fun kq v5 v23 w' => ∃ (x5_2 : List (List Int)) (x6_2 : List Bool) (x23_2 : Int), v23 = .int .i64 x23_2 ∧ Aside0 (impl_parts.l0 kq l0 x5_2 x6_2 (l0.length : Int) x23_2 = some r) ∧ Aside0 (kq ≤ kj4) ∧ Aside0 (Kd.S (Kd.slice 3 (Kd.int .i64)) 27 w' w.heap.size (fun _ => True) v5 x5_2) ∧ Aside0 (Kd.R Kd.bool 4 w' w.heap.size (fun _ => True) v372 x6_2) ∧ Aside0 (Below w.heap.size w w'))
       case atStart => exact ⟨(y368), (x6_4), (0), (by first | rfl | (simp; done) | (simp [*]; done)), H', ⟨Nat.le_refl _⟩, ⟨by (with_reducible repeat (first | apply Kd.S_alloc | apply Kd.S_drewN | apply Kd.S_drew)); exact HO_5.out⟩, ⟨zR HO_6.out⟩, ⟨zB⟩⟩
       case round =>
        clear H'
        try clear c1
        try clear p1
        try clear q1
        try clear hx1
        try clear c2
        try clear p2
        try clear c3
        try clear c3b0
        try clear c3b1
        try clear c4
        try clear c4b0
        try clear c4b1
        try clear c12
        try clear c12b0
        try clear c13
        try clear c13b0
        try clear c14
        try clear c14b0
        try clear p15
        try clear q15
        try clear hx15
        try clear hf15
        try clear hx15_0
        try clear p1
        try clear p15
        try clear p2
        try clear q1
        try clear q15
        obtain ⟨x5_2, x6_2, x23_2, rfl, HA, HK2, HO_5, HO_6, HB⟩ := hrel
        cases gk with
        | zero => exact absurd HA.out (by simp [impl_parts.l0])
        | succ k2 =>
         have H := HA.out
         clear HA
         simp only [impl_parts.l0] at H
         by_cases c18 : x23_2 < (l0.length : Int)
         · rw [if_pos c18] at H
           have c18b0 := decide_eq_true c18
           clear c18
           by_cases c19 : 0 ≤ x23_2
           · rw [if_pos c19] at H
             have c19b0 := decide_eq_true c19
             clear c19
             by_cases c20 : x23_2 < (x6_2.length : Int)
             · rw [if_pos c20] at H
               have c20b0 := decide_eq_true c20
               clear c20
               obtain ⟨bq21, hbq21⟩ : ∃ b_ : Bool, b_ = (rdOf false x6_2 x23_2) := ⟨_, rfl⟩
               replace H : (if bq21 = true then (impl_parts.l0 k2 l0 x5_2 x6_2 (l0.length : Int) (wrap64 (x23_2 + 1))) else (impl_parts.l1 k2 l0 x5_2 (x6_2.set (x23_2 : Int).toNat true) (([x23_2] : List Int)) 0 (l0.length : Int) x23_2)) = some r := by rw [← hbq21] at H; exact H
               have Nbq21 := Aside0.mk hbq21
               clear hbq21
               by_cases c22 : bq21 = true
               · subst c22
                 rw [if_pos rfl] at H
                 have H' := Aside0.mk H
                 clear H
                 obtain ⟨Ao23, co23, eo23⟩ := Kd.R_slice HO_6.out
                 subst eo23
                 have p375 : 0 ≤ (x23_2 : Int) := of_decide_eq_true zA
                 have q375 : x23_2 < (x6_2.length : Int) := of_decide_eq_true zA
                 obtain ⟨ad375, e375, hx375_0⟩ := Kd.at_bool (Kd.R_reads' HO_6.out).2.2 x23_2 p375 q375
                 (try rw [← Nbq21.out] at hx375_0)
                 cases e375
                 replace p375 := eq_true p375
                 replace q375 := eq_true q375
                 go_wp2
                 go_roundg k2
                 case measure => have := HJ4.out; have := HK2.out; omega
                 case rel => exact ⟨(x5_2), (x6_2), (wrap64 (x23_2 + 1)), (by first | rfl | (simp; done) | (simp [*]; done)), H', ⟨by have := HJ4.out; have := HK2.out; omega⟩, ⟨by (with_reducible repeat (first | apply Kd.S_alloc | apply Kd.S_drewN | apply Kd.S_drew)); exact HO_5.out⟩, ⟨zR HO_6.out⟩, ⟨zB⟩⟩
               · replace c22 := Bool.eq_false_iff.mpr c22
                 subst c22
                 have H1 : (impl_parts.l1 k2 l0 x5_2 (x6_2.set (x23_2 : Int).toNat true) (([x23_2] : List Int)) 0 (l0.length : Int) x23_2) = some r := by rw [if_neg (show ¬ (false = true) by decide)] at H; exact H
                 clear H
                 have H := H1
                 clear H1
                 obtain ⟨y376, hy376⟩ : ∃ y_ : List Bool, y_ = (x6_2.set (x23_2 : Int).toNat true) := ⟨_, rfl⟩
                 replace H : (impl_parts.l1 k2 l0 x5_2 y376 (([x23_2] : List Int)) 0 (l0.length : Int) x23_2) = some r := by first | (rw [hy376]; with_reducible exact H) | (have H2_ := (Option.bind_some _ _).symm.trans H; rw [hy376]; with_reducible exact H2_) | (have H2_ := (Option.bind_some _ _).symm.trans H; with_reducible exact H2_) | with_reducible exact H | (rw [hy376]; exact H) | exact H
                 have Ny376 := Aside0.mk hy376
                 clear hy376
                 obtain ⟨y377, hy377⟩ : ∃ y_ : List Int, y_ = (([x23_2] : List Int)) := ⟨_, rfl⟩
                 replace H : (impl_parts.l1 k2 l0 x5_2 y376 y377 0 (l0.length : Int) x23_2) = some r := by first | (rw [hy377]; with_reducible exact H) | (have H2_ := (Option.bind_some _ _).symm.trans H; rw [hy377]; with_reducible exact H2_) | (have H2_ := (Option.bind_some _ _).symm.trans H; with_reducible exact H2_) | with_reducible exact H | (rw [hy377]; exact H) | exact H
                 have Ny377 := Aside0.mk hy377
                 clear hy377
                 have H' := Aside0.mk H
                 clear H
                 obtain ⟨Ao25, co25, eo25⟩ := Kd.R_slice HO_6.out
                 subst eo25
                 have p375 : 0 ≤ (x23_2 : Int) := of_decide_eq_true zA
                 have q375 : x23_2 < (x6_2.length : Int) := of_decide_eq_true zA
                 obtain ⟨ad375, e375, hx375_0⟩ := Kd.at_bool (Kd.R_reads' HO_6.out).2.2 x23_2 p375 q375
                 (try rw [← Nbq21.out] at hx375_0)
                 cases e375
                 replace p375 := eq_true p375
                 replace q375 := eq_true q375
                 have p24 : 0 ≤ (x23_2 : Int) := of_decide_eq_true zA
                 have q24 : (x23_2 : Int) < ((x6_2.length : Int) : Int) := of_decide_eq_true zA
                 obtain ⟨go24, co24, eo24, gb24, gl24, cl24, HG24⟩ := Kd.R_form HO_6.out (by omega)
                 (first | cases eo24 | (injection eo24 with ea_ en_ ec_; (first | subst ea_ | (injection ea_ with ea_; subst ea_)); subst ec_; clear en_))
                 have GB24 := Aside0.mk gb24
                 have GG24 := Aside0.mk HG24
                 clear gb24 gl24 HG24
                 (first | simp only [add_plain] at hx375_0 | skip)
                 obtain ⟨hx24_0, hf24_0⟩ := Kd.R_celln false HO_6.out (x23_2 : Int) p24 q24
                 replace p24 := eq_true p24
                 replace q24 := eq_true q24
                 have HP26 := Kd.R_putg HO_6.out (x23_2 : Int) true
                 go_wp2_with (first | ((with_reducible refine gate_store (t := 4) (p := 32) rfl ?_); refine store_event (t := 4) (p := 32) (v := ?vo_w27) (w1 := (wr.setCell ⟨go24, (x23_2 : Int).toNat, none⟩ (.bool true))) ?hg ?ho ?hn ?hr ?_; (case ho => rfl); (case hg => rfl); (case hn => rfl); (case hr => first | (go_simp; done) | (go_simp; rfl)); intro w27 hw; have hg : wr.grownBy w27 (some go24) := (by rw [hw]; exact HP26.2); have hp_ : Kd.R Kd.bool 4 w27 w.heap.size (fun _ => True) (.slice (some ⟨go24, 0, none⟩) x6_2.length co25) y376 := (by rw [hw, Ny376.out]; exact HP26.1); clear HP26; replace HO_5 := zM (Kd.S_over' (v := (.slice (some ⟨go24, 0, none⟩) x6_2.length co25)) (by (with_reducible repeat (first | apply Kd.S_alloc | apply Kd.S_drewN | apply Kd.S_drew)); exact HO_5.out) (Kd.R_typed HO_6.out) (by decide) hg); replace HO_6 := zM (hp_); replace HB := zM ((by rw [hw]; exact below_set (HB.out) GB24.out : Below w.heap.size w w27)); clear hg hw hp_) | ((with_reducible refine gate_dst (N := 34) rfl ?_); refine Kd.R_lit (Kd.int .i64) _ 3 ?hg (N := 34) ?hd (xs := ([x23_2] : List Int)) (inner := [.int .i64 x23_2]) (ok := fun _ => True) (okp := fun _ => True) ?hr ?hp (fun _ hk => hk) trivial (Below.refl _ _) (Nat.le_refl _) (by simp) ?_; (case hd => rfl); (case hg => rfl); (case hr => first | (go_simp; done) | (go_simp; rfl)); (case hp => exact (Reps.one (show Kd.M (Kd.int .i64) _ _ _ x23_2 [.int .i64 x23_2] from rfl) (Reps.none _ _))); intro v378 w28 ho29 hb hg_ hnew_; clear hg_ hnew_; (first | rw [← Ny377.out] at ho29 | (simp only [Int.reduceToNat] at ho29; rw [← Ny377.out] at ho29)); replace HO_5 := zM (Kd.S_elder' (by (with_reducible repeat (first | apply Kd.S_alloc | apply Kd.S_drewN | apply Kd.S_drew)); exact HO_5.out) (Kd.R_base ho29) hb); replace HO_6 := zM (Kd.R_below (zR HO_6.out) hb); have HO379 := zM (Kd.R_lower ho29 (below_size zB)); replace HB := zM (below_step zB hb); clear hb ho29))
                 go_loopg [8, 9] k2 (fun kq v8 v9 w' => ∃ (x6_3 : List Bool) (x8_3 : List Int) (x9_3 : Int), v9 = .int .i64 x9_3 ∧ Aside0 (impl_parts.l1 kq l0 x5_2 x6_3 x8_3 x9_3 (l0.length : Int) x23_2 = some r) ∧ Aside0 (kq ≤ k2) ∧ Aside0 (Kd.S (Kd.slice 3 (Kd.int .i64)) 27 w' w.heap.size (fun k_ => some k_ ≠ (v8 : Value).ownBlock) u5 x5_2) ∧ Aside0 (Kd.R Kd.bool 4 w' w.heap.size (fun _ => True) (.slice (some ⟨go24, 0, none⟩) x6_2.length co25) x6_3) ∧ Aside0 (Kd.R (Kd.int .i64) 3 w' w.heap.size (fun _ => True) v8 x8_3) ∧ Aside0 (Below w.heap.size w w'))
                 case atStart => exact ⟨(y376), (y377), (0), (by first | rfl | (simp; done) | (simp [*]; done)), H', ⟨Nat.le_refl _⟩, ⟨by (with_reducible repeat (first | apply Kd.S_alloc | apply Kd.S_drewN | apply Kd.S_drew)); exact Kd.S_mono HO_5.out (fun _ hk => hk.2)⟩, ⟨zR HO_6.out⟩, ⟨zR HO379.out⟩, ⟨zB⟩⟩
                 case round =>
                  clear H'
                  try clear c1
                  try clear p1
                  try clear q1
                  try clear hx1
                  try clear c2
                  try clear p2
                  try clear q2
                  try clear hx2
                  try clear hf2
                  try clear c3
                  try clear c3b0
                  try clear c3b1
                  try clear p3
                  try clear q3
                  try clear hx3
                  try clear c4
                  try clear c4b0
                  try clear c4b1
                  try clear p6
                  try clear c12
                  try clear c12b0
                  try clear c13
                  try clear c13b0
                  try clear c14
                  try clear c14b0
                  try clear p15
                  try clear q15
                  try clear hx15
                  try clear hf15
                  try clear c18
                  try clear c18b0
                  try clear c19
                  try clear c19b0
                  try clear c20
                  try clear c20b0
                  try clear q21
                  try clear c22
                  try clear c24
                  try clear p24
                  try clear q24
                  try clear hx24
                  try clear hf24
                  try clear hx15_0
                  try clear hx24_0
                  try clear hx375_0
                  try clear p1
                  try clear p15
                  try clear p2
                  try clear p24
                  try clear p375
                  try clear q1
                  try clear q15
                  try clear q24
                  try clear q375
                  obtain ⟨x6_3, x8_3, x9_3, rfl, HA, HK3, HO_5, HO_6, HO_8, HB⟩ := hrel
                  have hl6_3 := (Kd.R_reads' HO_6.out).1
                  rw [hl6_3] at HO_6
                  (try simp only [hl6_3])
                  (try simp only [hl6_3] at HO_5)
                  (try simp only [hl6_3] at HO_8)
                  cases gk with
                  | zero => exact absurd HA.out (by simp [impl_parts.l1])
                  | succ k3 =>
                   have H := HA.out
                   clear HA
                   simp only [impl_parts.l1] at H
                   by_cases c30 : x9_3 < (x8_3.length : Int)
                   · rw [if_pos c30] at H
                     have c30b0 := decide_eq_true c30
                     clear c30
                     by_cases c31 : 0 ≤ x9_3
                     · rw [if_pos c31] at H
                       have c31b0 := decide_eq_true c31
                       clear c31
                       by_cases c32 : 0 ≤ (rd x8_3 x9_3)
                       · rw [if_pos c32] at H
                         have c32b0 := decide_eq_true c32
                         clear c32
                         by_cases c33 : (rd x8_3 x9_3) < (l0.length : Int)
                         · rw [if_pos c33] at H
                           have c33b0 := decide_eq_true c33
                           clear c33
                           have H' := Aside0.mk H
                           clear H
                           obtain ⟨Ao34, co34, eo34⟩ := Kd.R_slice HO_8.out
                           subst eo34
                           have p384 : 0 ≤ (x9_3 : Int) := of_decide_eq_true zA
                           have q384 : x9_3 < (x8_3.length : Int) := of_decide_eq_true zA
                           obtain ⟨ad384, e384, hx384_0⟩ := Kd.at_int (Kd.R_reads' HO_8.out).2.2 x9_3 p384 q384
                           cases e384
                           replace p384 := eq_true p384
                           replace q384 := eq_true q384
                           have p385 : 0 ≤ ((rd x8_3 x9_3) : Int) := of_decide_eq_true zA
                           have q385 : (rd x8_3 x9_3) < (l0.length : Int) := of_decide_eq_true zA
                           obtain ⟨ad385, A385_0, c385_0, e385, hx385_0, hl385_0, hi385_0⟩ := at_L1 HR0.out (rd x8_3 x9_3) p385 q385
                           cases e385
                           (try replace hx385_0 := (HB.out.cell (World.block_lt_of_cell? w _ hx385_0)).trans hx385_0)
                           have HR385_0 := Aside0.mk hi385_0
                           have HC385_0 := Aside0.mk hl385_0
                           clear hi385_0 hl385_0
                           replace p385 := eq_true p385
                           replace q385 := eq_true q385
                           go_wp2
                           go_loopg [8, 49] k3 (fun kq v8 v49 w' => ∃ (x6_4 : List Bool) (x8_4 : List Int) (x49_4 : Int), v49 = .int .i64 x49_4 ∧ Aside0 (impl_parts.l2 kq l0 x5_2 x6_4 x8_4 x9_3 (l0.length : Int) x23_2 (rd_L1 l0 (rd x8_3 x9_3)) ((rd_L1 l0 (rd x8_3 x9_3)).length : Int) x49_4 = some r) ∧ Aside0 (kq ≤ k3) ∧ Aside0 (Kd.S (Kd.slice 3 (Kd.int .i64)) 27 w' w.heap.size (fun k_ => some k_ ≠ (v8 : Value).ownBlock) u5 x5_2) ∧ Aside0 (Kd.R Kd.bool 4 w' w.heap.size (fun _ => True) (.slice (some ⟨go24, 0, none⟩) x6_3.length co25) x6_4) ∧ Aside0 (Kd.R (Kd.int .i64) 3 w' w.heap.size (fun _ => True) v8 x8_4) ∧ Aside0 (Below w.heap.size w w'))
                           case atStart => exact ⟨(x6_3), (x8_3), (0), (by first | rfl | (simp; done) | (simp [*]; done)), H', ⟨Nat.le_refl _⟩, ⟨by (try simp only [hl6_3]); (with_reducible repeat (first | apply Kd.S_alloc | apply Kd.S_drewN | apply Kd.S_drew)); exact HO_5.out⟩, ⟨by (try simp only [hl6_3]); (with_reducible repeat (first | apply Kd.R_alloc | apply Kd.R_drewN | apply Kd.R_drew)); exact HO_6.out⟩, ⟨by (try simp only [hl6_3]); (with_reducible repeat (first | apply Kd.R_alloc | apply Kd.R_drewN | apply Kd.R_drew)); exact HO_8.out⟩, ⟨zB⟩⟩
                           case round =>
                            clear H'
                            try clear c1
                            try clear p1
                            try clear q1
                            try clear hx1
                            try clear c2
                            try clear p2
                            try clear q2
                            try clear hx2
                            try clear hf2
                            try clear c3
                            try clear c3b0
                            try clear c3b1
                            try clear p3
                            try clear q3
                            try clear hx3
                            try clear c4
                            try clear c4b0
                            try clear c4b1
                            try clear p6
                            try clear c12
                            try clear c12b0
                            try clear c13
                            try clear c13b0
                            try clear c14
                            try clear c14b0
                            try clear p15
                            try clear q15
                            try clear hx15
                            try clear hf15
                            try clear c18
                            try clear c18b0
                            try clear c19
                            try clear c19b0
                            try clear c20
                            try clear c20b0
                            try clear q21
                            try clear c22
                            try clear c24
                            try clear p24
                            try clear q24
                            try clear hx24
                            try clear hf24
                            try clear c30
                            try clear c30b0
                            try clear c31
                            try clear c31b0
                            try clear c32
                            try clear c32b0
                            try clear c33
                            try clear c33b0
                            try clear hx15_0
                            try clear hx24_0
                            try clear hx375_0
                            try clear hx384_0
                            try clear hx385_0
                            try clear p1
                            try clear p15
                            try clear p2
                            try clear p24
                            try clear p3
                            try clear p375
                            try clear p384
                            try clear p385
                            try clear p6
                            try clear q1
                            try clear q15
                            try clear q2
                            try clear q21
                            try clear q24
                            try clear q3
                            try clear q375
                            try clear q384
                            try clear q385
                            obtain ⟨x6_4, x8_4, x49_4, rfl, HA, HK4, HO_5, HO_6, HO_8, HB⟩ := hrel
                            have hl6_4 := (Kd.R_reads' HO_6.out).1
                            rw [hl6_4] at HO_6
                            (try simp only [hl6_4])
                            (try simp only [hl6_4] at HO_5)
                            (try simp only [hl6_4] at HO_8)
                            cases gk with
                            | zero => exact absurd HA.out (by simp [impl_parts.l2])
                            | succ k4 =>
                             have H := HA.out
                             clear HA
                             simp only [impl_parts.l2] at H
                             by_cases c35 : x49_4 < ((rd_L1 l0 (rd x8_3 x9_3)).length : Int)
                             · rw [if_pos c35] at H
                               have c35b0 := decide_eq_true c35
                               clear c35
                               by_cases c36 : 0 ≤ x49_4
                               · rw [if_pos c36] at H
                                 have c36b0 := decide_eq_true c36
                                 clear c36
                                 by_cases c37 : x49_4 < ((rd_L1 l0 (rd x8_3 x9_3)).length : Int)
                                 · rw [if_pos c37] at H
                                   have c37b0 := decide_eq_true c37
                                   clear c37
                                   by_cases c38 : 0 ≤ (rd (rd_L1 l0 (rd x8_3 x9_3)) x49_4)
                                   · rw [if_pos c38] at H
                                     have c38b0 := decide_eq_true c38
                                     clear c38
                                     by_cases c39 : (rd (rd_L1 l0 (rd x8_3 x9_3)) x49_4) < (x6_4.length : Int)
                                     · rw [if_pos c39] at H
                                       have c39b0 := decide_eq_true c39
                                       clear c39
                                       obtain ⟨bq40, hbq40⟩ : ∃ b_ : Bool, b_ = (rdOf false x6_4 (rd (rd_L1 l0 (rd x8_3 x9_3)) x49_4)) := ⟨_, rfl⟩
                                       replace H : (if (bq40 = true) then (impl_parts.l2 k4 l0 x5_2 x6_4 x8_4 x9_3 (l0.length : Int) x23_2 (rd_L1 l0 (rd x8_3 x9_3)) ((rd_L1 l0 (rd x8_3 x9_3)).length : Int) (wrap64 (x49_4 + 1))) else (if x8_4.length < 17592186044416 then (impl_parts.l2 k4 l0 x5_2 (x6_4.set ((rd (rd_L1 l0 (rd x8_3 x9_3)) x49_4) : Int).toNat true) (x8_4 ++ [rd (rd_L1 l0 (rd x8_3 x9_3)) x49_4]) x9_3 (l0.length : Int) x23_2 (rd_L1 l0 (rd x8_3 x9_3)) ((rd_L1 l0 (rd x8_3 x9_3)).length : Int) (wrap64 (x49_4 + 1))) else (none))) = some r := by rw [← hbq40] at H; exact H
                                       have Nbq40 := Aside0.mk hbq40
                                       clear hbq40
                                       by_cases c41 : (bq40 = true)
                                       · subst c41
                                         rw [if_pos rfl] at H
                                         have H' := Aside0.mk H
                                         clear H
                                         have p386 : 0 ≤ (x49_4 : Int) := of_decide_eq_true zA
                                         have q386 : x49_4 < ((rd_L1 l0 (rd x8_3 x9_3)).length : Int) := of_decide_eq_true zA
                                         obtain ⟨ad386, e386, hx386_0⟩ := Kd.at_int HR385_0.out x49_4 p386 q386
                                         cases e386
                                         (try replace hx386_0 := (HB.out.cell (World.block_lt_of_cell? w _ hx386_0)).trans hx386_0)
                                         replace p386 := eq_true p386
                                         replace q386 := eq_true q386
                                         have p387 : 0 ≤ ((rd (rd_L1 l0 (rd x8_3 x9_3)) x49_4) : Int) := of_decide_eq_true zA
                                         have q387 : (rd (rd_L1 l0 (rd x8_3 x9_3)) x49_4) < (x6_4.length : Int) := of_decide_eq_true zA
                                         obtain ⟨ad387, e387, hx387_0⟩ := Kd.at_bool (Kd.R_reads' HO_6.out).2.2 (rd (rd_L1 l0 (rd x8_3 x9_3)) x49_4) p387 q387
                                         (try rw [← Nbq21.out] at hx387_0)
                                         (try rw [← Nbq40.out] at hx387_0)
                                         obtain rfl : (⟨go24, 0, none⟩ : Addr) = ad387 := (by injection e387)
                                         (first | simp only [add_plain] at hx387_0 | simp only [add_at] at hx387_0 | simp only [Addr.add, Nat.zero_add] at hx387_0 | skip)
                                         replace p387 := eq_true p387
                                         replace q387 := eq_true q387
                                         go_wp2
                                         (try simp only [← hl6_4])
                                         go_roundg k4
                                         case measure => have := HJ4.out; have := HK2.out; have := HK3.out; have := HK4.out; omega
                                         case rel => exact ⟨(x6_4), (x8_4), (wrap64 (x49_4 + 1)), (by first | rfl | (simp; done) | (simp [*]; done)), H', ⟨by have := HJ4.out; have := HK2.out; have := HK3.out; have := HK4.out; omega⟩, ⟨by (try simp only [hl6_3]); (try simp only [hl6_4]); (with_reducible repeat (first | apply Kd.S_alloc | apply Kd.S_drewN | apply Kd.S_drew)); exact HO_5.out⟩, ⟨by (try simp only [hl6_3]); (try simp only [hl6_4]); (with_reducible repeat (first | apply Kd.R_alloc | apply Kd.R_drewN | apply Kd.R_drew)); exact HO_6.out⟩, ⟨by (try simp only [hl6_3]); (try simp only [hl6_4]); (with_reducible repeat (first | apply Kd.R_alloc | apply Kd.R_drewN | apply Kd.R_drew)); exact HO_8.out⟩, ⟨zB⟩⟩
                                       · replace c41 := Bool.eq_false_iff.mpr c41
                                         subst c41
                                         have H1 : (if x8_4.length < 17592186044416 then (impl_parts.l2 k4 l0 x5_2 (x6_4.set ((rd (rd_L1 l0 (rd x8_3 x9_3)) x49_4) : Int).toNat true) (x8_4 ++ [rd (rd_L1 l0 (rd x8_3 x9_3)) x49_4]) x9_3 (l0.length : Int) x23_2 (rd_L1 l0 (rd x8_3 x9_3)) ((rd_L1 l0 (rd x8_3 x9_3)).length : Int) (wrap64 (x49_4 + 1))) else (none)) = some r := by rw [if_neg (show ¬ (false = true) by decide)] at H; exact H
                                         clear H
                                         have H := H1
                                         clear H1
                                         obtain ⟨y388, hy388⟩ : ∃ y_ : List Bool, y_ = (x6_4.set ((rd (rd_L1 l0 (rd x8_3 x9_3)) x49_4) : Int).toNat true) := ⟨_, rfl⟩
                                         replace H : (if x8_4.length < 17592186044416 then (impl_parts.l2 k4 l0 x5_2 y388 (x8_4 ++ [rd (rd_L1 l0 (rd x8_3 x9_3)) x49_4]) x9_3 (l0.length : Int) x23_2 (rd_L1 l0 (rd x8_3 x9_3)) ((rd_L1 l0 (rd x8_3 x9_3)).length : Int) (wrap64 (x49_4 + 1))) else (none)) = some r := by first | (rw [hy388]; with_reducible exact H) | (have H2_ := (Option.bind_some _ _).symm.trans H; rw [hy388]; with_reducible exact H2_) | (have H2_ := (Option.bind_some _ _).symm.trans H; with_reducible exact H2_) | with_reducible exact H | (rw [hy388]; exact H) | exact H
                                         have Ny388 := Aside0.mk hy388
                                         clear hy388
                                         by_cases c43 : x8_4.length < 17592186044416
                                         · rw [if_pos c43] at H
                                           have LMc43 := Aside0.mk c43
                                           clear c43
                                           obtain ⟨y389, hy389⟩ : ∃ y_ : List Int, y_ = (x8_4 ++ [rd (rd_L1 l0 (rd x8_3 x9_3)) x49_4]) := ⟨_, rfl⟩
                                           replace H : (impl_parts.l2 k4 l0 x5_2 y388 y389 x9_3 (l0.length : Int) x23_2 (rd_L1 l0 (rd x8_3 x9_3)) ((rd_L1 l0 (rd x8_3 x9_3)).length : Int) (wrap64 (x49_4 + 1))) = some r := by first | (rw [hy389]; with_reducible exact H) | (have H2_ := (Option.bind_some _ _).symm.trans H; rw [hy389]; with_reducible exact H2_) | (have H2_ := (Option.bind_some _ _).symm.trans H; with_reducible exact H2_) | with_reducible exact H | (rw [hy389]; exact H) | exact H
                                           have Ny389 := Aside0.mk hy389
                                           clear hy389
                                           have H' := Aside0.mk H
                                           clear H
                                           have p386 : 0 ≤ (x49_4 : Int) := of_decide_eq_true zA
                                           have q386 : x49_4 < ((rd_L1 l0 (rd x8_3 x9_3)).length : Int) := of_decide_eq_true zA
                                           obtain ⟨ad386, e386, hx386_0⟩ := Kd.at_int HR385_0.out x49_4 p386 q386
                                           cases e386
                                           (try replace hx386_0 := (HB.out.cell (World.block_lt_of_cell? w _ hx386_0)).trans hx386_0)
                                           replace p386 := eq_true p386
                                           replace q386 := eq_true q386
                                           have p387 : 0 ≤ ((rd (rd_L1 l0 (rd x8_3 x9_3)) x49_4) : Int) := of_decide_eq_true zA
                                           have q387 : (rd (rd_L1 l0 (rd x8_3 x9_3)) x49_4) < (x6_4.length : Int) := of_decide_eq_true zA
                                           obtain ⟨ad387, e387, hx387_0⟩ := Kd.at_bool (Kd.R_reads' HO_6.out).2.2 (rd (rd_L1 l0 (rd x8_3 x9_3)) x49_4) p387 q387
                                           (try rw [← Nbq21.out] at hx387_0)
                                           (try rw [← Nbq40.out] at hx387_0)
                                           obtain rfl : (⟨go24, 0, none⟩ : Addr) = ad387 := (by injection e387)
                                           (first | simp only [add_plain] at hx387_0 | simp only [add_at] at hx387_0 | simp only [Addr.add, Nat.zero_add] at hx387_0 | skip)
                                           replace p387 := eq_true p387
                                           replace q387 := eq_true q387
                                           have p42 : 0 ≤ ((rd (rd_L1 l0 (rd x8_3 x9_3)) x49_4) : Int) := of_decide_eq_true zA
                                           have q42 : ((rd (rd_L1 l0 (rd x8_3 x9_3)) x49_4) : Int) < ((x6_4.length : Int) : Int) := of_decide_eq_true zA
                                           obtain ⟨hx42_0, hf42_0⟩ := Kd.R_celln false HO_6.out ((rd (rd_L1 l0 (rd x8_3 x9_3)) x49_4) : Int) p42 q42
                                           replace p42 := eq_true p42
                                           replace q42 := eq_true q42
                                           have HP44 := Kd.R_putg HO_6.out ((rd (rd_L1 l0 (rd x8_3 x9_3)) x49_4) : Int) true
                                           go_wp2_with (first | ((with_reducible refine gate_store (t := 4) (p := 60) rfl ?_); refine store_event (t := 4) (p := 60) (v := ?vo_w45) (w1 := (wr.setCell ⟨go24, ((rd (rd_L1 l0 (rd x8_3 x9_3)) x49_4) : Int).toNat, none⟩ (.bool true))) ?hg ?ho ?hn ?hr ?_; (case ho => rfl); (case hg => rfl); (case hn => rfl); (case hr => first | (go_simp; done) | (go_simp; rfl)); intro w45 hw; have hg : wr.grownBy w45 (some go24) := (by rw [hw]; exact HP44.2); have hp_ : Kd.R Kd.bool 4 w45 w.heap.size (fun _ => True) (.slice (some ⟨go24, 0, none⟩) x6_4.length co25) y388 := (by rw [hw, Ny388.out]; exact HP44.1); clear HP44; replace HO_5 := zM (Kd.S_over' (v := (.slice (some ⟨go24, 0, none⟩) x6_4.length co25)) (by (with_reducible repeat (first | apply Kd.S_alloc | apply Kd.S_drewN | apply Kd.S_drew)); exact HO_5.out) (Kd.R_typed HO_6.out) (by decide) hg); replace HO_8 := zM (Kd.R_over' (v := (.slice (some ⟨go24, 0, none⟩) x6_4.length co25)) (zR HO_8.out) (Kd.R_typed HO_6.out) (by decide) hg); replace HO_6 := zM (hp_); replace HB := zM ((by rw [hw]; exact below_set (HB.out) GB24.out : Below w.heap.size w w45)); clear hg hw hp_) | ((with_reducible refine gate_builtin (b := .append) (xs := #[.tmp 61, .tmp 63]) rfl ?_); at_builtin; refine Kd.R_append (Kd.int .i64) (w0 := w) w.heap.size rfl (.tmp 61) (.tmp 63) 27 3 (.int .i64 0) 8 rfl Try.underlying27 info3 rfl (by decide) (by omega) u8 x8_4 (rd (rd_L1 l0 (rd x8_3 x9_3)) x49_4) [.int .i64 (rd (rd_L1 l0 (rd x8_3 x9_3)) x49_4)] (fun _ => True) (fun _ => False) rfl rfl ?aP (fun _ hk => hk.elim) ?aF ?aO ?aB ?aS ?aL ?_; (case aP => exact rfl); (case aB => exact zB); (case aF => exact (fun _ _ => trivial)); (case aO => exact (zR HO_8.out)); (case aS => exact (below_size zB)); (case aL => have := LMc43.out; omega); intro v390 w46 ho hb hg hat; rw [← Ny389.out] at ho; replace HO_5 := zM (Kd.S_after (ok := (fun _ => True)) (by (with_reducible repeat (first | apply Kd.S_alloc | apply Kd.S_drewN | apply Kd.S_drew)); exact Kd.S_mono HO_5.out (fun _ hk => ⟨trivial, hk⟩)) hg hat); replace HO_6 := zM (Kd.R_over' (zR HO_6.out) (Kd.R_typed (zR HO_8.out)) (by decide) hg); replace HB := zM (hb); have HO391 := zM (ho); clear HO_8; clear ho hb hg hat))
                                           (try simp only [← hl6_4])
                                           go_roundg k4
                                           case measure => have := HJ4.out; have := HK2.out; have := HK3.out; have := HK4.out; omega
                                           case rel => exact ⟨(y388), (y389), (wrap64 (x49_4 + 1)), (by first | rfl | (simp; done) | (simp [*]; done)), H', ⟨by have := HJ4.out; have := HK2.out; have := HK3.out; have := HK4.out; omega⟩, ⟨by (try simp only [hl6_3]); (try simp only [hl6_4]); (with_reducible repeat (first | apply Kd.S_alloc | apply Kd.S_drewN | apply Kd.S_drew)); exact Kd.S_mono HO_5.out (fun _ hk => hk.2)⟩, ⟨by (try simp only [hl6_3]); (try simp only [hl6_4]); (with_reducible repeat (first | apply Kd.R_alloc | apply Kd.R_drewN | apply Kd.R_drew)); exact HO_6.out⟩, ⟨by (try simp only [hl6_3]); (try simp only [hl6_4]); (with_reducible repeat (first | apply Kd.R_alloc | apply Kd.R_drewN | apply Kd.R_drew)); exact HO391.out⟩, ⟨zB⟩⟩
                                         · rw [if_neg c43] at H
                                           exact absurd H (by simp)
                                     · rw [if_neg c39] at H
                                       exact absurd H (by simp)
                                   · rw [if_neg c38] at H
                                     exact absurd H (by simp)
                                 · rw [if_neg c37] at H
                                   exact absurd H (by simp)
                               · rw [if_neg c36] at H
                                 exact absurd H (by simp)
                             · rw [if_neg c35] at H
                               have c35b0 : decide (x49_4 < ((rd_L1 l0 (rd x8_3 x9_3)).length : Int)) = false := decide_eq_false c35
                               clear c35
                               have H' := Aside0.mk H
                               clear H
                               go_wp2
                               (try simp only [← hl6_3, ← hl6_4])
                               go_roundg k4
                               case measure => have := HJ4.out; have := HK2.out; have := HK3.out; have := HK4.out; omega
                               case rel => exact ⟨(x6_4), (x8_4), (wrap64 (x9_3 + 1)), (by first | rfl | (simp; done) | (simp [*]; done)), H', ⟨by have := HJ4.out; have := HK2.out; have := HK3.out; have := HK4.out; omega⟩, ⟨by (try simp only [hl6_3]); (try simp only [hl6_4]); (with_reducible repeat (first | apply Kd.S_alloc | apply Kd.S_drewN | apply Kd.S_drew)); exact HO_5.out⟩, ⟨by (try simp only [hl6_3]); (try simp only [hl6_4]); (with_reducible repeat (first | apply Kd.R_alloc | apply Kd.R_drewN | apply Kd.R_drew)); exact HO_6.out⟩, ⟨by (try simp only [hl6_3]); (try simp only [hl6_4]); (with_reducible repeat (first | apply Kd.R_alloc | apply Kd.R_drewN | apply Kd.R_drew)); exact HO_8.out⟩, ⟨zB⟩⟩
                         · rw [if_neg c33] at H
                           exact absurd H (by simp)
                       · rw [if_neg c32] at H
                         exact absurd H (by simp)
                     · rw [if_neg c31] at H
                       exact absurd H (by simp)
                   · rw [if_neg c30] at H
                     have c30b0 : decide (x9_3 < (x8_3.length : Int)) = false := decide_eq_false c30
                     clear c30
                     replace H := Option.bind_eq_some_iff.mp H
                     obtain ⟨t380, A470, H⟩ := H
                     have A47 := Aside0.mk A470
                     clear A470
                     by_cases c48 : x5_2.length < 5864062014805
                     · rw [if_pos c48] at H
                       have LMc48 := Aside0.mk c48
                       clear c48
                       obtain ⟨y381, hy381⟩ : ∃ y_ : List (List Int), y_ = (x5_2 ++ [t380]) := ⟨_, rfl⟩
                       replace H : (impl_parts.l0 k3 l0 y381 x6_3 (l0.length : Int) (wrap64 (x23_2 + 1))) = some r := by first | (rw [hy381]; with_reducible exact H) | (have H2_ := (Option.bind_some _ _).symm.trans H; rw [hy381]; with_reducible exact H2_) | (have H2_ := (Option.bind_some _ _).symm.trans H; with_reducible exact H2_) | with_reducible exact H | (rw [hy381]; exact H) | exact H
                       have Ny381 := Aside0.mk hy381
                       clear hy381
                       have H' := Aside0.mk H
                       clear H
                       obtain ⟨Ao49, co49, eo49⟩ := Kd.R_slice HO_8.out
                       subst eo49
                       go_wp2_with (first | ((with_reducible refine gate_callee (f := 40) rfl ?_); refine zc 67 Try.func40 #[.slice Ao49 x8_3.length co49] ?_; (with_reducible refine (slices_Sort_int_int.calls (fun k_ => some k_ = (.slice Ao49 x8_3.length co49 : Value).ownBlock) (.slice Ao49 x8_3.length co49) x8_3 t380 w _ ?side1 ?side2 A47.out).mono ?_); (case side1 => repeat (first | (with_reducible first | exact HB.out | apply below_alloc | apply pw_below_drewN | apply below_drew1) | exact HB.out)); (case side2 => exact Kd.R_tight rfl HO_8.out); rintro e w50 ⟨rfl, hy0, hb, hkp⟩; refine ⟨_, rfl, ?_⟩; replace HO_5 := zM (Kd.S_mono (ok' := fun k_ => some k_ ≠ (.slice Ao49 x8_3.length co49 : Value).ownBlock) (Kd.S_keptB (HO_5.out) hkp (fun k_ hk_ hs_ => (hk_) hs_)) (fun k_ hk_ => hk_.1)); replace HO_6 := zM (Kd.R_mono (ok' := fun k_ => True) (Kd.R_keptB ((Kd.R_apart' HO_6.out (Kd.R_typed HO_8.out) (by decide))) hkp (fun k_ hk_ hs_ => (hk_.2) hs_)) (fun k_ hk_ => trivial)); replace HO_8 := zM (Kd.R_reok rfl hy0 (fun k_ e_ => HO_8.out.1 k_ e_)); replace HB := zM (hb); (try clear hb); (try clear hkp); (try clear hy0)) | ((with_reducible refine gate_builtin (b := .append) (xs := #[.tmp 68, .tmp 70]) rfl ?_); at_builtin; refine Kd.S_append (Kd.slice 3 (Kd.int .i64)) (w0 := w) w.heap.size rfl (.tmp 68) (.tmp 70) 22 27 (.slice none 0 0) 24 rfl Try.underlying22 info27 rfl (by decide) (by omega) u5 x5_2 t380 [.slice Ao49 x8_3.length co49] (fun _ => True) (fun k_ => some k_ = (.slice Ao49 x8_3.length co49 : Value).ownBlock) rfl rfl ?aP (fun k_ hk_ => ((Kd.R_mono (ok' := fun k_ => ((fun _ => True)) k_ ∧ some k_ ≠ (u5 : Value).ownBlock) (Kd.R_apart' (HO_8.out) (Kd.S_typed HO_5.out) (by decide)) (fun k_ hk => ⟨trivial, hk.2⟩))).1 k_ hk_.symm) ?aF ?aO ?aB ?aS ?aL ?_; (case aP => exact Kd.M_row (Kd.R_mono (Kd.R_tight rfl (Kd.R_mono (ok' := fun k_ => ((fun _ => True)) k_ ∧ some k_ ≠ (u5 : Value).ownBlock) (Kd.R_apart' (HO_8.out) (Kd.S_typed HO_5.out) (by decide)) (fun k_ hk => ⟨trivial, hk.2⟩))) (fun _ h_ => h_))); (case aB => exact zB); (case aF => exact (fun _ _ => trivial)); (case aO => exact (by (with_reducible repeat (first | apply Kd.S_alloc | apply Kd.S_drewN | apply Kd.S_drew)); exact Kd.S_mono HO_5.out (fun k_ hk => ⟨trivial, fun e_ => hk e_⟩))); (case aS => exact (below_size zB)); (case aL => have := LMc48.out; omega); intro v382 w51 ho hb hg hat; rw [← Ny381.out] at ho; replace HO_6 := zM (Kd.R_over' (zR HO_6.out) (Kd.S_typed (by (with_reducible repeat (first | apply Kd.S_alloc | apply Kd.S_drewN | apply Kd.S_drew)); exact HO_5.out)) (by decide) hg); replace HB := zM (hb); have HO383 := zM (ho); clear HO_5 HO_8; clear ho hb hg hat))
                       (try simp only [← hl6_3])
                       go_roundg k3
                       case measure => have := HJ4.out; have := HK2.out; have := HK3.out; omega
                       case rel => exact ⟨(y381), (x6_3), (wrap64 (x23_2 + 1)), (by first | rfl | (simp; done) | (simp [*]; done)), H', ⟨by have := HJ4.out; have := HK2.out; have := HK3.out; omega⟩, ⟨by (try simp only [hl6_3]); (with_reducible repeat (first | apply Kd.S_alloc | apply Kd.S_drewN | apply Kd.S_drew)); exact HO383.out⟩, ⟨by (try simp only [hl6_3]); (with_reducible repeat (first | apply Kd.R_alloc | apply Kd.R_drewN | apply Kd.R_drew)); exact HO_6.out⟩, ⟨zB⟩⟩
                     · rw [if_neg c48] at H
                       exact absurd H (by simp)
             · rw [if_neg c20] at H
               exact absurd H (by simp)
           · rw [if_neg c19] at H
             exact absurd H (by simp)
         · rw [if_neg c18] at H
           have c18b0 : decide (x23_2 < (l0.length : Int)) = false := decide_eq_false c18
           clear c18
           obtain rfl := Option.some.inj H
           go_wp2
           go_ret
           exact ⟨_, by first | rfl | (simp [errW_none, errW_some] <;> rfl) | (simp [*, errW_none, errW_some] <;> rfl), by (with_reducible repeat (first | apply Kd.S_alloc | apply Kd.S_drewN | apply Kd.S_drew)); exact HO_5.out, zB⟩
   · rw [if_neg c4] at H
     exact absurd H (by simp)
 · rw [if_neg c3] at H
   exact absurd H (by simp)

end Go.Proofs.Ytaemfocjokkopaa.P
