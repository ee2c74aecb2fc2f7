/-
  DERIVED: THE SHELF's CONTRACTS AT THIS DUMP, IN PLAIN WORDS (tools/lay-plain.mjs out of 'TryShelf.lean', which tools/lay-shelf.mjs wrote): THE SAME DECLARATIONS UNDER THE SAME NAMES: 'import', 'namespace', 'open', 'def', 'theorem' AND NOTHING ELSE: no command of the shelf's: FOR A HAND-IN. Each laying: the table of numbers ('.._ren') and one theorem, a field a fact of the dump's own or the kernel's comparison; each contract: ONE APPLICATION.
-/
import Derived.Shelf.Small.Bits
import Derived.Shelf.Strconv.Itoa0
import Derived.Ground.Names2Prog
import Derived.Shelf.Slices.SearchI
import Derived.Ground.SlsfProg
import Derived.Shelf.SlSortCmp.Insertion
import Derived.Shelf.SlSortCmp.SiftDown1
import Derived.Shelf.SlSortCmp.HeapSort1
import Derived.Shelf.SlSortCmp.Insertion1
import Derived.Shelf.SlSortCmp.Median1
import Derived.Shelf.SlSortCmp.Pivot1
import Derived.Shelf.SlSortCmp.ReverseRange1
import Derived.Shelf.SlSortCmp.PartialInsertion1
import Derived.Shelf.SlSortCmp.PartitionEqual1
import Derived.Shelf.SlSortCmp.Partition1
import Derived.Shelf.SlSortCmp.Pdq1
import Derived.Shelf.SlSortCmp.Whole1
import Derived.Shelf.SlSortCmp.NoneTotal
import Derived.Test.YtfaeopmofgnbdaaProg
import Derived.Test.YtfaeopmofgnbdaaWideNumberG5
import Derived.ProofKit
import Derived.OpenShut
import Derived.Deep.Matrix
import Derived.Lib.SmallJoins
import Derived.Handy
import Derived.Shelf.Abstract
import Derived.Test.YtfaeopmofgnbdaaWideNumberG12
import Derived.Test.YtfaeopmofgnbdaaWideNumberG6
import Derived.Test.YtfaeopmofgnbdaaWideNumberG8
import Derived.Test.YtfaeopmofgnbdaaWideNumberG10
namespace Go.Proofs
open Go.Shelf
def Try.laysSlF6_f46_ren : Go.Shelf.Ren := ⟨fun | 6 => 46 | 15 => 65 | 14 => 64 | 28 => 79 | 29 => 80 | 20 => 71 | 21 => 72 | 22 => 73 | 23 => 74 | 24 => 75 | 25 => 76 | 26 => 77 | 27 => 78 | 46 => 83 | 47 => 84 | 48 => 85 | 49 => 86 | 50 => 87 | 57 => 88 | n => n, fun | 22 => 34 | 24 => 37 | 25 => 68 | 3 => 3 | 39 => 54 | 0 => 0 | 53 => 90 | 55 => 92 | 4 => 4 | 46 => 84 | 45 => 83 | 50 => 26 | 5 => 5 | 9 => 9 | 66 => 95 | 70 => 99 | 76 => 101 | 77 => 102 | n => n, fun | n => n⟩
theorem Try.laysSlF6_f46 : Go.Proofs.SlLaysF.n6 Try.prog Try.laysSlF6_f46_ren := {
  mixed := by kernel_rfl
  f6 := ⟨Try.f46.name, by decide, Try.func46.trans (congrArg some (by kernel_rfl))⟩
  f14 := ⟨Try.f64.name, by decide, Try.func64.trans (congrArg some (by kernel_rfl))⟩
  f15 := Try.func65.trans (congrArg some (by kernel_rfl))
  f20 := ⟨Try.f71.name, by decide, Try.func71.trans (congrArg some (by kernel_rfl))⟩
  f21 := ⟨Try.f72.name, by decide, Try.func72.trans (congrArg some (by kernel_rfl))⟩
  f22 := ⟨Try.f73.name, by decide, Try.func73.trans (congrArg some (by kernel_rfl))⟩
  f23 := ⟨Try.f74.name, by decide, Try.func74.trans (congrArg some (by kernel_rfl))⟩
  f24 := ⟨Try.f75.name, by decide, Try.func75.trans (congrArg some (by kernel_rfl))⟩
  f25 := ⟨Try.f76.name, by decide, Try.func76.trans (congrArg some (by kernel_rfl))⟩
  f26 := ⟨Try.f77.name, by decide, Try.func77.trans (congrArg some (by kernel_rfl))⟩
  f27 := ⟨Try.f78.name, by decide, Try.func78.trans (congrArg some (by kernel_rfl))⟩
  f28 := Try.func79.trans (congrArg some (by kernel_rfl))
  f29 := Try.func80.trans (congrArg some (by kernel_rfl))
  f46 := ⟨Try.f83.name, by decide, Try.func83.trans (congrArg some (by kernel_rfl))⟩
  f47 := Try.func84.trans (congrArg some (by kernel_rfl))
  f48 := Try.func85.trans (congrArg some (by kernel_rfl))
  f49 := ⟨Try.f86.name, by decide, Try.func86.trans (congrArg some (by kernel_rfl))⟩
  f50 := ⟨Try.f87.name, by decide, Try.func87.trans (congrArg some (by kernel_rfl))⟩
  f57 := ⟨Try.f88.name, by decide, Try.func88.trans (congrArg some (by kernel_rfl))⟩
  t0 := Try.underlying0
  a0 := Try.isAgg0
  z0 := Try.sizeOf0
  v0 := Try.zeroValue0
  t3 := Try.underlying3
  a3 := Try.isAgg3
  z3 := Try.sizeOf3
  v3 := Try.zeroValue3
  t4 := Try.underlying4
  a4 := Try.isAgg4
  z4 := Try.sizeOf4
  v4 := Try.zeroValue4
  t5 := Try.underlying5
  a5 := Try.isAgg5
  z5 := Try.sizeOf5
  v5 := Try.zeroValue5
  t9 := Try.underlying9
  a9 := Try.isAgg9
  z9 := Try.sizeOf9
  v9 := Try.zeroValue9
  t22 := Try.underlying34
  a22 := Try.isAgg34
  z22 := Try.sizeOf34
  v22 := Try.zeroValue34
  a24 := Try.isAgg37
  z24 := Try.sizeOf37
  t25 := Try.underlying68
  a25 := Try.isAgg68
  z25 := Try.sizeOf68
  v25 := Try.zeroValue68
  t39 := Try.underlying54
  a39 := Try.isAgg54
  z39 := Try.sizeOf54
  v39 := Try.zeroValue54
  t45 := Try.underlying83
  a45 := Try.isAgg83
  z45 := Try.sizeOf83
  v45 := Try.zeroValue83
  t46 := Try.underlying84
  a46 := Try.isAgg84
  z46 := Try.sizeOf84
  v46 := Try.zeroValue84
  t50 := Try.underlying26
  a50 := Try.isAgg26
  z50 := Try.sizeOf26
  v50 := Try.zeroValue26
  t53 := Try.underlying90
  a53 := Try.isAgg90
  z53 := Try.sizeOf90
  v53 := Try.zeroValue90
  t55 := Try.underlying92
  a55 := Try.isAgg92
  z55 := Try.sizeOf92
  v55 := Try.zeroValue92
  t66 := Try.underlying95
  a66 := Try.isAgg95
  z66 := Try.sizeOf95
  v66 := Try.zeroValue95
  t70 := Try.underlying99
  a70 := Try.isAgg99
  z70 := Try.sizeOf99
  v70 := Try.zeroValue99
  t76 := Try.underlying101
  a76 := Try.isAgg101
  z76 := Try.sizeOf101
  v76 := Try.zeroValue101
  t77 := Try.underlying102
  a77 := Try.isAgg102
  z77 := Try.sizeOf102
  v77 := Try.zeroValue102 }
open Go.RowKit Go.Lib Go.Sort in
/-- **slices.SortFunc, IN THE DOCUMENTATION's OWN TERMS: A PERMUTATION OF WHAT THE ROW HELD, SORTED BY 'cmp(a, b) < 0'.** Which of two equals comes first is left open ("The sort is not guaranteed to be stable"). (LAID AT THE INSTANCE 'slices.SortFunc[[][]int,[]int]': no walk: one application.) -/
theorem Try.slices_SortFunc {α : Type} [Inhabited α] (enc : α → Value) (h1 : OneCell enc) (cf : α → α → Int) (hO : SWO (ltOf cf)) (g : Nat) (cb : Array Value) (blk off cap : Nat) (d : Array α) (w : World) (eg : ∀ args w, (callFunc g args).run Try.prog w = .ok (.enter g args) w) (hcmp : CmpLays1 Try.prog g cb enc cf blk off d.size w) (hH : Holds enc w blk off d) (hblk : blk < w.heap.size) (hsz : d.size < 4611686018427387904) :
    Calls Try.prog 46 #[.slice (some ⟨blk, off, none⟩) d.size cap, .func (.func g) #[] cb] w fun e w' =>
      e = .returned (.tuple #[]) ∧ ∃ d' n os, PermIn 0 d.size d d' ∧ SortedIn (ltOf cf) 0 d.size d' ∧ w' = sortWorld enc w blk off n d' os := Any.slices_SortFunc Try.laysSlF6_f46 enc h1 cf hO g cb blk off cap d w eg hcmp hH hblk hsz
def Try.laysSlF06_f46_ren : Go.Shelf.Ren := ⟨fun | 6 => 46 | 15 => 65 | 14 => 64 | 28 => 79 | 29 => 80 | 20 => 71 | 21 => 72 | 22 => 73 | 23 => 74 | 24 => 75 | 25 => 76 | 26 => 77 | 27 => 78 | 46 => 83 | 47 => 84 | 48 => 85 | 49 => 86 | 50 => 87 | 57 => 88 | n => n, fun | 22 => 34 | 24 => 37 | 25 => 68 | 3 => 3 | 39 => 54 | 0 => 0 | 53 => 90 | 55 => 92 | 4 => 4 | 46 => 84 | 45 => 83 | 50 => 26 | 5 => 5 | 9 => 9 | 66 => 95 | 70 => 99 | 76 => 101 | 77 => 102 | n => n, fun | n => n⟩
theorem Try.laysSlF06_f46 : Go.Proofs.SlLaysF0.n6 Try.prog Try.laysSlF06_f46_ren := {
  mixed := by kernel_rfl
  f6 := ⟨Try.f46.name, by decide, Try.func46.trans (congrArg some (by kernel_rfl))⟩
  f14 := ⟨Try.f64.name, by decide, Try.func64.trans (congrArg some (by kernel_rfl))⟩
  f15 := Try.func65.trans (congrArg some (by kernel_rfl))
  f20 := ⟨Try.f71.name, by decide, Try.func71.trans (congrArg some (by kernel_rfl))⟩
  f21 := ⟨Try.f72.name, by decide, Try.func72.trans (congrArg some (by kernel_rfl))⟩
  f22 := ⟨Try.f73.name, by decide, Try.func73.trans (congrArg some (by kernel_rfl))⟩
  f23 := ⟨Try.f74.name, by decide, Try.func74.trans (congrArg some (by kernel_rfl))⟩
  f24 := ⟨Try.f75.name, by decide, Try.func75.trans (congrArg some (by kernel_rfl))⟩
  f25 := ⟨Try.f76.name, by decide, Try.func76.trans (congrArg some (by kernel_rfl))⟩
  f26 := ⟨Try.f77.name, by decide, Try.func77.trans (congrArg some (by kernel_rfl))⟩
  f27 := ⟨Try.f78.name, by decide, Try.func78.trans (congrArg some (by kernel_rfl))⟩
  f28 := Try.func79.trans (congrArg some (by kernel_rfl))
  f29 := Try.func80.trans (congrArg some (by kernel_rfl))
  f46 := ⟨Try.f83.name, by decide, Try.func83.trans (congrArg some (by kernel_rfl))⟩
  f47 := Try.func84.trans (congrArg some (by kernel_rfl))
  f48 := Try.func85.trans (congrArg some (by kernel_rfl))
  f49 := ⟨Try.f86.name, by decide, Try.func86.trans (congrArg some (by kernel_rfl))⟩
  f50 := ⟨Try.f87.name, by decide, Try.func87.trans (congrArg some (by kernel_rfl))⟩
  f57 := ⟨Try.f88.name, by decide, Try.func88.trans (congrArg some (by kernel_rfl))⟩
  t0 := Try.underlying0
  a0 := Try.isAgg0
  z0 := Try.sizeOf0
  v0 := Try.zeroValue0
  t3 := Try.underlying3
  a3 := Try.isAgg3
  z3 := Try.sizeOf3
  v3 := Try.zeroValue3
  t4 := Try.underlying4
  a4 := Try.isAgg4
  z4 := Try.sizeOf4
  v4 := Try.zeroValue4
  t5 := Try.underlying5
  a5 := Try.isAgg5
  z5 := Try.sizeOf5
  v5 := Try.zeroValue5
  t9 := Try.underlying9
  a9 := Try.isAgg9
  z9 := Try.sizeOf9
  v9 := Try.zeroValue9
  t22 := Try.underlying34
  a22 := Try.isAgg34
  z22 := Try.sizeOf34
  v22 := Try.zeroValue34
  t25 := Try.underlying68
  a25 := Try.isAgg68
  z25 := Try.sizeOf68
  v25 := Try.zeroValue68
  t39 := Try.underlying54
  a39 := Try.isAgg54
  z39 := Try.sizeOf54
  v39 := Try.zeroValue54
  t45 := Try.underlying83
  a45 := Try.isAgg83
  z45 := Try.sizeOf83
  v45 := Try.zeroValue83
  t46 := Try.underlying84
  a46 := Try.isAgg84
  z46 := Try.sizeOf84
  v46 := Try.zeroValue84
  t50 := Try.underlying26
  a50 := Try.isAgg26
  z50 := Try.sizeOf26
  v50 := Try.zeroValue26
  t53 := Try.underlying90
  a53 := Try.isAgg90
  z53 := Try.sizeOf90
  v53 := Try.zeroValue90
  t55 := Try.underlying92
  a55 := Try.isAgg92
  z55 := Try.sizeOf92
  v55 := Try.zeroValue92
  t66 := Try.underlying95
  a66 := Try.isAgg95
  z66 := Try.sizeOf95
  v66 := Try.zeroValue95
  t70 := Try.underlying99
  a70 := Try.isAgg99
  z70 := Try.sizeOf99
  v70 := Try.zeroValue99
  t76 := Try.underlying101
  a76 := Try.isAgg101
  z76 := Try.sizeOf101
  v76 := Try.zeroValue101
  t77 := Try.underlying102
  a77 := Try.isAgg102
  z77 := Try.sizeOf102
  v77 := Try.zeroValue102 }
open Go.RowKit Go.Lib Go.Sort in
/-- **slices.SortFunc AT NO ELEMENT, A nil SLICE TOO: nothing turns.** (LAID AT THE INSTANCE 'slices.SortFunc[[][]int,[]int]': no walk: one application.) -/
theorem Try.slices_SortFunc_none {α : Type} [Inhabited α] (p : Option Addr) (cap : Nat) (fv : Value) (w : World) :
    Calls Try.prog 46 #[.slice p 0 cap, fv] w fun e w' => e = .returned (.tuple #[]) ∧ w' = w := AnyF.slices_SortFunc_none Try.laysSlF06_f46 p cap fv w
end Go.Proofs
namespace Go.Proofs.Ytfaeopmofgnbdaa.P
open Go.RowKit Go.Deep Go.ChangeShapes Go.Joins Go.Proofs.YtfaeopmofgnbdaaW.PrintWords
set_option linter.unusedVariables false
set_option linter.unusedSimpArgs false
def FitP (l : List S48) : Prop := l.length ≤ 9223372036854775807 ∧ ∀ e ∈ l, (Lit.int .i64 e.f0).wf = true ∧ (Lit.int .i64 e.f1).wf = true
section
variable {H : Type} {enc : TypeId × Value → H} {W : World} {base : Nat} {held : Bool} {fuel : Nat}

theorem read_prs {v : Value} {y : DataW H × List MemPlace} (h : DataW.trod enc Try.prog W base (fun _ => true) held fuel 22 [v] = some y) :
    ∃ (A : Option Addr) (c : Nat) (l : List S48), v = .slice A l.length c ∧ l.length ≤ c ∧ Kd.C k48 W A l.length l ∧ FitP l := by
  rcases open_slice Try.underlying22 h with ⟨hcs, _⟩ | ⟨a, len, cap, m, n, D, Pl, hcs, _, hl, hm, hmm, _, hx⟩
  · injection hcs with hv _
    exact ⟨none, 0, [], hv, Nat.le_refl _, ⟨rfl, Nat.zero_le _, fun h0 => absurd h0 (Nat.lt_irrefl _)⟩, ⟨Nat.zero_le _, fun n hn => by cases hn⟩⟩
  · injection hcs with hv _
    have hce : Try.prog.cellsOf 48 = 2 := by kernel_rfl
    have hci : Try.prog.cellsOf 3 = 1 := by kernel_rfl
    have each : ∀ i, i < len → ∃ e : S48, (W.cell? (a.add (i * 2)) = some (.int .i64 e.f0) ∧ W.cell? (a.add (i * 2 + 1)) = some (.int .i64 e.f1)) ∧ (Lit.int .i64 e.f0).wf = true ∧ (Lit.int .i64 e.f1).wf = true := by
      intro i hi
      obtain ⟨cs', h1, h2⟩ := hx i (by simp only [if_true] at hmm; omega)
      rw [hce] at h1
      obtain ⟨_, hcl, hcc⟩ := World.cells?_some h1
      obtain ⟨c0, c1, rfl⟩ : ∃ c0 c1, cs' = [c0, c1] := by
        match cs', hcl with
        | [c0, c1], _ => exact ⟨c0, c1, rfl⟩
      obtain ⟨xs, q, rfl, hq, _, hxl, he⟩ := DataW.trod_array Try.underlying48 h2
      have e0 := he 0 (by omega)
      have e1 := he 1 (by omega)
      simp only [hci] at e0 e1
      obtain ⟨y0, hy0⟩ : ∃ y0, xs[0]? = some y0 := ⟨xs[0], List.getElem?_eq_getElem (by omega)⟩
      obtain ⟨y1, hy1⟩ : ∃ y1, xs[1]? = some y1 := ⟨xs[1], List.getElem?_eq_getElem (by omega)⟩
      rw [hy0] at e0
      rw [hy1] at e1
      obtain ⟨n0, k0, _, w0⟩ := DataW.trod_int Try.underlying3 e0
      obtain ⟨n1, k1, _, w1⟩ := DataW.trod_int Try.underlying3 e1
      simp at k0 k1
      subst k0
      subst k1
      have f0 := hcc 0 (by omega)
      have f1 := hcc 1 (by omega)
      refine ⟨⟨n0, n1⟩, ⟨?_, ?_⟩, w0, w1⟩
      · rw [Addr.add_add, Nat.add_zero] at f0
        simpa using f0
      · rw [Addr.add_add] at f1
        simpa using f1
    have hlen : ((List.range len).map fun i => if hi : i < len then (each i hi).choose else z48).length = len := by simp
    refine ⟨some a, cap, (List.range len).map fun i => if hi : i < len then (each i hi).choose else z48, by rw [hlen]; exact hv, by omega, ⟨rfl, by unfold maxLen at hm; omega, fun _ => ⟨a, rfl, fun j p hj => ?_⟩⟩, ⟨by rw [hlen]; unfold maxLen at hm; omega, ?_⟩⟩
    · have hj2 := (List.getElem?_eq_some_iff.1 hj).1
      rw [hlen] at hj2
      have hp : (each j hj2).choose = p := by
        rw [List.getElem?_map, List.getElem?_range hj2] at hj
        simpa [hj2] using hj
      obtain ⟨⟨h1, h2⟩, _⟩ := (each j hj2).choose_spec
      rw [hp] at h1 h2
      refine ⟨[.int .i64 p.f0, .int .i64 p.f1], rfl, k48_mk W p, fun i u hi => ?_⟩
      rw [show k48.sz = 2 from rfl]
      match i, hi with
      | 0, hi =>
        have hu : Value.int .i64 p.f0 = u := by simpa using hi
        subst hu
        exact h1
      | 1, hi =>
        have hu : Value.int .i64 p.f1 = u := by simpa using hi
        subst hu
        exact h2
    · intro e he
      rw [List.mem_map] at he
      obtain ⟨r, hr, rfl⟩ := he
      have hr2 := List.mem_range.1 hr
      simp only [hr2, dif_pos]
      exact (each r hr2).choose_spec.2
end
end Go.Proofs.Ytfaeopmofgnbdaa.P
namespace Go.Proofs.Ytfaeopmofgnbdaa.P
open Go.RowKit Go.Proofs.YtfaeopmofgnbdaaW.PrintWords Go.Proofs.YtfaeopmofgnbdaaW.PrintLast Go.Proofs.YtfaeopmofgnbdaaW.PrintMore
set_option linter.unusedVariables false
set_option linter.unusedSimpArgs false
section
variable {α β : Type}
theorem Ev.pos {c : Prop} [Decidable c] {f g : Nat → Option α} {r : α} (h : c) (k : Ev f r) : Ev (fun n => if c then f n else g n) r := by simpa only [if_pos h] using k
theorem Ev.neg {c : Prop} [Decidable c] {f g : Nat → Option α} {r : α} (h : ¬ c) (k : Ev g r) : Ev (fun n => if c then f n else g n) r := by simpa only [if_neg h] using k
theorem Ev.bindo {o : Option α} {f : Nat → α → Option β} {a : α} {r : β} (h : o = some a) (k : Ev (fun n => f n a) r) : Ev (fun n => o.bind (f n)) r := by simpa only [h, Option.bind_some] using k
theorem Ev.some {o : Option α} {r : α} (h : o = some r) : Ev (fun _ => o) r := ⟨0, fun _ _ => h⟩
end
theorem wrap_nat {m : Int} (h : -9223372036854775808 ≤ m) (h2 : m ≤ 9223372036854775807) : wrap64 m = m := by unfold wrap64; omega
theorem wrap_up {m n : Nat} (h : m < n) (hn : n ≤ 9223372036854775807) : wrap64 ((m : Int) + 1) = ((m + 1 : Nat) : Int) := by unfold wrap64; omega
theorem rd_at (l : List Int) (m : Nat) (h : m < l.length) : rd l (m : Int) = l[m] := by simp [rd, List.getD_eq_getElem?_getD, List.getElem?_eq_getElem h]
theorem rdT_at (l : List S48) (m : Nat) (h : m < l.length) : rd_T48 l (m : Int) = l[m] := by simp [rd_T48, List.getD_eq_getElem?_getD, List.getElem?_eq_getElem h]

/-! The size of a graph that comes in. -/
theorem sz_graph (a : Int) (l : List S48) (hl : l.length ≤ 9223372036854775807) : ∃ t, laws_szGraph.f a l 1048576 = some t ∧ (t < 0 ∨ l.length ≤ 1048576) := by
  unfold laws_szGraph.f laws_szIntA2S.f
  rw [wrap_nat (m := 1048576 - (l.length : Int)) (by omega) (by omega)]
  by_cases h : (1048576 - (l.length : Int)) < 0
  · rw [if_pos h]; exact ⟨-1, rfl, .inl (by omega)⟩
  · rw [if_neg h, Option.bind_some, if_neg h]; exact ⟨_, rfl, .inr (by omega)⟩
/-! Copies. -/
theorem take_set_next {α : Type} (l acc : List α) (m : Nat) (hm : m < l.length) (ha : acc.length = l.length) (h : acc.take m = l.take m) : (acc.set m l[m]).take (m + 1) = l.take (m + 1) := by
  rw [List.take_succ_eq_append_getElem (by rw [List.length_set]; omega), List.take_succ_eq_append_getElem hm, List.getElem_set_self, List.take_set_of_le (Nat.le_refl _), h]
theorem toIntA2S_loop (l : List S48) (hl : l.length ≤ 1048576) (d : Nat) : ∀ (acc : List S48) (m : Nat), l.length - m = d → m ≤ l.length → acc.length = l.length → acc.take m = l.take m →
    Ev (fun k => laws_toIntA2S.l0 k l acc (m : Int)) l := by
  induction d with
  | zero =>
    intro acc m h0 h1 h2 h3
    refine Ev.step (fun k => by rw [laws_toIntA2S.l0]) ?_
    refine Ev.neg (by omega) ?_
    have : acc = l := by rw [← List.take_length (l := acc), ← List.take_length (l := l), h2, show l.length = m by omega]; exact h3
    rw [this]
    exact Ev.now _
  | succ d ih =>
    intro acc m h0 h1 h2 h3
    have hm : m < l.length := by omega
    refine Ev.step (fun k => by rw [laws_toIntA2S.l0]) ?_
    refine Ev.pos (by omega) (Ev.pos (by omega) (Ev.bindo rfl (Ev.pos (by omega) ?_)))
    rw [wrap_up hm (by omega), rdT_at l m hm, Int.toNat_natCast]
    exact ih _ (m + 1) (by omega) (by omega) (by rw [List.length_set]; exact h2) (take_set_next l acc m hm h2 h3)
theorem toIntA2S_ev (l : List S48) (hl : l.length ≤ 1048576) : Ev (fun k => laws_toIntA2S.f k l) l := by
  unfold laws_toIntA2S.f
  refine Ev.pos (by omega) (Ev.pos (by omega) ?_)
  exact toIntA2S_loop l hl l.length _ 0 (by omega) (Nat.zero_le _) (by simp) (by simp)
theorem toGraph_ev (a : Int) (l : List S48) (hl : l.length ≤ 1048576) : Ev (fun k => laws_toGraph.f k a l) (a, l) := by
  unfold laws_toGraph.f
  exact Ev.bind (toIntA2S_ev l hl) (Ev.now _)
/-! Comparisons of equals. -/
theorem eqIntA2S_loop (l : List S48) (hl : l.length ≤ 1048576) (d : Nat) : ∀ (m : Nat), l.length - m = d → m ≤ l.length → Ev (fun k => laws_eqIntA2S.l0 k l l (m : Int)) true := by
  induction d with
  | zero =>
    intro m h0 h1
    refine Ev.step (fun k => by rw [laws_eqIntA2S.l0]) ?_
    exact Ev.neg (by omega) (Ev.now _)
  | succ d ih =>
    intro m h0 h1
    have hm : m < l.length := by omega
    refine Ev.step (fun k => by rw [laws_eqIntA2S.l0]) ?_
    refine Ev.pos (by omega) (Ev.pos (by omega) (Ev.pos (by omega) (Ev.bindo (a := true) (by simp [laws_eqIntA2.f]) (Ev.pos rfl ?_))))
    rw [wrap_up hm (by omega)]
    exact ih (m + 1) (by omega) (by omega)
theorem eqIntA2S_ev (l : List S48) (hl : l.length ≤ 1048576) : Ev (fun k => laws_eqIntA2S.f k l l) true := by
  unfold laws_eqIntA2S.f
  exact Ev.pos rfl (eqIntA2S_loop l hl l.length 0 (by omega) (Nat.zero_le _))
theorem eqGraph_ev (a : Int) (l : List S48) (hl : l.length ≤ 1048576) : Ev (fun k => laws_eqGraph.f k a l a l) true := by
  unfold laws_eqGraph.f
  exact Ev.pos rfl (Ev.bind (eqIntA2S_ev l hl) (Ev.pos rfl (Ev.now _)))
end Go.Proofs.Ytfaeopmofgnbdaa.P
namespace Go.Proofs.Ytfaeopmofgnbdaa.P
open Go.RowKit Go.Proofs.YtfaeopmofgnbdaaW.PrintWords Go.Proofs.YtfaeopmofgnbdaaW.PrintLast Go.Proofs.YtfaeopmofgnbdaaW.PrintMore
set_option linter.unusedVariables false
set_option linter.unusedSimpArgs false

/-- Function g, bound to the variables lb, answers p; memory that was there stays. -/
def PredB {α : Type} (g : Nat) (lb : Array Value) (enc : α → Value) (p : α → Bool) (l : List α) (w : World) : Prop :=
  ∀ (W : World) (x : α), x ∈ l → Below w.heap.size w W → Calls Try.prog g (#[enc x] ++ lb) W fun e w' => e = .returned (.bool (p x)) ∧ Below W.heap.size W w'


set_option maxRecDepth 100000 in
set_option maxHeartbeats 2000000 in
theorem idxf_prs (g : Nat) (lb : Array Value) (eg : ∀ (args : Array Value) (w : World), (callFunc g args).run Try.prog w = .ok (.enter g args) w) (p : S48 → Bool) (A0 : Option Addr) (c0 : Nat) (l0 : List S48) (w : World) (hr0 : Kd.C k48 w A0 l0.length l0)
    (hp : PredB g lb (fun x : S48 => Value.agg #[.int .i64 x.f0, .int .i64 x.f1]) p l0 w) :
    Calls Try.prog 81 #[.slice A0 l0.length c0, .func (.func g) #[] lb] w fun e w' => (∃ r : Int, e = .returned (.int .i64 r) ∧ (0 ≤ r ↔ l0.any p = true)) ∧ Below w.heap.size w w' := by
  have HR0 := Aside0.mk hr0
  have HP := Aside0.mk hp
  have HL := Aside0.mk (hr0.2.1)
  clear hr0 hp
  go_enter Try.func81, Try.ntmps81
  go_wp2
  go_loopg [8, 5] (l0.length + 1) (fun kq v8 v5 w' => ∃ (m : Nat), v8 = .int .i64 m ∧ Aside0 (m ≤ l0.length) ∧ Aside0 (kq = l0.length - m + 1) ∧ Aside0 ((l0.take m).any p = false) ∧ Aside0 (Below w.heap.size w w'))
  case atStart => exact ⟨0, rfl, ⟨Nat.zero_le _⟩, ⟨by omega⟩, ⟨by simp⟩, ⟨Below.refl _ _⟩⟩
  case round =>
    obtain ⟨m, rfl, HM, HK1, HA, HB⟩ := hrel
    by_cases c1 : m < l0.length
    · have p1 : (0 : Int) ≤ (m : Int) := by omega
      have q1 : (m : Int) < (l0.length : Int) := by omega
      obtain ⟨ad, e1, hx0, hx1⟩ := at_T48 HR0.out (m : Int) p1 q1
      cases e1
      replace hx0 := (HB.out.cell (World.block_lt_of_cell? w _ hx0)).trans hx0
      replace hx1 := (HB.out.cell (World.block_lt_of_cell? w _ hx1)).trans hx1
      rw [Int.toNat_natCast] at hx0 hx1
      have HG := Aside0.mk (show l0[m] = rd_T48 l0 m by simp [rd_T48, List.getD_eq_getElem?_getD, List.getElem?_eq_getElem c1])
      have HT := Aside0.mk (show (l0.take (m + 1)).any p = p (rd_T48 l0 m) by rw [List.take_succ_eq_append_getElem c1, List.any_append, HA.out, HG.out]; simp)
      have HQ := Aside0.mk (show p (rd_T48 l0 m) = true → l0.any p = true from fun hq => List.any_eq_true.2 ⟨l0[m], List.getElem_mem c1, by rw [HG.out]; exact hq⟩)
      have c1b : decide ((m : Int) < (l0.length : Int)) = true := decide_eq_true q1
      have c1c : decide (m < l0.length) = true := decide_eq_true c1
      have hw1 : (m : Int) + 1 ≤ 9223372036854775807 := by have := HL.out; omega
      have hcall := HP.out _ (rd_T48 l0 m) (by rw [← HG.out]; exact List.getElem_mem c1) HB.out
      have HC := Aside0.mk hcall
      replace p1 := eq_true p1
      replace q1 := eq_true q1
      clear c1 hcall HG HA
      cases hq : p (rd_T48 l0 m) with
      | true =>
        have HQ2 := Aside0.mk (HQ.out hq)
        rw [hq] at HC
        clear hq HQ HT
        go_wp2_with (go_at_fn g; refine HC.out.mono ?_; rintro e w' ⟨rfl, hb⟩)
        go_ret
        exact ⟨⟨_, rfl, ⟨fun _ => HQ2.out, fun _ => by have := of_eq_true p1; first | exact this | (simpa using this) | omega⟩⟩, below_step HB.out hb⟩
      | false =>
        rw [hq] at HT HC
        clear hq HQ
        go_wp2_with (go_at_fn g; refine HC.out.mono ?_; rintro e w' ⟨rfl, hb⟩)
        go_roundg (l0.length - m)
        case measure => have := HK1.out; have := HM.out; omega
        case rel => exact ⟨m + 1, by first | rfl | (simp; done) | go_num, ⟨by have := of_eq_true q1; omega⟩, ⟨by have := of_eq_true q1; omega⟩, HT, ⟨below_step HB.out hb⟩⟩
    · have q1 : ¬ (m : Int) < (l0.length : Int) := by omega
      have c1b : decide ((m : Int) < (l0.length : Int)) = false := decide_eq_false q1
      have c1c : decide (m < l0.length) = false := decide_eq_false c1
      have H3 : Aside0 (l0.any p = false) := ⟨by
        have e_ := HA.out
        rw [List.take_of_length_le (show l0.length ≤ m by omega)] at e_
        exact e_⟩
      clear HA c1 q1
      go_wp2
      go_ret
      exact ⟨⟨-1, rfl, by rw [H3.out]; simp⟩, HB.out⟩
set_option maxRecDepth 100000 in
set_option maxHeartbeats 2000000 in
theorem cont_prs (g : Nat) (lb : Array Value) (eg : ∀ (args : Array Value) (w : World), (callFunc g args).run Try.prog w = .ok (.enter g args) w) (p : S48 → Bool) (A0 : Option Addr) (c0 : Nat) (l0 : List S48) (w : World) (hr0 : Kd.C k48 w A0 l0.length l0)
    (hp : PredB g lb (fun x : S48 => Value.agg #[.int .i64 x.f0, .int .i64 x.f1]) p l0 w) :
    Calls Try.prog 67 #[.slice A0 l0.length c0, .func (.func g) #[] lb] w fun e w' => e = .returned (.bool (l0.any p)) ∧ Below w.heap.size w w' := by
  have HR0 := Aside0.mk hr0
  have HP := Aside0.mk hp
  clear hr0 hp
  go_enter Try.func67, Try.ntmps67
  go_wp2_with (go_at_call 81; refine (idxf_prs g lb eg p A0 c0 l0 w HR0.out HP.out).mono ?_; rintro e w' ⟨⟨r, rfl, hr⟩, hb⟩; have HQ := Aside0.mk hr; have HB := Aside0.mk hb; clear hr hb)
  go_ret
  refine ⟨?_, HB.out⟩
  have := HQ.out
  cases ha : l0.any p <;> rw [ha] at this <;> simp at this <;> simp <;> omega

end Go.Proofs.Ytfaeopmofgnbdaa.P
namespace Go.Proofs.Ytfaeopmofgnbdaa.P
open Go.RowKit Go.Proofs.YtfaeopmofgnbdaaW.PrintWords Go.Proofs.YtfaeopmofgnbdaaW.PrintLast Go.Proofs.YtfaeopmofgnbdaaW.PrintMore
set_option linter.unusedVariables false
set_option linter.unusedSimpArgs false

def cmpI (a b : Int) : Int := if a < b then -1 else if a > b then 1 else 0
theorem cmp_Compare_at (a b : Int) : cmp_Compare_int.f a b = some (cmpI a b) := by
  unfold cmp_Compare_int.f cmp_isNaN_int.f cmpI
  simp only [Option.bind_some, bne_self_eq_false, Bool.false_eq_true, if_false]
  split
  · rfl
  · split <;> rfl
def cmpL : List Int → List Int → Int
  | [], [] => 0
  | [], _ :: _ => -1
  | _ :: _, [] => 1
  | a :: x, b :: y => if cmpI a b = 0 then cmpL x y else cmpI a b
theorem wrap_succ {m n : Nat} (h : m < n) (hn : n ≤ 9223372036854775807) : wrap64 ((m : Int) + 1) = ((m + 1 : Nat) : Int) := by unfold wrap64; omega
theorem slices_Compare_loop (l0 l1 : List Int) (hl : Aside0 (l0.length ≤ 9223372036854775807)) (d : Nat) : ∀ (k m : Nat), l0.length - m = d → m ≤ l0.length → m ≤ l1.length → d < k →
    slices_Compare_int_int.l0 k l0 l1 l0 (l0.length : Int) (m : Int) = some (cmpL (l0.drop m) (l1.drop m)) := by
  induction d with
  | zero =>
    intro k m h0 h1 h2 hk
    obtain ⟨k, rfl⟩ : ∃ q, k = q + 1 := ⟨k - 1, by omega⟩
    have e : m = l0.length := by omega
    subst e
    rw [slices_Compare_int_int.l0, if_neg (by omega), List.drop_length]
    by_cases h : l0.length < l1.length
    · rw [if_pos (by omega), List.drop_eq_getElem_cons h]; rfl
    · have e3 : l1.drop l0.length = [] := List.drop_eq_nil_of_le (by omega)
      rw [if_neg (by omega), e3]; rfl
  | succ d ih =>
    intro k m h0 h1 h2 hk
    obtain ⟨k, rfl⟩ : ∃ q, k = q + 1 := ⟨k - 1, by omega⟩
    have hm : m < l0.length := by omega
    rw [slices_Compare_int_int.l0, if_pos (by omega), if_pos (by omega), if_pos (by omega)]
    by_cases h : m < l1.length
    · rw [if_neg (by omega), if_pos (by omega), cmp_Compare_at, Option.bind_some]
      have e0 : rd l0 m = l0[m] := by simp [rd, List.getD_eq_getElem?_getD, List.getElem?_eq_getElem hm]
      have e1 : rd l1 m = l1[m] := by simp [rd, List.getD_eq_getElem?_getD, List.getElem?_eq_getElem h]
      rw [e0, e1, List.drop_eq_getElem_cons hm, List.drop_eq_getElem_cons h, cmpL]
      split
      · rw [wrap_succ hm hl.out]
        exact ih k (m + 1) (by omega) (by omega) (by omega) (by omega)
      · rfl
    · have e3 : l1.drop m = [] := List.drop_eq_nil_of_le (by omega)
      rw [if_pos (by omega), List.drop_eq_getElem_cons hm, e3]; rfl
theorem slices_Compare_at (l0 l1 : List Int) (hl : l0.length ≤ 9223372036854775807) (k : Nat) (hk : l0.length < k) : slices_Compare_int_int.f k l0 l1 = some (cmpL l0 l1) :=
  slices_Compare_loop l0 l1 ⟨hl⟩ l0.length k 0 (by omega) (Nat.zero_le _) (Nat.zero_le _) hk
def cmpP (a b : S48) : Int := if cmpI a.f0 b.f0 = 0 then cmpI a.f1 b.f1 else cmpI a.f0 b.f0
theorem comparePairs_at (a b : S48) (k : Nat) (hk : 3 ≤ k) : impl_comparePairs.f k a.f0 a.f1 b.f0 b.f1 = some (cmpP a b) := by
  obtain ⟨k, rfl⟩ : ∃ q, k = q + 3 := ⟨k - 3, by omega⟩
  unfold impl_comparePairs.f cmp_Or_int.f
  simp only [cmp_Compare_at, Option.bind_some]
  unfold cmpP
  generalize cmpI a.f0 b.f0 = x
  generalize cmpI a.f1 b.f1 = y
  have w1 : wrap64 (0 + 1) = 1 := by unfold wrap64; omega
  have w2 : wrap64 (1 + 1) = 2 := by unfold wrap64; omega
  have r0 : rd [x, y] 0 = x := rfl
  have r1 : rd [x, y] 1 = y := rfl
  have hn : (([x, y] : List Int).length : Int) = 2 := rfl
  rw [hn, cmp_Or_int.l0, if_pos (by omega), if_pos (by omega), hn, if_pos (by omega), r0, w1]
  by_cases h : x = 0
  · rw [if_pos h, if_pos h, cmp_Or_int.l0, if_pos (by omega), if_pos (by omega), hn, if_pos (by omega), r1, w2]
    by_cases h2 : y = 0
    · rw [if_pos h2, cmp_Or_int.l0, if_neg (by omega), h2]; rfl
    · rw [if_neg h2]; rfl
  · rw [if_neg h, if_neg h]; rfl
end Go.Proofs.Ytfaeopmofgnbdaa.P
namespace Go.Proofs.Ytfaeopmofgnbdaa.P
open Go.RowKit Go.Proofs.YtfaeopmofgnbdaaW.PrintWords Go.Proofs.YtfaeopmofgnbdaaW.PrintLast Go.Proofs.YtfaeopmofgnbdaaW.PrintMore
set_option linter.unusedVariables false
set_option linter.unusedSimpArgs false

theorem in_at (a lo hi : Int) : spec_l1In.f a lo hi = some (decide (lo ≤ a) && decide (a ≤ hi)) := by
  unfold spec_l1In.f
  by_cases h : lo ≤ a
  · rw [if_pos h, decide_eq_true h, Bool.true_and]
  · rw [if_neg h, decide_eq_false h, Bool.false_and]
theorem between_at (a lo hi : Int) : impl_between.f a lo hi = some (decide (lo ≤ a) && decide (a ≤ hi)) := by
  unfold impl_between.f
  by_cases h : lo ≤ a
  · rw [if_pos h, decide_eq_true h, Bool.true_and]
  · rw [if_neg h, decide_eq_false h, Bool.false_and]
/-- A pair comes before another one. -/
def befP (a b : S48) : Bool := decide (a.f0 < b.f0) || (decide (a.f0 = b.f0) && decide (a.f1 < b.f1))
theorem edge_at (a b : S48) : spec_l2Edge.f a.f0 a.f1 b.f0 b.f1 = some (befP a b) := by
  unfold spec_l2Edge.f befP
  by_cases h : a.f0 < b.f0
  · rw [if_pos h, decide_eq_true h, Bool.true_or]
  · rw [if_neg h, decide_eq_false h, Bool.false_or]
    by_cases h2 : a.f0 = b.f0
    · rw [if_pos h2, decide_eq_true h2, Bool.true_and]
    · rw [if_neg h2, decide_eq_false h2, Bool.false_and]
theorem cmpP_bef (a b : S48) : (cmpP a b < 0) ↔ befP a b = true := by
  unfold cmpP befP cmpI
  simp only [Bool.or_eq_true, Bool.and_eq_true, decide_eq_true_eq]
  by_cases h : a.f0 < b.f0
  · simp [h]
  · by_cases h2 : b.f0 < a.f0
    · have : ¬ a.f0 = b.f0 := by omega
      simp [h, h2, this]
    · have h3 : a.f0 = b.f0 := by omega
      by_cases h4 : a.f1 < b.f1
      · simp [h3, h4]
      · by_cases h5 : b.f1 < a.f1 <;> simp [h3, h4, h5]
/-- Pairs of numbers from 0 on below n, the less one first, strictly ascending behind a first one. -/
def goodP (n : Int) : Option S48 → List S48 → Bool
  | _, [] => true
  | p, e :: t => (decide (0 ≤ e.f0) && decide (e.f0 < e.f1) && decide (e.f1 < n)) && ((match p with | none => true | some q => befP q e) && goodP n (some e) t)
def prevP (l : List S48) : Nat → Option S48
  | 0 => none
  | m + 1 => l[m]?
theorem goodP_step (l : List S48) (n : Int) (m : Nat) (hm : m < l.length) : goodP n (prevP l m) (l.drop m) = ((decide (0 ≤ l[m].f0) && decide (l[m].f0 < l[m].f1) && decide (l[m].f1 < n)) && ((match prevP l m with | none => true | some q => befP q l[m]) && goodP n (prevP l (m + 1)) (l.drop (m + 1)))) := by
  rw [List.drop_eq_getElem_cons hm, show prevP l (m + 1) = some l[m] from List.getElem?_eq_getElem hm]
  cases prevP l m <;> rfl
theorem l2Pairs_loop (l : List S48) (n : Int) (hn : 0 ≤ n) (hn2 : n ≤ 4611686018427387904) (hl : l.length ≤ 1048576) (d : Nat) : ∀ (m : Nat), l.length - m = d → m ≤ l.length →
    Ev (fun k => spec_l2Pairs.l0 k l n (m : Int)) (goodP n (prevP l m) (l.drop m)) := by
  induction d with
  | zero =>
    intro m h0 h1
    refine Ev.step (fun k => by rw [spec_l2Pairs.l0]) ?_
    have e3 : l.drop m = [] := List.drop_eq_nil_of_le (by omega)
    rw [e3]
    refine Ev.neg (by omega) ?_
    cases prevP l m <;> exact Ev.now _
  | succ d ih =>
    intro m h0 h1
    have hm : m < l.length := by omega
    refine Ev.step (fun k => by rw [spec_l2Pairs.l0]) ?_
    rw [goodP_step l n m hm]
    refine Ev.pos (by omega) (Ev.pos (by omega) ?_)
    rw [rdT_at l m hm, wrap_nat (m := n - 1) (by omega) (by omega)]
    have ihm := ih (m + 1) (by omega) (by omega)
    rw [← wrap_up hm (by omega)] at ihm
    generalize goodP n (prevP l (m + 1)) (l.drop (m + 1)) = R at ihm ⊢
    refine Ev.bindo (in_at _ _ _) ?_
    by_cases c1 : 0 ≤ l[m].f0
    · by_cases c2 : l[m].f0 ≤ n - 1
      · refine Ev.pos (by simp [c1, c2]) (Ev.bindo (in_at _ _ _) ?_)
        by_cases c3 : 0 ≤ l[m].f1 ∧ l[m].f1 ≤ n - 1
        · refine Ev.pos (by simp [c3.1, c3.2]) ?_
          by_cases c4 : l[m].f0 ≥ l[m].f1
          · have : (decide (0 ≤ l[m].f0) && decide (l[m].f0 < l[m].f1) && decide (l[m].f1 < n)) = false := by simp; omega
            rw [this, Bool.false_and]
            exact Ev.pos c4 (Ev.now _)
          · have : (decide (0 ≤ l[m].f0) && decide (l[m].f0 < l[m].f1) && decide (l[m].f1 < n)) = true := by simp; omega
            rw [this, Bool.true_and]
            refine Ev.neg c4 ?_
            cases m with
            | zero =>
              refine Ev.neg (by omega) ?_
              simp only [prevP, Bool.true_and]
              exact ihm
            | succ q =>
              have hq : q < l.length := by omega
              have hw : wrap64 (((q + 1 : Nat) : Int) - 1) = (q : Int) := by unfold wrap64; omega
              refine Ev.pos (by omega) ?_
              rw [hw]
              refine Ev.pos (by omega) (Ev.pos (by omega) ?_)
              rw [rdT_at l q hq]
              refine Ev.bindo (edge_at _ _) ?_
              simp only [prevP, List.getElem?_eq_getElem hq]
              cases befP l[q] l[q + 1] with
              | true => rw [Bool.true_and]; exact Ev.pos rfl ihm
              | false => rw [Bool.false_and]; exact Ev.neg (by decide) (Ev.now _)
        · have : (decide (0 ≤ l[m].f0) && decide (l[m].f0 < l[m].f1) && decide (l[m].f1 < n)) = false := by simp; omega
          rw [this, Bool.false_and]
          exact Ev.neg (by simp; omega) (Ev.now _)
      · have : (decide (0 ≤ l[m].f0) && decide (l[m].f0 < l[m].f1) && decide (l[m].f1 < n)) = false := by simp; omega
        rw [this, Bool.false_and]
        exact Ev.neg (by simp; omega) (Ev.now _)
    · have : (decide (0 ≤ l[m].f0) && decide (l[m].f0 < l[m].f1) && decide (l[m].f1 < n)) = false := by simp; omega
      rw [this, Bool.false_and]
      exact Ev.neg (by simp; omega) (Ev.now _)
theorem isPairs_loop (l : List S48) (n : Int) (hl : l.length ≤ 1048576) (d : Nat) : ∀ (m : Nat), l.length - m = d → m ≤ l.length →
    Ev (fun k => impl_isPairs.l0 k l n l (l.length : Int) (m : Int)) (goodP n (prevP l m) (l.drop m)) := by
  induction d with
  | zero =>
    intro m h0 h1
    refine Ev.step (fun k => by rw [impl_isPairs.l0]) ?_
    have e3 : l.drop m = [] := List.drop_eq_nil_of_le (by omega)
    rw [e3]
    refine Ev.neg (by omega) ?_
    cases prevP l m <;> exact Ev.now _
  | succ d ih =>
    intro m h0 h1
    have hm : m < l.length := by omega
    refine Ev.step (fun k => by rw [impl_isPairs.l0]) ?_
    rw [goodP_step l n m hm]
    refine Ev.pos (by omega) (Ev.pos (by omega) (Ev.pos (by omega) ?_))
    rw [rdT_at l m hm]
    have ihm := ih (m + 1) (by omega) (by omega)
    rw [← wrap_up hm (by omega)] at ihm
    generalize goodP n (prevP l (m + 1)) (l.drop (m + 1)) = R at ihm ⊢
    by_cases c1 : l[m].f0 < 0
    · have : (decide (0 ≤ l[m].f0) && decide (l[m].f0 < l[m].f1) && decide (l[m].f1 < n)) = false := by simp; omega
      rw [this, Bool.false_and]
      exact Ev.pos c1 (Ev.now _)
    · refine Ev.neg c1 ?_
      by_cases c2 : l[m].f0 ≥ l[m].f1
      · have : (decide (0 ≤ l[m].f0) && decide (l[m].f0 < l[m].f1) && decide (l[m].f1 < n)) = false := by simp; omega
        rw [this, Bool.false_and]
        exact Ev.pos c2 (Ev.now _)
      · refine Ev.neg c2 ?_
        by_cases c3 : l[m].f1 ≥ n
        · have : (decide (0 ≤ l[m].f0) && decide (l[m].f0 < l[m].f1) && decide (l[m].f1 < n)) = false := by simp; omega
          rw [this, Bool.false_and]
          exact Ev.pos c3 (Ev.now _)
        · have : (decide (0 ≤ l[m].f0) && decide (l[m].f0 < l[m].f1) && decide (l[m].f1 < n)) = true := by simp; omega
          rw [this, Bool.true_and]
          refine Ev.neg c3 ?_
          cases m with
          | zero =>
            refine Ev.neg (by omega) ?_
            simp only [prevP, Bool.true_and]
            exact ihm
          | succ q =>
            have hq : q < l.length := by omega
            have hw : wrap64 (((q + 1 : Nat) : Int) - 1) = (q : Int) := by unfold wrap64; omega
            refine Ev.pos (by omega) ?_
            rw [hw]
            refine Ev.pos (by omega) (Ev.pos (by omega) ?_)
            rw [rdT_at l q hq]
            refine Ev.bind (a := cmpP l[q] l[q + 1]) ⟨3, fun k hk => comparePairs_at _ _ k hk⟩ ?_
            simp only [prevP, List.getElem?_eq_getElem hq]
            have hb := cmpP_bef l[q] l[q + 1]
            cases hbb : befP l[q] l[q + 1] with
            | true => rw [Bool.true_and]; exact Ev.neg (by have := hb.2 hbb; omega) ihm
            | false => rw [Bool.false_and]; exact Ev.pos (by rw [hbb] at hb; have : ¬ cmpP l[q] l[q+1] < 0 := fun h => by have := hb.1 h; cases this
                                                             omega) (Ev.now _)
theorem l2Pairs_ev (l : List S48) (n : Int) (hn : 0 ≤ n) (hn2 : n ≤ 4611686018427387904) (hl : l.length ≤ 1048576) : Ev (fun k => spec_l2Pairs.f k l n) (goodP n none l) :=
  l2Pairs_loop l n hn hn2 hl l.length 0 (by omega) (Nat.zero_le _)
theorem isPairs_ev (l : List S48) (n : Int) (hl : l.length ≤ 1048576) : Ev (fun k => impl_isPairs.f k l n) (goodP n none l) :=
  isPairs_loop l n hl l.length 0 (by omega) (Nat.zero_le _)
/-- A valid graph. -/
def okG (a : Int) (l : List S48) : Bool := (decide (0 ≤ a) && decide (a ≤ 8)) && goodP a none l
theorem l2Good_ev (a : Int) (l : List S48) (hl : l.length ≤ 1048576) : Ev (fun k => spec_l2Good.f k a l) (okG a l) := by
  unfold spec_l2Good.f okG
  refine Ev.bindo (in_at _ _ _) ?_
  by_cases h : (decide (0 ≤ a) && decide (a ≤ 8)) = true
  · rw [h, Bool.true_and]
    simp at h
    exact Ev.pos rfl (Ev.bind (l2Pairs_ev l a h.1 (by omega) hl) (Ev.now _))
  · have h2 : (decide (0 ≤ a) && decide (a ≤ 8)) = false := by simpa using h
    rw [h2, Bool.false_and]
    exact Ev.neg (by decide) (Ev.now _)
theorem impl_IsGraph_ev (a : Int) (l : List S48) (hl : l.length ≤ 1048576) : Ev (fun k => impl_IsGraph.f k a l) (okG a l) := by
  unfold impl_IsGraph.f okG
  refine Ev.bindo (between_at _ _ _) ?_
  by_cases h : (decide (0 ≤ a) && decide (a ≤ 8)) = true
  · rw [h, Bool.true_and]
    exact Ev.pos rfl (Ev.bind (isPairs_ev l a hl) (Ev.now _))
  · have h2 : (decide (0 ≤ a) && decide (a ≤ 8)) = false := by simpa using h
    rw [h2, Bool.false_and]
    exact Ev.neg (by decide) (Ev.now _)
end Go.Proofs.Ytfaeopmofgnbdaa.P
namespace Go.Proofs.Ytfaeopmofgnbdaa.P
open Go.RowKit Go.Proofs.YtfaeopmofgnbdaaW.PrintWords Go.Proofs.YtfaeopmofgnbdaaW.PrintLast Go.Proofs.YtfaeopmofgnbdaaW.PrintMore
set_option linter.unusedVariables false
set_option linter.unusedSimpArgs false

theorem rdL_at (l : List (List Int)) (m : Nat) (h : m < l.length) : rd_L2 l (m : Int) = l[m] := by simp [rd_L2, List.getD_eq_getElem?_getD, List.getElem?_eq_getElem h]
/-- A space of moderate size. -/
def modS (l : List (List Int)) (e : List S48) : Prop := l.length ≤ 1048576 ∧ (∀ s ∈ l, s.length ≤ 1048576) ∧ e.length ≤ 1048576
/-- A list comes before another one. -/
def befL : List Int → List Int → Bool
  | [], [] => false
  | [], _ :: _ => true
  | _ :: _, [] => false
  | a :: x, b :: y => if a = b then befL x y else decide (a < b)
theorem l2Before_loop (x y : List Int) (hx : x.length ≤ 1048576) (hy : y.length ≤ 1048576) (d : Nat) : ∀ (m : Nat), x.length - m = d → m ≤ x.length → m ≤ y.length →
    Ev (fun k => spec_l2Before.l0 k x y (m : Int)) (befL (x.drop m) (y.drop m)) := by
  induction d with
  | zero =>
    intro m h0 h1 h2
    refine Ev.step (fun k => by rw [spec_l2Before.l0]) (Ev.neg (by omega) (Ev.step (fun k => by rw [spec_l2Before.j1]) (Ev.neg (by decide) ?_)))
    rw [show x.drop m = [] from List.drop_eq_nil_of_le (by omega)]
    by_cases h : m < y.length
    · rw [List.drop_eq_getElem_cons h, show decide ((x.length : Int) < (y.length : Int)) = true from decide_eq_true (by omega)]
      exact Ev.now _
    · rw [List.drop_eq_nil_of_le (by omega), show decide ((x.length : Int) < (y.length : Int)) = false from decide_eq_false (by omega)]
      exact Ev.now _
  | succ d ih =>
    intro m h0 h1 h2
    have hm : m < x.length := by omega
    refine Ev.step (fun k => by rw [spec_l2Before.l0]) (Ev.pos (by omega) (Ev.step (fun k => by rw [spec_l2Before.j1]) ?_))
    rw [List.drop_eq_getElem_cons hm]
    by_cases h : m < y.length
    · refine Ev.pos (decide_eq_true (by omega)) (Ev.pos (by omega) (Ev.pos (by omega) (Ev.pos (by omega) ?_)))
      rw [rd_at x m hm, rd_at y m h, List.drop_eq_getElem_cons h, befL]
      by_cases c : x[m] = y[m]
      · rw [if_pos c, wrap_up hm (by omega)]
        exact Ev.pos c (ih (m + 1) (by omega) (by omega) (by omega))
      · rw [if_neg c]
        exact Ev.neg c (Ev.now _)
    · refine Ev.neg (by rw [decide_eq_false (by omega)]; decide) ?_
      rw [show y.drop m = [] from List.drop_eq_nil_of_le (by omega), show decide ((x.length : Int) < (y.length : Int)) = false from decide_eq_false (by omega)]
      exact Ev.now _
theorem l2Before_ev (x y : List Int) (hx : x.length ≤ 1048576) (hy : y.length ≤ 1048576) : Ev (fun k => spec_l2Before.f k x y) (befL x y) :=
  l2Before_loop x y hx hy x.length 0 (by omega) (Nat.zero_le _) (Nat.zero_le _)
theorem cmpL_bef (x : List Int) : ∀ y, (cmpL x y ≥ 0) ↔ befL x y = false := by
  induction x with
  | nil => intro y; cases y <;> simp [cmpL, befL]
  | cons a x ih =>
    intro y
    cases y with
    | nil => simp [cmpL, befL]
    | cons b y =>
      simp only [cmpL, befL]
      unfold cmpI
      by_cases h : a < b
      · rw [if_pos h, if_neg (by decide), if_neg (by omega), decide_eq_true h]
        simp
      · rw [if_neg h]
        by_cases h2 : a > b
        · rw [if_pos h2, if_neg (by decide), if_neg (by omega), decide_eq_false h]
          simp
        · rw [if_neg h2, if_pos rfl, if_pos (by omega)]
          exact ih y
section
variable (l : List (List Int)) (e : List S48) (h : modS l e)
include h
end
end Go.Proofs.Ytfaeopmofgnbdaa.P
namespace Go.Proofs.Ytfaeopmofgnbdaa.P
open Go.RowKit Go.Proofs.YtfaeopmofgnbdaaW.PrintWords Go.Proofs.YtfaeopmofgnbdaaW.PrintLast Go.Proofs.YtfaeopmofgnbdaaW.PrintMore
set_option linter.unusedVariables false

theorem befL_trans (x : List Int) : ∀ y z, befL x y = true → befL y z = true → befL x z = true := by
  induction x with
  | nil =>
    intro y z h1 h2
    cases y with
    | nil => simp [befL] at h1
    | cons b y => cases z with
      | nil => simp [befL] at h2
      | cons c z => rfl
  | cons a x ih =>
    intro y z h1 h2
    cases y with
    | nil => simp [befL] at h1
    | cons b y => cases z with
      | nil => simp [befL] at h2
      | cons c z =>
        simp only [befL] at h1 h2 ⊢
        by_cases hab : a = b
        · by_cases hbc : b = c
          · rw [if_pos hab] at h1
            rw [if_pos hbc] at h2
            rw [if_pos (hab.trans hbc)]
            exact ih y z h1 h2
          · rw [if_neg hbc, decide_eq_true_eq] at h2
            rw [if_neg (by omega), decide_eq_true_eq]
            omega
        · rw [if_neg hab, decide_eq_true_eq] at h1
          by_cases hbc : b = c
          · rw [if_neg (by omega), decide_eq_true_eq]
            omega
          · rw [if_neg hbc, decide_eq_true_eq] at h2
            rw [if_neg (by omega), decide_eq_true_eq]
            omega
theorem befL_irrefl (x : List Int) : befL x x = false := by
  induction x with
  | nil => rfl
  | cons a x ih => rw [befL, if_pos rfl]; exact ih
theorem befL_asymm {x y : List Int} (h : befL x y = true) : befL y x = false := by
  cases h2 : befL y x with
  | false => rfl
  | true =>
    have := befL_trans x y x h h2
    rw [befL_irrefl] at this
    exact absurd this (by decide)
theorem cmpL_neg (x y : List Int) : cmpL x y < 0 ↔ befL x y = true := by
  have := cmpL_bef x y
  cases h : befL x y with
  | true => rw [h] at this; simp only [Bool.true_eq_false, iff_false, ge_iff_le] at this; simp only [iff_true]; omega
  | false => rw [h] at this; simp only [iff_true, ge_iff_le] at this; simp only [Bool.false_eq_true, iff_false]; omega
end Go.Proofs.Ytfaeopmofgnbdaa.P
namespace Go.Proofs.Ytfaeopmofgnbdaa.P
open Go.RowKit Go.Proofs.YtfaeopmofgnbdaaW.PrintWords Go.Proofs.YtfaeopmofgnbdaaW.PrintLast Go.Proofs.YtfaeopmofgnbdaaW.PrintMore
set_option linter.unusedVariables false

def LexS (l : List (List Int)) : Prop := l.Pairwise (fun x y => befL x y = true)
theorem befL_tri (x : List Int) : ∀ y, befL x y = false → befL y x = false → x = y := by
  induction x with
  | nil =>
    intro y h1 h2
    cases y with
    | nil => rfl
    | cons b y => simp [befL] at h1
  | cons a x ih =>
    intro y h1 h2
    cases y with
    | nil => simp [befL] at h2
    | cons b y =>
      simp only [befL] at h1 h2
      by_cases c : a = b
      · subst c
        rw [if_pos rfl] at h1 h2
        rw [ih y h1 h2]
      · rw [if_neg c, decide_eq_false_iff_not] at h1
        rw [if_neg (fun h => c h.symm), decide_eq_false_iff_not] at h2
        omega
/-- What is strictly in order is told by what it holds. -/
theorem strict_unique {α : Type} {lt : α → α → Bool} (hi : ∀ x, lt x x = false) (ha : ∀ x y, lt x y = true → lt y x = false) (l1 : List α) : ∀ l2, l1.Pairwise (fun x y => lt x y = true) → l2.Pairwise (fun x y => lt x y = true) → (∀ s, s ∈ l1 ↔ s ∈ l2) → l1 = l2 := by
  induction l1 with
  | nil =>
    intro l2 _ _ h
    cases l2 with
    | nil => rfl
    | cons b u => exact absurd ((h b).2 (List.mem_cons_self ..)) (by simp)
  | cons a t ih =>
    intro l2 h1 h2 h
    cases l2 with
    | nil => exact absurd ((h a).1 (List.mem_cons_self ..)) (by simp)
    | cons b u =>
      have p1 := List.pairwise_cons.1 h1
      have p2 := List.pairwise_cons.1 h2
      have hab : a = b := by
        rcases List.mem_cons.1 ((h a).1 (List.mem_cons_self ..)) with e | e
        · exact e
        · rcases List.mem_cons.1 ((h b).2 (List.mem_cons_self ..)) with e2 | e2
          · exact e2.symm
          · have := ha _ _ (p1.1 b e2)
            rw [p2.1 a e] at this
            exact absurd this (by decide)
      subst hab
      rw [ih u p1.2 p2.2 fun s => ?_]
      constructor
      · intro hs
        rcases List.mem_cons.1 ((h s).1 (List.mem_cons_of_mem _ hs)) with e | e
        · subst e
          have := p1.1 s hs
          rw [hi] at this
          exact absurd this (by decide)
        · exact e
      · intro hs
        rcases List.mem_cons.1 ((h s).2 (List.mem_cons_of_mem _ hs)) with e | e
        · subst e
          have := p2.1 s hs
          rw [hi] at this
          exact absurd this (by decide)
        · exact e
theorem lex_unique (l1 l2 : List (List Int)) (h1 : LexS l1) (h2 : LexS l2) (h : ∀ s, s ∈ l1 ↔ s ∈ l2) : l1 = l2 :=
  strict_unique befL_irrefl (fun _ _ h => befL_asymm h) l1 l2 h1 h2 h
def sortLL (ls : List (List Int)) : List (List Int) := ls.mergeSort (fun x y => !befL y x)
theorem sortLL_len (ls : List (List Int)) : (sortLL ls).length = ls.length := List.length_mergeSort ls
theorem sortLL_mem (ls : List (List Int)) (s : List Int) : s ∈ sortLL ls ↔ s ∈ ls := List.mem_mergeSort
theorem befL_ntrans {x y z : List Int} (h1 : befL x y = false) (h2 : befL y z = false) : befL x z = false := by
  cases h : befL x z with
  | false => rfl
  | true =>
    cases h3 : befL y x with
    | true =>
      have := befL_trans y x z h3 h
      rw [h2] at this
      exact absurd this (by decide)
    | false =>
      have := befL_tri x y h1 h3
      subst this
      rw [h2] at h
      exact absurd h (by decide)
theorem sortLL_lex (ls : List (List Int)) (h : ls.Nodup) : LexS (sortLL ls) := by
  have h1 : (sortLL ls).Pairwise (fun x y => (!befL y x) = true) := List.pairwise_mergeSort
    (fun x y z h1 h2 => by
      rw [Bool.not_eq_true'] at *
      exact befL_ntrans h2 h1)
    (fun x y => by
      cases c : befL y x with
      | false => rfl
      | true => rw [befL_asymm c]; rfl) ls
  have h2 : (sortLL ls).Nodup := (List.mergeSort_perm ls _).nodup_iff.2 h
  unfold LexS
  refine List.Pairwise.imp ?_ (List.pairwise_and_iff.2 ⟨h1, h2⟩)
  rintro x y ⟨h3, h4⟩
  rw [Bool.not_eq_true'] at h3
  cases c : befL x y with
  | true => rfl
  | false => exact absurd (befL_tri x y c h3) h4
theorem LexS.nodup {l : List (List Int)} (h : LexS l) : l.Nodup := h.imp fun {x y} hxy e => by
  subst e
  rw [befL_irrefl] at hxy
  exact absurd hxy (by decide)
end Go.Proofs.Ytfaeopmofgnbdaa.P
namespace Go.Proofs.Ytfaeopmofgnbdaa.P
open Go.RowKit Go.Proofs.YtfaeopmofgnbdaaW.PrintWords Go.Proofs.YtfaeopmofgnbdaaW.PrintLast Go.Proofs.YtfaeopmofgnbdaaW.PrintMore
set_option linter.unusedVariables false
set_option linter.unusedSimpArgs false

/-! What a valid graph gives. -/
theorem goodP_all (n : Int) (l : List S48) : ∀ p, goodP n p l = true → ∀ e ∈ l, 0 ≤ e.f0 ∧ e.f0 < e.f1 ∧ e.f1 < n := by
  induction l with
  | nil => intro p h e he; simp at he
  | cons x t ih =>
    intro p h e he
    simp only [goodP, Bool.and_eq_true, decide_eq_true_eq] at h
    obtain ⟨⟨⟨h1, h2⟩, h3⟩, h4, h5⟩ := h
    rcases List.mem_cons.1 he with rfl | he
    · exact ⟨h1, h2, h3⟩
    · exact ih _ h5 e he
theorem okG_all {a : Int} {l : List S48} (h : okG a l = true) : 0 ≤ a ∧ a ≤ 8 ∧ ∀ e ∈ l, 0 ≤ e.f0 ∧ e.f0 < e.f1 ∧ e.f1 < a := by
  simp only [okG, Bool.and_eq_true, decide_eq_true_eq] at h
  exact ⟨h.1.1, h.1.2, goodP_all a l none h.2⟩
/-- Two nodes are neighbours. -/
def hasP (l : List S48) (x y : Int) : Bool := l.any fun e => (decide (e.f0 = x) && decide (e.f1 = y)) || (decide (e.f0 = y) && decide (e.f1 = x))
theorem near_loop (a : Int) (l : List S48) (x y : Int) (hl : l.length ≤ 1048576) (d : Nat) : ∀ (m : Nat), l.length - m = d → m ≤ l.length →
    Ev (fun k => spec_l2Near.l0 k x y (m : Int) a l) (hasP (l.drop m) x y) := by
  induction d with
  | zero =>
    intro m h0 h1
    refine Ev.step (fun k => by rw [spec_l2Near.l0]) ?_
    rw [List.drop_eq_nil_of_le (by omega)]
    exact Ev.neg (by omega) (Ev.now _)
  | succ d ih =>
    intro m h0 h1
    have hm : m < l.length := by omega
    refine Ev.step (fun k => by rw [spec_l2Near.l0]) ?_
    refine Ev.pos (by omega) (Ev.pos (by omega) ?_)
    have ihm := ih (m + 1) (by omega) (by omega)
    rw [← wrap_up hm (by omega)] at ihm
    rw [rdT_at l m hm, List.drop_eq_getElem_cons hm]
    simp only [hasP, List.any_cons] at ihm ⊢
    generalize (l.drop (m + 1)).any _ = R at ihm ⊢
    by_cases c1 : l[m].f0 = x
    · refine Ev.pos c1 ?_
      by_cases c2 : l[m].f1 = y
      · refine Ev.pos c2 ?_
        rw [decide_eq_true c1, decide_eq_true c2]
        exact Ev.now _
      · refine Ev.neg c2 ?_
        rw [decide_eq_false c2, Bool.and_false, Bool.false_or]
        by_cases c3 : l[m].f0 = y
        · refine Ev.pos c3 ?_
          by_cases c4 : l[m].f1 = x
          · refine Ev.pos c4 ?_
            rw [decide_eq_true c3, decide_eq_true c4]
            exact Ev.now _
          · refine Ev.neg c4 ?_
            rw [decide_eq_false c4, Bool.and_false, Bool.false_or]
            exact ihm
        · refine Ev.neg c3 ?_
          rw [decide_eq_false c3, Bool.false_and, Bool.false_or]
          exact ihm
    · refine Ev.neg c1 ?_
      rw [decide_eq_false c1, Bool.false_and, Bool.false_or]
      by_cases c3 : l[m].f0 = y
      · refine Ev.pos c3 ?_
        by_cases c4 : l[m].f1 = x
        · refine Ev.pos c4 ?_
          rw [decide_eq_true c3, decide_eq_true c4]
          exact Ev.now _
        · refine Ev.neg c4 ?_
          rw [decide_eq_false c4, Bool.and_false, Bool.false_or]
          exact ihm
      · refine Ev.neg c3 ?_
        rw [decide_eq_false c3, Bool.false_and, Bool.false_or]
        exact ihm
theorem near_ev (a : Int) (l : List S48) (x y : Int) (hl : l.length ≤ 1048576) : Ev (fun k => spec_l2Near.f k a l x y) (hasP l x y) :=
  near_loop a l x y hl l.length 0 (by omega) (Nat.zero_le _)
theorem index_loop (l : List S48) (p q : Int) (hl : l.length ≤ 1048576) (d : Nat) : ∀ (m : Nat), l.length - m = d → m ≤ l.length →
    ∃ i : Int, (decide (i ≥ 0)) = ((l.drop m).any fun e => p == e.f0 && q == e.f1) ∧ Ev (fun k => slices_Index_2_int_2_int.l0 k l (l.length : Int) (m : Int) p q) i := by
  induction d with
  | zero =>
    intro m h0 h1
    refine ⟨-1, by rw [List.drop_eq_nil_of_le (by omega)]; rfl, Ev.step (fun k => by rw [slices_Index_2_int_2_int.l0]) ?_⟩
    exact Ev.neg (by omega) (Ev.now _)
  | succ d ih =>
    intro m h0 h1
    have hm : m < l.length := by omega
    obtain ⟨i, hi, ihm⟩ := ih (m + 1) (by omega) (by omega)
    rw [← wrap_up hm (by omega)] at ihm
    rw [List.drop_eq_getElem_cons hm, List.any_cons, ← hi]
    cases hc : (p == l[m].f0 && q == l[m].f1) with
    | true =>
      refine ⟨(m : Int), by simp, Ev.step (fun k => by rw [slices_Index_2_int_2_int.l0]) ?_⟩
      refine Ev.pos (by omega) (Ev.pos (by omega) (Ev.pos (by omega) ?_))
      rw [rdT_at l m hm]
      exact Ev.pos hc (Ev.now _)
    | false =>
      refine ⟨i, by simp, Ev.step (fun k => by rw [slices_Index_2_int_2_int.l0]) ?_⟩
      refine Ev.pos (by omega) (Ev.pos (by omega) (Ev.pos (by omega) ?_))
      rw [rdT_at l m hm]
      exact Ev.neg (by rw [hc]; decide) ihm
theorem any_congr {α : Type} (l : List α) (f g : α → Bool) (h : ∀ e ∈ l, f e = g e) : l.any f = l.any g := by
  induction l with
  | nil => rfl
  | cons x t ih => rw [List.any_cons, List.any_cons, h x (List.mem_cons_self ..), ih fun e he => h e (List.mem_cons_of_mem _ he)]
theorem has_ev (a : Int) (l : List S48) (x y : Int) (hl : l.length ≤ 1048576) (hu : ∀ e ∈ l, e.f0 < e.f1) : Ev (fun k => impl_Graph_has.f k a l x y) (hasP l x y) := by
  unfold impl_Graph_has.f slices_Contains_2_int_2_int.f slices_Index_2_int_2_int.f
  obtain ⟨i, hi, h⟩ := index_loop l (mn x y) (mx x y) hl l.length 0 (by omega) (Nat.zero_le _)
  refine Ev.bindo rfl ?_
  refine Ev.bind (Ev.bind h (Ev.now _)) ?_
  have : hasP l x y = decide (i ≥ 0) := by
    rw [hi, List.drop_zero]
    unfold hasP
    refine any_congr l _ _ fun e he => ?_
    have := hu e he
    unfold mn mx
    by_cases c : y < x
    · have c2 : ¬ x < y := by omega
      rw [if_pos c, if_neg c2]
      rw [Bool.eq_iff_iff]
      simp only [Bool.or_eq_true, Bool.and_eq_true, decide_eq_true_eq, beq_iff_eq]
      omega
    · rw [if_neg c]
      by_cases c2 : x < y
      · rw [if_pos c2, Bool.eq_iff_iff]
        simp only [Bool.or_eq_true, Bool.and_eq_true, decide_eq_true_eq, beq_iff_eq]
        omega
      · rw [if_neg c2, Bool.eq_iff_iff]
        simp only [Bool.or_eq_true, Bool.and_eq_true, decide_eq_true_eq, beq_iff_eq]
        omega
  rw [this]
  exact Ev.now _
end Go.Proofs.Ytfaeopmofgnbdaa.P
namespace Go.Proofs.Ytfaeopmofgnbdaa.P
open Go.RowKit Go.Proofs.YtfaeopmofgnbdaaW.PrintWords Go.Proofs.YtfaeopmofgnbdaaW.PrintLast Go.Proofs.YtfaeopmofgnbdaaW.PrintMore
set_option linter.unusedVariables false

/-- Numbers from lo to hi, strictly ascending behind a first one. -/
def risI (lo hi : Int) : Option Int → List Int → Bool
  | _, [] => true
  | p, x :: t => (decide (lo ≤ x) && decide (x ≤ hi)) && ((match p with | none => true | some q => decide (q < x)) && risI lo hi (some x) t)
theorem risI_all (lo hi : Int) (l : List Int) : ∀ p, risI lo hi p l = true → ∀ x ∈ l, lo ≤ x ∧ x ≤ hi := by
  induction l with
  | nil => intro p h x hx; simp at hx
  | cons y t ih =>
    intro p h x hx
    simp only [risI, Bool.and_eq_true, decide_eq_true_eq] at h
    rcases List.mem_cons.1 hx with rfl | hx
    · exact h.1
    · exact ih _ h.2.2 x hx
theorem risI_pw (lo hi : Int) (l : List Int) : ∀ p, risI lo hi p l = true → l.Pairwise (· < ·) ∧ ∀ q, p = some q → ∀ x ∈ l, q < x := by
  induction l with
  | nil => intro p _; exact ⟨.nil, fun _ _ x hx => by cases hx⟩
  | cons y t ih =>
    intro p h
    simp only [risI, Bool.and_eq_true, decide_eq_true_eq] at h
    obtain ⟨_, h2, h3⟩ := h
    obtain ⟨i1, i2⟩ := ih _ h3
    refine ⟨List.pairwise_cons.2 ⟨fun x hx => i2 y rfl x hx, i1⟩, fun q hq x hx => ?_⟩
    subst hq
    have h4 : q < y := by simpa using h2
    rcases List.mem_cons.1 hx with rfl | hx
    · exact h4
    · have := i2 y rfl x hx; omega
theorem risI_of (lo hi : Int) (l : List Int) : ∀ p, l.Pairwise (· < ·) → (∀ x ∈ l, lo ≤ x ∧ x ≤ hi) → (∀ q, p = some q → ∀ x ∈ l, q < x) → risI lo hi p l = true := by
  induction l with
  | nil => intro p _ _ _; cases p <;> rfl
  | cons y t ih =>
    intro p hp hb hq
    obtain ⟨h1, h2⟩ := List.pairwise_cons.1 hp
    have hy := hb y (.head _)
    have ih' := ih (some y) h2 (fun x hx => hb x (.tail _ hx)) (fun q e x hx => by injection e with e; subst e; exact h1 x hx)
    cases p with
    | none => simp only [risI, Bool.and_eq_true, decide_eq_true_eq, true_and]; exact ⟨hy, ih'⟩
    | some q => simp only [risI, Bool.and_eq_true, decide_eq_true_eq]; exact ⟨hy, hq q rfl y (.head _), ih'⟩
end Go.Proofs.Ytfaeopmofgnbdaa.P
namespace Go.Proofs.Ytfaeopmofgnbdaa.P
open Go.RowKit Go.Proofs.YtfaeopmofgnbdaaW.PrintWords Go.Proofs.YtfaeopmofgnbdaaW.PrintLast Go.Proofs.YtfaeopmofgnbdaaW.PrintMore
attribute [local go_sem] max2_int min2_int max_two min_two max_three min_three max_four min_four   -- for this text's walks alone
set_option linter.unusedVariables false
set_option linter.unusedSimpArgs false

/-! ### impl_bag_has: function 48 -/
def impl_bag_has.f (a0 : Int) (a1 : Int) : Option (Bool) := if 0 ≤ a1 then (some ((Go.bits .and .u64 (shr .u64 a0 a1) 1) == 1)) else (none)
set_option maxHeartbeats 8000000 in
set_option maxRecDepth 100000 in
theorem impl_bag_has.calls (a0 : Int) (a1 : Int) (r : Bool) (w : World) (h : impl_bag_has.f a0 a1 = some r) :
 Calls Try.prog 48 #[.int .u64 a0, .int .i64 a1] w fun e w' => e = .returned (.bool r) ∧ Drawn0 w w' := by
 have H : (if 0 ≤ a1 then (some ((Go.bits .and .u64 (shr .u64 a0 a1) 1) == 1)) else (none)) = some r := h
 clear h
 by_cases c3 : 0 ≤ a1
 · rw [if_pos c3] at H
   have c3b0 := eq_true c3
   have c3b1 : decide (0 ≤ a1) = true := decide_eq_true c3
   clear c3
   obtain ⟨ji4, hji4⟩ : ∃ j_ : Int, (shr .u64 a0 a1) = j_ := ⟨_, rfl⟩
   replace H : (some ((Go.bits .and .u64 (ji4) 1) == 1)) = some r := by first | (rw [hji4] at H; exact H) | (simp only [hji4] at H ⊢; exact H)
   have hji4_ : (a0 / 2 ^ min a1.toNat 64) = ji4 := hji4
   have hji4z : a1 ≤ 64 → (a0 / 2 ^ a1.toNat) = ji4 := shr_small hji4
   obtain rfl := Option.some.inj H
   go_enter Try.func48, Try.ntmps48
   go_wp2
   go_ret
   exact ⟨by first | rfl | (simp; done) | (simp only [← hji4] <;> (first | rfl | simp)) | (simp [*]; done), by repeat (first | exact Drawn0.refl _ | apply Drawn0.step)⟩
 · rw [if_neg c3] at H
   exact absurd H (by simp)

end Go.Proofs.Ytfaeopmofgnbdaa.P
namespace Go.Proofs.Ytfaeopmofgnbdaa.P
open Go.RowKit Go.Proofs.YtfaeopmofgnbdaaW.PrintWords Go.Proofs.YtfaeopmofgnbdaaW.PrintLast Go.Proofs.YtfaeopmofgnbdaaW.PrintMore
set_option linter.unusedVariables false

def hasI (b y : Int) : Bool := Go.bits .and .u64 (shr .u64 b y) 1 == 1
def addI (b x : Int) : Int := Go.bits .or .u64 b (shl .u64 1 x)
theorem addI_fin : ∀ b : Fin 256, ∀ x : Fin 8, (0 ≤ addI b x ∧ addI b x < 256) ∧ ∀ y : Fin 8, hasI (addI b x) y = (hasI b y || decide (y = x)) := by decide +kernel
theorem hasI_zero : ∀ y : Fin 8, hasI 0 y = false := by decide +kernel
theorem fin_of {n : Nat} {b : Int} (h : 0 ≤ b) (h2 : b < (n : Int)) : ∃ i : Fin n, b = ((i.val : Nat) : Int) := ⟨⟨b.toNat, by omega⟩, by show b = ((b.toNat : Nat) : Int); omega⟩
theorem addI_at {b x : Int} (hb : 0 ≤ b ∧ b < 256) (hx : 0 ≤ x ∧ x < 8) : (0 ≤ addI b x ∧ addI b x < 256) ∧ ∀ y, 0 ≤ y → y < 8 → hasI (addI b x) y = (hasI b y || decide (y = x)) := by
  obtain ⟨i, rfl⟩ := fin_of (n := 256) hb.1 hb.2
  obtain ⟨j, rfl⟩ := fin_of (n := 8) hx.1 hx.2
  have h := addI_fin i j
  refine ⟨h.1, fun y h0 h8 => ?_⟩
  obtain ⟨q, rfl⟩ := fin_of (n := 8) h0 h8
  rw [h.2 q]
  congr 1
  rw [decide_eq_decide]
  omega
theorem hasI_nil {y : Int} (h0 : 0 ≤ y) (h8 : y < 8) : hasI 0 y = false := by
  obtain ⟨q, rfl⟩ := fin_of (n := 8) h0 h8
  exact hasI_zero q
theorem bag_has_at {b y : Int} (h0 : 0 ≤ y) : impl_bag_has.f b y = some (hasI b y) := by
  unfold impl_bag_has.f
  rw [if_pos h0]
  rfl
/-- What a set's bag is. -/
def bagI (b : Int) (l : List Int) : Int := l.foldl addI b
theorem bagI_at (l : List Int) : ∀ (b : Int), 0 ≤ b ∧ b < 256 → (∀ x ∈ l, 0 ≤ x ∧ x < 8) → (0 ≤ bagI b l ∧ bagI b l < 256) ∧ ∀ y, 0 ≤ y → y < 8 → hasI (bagI b l) y = (hasI b y || decide (y ∈ l)) := by
  induction l with
  | nil => intro b hb _; exact ⟨hb, fun y _ _ => by simp [bagI]⟩
  | cons x t ih =>
    intro b hb hx
    have h1 := addI_at hb (hx x (List.mem_cons_self ..))
    have h2 := ih (addI b x) h1.1 (fun z hz => hx z (List.mem_cons_of_mem _ hz))
    refine ⟨h2.1, fun y h0 h8 => ?_⟩
    have := h2.2 y h0 h8
    rw [show bagI b (x :: t) = bagI (addI b x) t from rfl, this, h1.2 y h0 h8, Bool.or_assoc]
    congr 1
    rw [Bool.eq_iff_iff]
    simp only [Bool.or_eq_true, decide_eq_true_eq, List.mem_cons]
theorem bagOf_loop (l : List Int) (hl : l.length ≤ 1048576) (hx : ∀ x ∈ l, 0 ≤ x ∧ x < 8) (d : Nat) : ∀ (b : Int) (m : Nat), l.length - m = d → m ≤ l.length →
    Ev (fun k => impl_bagOf.l0 k b l (l.length : Int) (m : Int)) (bagI b (l.drop m)) := by
  induction d with
  | zero =>
    intro b m h0 h1
    refine Ev.step (fun k => by rw [impl_bagOf.l0]) (Ev.neg (by omega) ?_)
    rw [List.drop_eq_nil_of_le (by omega)]
    exact Ev.now _
  | succ d ih =>
    intro b m h0 h1
    have hm : m < l.length := by omega
    have := hx l[m] (List.getElem_mem hm)
    refine Ev.step (fun k => by rw [impl_bagOf.l0]) (Ev.pos (by omega) (Ev.pos (by omega) (Ev.pos (by omega) ?_)))
    rw [rd_at l m hm, List.drop_eq_getElem_cons hm, wrap_up hm (by omega)]
    exact Ev.pos this.1 (ih _ (m + 1) (by omega) (by omega))
theorem bagOf_ev (l : List Int) (hl : l.length ≤ 1048576) (hx : ∀ x ∈ l, 0 ≤ x ∧ x < 8) : Ev (fun k => impl_bagOf.f k l) (bagI 0 l) :=
  bagOf_loop l hl hx l.length 0 0 (by omega) (Nat.zero_le _)
end Go.Proofs.Ytfaeopmofgnbdaa.P
namespace Go.Proofs.Ytfaeopmofgnbdaa.P
open Go.RowKit Go.Proofs.YtfaeopmofgnbdaaW.PrintWords Go.Proofs.YtfaeopmofgnbdaaW.PrintLast Go.Proofs.YtfaeopmofgnbdaaW.PrintMore
set_option linter.unusedVariables false
set_option linter.unusedSimpArgs false

def bothB (a1 : Int) (s : S48) : Bool := (impl_bag_has.f a1 s.f0).getD false && (impl_bag_has.f a1 s.f1).getD false
def impl_Graph_isFree.f (a0_0 : Int) (l0_1 : List S48) (a1 : Int) : Option Bool :=
  if l0_1.all (fun s => (impl_bag_has.f a1 s.f0).isSome && (impl_bag_has.f a1 s.f1).isSome) then some (!(l0_1.any (bothB a1))) else none
set_option maxHeartbeats 1000000 in
theorem isFree1_any (gb : Nat) (a1 : Int) (s : S48) (x y : Bool) (hx : impl_bag_has.f a1 s.f0 = some x) (hy : impl_bag_has.f a1 s.f1 = some y) (W : World) (hl : W.cell? ⟨gb, 0, none⟩ = some (.int .u64 a1)) :
    Calls Try.prog 68 (#[.agg #[.int .i64 s.f0, .int .i64 s.f1]] ++ #[.pointer (some ⟨gb, 0, none⟩)]) W fun e w' => e = .returned (.bool (x && y)) ∧ Below W.heap.size W w' := by
  have HX := Aside0.mk hx
  have HY := Aside0.mk hy
  clear hx hy
  show Calls Try.prog 68 #[.agg #[.int .i64 s.f0, .int .i64 s.f1], .pointer (some ⟨gb, 0, none⟩)] W _
  have hl2 := fun o : Obj => pw_cell_below (below_alloc (Below.refl W.heap.size W) o) hl
  go_enter Try.func68, Try.ntmps68
  go_wp2_with fail
  go_at_call 48
  refine (impl_bag_has.calls _ _ x _ HX.out).mono ?_
  rintro e w' ⟨rfl, ⟨n1, rfl⟩⟩
  cases x with
  | true =>
    go_wp2_with fail
    go_at_call 48
    refine (impl_bag_has.calls _ _ y _ HY.out).mono ?_
    rintro e w' ⟨rfl, ⟨n2, rfl⟩⟩
    go_wp2
    go_ret
    exact ⟨by first | rfl | (simp; done), by repeat (first | exact Below.refl _ _ | apply below_alloc | apply pw_below_drewN | apply below_drew1)⟩
  | false =>
    go_wp2
    go_ret
    exact ⟨by first | rfl | (simp; done), by repeat (first | exact Below.refl _ _ | apply below_alloc | apply pw_below_drewN | apply below_drew1)⟩
set_option maxHeartbeats 1000000 in
theorem impl_Graph_isFree.calls (a0_0 : Int) (A0_1 : Option Addr) (c0_1 : Nat) (l0_1 : List (S48)) (a1 : Int) (r : Bool) (w : World) (hr0_1 : Kd.C k48 w A0_1 l0_1.length l0_1) (hc0_1 : l0_1.length ≤ c0_1) (h : impl_Graph_isFree.f a0_0 l0_1 a1 = some r) :
    Calls Try.prog 61 #[.agg #[.int .i64 a0_0, .slice A0_1 l0_1.length c0_1], .int .u64 a1] w fun e w' => e = .returned (.bool r) ∧ Below w.heap.size w w' := by
  unfold impl_Graph_isFree.f at h
  by_cases hall : l0_1.all (fun s => (impl_bag_has.f a1 s.f0).isSome && (impl_bag_has.f a1 s.f1).isSome) = true
  case neg => rw [if_neg hall] at h; cases h
  rw [if_pos hall] at h
  obtain rfl := Option.some.inj h
  have HP := fun (W : World) (gb : Nat) (hl : W.cell? ⟨gb, 0, none⟩ = some (.int .u64 a1)) =>
    Aside0.mk (show PredB 68 #[.pointer (some ⟨gb, 0, none⟩)] (fun x : S48 => Value.agg #[.int .i64 x.f0, .int .i64 x.f1]) (bothB a1) l0_1 W from fun W' x hx hb => by
      have hs := List.all_eq_true.1 hall x hx
      rw [Bool.and_eq_true] at hs
      obtain ⟨b1, h1⟩ := Option.isSome_iff_exists.1 hs.1
      obtain ⟨b2, h2⟩ := Option.isSome_iff_exists.1 hs.2
      have := isFree1_any gb a1 x b1 b2 h1 h2 W' (pw_cell_below hb hl)
      unfold bothB
      rw [h1, h2]
      exact this)
  have HR0 := Aside0.mk hr0_1
  clear hr0_1 hall h
  generalize hg : l0_1.any (bothB a1) = b
  have HG := Aside0.mk hg
  clear hg
  have HB1 := Aside0.mk (below_alloc (below_alloc (Below.refl w.heap.size w) (.cells #[.int .i64 a0_0, .slice A0_1 l0_1.length c0_1] 28)) (.cells #[.int .u64 a1] 55))
  go_enter Try.func61, Try.ntmps61
  go_wp2_with fail
  go_at_call 67
  refine (cont_prs _ _ (enters_of Try.func68 (by kernel_rfl) rfl) _ A0_1 c0_1 l0_1 _ (Kd.C_below HR0.out HB1.out) (HP _ _ (by go_simp)).out).mono ?_
  rintro e w' ⟨rfl, hb⟩
  rw [HG.out]
  have HB := Aside0.mk (below_step HB1.out hb)
  clear hb
  go_wp2
  go_ret
  exact ⟨by first | rfl | (simp; done), HB.out⟩
end Go.Proofs.Ytfaeopmofgnbdaa.P
