/- slices.SortFunc at [][]int by a comparison of lists that only reads: the caller's own rows, in order; for every world. -/
import Derived.Test.YthnojbafclglpaaBestOfKindG5
import Derived.Shelf.SlSortCmp.NoneTotal
import Derived.Handy
import Derived.Shelf.Small.Bits
import Derived.Shelf.Strconv.Itoa0
import Derived.Shelf.Sort.Plain
import Derived.Shelf.Bits.Mul64
import Derived.Ground.Names2Prog
import Derived.Shelf.Slices.Clone
import Derived.Shelf.Slices.SearchI
import Derived.Shelf.Slices.In.SortNone
import Derived.Shelf.Slices.Empties
import Derived.Ground.SlsfProg
import Derived.Shelf.SlSortCmp.Insertion
import Derived.Shelf.SlSortCmp.InsertionK
import Derived.Shelf.SlSortCmp.SiftDownK
import Derived.Shelf.SlSortCmp.HeapSortK
import Derived.Shelf.SlSortCmp.MedianK
import Derived.Shelf.SlSortCmp.PivotK
import Derived.Shelf.SlSortCmp.ReverseRangeK
import Derived.Shelf.SlSortCmp.PartialInsertionK
import Derived.Shelf.SlSortCmp.PartitionEqualK
import Derived.Shelf.SlSortCmp.PartitionK
import Derived.Shelf.SlSortCmp.PdqK
import Derived.Shelf.SlSortCmp.WholeK
import Derived.Shelf.SlSortCmp.SiftDown1
import Derived.Shelf.SlSortCmp.HeapSort1
import Derived.Shelf.SlSortCmp.Insertion1
import Derived.Shelf.SlSortCmp.Median1
import Derived.Shelf.SlSortCmp.Pivot1
import Derived.Shelf.SlSortCmp.ReverseRange1
import Derived.Shelf.SlSortCmp.PartialInsertion1
import Derived.Shelf.SlSortCmp.PartitionEqual1
import Derived.Shelf.SlSortCmp.Partition1
import Derived.Shelf.SlSortCmp.Pdq1
import Derived.Shelf.SlSortCmp.Whole1
import Derived.Test.YthnojbafclglpaaProg
import Derived.ProofKit
import Derived.OpenShut
import Derived.Deep.Matrix
import Derived.Lib.SmallJoins
import Derived.Test.YthnojbafclglpaaBestOfKindG6
namespace Go.Proofs.Ythnojbafclglpaa.P
open Go.RowKit Go.Proofs.YthnojbafclglpaaW.PrintWords Go.Proofs.YthnojbafclglpaaW.PrintLast Go.Proofs.YthnojbafclglpaaW.PrintMore
open Go.Sort (SWO Holds PermIn SortedIn putRow putCells mapBlock onCells sorted_unique_holds)
set_option linter.unusedVariables false
set_option linter.unusedSimpArgs false

/-- Rows in another order are rows still. -/
theorem S_perm {α : Type} {d : Kd α} {e : Nat} {w : World} {base : Nat} {ok : Nat → Prop} {v : Value} {f : Nat → Nat} {zs : List (α × Nat)} (h : (Kd.tag f d).R e w base ok v zs) (hn : (zs.map Prod.snd).Nodup) : Kd.S d e w base ok v (zs.map Prod.fst) := by
  obtain ⟨h0, inner, ho, hr⟩ := h
  refine ⟨fun b => (zs.map Prod.snd).idxOf (f b), h0, inner, by rw [List.length_zipIdx, List.length_map]; exact ho, by rw [List.length_zipIdx, List.length_map]; exact hr.1, fun j p hj => ?_⟩
  rw [List.getElem?_zipIdx, Nat.zero_add] at hj
  obtain ⟨x, hx, rfl⟩ := Option.map_eq_some_iff.1 hj
  rw [List.getElem?_map] at hx
  obtain ⟨z, hz, rfl⟩ := Option.map_eq_some_iff.1 hx
  refine d.M_mono (fun b hb => ⟨hb.1, ?_⟩) (hr.2 j z hz)
  have h2 : f b = z.2 := hb.2
  show (zs.map Prod.snd).idxOf (f b) = j
  obtain ⟨hlt, he⟩ := List.getElem?_eq_some_iff.1 hz
  have e2 : (zs.map Prod.snd)[j]'(by rw [List.length_map]; exact hlt) = z.2 := by rw [List.getElem_map, he]
  rw [h2, ← e2]
  exact hn.idxOf_getElem j _
section
variable {α : Type} [Inhabited α] (enc : α → Value)
theorem heap_sortedG {w : World} {g n : Nat} {os : Array Obj} {cur : Array Value} {e : TypeId} {fr : Nat × Nat} (d : Array α) (hb : w.heap[g]? = some (.cells cur e fr)) :
    (Sort.grow (putRow enc (Sort.ahead w n) g 0 d) os).heap[g]? = some (.cells (putCells enc 0 d cur) e fr) := by
  have hg : g < w.heap.size := (Array.getElem?_eq_some_iff.1 hb).1
  rw [Sort.heap_grow_old _ _ (by simpa using hg)]
  simp [putRow, mapBlock, Sort.ahead, Array.getElem?_modify, hb, onCells]
theorem grownBy_sortedG {w : World} {g n : Nat} {os : Array Obj} (d : Array α) : w.grownBy (Sort.grow (putRow enc (Sort.ahead w n) g 0 d) os) (some g) := by
  refine ⟨rfl, rfl, rfl, by simp, fun k hk hne => ?_⟩
  rw [Sort.heap_grow_old _ _ (by simpa using hk)]
  have : g ≠ k := fun e => hne (by rw [e])
  simp [putRow, mapBlock, Sort.ahead, Array.getElem?_modify, this]
theorem take_putCellsG (cur : Array Value) (ts : List α) (h : ts.length ≤ cur.size) : (putCells enc 0 ts.toArray cur).toList.take ts.length = ts.map enc := by
  apply List.ext_getElem?
  intro j
  by_cases hj : j < ts.length
  · rw [List.getElem?_take_of_lt hj, Array.getElem?_toList]
    simp [putCells, hj, show j < cur.size by omega]
  · rw [List.getElem?_take_eq_none (by omega), List.getElem?_eq_none (by simp; omega)]
theorem ownsRow_sortedG {w : World} {base g cap n m : Nat} {e : TypeId} {os : Array Obj} {cur : Array Value} {ts : List α} (hl : ts.length = m) (hbase : base ≤ g) (hb : w.heap[g]? = some (.cells cur e (0, 0)))
    (h1 : m ≤ cap) (h2 : cap ≤ maxLen) (h3 : cur.size = cap * 1) :
    (Sort.grow (putRow enc (Sort.ahead w n) g 0 ts.toArray) os).ownsRow base e 1 (.slice (some ⟨g, 0, none⟩) m cap) m (ts.map enc) :=
  ⟨by simp [hl], .inr ⟨g, cap, _, rfl, hbase, heap_sortedG enc _ hb, h1, h2, by simp [putCells, h3], by rw [Nat.mul_one, ← hl]; exact take_putCellsG enc cur ts (by omega)⟩⟩
end
theorem fin_get {n : Nat} (hn : 0 < n) [Inhabited (Fin n)] (j : Nat) (hj : j < n) : ((List.finRange n).toArray)[j]! = ⟨j, hj⟩ := by
  rw [getElem!_pos _ j (by simpa using hj)]
  simp
/-- A comparison of lists: what it answers where it is called; it draws and lays blocks, and turns nothing. -/
def CmpL (g : Nat) (cf : List Int → List Int → Int) : Prop :=
  ∀ (W : World) (x y : List Int) (A B : Option Addr) (c c' : Nat), Kd.C (Kd.int .i64) W A x.length x → x.length ≤ c → Kd.C (Kd.int .i64) W B y.length y → y.length ≤ c' →
    Calls Try.prog g #[.slice A x.length c, .slice B y.length c'] W fun e w' => e = .returned (.int .i64 (cf x y)) ∧ ∃ q os, w' = Sort.grow (W.drewN q) os
set_option maxHeartbeats 2000000 in
theorem sortFunc_lists {ρ ρ' : Shelf.Ren} (L : SlLaysF.n6 Try.prog ρ) (L0 : SlLaysF0.n6 Try.prog ρ') (F : Nat) (e1 : ρ.f 6 = F) (e2 : ρ'.f 6 = F) (cf : List Int → List Int → Int) (hO : SWO (ltOf cf)) (hT : ∀ x y, ltOf cf x y = false → ltOf cf y x = false → x = y) (g : Nat)
    (eg : ∀ (args : Array Value) (w : World), (callFunc g args).run Try.prog w = .ok (.enter g args) w) (hcmp : CmpL g cf)
    (P0_ : Nat → Prop) (u9000_ : Value) (l0 : List (List Int)) (w0 w : World) (hB : Below w0.heap.size w0 w) (ho0 : Kd.S (Kd.slice 3 (Kd.int .i64)) 26 w w0.heap.size P0_ u9000_ l0) (hlen : l0.length < 4611686018427387904) :
    Calls Try.prog F #[u9000_, .func (.func g) #[] #[]] w fun e w' => e = .returned (.tuple #[]) ∧ Kd.S (Kd.slice 3 (Kd.int .i64)) 26 w' w0.heap.size (fun k_ => (P0_ k_ ∨ w.heap.size ≤ k_)) u9000_ (l0.mergeSort fun x y => !ltOf cf y x) ∧ Below w0.heap.size w0 w' ∧ Kept w w' (fun k_ => P0_ k_) := by
  obtain ⟨f, h0, inner, hown, hr⟩ := ho0
  rw [List.length_zipIdx] at hown
  replace hown : w.ownsRow w0.heap.size 26 1 u9000_ l0.length inner := hown
  have hS : Kd.S (Kd.slice 3 (Kd.int .i64)) 26 w w0.heap.size P0_ u9000_ l0 := ⟨f, h0, inner, by rw [List.length_zipIdx]; exact hown, hr⟩
  by_cases hn : 0 < l0.length
  case neg =>
    have hnil : l0 = [] := List.eq_nil_of_length_eq_zero (by omega)
    subst hnil
    obtain ⟨A, c, rfl⟩ := Kd.S_slice hS
    rw [← e2]
    refine (AnyF.slices_SortFunc_none L0 A c _ w).mono ?_
    rintro e w' ⟨rfl, rfl⟩
    have e0 : ([] : List (List Int)).mergeSort (fun x y => !ltOf cf y x) = [] := by simp
    rw [e0]
    exact ⟨rfl, Kd.S_mono hS (fun k hk => .inl hk), hB, Kept.refl _ _⟩
  rcases hown.2 with ⟨hnil, hz⟩ | ⟨gb, cap, cur, rfl, hbase, hb, h1, h2, h3, h4⟩
  · exact absurd hz (by omega)
  haveI : Inhabited (Fin l0.length) := ⟨⟨0, hn⟩⟩
  have hin : inner.length = l0.length := by have h9 : inner.length = l0.zipIdx.length * 1 := hr.1; rw [List.length_zipIdx] at h9; omega
  have hgl : gb < w.heap.size := (Array.getElem?_eq_some_iff.1 hb).1
  obtain ⟨enc, henc⟩ : ∃ enc : Fin l0.length → Value, ∀ i, enc i = inner[i.val]'(by rw [hin]; exact i.isLt) := ⟨_, fun _ => rfl⟩
  have hrow : ∀ i : Fin l0.length, ∃ v, enc i = v ∧ Kd.R (Kd.int .i64) 3 w w0.heap.size (fun k => (P0_ k ∧ some k ≠ (Value.slice (some ⟨gb, 0, none⟩) l0.length cap).ownBlock) ∧ f k = i.val) v l0[i.val] := by
    intro i
    have h5 := hr.2 i.val (l0[i.val], i.val) (Kd.zip_at (List.getElem?_eq_getElem i.isLt))
    obtain ⟨v, hv, hR⟩ := h5
    refine ⟨v, ?_, hR⟩
    rw [henc i]
    have hl' : i.val < inner.length := by rw [hin]; exact i.isLt
    have h6 : (inner.drop (i.val * 1)).take 1 = [v] := hv
    rw [Nat.mul_one, List.drop_eq_getElem_cons hl', List.take_succ_cons] at h6
    injection h6
  have hone : OneCell enc := fun i => by
    obtain ⟨v, hv, hR⟩ := hrow i
    rw [hv]
    exact (Kd.R_val hR).2
  have hH : Holds enc w gb 0 (List.finRange l0.length).toArray := by
    intro j hj
    have hj' : j < l0.length := by simpa using hj
    refine ⟨?_, by simp [World.frozen?, hb]⟩
    rw [fin_get hn j hj', henc]
    have h5 : (cur.toList.take (l0.length * 1))[j]? = inner[j]? := by rw [h4]
    rw [Nat.mul_one, List.getElem?_take_of_lt hj', Array.getElem?_toList, List.getElem?_eq_getElem (by rw [hin]; exact hj')] at h5
    simp [World.cell?, hb, h5]
  have hcl : CmpLays1 Try.prog g #[] enc (fun i j => cf l0[i.val] l0[j.val]) gb 0 (List.finRange l0.length).toArray.size w := by
    intro m os dk _ x y
    obtain ⟨v, hv, hR⟩ := hrow x
    obtain ⟨u, hu, hQ⟩ := hrow y
    have hgr := grownBy_sortedG enc (w := w) (g := gb) (n := m) (os := os) dk
    have hR2 := Kd.R_grown hR hgr (fun k hk => by have := hk.1.2; simpa [Value.ownBlock] using this)
    have hQ2 := Kd.R_grown hQ hgr (fun k hk => by have := hk.1.2; simpa [Value.ownBlock] using this)
    obtain ⟨A, c, rfl, hc, hC⟩ := Kd.R_reads hR2
    obtain ⟨B, c', rfl, hc', hC'⟩ := Kd.R_reads hQ2
    rw [hv, hu]
    exact hcmp _ _ _ A B c c' hC hc hC' hc'
  have hO' : SWO (ltOf (fun i j : Fin l0.length => cf l0[i.val] l0[j.val])) := ⟨fun x => hO.irrefl _, fun x y z => hO.trans _ _ _, fun x y z => hO.ntrans _ _ _⟩
  have hd : (List.finRange l0.length).toArray.size = l0.length := by simp
  have hcon := Any.slices_SortFunc L enc hone _ hO' g #[] gb 0 cap _ w eg hcl hH hgl (by rw [hd]; exact hlen)
  rw [hd, e1] at hcon
  refine hcon.mono ?_
  rintro e w' ⟨rfl, d', nn, os, hp, hs, rfl⟩
  have hgr := grownBy_sortedG enc (w := w) (g := gb) (n := nn) (os := os) d'
  have hdl : d'.toList.length = l0.length := by rw [Array.length_toList, hp.1, hd]
  have hds : d'.size = l0.length := by rw [← Array.length_toList]; exact hdl
  have hperm : d'.toList.Perm (List.finRange l0.length) := by
    have h5 := hp.2.2
    rw [Array.extract_eq_self_of_le (by rw [← Array.length_toList, hdl]; exact Nat.le_refl _), Array.extract_eq_self_of_le (by rw [hd]; exact Nat.le_refl _)] at h5
    simpa using h5
  have hown2 : (sortWorld enc w gb 0 nn d' os).ownsRow w0.heap.size 26 1 (.slice (some ⟨gb, 0, none⟩) l0.length cap) l0.length (d'.toList.map enc) := by
    have := ownsRow_sortedG enc (w := w) (n := nn) (os := os) (ts := d'.toList) hdl hbase hb h1 h2 h3
    exact this
  have hmap : (d'.toList.map fun i => (l0[i.val], i.val)).map Prod.fst = d'.toList.map fun i => l0[i.val] := by rw [List.map_map]; rfl
  have hsorted : (d'.toList.map fun i => l0[i.val]) = l0.mergeSort fun x y => !ltOf cf y x := by
    have h6 := sorted_unique_holds hO hT l0.toArray (d'.toList.map fun i => l0[i.val]).toArray ?_ ?_
    · simpa using h6
    · refine ⟨by simpa using hdl, fun i hi => ?_, ?_⟩
      · rw [getElem!_neg _ i (by simp only [List.size_toArray, List.length_map]; simp only [List.size_toArray] at hi; omega), getElem!_neg _ i (by simp only [List.size_toArray] at hi ⊢; omega)]
      · rw [Array.extract_eq_self_of_le (by simp [hdl]), Array.extract_eq_self_of_le (Nat.le_refl _)]
        refine (hperm.map _).trans ?_
        have : (List.finRange l0.length).map (fun i => l0[i.val]) = l0 := by
          apply List.ext_getElem (by simp)
          intro j h1 h2
          simp
        rw [this]
    · intro i j _ hij hj
      have hj' : j < l0.length := by simpa using hj
      have h7 := hs i j (Nat.zero_le _) hij hj'
      rw [getElem!_pos (d'.toList.map fun i => l0[i.val]).toArray j (by rw [List.size_toArray, List.length_map, hdl]; exact hj'), getElem!_pos (d'.toList.map fun i => l0[i.val]).toArray i (by rw [List.size_toArray, List.length_map, hdl]; omega)]
      rw [getElem!_pos d' j (by rw [hds]; exact hj'), getElem!_pos d' i (by rw [hds]; omega)] at h7
      simp only [List.getElem_toArray, List.getElem_map, Array.getElem_toList]
      exact h7
  refine ⟨rfl, ?_, hB.grown hgr hB.size (fun k hk => by injection hk with hk; omega), Kept.of_grown hgr (Kept.refl w _) (fun k hk => .inl (h0 k hk))⟩
  rw [← hsorted, ← hmap]
  refine S_perm (f := f) ?_ ?_
  · refine ⟨fun k hk => .inl (h0 k hk), d'.toList.map enc, ?_, ?_, ?_⟩
    · rw [List.length_map, hdl]
      exact hown2
    · rw [List.length_map, List.length_map]
      show _ = _ * 1
      rw [Nat.mul_one]
    · intro j p hj
      rw [List.getElem?_map] at hj
      obtain ⟨i, hi, rfl⟩ := Option.map_eq_some_iff.1 hj
      obtain ⟨v, hv, hR⟩ := hrow i
      refine ⟨v, ?_, ?_⟩
      · have hj' : j < (d'.toList.map enc).length := by rw [List.length_map]; exact (List.getElem?_eq_some_iff.1 hi).1
        show ((d'.toList.map enc).drop (j * 1)).take 1 = [v]
        rw [Nat.mul_one, List.drop_eq_getElem_cons hj', List.take_succ_cons, List.getElem_map, (List.getElem?_eq_some_iff.1 hi).2, hv]
        rfl
      · exact Kd.R_mono (Kd.R_grown hR hgr (fun k hk => by have := hk.1.2; simpa [Value.ownBlock] using this)) (fun k hk => ⟨⟨.inl hk.1.1, hk.1.2⟩, hk.2⟩)
  · rw [List.map_map]
    refine (hperm.map _).nodup_iff.2 ?_
    have : ((List.finRange l0.length).map (Prod.snd ∘ fun i => (l0[i.val], i.val))) = List.range l0.length := by
      apply List.ext_getElem (by simp)
      intro j h1 h2
      simp
    rw [this]
    exact List.nodup_range
end Go.Proofs.Ythnojbafclglpaa.P
namespace Go.Proofs
open Go.Shelf
def Try.laysSlF06_f96_ren : Go.Shelf.Ren := ⟨fun | 6 => 96 | 15 => 150 | 14 => 149 | 28 => 183 | 29 => 184 | 20 => 175 | 21 => 176 | 22 => 177 | 23 => 178 | 24 => 179 | 25 => 180 | 26 => 181 | 27 => 182 | 46 => 222 | 47 => 223 | 48 => 224 | 49 => 225 | 50 => 226 | 57 => 240 | n => n, fun | 22 => 23 | 24 => 64 | 25 => 96 | 3 => 3 | 39 => 121 | 0 => 0 | 53 => 156 | 55 => 107 | 4 => 4 | 46 => 150 | 45 => 149 | 50 => 56 | 5 => 5 | 9 => 9 | 66 => 181 | 70 => 185 | 76 => 198 | 77 => 199 | n => n, fun | n => n⟩
theorem Try.laysSlF06_f96 : Go.Proofs.SlLaysF0.n6 Try.prog Try.laysSlF06_f96_ren := {
  mixed := by kernel_rfl
  f6 := ⟨Try.f96.name, by decide, Try.func96.trans (congrArg some (by kernel_rfl))⟩
  f14 := ⟨Try.f149.name, by decide, Try.func149.trans (congrArg some (by kernel_rfl))⟩
  f15 := Try.func150.trans (congrArg some (by kernel_rfl))
  f20 := ⟨Try.f175.name, by decide, Try.func175.trans (congrArg some (by kernel_rfl))⟩
  f21 := ⟨Try.f176.name, by decide, Try.func176.trans (congrArg some (by kernel_rfl))⟩
  f22 := ⟨Try.f177.name, by decide, Try.func177.trans (congrArg some (by kernel_rfl))⟩
  f23 := ⟨Try.f178.name, by decide, Try.func178.trans (congrArg some (by kernel_rfl))⟩
  f24 := ⟨Try.f179.name, by decide, Try.func179.trans (congrArg some (by kernel_rfl))⟩
  f25 := ⟨Try.f180.name, by decide, Try.func180.trans (congrArg some (by kernel_rfl))⟩
  f26 := ⟨Try.f181.name, by decide, Try.func181.trans (congrArg some (by kernel_rfl))⟩
  f27 := ⟨Try.f182.name, by decide, Try.func182.trans (congrArg some (by kernel_rfl))⟩
  f28 := Try.func183.trans (congrArg some (by kernel_rfl))
  f29 := Try.func184.trans (congrArg some (by kernel_rfl))
  f46 := ⟨Try.f222.name, by decide, Try.func222.trans (congrArg some (by kernel_rfl))⟩
  f47 := Try.func223.trans (congrArg some (by kernel_rfl))
  f48 := Try.func224.trans (congrArg some (by kernel_rfl))
  f49 := ⟨Try.f225.name, by decide, Try.func225.trans (congrArg some (by kernel_rfl))⟩
  f50 := ⟨Try.f226.name, by decide, Try.func226.trans (congrArg some (by kernel_rfl))⟩
  f57 := ⟨Try.f240.name, by decide, Try.func240.trans (congrArg some (by kernel_rfl))⟩
  t0 := Try.underlying0
  a0 := Try.isAgg0
  z0 := Try.sizeOf0
  v0 := Try.zeroValue0
  t3 := Try.underlying3
  a3 := Try.isAgg3
  z3 := Try.sizeOf3
  v3 := Try.zeroValue3
  t4 := Try.underlying4
  a4 := Try.isAgg4
  z4 := Try.sizeOf4
  v4 := Try.zeroValue4
  t5 := Try.underlying5
  a5 := Try.isAgg5
  z5 := Try.sizeOf5
  v5 := Try.zeroValue5
  t9 := Try.underlying9
  a9 := Try.isAgg9
  z9 := Try.sizeOf9
  v9 := Try.zeroValue9
  t22 := Try.underlying23
  a22 := Try.isAgg23
  z22 := Try.sizeOf23
  v22 := Try.zeroValue23
  t25 := Try.underlying96
  a25 := Try.isAgg96
  z25 := Try.sizeOf96
  v25 := Try.zeroValue96
  t39 := Try.underlying121
  a39 := Try.isAgg121
  z39 := Try.sizeOf121
  v39 := Try.zeroValue121
  t45 := Try.underlying149
  a45 := Try.isAgg149
  z45 := Try.sizeOf149
  v45 := Try.zeroValue149
  t46 := Try.underlying150
  a46 := Try.isAgg150
  z46 := Try.sizeOf150
  v46 := Try.zeroValue150
  t50 := Try.underlying56
  a50 := Try.isAgg56
  z50 := Try.sizeOf56
  v50 := Try.zeroValue56
  t53 := Try.underlying156
  a53 := Try.isAgg156
  z53 := Try.sizeOf156
  v53 := Try.zeroValue156
  t55 := Try.underlying107
  a55 := Try.isAgg107
  z55 := Try.sizeOf107
  v55 := Try.zeroValue107
  t66 := Try.underlying181
  a66 := Try.isAgg181
  z66 := Try.sizeOf181
  v66 := Try.zeroValue181
  t70 := Try.underlying185
  a70 := Try.isAgg185
  z70 := Try.sizeOf185
  v70 := Try.zeroValue185
  t76 := Try.underlying198
  a76 := Try.isAgg198
  z76 := Try.sizeOf198
  v76 := Try.zeroValue198
  t77 := Try.underlying199
  a77 := Try.isAgg199
  z77 := Try.sizeOf199
  v77 := Try.zeroValue199 }
open Go.RowKit Go.Lib Go.Sort in
/-- **slices.SortFunc, IN THE DOCUMENTATION's OWN TERMS: A PERMUTATION OF WHAT THE ROW HELD, SORTED BY 'cmp(a, b) < 0'.** Which of two equals comes first is left open ("The sort is not guaranteed to be stable"). (LAID AT THE INSTANCE 'slices.SortFunc[[][2]int,[2]int]': no walk: one application.) -/
theorem Try.slices_SortFunc {α : Type} [Inhabited α] (k : Nat) (aE : ∀ w, (isAgg 64).run Try.prog w = .ok true w) (zE : ∀ w, (Go.sizeOf 64).run Try.prog w = .ok k w) (enc : α → List Value) (hk : ∀ x, (enc x).length = k) (h1 : ∀ x, ∀ v ∈ enc x, v.oneCell' = true) (cf : α → α → Int) (hO : SWO (ltOf cf)) (g : Nat) (cb : Array Value) (blk off cap : Nat) (d : Array α) (w : World) (eg : ∀ args w, (callFunc g args).run Try.prog w = .ok (.enter g args) w) (hcmp : CmpLays Try.prog g cb enc k cf blk off d.size w) (hH : HoldsK enc k w blk off d) (hblk : blk < w.heap.size) (hsz : d.size < 4611686018427387904) :
    Calls Try.prog 96 #[.slice (some ⟨blk, off, none⟩) d.size cap, .func (.func g) #[] cb] w fun e w' =>
      e = .returned (.tuple #[]) ∧ ∃ d' n os, PermIn 0 d.size d d' ∧ SortedIn (ltOf cf) 0 d.size d' ∧ w' = sortWorldK enc k w blk off n d' os := AnyQ.slices_SortFunc Try.laysSlF06_f96 k aE zE enc hk h1 cf hO g cb blk off cap d w eg hcmp hH hblk hsz
def Try.laysSlF6_f104_ren : Go.Shelf.Ren := ⟨fun | 6 => 104 | 15 => 150 | 14 => 155 | 28 => 183 | 29 => 184 | 20 => 186 | 21 => 187 | 22 => 188 | 23 => 189 | 24 => 190 | 25 => 191 | 26 => 192 | 27 => 193 | 46 => 229 | 47 => 223 | 48 => 224 | 49 => 230 | 50 => 231 | 57 => 241 | n => n, fun | 22 => 22 | 24 => 26 | 25 => 101 | 3 => 3 | 39 => 121 | 0 => 0 | 53 => 156 | 55 => 107 | 4 => 4 | 46 => 150 | 45 => 149 | 50 => 56 | 5 => 5 | 9 => 9 | 66 => 181 | 70 => 185 | 76 => 198 | 77 => 199 | n => n, fun | n => n⟩
theorem Try.laysSlF6_f104 : Go.Proofs.SlLaysF.n6 Try.prog Try.laysSlF6_f104_ren := {
  mixed := by kernel_rfl
  f6 := ⟨Try.f104.name, by decide, Try.func104.trans (congrArg some (by kernel_rfl))⟩
  f14 := ⟨Try.f155.name, by decide, Try.func155.trans (congrArg some (by kernel_rfl))⟩
  f15 := Try.func150.trans (congrArg some (by kernel_rfl))
  f20 := ⟨Try.f186.name, by decide, Try.func186.trans (congrArg some (by kernel_rfl))⟩
  f21 := ⟨Try.f187.name, by decide, Try.func187.trans (congrArg some (by kernel_rfl))⟩
  f22 := ⟨Try.f188.name, by decide, Try.func188.trans (congrArg some (by kernel_rfl))⟩
  f23 := ⟨Try.f189.name, by decide, Try.func189.trans (congrArg some (by kernel_rfl))⟩
  f24 := ⟨Try.f190.name, by decide, Try.func190.trans (congrArg some (by kernel_rfl))⟩
  f25 := ⟨Try.f191.name, by decide, Try.func191.trans (congrArg some (by kernel_rfl))⟩
  f26 := ⟨Try.f192.name, by decide, Try.func192.trans (congrArg some (by kernel_rfl))⟩
  f27 := ⟨Try.f193.name, by decide, Try.func193.trans (congrArg some (by kernel_rfl))⟩
  f28 := Try.func183.trans (congrArg some (by kernel_rfl))
  f29 := Try.func184.trans (congrArg some (by kernel_rfl))
  f46 := ⟨Try.f229.name, by decide, Try.func229.trans (congrArg some (by kernel_rfl))⟩
  f47 := Try.func223.trans (congrArg some (by kernel_rfl))
  f48 := Try.func224.trans (congrArg some (by kernel_rfl))
  f49 := ⟨Try.f230.name, by decide, Try.func230.trans (congrArg some (by kernel_rfl))⟩
  f50 := ⟨Try.f231.name, by decide, Try.func231.trans (congrArg some (by kernel_rfl))⟩
  f57 := ⟨Try.f241.name, by decide, Try.func241.trans (congrArg some (by kernel_rfl))⟩
  t0 := Try.underlying0
  a0 := Try.isAgg0
  z0 := Try.sizeOf0
  v0 := Try.zeroValue0
  t3 := Try.underlying3
  a3 := Try.isAgg3
  z3 := Try.sizeOf3
  v3 := Try.zeroValue3
  t4 := Try.underlying4
  a4 := Try.isAgg4
  z4 := Try.sizeOf4
  v4 := Try.zeroValue4
  t5 := Try.underlying5
  a5 := Try.isAgg5
  z5 := Try.sizeOf5
  v5 := Try.zeroValue5
  t9 := Try.underlying9
  a9 := Try.isAgg9
  z9 := Try.sizeOf9
  v9 := Try.zeroValue9
  t22 := Try.underlying22
  a22 := Try.isAgg22
  z22 := Try.sizeOf22
  v22 := Try.zeroValue22
  a24 := Try.isAgg26
  z24 := Try.sizeOf26
  t25 := Try.underlying101
  a25 := Try.isAgg101
  z25 := Try.sizeOf101
  v25 := Try.zeroValue101
  t39 := Try.underlying121
  a39 := Try.isAgg121
  z39 := Try.sizeOf121
  v39 := Try.zeroValue121
  t45 := Try.underlying149
  a45 := Try.isAgg149
  z45 := Try.sizeOf149
  v45 := Try.zeroValue149
  t46 := Try.underlying150
  a46 := Try.isAgg150
  z46 := Try.sizeOf150
  v46 := Try.zeroValue150
  t50 := Try.underlying56
  a50 := Try.isAgg56
  z50 := Try.sizeOf56
  v50 := Try.zeroValue56
  t53 := Try.underlying156
  a53 := Try.isAgg156
  z53 := Try.sizeOf156
  v53 := Try.zeroValue156
  t55 := Try.underlying107
  a55 := Try.isAgg107
  z55 := Try.sizeOf107
  v55 := Try.zeroValue107
  t66 := Try.underlying181
  a66 := Try.isAgg181
  z66 := Try.sizeOf181
  v66 := Try.zeroValue181
  t70 := Try.underlying185
  a70 := Try.isAgg185
  z70 := Try.sizeOf185
  v70 := Try.zeroValue185
  t76 := Try.underlying198
  a76 := Try.isAgg198
  z76 := Try.sizeOf198
  v76 := Try.zeroValue198
  t77 := Try.underlying199
  a77 := Try.isAgg199
  z77 := Try.sizeOf199
  v77 := Try.zeroValue199 }
def Try.laysSlF06_f104_ren : Go.Shelf.Ren := ⟨fun | 6 => 104 | 15 => 150 | 14 => 155 | 28 => 183 | 29 => 184 | 20 => 186 | 21 => 187 | 22 => 188 | 23 => 189 | 24 => 190 | 25 => 191 | 26 => 192 | 27 => 193 | 46 => 229 | 47 => 223 | 48 => 224 | 49 => 230 | 50 => 231 | 57 => 241 | n => n, fun | 22 => 22 | 24 => 26 | 25 => 101 | 3 => 3 | 39 => 121 | 0 => 0 | 53 => 156 | 55 => 107 | 4 => 4 | 46 => 150 | 45 => 149 | 50 => 56 | 5 => 5 | 9 => 9 | 66 => 181 | 70 => 185 | 76 => 198 | 77 => 199 | n => n, fun | n => n⟩
theorem Try.laysSlF06_f104 : Go.Proofs.SlLaysF0.n6 Try.prog Try.laysSlF06_f104_ren := {
  mixed := by kernel_rfl
  f6 := ⟨Try.f104.name, by decide, Try.func104.trans (congrArg some (by kernel_rfl))⟩
  f14 := ⟨Try.f155.name, by decide, Try.func155.trans (congrArg some (by kernel_rfl))⟩
  f15 := Try.func150.trans (congrArg some (by kernel_rfl))
  f20 := ⟨Try.f186.name, by decide, Try.func186.trans (congrArg some (by kernel_rfl))⟩
  f21 := ⟨Try.f187.name, by decide, Try.func187.trans (congrArg some (by kernel_rfl))⟩
  f22 := ⟨Try.f188.name, by decide, Try.func188.trans (congrArg some (by kernel_rfl))⟩
  f23 := ⟨Try.f189.name, by decide, Try.func189.trans (congrArg some (by kernel_rfl))⟩
  f24 := ⟨Try.f190.name, by decide, Try.func190.trans (congrArg some (by kernel_rfl))⟩
  f25 := ⟨Try.f191.name, by decide, Try.func191.trans (congrArg some (by kernel_rfl))⟩
  f26 := ⟨Try.f192.name, by decide, Try.func192.trans (congrArg some (by kernel_rfl))⟩
  f27 := ⟨Try.f193.name, by decide, Try.func193.trans (congrArg some (by kernel_rfl))⟩
  f28 := Try.func183.trans (congrArg some (by kernel_rfl))
  f29 := Try.func184.trans (congrArg some (by kernel_rfl))
  f46 := ⟨Try.f229.name, by decide, Try.func229.trans (congrArg some (by kernel_rfl))⟩
  f47 := Try.func223.trans (congrArg some (by kernel_rfl))
  f48 := Try.func224.trans (congrArg some (by kernel_rfl))
  f49 := ⟨Try.f230.name, by decide, Try.func230.trans (congrArg some (by kernel_rfl))⟩
  f50 := ⟨Try.f231.name, by decide, Try.func231.trans (congrArg some (by kernel_rfl))⟩
  f57 := ⟨Try.f241.name, by decide, Try.func241.trans (congrArg some (by kernel_rfl))⟩
  t0 := Try.underlying0
  a0 := Try.isAgg0
  z0 := Try.sizeOf0
  v0 := Try.zeroValue0
  t3 := Try.underlying3
  a3 := Try.isAgg3
  z3 := Try.sizeOf3
  v3 := Try.zeroValue3
  t4 := Try.underlying4
  a4 := Try.isAgg4
  z4 := Try.sizeOf4
  v4 := Try.zeroValue4
  t5 := Try.underlying5
  a5 := Try.isAgg5
  z5 := Try.sizeOf5
  v5 := Try.zeroValue5
  t9 := Try.underlying9
  a9 := Try.isAgg9
  z9 := Try.sizeOf9
  v9 := Try.zeroValue9
  t22 := Try.underlying22
  a22 := Try.isAgg22
  z22 := Try.sizeOf22
  v22 := Try.zeroValue22
  t25 := Try.underlying101
  a25 := Try.isAgg101
  z25 := Try.sizeOf101
  v25 := Try.zeroValue101
  t39 := Try.underlying121
  a39 := Try.isAgg121
  z39 := Try.sizeOf121
  v39 := Try.zeroValue121
  t45 := Try.underlying149
  a45 := Try.isAgg149
  z45 := Try.sizeOf149
  v45 := Try.zeroValue149
  t46 := Try.underlying150
  a46 := Try.isAgg150
  z46 := Try.sizeOf150
  v46 := Try.zeroValue150
  t50 := Try.underlying56
  a50 := Try.isAgg56
  z50 := Try.sizeOf56
  v50 := Try.zeroValue56
  t53 := Try.underlying156
  a53 := Try.isAgg156
  z53 := Try.sizeOf156
  v53 := Try.zeroValue156
  t55 := Try.underlying107
  a55 := Try.isAgg107
  z55 := Try.sizeOf107
  v55 := Try.zeroValue107
  t66 := Try.underlying181
  a66 := Try.isAgg181
  z66 := Try.sizeOf181
  v66 := Try.zeroValue181
  t70 := Try.underlying185
  a70 := Try.isAgg185
  z70 := Try.sizeOf185
  v70 := Try.zeroValue185
  t76 := Try.underlying198
  a76 := Try.isAgg198
  z76 := Try.sizeOf198
  v76 := Try.zeroValue198
  t77 := Try.underlying199
  a77 := Try.isAgg199
  z77 := Try.sizeOf199
  v77 := Try.zeroValue199 }
end Go.Proofs
namespace Go.Proofs.Ythnojbafclglpaa.P
open Go.RowKit Go.Deep Go.ChangeShapes Go.Joins Go.Proofs.YthnojbafclglpaaW.PrintWords
set_option linter.unusedVariables false
set_option linter.unusedSimpArgs false
def FitP (l : List S64) : Prop := l.length ≤ 9223372036854775807 ∧ ∀ e ∈ l, (Lit.int .i64 e.f0).wf = true ∧ (Lit.int .i64 e.f1).wf = true
section
variable {H : Type} {enc : TypeId × Value → H} {W : World} {base : Nat} {held : Bool} {fuel : Nat}

theorem read_prs {v : Value} {y : DataW H × List MemPlace} (h : DataW.trod enc Try.prog W base (fun _ => true) held fuel 23 [v] = some y) :
    ∃ (A : Option Addr) (c : Nat) (l : List S64), v = .slice A l.length c ∧ l.length ≤ c ∧ Kd.C k64 W A l.length l ∧ FitP l := by
  rcases open_slice Try.underlying23 h with ⟨hcs, _⟩ | ⟨a, len, cap, m, n, D, Pl, hcs, _, hl, hm, hmm, _, hx⟩
  · injection hcs with hv _
    exact ⟨none, 0, [], hv, Nat.le_refl _, ⟨rfl, Nat.zero_le _, fun h0 => absurd h0 (Nat.lt_irrefl _)⟩, ⟨Nat.zero_le _, fun n hn => by cases hn⟩⟩
  · injection hcs with hv _
    have hce : Try.prog.cellsOf 64 = 2 := by kernel_rfl
    have hci : Try.prog.cellsOf 3 = 1 := by kernel_rfl
    have each : ∀ i, i < len → ∃ e : S64, (W.cell? (a.add (i * 2)) = some (.int .i64 e.f0) ∧ W.cell? (a.add (i * 2 + 1)) = some (.int .i64 e.f1)) ∧ (Lit.int .i64 e.f0).wf = true ∧ (Lit.int .i64 e.f1).wf = true := by
      intro i hi
      obtain ⟨cs', h1, h2⟩ := hx i (by simp only [if_true] at hmm; omega)
      rw [hce] at h1
      obtain ⟨_, hcl, hcc⟩ := World.cells?_some h1
      obtain ⟨c0, c1, rfl⟩ : ∃ c0 c1, cs' = [c0, c1] := by
        match cs', hcl with
        | [c0, c1], _ => exact ⟨c0, c1, rfl⟩
      obtain ⟨xs, q, rfl, hq, _, hxl, he⟩ := DataW.trod_array Try.underlying64 h2
      have e0 := he 0 (by omega)
      have e1 := he 1 (by omega)
      simp only [hci] at e0 e1
      obtain ⟨y0, hy0⟩ : ∃ y0, xs[0]? = some y0 := ⟨xs[0], List.getElem?_eq_getElem (by omega)⟩
      obtain ⟨y1, hy1⟩ : ∃ y1, xs[1]? = some y1 := ⟨xs[1], List.getElem?_eq_getElem (by omega)⟩
      rw [hy0] at e0
      rw [hy1] at e1
      obtain ⟨n0, k0, _, w0⟩ := DataW.trod_int Try.underlying3 e0
      obtain ⟨n1, k1, _, w1⟩ := DataW.trod_int Try.underlying3 e1
      simp at k0 k1
      subst k0
      subst k1
      have f0 := hcc 0 (by omega)
      have f1 := hcc 1 (by omega)
      refine ⟨⟨n0, n1⟩, ⟨?_, ?_⟩, w0, w1⟩
      · rw [Addr.add_add, Nat.add_zero] at f0
        simpa using f0
      · rw [Addr.add_add] at f1
        simpa using f1
    have hlen : ((List.range len).map fun i => if hi : i < len then (each i hi).choose else z64).length = len := by simp
    refine ⟨some a, cap, (List.range len).map fun i => if hi : i < len then (each i hi).choose else z64, by rw [hlen]; exact hv, by omega, ⟨rfl, by unfold maxLen at hm; omega, fun _ => ⟨a, rfl, fun j p hj => ?_⟩⟩, ⟨by rw [hlen]; unfold maxLen at hm; omega, ?_⟩⟩
    · have hj2 := (List.getElem?_eq_some_iff.1 hj).1
      rw [hlen] at hj2
      have hp : (each j hj2).choose = p := by
        rw [List.getElem?_map, List.getElem?_range hj2] at hj
        simpa [hj2] using hj
      obtain ⟨⟨h1, h2⟩, _⟩ := (each j hj2).choose_spec
      rw [hp] at h1 h2
      refine ⟨[.int .i64 p.f0, .int .i64 p.f1], rfl, k64_mk W p, fun i u hi => ?_⟩
      rw [show k64.sz = 2 from rfl]
      match i, hi with
      | 0, hi =>
        have hu : Value.int .i64 p.f0 = u := by simpa using hi
        subst hu
        exact h1
      | 1, hi =>
        have hu : Value.int .i64 p.f1 = u := by simpa using hi
        subst hu
        exact h2
    · intro e he
      rw [List.mem_map] at he
      obtain ⟨r, hr, rfl⟩ := he
      have hr2 := List.mem_range.1 hr
      simp only [hr2, dif_pos]
      exact (each r hr2).choose_spec.2
end
end Go.Proofs.Ythnojbafclglpaa.P
namespace Go.Proofs.Ythnojbafclglpaa.P
open Go.RowKit Go.Proofs.YthnojbafclglpaaW.PrintWords Go.Proofs.YthnojbafclglpaaW.PrintLast Go.Proofs.YthnojbafclglpaaW.PrintMore
set_option linter.unusedVariables false
set_option linter.unusedSimpArgs false

def mark2 : List S64 → Int → Int × List S64
  | [], k => (k, [])
  | _ :: t, k => ((mark2 t (wrap64 (wrap64 (k + 1) + 1))).1, ⟨k, wrap64 (k + 1)⟩ :: (mark2 t (wrap64 (wrap64 (k + 1) + 1))).2)
def laws_markIntA2S.f (l0 : List S64) (a1 : Int) : Option (Int × (List S64)) := some (mark2 l0 a1)
/-- One pair is written. -/
theorem mark_step {W : World} {base g n cap : Nat} {ok : Nat → Prop} {xs : List S64} (h : Kd.R k64 64 W base ok (.slice (some ⟨g, 0, none⟩) n cap) xs) (m : Nat) (hm : m < n) (p q : Int) :
    Kd.R k64 64 ((W.setCell ⟨g, m * 2, none⟩ (.int .i64 p)).setCell ⟨g, m * 2 + 1, none⟩ (.int .i64 q)) base ok (.slice (some ⟨g, 0, none⟩) n cap) (xs.set m ⟨p, q⟩) ∧ W.grownBy ((W.setCell ⟨g, m * 2, none⟩ (.int .i64 p)).setCell ⟨g, m * 2 + 1, none⟩ (.int .i64 q)) (some g) := by
  obtain ⟨c, hcl, hM, hcc, hfz⟩ := Kd.R_elem h (z64) (m : Int) (by omega) (by omega)
  have hs := Kd.R_seg h (m : Int) (by omega) (by omega) (seg := [.int .i64 p, .int .i64 q]) (j := 0) hcl hcc (by show 0 + 2 ≤ 2; omega) (x' := (⟨p, q⟩ : S64)) (okp := fun k => ok k ∧ k ≠ g)
    (by rw [List.take_zero, List.nil_append, List.drop_eq_nil_of_le (by rw [hcl]; show 2 ≤ 0 + 2; omega), List.append_nil]; exact k64_mkM _ _ _ _) (fun k hk => hk)
  rw [Int.toNat_natCast, show k64.sz = 2 from rfl, Nat.add_zero] at hs
  exact hs
theorem set_mid {α : Type} (done : List α) (l : List α) (m : Nat) (hd : done.length = m) (hm : m < l.length) (x : α) : (done ++ l.drop m).set m x = (done ++ [x]) ++ l.drop (m + 1) := by
  subst hd
  rw [List.drop_eq_getElem_cons hm, List.set_append_right _ _ (Nat.le_refl _), Nat.sub_self, List.set_cons_zero, List.append_assoc, List.singleton_append]
set_option maxRecDepth 100000 in
set_option maxHeartbeats 2000000 in
theorem laws_markIntA2S.calls (P0_ : Nat → Prop) (u9000_ : Value) (l0 : List S64) (a1 : Int) (r1 : Int) (r2 : List S64) (w0 w : World) (hB : Below w0.heap.size w0 w) (ho0 : Kd.R k64 64 w w0.heap.size P0_ u9000_ l0) (h : laws_markIntA2S.f l0 a1 = some (r1, r2)) :
    Calls Try.prog 77 #[u9000_, .int .i64 a1] w fun e w' => e = .returned (.int .i64 r1) ∧ Kd.R k64 64 w' w0.heap.size (fun k_ => (P0_ k_ ∨ w.heap.size ≤ k_)) u9000_ r2 ∧ Below w0.heap.size w0 w' ∧ Kept w w' (fun k_ => P0_ k_) := by
  have HO := Aside0.mk (show Kd.R k64 64 w w0.heap.size (fun k_ => (P0_ k_ ∨ w.heap.size ≤ k_)) u9000_ l0 from Kd.R_mono ho0 (fun k_ hk => (.inl hk)))
  have HP := Aside0.mk ho0.1
  unfold laws_markIntA2S.f at h
  have H' := Aside0.mk (Option.some.inj h)
  obtain ⟨A, c, e0⟩ := Kd.R_slice ho0
  have HL := Aside0.mk (show l0.length ≤ 9223372036854775807 by
    obtain ⟨A', c', _, _, hc⟩ := Kd.R_reads ho0
    exact hc.2.1)
  have HB0 := Aside0.mk hB
  clear h hB ho0
  subst e0
  go_enter Try.func77, Try.ntmps77
  go_wp2
  go_loopg [5, 1, 6] (l0.length + 1) (fun kq v5 v1 v6 w' => ∃ (m : Nat) (kk : Int) (done : List S64), v5 = .int .i64 m ∧ v1 = .int .i64 kk ∧ Aside0 (m ≤ l0.length) ∧ Aside0 (kq = l0.length - m + 1) ∧ Aside0 (done.length = m) ∧ Aside0 ((mark2 (l0.drop m) kk).1 = r1 ∧ done ++ (mark2 (l0.drop m) kk).2 = r2) ∧ Aside0 (Kd.R k64 64 w' w0.heap.size (fun k_ => (P0_ k_ ∨ w.heap.size ≤ k_)) (.slice A l0.length c) (done ++ l0.drop m)) ∧ Aside0 (Below w0.heap.size w0 w') ∧ Aside0 (Kept w w' (fun k_ => P0_ k_)))
  case atStart => exact ⟨0, a1, [], rfl, rfl, ⟨Nat.zero_le _⟩, ⟨by omega⟩, ⟨rfl⟩, ⟨by rw [List.drop_zero, H'.out]; exact ⟨rfl, rfl⟩⟩, ⟨by rw [List.drop_zero]; exact HO.out⟩, HB0, ⟨Kept.refl _ _⟩⟩
  case round =>
    clear H' HO HB0
    obtain ⟨m, kk, done, rfl, rfl, HM, HK1, HD, HA, HO, HB, HK⟩ := hrel
    have HN := Aside0.mk (show (done ++ l0.drop m).length = l0.length by rw [List.length_append, List.length_drop, HD.out]; have := HM.out; omega)
    by_cases c1 : m < l0.length
    · have q1 : (m : Int) < (l0.length : Int) := by omega
      obtain ⟨g, cap, eg, gb, gl, HG⟩ := Kd.R_form HO.out (by rw [HN.out]; omega)
      rw [HN.out] at eg
      injection eg with eA _ ec
      subst eA; subst ec
      have GB := Aside0.mk gb
      have HPg := Aside0.mk (HP.out g rfl)
      obtain ⟨cs, hcl, hM, hcc, hfz⟩ := Kd.R_elem HO.out (z64) (m : Int) (by omega) q1
      obtain rfl := k64_openM hM
      have hx0 := hcc 0 _ rfl
      have hx1 := hcc 1 _ rfl
      have hf0 := hfz 0
      have hf1 := hfz 1
      rw [Int.toNat_natCast, show k64.sz = 2 from rfl] at hx0 hx1 hf0 hf1
      rw [Nat.add_zero] at hx0 hf0
      have HS := Aside0.mk (mark_step HO.out m c1 kk (wrap64 (kk + 1)))
      have hx1' : (wr.setCell ⟨g, m * 2, none⟩ (.int .i64 kk)).cell? ⟨g, m * 2 + 1, none⟩ = _ := (World.cell?_setCell_other wr _ _ _ (by simp)).trans hx1
      have HE := Aside0.mk (set_mid done l0 m HD.out c1 (⟨kk, wrap64 (kk + 1)⟩ : S64))
      have H2 : Aside0 ((mark2 (l0.drop (m + 1)) (wrap64 (wrap64 (kk + 1) + 1))).1 = r1 ∧ (done ++ [⟨kk, wrap64 (kk + 1)⟩]) ++ (mark2 (l0.drop (m + 1)) (wrap64 (wrap64 (kk + 1) + 1))).2 = r2) := ⟨by
        have e_ := HA.out
        rw [List.drop_eq_getElem_cons c1] at e_
        simp only [mark2] at e_
        rw [List.append_assoc, List.singleton_append]
        exact e_⟩
      clear HA hM hcc hfz hcl gl HG gb
      have c1b : decide ((m : Int) < (l0.length : Int)) = true := decide_eq_true q1
      have c1c : decide (m < l0.length) = true := decide_eq_true c1
      have p1 : (0 : Int) ≤ (m : Int) := by omega
      have hw1 : (m : Int) + 1 ≤ 9223372036854775807 := by have := HL.out; omega
      replace p1 := eq_true p1
      replace q1 := eq_true q1
      clear c1
      go_wp2
      refine wp_loop_rounds 3 ?_
      rw [rounds_succ]; go_wp2
      rw [rounds_succ]; go_wp2
      rw [rounds_succ]; go_wp2
      go_roundg (l0.length - m)
      case measure => have := HK1.out; have := HM.out; omega
      case rel => exact ⟨m + 1, _, done ++ [⟨kk, wrap64 (kk + 1)⟩], by first | rfl | (simp; done) | go_num, rfl, ⟨by have := of_eq_true q1; omega⟩, ⟨by have := of_eq_true q1; omega⟩, ⟨by rw [List.length_append, HD.out]; rfl⟩, H2, ⟨by rw [← HE.out]; exact HS.out.1⟩, ⟨pw_below_grown HB.out (some g) HB.out.size HS.out.2 (fun k_ e_ => by injection e_ with e_; subst e_; exact GB.out)⟩, ⟨Kept.of_grown HS.out.2 HK.out (fun k_ e_ => by injection e_ with e_; subst e_; exact .inl HPg.out)⟩⟩
    · have q1 : ¬ (m : Int) < (l0.length : Int) := by omega
      have c1b : decide ((m : Int) < (l0.length : Int)) = false := decide_eq_false q1
      have c1c : decide (m < l0.length) = false := decide_eq_false c1
      have H3 : Aside0 (kk = r1 ∧ done ++ l0.drop m = r2) := ⟨by
        have e_ := HA.out
        rw [List.drop_eq_nil_of_le (show l0.length ≤ m by omega)] at e_ ⊢
        exact e_⟩
      clear HA c1 q1
      go_wp2
      go_ret
      exact ⟨by have e_ := H3.out.1; subst e_; rfl, by rw [← H3.out.2]; exact HO.out, HB.out, HK.out⟩

end Go.Proofs.Ythnojbafclglpaa.P
namespace Go.Proofs.Ythnojbafclglpaa.P
open Go.RowKit Go.Proofs.YthnojbafclglpaaW.PrintWords Go.Proofs.YthnojbafclglpaaW.PrintLast Go.Proofs.YthnojbafclglpaaW.PrintMore
attribute [local go_sem] max2_int min2_int max_two min_two max_three min_three max_four min_four   -- for this text's walks alone
set_option linter.unusedVariables false
set_option linter.unusedSimpArgs false

/-! ### laws_eqIntS: function 18 -/
def laws_eqIntS.l0 : Nat → List Int → List Int → Int → Option (Bool)
 | 0, _, _, _ => none
 | k + 1, x0, x1, x5 => if x5 < (x0.length : Int) then (if 0 ≤ x5 then (if x5 < (x1.length : Int) then (if (rd x0 x5) = (rd x1 x5) then (laws_eqIntS.l0 k x0 x1 (wrap64 (x5 + 1))) else (some false)) else (none)) else (none)) else (some true)
def laws_eqIntS.f (k : Nat) (l0 : List Int) (l1 : List Int) : Option (Bool) := if (l0.length : Int) = (l1.length : Int) then (laws_eqIntS.l0 k l0 l1 0) else (some false)
set_option maxHeartbeats 8000000 in
set_option maxRecDepth 100000 in
theorem laws_eqIntS.calls (k : Nat) (A0 : Option Addr) (c0 : Nat) (l0 : List Int) (A1 : Option Addr) (c1 : Nat) (l1 : List Int) (r : Bool) (w : World) (hr0 : Kd.C (Kd.int .i64) w A0 l0.length l0) (hc0 : l0.length ≤ c0) (hr1 : Kd.C (Kd.int .i64) w A1 l1.length l1) (hc1 : l1.length ≤ c1) (h : laws_eqIntS.f k l0 l1 = some r) :
 Calls Try.prog 18 #[.slice A0 l0.length c0, .slice A1 l1.length c1] w fun e w' => e = .returned (.bool r) ∧ Drawn0 w w' := by
 have HR0 := Aside0.mk hr0
 have HC0 := Aside0.mk hc0
 clear hr0 hc0
 have HR1 := Aside0.mk hr1
 have HC1 := Aside0.mk hc1
 clear hr1 hc1
 have H : (if (l0.length : Int) = (l1.length : Int) then (laws_eqIntS.l0 k l0 l1 0) else (some false)) = some r := h
 clear h
 by_cases c3 : (l0.length : Int) = (l1.length : Int)
 · rw [if_pos c3] at H
   have c3b0 : ((l0.length : Int) == (l1.length : Int)) = true := beq_iff_eq.mpr c3
   have c3b1 : ((l0.length : Int) != (l1.length : Int)) = false := bne_eq_false_iff_eq.mpr c3
   have c3b2 : (l0.length == l1.length) = true := by first | simpa using c3 | (simp at c3 ⊢; omega)
   clear c3
   have H' := Aside0.mk H
   clear H
   go_enter Try.func18, Try.ntmps18
   go_wp2
   repeat (go_quiet (fail); try go_wp2)
   go_loopg [5] k (fun kq v5 w' => ∃ (x5_1 : Int), v5 = .int .i64 x5_1 ∧ Aside0 (laws_eqIntS.l0 kq l0 l1 x5_1 = some r) ∧ Aside0 (kq ≤ k) ∧ Drawn0 w w')
   case atStart => exact ⟨(0), (by first | rfl | (simp; done) | (simp [*]; done)), H', ⟨Nat.le_refl _⟩, by repeat (first | exact Drawn0.refl _ | apply Drawn0.step)⟩
   case round =>
    clear H'
    try clear c1
    try clear p2
    try clear c3
    try clear c3b0
    try clear c3b1
    try clear c3b2
    obtain ⟨x5_1, rfl, HA, HK1, ⟨m1, rfl⟩⟩ := hrel
    cases gk with
    | zero => exact absurd HA.out (by simp [laws_eqIntS.l0])
    | succ k1 =>
     have H := HA.out
     clear HA
     simp only [laws_eqIntS.l0] at H
     by_cases c4 : x5_1 < (l0.length : Int)
     · rw [if_pos c4] at H
       have c4b0 := decide_eq_true c4
       clear c4
       by_cases c5 : 0 ≤ x5_1
       · rw [if_pos c5] at H
         have c5b0 := decide_eq_true c5
         clear c5
         by_cases c6 : x5_1 < (l1.length : Int)
         · rw [if_pos c6] at H
           have c6b0 := decide_eq_true c6
           clear c6
           by_cases c7 : (rd l0 x5_1) = (rd l1 x5_1)
           · rw [if_pos c7] at H
             have c7b0 : ((rd l0 x5_1) == (rd l1 x5_1)) = true := beq_iff_eq.mpr c7
             have c7b1 : ((rd l0 x5_1) != (rd l1 x5_1)) = false := bne_eq_false_iff_eq.mpr c7
             clear c7
             have H' := Aside0.mk H
             clear H
             have p316 : 0 ≤ (x5_1 : Int) := of_decide_eq_true zA
             have q316 : x5_1 < (l0.length : Int) := of_decide_eq_true zA
             obtain ⟨ad316, e316, hx316_0⟩ := Kd.at_int HR0.out x5_1 p316 q316
             cases e316
             replace p316 := eq_true p316
             replace q316 := eq_true q316
             have p317 : 0 ≤ (x5_1 : Int) := of_decide_eq_true zA
             have q317 : x5_1 < (l1.length : Int) := of_decide_eq_true zA
             obtain ⟨ad317, e317, hx317_0⟩ := Kd.at_int HR1.out x5_1 p317 q317
             cases e317
             replace p317 := eq_true p317
             replace q317 := eq_true q317
             go_wp2
             repeat (go_quiet (fail); try go_wp2)
             go_roundg k1
             case measure => have := HK1.out; omega
             case rel => exact ⟨(wrap64 (x5_1 + 1)), (by first | rfl | (simp; done) | (simp [*]; done)), H', ⟨by have := HK1.out; omega⟩, by repeat (first | exact Drawn0.refl _ | apply Drawn0.step)⟩
           · rw [if_neg c7] at H
             have c7b0 : ((rd l0 x5_1) == (rd l1 x5_1)) = false := beq_eq_false_iff_ne.mpr c7
             have c7b1 : ((rd l0 x5_1) != (rd l1 x5_1)) = true := bne_iff_ne.mpr c7
             obtain rfl := Option.some.inj H
             have p316 : 0 ≤ (x5_1 : Int) := of_decide_eq_true zA
             have q316 : x5_1 < (l0.length : Int) := of_decide_eq_true zA
             obtain ⟨ad316, e316, hx316_0⟩ := Kd.at_int HR0.out x5_1 p316 q316
             cases e316
             replace p316 := eq_true p316
             replace q316 := eq_true q316
             have p317 : 0 ≤ (x5_1 : Int) := of_decide_eq_true zA
             have q317 : x5_1 < (l1.length : Int) := of_decide_eq_true zA
             obtain ⟨ad317, e317, hx317_0⟩ := Kd.at_int HR1.out x5_1 p317 q317
             cases e317
             replace p317 := eq_true p317
             replace q317 := eq_true q317
             go_wp2
             repeat (go_quiet (fail); try go_wp2)
             go_ret
             exact ⟨by first | rfl | (simp; done) | (simp [*]; done), by repeat (first | exact Drawn0.refl _ | apply Drawn0.step)⟩
         · rw [if_neg c6] at H
           exact absurd H (by simp)
       · rw [if_neg c5] at H
         exact absurd H (by simp)
     · rw [if_neg c4] at H
       have c4b0 : decide (x5_1 < (l0.length : Int)) = false := decide_eq_false c4
       clear c4
       obtain rfl := Option.some.inj H
       go_wp2
       repeat (go_quiet (fail); try go_wp2)
       go_ret
       exact ⟨by first | rfl | (simp; done) | (simp [*]; done), by repeat (first | exact Drawn0.refl _ | apply Drawn0.step)⟩
 · rw [if_neg c3] at H
   have c3b0 : ((l0.length : Int) == (l1.length : Int)) = false := beq_eq_false_iff_ne.mpr c3
   have c3b1 : ((l0.length : Int) != (l1.length : Int)) = true := bne_iff_ne.mpr c3
   have c3b2 : (l0.length == l1.length) = false := by first | simpa using c3 | (simp at c3 ⊢; omega)
   obtain rfl := Option.some.inj H
   go_enter Try.func18, Try.ntmps18
   go_wp2
   repeat (go_quiet (fail); try go_wp2)
   go_ret
   exact ⟨by first | rfl | (simp; done) | (simp [*]; done), by repeat (first | exact Drawn0.refl _ | apply Drawn0.step)⟩

/-! ### laws_eqIntA2S: function 75 -/
def laws_eqIntA2S.l0 : Nat → List (S64) → List (S64) → Int → Option (Bool)
 | 0, _, _, _ => none
 | k + 1, x0, x1, x5 => if x5 < (x0.length : Int) then (if 0 ≤ x5 then (if x5 < (x1.length : Int) then ((laws_eqIntA2.f ((rd_T64 x0 x5).f0) ((rd_T64 x0 x5).f1) ((rd_T64 x1 x5).f0) ((rd_T64 x1 x5).f1)).bind fun t323 => (if t323 = true then (laws_eqIntA2S.l0 k x0 x1 (wrap64 (x5 + 1))) else (some false))) else (none)) else (none)) else (some true)
def laws_eqIntA2S.f (k : Nat) (l0 : List (S64)) (l1 : List (S64)) : Option (Bool) := if (l0.length : Int) = (l1.length : Int) then (laws_eqIntA2S.l0 k l0 l1 0) else (some false)
def laws_eqIntA2S.T6 : Bool × List (List Nat × List Nat) := (true, [([], []), ([], []), ([0, 1], [0, 1]), ([2], [2]), ([], []), ([], []), ([4, 5], [4, 5]), ([6], [6]), ([3, 7], [3, 7]), ([8], [8])])
def laws_eqIntA2S.B6 : List Nat := [0, 0, 3, 7, 0, 0, 48, 112, 255, 511]
theorem laws_eqIntA2S.tab6 : rtab .any (opsOf Try.f75 6) = laws_eqIntA2S.T6 := by kernel_rfl
theorem laws_eqIntA2S.bits6 : waitsOk laws_eqIntA2S.T6.2 laws_eqIntA2S.B6 = true := by kernel_rfl
set_option maxHeartbeats 8000000 in
set_option maxRecDepth 100000 in
theorem laws_eqIntA2S.calls (k : Nat) (A0 : Option Addr) (c0 : Nat) (l0 : List (S64)) (A1 : Option Addr) (c1 : Nat) (l1 : List (S64)) (r : Bool) (w : World) (hr0 : Kd.C k64 w A0 l0.length l0) (hc0 : l0.length ≤ c0) (hr1 : Kd.C k64 w A1 l1.length l1) (hc1 : l1.length ≤ c1) (h : laws_eqIntA2S.f k l0 l1 = some r) :
 Calls Try.prog 75 #[.slice A0 l0.length c0, .slice A1 l1.length c1] w fun e w' => e = .returned (.bool r) ∧ Below w.heap.size w w' := by
 have hu64 := Try.underlying64
 have HR0 := Aside0.mk hr0
 have HC0 := Aside0.mk hc0
 clear hr0 hc0
 have HR1 := Aside0.mk hr1
 have HC1 := Aside0.mk hc1
 clear hr1 hc1
 have HB := zM (Below.refl w.heap.size w)
 have H : (if (l0.length : Int) = (l1.length : Int) then (laws_eqIntA2S.l0 k l0 l1 0) else (some false)) = some r := h
 clear h
 by_cases c3 : (l0.length : Int) = (l1.length : Int)
 · rw [if_pos c3] at H
   have c3b0 : ((l0.length : Int) == (l1.length : Int)) = true := beq_iff_eq.mpr c3
   have c3b1 : ((l0.length : Int) != (l1.length : Int)) = false := bne_eq_false_iff_eq.mpr c3
   have c3b2 : (l0.length == l1.length) = true := by first | simpa using c3 | (simp at c3 ⊢; omega)
   clear c3
   have H' := Aside0.mk H
   clear H
   go_enter Try.func75, Try.ntmps75
   go_wp2
   go_loopg [5] k (fun kq v5 w' => ∃ (x5_1 : Int), v5 = .int .i64 x5_1 ∧ Aside0 (laws_eqIntA2S.l0 kq l0 l1 x5_1 = some r) ∧ Aside0 (kq ≤ k) ∧ Aside0 (Below w.heap.size w w'))
   case atStart => exact ⟨(0), (by first | rfl | (simp; done) | (simp [*]; done)), H', ⟨Nat.le_refl _⟩, ⟨zB⟩⟩
   case round =>
    clear H'
    try clear c1
    try clear p2
    try clear c3
    try clear c3b0
    try clear c3b1
    try clear c3b2
    obtain ⟨x5_1, rfl, HA, HK1, HB⟩ := hrel
    cases gk with
    | zero => exact absurd HA.out (by simp [laws_eqIntA2S.l0])
    | succ k1 =>
     have H := HA.out
     clear HA
     simp only [laws_eqIntA2S.l0] at H
     by_cases c4 : x5_1 < (l0.length : Int)
     · rw [if_pos c4] at H
       have c4b0 := decide_eq_true c4
       clear c4
       by_cases c5 : 0 ≤ x5_1
       · rw [if_pos c5] at H
         have c5b0 := decide_eq_true c5
         clear c5
         by_cases c6 : x5_1 < (l1.length : Int)
         · rw [if_pos c6] at H
           have c6b0 := decide_eq_true c6
           clear c6
           replace H := Option.bind_eq_some_iff.mp H
           obtain ⟨t323, A70, H⟩ := H
           have A7 := Aside0.mk A70
           clear A70
           by_cases c8 : t323 = true
           · subst c8
             rw [if_pos rfl] at H
             have H' := Aside0.mk H
             clear H
             try go_wp2
             replace HB := zM (below_drew1 HB.out)
             have p321 : 0 ≤ (x5_1 : Int) := of_decide_eq_true zA
             have q321 : x5_1 < (l0.length : Int) := of_decide_eq_true zA
             obtain ⟨ad321, e321, hx321_0, hx321_1⟩ := at_T64 HR0.out x5_1 p321 q321
             have hw321_1 := hx321_1
             have hw321_0 := hx321_0
             cases e321
             (try replace hx321_0 := (HB.out.cell (World.block_lt_of_cell? w _ hx321_0)).trans hx321_0)
             (try replace hx321_1 := (HB.out.cell (World.block_lt_of_cell? w _ hx321_1)).trans hx321_1)
             replace p321 := eq_true p321
             replace q321 := eq_true q321
             have p322 : 0 ≤ (x5_1 : Int) := of_decide_eq_true zA
             have q322 : x5_1 < (l1.length : Int) := of_decide_eq_true zA
             obtain ⟨ad322, e322, hx322_0, hx322_1⟩ := at_T64 HR1.out x5_1 p322 q322
             have hw322_1 := hx322_1
             have hw322_0 := hx322_0
             cases e322
             (try replace hx322_0 := (HB.out.cell (World.block_lt_of_cell? w _ hx322_0)).trans hx322_0)
             (try replace hx322_1 := (HB.out.cell (World.block_lt_of_cell? w _ hx322_1)).trans hx322_1)
             replace p322 := eq_true p322
             replace q322 := eq_true q322
             refine zs (n := 10) (fun w' => w'.cell? (ad321.add ((x5_1).toNat * 2)) = some (.int .i64 ((rd_T64 l0 x5_1).f0)) ∧ w'.cell? ⟨(ad321.add ((x5_1).toNat * 2)).block, (ad321.add ((x5_1).toNat * 2)).off + 1, none⟩ = some (.int .i64 ((rd_T64 l0 x5_1).f1)) ∧ w'.cell? (ad322.add ((x5_1).toNat * 2)) = some (.int .i64 ((rd_T64 l1 x5_1).f0)) ∧ w'.cell? ⟨(ad322.add ((x5_1).toNat * 2)).block, (ad322.add ((x5_1).toNat * 2)).off + 1, none⟩ = some (.int .i64 ((rd_T64 l1 x5_1).f1))) ⟨((HB.out.cell (World.block_lt_of_cell? w _ hw321_0)).trans hw321_0), ((HB.out.cell (World.block_lt_of_cell? w _ hw321_1)).trans hw321_1), ((HB.out.cell (World.block_lt_of_cell? w _ hw322_0)).trans hw322_0), ((HB.out.cell (World.block_lt_of_cell? w _ hw322_1)).trans hw322_1)⟩ (fun hHeld => ?_); refine with_tabW laws_eqIntA2S.tab6 laws_eqIntA2S.bits6 (fun HT_ HW_ => ?_)
             generalize wr.drew = w9 at HB hx321_0 hx321_1 hx322_0 hx322_1 hHeld ⊢
             refine zp HT_ 0 17 ?_
             refine zp HT_ 1 18 ?_
             refine zp HT_ 2 19 ?_
             refine zp HT_ 4 21 ?_
             refine zp HT_ 5 22 ?_
             refine zp HT_ 6 23 ?_
             refine zt HT_ HW_ 3 20 hHeld ?_ (hy := by rintro w' ⟨s0, s1, s2, s3⟩; go_simp; with_reducible rfl)
             refine zt HT_ HW_ 7 24 hHeld ?_ (hy := by rintro w' ⟨s0, s1, s2, s3⟩; go_simp; with_reducible rfl)
             refine zg HT_ 8 25 Try.func141 #[.agg #[.int .i64 ((rd_T64 l0 x5_1).f0), .int .i64 ((rd_T64 l0 x5_1).f1)], .agg #[.int .i64 ((rd_T64 l1 x5_1).f0), .int .i64 ((rd_T64 l1 x5_1).f1)]] (fun K hK => ?_)
             with_reducible refine (laws_eqIntA2.calls ((rd_T64 l0 x5_1).f0) ((rd_T64 l0 x5_1).f1) ((rd_T64 l1 x5_1).f0) ((rd_T64 l1 x5_1).f1) true _ A7.out).mono ?_
             rintro e w10 ⟨rfl, hb⟩
             refine ⟨_, rfl, ?_⟩
             replace HB := zM (below_step zB hb)
             (try clear hb)
             (try clear hb2)
             (try clear hk)
             (try clear hi)
             refine hK.out _ _ ⟨((HB.out.cell (World.block_lt_of_cell? w _ hw321_0)).trans hw321_0), ((HB.out.cell (World.block_lt_of_cell? w _ hw321_1)).trans hw321_1), ((HB.out.cell (World.block_lt_of_cell? w _ hw322_0)).trans hw322_0), ((HB.out.cell (World.block_lt_of_cell? w _ hw322_1)).trans hw322_1)⟩ (fun hHeld => ?_)
             clear hK K
             refine zn 25 ?_
             refine zp HT_ 9 26 ?_
             refine zo HT_ ?_
             try go_wp2
             go_roundg k1
             case measure => have := HK1.out; omega
             case rel => exact ⟨(wrap64 (x5_1 + 1)), (by first | rfl | (simp; done) | (simp [*]; done)), H', ⟨by have := HK1.out; omega⟩, ⟨zB⟩⟩
           · replace c8 := Bool.eq_false_iff.mpr c8
             subst c8
             have H1 : (some false) = some r := by rw [if_neg (show ¬ (false = true) by decide)] at H; exact H
             clear H
             have H := H1
             clear H1
             obtain rfl := Option.some.inj H
             try go_wp2
             replace HB := zM (below_drew1 HB.out)
             have p321 : 0 ≤ (x5_1 : Int) := of_decide_eq_true zA
             have q321 : x5_1 < (l0.length : Int) := of_decide_eq_true zA
             obtain ⟨ad321, e321, hx321_0, hx321_1⟩ := at_T64 HR0.out x5_1 p321 q321
             have hw321_1 := hx321_1
             have hw321_0 := hx321_0
             cases e321
             (try replace hx321_0 := (HB.out.cell (World.block_lt_of_cell? w _ hx321_0)).trans hx321_0)
             (try replace hx321_1 := (HB.out.cell (World.block_lt_of_cell? w _ hx321_1)).trans hx321_1)
             replace p321 := eq_true p321
             replace q321 := eq_true q321
             have p322 : 0 ≤ (x5_1 : Int) := of_decide_eq_true zA
             have q322 : x5_1 < (l1.length : Int) := of_decide_eq_true zA
             obtain ⟨ad322, e322, hx322_0, hx322_1⟩ := at_T64 HR1.out x5_1 p322 q322
             have hw322_1 := hx322_1
             have hw322_0 := hx322_0
             cases e322
             (try replace hx322_0 := (HB.out.cell (World.block_lt_of_cell? w _ hx322_0)).trans hx322_0)
             (try replace hx322_1 := (HB.out.cell (World.block_lt_of_cell? w _ hx322_1)).trans hx322_1)
             replace p322 := eq_true p322
             replace q322 := eq_true q322
             refine zs (n := 10) (fun w' => w'.cell? (ad321.add ((x5_1).toNat * 2)) = some (.int .i64 ((rd_T64 l0 x5_1).f0)) ∧ w'.cell? ⟨(ad321.add ((x5_1).toNat * 2)).block, (ad321.add ((x5_1).toNat * 2)).off + 1, none⟩ = some (.int .i64 ((rd_T64 l0 x5_1).f1)) ∧ w'.cell? (ad322.add ((x5_1).toNat * 2)) = some (.int .i64 ((rd_T64 l1 x5_1).f0)) ∧ w'.cell? ⟨(ad322.add ((x5_1).toNat * 2)).block, (ad322.add ((x5_1).toNat * 2)).off + 1, none⟩ = some (.int .i64 ((rd_T64 l1 x5_1).f1))) ⟨((HB.out.cell (World.block_lt_of_cell? w _ hw321_0)).trans hw321_0), ((HB.out.cell (World.block_lt_of_cell? w _ hw321_1)).trans hw321_1), ((HB.out.cell (World.block_lt_of_cell? w _ hw322_0)).trans hw322_0), ((HB.out.cell (World.block_lt_of_cell? w _ hw322_1)).trans hw322_1)⟩ (fun hHeld => ?_); refine with_tabW laws_eqIntA2S.tab6 laws_eqIntA2S.bits6 (fun HT_ HW_ => ?_)
             generalize wr.drew = w11 at HB hx321_0 hx321_1 hx322_0 hx322_1 hHeld ⊢
             refine zp HT_ 0 17 ?_
             refine zp HT_ 1 18 ?_
             refine zp HT_ 2 19 ?_
             refine zp HT_ 4 21 ?_
             refine zp HT_ 5 22 ?_
             refine zp HT_ 6 23 ?_
             refine zt HT_ HW_ 3 20 hHeld ?_ (hy := by rintro w' ⟨s0, s1, s2, s3⟩; go_simp; with_reducible rfl)
             refine zt HT_ HW_ 7 24 hHeld ?_ (hy := by rintro w' ⟨s0, s1, s2, s3⟩; go_simp; with_reducible rfl)
             refine zg HT_ 8 25 Try.func141 #[.agg #[.int .i64 ((rd_T64 l0 x5_1).f0), .int .i64 ((rd_T64 l0 x5_1).f1)], .agg #[.int .i64 ((rd_T64 l1 x5_1).f0), .int .i64 ((rd_T64 l1 x5_1).f1)]] (fun K hK => ?_)
             with_reducible refine (laws_eqIntA2.calls ((rd_T64 l0 x5_1).f0) ((rd_T64 l0 x5_1).f1) ((rd_T64 l1 x5_1).f0) ((rd_T64 l1 x5_1).f1) false _ A7.out).mono ?_
             rintro e w12 ⟨rfl, hb⟩
             refine ⟨_, rfl, ?_⟩
             replace HB := zM (below_step zB hb)
             (try clear hb)
             (try clear hb2)
             (try clear hk)
             (try clear hi)
             refine hK.out _ _ ⟨((HB.out.cell (World.block_lt_of_cell? w _ hw321_0)).trans hw321_0), ((HB.out.cell (World.block_lt_of_cell? w _ hw321_1)).trans hw321_1), ((HB.out.cell (World.block_lt_of_cell? w _ hw322_0)).trans hw322_0), ((HB.out.cell (World.block_lt_of_cell? w _ hw322_1)).trans hw322_1)⟩ (fun hHeld => ?_)
             clear hK K
             refine zn 25 ?_
             refine zp HT_ 9 26 ?_
             refine zo HT_ ?_
             try go_wp2
             go_ret
             exact ⟨by first | rfl | (simp [errW_none, errW_some] <;> rfl) | (simp [*, errW_none, errW_some] <;> rfl), zB⟩
         · rw [if_neg c6] at H
           exact absurd H (by simp)
       · rw [if_neg c5] at H
         exact absurd H (by simp)
     · rw [if_neg c4] at H
       have c4b0 : decide (x5_1 < (l0.length : Int)) = false := decide_eq_false c4
       clear c4
       obtain rfl := Option.some.inj H
       go_wp2
       go_ret
       exact ⟨by first | rfl | (simp [errW_none, errW_some] <;> rfl) | (simp [*, errW_none, errW_some] <;> rfl), zB⟩
 · rw [if_neg c3] at H
   have c3b0 : ((l0.length : Int) == (l1.length : Int)) = false := beq_eq_false_iff_ne.mpr c3
   have c3b1 : ((l0.length : Int) != (l1.length : Int)) = true := bne_iff_ne.mpr c3
   have c3b2 : (l0.length == l1.length) = false := by first | simpa using c3 | (simp at c3 ⊢; omega)
   obtain rfl := Option.some.inj H
   go_enter Try.func75, Try.ntmps75
   go_wp2
   go_ret
   exact ⟨by first | rfl | (simp [errW_none, errW_some] <;> rfl) | (simp [*, errW_none, errW_some] <;> rfl), zB⟩

end Go.Proofs.Ythnojbafclglpaa.P
namespace Go.Proofs.Ythnojbafclglpaa.P
open Go.RowKit Go.Proofs.YthnojbafclglpaaW.PrintWords Go.Proofs.YthnojbafclglpaaW.PrintLast Go.Proofs.YthnojbafclglpaaW.PrintMore
attribute [local go_sem] max2_int min2_int max_two min_two max_three min_three max_four min_four   -- for this text's walks alone
set_option linter.unusedVariables false
set_option linter.unusedSimpArgs false

/-! ### laws_eqGraph: function 26 -/
def laws_eqGraph.f (k : Nat) (a0_0 : Int) (l0_1 : List (S64)) (a1_0 : Int) (l1_1 : List (S64)) : Option (Bool) := if a0_0 = a1_0 then ((laws_eqIntA2S.f k l0_1 l1_1).bind fun t531 => (if t531 = true then (some true) else (some false))) else (some false)
set_option maxHeartbeats 8000000 in
set_option maxRecDepth 100000 in
theorem laws_eqGraph.calls (k : Nat) (a0_0 : Int) (A0_1 : Option Addr) (c0_1 : Nat) (l0_1 : List (S64)) (a1_0 : Int) (A1_1 : Option Addr) (c1_1 : Nat) (l1_1 : List (S64)) (r : Bool) (w : World) (hr0_1 : Kd.C k64 w A0_1 l0_1.length l0_1) (hc0_1 : l0_1.length ≤ c0_1) (hr1_1 : Kd.C k64 w A1_1 l1_1.length l1_1) (hc1_1 : l1_1.length ≤ c1_1) (h : laws_eqGraph.f k a0_0 l0_1 a1_0 l1_1 = some r) :
 Calls Try.prog 26 #[.agg #[.int .i64 a0_0, .slice A0_1 l0_1.length c0_1], .agg #[.int .i64 a1_0, .slice A1_1 l1_1.length c1_1]] w fun e w' => e = .returned (.bool r) ∧ Below w.heap.size w w' := by
 have hu43 := Try.underlying43
 have HR0_1 := Aside0.mk hr0_1
 have HC0_1 := Aside0.mk hc0_1
 clear hr0_1 hc0_1
 have HR1_1 := Aside0.mk hr1_1
 have HC1_1 := Aside0.mk hc1_1
 clear hr1_1 hc1_1
 have HB := zM (Below.refl w.heap.size w)
 have H : (if a0_0 = a1_0 then ((laws_eqIntA2S.f k l0_1 l1_1).bind fun t531 => (if t531 = true then (some true) else (some false))) else (some false)) = some r := h
 clear h
 by_cases c3 : a0_0 = a1_0
 · rw [if_pos c3] at H
   have c3b0 : (a0_0 == a1_0) = true := beq_iff_eq.mpr c3
   have c3b1 : (a0_0 != a1_0) = false := bne_eq_false_iff_eq.mpr c3
   clear c3
   replace H := Option.bind_eq_some_iff.mp H
   obtain ⟨t531, A40, H⟩ := H
   have A4 := Aside0.mk A40
   clear A40
   by_cases c5 : t531 = true
   · subst c5
     rw [if_pos rfl] at H
     obtain rfl := Option.some.inj H
     go_enter Try.func26, Try.ntmps26
     go_wp2_with (first | ((with_reducible refine gate_dst (N := 2) rfl ?_); refine zb (w := w) 2 #[.int .i64 a0_0, .slice A0_1 l0_1.length c0_1] 43 zB ?_; clear HB; intro gb529 w6 HB BK529 GW529; have GE529 := GW529) | ((with_reducible refine gate_dst (N := 3) rfl ?_); refine ze 3 #[.int .i64 a1_0, .slice A1_1 l1_1.length c1_1] 43 ?_; intro gb530 hg w7 hbox hb; have BK530 := zM (hbox); have GW530 := zM ((by rw [hg]; exact (below_size zB) : w.heap.size ≤ gb530)); have GE530 := zM ((by rw [hg]; exact (below_size zB) : w.heap.size ≤ gb530)); replace HB := zM (below_step zB hb); have NB529_530 := zM ((by rw [hg]; exact Nat.ne_of_lt (blk_lt (g := gb529) (o := .cells #[.int .i64 a0_0, .slice A0_1 l0_1.length c0_1] 43 (0, 0)) (zK BK529.out)) : gb529 ≠ gb530)); have NB530_529 := zM ((by rw [hg]; exact Nat.ne_of_gt (blk_lt (g := gb529) (o := .cells #[.int .i64 a0_0, .slice A0_1 l0_1.length c0_1] 43 (0, 0)) (zK BK529.out)) : gb530 ≠ gb529)); replace BK529 := zM (blk_below (g := gb529) (o := .cells #[.int .i64 a0_0, .slice A0_1 l0_1.length c0_1] 43 (0, 0)) (zK BK529.out) hb); clear hb hbox hg; have hnb8 := NB529_530.out; have hnc8 := NB530_529.out; have hcz9_0 := zy BK529 0; have hcz9_1 := zy BK529 1; have hfz9_0 := blk_frozen BK529.out 0; have hfz9_1 := blk_frozen BK529.out 1; have hcz10_0 := zy BK530 0; have hcz10_1 := zy BK530 1; have hfz10_0 := blk_frozen BK530.out 0; have hfz10_1 := blk_frozen BK530.out 1) | ((with_reducible refine gate_callee (f := 75) rfl ?_); refine zc 14 Try.func75 #[.slice A0_1 l0_1.length c0_1, .slice A1_1 l1_1.length c1_1] ?_; (with_reducible refine (laws_eqIntA2S.calls k _ _ l0_1 _ _ l1_1 true _ ?side1 ?side2 ?side3 ?side4 A4.out).mono ?_); (case side1 => exact zC (Kd.C_below HR0_1.out HB.out)); (case side2 => exact HC0_1.out); (case side3 => exact zC (Kd.C_below HR1_1.out HB.out)); (case side4 => exact HC1_1.out); rintro e w11 ⟨rfl, hb⟩; refine ⟨_, rfl, ?_⟩; replace BK529 := zM (blk_below (g := gb529) (o := .cells #[.int .i64 a0_0, .slice A0_1 l0_1.length c0_1] 43 (0, 0)) (zK BK529.out) hb); replace BK530 := zM (blk_below (g := gb530) (o := .cells #[.int .i64 a1_0, .slice A1_1 l1_1.length c1_1] 43 (0, 0)) (zK BK530.out) hb); replace HB := zM (below_step zB hb); (try clear hb); (try clear hb2); (try clear hk); (try clear hi)))
     go_ret
     exact ⟨by first | rfl | (simp [errW_none, errW_some] <;> rfl) | (simp [*, errW_none, errW_some] <;> rfl), zB⟩
   · replace c5 := Bool.eq_false_iff.mpr c5
     subst c5
     have H1 : (some false) = some r := by rw [if_neg (show ¬ (false = true) by decide)] at H; exact H
     clear H
     have H := H1
     clear H1
     obtain rfl := Option.some.inj H
     go_enter Try.func26, Try.ntmps26
     go_wp2_with (first | ((with_reducible refine gate_dst (N := 2) rfl ?_); refine zb (w := w) 2 #[.int .i64 a0_0, .slice A0_1 l0_1.length c0_1] 43 zB ?_; clear HB; intro gb529 w12 HB BK529 GW529; have GE529 := GW529) | ((with_reducible refine gate_dst (N := 3) rfl ?_); refine ze 3 #[.int .i64 a1_0, .slice A1_1 l1_1.length c1_1] 43 ?_; intro gb530 hg w13 hbox hb; have BK530 := zM (hbox); have GW530 := zM ((by rw [hg]; exact (below_size zB) : w.heap.size ≤ gb530)); have GE530 := zM ((by rw [hg]; exact (below_size zB) : w.heap.size ≤ gb530)); replace HB := zM (below_step zB hb); have NB529_530 := zM ((by rw [hg]; exact Nat.ne_of_lt (blk_lt (g := gb529) (o := .cells #[.int .i64 a0_0, .slice A0_1 l0_1.length c0_1] 43 (0, 0)) (zK BK529.out)) : gb529 ≠ gb530)); have NB530_529 := zM ((by rw [hg]; exact Nat.ne_of_gt (blk_lt (g := gb529) (o := .cells #[.int .i64 a0_0, .slice A0_1 l0_1.length c0_1] 43 (0, 0)) (zK BK529.out)) : gb530 ≠ gb529)); replace BK529 := zM (blk_below (g := gb529) (o := .cells #[.int .i64 a0_0, .slice A0_1 l0_1.length c0_1] 43 (0, 0)) (zK BK529.out) hb); clear hb hbox hg; have hnb14 := NB529_530.out; have hnc14 := NB530_529.out; have hcz15_0 := zy BK529 0; have hcz15_1 := zy BK529 1; have hfz15_0 := blk_frozen BK529.out 0; have hfz15_1 := blk_frozen BK529.out 1; have hcz16_0 := zy BK530 0; have hcz16_1 := zy BK530 1; have hfz16_0 := blk_frozen BK530.out 0; have hfz16_1 := blk_frozen BK530.out 1) | ((with_reducible refine gate_callee (f := 75) rfl ?_); refine zc 14 Try.func75 #[.slice A0_1 l0_1.length c0_1, .slice A1_1 l1_1.length c1_1] ?_; (with_reducible refine (laws_eqIntA2S.calls k _ _ l0_1 _ _ l1_1 false _ ?side1 ?side2 ?side3 ?side4 A4.out).mono ?_); (case side1 => exact zC (Kd.C_below HR0_1.out HB.out)); (case side2 => exact HC0_1.out); (case side3 => exact zC (Kd.C_below HR1_1.out HB.out)); (case side4 => exact HC1_1.out); rintro e w17 ⟨rfl, hb⟩; refine ⟨_, rfl, ?_⟩; replace BK529 := zM (blk_below (g := gb529) (o := .cells #[.int .i64 a0_0, .slice A0_1 l0_1.length c0_1] 43 (0, 0)) (zK BK529.out) hb); replace BK530 := zM (blk_below (g := gb530) (o := .cells #[.int .i64 a1_0, .slice A1_1 l1_1.length c1_1] 43 (0, 0)) (zK BK530.out) hb); replace HB := zM (below_step zB hb); (try clear hb); (try clear hb2); (try clear hk); (try clear hi)))
     go_ret
     exact ⟨by first | rfl | (simp [errW_none, errW_some] <;> rfl) | (simp [*, errW_none, errW_some] <;> rfl), zB⟩
 · rw [if_neg c3] at H
   have c3b0 : (a0_0 == a1_0) = false := beq_eq_false_iff_ne.mpr c3
   have c3b1 : (a0_0 != a1_0) = true := bne_iff_ne.mpr c3
   obtain rfl := Option.some.inj H
   go_enter Try.func26, Try.ntmps26
   go_wp2_with (first | ((with_reducible refine gate_dst (N := 2) rfl ?_); refine zb (w := w) 2 #[.int .i64 a0_0, .slice A0_1 l0_1.length c0_1] 43 zB ?_; clear HB; intro gb529 w18 HB BK529 GW529; have GE529 := GW529) | ((with_reducible refine gate_dst (N := 3) rfl ?_); refine ze 3 #[.int .i64 a1_0, .slice A1_1 l1_1.length c1_1] 43 ?_; intro gb530 hg w19 hbox hb; have BK530 := zM (hbox); have GW530 := zM ((by rw [hg]; exact (below_size zB) : w.heap.size ≤ gb530)); have GE530 := zM ((by rw [hg]; exact (below_size zB) : w.heap.size ≤ gb530)); replace HB := zM (below_step zB hb); have NB529_530 := zM ((by rw [hg]; exact Nat.ne_of_lt (blk_lt (g := gb529) (o := .cells #[.int .i64 a0_0, .slice A0_1 l0_1.length c0_1] 43 (0, 0)) (zK BK529.out)) : gb529 ≠ gb530)); have NB530_529 := zM ((by rw [hg]; exact Nat.ne_of_gt (blk_lt (g := gb529) (o := .cells #[.int .i64 a0_0, .slice A0_1 l0_1.length c0_1] 43 (0, 0)) (zK BK529.out)) : gb530 ≠ gb529)); replace BK529 := zM (blk_below (g := gb529) (o := .cells #[.int .i64 a0_0, .slice A0_1 l0_1.length c0_1] 43 (0, 0)) (zK BK529.out) hb); clear hb hbox hg; have hnb20 := NB529_530.out; have hnc20 := NB530_529.out; have hcz21_0 := zy BK529 0; have hcz21_1 := zy BK529 1; have hfz21_0 := blk_frozen BK529.out 0; have hfz21_1 := blk_frozen BK529.out 1; have hcz22_0 := zy BK530 0; have hcz22_1 := zy BK530 1; have hfz22_0 := blk_frozen BK530.out 0; have hfz22_1 := blk_frozen BK530.out 1))
   go_ret
   exact ⟨by first | rfl | (simp [errW_none, errW_some] <;> rfl) | (simp [*, errW_none, errW_some] <;> rfl), zB⟩

/-! ### laws_markGraph: function 27 -/
def laws_markGraph.f (a0_0 : Int) (l0_1 : List (S64)) (a1 : Int) : Option (Int × (List (S64))) := (laws_markIntA2S.f l0_1 a1).bind fun bt533 => (some (bt533.1, bt533.2))
set_option maxHeartbeats 8000000 in
set_option maxRecDepth 100000 in
theorem laws_markGraph.calls (a0_0 : Int) (P0_1_ : Nat → Prop) (u9000_ : Value) (l0_1 : List (S64)) (a1 : Int) (r1 : Int) (r2 : List (S64)) (w0 w : World) (hB : Below w0.heap.size w0 w) (ho0_1 : Kd.R k64 64 w w0.heap.size P0_1_ u9000_ l0_1) (h : laws_markGraph.f a0_0 l0_1 a1 = some (r1, r2)) :
 Calls Try.prog 27 #[.agg #[.int .i64 a0_0, u9000_], .int .i64 a1] w fun e w' => e = .returned (.int .i64 r1) ∧ Kd.R k64 64 w' w0.heap.size (fun k_ => (P0_1_ k_ ∨ w.heap.size ≤ k_)) u9000_ r2 ∧ Below w0.heap.size w0 w' ∧ Kept w w' (fun k_ => P0_1_ k_) := by
 have hu43 := Try.underlying43
 have HO0_1 := zM (show Kd.R k64 64 w w0.heap.size (fun k_ => (P0_1_ k_ ∨ w.heap.size ≤ k_)) u9000_ l0_1 from Kd.R_mono ho0_1 (fun k_ hk => (.inl hk)))
 have HK := zM (Kept.refl w (fun k_ => P0_1_ k_))
 have HW0 := Aside0.mk hB.size
 have HB := Aside0.mk hB
 clear hB
 have H : ((laws_markIntA2S.f l0_1 a1).bind fun bt533 => (some (bt533.1, bt533.2))) = some (r1, r2) := h
 clear h
 replace H := Option.bind_eq_some_iff.mp H
 obtain ⟨⟨t533, t534⟩, A30, H⟩ := H
 replace H : (some (t533, t534)) = some (r1, r2) := H
 have A3 := Aside0.mk A30
 clear A30
 simp only [Option.some.injEq, Prod.mk.injEq] at H
 obtain ⟨rfl, rfl⟩ := H
 obtain ⟨Ao4, co4, eo4⟩ := Kd.R_slice HO0_1.out
 subst eo4
 go_enter Try.func27, Try.ntmps27
 go_wp2_with (first | ((with_reducible refine gate_dst (N := 2) rfl ?_); refine ze 2 #[.int .i64 a0_0, .slice Ao4 l0_1.length co4] 43 ?_; intro gb532 hg w5 hbox hb; replace HO0_1 := zM (Kd.R_below (zR HO0_1.out) hb); have BK532 := zM (hbox); have GW532 := zM ((by rw [hg]; exact (by first | exact HK.out.1 | exact (show Kept w _ (fun k_ => P0_1_ k_) from by repeat (first | (with_reducible first | exact HK.out | apply Kept.alloc | apply Kept.drewN | apply Kept.drew) | exact HK.out)).1) : w.heap.size ≤ gb532)); replace HK := zM (Kept.below (S := (fun k_ => P0_1_ k_)) (by repeat (first | (with_reducible first | exact HK.out | apply Kept.alloc | apply Kept.drewN | apply Kept.drew) | exact HK.out)) hb); have GE532 := zM ((by rw [hg]; exact (below_size zB) : w0.heap.size ≤ gb532)); replace HB := zM (below_step zB hb); clear hb hbox hg; have hcz6_0 := zy BK532 0; have hcz6_1 := zy BK532 1; have hfz6_0 := blk_frozen BK532.out 0; have hfz6_1 := blk_frozen BK532.out 1) | ((with_reducible refine gate_callee (f := 77) rfl ?_); refine zc 8 Try.func77 #[.slice Ao4 l0_1.length co4, .int .i64 a1] ?_; (with_reducible refine (laws_markIntA2S.calls (fun k_ => some k_ = (.slice Ao4 l0_1.length co4 : Value).ownBlock) (.slice Ao4 l0_1.length co4) l0_1 a1 t533 t534 w0 _ ?side1 ?side2 A3.out).mono ?_); (case side1 => repeat (first | (with_reducible first | exact HB.out | apply below_alloc | apply pw_below_drewN | apply below_drew1 | refine below_set ?_ GE532.out) | exact HB.out)); (case side2 => exact Kd.R_tight rfl HO0_1.out); rintro e w7 ⟨rfl, hy0, hb, hkp⟩; refine ⟨_, rfl, ?_⟩; replace BK532 := zM (blk_kept (zK BK532.out) hkp (fun hs_ => (fun e_ => (Kd.R_ne HO0_1.out BK532.out (by decide)) e_) hs_)); replace HK := zM (Kept.then_ (S := (fun k_ => P0_1_ k_)) (by repeat (first | (with_reducible first | exact HK.out | apply Kept.alloc | apply Kept.drewN | apply Kept.drew | refine Kept.setCell ?_ (.inr GW532.out) _) | exact HK.out)) hkp (fun k_ hs_ => (fun e_ => (HO0_1.out.1 k_ e_.symm)) hs_)); replace HO0_1 := zM (Kd.R_reok rfl hy0 (fun k_ e_ => HO0_1.out.1 k_ e_)); replace HB := zM (hb); (try clear hb); (try clear hkp); (try clear hy0)))
 go_ret
 exact ⟨by first | rfl | (simp [errW_none, errW_some] <;> rfl) | (simp [*, errW_none, errW_some] <;> rfl), by (with_reducible repeat (first | apply Kd.R_alloc | apply Kd.R_drewN | apply Kd.R_drew)); exact HO0_1.out, by repeat (first | (with_reducible first | exact HB.out | apply below_alloc | apply pw_below_drewN | apply below_drew1 | refine below_set ?_ GE532.out) | exact HB.out), by repeat (first | (with_reducible first | exact HK.out | apply Kept.alloc | apply Kept.drewN | apply Kept.drew | refine Kept.setCell ?_ (.inr GW532.out) _) | exact HK.out)⟩

end Go.Proofs.Ythnojbafclglpaa.P
