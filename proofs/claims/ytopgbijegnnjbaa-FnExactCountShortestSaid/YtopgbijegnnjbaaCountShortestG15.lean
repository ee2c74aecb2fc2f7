/- slices.SortFunc at [][]int by a comparison of lists that only reads: the caller's own rows, in order; for every world. -/
import Derived.Test.YtopgbijegnnjbaaCountShortestG5
import Derived.Shelf.SlSortCmp.NoneTotal
import Derived.Handy
import Derived.Test.YtopgbijegnnjbaaCountShortestG6
import Derived.Test.YtopgbijegnnjbaaCountShortestG7
import Derived.Test.YtopgbijegnnjbaaCountShortestG10
import Derived.Sort.OwnSortedInts
namespace Go.Proofs.Ytopgbijegnnjbaa.P
open Go.RowKit Go.Proofs.YtopgbijegnnjbaaW.PrintWords Go.Proofs.YtopgbijegnnjbaaW.PrintLast Go.Proofs.YtopgbijegnnjbaaW.PrintMore
open Go.Sort (SWO Holds PermIn SortedIn putRow putCells mapBlock onCells sorted_unique_holds)
set_option linter.unusedVariables false
set_option linter.unusedSimpArgs false

section
variable {α : Type} [Inhabited α] (enc : α → Value)
theorem heap_sortedG {w : World} {g n : Nat} {os : Array Obj} {cur : Array Value} {e : TypeId} {fr : Nat × Nat} (d : Array α) (hb : w.heap[g]? = some (.cells cur e fr)) :
    (Sort.grow (putRow enc (Sort.ahead w n) g 0 d) os).heap[g]? = some (.cells (putCells enc 0 d cur) e fr) := by
  have hg : g < w.heap.size := (Array.getElem?_eq_some_iff.1 hb).1
  rw [Sort.heap_grow_old _ _ (by simpa using hg)]
  simp [putRow, mapBlock, Sort.ahead, Array.getElem?_modify, hb, onCells]
theorem grownBy_sortedG {w : World} {g n : Nat} {os : Array Obj} (d : Array α) : w.grownBy (Sort.grow (putRow enc (Sort.ahead w n) g 0 d) os) (some g) := by
  refine ⟨rfl, rfl, rfl, by simp, fun k hk hne => ?_⟩
  rw [Sort.heap_grow_old _ _ (by simpa using hk)]
  have : g ≠ k := fun e => hne (by rw [e])
  simp [putRow, mapBlock, Sort.ahead, Array.getElem?_modify, this]
theorem take_putCellsG (cur : Array Value) (ts : List α) (h : ts.length ≤ cur.size) : (putCells enc 0 ts.toArray cur).toList.take ts.length = ts.map enc := by
  apply List.ext_getElem?
  intro j
  by_cases hj : j < ts.length
  · rw [List.getElem?_take_of_lt hj, Array.getElem?_toList]
    simp [putCells, hj, show j < cur.size by omega]
  · rw [List.getElem?_take_eq_none (by omega), List.getElem?_eq_none (by simp; omega)]
theorem ownsRow_sortedG {w : World} {base g cap n m : Nat} {e : TypeId} {os : Array Obj} {cur : Array Value} {ts : List α} (hl : ts.length = m) (hbase : base ≤ g) (hb : w.heap[g]? = some (.cells cur e (0, 0)))
    (h1 : m ≤ cap) (h2 : cap ≤ maxLen) (h3 : cur.size = cap * 1) :
    (Sort.grow (putRow enc (Sort.ahead w n) g 0 ts.toArray) os).ownsRow base e 1 (.slice (some ⟨g, 0, none⟩) m cap) m (ts.map enc) :=
  ⟨by simp [hl], .inr ⟨g, cap, _, rfl, hbase, heap_sortedG enc _ hb, h1, h2, by simp [putCells, h3], by rw [Nat.mul_one, ← hl]; exact take_putCellsG enc cur ts (by omega)⟩⟩
end
end Go.Proofs.Ytopgbijegnnjbaa.P
namespace Go.Proofs.Ytopgbijegnnjbaa.P
open Go.RowKit Go.Proofs.YtopgbijegnnjbaaW.PrintWords Go.Proofs.YtopgbijegnnjbaaW.PrintLast Go.Proofs.YtopgbijegnnjbaaW.PrintMore
set_option linter.unusedVariables false
set_option linter.unusedSimpArgs false

def cmpI (a b : Int) : Int := if a < b then -1 else if a > b then 1 else 0
theorem cmp_Compare_at (a b : Int) : cmp_Compare_int.f a b = some (cmpI a b) := by
  unfold cmp_Compare_int.f cmp_isNaN_int.f cmpI
  simp only [Option.bind_some, bne_self_eq_false, Bool.false_eq_true, if_false]
  split
  · rfl
  · split <;> rfl
def cmpL : List Int → List Int → Int
  | [], [] => 0
  | [], _ :: _ => -1
  | _ :: _, [] => 1
  | a :: x, b :: y => if cmpI a b = 0 then cmpL x y else cmpI a b
theorem wrap_succ {m n : Nat} (h : m < n) (hn : n ≤ 9223372036854775807) : wrap64 ((m : Int) + 1) = ((m + 1 : Nat) : Int) := by unfold wrap64; omega
theorem slices_Compare_loop (l0 l1 : List Int) (hl : Aside0 (l0.length ≤ 9223372036854775807)) (d : Nat) : ∀ (k m : Nat), l0.length - m = d → m ≤ l0.length → m ≤ l1.length → d < k →
    slices_Compare_int_int.l0 k l0 l1 l0 (l0.length : Int) (m : Int) = some (cmpL (l0.drop m) (l1.drop m)) := by
  induction d with
  | zero =>
    intro k m h0 h1 h2 hk
    obtain ⟨k, rfl⟩ : ∃ q, k = q + 1 := ⟨k - 1, by omega⟩
    have e : m = l0.length := by omega
    subst e
    rw [slices_Compare_int_int.l0, if_neg (by omega), List.drop_length]
    by_cases h : l0.length < l1.length
    · rw [if_pos (by omega), List.drop_eq_getElem_cons h]; rfl
    · have e3 : l1.drop l0.length = [] := List.drop_eq_nil_of_le (by omega)
      rw [if_neg (by omega), e3]; rfl
  | succ d ih =>
    intro k m h0 h1 h2 hk
    obtain ⟨k, rfl⟩ : ∃ q, k = q + 1 := ⟨k - 1, by omega⟩
    have hm : m < l0.length := by omega
    rw [slices_Compare_int_int.l0, if_pos (by omega), if_pos (by omega), if_pos (by omega)]
    by_cases h : m < l1.length
    · rw [if_neg (by omega), if_pos (by omega), cmp_Compare_at, Option.bind_some]
      have e0 : rd l0 m = l0[m] := by simp [rd, List.getD_eq_getElem?_getD, List.getElem?_eq_getElem hm]
      have e1 : rd l1 m = l1[m] := by simp [rd, List.getD_eq_getElem?_getD, List.getElem?_eq_getElem h]
      rw [e0, e1, List.drop_eq_getElem_cons hm, List.drop_eq_getElem_cons h, cmpL]
      split
      · rw [wrap_succ hm hl.out]
        exact ih k (m + 1) (by omega) (by omega) (by omega) (by omega)
      · rfl
    · have e3 : l1.drop m = [] := List.drop_eq_nil_of_le (by omega)
      rw [if_pos (by omega), List.drop_eq_getElem_cons hm, e3]; rfl
theorem slices_Compare_at (l0 l1 : List Int) (hl : l0.length ≤ 9223372036854775807) (k : Nat) (hk : l0.length < k) : slices_Compare_int_int.f k l0 l1 = some (cmpL l0 l1) :=
  slices_Compare_loop l0 l1 ⟨hl⟩ l0.length k 0 (by omega) (Nat.zero_le _) (Nat.zero_le _) hk
def cmpP (a b : S50) : Int := if cmpI a.f0 b.f0 = 0 then cmpI a.f1 b.f1 else cmpI a.f0 b.f0
theorem comparePairs_at (a b : S50) (k : Nat) (hk : 3 ≤ k) : impl_comparePairs.f k a.f0 a.f1 b.f0 b.f1 = some (cmpP a b) := by
  obtain ⟨k, rfl⟩ : ∃ q, k = q + 3 := ⟨k - 3, by omega⟩
  unfold impl_comparePairs.f cmp_Or_int.f
  simp only [cmp_Compare_at, Option.bind_some]
  unfold cmpP
  generalize cmpI a.f0 b.f0 = x
  generalize cmpI a.f1 b.f1 = y
  have w1 : wrap64 (0 + 1) = 1 := by unfold wrap64; omega
  have w2 : wrap64 (1 + 1) = 2 := by unfold wrap64; omega
  have r0 : rd [x, y] 0 = x := rfl
  have r1 : rd [x, y] 1 = y := rfl
  have hn : (([x, y] : List Int).length : Int) = 2 := rfl
  rw [hn, cmp_Or_int.l0, if_pos (by omega), if_pos (by omega), hn, if_pos (by omega), r0, w1]
  by_cases h : x = 0
  · rw [if_pos h, if_pos h, cmp_Or_int.l0, if_pos (by omega), if_pos (by omega), hn, if_pos (by omega), r1, w2]
    by_cases h2 : y = 0
    · rw [if_pos h2, cmp_Or_int.l0, if_neg (by omega), h2]; rfl
    · rw [if_neg h2]; rfl
  · rw [if_neg h, if_neg h]; rfl
end Go.Proofs.Ytopgbijegnnjbaa.P
namespace Go.Proofs.Ytopgbijegnnjbaa.P
open Go.RowKit Go.Proofs.YtopgbijegnnjbaaW.PrintWords Go.Proofs.YtopgbijegnnjbaaW.PrintLast Go.Proofs.YtopgbijegnnjbaaW.PrintMore
open Go.Sort (SWO Holds PermIn SortedIn putRow putCells mapBlock onCells)
set_option linter.unusedVariables false
set_option linter.unusedSimpArgs false

def cmpFar (far : List Int) (x y : Int) : Int := cmpI (rd far x) (rd far y)
theorem ltOf_cmpFar (far : List Int) (x y : Int) : ltOf (cmpFar far) x y = decide (rd far x < rd far y) := by
  unfold ltOf cmpFar cmpI
  by_cases h : rd far x < rd far y
  · simp [h]
  · by_cases h2 : rd far y < rd far x
    · simp [h, h2]
    · simp [h, h2]
set_option maxHeartbeats 2000000 in
/-- The comparison that captures a list. -/
theorem farCmp_calls (gf : Nat) (far : List Int) (A : Option Addr) (c : Nat) (x y : Int) (W : World) (hbox : W.heap[gf]? = some (.cells #[.slice A far.length c] 37 (0, 0))) (hf : Kd.C (Kd.int .i64) W A far.length far) (hx : 0 ≤ x ∧ x < (far.length : Int)) (hy : 0 ≤ y ∧ y < (far.length : Int)) :
    Calls Try.prog 22 #[.int .i64 x, .int .i64 y, .pointer (some ⟨gf, 0, none⟩)] W fun e w' => e = .returned (.int .i64 (cmpFar far x y)) ∧ ∃ q os, w' = Sort.grow (W.drewN q) os := by
  obtain ⟨ad, ea, hxa⟩ := Kd.at_int hf x hx.1 hx.2
  subst ea
  obtain ⟨ad2, ea, hya⟩ := Kd.at_int hf y hy.1 hy.2
  cases ea
  obtain ⟨vx, hvx⟩ : ∃ v, rd far x = v := ⟨_, rfl⟩
  obtain ⟨vy, hvy⟩ : ∃ v, rd far y = v := ⟨_, rfl⟩
  obtain ⟨r, hr⟩ : ∃ r, cmpFar far x y = r := ⟨_, rfl⟩
  have HP := zM (show cmp_Compare_int.f vx vy = some r by rw [cmp_Compare_at, ← hr, ← hvx, ← hvy]; rfl)
  rw [hr]
  rw [hvx] at hxa
  rw [hvy] at hya
  have hc := blk_cell hbox 0
  have hcb : W.cell? ⟨gf, 0, none⟩ = some (.slice (some ad) far.length c) := by simpa using blk_cell hbox 0
  have p1 : ((0 : Int) ≤ x) = True := eq_true hx.1
  have q1 : (x < (far.length : Int)) = True := eq_true hx.2
  have p2 : ((0 : Int) ≤ y) = True := eq_true hy.1
  have q2 : (y < (far.length : Int)) = True := eq_true hy.2
  clear hr hvx hvy hbox hf hx hy hc
  go_enter Try.func22, Try.ntmps22
  go_upto_region 1 with (fail)
  (try simp only [Act.put, List.setIfInBounds_toArray, List.set_cons_zero, List.set_cons_succ])
  refine zs (n := 10) (fun w' => w'.cell? ⟨gf, 0, none⟩ = some (.slice (some ad) far.length c) ∧ w'.cell? (ad.add x.toNat) = some (.int .i64 vx) ∧ w'.cell? (ad.add y.toNat) = some (.int .i64 vy)) ⟨hcb, hxa, hya⟩ (fun hHeld => ?_)
  have HG := zM (show ∃ q, W.drew = W.drewN q from ⟨1, rfl⟩)
  clear hcb hxa hya
  generalize W.drew = W1 at HG hHeld ⊢
  refine zl 0 6 hHeld ?_ (hy := by rintro w' ⟨s0, s1, s2⟩; go_simp; with_reducible rfl)
  refine zq 1 7 ?_
  refine zq 2 8 ?_
  refine zl 3 9 hHeld ?_ (hy := by rintro w' ⟨s0, s1, s2⟩; go_simp; with_reducible rfl)
  refine zl 4 10 hHeld ?_ (hy := by rintro w' ⟨s0, s1, s2⟩; go_simp; with_reducible rfl)
  refine zq 5 11 ?_
  refine zq 6 12 ?_
  refine zl 7 13 hHeld ?_ (hy := by rintro w' ⟨s0, s1, s2⟩; go_simp; with_reducible rfl)
  refine zh 8 14 Try.func23 #[.int .i64 vx, .int .i64 vy] (fun K hK => ?_)
  refine (cmp_Compare_int.calls vx vy r _ HP.out).mono ?_
  rintro e w2 ⟨rfl, ⟨n1, rfl⟩⟩
  refine ⟨_, rfl, ?_⟩
  refine hK.out _ _ (by simpa using hHeld) (fun hHeld => ?_)
  clear hK K
  refine zn 14 ?_
  refine zq 9 5 ?_
  refine zx ?_
  (try go_wp2)
  go_ret
  obtain ⟨q, rfl⟩ := HG.out
  exact ⟨rfl, q + n1, #[], by rw [Sort.grow_empty]; simp [World.drewN, Nat.add_assoc]⟩
set_option maxHeartbeats 2000000 in
theorem sortFunc_far (gf : Nat) (far : List Int) (A : Option Addr) (c : Nat) (P0_ PF_ : Nat → Prop) (base : Nat) (u : Value) (l0 : List Int) (w : World) (hbox : w.heap[gf]? = some (.cells #[.slice A far.length c] 37 (0, 0))) (hf : Kd.R (Kd.int .i64) 3 w base PF_ (.slice A far.length c) far) (hap : ∀ k, PF_ k → some k ≠ u.ownBlock) (hap2 : some gf ≠ u.ownBlock)
    (ho0 : Kd.R (Kd.int .i64) 3 w base P0_ u l0) (hlen : l0.length < 4611686018427387904) (hin : ∀ x ∈ l0, 0 ≤ x ∧ x < (far.length : Int)) :
    Calls Try.prog 21 #[u, .func (.func 22) #[] #[.pointer (some ⟨gf, 0, none⟩)]] w fun e w' => e = .returned (.tuple #[]) ∧ ∃ l1, l1.Perm l0 ∧ l1.Pairwise (fun a b => rd far a ≤ rd far b) ∧ Kd.R (Kd.int .i64) 3 w' base P0_ u l1 ∧ w.grownBy w' u.ownBlock := by
  have hown := Kd.own_of_R (enc := Value.int .i64) ho0
  rcases hown.2 with ⟨hnil, hz⟩ | ⟨gb, cap, cur, rfl, hbase, hb, h1, h2, h3, h4⟩
  · have h0 : l0 = [] := List.eq_nil_of_length_eq_zero hz
    subst h0
    subst hnil
    refine (Try.slices_SortFunc_none (α := Int) none 0 _ w).mono ?_
    rintro e w' ⟨rfl, rfl⟩
    exact ⟨rfl, [], List.Perm.refl _, List.Pairwise.nil, ho0, ⟨rfl, rfl, rfl, Nat.le_refl _, fun k hk _ => rfl⟩⟩
  have hgl : gb < w.heap.size := (Array.getElem?_eq_some_iff.1 hb).1
  by_cases hn : 0 < l0.length
  case neg =>
    have h0 : l0 = [] := List.eq_nil_of_length_eq_zero (by omega)
    subst h0
    refine (Try.slices_SortFunc_none (α := Int) (some ⟨gb, 0, none⟩) cap _ w).mono ?_
    rintro e w' ⟨rfl, rfl⟩
    exact ⟨rfl, [], List.Perm.refl _, List.Pairwise.nil, ho0, ⟨rfl, rfl, rfl, Nat.le_refl _, fun k hk _ => rfl⟩⟩
  have hfn : 0 < far.length := by
    have := hin l0[0] (List.getElem_mem hn)
    omega
  haveI : Inhabited (Fin far.length) := ⟨⟨0, hfn⟩⟩
  obtain ⟨enc, henc⟩ : ∃ enc : Fin far.length → Value, enc = fun i => .int .i64 (i.val : Int) := ⟨_, rfl⟩
  obtain ⟨d0, hd0⟩ : ∃ d0 : List (Fin far.length), d0.map (fun i => (i.val : Int)) = l0 := by
    refine ⟨l0.attach.map (fun x => ⟨x.1.toNat, by have := hin x.1 x.2; omega⟩), ?_⟩
    rw [List.map_map]
    conv => rhs; rw [← List.attach_map_subtype_val l0]
    refine List.map_congr_left (fun x _ => ?_)
    have := hin x.1 x.2
    show ((x.1.toNat : Nat) : Int) = x.1
    omega
  have hd0l : d0.length = l0.length := by rw [← hd0, List.length_map]
  have hencmap : ∀ (d : List (Fin far.length)), d.map enc = (d.map (fun i => (i.val : Int))).map (Value.int .i64) := fun d => by rw [henc, List.map_map]; rfl
  have hone : OneCell enc := fun i => by rw [henc]; rfl
  have hcur : cur.toList.take l0.length = d0.map enc := by
    rw [hencmap, hd0]
    have := h4
    rw [Nat.mul_one] at this
    simpa [encs] using this
  have hH : Holds enc w gb 0 d0.toArray := by
    intro j hj
    have hj' : j < d0.length := by simpa using hj
    refine ⟨?_, by simp [World.frozen?, hb]⟩
    have h5 : (cur.toList.take l0.length)[j]? = (d0.map enc)[j]? := by rw [hcur]
    rw [List.getElem?_take_of_lt (by omega), Array.getElem?_toList, List.getElem?_map, List.getElem?_eq_getElem hj'] at h5
    rw [getElem!_pos d0.toArray j hj]
    simp [World.cell?, hb, h5]
  have hne : gf ≠ gb := fun e => hap2 (by rw [e]; rfl)
  have hcl : CmpLays1 Try.prog 22 #[.pointer (some ⟨gf, 0, none⟩)] enc (fun i j => cmpFar far (i.val : Int) (j.val : Int)) gb 0 d0.toArray.size w := by
    intro m os dk _ x y
    have hgr := grownBy_sortedG enc (w := w) (g := gb) (n := m) (os := os) dk
    have hR2 := Kd.R_grown hf hgr (fun k hk => by have := hap k hk; simpa [Value.ownBlock] using this)
    have hb2 := (hgr.block gf (Array.getElem?_eq_some_iff.1 hbox).1 (by simpa using hne)).trans hbox
    have h6 := farCmp_calls gf far A c (x.val : Int) (y.val : Int) _ hb2 (Kd.R_reads' hR2).2.2 ⟨by omega, by have := x.isLt; omega⟩ ⟨by omega, by have := y.isLt; omega⟩
    subst henc
    exact h6
  have e : ∀ i j : Fin far.length, ltOf (fun i j : Fin far.length => cmpFar far (i.val : Int) (j.val : Int)) i j = decide (rd far (i.val : Int) < rd far (j.val : Int)) := fun i j => ltOf_cmpFar far _ _
  have hO' : SWO (ltOf (fun i j : Fin far.length => cmpFar far (i.val : Int) (j.val : Int))) := by
    refine ⟨fun x => ?_, fun x y z => ?_, fun x y z => ?_⟩
    · rw [e]; simp
    · rw [e, e, e]; simp only [decide_eq_true_eq]; omega
    · rw [e, e, e]; simp only [decide_eq_false_iff_not]; omega
  have hds0 : d0.toArray.size = l0.length := by simpa using hd0l
  have hcon := Try.slices_SortFunc enc hone _ hO' 22 #[.pointer (some ⟨gf, 0, none⟩)] gb 0 cap d0.toArray w (enters_of Try.func22 (by kernel_rfl) rfl) hcl hH hgl (by rw [hds0]; exact hlen)
  rw [hds0] at hcon
  refine hcon.mono ?_
  rintro e' w' ⟨rfl, d', nn, os, hp, hs, rfl⟩
  have hgr := grownBy_sortedG enc (w := w) (g := gb) (n := nn) (os := os) d'
  have hds : d'.size = l0.length := by rw [hp.1, hds0]
  have hdl : d'.toList.length = l0.length := by rw [Array.length_toList, hds]
  have hperm : d'.toList.Perm d0 := by
    have h5 := hp.2.2
    rw [Array.extract_eq_self_of_le (by rw [hds]; exact Nat.le_refl _), Array.extract_eq_self_of_le (by rw [hds0]; exact Nat.le_refl _)] at h5
    simpa using h5
  refine ⟨rfl, d'.toList.map (fun i => (i.val : Int)), by rw [← hd0]; exact hperm.map _, ?_, ?_, hgr⟩
  · rw [List.pairwise_map, List.pairwise_iff_getElem]
    intro i j hi hj hij
    have h7 := hs i j (Nat.zero_le _) hij (by omega)
    rw [getElem!_pos d' j (by rw [hds]; omega), getElem!_pos d' i (by rw [hds]; omega), e] at h7
    have h8 := of_decide_eq_false h7
    simp only [Array.getElem_toList]
    omega
  · refine Kd.R_of_own (enc := Value.int .i64) ?_ ho0.1
    have h9 := ownsRow_sortedG enc (w := w) (n := nn) (os := os) (ts := d'.toList) hdl hbase hb h1 h2 h3
    rw [hencmap] at h9
    have h10 : (sortWorld enc w gb 0 nn d' os).ownsRow base 3 1 (.slice (some ⟨gb, 0, none⟩) l0.length cap) l0.length ((d'.toList.map (fun i => (i.val : Int))).map (Value.int .i64)) := h9
    rw [List.length_map, hdl]
    exact h10
end Go.Proofs.Ytopgbijegnnjbaa.P
namespace Go.Proofs.Ytopgbijegnnjbaa.P
open Go.RowKit Go.Proofs.YtopgbijegnnjbaaW.PrintWords Go.Proofs.YtopgbijegnnjbaaW.PrintLast Go.Proofs.YtopgbijegnnjbaaW.PrintMore
set_option linter.unusedVariables false
set_option linter.unusedSimpArgs false

def sortL (l : List Int) : List Int := l.mergeSort fun x y => decide (x ≤ y)
def slices_Sort_int_int.f (l : List Int) : Option (List Int) := if l.length < 4611686018427387904 then some (sortL l) else none
theorem sortL_len (l : List Int) : (sortL l).length = l.length := List.length_mergeSort l
theorem slices_Sort_int_int.calls (P0_ : Nat → Prop) (u9000_ : Value) (l0 r : List Int) (w0 w : World) (hB : Below w0.heap.size w0 w) (ho0 : Kd.R (Kd.int .i64) 3 w w0.heap.size P0_ u9000_ l0) (h : slices_Sort_int_int.f l0 = some r) :
    Calls Try.prog 35 #[u9000_] w fun e w' => e = .returned (.tuple #[]) ∧ Kd.R (Kd.int .i64) 3 w' w0.heap.size (fun k_ => (P0_ k_ ∨ w.heap.size ≤ k_)) u9000_ r ∧ Below w0.heap.size w0 w' ∧ Kept w w' (fun k_ => P0_ k_) := by
  unfold slices_Sort_int_int.f at h
  by_cases hl : l0.length < 4611686018427387904
  · rw [if_pos hl] at h
    obtain rfl := Option.some.inj h
    have hown := Kd.own_of_R (enc := Value.int .i64) ho0
    rcases hown.2 with ⟨hnil, hz⟩ | ⟨g, cap, cur, rfl, hbase, hb, h1, h2, h3, h4⟩
    · have h0 : l0 = [] := by
        cases l0 with
        | nil => rfl
        | cons x t => simp at hz
      subst h0
      subst hnil
      refine (Try.slices_Sort_int_none none 0 w).mono ?_
      rintro e w' ⟨rfl, rfl⟩
      refine ⟨rfl, ?_, hB, Kept.refl _ _⟩
      rw [show sortL [] = [] from by simp [sortL]]
      exact Kd.R_mono ho0 (fun k hk => .inl hk)
    · have hgl : g < w.heap.size := (Array.getElem?_eq_some_iff.1 hb).1
      refine (Try.slices_Sort_int g 0 cap l0 w (holds_of_blockI hb (by simpa [encs] using h4)) hgl hl).mono ?_
      rintro e w' ⟨rfl, nn, os, rfl⟩
      have hgr := grownBy_sortedI (w := w) (g := g) (n := nn) (os := os) (sortL l0).toArray
      refine ⟨rfl, ?_, hB.grown hgr hB.size (fun k hk => by injection hk with hk; omega), Kept.of_grown hgr (Kept.refl w _) (fun k hk => .inl (ho0.1 k hk))⟩
      refine Kd.R_of_own (enc := Value.int .i64) ?_ (fun k hk => .inl (ho0.1 k hk))
      rw [sortL_len]
      exact ownsRow_sortedI (sortL_len l0) hbase hb h1 h2 h3
  · rw [if_neg hl] at h
    cases h

end Go.Proofs.Ytopgbijegnnjbaa.P
